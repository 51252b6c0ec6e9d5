/- Walks, turned from a print. -/
import Derived.Test.YtgfacdhkamphiaaOFnActsx0
import Derived.Test.YtgfacdhkamphiaaOFnActsx6
import Derived.Test.YtgfacdhkamphiaaOFnActsx7
import Derived.Test.YtgfacdhkamphiaaOFnActsx8
import Derived.Test.YtgfacdhkamphiaaOFnActsx9
namespace Go.Proofs.Ytgfacdhkamphiaa.PFnActs
open Go.RowKit Go.Proofs.YtgfacdhkamphiaaW.PrintWords Go.Proofs.YtgfacdhkamphiaaW.PrintLast Go.Proofs.YtgfacdhkamphiaaW.PrintMore
attribute [local go_sem] max2_int min2_int max_two min_two max_three min_three max_four min_four
set_option linter.unusedVariables false
set_option linter.unusedSimpArgs false

/-! ### spec_DoAct: function 36 -/
mutual
def spec_DoAct.j0 : Nat → Bool → List (S45) → Int → ByteArray → ByteArray → ByteArray → Option ((List (S45)) × Bool)
 | 0,_,_,_,_,_,_ => none
 | k + 1,x37,x154000,x155000,x155001,x155002,x155003 => if x37 = true then (some (([] : List (S45)),false)) else ((spec_l03At.f k x154000 x155001).bind fun t158 => (if t158 ≥ 0 then (if 0 ≤ t158 then (if t158 < (x154000.length : Int) then (spec_DoAct.j1 k t158 x154000 x155000 x155001 x155002 x155003 ((rd_T45 x154000 t158).f0) ((rd_T45 x154000 t158).f1) ((rd_T45 x154000 t158).f2)) else (none)) else (none)) else (spec_DoAct.j1 k t158 x154000 x155000 x155001 x155002 x155003 x155001 (⟨#[]⟩ : ByteArray) 0)))
def spec_DoAct.j1 : Nat → Int → List (S45) → Int → ByteArray → ByteArray → ByteArray → ByteArray → ByteArray → Int → Option ((List (S45)) × Bool)
 | 0,_,_,_,_,_,_,_,_,_ => none
 | k + 1,x6,x154000,x155000,x155001,x155002,x155003,x160000,x160001,x160002 => if x155000 = 1 then (if x160001.size + x155002.size ≤ 9223372036854775807 then ((spec_l03Put.f k x154000 x160000 (x160001 ++ x155002) x160002).bind fun t162 => ((spec_DiskOk.f k t162).bind fun t165 => (if t165 = true then (some (t162,true)) else (some (([] : List (S45)),false))))) else (none)) else (if x6 < 0 then (some (([] : List (S45)),false)) else (if x155000 = 2 then ((spec_l03Put.f k x154000 x160000 x160001 (x160001.size : Int)).bind fun t166 => ((spec_DiskOk.f k t166).bind fun t169 => (if t169 = true then (some (t166,true)) else (some (([] : List (S45)),false))))) else (if x155000 = 3 then (if x160002 < (x160001.size : Int) then (spec_DoAct.j2 k true x154000 x155000 x155001 x155002 x155003 x160000 x160001 x160002) else (if x155003.toList = x155001.toList then (spec_DoAct.j2 k true x154000 x155000 x155001 x155002 x155003 x160000 x160001 x160002) else ((spec_l03Name.f x155003).bind fun t170 => (spec_DoAct.j2 k (!t170) x154000 x155000 x155001 x155002 x155003 x160000 x160001 x160002)))) else (if x155000 = 4 then ((spec_l03Without.f k x154000 x155001).bind fun t178 => ((spec_DiskOk.f k t178).bind fun t181 => (if t181 = true then (some (t178,true)) else (some (([] : List (S45)),false))))) else (some (([] : List (S45)),false))))))
def spec_DoAct.j2 : Nat → Bool → List (S45) → Int → ByteArray → ByteArray → ByteArray → ByteArray → ByteArray → Int → Option ((List (S45)) × Bool)
 | 0,_,_,_,_,_,_,_,_,_ => none
 | k + 1,x105,x154000,x155000,x155001,x155002,x155003,x160000,x160001,x160002 => if x105 = true then (some (([] : List (S45)),false)) else ((spec_l03Without.f k x154000 x155001).bind fun t171 => ((spec_l03Put.f k t171 x155003 x160001 x160002).bind fun t174 => ((spec_DiskOk.f k t174).bind fun t177 => (if t177 = true then (some (t174,true)) else (some (([] : List (S45)),false))))))
end
def spec_DoAct.f (k : Nat) (l0_0 : List (S45)) (a1_0 : Int) (a1_1 : ByteArray) (a1_2 : ByteArray) (a1_3 : ByteArray) : Option ((List (S45)) × Bool):=(spec_DiskOk.f k l0_0).bind fun t156 => (if t156 = true then ((spec_l03Name.f a1_1).bind fun t157 => (if t157 = true then (if a1_0 = 3 then (if a1_0 = 1 then (spec_DoAct.j0 k false l0_0 a1_0 a1_1 a1_2 a1_3) else (spec_DoAct.j0 k (a1_2.toList != ([] : List UInt8)) l0_0 a1_0 a1_1 a1_2 a1_3)) else (if a1_3.toList = ([] : List UInt8) then (if a1_0 = 1 then (spec_DoAct.j0 k false l0_0 a1_0 a1_1 a1_2 a1_3) else (spec_DoAct.j0 k (a1_2.toList != ([] : List UInt8)) l0_0 a1_0 a1_1 a1_2 a1_3)) else (spec_DoAct.j0 k true l0_0 a1_0 a1_1 a1_2 a1_3))) else (spec_DoAct.j0 k true l0_0 a1_0 a1_1 a1_2 a1_3))) else (spec_DoAct.j0 k true l0_0 a1_0 a1_1 a1_2 a1_3))
theorem spec_DoAct.mono_l : ∀ k,(∀ y0 y1 y2 y3 y4 y5,LeO (spec_DoAct.j0 k y0 y1 y2 y3 y4 y5) (spec_DoAct.j0 (k + 1) y0 y1 y2 y3 y4 y5)) ∧ (∀ y0 y1 y2 y3 y4 y5 y6 y7 y8,LeO (spec_DoAct.j1 k y0 y1 y2 y3 y4 y5 y6 y7 y8) (spec_DoAct.j1 (k + 1) y0 y1 y2 y3 y4 y5 y6 y7 y8)) ∧ (∀ y0 y1 y2 y3 y4 y5 y6 y7 y8,LeO (spec_DoAct.j2 k y0 y1 y2 y3 y4 y5 y6 y7 y8) (spec_DoAct.j2 (k + 1) y0 y1 y2 y3 y4 y5 y6 y7 y8))
 | 0 => ⟨fun _ _ _ _ _ _ r h => by simp [spec_DoAct.j0] at h,fun _ _ _ _ _ _ _ _ _ r h => by simp [spec_DoAct.j1] at h,fun _ _ _ _ _ _ _ _ _ r h => by simp [spec_DoAct.j2] at h⟩
 | k + 1 => by
  obtain ⟨ih0,ih1,ih2⟩:=spec_DoAct.mono_l k
  refine ⟨?_,?_,?_⟩
  intro y0 y1 y2 y3 y4 y5;unfold spec_DoAct.j0;rotate_left
  intro y0 y1 y2 y3 y4 y5 y6 y7 y8;unfold spec_DoAct.j1;rotate_left
  intro y0 y1 y2 y3 y4 y5 y6 y7 y8;unfold spec_DoAct.j2;rotate_left
  all_goals repeat' first
  | (with_reducible exact ih0 _ _ _ _ _ _)
  | (with_reducible exact ih1 _ _ _ _ _ _ _ _ _)
  | (with_reducible exact ih2 _ _ _ _ _ _ _ _ _)
  | (with_reducible exact spec_DiskOk.mono _ _)
  | (with_reducible exact spec_l03At.mono _ _ _)
  | (with_reducible exact spec_l03Put.mono _ _ _ _ _)
  | (with_reducible exact spec_l03Without.mono _ _ _)
  | (with_reducible exact LeO.refl _)
  | (with_reducible exact LeO.none _)
  | (with_reducible refine LeO.ite ?_ ?_)
  | (with_reducible refine LeO.bind ?_ (fun _ => ?_))
theorem spec_DoAct.mono : ∀ a0 a1 a2 a3 a4 k,LeO (spec_DoAct.f k a0 a1 a2 a3 a4) (spec_DoAct.f (k + 1) a0 a1 a2 a3 a4):=by
 intro a0 a1 a2 a3 a4 k
 obtain ⟨ih0,ih1,ih2⟩:=spec_DoAct.mono_l k
 unfold spec_DoAct.f
 repeat' first
  | (with_reducible exact ih0 _ _ _ _ _ _)
  | (with_reducible exact ih1 _ _ _ _ _ _ _ _ _)
  | (with_reducible exact ih2 _ _ _ _ _ _ _ _ _)
  | (with_reducible exact spec_DiskOk.mono _ _)
  | (with_reducible exact spec_l03At.mono _ _ _)
  | (with_reducible exact spec_l03Put.mono _ _ _ _ _)
  | (with_reducible exact spec_l03Without.mono _ _ _)
  | (with_reducible exact LeO.refl _)
  | (with_reducible exact LeO.none _)
  | (with_reducible refine LeO.ite ?_ ?_)
  | (with_reducible refine LeO.bind ?_ (fun _ => ?_))
set_option maxHeartbeats 8000000 in
set_option maxRecDepth 100000 in
theorem spec_DoAct.calls (k : Nat) (A0_0 : Option Addr) (c0_0 : Nat) (l0_0 : List (S45)) (a1_0 : Int) (a1_1 : ByteArray) (a1_2 : ByteArray) (a1_3 : ByteArray) (r1 : List (S45)) (r2 : Bool) (w : World) (hr0_0 : Kd.C k45 w A0_0 l0_0.length l0_0) (hc0_0 : l0_0.length ≤ c0_0) (h : spec_DoAct.f k l0_0 a1_0 a1_1 a1_2 a1_3 = some (r1,r2)) :
  Calls Try.prog 36 #[.agg #[.slice A0_0 l0_0.length c0_0],.agg #[.int .i64 a1_0,.string a1_1,.string a1_2,.string a1_3]] w fun e w' => ∃ v0_ : Value,e = .returned (.tuple #[.agg #[v0_],.bool r2]) ∧ Kd.R k45 45 w' w.heap.size (fun _ => True) v0_ r1 ∧ Below w.heap.size w w':=by
 have hu30:=Try.underlying30
 have hu55:=Try.underlying55
 have hu45:=Try.underlying45
 have HR0_0:=Aside0.mk hr0_0
 have HC0_0:=Aside0.mk hc0_0
 clear hr0_0 hc0_0
 have HB:=Aside0.mk (Below.refl w.heap.size w)
 have H : ((spec_DiskOk.f k l0_0).bind fun t156 => (if t156 = true then ((spec_l03Name.f a1_1).bind fun t157 => (if t157 = true then (if a1_0 = 3 then (if a1_0 = 1 then (spec_DoAct.j0 k false l0_0 a1_0 a1_1 a1_2 a1_3) else (spec_DoAct.j0 k (a1_2.toList != ([] : List UInt8)) l0_0 a1_0 a1_1 a1_2 a1_3)) else (if a1_3.toList = ([] : List UInt8) then (if a1_0 = 1 then (spec_DoAct.j0 k false l0_0 a1_0 a1_1 a1_2 a1_3) else (spec_DoAct.j0 k (a1_2.toList != ([] : List UInt8)) l0_0 a1_0 a1_1 a1_2 a1_3)) else (spec_DoAct.j0 k true l0_0 a1_0 a1_1 a1_2 a1_3))) else (spec_DoAct.j0 k true l0_0 a1_0 a1_1 a1_2 a1_3))) else (spec_DoAct.j0 k true l0_0 a1_0 a1_1 a1_2 a1_3))) = some (r1,r2):=h
 clear h
 have HC3:=Aside0.mk H
 clear H
 go_enter Try.func36,Try.ntmps36
 go_upto_region 1 with (first | ((with_reducible refine gate_dst (N:=2) rfl ?_);refine zy0 (cs:=#[.slice A0_0 l0_0.length c0_0]) (t:=30) ?_;intro gb153 hg w4 hbox hb;have BK153:=Aside0.mk hbox;have GW153:=zz0 hg HB;have GE153:=zz0 hg HB;replace HB:=zs0 HB hb;clear hb hbox hg) | ((with_reducible refine gate_dst (N:=3) rfl ?_);refine zy0 (cs:=#[.int .i64 a1_0,.string a1_1,.string a1_2,.string a1_3]) (t:=55) ?_;intro gb154 hg w5 hbox hb;have BK154:=Aside0.mk hbox;have GW154:=zz0 hg HB;have GE154:=zz0 hg HB;replace HB:=zs0 HB hb;have NB153_154:=zl0 hg BK153;have NB154_153:=zg0 hg BK153;replace BK153:=zb0 BK153 hb;clear hb hbox hg) | ((with_reducible refine gate_dst (N:=4) rfl ?_);refine zy0 (cs:=#[.slice none 0 0]) (t:=30) ?_;intro gb155 hg w6 hbox hb;have BK155:=Aside0.mk hbox;have GW155:=zz0 hg HB;have GE155:=zz0 hg HB;replace HB:=zs0 HB hb;have NB153_155:=zl0 hg BK153;have NB155_153:=zg0 hg BK153;replace BK153:=zb0 BK153 hb;have NB154_155:=zl0 hg BK154;have NB155_154:=zg0 hg BK154;replace BK154:=zb0 BK154 hb;clear hb hbox hg))
 (try simp only [Act.put,qA0,qB0,qC0])
 go_cut [37] (fun v37 wc => ∃ (kq : Nat) (x37_2 : Bool),v37 = .bool x37_2 ∧ Aside0 (spec_DoAct.j0 kq x37_2 l0_0 a1_0 a1_1 a1_2 a1_3 = some (r1,r2)) ∧ Aside0 (kq ≤ k) ∧ Aside0 (wc.heap[gb153]? = some (.cells #[(.slice A0_0 l0_0.length c0_0)] 30 (0,0))) ∧ Aside0 (wc.heap[gb154]? = some (.cells #[.int .i64 a1_0,.string a1_1,.string a1_2,.string a1_3] 55 (0,0))) ∧ Aside0 (wc.heap[gb155]? = some (.cells #[(.slice none 0 0)] 30 (0,0))) ∧ Aside0 (Below w.heap.size w wc))
 case first =>
  have H:=HC3.out
  clear HC3
  obtain ⟨t156,A7,H⟩:=bX0 H
  by_cases c8 : t156 = true
  ·subst c8
   rw [if_pos rfl] at H
   obtain ⟨t157,A9,H⟩:=bX0 H
   by_cases c10 : t157 = true
   ·subst c10
    rw [if_pos rfl] at H
    by_cases c11 : a1_0 = 3
    ·rw [if_pos c11] at H
     have c11b0 : (a1_0 == 3) = true:=beq_iff_eq.mpr c11
     have c11b1 : (a1_0 != 3) = false:=bne_eq_false_iff_eq.mpr c11
     clear c11
     (first | rw [c11b0] | (simp only [i64_w,i32_w];rw [c11b0]) | skip)
     by_cases c12 : a1_0 = 1
     ·rw [if_pos c12] at H
      have c12b0 : (a1_0 == 1) = true:=beq_iff_eq.mpr c12
      have c12b1 : (a1_0 != 1) = false:=bne_eq_false_iff_eq.mpr c12
      clear c12
      have H':=Aside0.mk H
      clear H
      obtain ⟨_,_⟩:=zn0 NB153_154
      obtain ⟨_,_⟩:=zn0 NB153_155
      obtain ⟨_,_⟩:=zd01 BK153
      go_wp2_with (first | ((with_reducible refine gate_callee (f:=68) rfl ?_);refine goesL_ (some 10) rfl rfl Try.func68 (by kernel_rfl) rfl #[.agg #[.slice A0_0 l0_0.length c0_0]] rfl zM0 ?_;(with_reducible refine (spec_DiskOk.calls k _ _ l0_0 true _ ?side1 ?side2 A7.out).mono ?_);(case side1 => exact zA0 ((Kd.C_below HR0_0.out HB.out)));(case side2 => exact HC0_0.out);rintro e w16 ⟨rfl,hb⟩;refine ⟨_,rfl,?_⟩;replace BK153:=zb0 BK153 hb;replace BK154:=zb0 BK154 hb;replace BK155:=zb0 BK155 hb;replace HB:=zs0 HB hb;(try clear hb);obtain ⟨_,_⟩:=zn0 NB154_155;obtain ⟨_,_,_,_,_,_,_,_⟩:=zd04 BK154) | (go_at_call 81;(with_reducible refine (spec_l03Name.calls a1_1 true _ A9.out).mono ?_);rintro e w' ⟨rfl,⟨nd,rfl⟩⟩))
      go_meet
      case rel => exact ⟨_,(false),zE0,H',⟨by first | omega | exact Nat.le_refl _⟩,⟨zK0 BK153.out⟩,⟨zK0 BK154.out⟩,⟨zK0 BK155.out⟩,⟨zY0 HB.out⟩⟩
     ·rw [if_neg c12] at H
      have c12b0 : (a1_0 == 1) = false:=beq_eq_false_iff_ne.mpr c12
      have c12b1 : (a1_0 != 1) = true:=bne_iff_ne.mpr c12
      have H':=Aside0.mk H
      clear H
      obtain ⟨_,_⟩:=zn0 NB153_154
      obtain ⟨_,_⟩:=zn0 NB153_155
      obtain ⟨_,_⟩:=zd01 BK153
      go_wp2_with (first | ((with_reducible refine gate_callee (f:=68) rfl ?_);refine goesL_ (some 10) rfl rfl Try.func68 (by kernel_rfl) rfl #[.agg #[.slice A0_0 l0_0.length c0_0]] rfl zM0 ?_;(with_reducible refine (spec_DiskOk.calls k _ _ l0_0 true _ ?side1 ?side2 A7.out).mono ?_);(case side1 => exact zA0 ((Kd.C_below HR0_0.out HB.out)));(case side2 => exact HC0_0.out);rintro e w22 ⟨rfl,hb⟩;refine ⟨_,rfl,?_⟩;replace BK153:=zb0 BK153 hb;replace BK154:=zb0 BK154 hb;replace BK155:=zb0 BK155 hb;replace HB:=zs0 HB hb;(try clear hb);obtain ⟨_,_⟩:=zn0 NB154_155;obtain ⟨_,_,_,_,_,_,_,_⟩:=zd04 BK154) | (go_at_call 81;(with_reducible refine (spec_l03Name.calls a1_1 true _ A9.out).mono ?_);rintro e w' ⟨rfl,⟨nd,rfl⟩⟩))
      go_meet
      case rel => exact ⟨_,((a1_2.toList != ([] : List UInt8))),(by generalize a1_2.toList = z_;cases z_ <;> first | rfl | (simp;done) | (simp [*];done)),H',⟨by first | omega | exact Nat.le_refl _⟩,⟨zK0 BK153.out⟩,⟨zK0 BK154.out⟩,⟨zK0 BK155.out⟩,⟨zY0 HB.out⟩⟩
    ·rw [if_neg c11] at H
     have c11b0 : (a1_0 == 3) = false:=beq_eq_false_iff_ne.mpr c11
     have c11b1 : (a1_0 != 3) = true:=bne_iff_ne.mpr c11
     (first | rw [c11b0] | (simp only [i64_w,i32_w];rw [c11b0]) | skip)
     by_cases c25 : a1_3.toList = ([] : List UInt8)
     ·rw [if_pos c25] at H
      have c25b0 : (a1_3.toList == ([] : List UInt8)) = true:=beq_iff_eq.mpr c25
      have c25b1 : (a1_3.toList != ([] : List UInt8)) = false:=bne_eq_false_iff_eq.mpr c25
      clear c25
      by_cases c26 : a1_0 = 1
      ·rw [if_pos c26] at H
       have c26b0 : (a1_0 == 1) = true:=beq_iff_eq.mpr c26
       have c26b1 : (a1_0 != 1) = false:=bne_eq_false_iff_eq.mpr c26
       clear c26
       have H':=Aside0.mk H
       clear H
       obtain ⟨_,_⟩:=zn0 NB153_154
       obtain ⟨_,_⟩:=zn0 NB153_155
       obtain ⟨_,_⟩:=zd01 BK153
       go_wp2_with (first | ((with_reducible refine gate_callee (f:=68) rfl ?_);refine goesL_ (some 10) rfl rfl Try.func68 (by kernel_rfl) rfl #[.agg #[.slice A0_0 l0_0.length c0_0]] rfl zM0 ?_;(with_reducible refine (spec_DiskOk.calls k _ _ l0_0 true _ ?side1 ?side2 A7.out).mono ?_);(case side1 => exact zA0 ((Kd.C_below HR0_0.out HB.out)));(case side2 => exact HC0_0.out);rintro e w30 ⟨rfl,hb⟩;refine ⟨_,rfl,?_⟩;replace BK153:=zb0 BK153 hb;replace BK154:=zb0 BK154 hb;replace BK155:=zb0 BK155 hb;replace HB:=zs0 HB hb;(try clear hb);obtain ⟨_,_⟩:=zn0 NB154_155;obtain ⟨_,_,_,_,_,_,_,_⟩:=zd04 BK154) | (go_at_call 81;(with_reducible refine (spec_l03Name.calls a1_1 true _ A9.out).mono ?_);rintro e w' ⟨rfl,⟨nd,rfl⟩⟩))
       go_meet
       case rel => exact ⟨_,(false),zE0,H',⟨by first | omega | exact Nat.le_refl _⟩,⟨zK0 BK153.out⟩,⟨zK0 BK154.out⟩,⟨zK0 BK155.out⟩,⟨zY0 HB.out⟩⟩
      ·rw [if_neg c26] at H
       have c26b0 : (a1_0 == 1) = false:=beq_eq_false_iff_ne.mpr c26
       have c26b1 : (a1_0 != 1) = true:=bne_iff_ne.mpr c26
       have H':=Aside0.mk H
       clear H
       obtain ⟨_,_⟩:=zn0 NB153_154
       obtain ⟨_,_⟩:=zn0 NB153_155
       obtain ⟨_,_⟩:=zd01 BK153
       go_wp2_with (first | ((with_reducible refine gate_callee (f:=68) rfl ?_);refine goesL_ (some 10) rfl rfl Try.func68 (by kernel_rfl) rfl #[.agg #[.slice A0_0 l0_0.length c0_0]] rfl zM0 ?_;(with_reducible refine (spec_DiskOk.calls k _ _ l0_0 true _ ?side1 ?side2 A7.out).mono ?_);(case side1 => exact zA0 ((Kd.C_below HR0_0.out HB.out)));(case side2 => exact HC0_0.out);rintro e w36 ⟨rfl,hb⟩;refine ⟨_,rfl,?_⟩;replace BK153:=zb0 BK153 hb;replace BK154:=zb0 BK154 hb;replace BK155:=zb0 BK155 hb;replace HB:=zs0 HB hb;(try clear hb);obtain ⟨_,_⟩:=zn0 NB154_155;obtain ⟨_,_,_,_,_,_,_,_⟩:=zd04 BK154) | (go_at_call 81;(with_reducible refine (spec_l03Name.calls a1_1 true _ A9.out).mono ?_);rintro e w' ⟨rfl,⟨nd,rfl⟩⟩))
       go_meet
       case rel => exact ⟨_,((a1_2.toList != ([] : List UInt8))),(by generalize a1_2.toList = z_;cases z_ <;> first | rfl | (simp;done) | (simp [*];done)),H',⟨by first | omega | exact Nat.le_refl _⟩,⟨zK0 BK153.out⟩,⟨zK0 BK154.out⟩,⟨zK0 BK155.out⟩,⟨zY0 HB.out⟩⟩
     ·rw [if_neg c25] at H
      have c25b0 : (a1_3.toList == ([] : List UInt8)) = false:=beq_eq_false_iff_ne.mpr c25
      have c25b1 : (a1_3.toList != ([] : List UInt8)) = true:=bne_iff_ne.mpr c25
      have H':=Aside0.mk H
      clear H
      obtain ⟨_,_⟩:=zn0 NB153_154
      obtain ⟨_,_⟩:=zn0 NB153_155
      obtain ⟨_,_⟩:=zd01 BK153
      go_wp2_with (first | ((with_reducible refine gate_callee (f:=68) rfl ?_);refine goesL_ (some 10) rfl rfl Try.func68 (by kernel_rfl) rfl #[.agg #[.slice A0_0 l0_0.length c0_0]] rfl zM0 ?_;(with_reducible refine (spec_DiskOk.calls k _ _ l0_0 true _ ?side1 ?side2 A7.out).mono ?_);(case side1 => exact zA0 ((Kd.C_below HR0_0.out HB.out)));(case side2 => exact HC0_0.out);rintro e w42 ⟨rfl,hb⟩;refine ⟨_,rfl,?_⟩;replace BK153:=zb0 BK153 hb;replace BK154:=zb0 BK154 hb;replace BK155:=zb0 BK155 hb;replace HB:=zs0 HB hb;(try clear hb);obtain ⟨_,_⟩:=zn0 NB154_155;obtain ⟨_,_,_,_,_,_,_,_⟩:=zd04 BK154) | (go_at_call 81;(with_reducible refine (spec_l03Name.calls a1_1 true _ A9.out).mono ?_);rintro e w' ⟨rfl,⟨nd,rfl⟩⟩))
      go_meet
      case rel => exact ⟨_,(true),zE0,H',⟨by first | omega | exact Nat.le_refl _⟩,⟨zK0 BK153.out⟩,⟨zK0 BK154.out⟩,⟨zK0 BK155.out⟩,⟨zY0 HB.out⟩⟩
   ·replace c10:=Bool.eq_false_iff.mpr c10
    subst c10
    rw [if_neg (show ¬ (false = true) by decide)] at H
    have H':=Aside0.mk H
    clear H
    obtain ⟨_,_⟩:=zn0 NB153_154
    obtain ⟨_,_⟩:=zn0 NB153_155
    obtain ⟨_,_⟩:=zd01 BK153
    go_wp2_with (first | ((with_reducible refine gate_callee (f:=68) rfl ?_);refine goesL_ (some 10) rfl rfl Try.func68 (by kernel_rfl) rfl #[.agg #[.slice A0_0 l0_0.length c0_0]] rfl zM0 ?_;(with_reducible refine (spec_DiskOk.calls k _ _ l0_0 true _ ?side1 ?side2 A7.out).mono ?_);(case side1 => exact zA0 ((Kd.C_below HR0_0.out HB.out)));(case side2 => exact HC0_0.out);rintro e w48 ⟨rfl,hb⟩;refine ⟨_,rfl,?_⟩;replace BK153:=zb0 BK153 hb;replace BK154:=zb0 BK154 hb;replace BK155:=zb0 BK155 hb;replace HB:=zs0 HB hb;(try clear hb);obtain ⟨_,_⟩:=zn0 NB154_155;obtain ⟨_,_,_,_,_,_,_,_⟩:=zd04 BK154) | (go_at_call 81;(with_reducible refine (spec_l03Name.calls a1_1 false _ A9.out).mono ?_);rintro e w' ⟨rfl,⟨nd,rfl⟩⟩))
    go_meet
    case rel => exact ⟨_,(true),zE0,H',⟨by first | omega | exact Nat.le_refl _⟩,⟨zK0 BK153.out⟩,⟨zK0 BK154.out⟩,⟨zK0 BK155.out⟩,⟨zY0 HB.out⟩⟩
  ·replace c8:=Bool.eq_false_iff.mpr c8
   subst c8
   rw [if_neg (show ¬ (false = true) by decide)] at H
   have H':=Aside0.mk H
   clear H
   obtain ⟨_,_⟩:=zn0 NB153_154
   obtain ⟨_,_⟩:=zn0 NB153_155
   obtain ⟨_,_⟩:=zd01 BK153
   go_wp2_with (first | ((with_reducible refine gate_callee (f:=68) rfl ?_);refine goesL_ (some 10) rfl rfl Try.func68 (by kernel_rfl) rfl #[.agg #[.slice A0_0 l0_0.length c0_0]] rfl zM0 ?_;(with_reducible refine (spec_DiskOk.calls k _ _ l0_0 false _ ?side1 ?side2 A7.out).mono ?_);(case side1 => exact zA0 ((Kd.C_below HR0_0.out HB.out)));(case side2 => exact HC0_0.out);rintro e w54 ⟨rfl,hb⟩;refine ⟨_,rfl,?_⟩;replace BK153:=zb0 BK153 hb;replace BK154:=zb0 BK154 hb;replace BK155:=zb0 BK155 hb;replace HB:=zs0 HB hb;(try clear hb)))
   go_meet
   case rel => exact ⟨_,(true),zE0,H',⟨by first | omega | exact Nat.le_refl _⟩,⟨zK0 BK153.out⟩,⟨zK0 BK154.out⟩,⟨zK0 BK155.out⟩,⟨zY0 HB.out⟩⟩
 case rest =>
  clear HC3
  obtain ⟨kq,x37_2,rfl,HA,HJ2,BK153,BK154,BK155,HB⟩:=hcut
  cases kq with
  | zero => exact absurd HA.out (by simp [spec_DoAct.j0])
  | succ kj2 =>
   have H:=HA.out
   clear HA
   simp only [spec_DoAct.j0] at H
   by_cases c55 : x37_2 = true
   ·subst c55
    rw [if_pos rfl] at H
    simp only [Option.some.injEq,Prod.mk.injEq] at H
    obtain ⟨rfl,rfl⟩:=H
    obtain ⟨_,_⟩:=zn0 NB155_153
    obtain ⟨_,_⟩:=zn0 NB155_154
    have hcz58_0 : wc.cell? ⟨gb155,0,none⟩ = some (.slice none 0 0):=zc00 BK155
    have hfz58_0:=blk_frozen BK155.out 0
    go_wp2
    refine bodyPost_ret (results_ct rfl _ _ gb155 30 #[.slice none 0 0] (0,0) _ rfl (by refine zT0 ?_;refine blk_put (cs:=#[.slice none 0 0]) ?_ 0 _ rfl;exact zK0 BK155.out) Try.underlying30 rfl (by kernel_rfl)) rfl ?_
    exact ⟨_,zW0,by first | exact Kd.R_nil _ _ _ _ _ | exact Kd.N_nil _ _ _ _ _ | exact Kd.V_nil _ _ _ _ _ | exact Kd.Q_nil _ _ _ _ _ | exact Kd.S_nil _ _ _ _ _,(zY0 HB.out)⟩
   ·replace c55:=Bool.eq_false_iff.mpr c55
    subst c55
    rw [if_neg (show ¬ (false = true) by decide)] at H
    obtain ⟨t158,A59,H⟩:=bX0 H
    have HC60:=Aside0.mk H
    clear H
    obtain ⟨_,_⟩:=zn0 NB153_154
    obtain ⟨_,_⟩:=zn0 NB153_155
    have hcz63_0 : wc.cell? ⟨gb153,0,none⟩ = some (.slice A0_0 l0_0.length c0_0):=zc00 BK153
    have hfz63_0:=blk_frozen BK153.out 0
    obtain ⟨_,_⟩:=zn0 NB154_155
    have hcz65_0 : wc.cell? ⟨gb154,0,none⟩ = some (.int .i64 a1_0):=zc00 BK154
    have hcz65_1 : wc.cell? ⟨gb154,1,none⟩ = some (.string a1_1):=zc01 BK154
    have hcz65_2 : wc.cell? ⟨gb154,2,none⟩ = some (.string a1_2):=zc02 BK154
    have hcz65_3 : wc.cell? ⟨gb154,3,none⟩ = some (.string a1_3):=zc03 BK154
    have hfz65_0:=blk_frozen BK154.out 0
    have hfz65_1:=blk_frozen BK154.out 1
    have hfz65_2:=blk_frozen BK154.out 2
    have hfz65_3:=blk_frozen BK154.out 3
    go_upto_if 47 with (first | ((with_reducible refine gate_callee (f:=64) rfl ?_);refine goesL_ (some 42) rfl rfl Try.func64 (by kernel_rfl) rfl #[.agg #[.slice A0_0 l0_0.length c0_0],.string a1_1] rfl zM0 ?_;(with_reducible refine (spec_l03At.calls kj2 _ _ l0_0 a1_1 t158 _ ?side1 ?side2 A59.out).mono ?_);(case side1 => exact zA0 ((Kd.C_below HR0_0.out HB.out)));(case side2 => exact HC0_0.out);rintro e w66 ⟨rfl,hb⟩;refine ⟨_,rfl,?_⟩;replace BK153:=zb0 BK153 hb;replace BK154:=zb0 BK154 hb;replace BK155:=zb0 BK155 hb;replace HB:=zs0 HB hb;(try clear hb);obtain ⟨hcz67_0,hcz67_1,hcz67_2,hcz67_3,hfz67_0,hfz67_1,hfz67_2,hfz67_3⟩:=zd04 BK154) | ((with_reducible refine gate_dst (N:=7) rfl ?_);refine zy0 (cs:=#[.string (⟨#[]⟩ : ByteArray),.string (⟨#[]⟩ : ByteArray),.int .i64 0]) (t:=45) ?_;intro gb159 hg w68 hbox hb;have BK159:=Aside0.mk hbox;have GW159:=zz0 hg HB;have GE159:=zz0 hg HB;replace HB:=zs0 HB hb;have NB153_159:=zl0 hg BK153;have NB159_153:=zg0 hg BK153;replace BK153:=zb0 BK153 hb;have NB154_159:=zl0 hg BK154;have NB159_154:=zg0 hg BK154;replace BK154:=zb0 BK154 hb;have NB155_159:=zl0 hg BK155;have NB159_155:=zg0 hg BK155;replace BK155:=zb0 BK155 hb;clear hb hbox hg;obtain ⟨_,_⟩:=zn0 NB159_153;obtain ⟨_,_⟩:=zn0 NB159_154;obtain ⟨_,_⟩:=zn0 NB159_155;obtain ⟨hcz72_0,hcz72_1,hcz72_2,hfz72_0,hfz72_1,hfz72_2⟩:=zd03 BK159))
    (try simp only [Act.put,qA0,qB0,qC0])
    go_cut [] (fun wc => ∃ (kq : Nat) (x160000_59 : ByteArray) (x160001_59 : ByteArray) (x160002_59 : Int),Aside0 (spec_DoAct.j1 kq t158 l0_0 a1_0 a1_1 a1_2 a1_3 x160000_59 x160001_59 x160002_59 = some (r1,r2)) ∧ Aside0 (kq ≤ kj2) ∧ Aside0 (wc.heap[gb153]? = some (.cells #[(.slice A0_0 l0_0.length c0_0)] 30 (0,0))) ∧ Aside0 (wc.heap[gb154]? = some (.cells #[.int .i64 a1_0,.string a1_1,.string a1_2,.string a1_3] 55 (0,0))) ∧ Aside0 (wc.heap[gb155]? = some (.cells #[(.slice none 0 0)] 30 (0,0))) ∧ Aside0 (wc.heap[gb159]? = some (.cells #[.string x160000_59,.string x160001_59,.int .i64 x160002_59] 45 (0,0))) ∧ Aside0 (Below w.heap.size w wc))
    case first =>
     have H:=HC60.out
     clear HC60
     by_cases c73 : t158 ≥ 0
     ·rw [if_pos c73] at H
      have c73b0 : decide (0 ≤ t158) = true:=decide_eq_true c73
      clear c73
      (first | rw [c73b0] | (simp only [i64_w,i32_w];rw [c73b0]) | skip)
      by_cases c74 : 0 ≤ t158
      ·rw [if_pos c74] at H
       have c74b0 : decide (0 ≤ t158) = true:=decide_eq_true c74
       clear c74
       by_cases c75 : t158 < (l0_0.length : Int)
       ·rw [if_pos c75] at H
        have c75b0 : decide (t158 < (l0_0.length : Int)) = true:=decide_eq_true c75
        clear c75
        have H':=Aside0.mk H
        clear H
        obtain ⟨_,_⟩:=zn0 NB153_154
        obtain ⟨_,_⟩:=zn0 NB153_155
        obtain ⟨_,_⟩:=zn0 NB153_159
        obtain ⟨_,_⟩:=zd01 BK153
        have p160 : 0 ≤ (t158 : Int):=zD0
        have q160 : t158 < (l0_0.length : Int):=zD0
        obtain ⟨ad160,e160,hx160_0,hx160_1,hx160_2⟩:=at_T45 HR0_0.out t158 p160 q160
        cases e160
        have hn160_0 : ad160.block ≠ gb159:=Nat.ne_of_lt (Nat.lt_of_lt_of_le (by have:=World.block_lt_of_cell? _ _ hx160_0;first | rwa [add_block] at this | exact this) GW159.out)
        have hn160_1 : ad160.block ≠ gb159:=Nat.ne_of_lt (Nat.lt_of_lt_of_le (by have:=World.block_lt_of_cell? _ _ hx160_0;first | rwa [add_block] at this | exact this) GW159.out)
        have hn160_2 : ad160.block ≠ gb159:=Nat.ne_of_lt (Nat.lt_of_lt_of_le (by have:=World.block_lt_of_cell? _ _ hx160_0;first | rwa [add_block] at this | exact this) GW159.out)
        replace hx160_0:=zx0 HB hx160_0
        replace hx160_1:=zx0 HB hx160_1
        replace hx160_2:=zx0 HB hx160_2
        replace hx160_0:=(cell_far (p:=⟨gb159,0,none⟩) (by first | (rw [add_block];exact hn160_0) | (show (Addr.add _ _).block ≠ _;rw [add_block];exact hn160_0) | exact hn160_0) (.string a1_1)).trans hx160_0
        replace hx160_1:=(cell_far (p:=⟨gb159,0,none⟩) (by first | (rw [add_block];exact hn160_0) | (show (Addr.add _ _).block ≠ _;rw [add_block];exact hn160_0) | exact hn160_0) (.string a1_1)).trans hx160_1
        replace hx160_2:=(cell_far (p:=⟨gb159,0,none⟩) (by first | (rw [add_block];exact hn160_0) | (show (Addr.add _ _).block ≠ _;rw [add_block];exact hn160_0) | exact hn160_0) (.string a1_1)).trans hx160_2
        replace hx160_0:=(cell_far (p:=⟨gb159,1,none⟩) (by first | (rw [add_block];exact hn160_1) | (show (Addr.add _ _).block ≠ _;rw [add_block];exact hn160_1) | exact hn160_1) (.string (⟨#[]⟩ : ByteArray))).trans hx160_0
        replace hx160_1:=(cell_far (p:=⟨gb159,1,none⟩) (by first | (rw [add_block];exact hn160_1) | (show (Addr.add _ _).block ≠ _;rw [add_block];exact hn160_1) | exact hn160_1) (.string (⟨#[]⟩ : ByteArray))).trans hx160_1
        replace hx160_2:=(cell_far (p:=⟨gb159,1,none⟩) (by first | (rw [add_block];exact hn160_1) | (show (Addr.add _ _).block ≠ _;rw [add_block];exact hn160_1) | exact hn160_1) (.string (⟨#[]⟩ : ByteArray))).trans hx160_2
        replace hx160_0:=(cell_far (p:=⟨gb159,2,none⟩) (by first | (rw [add_block];exact hn160_2) | (show (Addr.add _ _).block ≠ _;rw [add_block];exact hn160_2) | exact hn160_2) (.int .i64 0)).trans hx160_0
        replace hx160_1:=(cell_far (p:=⟨gb159,2,none⟩) (by first | (rw [add_block];exact hn160_2) | (show (Addr.add _ _).block ≠ _;rw [add_block];exact hn160_2) | exact hn160_2) (.int .i64 0)).trans hx160_1
        replace hx160_2:=(cell_far (p:=⟨gb159,2,none⟩) (by first | (rw [add_block];exact hn160_2) | (show (Addr.add _ _).block ≠ _;rw [add_block];exact hn160_2) | exact hn160_2) (.int .i64 0)).trans hx160_2
        clear hn160_0 hn160_1 hn160_2
        replace p160:=eq_true p160
        replace q160:=eq_true q160
        obtain ⟨_,_⟩:=zn0 NB159_154
        obtain ⟨_,_⟩:=zn0 NB159_155
        obtain ⟨_,_,_,_,_,_⟩:=zd03 BK159
        go_wp2
        go_meet
        case rel => exact ⟨_,((rd_T45 l0_0 t158).f0),((rd_T45 l0_0 t158).f1),((rd_T45 l0_0 t158).f2),H',⟨by have:=HJ2.out;first | omega | exact Nat.le_refl _⟩,⟨zK0 BK153.out⟩,⟨zK0 BK154.out⟩,⟨zK0 BK155.out⟩,⟨by refine zT0 ?_;refine blk_put (cs:=#[.string ((rd_T45 l0_0 t158).f0),.string ((rd_T45 l0_0 t158).f1),.int .i64 0]) ?_ 2 _ rfl;refine zT0 ?_;refine blk_put (cs:=#[.string ((rd_T45 l0_0 t158).f0),.string (⟨#[]⟩ : ByteArray),.int .i64 0]) ?_ 1 _ rfl;refine zT0 ?_;refine blk_put (cs:=#[.string a1_1,.string (⟨#[]⟩ : ByteArray),.int .i64 0]) ?_ 0 _ rfl;refine zT0 ?_;refine blk_put (cs:=#[.string a1_1,.string (⟨#[]⟩ : ByteArray),.int .i64 0]) ?_ 2 _ rfl;refine zT0 ?_;refine blk_put (cs:=#[.string a1_1,.string (⟨#[]⟩ : ByteArray),.int .i64 0]) ?_ 1 _ rfl;refine zT0 ?_;refine blk_put (cs:=#[.string (⟨#[]⟩ : ByteArray),.string (⟨#[]⟩ : ByteArray),.int .i64 0]) ?_ 0 _ rfl;exact zK0 BK159.out⟩,⟨zY0 HB.out⟩⟩
       ·rw [if_neg c75] at H
        exact absurd H (by simp)
      ·rw [if_neg c74] at H
       exact absurd H (by simp)
     ·rw [if_neg c73] at H
      have c73b0 : decide (0 ≤ t158) = false:=decide_eq_false c73
      clear c73
      (first | rw [c73b0] | (simp only [i64_w,i32_w];rw [c73b0]) | skip)
      have H':=Aside0.mk H
      clear H
      go_wp2
      go_meet
      case rel => exact ⟨_,(a1_1),((⟨#[]⟩ : ByteArray)),(0),H',⟨by have:=HJ2.out;first | omega | exact Nat.le_refl _⟩,⟨zK0 BK153.out⟩,⟨zK0 BK154.out⟩,⟨zK0 BK155.out⟩,⟨by refine zT0 ?_;refine blk_put (cs:=#[.string a1_1,.string (⟨#[]⟩ : ByteArray),.int .i64 0]) ?_ 2 _ rfl;refine zT0 ?_;refine blk_put (cs:=#[.string a1_1,.string (⟨#[]⟩ : ByteArray),.int .i64 0]) ?_ 1 _ rfl;refine zT0 ?_;refine blk_put (cs:=#[.string (⟨#[]⟩ : ByteArray),.string (⟨#[]⟩ : ByteArray),.int .i64 0]) ?_ 0 _ rfl;exact zK0 BK159.out⟩,⟨zY0 HB.out⟩⟩
    case rest =>
     clear HC60
     try clear c55
     try clear hcz63_0
     try clear hcz65_0
     try clear hcz65_1
     try clear hcz65_2
     try clear hcz65_3
     try clear hcz67_0
     try clear hcz67_1
     try clear hcz67_2
     try clear hcz67_3
     try clear hcz72_0
     try clear hcz72_1
     try clear hcz72_2
     try clear hfz63_0
     try clear hfz65_0
     try clear hfz65_1
     try clear hfz65_2
     try clear hfz65_3
     try clear hfz67_0
     try clear hfz67_1
     try clear hfz67_2
     try clear hfz67_3
     try clear hfz72_0
     try clear hfz72_1
     try clear hfz72_2
     obtain ⟨kq,x160000_59,x160001_59,x160002_59,HA,HJ59,BK153,BK154,BK155,BK159,HB⟩:=hcut
     cases kq with
     | zero => exact absurd HA.out (by simp [spec_DoAct.j1])
     | succ kj59 =>
      have H:=HA.out
      clear HA
      simp only [spec_DoAct.j1] at H
      by_cases c83 : a1_0 = 1
      ·rw [if_pos c83] at H
       have c83b0 : (a1_0 == 1) = true:=beq_iff_eq.mpr c83
       have c83b1 : (a1_0 != 1) = false:=bne_eq_false_iff_eq.mpr c83
       clear c83
       by_cases c84 : x160001_59.size + a1_2.size ≤ 9223372036854775807
       ·rw [if_pos c84] at H
        have c84b0:=eq_true c84
        have c84b1 : decide (x160001_59.size + a1_2.size ≤ 9223372036854775807) = true:=decide_eq_true c84
        try have c84b2 : (9223372036854775807 < x160001_59.size + a1_2.size) = False:=eq_false (Nat.not_lt.2 c84)
        obtain ⟨t162,A85,H⟩:=bX0 H
        obtain ⟨t165,A86,H⟩:=bX0 H
        by_cases c87 : t165 = true
        ·subst c87
         rw [if_pos rfl] at H
         simp only [Option.some.injEq,Prod.mk.injEq] at H
         obtain ⟨rfl,rfl⟩:=H
         go_wp2_with (first | ((with_reducible refine gate_dst (N:=8) rfl ?_);refine zy0 (cs:=#[.slice none 0 0]) (t:=30) ?_;intro gb161 hg w88 hbox hb;have BK161:=Aside0.mk hbox;have GW161:=zz0 hg HB;have GE161:=zz0 hg HB;replace HB:=zs0 HB hb;have NB153_161:=zl0 hg BK153;have NB161_153:=zg0 hg BK153;replace BK153:=zb0 BK153 hb;have NB154_161:=zl0 hg BK154;have NB161_154:=zg0 hg BK154;replace BK154:=zb0 BK154 hb;have NB155_161:=zl0 hg BK155;have NB161_155:=zg0 hg BK155;replace BK155:=zb0 BK155 hb;have NB159_161:=zl0 hg BK159;have NB161_159:=zg0 hg BK159;replace BK159:=zb0 BK159 hb;clear hb hbox hg;obtain ⟨_,_⟩:=zn0 NB161_153;obtain ⟨_,_⟩:=zn0 NB161_154;obtain ⟨_,_⟩:=zn0 NB161_155;obtain ⟨_,_⟩:=zn0 NB161_159;obtain ⟨_,_⟩:=zd01 BK161;obtain ⟨_,_⟩:=zn0 NB154_153;obtain ⟨_,_⟩:=zn0 NB154_155;obtain ⟨_,_⟩:=zn0 NB154_159;obtain ⟨_,_,_,_,_,_,_,_⟩:=zd04 BK154;obtain ⟨_,_⟩:=zn0 NB159_153;obtain ⟨_,_⟩:=zn0 NB159_155;obtain ⟨_,_,_,_,_,_⟩:=zd03 BK159;obtain ⟨_,_⟩:=zn0 NB153_155;obtain ⟨_,_⟩:=zd01 BK153) | ((with_reducible refine gate_callee (f:=74) rfl ?_);refine goesL_ (some 67) rfl rfl Try.func74 (by kernel_rfl) rfl #[.agg #[.slice A0_0 l0_0.length c0_0],.agg #[.string x160000_59,.string (x160001_59 ++ a1_2),.int .i64 x160002_59]] rfl zM0 ?_;(with_reducible refine (spec_l03Put.calls kj59 _ _ l0_0 x160000_59 (x160001_59 ++ a1_2) x160002_59 t162 _ ?side1 ?side2 A85.out).mono ?_);(case side1 => exact Kd.C_below HR0_0.out (zY0 HB.out));(case side2 => exact HC0_0.out);rintro e w103 ⟨v163,rfl,ho0,hb⟩;refine ⟨_,rfl,?_⟩;have HO164:=Aside0.mk (Kd.R_lower (Kd.R_newB ho0 (g:=gb159) (o:=.cells #[.string x160000_59,.string (x160001_59 ++ a1_2),.int .i64 x160002_59] 45 (0,0)) (by refine zT0 ?_;refine blk_put (cs:=#[.string x160000_59,.string x160001_59,.int .i64 x160002_59]) ?_ 1 _ rfl;exact zK0 BK159.out)) (zZ0 HB.out));replace BK153:=zb0 BK153 hb;replace BK154:=zb0 BK154 hb;replace BK155:=zb0 BK155 hb;replace BK159:=Aside0.mk (blk_below (g:=gb159) (o:=.cells #[.string x160000_59,.string (x160001_59 ++ a1_2),.int .i64 x160002_59] 45 (0,0)) (by refine zT0 ?_;refine blk_put (cs:=#[.string x160000_59,.string x160001_59,.int .i64 x160002_59]) ?_ 1 _ rfl;exact zK0 BK159.out) hb);replace BK161:=Aside0.mk (blk_below (g:=gb161) (o:=.cells #[.slice none 0 0] 30 (0,0)) (by refine zT0 ?_;refine blk_put (cs:=#[.slice none 0 0]) ?_ 0 _ rfl;exact zK0 BK161.out) hb);replace HB:=zs0 HB hb;(try clear hb);(try clear ho0);obtain ⟨Ao104,co104,eo104⟩:=Kd.R_slice HO164.out;subst eo104;obtain ⟨_,_⟩:=zd01 BK161) | ((with_reducible refine gate_callee (f:=68) rfl ?_);refine goesL_ (some 125) rfl rfl Try.func68 (by kernel_rfl) rfl #[.agg #[.slice Ao104 t162.length co104]] rfl zM0 ?_;(with_reducible refine (spec_DiskOk.calls kj59 _ _ t162 true _ ?side1 ?side2 A86.out).mono ?_);(case side1 => refine (Kd.R_reads' (e:=45) (base:=w.heap.size) (ok:=fun k_ => (True ∧ k_ ≠ gb159)) (n:=t162.length) (c:=co104) ?_).2.2;exact (by refine zV0 ?_;exact (Kd.R_set HO164.out BK161.out (by decide) 0 _)));(case side2 => exact (Kd.R_reads' HO164.out).2.1);rintro e w106 ⟨rfl,hb⟩;refine ⟨_,rfl,?_⟩;replace HO164:=Aside0.mk (Kd.R_below (by refine zV0 ?_;exact (Kd.R_set HO164.out BK161.out (by decide) 0 _)) hb);replace BK153:=zb0 BK153 hb;replace BK154:=zb0 BK154 hb;replace BK155:=zb0 BK155 hb;replace BK159:=zb0 BK159 hb;replace BK161:=Aside0.mk (blk_below (g:=gb161) (o:=.cells #[.slice Ao104 t162.length co104] 30 (0,0)) (by refine zT0 ?_;refine blk_put (cs:=#[.slice none 0 0]) ?_ 0 _ rfl;exact zK0 BK161.out) hb);replace HB:=zs0 HB hb;(try clear hb);(try clear hk);obtain ⟨_,_⟩:=zd01 BK161;obtain ⟨_,_⟩:=zd01 BK155))
         refine bodyPost_ret (results_ct rfl _ _ gb155 30 #[.slice Ao104 t162.length co104] (0,0) _ rfl (by refine zT0 ?_;refine blk_put (cs:=#[.slice none 0 0]) ?_ 0 _ rfl;exact zK0 BK155.out) Try.underlying30 rfl (by kernel_rfl)) rfl ?_
         exact ⟨_,zW0,by refine zV0 ?_;exact Kd.R_mono (Kd.R_far (p:=⟨gb155,0,none⟩) (Kd.R_types HO164.out BK155.out (by decide)) (fun _ hk => hk.2) (.slice Ao104 t162.length co104)) (fun _ hk => trivial),(zY0 HB.out)⟩
        ·replace c87:=Bool.eq_false_iff.mpr c87
         subst c87
         rw [if_neg (show ¬ (false = true) by decide)] at H
         simp only [Option.some.injEq,Prod.mk.injEq] at H
         obtain ⟨rfl,rfl⟩:=H
         go_wp2_with (first | ((with_reducible refine gate_dst (N:=8) rfl ?_);refine zy0 (cs:=#[.slice none 0 0]) (t:=30) ?_;intro gb161 hg w109 hbox hb;have BK161:=Aside0.mk hbox;have GW161:=zz0 hg HB;have GE161:=zz0 hg HB;replace HB:=zs0 HB hb;have NB153_161:=zl0 hg BK153;have NB161_153:=zg0 hg BK153;replace BK153:=zb0 BK153 hb;have NB154_161:=zl0 hg BK154;have NB161_154:=zg0 hg BK154;replace BK154:=zb0 BK154 hb;have NB155_161:=zl0 hg BK155;have NB161_155:=zg0 hg BK155;replace BK155:=zb0 BK155 hb;have NB159_161:=zl0 hg BK159;have NB161_159:=zg0 hg BK159;replace BK159:=zb0 BK159 hb;clear hb hbox hg;obtain ⟨_,_⟩:=zn0 NB161_153;obtain ⟨_,_⟩:=zn0 NB161_154;obtain ⟨_,_⟩:=zn0 NB161_155;obtain ⟨_,_⟩:=zn0 NB161_159;obtain ⟨_,_⟩:=zd01 BK161;obtain ⟨_,_⟩:=zn0 NB154_153;obtain ⟨_,_⟩:=zn0 NB154_155;obtain ⟨_,_⟩:=zn0 NB154_159;obtain ⟨_,_,_,_,_,_,_,_⟩:=zd04 BK154;obtain ⟨_,_⟩:=zn0 NB159_153;obtain ⟨_,_⟩:=zn0 NB159_155;obtain ⟨_,_,_,_,_,_⟩:=zd03 BK159;obtain ⟨_,_⟩:=zn0 NB153_155;obtain ⟨_,_⟩:=zd01 BK153) | ((with_reducible refine gate_callee (f:=74) rfl ?_);refine goesL_ (some 67) rfl rfl Try.func74 (by kernel_rfl) rfl #[.agg #[.slice A0_0 l0_0.length c0_0],.agg #[.string x160000_59,.string (x160001_59 ++ a1_2),.int .i64 x160002_59]] rfl zM0 ?_;(with_reducible refine (spec_l03Put.calls kj59 _ _ l0_0 x160000_59 (x160001_59 ++ a1_2) x160002_59 t162 _ ?side1 ?side2 A85.out).mono ?_);(case side1 => exact Kd.C_below HR0_0.out (zY0 HB.out));(case side2 => exact HC0_0.out);rintro e w124 ⟨v163,rfl,ho0,hb⟩;refine ⟨_,rfl,?_⟩;have HO164:=Aside0.mk (Kd.R_lower (Kd.R_newB ho0 (g:=gb159) (o:=.cells #[.string x160000_59,.string (x160001_59 ++ a1_2),.int .i64 x160002_59] 45 (0,0)) (by refine zT0 ?_;refine blk_put (cs:=#[.string x160000_59,.string x160001_59,.int .i64 x160002_59]) ?_ 1 _ rfl;exact zK0 BK159.out)) (zZ0 HB.out));replace BK153:=zb0 BK153 hb;replace BK154:=zb0 BK154 hb;replace BK155:=zb0 BK155 hb;replace BK159:=Aside0.mk (blk_below (g:=gb159) (o:=.cells #[.string x160000_59,.string (x160001_59 ++ a1_2),.int .i64 x160002_59] 45 (0,0)) (by refine zT0 ?_;refine blk_put (cs:=#[.string x160000_59,.string x160001_59,.int .i64 x160002_59]) ?_ 1 _ rfl;exact zK0 BK159.out) hb);replace BK161:=Aside0.mk (blk_below (g:=gb161) (o:=.cells #[.slice none 0 0] 30 (0,0)) (by refine zT0 ?_;refine blk_put (cs:=#[.slice none 0 0]) ?_ 0 _ rfl;exact zK0 BK161.out) hb);replace HB:=zs0 HB hb;(try clear hb);(try clear ho0);obtain ⟨Ao125,co125,eo125⟩:=Kd.R_slice HO164.out;subst eo125;obtain ⟨_,_⟩:=zd01 BK161) | ((with_reducible refine gate_callee (f:=68) rfl ?_);refine goesL_ (some 125) rfl rfl Try.func68 (by kernel_rfl) rfl #[.agg #[.slice Ao125 t162.length co125]] rfl zM0 ?_;(with_reducible refine (spec_DiskOk.calls kj59 _ _ t162 false _ ?side1 ?side2 A86.out).mono ?_);(case side1 => refine (Kd.R_reads' (e:=45) (base:=w.heap.size) (ok:=fun k_ => (True ∧ k_ ≠ gb159)) (n:=t162.length) (c:=co125) ?_).2.2;exact (by refine zV0 ?_;exact (Kd.R_set HO164.out BK161.out (by decide) 0 _)));(case side2 => exact (Kd.R_reads' HO164.out).2.1);rintro e w127 ⟨rfl,hb⟩;refine ⟨_,rfl,?_⟩;replace HO164:=Aside0.mk (Kd.R_below (by refine zV0 ?_;exact (Kd.R_set HO164.out BK161.out (by decide) 0 _)) hb);replace BK153:=zb0 BK153 hb;replace BK154:=zb0 BK154 hb;replace BK155:=zb0 BK155 hb;replace BK159:=zb0 BK159 hb;replace BK161:=Aside0.mk (blk_below (g:=gb161) (o:=.cells #[.slice Ao125 t162.length co125] 30 (0,0)) (by refine zT0 ?_;refine blk_put (cs:=#[.slice none 0 0]) ?_ 0 _ rfl;exact zK0 BK161.out) hb);replace HB:=zs0 HB hb;(try clear hb);(try clear hk);obtain ⟨_,_⟩:=zd01 BK155))
         refine bodyPost_ret (results_ct rfl _ _ gb155 30 #[.slice none 0 0] (0,0) _ rfl (by refine zT0 ?_;refine blk_put (cs:=#[.slice none 0 0]) ?_ 0 _ rfl;exact zK0 BK155.out) Try.underlying30 rfl (by kernel_rfl)) rfl ?_
         exact ⟨_,zW0,by first | exact Kd.R_nil _ _ _ _ _ | exact Kd.N_nil _ _ _ _ _ | exact Kd.V_nil _ _ _ _ _ | exact Kd.Q_nil _ _ _ _ _ | exact Kd.S_nil _ _ _ _ _,(zY0 HB.out)⟩
       ·rw [if_neg c84] at H
        exact absurd H (by simp)
      ·rw [if_neg c83] at H
       have c83b0 : (a1_0 == 1) = false:=beq_eq_false_iff_ne.mpr c83
       have c83b1 : (a1_0 != 1) = true:=bne_iff_ne.mpr c83
       by_cases c129 : t158 < 0
       ·rw [if_pos c129] at H
        have c129b0 : decide (t158 < 0) = true:=decide_eq_true c129
        clear c129
        simp only [Option.some.injEq,Prod.mk.injEq] at H
        obtain ⟨rfl,rfl⟩:=H
        go_wp2_with (first | ((with_reducible refine gate_dst (N:=8) rfl ?_);refine zy0 (cs:=#[.slice none 0 0]) (t:=30) ?_;intro gb161 hg w130 hbox hb;have BK161:=Aside0.mk hbox;have GW161:=zz0 hg HB;have GE161:=zz0 hg HB;replace HB:=zs0 HB hb;have NB153_161:=zl0 hg BK153;have NB161_153:=zg0 hg BK153;replace BK153:=zb0 BK153 hb;have NB154_161:=zl0 hg BK154;have NB161_154:=zg0 hg BK154;replace BK154:=zb0 BK154 hb;have NB155_161:=zl0 hg BK155;have NB161_155:=zg0 hg BK155;replace BK155:=zb0 BK155 hb;have NB159_161:=zl0 hg BK159;have NB161_159:=zg0 hg BK159;replace BK159:=zb0 BK159 hb;clear hb hbox hg;obtain ⟨_,_⟩:=zn0 NB161_153;obtain ⟨_,_⟩:=zn0 NB161_154;obtain ⟨_,_⟩:=zn0 NB161_155;obtain ⟨_,_⟩:=zn0 NB161_159;obtain ⟨_,_⟩:=zd01 BK161;obtain ⟨_,_⟩:=zn0 NB154_153;obtain ⟨_,_⟩:=zn0 NB154_155;obtain ⟨_,_⟩:=zn0 NB154_159;obtain ⟨_,_,_,_,_,_,_,_⟩:=zd04 BK154;obtain ⟨_,_⟩:=zn0 NB155_153;obtain ⟨_,_⟩:=zn0 NB155_159;obtain ⟨_,_⟩:=zd01 BK155))
        refine bodyPost_ret (results_ct rfl _ _ gb155 30 #[.slice none 0 0] (0,0) _ rfl (by refine zT0 ?_;refine blk_put (cs:=#[.slice none 0 0]) ?_ 0 _ rfl;exact zK0 BK155.out) Try.underlying30 rfl (by kernel_rfl)) rfl ?_
        exact ⟨_,zW0,by first | exact Kd.R_nil _ _ _ _ _ | exact Kd.N_nil _ _ _ _ _ | exact Kd.V_nil _ _ _ _ _ | exact Kd.Q_nil _ _ _ _ _ | exact Kd.S_nil _ _ _ _ _,(zY0 HB.out)⟩
       ·rw [if_neg c129] at H
        have c129b0 : decide (t158 < 0) = false:=decide_eq_false c129
        clear c129
        by_cases c143 : a1_0 = 2
        ·rw [if_pos c143] at H
         have c143b0 : (a1_0 == 2) = true:=beq_iff_eq.mpr c143
         have c143b1 : (a1_0 != 2) = false:=bne_eq_false_iff_eq.mpr c143
         clear c143
         obtain ⟨t166,A144,H⟩:=bX0 H
         obtain ⟨t169,A145,H⟩:=bX0 H
         by_cases c146 : t169 = true
         ·subst c146
          rw [if_pos rfl] at H
          simp only [Option.some.injEq,Prod.mk.injEq] at H
          obtain ⟨rfl,rfl⟩:=H
          go_wp2_with (first | ((with_reducible refine gate_dst (N:=8) rfl ?_);refine zy0 (cs:=#[.slice none 0 0]) (t:=30) ?_;intro gb161 hg w147 hbox hb;have BK161:=Aside0.mk hbox;have GW161:=zz0 hg HB;have GE161:=zz0 hg HB;replace HB:=zs0 HB hb;have NB153_161:=zl0 hg BK153;have NB161_153:=zg0 hg BK153;replace BK153:=zb0 BK153 hb;have NB154_161:=zl0 hg BK154;have NB161_154:=zg0 hg BK154;replace BK154:=zb0 BK154 hb;have NB155_161:=zl0 hg BK155;have NB161_155:=zg0 hg BK155;replace BK155:=zb0 BK155 hb;have NB159_161:=zl0 hg BK159;have NB161_159:=zg0 hg BK159;replace BK159:=zb0 BK159 hb;clear hb hbox hg;obtain ⟨_,_⟩:=zn0 NB161_153;obtain ⟨_,_⟩:=zn0 NB161_154;obtain ⟨_,_⟩:=zn0 NB161_155;obtain ⟨_,_⟩:=zn0 NB161_159;obtain ⟨_,_⟩:=zd01 BK161;obtain ⟨_,_⟩:=zn0 NB154_153;obtain ⟨_,_⟩:=zn0 NB154_155;obtain ⟨_,_⟩:=zn0 NB154_159;obtain ⟨_,_,_,_,_,_,_,_⟩:=zd04 BK154;obtain ⟨_,_⟩:=zn0 NB159_153;obtain ⟨_,_⟩:=zn0 NB159_155;obtain ⟨_,_,_,_,_,_⟩:=zd03 BK159;obtain ⟨_,_⟩:=zn0 NB153_155;obtain ⟨_,_⟩:=zd01 BK153) | ((with_reducible refine gate_callee (f:=74) rfl ?_);refine goesL_ (some 82) rfl rfl Try.func74 (by kernel_rfl) rfl #[.agg #[.slice A0_0 l0_0.length c0_0],.agg #[.string x160000_59,.string x160001_59,.int .i64 (x160001_59.size : Int)]] rfl zM0 ?_;(with_reducible refine (spec_l03Put.calls kj59 _ _ l0_0 x160000_59 x160001_59 (x160001_59.size : Int) t166 _ ?side1 ?side2 A144.out).mono ?_);(case side1 => exact Kd.C_below HR0_0.out (zY0 HB.out));(case side2 => exact HC0_0.out);rintro e w162 ⟨v167,rfl,ho0,hb⟩;refine ⟨_,rfl,?_⟩;have HO168:=Aside0.mk (Kd.R_lower (Kd.R_newB ho0 (g:=gb159) (o:=.cells #[.string x160000_59,.string x160001_59,.int .i64 (x160001_59.size : Int)] 45 (0,0)) (by refine zT0 ?_;refine blk_put (cs:=#[.string x160000_59,.string x160001_59,.int .i64 x160002_59]) ?_ 2 _ rfl;exact zK0 BK159.out)) (zZ0 HB.out));replace BK153:=zb0 BK153 hb;replace BK154:=zb0 BK154 hb;replace BK155:=zb0 BK155 hb;replace BK159:=Aside0.mk (blk_below (g:=gb159) (o:=.cells #[.string x160000_59,.string x160001_59,.int .i64 (x160001_59.size : Int)] 45 (0,0)) (by refine zT0 ?_;refine blk_put (cs:=#[.string x160000_59,.string x160001_59,.int .i64 x160002_59]) ?_ 2 _ rfl;exact zK0 BK159.out) hb);replace BK161:=Aside0.mk (blk_below (g:=gb161) (o:=.cells #[.slice none 0 0] 30 (0,0)) (by refine zT0 ?_;refine blk_put (cs:=#[.slice none 0 0]) ?_ 0 _ rfl;exact zK0 BK161.out) hb);replace HB:=zs0 HB hb;(try clear hb);(try clear ho0);obtain ⟨Ao163,co163,eo163⟩:=Kd.R_slice HO168.out;subst eo163;obtain ⟨_,_⟩:=zd01 BK161) | ((with_reducible refine gate_callee (f:=68) rfl ?_);refine goesL_ (some 125) rfl rfl Try.func68 (by kernel_rfl) rfl #[.agg #[.slice Ao163 t166.length co163]] rfl zM0 ?_;(with_reducible refine (spec_DiskOk.calls kj59 _ _ t166 true _ ?side1 ?side2 A145.out).mono ?_);(case side1 => refine (Kd.R_reads' (e:=45) (base:=w.heap.size) (ok:=fun k_ => (True ∧ k_ ≠ gb159)) (n:=t166.length) (c:=co163) ?_).2.2;exact (by refine zV0 ?_;exact (Kd.R_set HO168.out BK161.out (by decide) 0 _)));(case side2 => exact (Kd.R_reads' HO168.out).2.1);rintro e w165 ⟨rfl,hb⟩;refine ⟨_,rfl,?_⟩;replace HO168:=Aside0.mk (Kd.R_below (by refine zV0 ?_;exact (Kd.R_set HO168.out BK161.out (by decide) 0 _)) hb);replace BK153:=zb0 BK153 hb;replace BK154:=zb0 BK154 hb;replace BK155:=zb0 BK155 hb;replace BK159:=zb0 BK159 hb;replace BK161:=Aside0.mk (blk_below (g:=gb161) (o:=.cells #[.slice Ao163 t166.length co163] 30 (0,0)) (by refine zT0 ?_;refine blk_put (cs:=#[.slice none 0 0]) ?_ 0 _ rfl;exact zK0 BK161.out) hb);replace HB:=zs0 HB hb;(try clear hb);(try clear hk);obtain ⟨_,_⟩:=zd01 BK161;obtain ⟨_,_⟩:=zd01 BK155))
          refine bodyPost_ret (results_ct rfl _ _ gb155 30 #[.slice Ao163 t166.length co163] (0,0) _ rfl (by refine zT0 ?_;refine blk_put (cs:=#[.slice none 0 0]) ?_ 0 _ rfl;exact zK0 BK155.out) Try.underlying30 rfl (by kernel_rfl)) rfl ?_
          exact ⟨_,zW0,by refine zV0 ?_;exact Kd.R_mono (Kd.R_far (p:=⟨gb155,0,none⟩) (Kd.R_types HO168.out BK155.out (by decide)) (fun _ hk => hk.2) (.slice Ao163 t166.length co163)) (fun _ hk => trivial),(zY0 HB.out)⟩
         ·replace c146:=Bool.eq_false_iff.mpr c146
          subst c146
          rw [if_neg (show ¬ (false = true) by decide)] at H
          simp only [Option.some.injEq,Prod.mk.injEq] at H
          obtain ⟨rfl,rfl⟩:=H
          go_wp2_with (first | ((with_reducible refine gate_dst (N:=8) rfl ?_);refine zy0 (cs:=#[.slice none 0 0]) (t:=30) ?_;intro gb161 hg w168 hbox hb;have BK161:=Aside0.mk hbox;have GW161:=zz0 hg HB;have GE161:=zz0 hg HB;replace HB:=zs0 HB hb;have NB153_161:=zl0 hg BK153;have NB161_153:=zg0 hg BK153;replace BK153:=zb0 BK153 hb;have NB154_161:=zl0 hg BK154;have NB161_154:=zg0 hg BK154;replace BK154:=zb0 BK154 hb;have NB155_161:=zl0 hg BK155;have NB161_155:=zg0 hg BK155;replace BK155:=zb0 BK155 hb;have NB159_161:=zl0 hg BK159;have NB161_159:=zg0 hg BK159;replace BK159:=zb0 BK159 hb;clear hb hbox hg;obtain ⟨_,_⟩:=zn0 NB161_153;obtain ⟨_,_⟩:=zn0 NB161_154;obtain ⟨_,_⟩:=zn0 NB161_155;obtain ⟨_,_⟩:=zn0 NB161_159;obtain ⟨_,_⟩:=zd01 BK161;obtain ⟨_,_⟩:=zn0 NB154_153;obtain ⟨_,_⟩:=zn0 NB154_155;obtain ⟨_,_⟩:=zn0 NB154_159;obtain ⟨_,_,_,_,_,_,_,_⟩:=zd04 BK154;obtain ⟨_,_⟩:=zn0 NB159_153;obtain ⟨_,_⟩:=zn0 NB159_155;obtain ⟨_,_,_,_,_,_⟩:=zd03 BK159;obtain ⟨_,_⟩:=zn0 NB153_155;obtain ⟨_,_⟩:=zd01 BK153) | ((with_reducible refine gate_callee (f:=74) rfl ?_);refine goesL_ (some 82) rfl rfl Try.func74 (by kernel_rfl) rfl #[.agg #[.slice A0_0 l0_0.length c0_0],.agg #[.string x160000_59,.string x160001_59,.int .i64 (x160001_59.size : Int)]] rfl zM0 ?_;(with_reducible refine (spec_l03Put.calls kj59 _ _ l0_0 x160000_59 x160001_59 (x160001_59.size : Int) t166 _ ?side1 ?side2 A144.out).mono ?_);(case side1 => exact Kd.C_below HR0_0.out (zY0 HB.out));(case side2 => exact HC0_0.out);rintro e w183 ⟨v167,rfl,ho0,hb⟩;refine ⟨_,rfl,?_⟩;have HO168:=Aside0.mk (Kd.R_lower (Kd.R_newB ho0 (g:=gb159) (o:=.cells #[.string x160000_59,.string x160001_59,.int .i64 (x160001_59.size : Int)] 45 (0,0)) (by refine zT0 ?_;refine blk_put (cs:=#[.string x160000_59,.string x160001_59,.int .i64 x160002_59]) ?_ 2 _ rfl;exact zK0 BK159.out)) (zZ0 HB.out));replace BK153:=zb0 BK153 hb;replace BK154:=zb0 BK154 hb;replace BK155:=zb0 BK155 hb;replace BK159:=Aside0.mk (blk_below (g:=gb159) (o:=.cells #[.string x160000_59,.string x160001_59,.int .i64 (x160001_59.size : Int)] 45 (0,0)) (by refine zT0 ?_;refine blk_put (cs:=#[.string x160000_59,.string x160001_59,.int .i64 x160002_59]) ?_ 2 _ rfl;exact zK0 BK159.out) hb);replace BK161:=Aside0.mk (blk_below (g:=gb161) (o:=.cells #[.slice none 0 0] 30 (0,0)) (by refine zT0 ?_;refine blk_put (cs:=#[.slice none 0 0]) ?_ 0 _ rfl;exact zK0 BK161.out) hb);replace HB:=zs0 HB hb;(try clear hb);(try clear ho0);obtain ⟨Ao184,co184,eo184⟩:=Kd.R_slice HO168.out;subst eo184;obtain ⟨_,_⟩:=zd01 BK161) | ((with_reducible refine gate_callee (f:=68) rfl ?_);refine goesL_ (some 125) rfl rfl Try.func68 (by kernel_rfl) rfl #[.agg #[.slice Ao184 t166.length co184]] rfl zM0 ?_;(with_reducible refine (spec_DiskOk.calls kj59 _ _ t166 false _ ?side1 ?side2 A145.out).mono ?_);(case side1 => refine (Kd.R_reads' (e:=45) (base:=w.heap.size) (ok:=fun k_ => (True ∧ k_ ≠ gb159)) (n:=t166.length) (c:=co184) ?_).2.2;exact (by refine zV0 ?_;exact (Kd.R_set HO168.out BK161.out (by decide) 0 _)));(case side2 => exact (Kd.R_reads' HO168.out).2.1);rintro e w186 ⟨rfl,hb⟩;refine ⟨_,rfl,?_⟩;replace HO168:=Aside0.mk (Kd.R_below (by refine zV0 ?_;exact (Kd.R_set HO168.out BK161.out (by decide) 0 _)) hb);replace BK153:=zb0 BK153 hb;replace BK154:=zb0 BK154 hb;replace BK155:=zb0 BK155 hb;replace BK159:=zb0 BK159 hb;replace BK161:=Aside0.mk (blk_below (g:=gb161) (o:=.cells #[.slice Ao184 t166.length co184] 30 (0,0)) (by refine zT0 ?_;refine blk_put (cs:=#[.slice none 0 0]) ?_ 0 _ rfl;exact zK0 BK161.out) hb);replace HB:=zs0 HB hb;(try clear hb);(try clear hk);obtain ⟨_,_⟩:=zd01 BK155))
          refine bodyPost_ret (results_ct rfl _ _ gb155 30 #[.slice none 0 0] (0,0) _ rfl (by refine zT0 ?_;refine blk_put (cs:=#[.slice none 0 0]) ?_ 0 _ rfl;exact zK0 BK155.out) Try.underlying30 rfl (by kernel_rfl)) rfl ?_
          exact ⟨_,zW0,by first | exact Kd.R_nil _ _ _ _ _ | exact Kd.N_nil _ _ _ _ _ | exact Kd.V_nil _ _ _ _ _ | exact Kd.Q_nil _ _ _ _ _ | exact Kd.S_nil _ _ _ _ _,(zY0 HB.out)⟩
        ·rw [if_neg c143] at H
         have c143b0 : (a1_0 == 2) = false:=beq_eq_false_iff_ne.mpr c143
         have c143b1 : (a1_0 != 2) = true:=bne_iff_ne.mpr c143
         by_cases c188 : a1_0 = 3
         ·rw [if_pos c188] at H
          have c188b0 : (a1_0 == 3) = true:=beq_iff_eq.mpr c188
          have c188b1 : (a1_0 != 3) = false:=bne_eq_false_iff_eq.mpr c188
          clear c188
          have HC189:=Aside0.mk H
          clear H
          go_upto_region 18 with (first | ((with_reducible refine gate_dst (N:=8) rfl ?_);refine zy0 (cs:=#[.slice none 0 0]) (t:=30) ?_;intro gb161 hg w190 hbox hb;have BK161:=Aside0.mk hbox;have GW161:=zz0 hg HB;have GE161:=zz0 hg HB;replace HB:=zs0 HB hb;have NB153_161:=zl0 hg BK153;have NB161_153:=zg0 hg BK153;replace BK153:=zb0 BK153 hb;have NB154_161:=zl0 hg BK154;have NB161_154:=zg0 hg BK154;replace BK154:=zb0 BK154 hb;have NB155_161:=zl0 hg BK155;have NB161_155:=zg0 hg BK155;replace BK155:=zb0 BK155 hb;have NB159_161:=zl0 hg BK159;have NB161_159:=zg0 hg BK159;replace BK159:=zb0 BK159 hb;clear hb hbox hg;obtain ⟨_,_⟩:=zn0 NB161_153;obtain ⟨_,_⟩:=zn0 NB161_154;obtain ⟨_,_⟩:=zn0 NB161_155;obtain ⟨_,_⟩:=zn0 NB161_159;obtain ⟨hcz195_0,hfz195_0⟩:=zd01 BK161;obtain ⟨_,_⟩:=zn0 NB154_153;obtain ⟨_,_⟩:=zn0 NB154_155;obtain ⟨_,_⟩:=zn0 NB154_159;obtain ⟨hcz199_0,hcz199_1,hcz199_2,hcz199_3,hfz199_0,hfz199_1,hfz199_2,hfz199_3⟩:=zd04 BK154))
          (try simp only [Act.put,qA0,qB0,qC0])
          go_cut [105] (fun v105 wc => ∃ (kq : Nat) (x105_188 : Bool),v105 = .bool x105_188 ∧ Aside0 (spec_DoAct.j2 kq x105_188 l0_0 a1_0 a1_1 a1_2 a1_3 x160000_59 x160001_59 x160002_59 = some (r1,r2)) ∧ Aside0 (kq ≤ kj59) ∧ Aside0 (wc.heap[gb153]? = some (.cells #[(.slice A0_0 l0_0.length c0_0)] 30 (0,0))) ∧ Aside0 (wc.heap[gb154]? = some (.cells #[.int .i64 a1_0,.string a1_1,.string a1_2,.string a1_3] 55 (0,0))) ∧ Aside0 (wc.heap[gb155]? = some (.cells #[(.slice none 0 0)] 30 (0,0))) ∧ Aside0 (wc.heap[gb159]? = some (.cells #[.string x160000_59,.string x160001_59,.int .i64 x160002_59] 45 (0,0))) ∧ Aside0 (wc.heap[gb161]? = some (.cells #[(.slice none 0 0)] 30 (0,0))) ∧ Aside0 (Below w.heap.size w wc))
          case first =>
           have H:=HC189.out
           clear HC189
           by_cases c200 : x160002_59 < (x160001_59.size : Int)
           ·rw [if_pos c200] at H
            have c200b0 : decide (x160002_59 < (x160001_59.size : Int)) = true:=decide_eq_true c200
            clear c200
            (first | rw [c200b0] | (simp only [i64_w,i32_w];rw [c200b0]) | skip)
            have H':=Aside0.mk H
            clear H
            obtain ⟨_,_⟩:=zn0 NB159_153
            obtain ⟨_,_⟩:=zn0 NB159_154
            obtain ⟨_,_⟩:=zn0 NB159_155
            obtain ⟨_,_⟩:=zn0 NB159_161
            obtain ⟨_,_,_,_,_,_⟩:=zd03 BK159
            go_wp2
            go_meet
            case rel => exact ⟨_,(true),zE0,H',⟨by have:=HJ2.out;have:=HJ59.out;first | omega | exact Nat.le_refl _⟩,⟨zK0 BK153.out⟩,⟨zK0 BK154.out⟩,⟨zK0 BK155.out⟩,⟨zK0 BK159.out⟩,⟨by refine zT0 ?_;refine blk_put (cs:=#[.slice none 0 0]) ?_ 0 _ rfl;exact zK0 BK161.out⟩,⟨zY0 HB.out⟩⟩
           ·rw [if_neg c200] at H
            have c200b0 : decide (x160002_59 < (x160001_59.size : Int)) = false:=decide_eq_false c200
            clear c200
            (first | rw [c200b0] | (simp only [i64_w,i32_w];rw [c200b0]) | skip)
            by_cases c206 : a1_3.toList = a1_1.toList
            ·rw [if_pos c206] at H
             have c206b0 : (a1_3.toList == a1_1.toList) = true:=beq_iff_eq.mpr c206
             have c206b1 : (a1_3.toList != a1_1.toList) = false:=bne_eq_false_iff_eq.mpr c206
             clear c206
             have H':=Aside0.mk H
             clear H
             obtain ⟨_,_⟩:=zn0 NB159_153
             obtain ⟨_,_⟩:=zn0 NB159_154
             obtain ⟨_,_⟩:=zn0 NB159_155
             obtain ⟨_,_⟩:=zn0 NB159_161
             obtain ⟨_,_,_,_,_,_⟩:=zd03 BK159
             obtain ⟨_,_⟩:=zn0 NB154_153
             obtain ⟨_,_⟩:=zn0 NB154_155
             obtain ⟨_,_⟩:=zn0 NB154_161
             obtain ⟨_,_,_,_,_,_,_,_⟩:=zd04 BK154
             go_wp2
             go_meet
             case rel => exact ⟨_,(true),zE0,H',⟨by have:=HJ2.out;have:=HJ59.out;first | omega | exact Nat.le_refl _⟩,⟨zK0 BK153.out⟩,⟨zK0 BK154.out⟩,⟨zK0 BK155.out⟩,⟨zK0 BK159.out⟩,⟨by refine zT0 ?_;refine blk_put (cs:=#[.slice none 0 0]) ?_ 0 _ rfl;exact zK0 BK161.out⟩,⟨zY0 HB.out⟩⟩
            ·rw [if_neg c206] at H
             have c206b0 : (a1_3.toList == a1_1.toList) = false:=beq_eq_false_iff_ne.mpr c206
             have c206b1 : (a1_3.toList != a1_1.toList) = true:=bne_iff_ne.mpr c206
             obtain ⟨t170,A216,H⟩:=bX0 H
             have H':=Aside0.mk H
             clear H
             obtain ⟨_,_⟩:=zn0 NB159_153
             obtain ⟨_,_⟩:=zn0 NB159_154
             obtain ⟨_,_⟩:=zn0 NB159_155
             obtain ⟨_,_⟩:=zn0 NB159_161
             obtain ⟨_,_,_,_,_,_⟩:=zd03 BK159
             obtain ⟨_,_⟩:=zn0 NB154_153
             obtain ⟨_,_⟩:=zn0 NB154_155
             obtain ⟨_,_⟩:=zn0 NB154_161
             obtain ⟨_,_,_,_,_,_,_,_⟩:=zd04 BK154
             go_wp2_with (first | (go_at_call 81;(with_reducible refine (spec_l03Name.calls a1_3 t170 _ A216.out).mono ?_);rintro e w' ⟨rfl,⟨nd,rfl⟩⟩))
             go_meet
             case rel => exact ⟨_,(!t170),zE0,H',⟨by have:=HJ2.out;have:=HJ59.out;first | omega | exact Nat.le_refl _⟩,⟨zK0 BK153.out⟩,⟨zK0 BK154.out⟩,⟨zK0 BK155.out⟩,⟨zK0 BK159.out⟩,⟨by refine zT0 ?_;refine blk_put (cs:=#[.slice none 0 0]) ?_ 0 _ rfl;exact zK0 BK161.out⟩,⟨zY0 HB.out⟩⟩
          case rest =>
           clear HC189
           try clear c55
           try clear c83
           try clear c83b0
           try clear c83b1
           try clear c129
           try clear c129b0
           try clear c143
           try clear c143b0
           try clear c143b1
           try clear c188
           try clear c188b0
           try clear c188b1
           try clear hcz195_0
           try clear hcz199_0
           try clear hcz199_1
           try clear hcz199_2
           try clear hcz199_3
           try clear hcz63_0
           try clear hcz65_0
           try clear hcz65_1
           try clear hcz65_2
           try clear hcz65_3
           try clear hcz67_0
           try clear hcz67_1
           try clear hcz67_2
           try clear hcz67_3
           try clear hcz72_0
           try clear hcz72_1
           try clear hcz72_2
           try clear hfz195_0
           try clear hfz199_0
           try clear hfz199_1
           try clear hfz199_2
           try clear hfz199_3
           try clear hfz63_0
           try clear hfz65_0
           try clear hfz65_1
           try clear hfz65_2
           try clear hfz65_3
           try clear hfz67_0
           try clear hfz67_1
           try clear hfz67_2
           try clear hfz67_3
           try clear hfz72_0
           try clear hfz72_1
           try clear hfz72_2
           obtain ⟨kq,x105_188,rfl,HA,HJ188,BK153,BK154,BK155,BK159,BK161,HB⟩:=hcut
           cases kq with
           | zero => exact absurd HA.out (by simp [spec_DoAct.j2])
           | succ kj188 =>
            have H:=HA.out
            clear HA
            simp only [spec_DoAct.j2] at H
            by_cases c226 : x105_188 = true
            ·subst c226
             rw [if_pos rfl] at H
             simp only [Option.some.injEq,Prod.mk.injEq] at H
             obtain ⟨rfl,rfl⟩:=H
             obtain ⟨_,_⟩:=zn0 NB155_153
             obtain ⟨_,_⟩:=zn0 NB155_154
             obtain ⟨_,_⟩:=zn0 NB155_159
             obtain ⟨_,_⟩:=zn0 NB155_161
             have hcz231_0 : wc.cell? ⟨gb155,0,none⟩ = some (.slice none 0 0):=zc00 BK155
             have hfz231_0:=blk_frozen BK155.out 0
             go_wp2
             refine bodyPost_ret (results_ct rfl _ _ gb155 30 #[.slice none 0 0] (0,0) _ rfl (by refine zT0 ?_;refine blk_put (cs:=#[.slice none 0 0]) ?_ 0 _ rfl;exact zK0 BK155.out) Try.underlying30 rfl (by kernel_rfl)) rfl ?_
             exact ⟨_,zW0,by first | exact Kd.R_nil _ _ _ _ _ | exact Kd.N_nil _ _ _ _ _ | exact Kd.V_nil _ _ _ _ _ | exact Kd.Q_nil _ _ _ _ _ | exact Kd.S_nil _ _ _ _ _,(zY0 HB.out)⟩
            ·replace c226:=Bool.eq_false_iff.mpr c226
             subst c226
             rw [if_neg (show ¬ (false = true) by decide)] at H
             obtain ⟨t171,A232,H⟩:=bX0 H
             obtain ⟨t174,A233,H⟩:=bX0 H
             obtain ⟨t177,A234,H⟩:=bX0 H
             by_cases c235 : t177 = true
             ·subst c235
              rw [if_pos rfl] at H
              simp only [Option.some.injEq,Prod.mk.injEq] at H
              obtain ⟨rfl,rfl⟩:=H
              obtain ⟨_,_⟩:=zn0 NB154_153
              obtain ⟨_,_⟩:=zn0 NB154_155
              obtain ⟨_,_⟩:=zn0 NB154_159
              obtain ⟨_,_⟩:=zn0 NB154_161
              have hcz240_0 : wc.cell? ⟨gb154,0,none⟩ = some (.int .i64 a1_0):=zc00 BK154
              have hcz240_1 : wc.cell? ⟨gb154,1,none⟩ = some (.string a1_1):=zc01 BK154
              have hcz240_2 : wc.cell? ⟨gb154,2,none⟩ = some (.string a1_2):=zc02 BK154
              have hcz240_3 : wc.cell? ⟨gb154,3,none⟩ = some (.string a1_3):=zc03 BK154
              have hfz240_0:=blk_frozen BK154.out 0
              have hfz240_1:=blk_frozen BK154.out 1
              have hfz240_2:=blk_frozen BK154.out 2
              have hfz240_3:=blk_frozen BK154.out 3
              obtain ⟨_,_⟩:=zn0 NB159_153
              obtain ⟨_,_⟩:=zn0 NB159_155
              obtain ⟨_,_⟩:=zn0 NB159_161
              have hcz244_0 : wc.cell? ⟨gb159,0,none⟩ = some (.string x160000_59):=zc00 BK159
              have hcz244_1 : wc.cell? ⟨gb159,1,none⟩ = some (.string x160001_59):=zc01 BK159
              have hcz244_2 : wc.cell? ⟨gb159,2,none⟩ = some (.int .i64 x160002_59):=zc02 BK159
              have hfz244_0:=blk_frozen BK159.out 0
              have hfz244_1:=blk_frozen BK159.out 1
              have hfz244_2:=blk_frozen BK159.out 2
              try go_wp2
              have n0_ : Aside0 ((wc.setCell ⟨gb159,0,none⟩ (.string a1_3)).heap[gb153]? = some (.cells #[.slice A0_0 l0_0.length c0_0] 30 (0,0))):=⟨zK0 BK153.out⟩
              have n1_ : Aside0 ((wc.setCell ⟨gb159,0,none⟩ (.string a1_3)).heap[gb154]? = some (.cells #[.int .i64 a1_0,.string a1_1,.string a1_2,.string a1_3] 55 (0,0))):=⟨zK0 BK154.out⟩
              have n2_ : Aside0 ((wc.setCell ⟨gb159,0,none⟩ (.string a1_3)).heap[gb155]? = some (.cells #[.slice none 0 0] 30 (0,0))):=⟨zK0 BK155.out⟩
              have n3_ : Aside0 ((wc.setCell ⟨gb159,0,none⟩ (.string a1_3)).heap[gb159]? = some (.cells #[.string a1_3,.string x160001_59,.int .i64 x160002_59] 45 (0,0))):=⟨by refine zT0 ?_;refine blk_put (cs:=#[.string x160000_59,.string x160001_59,.int .i64 x160002_59]) ?_ 0 _ rfl;exact zK0 BK159.out⟩
              have n4_ : Aside0 ((wc.setCell ⟨gb159,0,none⟩ (.string a1_3)).heap[gb161]? = some (.cells #[.slice none 0 0] 30 (0,0))):=⟨zK0 BK161.out⟩
              have n5_ : Aside0 (Below w.heap.size w (wc.setCell ⟨gb159,0,none⟩ (.string a1_3))):=⟨zY0 HB.out⟩
              (try clear BK153)
              (try clear BK154)
              (try clear BK155)
              (try clear BK159)
              (try clear BK161)
              (try clear HB)
              generalize (wc.setCell ⟨gb159,0,none⟩ (.string a1_3)) = w245 at n0_ n1_ n2_ n3_ n4_ n5_ ⊢
              have BK153:=n0_
              have BK154:=n1_
              have BK155:=n2_
              have BK159:=n3_
              have BK161:=n4_
              have HB:=n5_
              clear n0_ n1_ n2_ n3_ n4_ n5_
              replace BK153:=Aside0.mk (blk_drew BK153.out)
              replace BK154:=Aside0.mk (blk_drew BK154.out)
              replace BK155:=Aside0.mk (blk_drew BK155.out)
              replace BK159:=Aside0.mk (blk_drew BK159.out)
              replace BK161:=Aside0.mk (blk_drew BK161.out)
              replace HB:=Aside0.mk (below_drew1 HB.out)
              refine start_ (n:=7) (S:=fun w' => w'.cell? ⟨gb153,0,none⟩ = some (.slice A0_0 l0_0.length c0_0) ∧ w'.cell? ⟨gb154,0,none⟩ = some (.int .i64 a1_0) ∧ w'.cell? ⟨gb154,1,none⟩ = some (.string a1_1) ∧ w'.cell? ⟨gb154,2,none⟩ = some (.string a1_2) ∧ w'.cell? ⟨gb154,3,none⟩ = some (.string a1_3) ∧ w'.cell? ⟨gb159,0,none⟩ = some (.string a1_3) ∧ w'.cell? ⟨gb159,1,none⟩ = some (.string x160001_59) ∧ w'.cell? ⟨gb159,2,none⟩ = some (.int .i64 x160002_59)) (ds:=[]) (zF0 7 0) (by kernel_rfl) rfl rfl ⟨zc00 BK153,zc00 BK154,zc01 BK154,zc02 BK154,zc03 BK154,zc00 BK159,zc01 BK159,zc02 BK159⟩ (fun hHeld => ?_)
              generalize w245.drew = w246 at BK153 BK154 BK155 BK159 BK161 HB hHeld ⊢
              refine pure_ (i:=1) (N:=some 111) (v:=?_) (a':=?_) (zF0 7 2) rfl rfl (by kernel_rfl) (fun _ _ _ h => h) (Or.inl ⟨by rfl,?_⟩) ?_ ?_;rotate_left
              ·intro w';go_simp;with_reducible rfl
              rotate_left
              ·simp only [Act.put,qA0,qB0,qC0,i64_w,i32_w];rfl
              refine take_ (i:=0) (N:=some 110) (v:=?_) (a':=?_) (zF0 7 3) rfl rfl (by kernel_rfl) (fun _ _ _ h => h) (Or.inl ⟨by rfl,?_⟩) hHeld ?_ ?_;rotate_left
              ·rintro w' ⟨s0,s1,s2,s3,s4,s5,s6,s7⟩
               go_simp
               with_reducible rfl
              rotate_left
              ·simp only [Act.put,qA0,qB0,qC0,i64_w,i32_w];rfl
              refine take_ (i:=2) (N:=some 112) (v:=?_) (a':=?_) (zF0 7 7) rfl rfl (by kernel_rfl) (fun _ _ _ h => h) (Or.inl ⟨by rfl,?_⟩) hHeld ?_ ?_;rotate_left
              ·rintro w' ⟨s0,s1,s2,s3,s4,s5,s6,s7⟩
               go_simp
               with_reducible rfl
              rotate_left
              ·simp only [Act.put,qA0,qB0,qC0,i64_w,i32_w];rfl
              refine take_ (i:=4) (N:=some 114) (v:=?_) (a':=?_) (zF0 7 23) rfl rfl (by kernel_rfl) (fun _ _ _ h => h) (Or.inl ⟨by rfl,?_⟩) hHeld ?_ ?_;rotate_left
              ·rintro w' ⟨s0,s1,s2,s3,s4,s5,s6,s7⟩
               go_simp
               with_reducible rfl
              rotate_left
              ·simp only [Act.put,qA0,qB0,qC0,i64_w,i32_w];rfl
              refine one_ (i:=3) (N:=some 113) (zF0 7 31) rfl rfl (by kernel_rfl) (by decide) (fun K hK => ?_)
              refine goes_ Try.func82 (by kernel_rfl) rfl #[.agg #[.slice A0_0 l0_0.length c0_0],.string a1_1] (by rfl) rfl rfl zM0 ?_
              with_reducible refine (spec_l03Without.calls kj188 _ _ l0_0 a1_1 t171 _ ?side1 ?side2 A232.out).mono ?_
              (case side1 => exact zA0 ((Kd.C_below HR0_0.out HB.out)))
              (case side2 => exact HC0_0.out)
              rintro e w247 ⟨v172,rfl,ho0,hb⟩
              refine ⟨_,rfl,?_⟩
              have HO173:=Aside0.mk (Kd.R_lower (Kd.R_newB ho0 (g:=gb159) (o:=.cells #[.string a1_3,.string x160001_59,.int .i64 x160002_59] 45 (0,0)) (zK0 BK159.out)) (zZ0 HB.out))
              replace BK153:=zb0 BK153 hb
              replace BK154:=zb0 BK154 hb
              replace BK155:=zb0 BK155 hb
              replace BK159:=zb0 BK159 hb
              replace BK161:=zb0 BK161 hb
              replace HB:=zs0 HB hb
              (try clear hb)
              (try clear hb2)
              (try clear hk)
              (try clear hi)
              (try clear ho0)
              obtain ⟨Ao248,co248,eo248⟩:=Kd.R_slice HO173.out
              (first | subst eo248 | (injection eo248 with f1_ f2_ f3_;have f4_:=f1_.symm;have f5_:=f3_.symm;clear f1_ f2_ f3_;subst f4_;subst f5_))
              refine hK.out _ _ ⟨zc00 BK153,zc00 BK154,zc01 BK154,zc02 BK154,zc03 BK154,zc00 BK159,zc01 BK159,zc02 BK159⟩ (fun hHeld => ?_)
              clear hK K
              refine norm_ (a':=?_) ?_ ?_;rotate_left
              ·show Act.put _ (some 113) _ = _;simp only [Act.put,qA0,qB0,qC0,i64_w,i32_w];rfl
              refine one_ (i:=5) (N:=some 115) (zF0 7 63) rfl rfl (by kernel_rfl) (by decide) (fun K hK => ?_)
              refine goes_ Try.func74 (by kernel_rfl) rfl #[.agg #[.slice Ao248 t171.length co248],.agg #[.string a1_3,.string x160001_59,.int .i64 x160002_59]] (by rfl) rfl rfl zM0 ?_
              with_reducible refine (spec_l03Put.calls kj188 _ _ t171 a1_3 x160001_59 x160002_59 t174 _ ?side1 ?side2 A233.out).mono ?_
              (case side1 => exact zA0 ((Kd.R_reads' HO173.out).2.2))
              (case side2 => exact (Kd.R_reads' HO173.out).2.1)
              rintro e w249 ⟨v175,rfl,ho0,hb⟩
              refine ⟨_,rfl,?_⟩
              have HO176:=Aside0.mk (Kd.R_lower (Kd.R_newB (Kd.R_new' ho0 (Kd.R_lt (zR0 HO173.out))) (g:=gb159) (o:=.cells #[.string a1_3,.string x160001_59,.int .i64 x160002_59] 45 (0,0)) (zK0 BK159.out)) (zZ0 HB.out))
              replace HO173:=Aside0.mk (Kd.R_elder' (zR0 HO173.out) (Kd.R_base ho0) hb)
              replace BK153:=zb0 BK153 hb
              replace BK154:=zb0 BK154 hb
              replace BK155:=zb0 BK155 hb
              replace BK159:=zb0 BK159 hb
              replace BK161:=zb0 BK161 hb
              replace HB:=zs0 HB hb
              (try clear hb)
              (try clear hb2)
              (try clear hk)
              (try clear hi)
              (try clear ho0)
              obtain ⟨Ao250,co250,eo250⟩:=Kd.R_slice HO176.out
              (first | subst eo250 | (injection eo250 with f1_ f2_ f3_;have f4_:=f1_.symm;have f5_:=f3_.symm;clear f1_ f2_ f3_;subst f4_;subst f5_))
              refine hK.out _ _ ⟨zc00 BK153,zc00 BK154,zc01 BK154,zc02 BK154,zc03 BK154,zc00 BK159,zc01 BK159,zc02 BK159⟩ (fun hHeld => ?_)
              clear hK K
              refine norm_ (a':=?_) ?_ ?_;rotate_left
              ·show Act.put _ (some 115) _ = _;simp only [Act.put,qA0,qB0,qC0,i64_w,i32_w];rfl
              refine one_ (i:=6) (N:=none) (zF0 7 127) rfl rfl (by kernel_rfl) (by decide) (fun K hK => ?_)
              have hs251 : w249.cell? ⟨gb161,0,none⟩ = some (.slice none 0 0):=zc00 BK161
              have hfs251:=blk_frozen BK161.out 0
              have hns251_0:=NB153_161.out
              have hns251_1:=NB154_161.out
              have hns251_2:=NB155_161.out
              have hns251_3:=NB159_161.out
              have hms251_0:=NB161_153.out
              have hms251_1:=NB161_154.out
              have hms251_2:=NB161_155.out
              have hms251_3:=NB161_159.out
              refine skip_ (w1:=?_) (by rfl) rfl ?_ ?_;rotate_left
              ·go_simp
               rfl
              refine hK.out _ _ ⟨((cell_far (p:=⟨gb161,_,none⟩) NB153_161.out _).trans (hHeld.1)),((cell_far (p:=⟨gb161,_,none⟩) NB154_161.out _).trans (hHeld.2.1)),((cell_far (p:=⟨gb161,_,none⟩) NB154_161.out _).trans (hHeld.2.2.1)),((cell_far (p:=⟨gb161,_,none⟩) NB154_161.out _).trans (hHeld.2.2.2.1)),((cell_far (p:=⟨gb161,_,none⟩) NB154_161.out _).trans (hHeld.2.2.2.2.1)),((cell_far (p:=⟨gb161,_,none⟩) NB159_161.out _).trans (hHeld.2.2.2.2.2.1)),((cell_far (p:=⟨gb161,_,none⟩) NB159_161.out _).trans (hHeld.2.2.2.2.2.2.1)),((cell_far (p:=⟨gb161,_,none⟩) NB159_161.out _).trans (hHeld.2.2.2.2.2.2.2))⟩ (fun hHeld => ?_)
              clear hK K
              refine done_ (by kernel_rfl) ?_
              obtain ⟨_,_⟩:=zn0 NB161_153
              obtain ⟨_,_⟩:=zn0 NB161_155
              obtain ⟨_,_⟩:=zd01 BK161
              try go_wp2_with (first | ((with_reducible refine gate_callee (f:=68) rfl ?_);refine goesL_ (some 125) rfl rfl Try.func68 (by kernel_rfl) rfl #[.agg #[.slice Ao250 t174.length co250]] rfl zM0 ?_;(with_reducible refine (spec_DiskOk.calls kj188 _ _ t174 true _ ?side1 ?side2 A234.out).mono ?_);(case side1 => refine (Kd.R_reads' (e:=45) (base:=w.heap.size) (ok:=fun k_ => ((True ∧ some k_ ≠ (.slice Ao248 t171.length co248 : Value).ownBlock) ∧ k_ ≠ gb159)) (n:=t174.length) (c:=co250) ?_).2.2;exact (by refine zV0 ?_;exact (Kd.R_set HO176.out BK161.out (by decide) 0 _)));(case side2 => exact (Kd.R_reads' HO176.out).2.1);rintro e w255 ⟨rfl,hb⟩;refine ⟨_,rfl,?_⟩;replace HO173:=Aside0.mk (Kd.R_below (by refine zV0 ?_;exact (Kd.R_set HO173.out BK161.out (by decide) 0 _)) hb);replace HO176:=Aside0.mk (Kd.R_below (by refine zV0 ?_;exact (Kd.R_set HO176.out BK161.out (by decide) 0 _)) hb);replace BK153:=zb0 BK153 hb;replace BK154:=zb0 BK154 hb;replace BK155:=zb0 BK155 hb;replace BK159:=zb0 BK159 hb;replace BK161:=Aside0.mk (blk_below (g:=gb161) (o:=.cells #[.slice Ao250 t174.length co250] 30 (0,0)) (by refine zT0 ?_;refine blk_put (cs:=#[.slice none 0 0]) ?_ 0 _ rfl;exact zK0 BK161.out) hb);replace HB:=zs0 HB hb;(try clear hb);(try clear hk);obtain ⟨_,_⟩:=zd01 BK161;obtain ⟨_,_⟩:=zn0 NB155_153;obtain ⟨_,_⟩:=zd01 BK155))
              refine bodyPost_ret (results_ct rfl _ _ gb155 30 #[.slice Ao250 t174.length co250] (0,0) _ rfl (by refine zT0 ?_;refine blk_put (cs:=#[.slice none 0 0]) ?_ 0 _ rfl;exact zK0 BK155.out) Try.underlying30 rfl (by kernel_rfl)) rfl ?_
              exact ⟨_,zW0,by refine zV0 ?_;exact Kd.R_mono (Kd.R_far (p:=⟨gb155,0,none⟩) (Kd.R_types HO176.out BK155.out (by decide)) (fun _ hk => hk.2) (.slice Ao250 t174.length co250)) (fun _ hk => trivial),(zY0 HB.out)⟩
             ·replace c235:=Bool.eq_false_iff.mpr c235
              subst c235
              rw [if_neg (show ¬ (false = true) by decide)] at H
              simp only [Option.some.injEq,Prod.mk.injEq] at H
              obtain ⟨rfl,rfl⟩:=H
              obtain ⟨_,_⟩:=zn0 NB154_153
              obtain ⟨_,_⟩:=zn0 NB154_155
              obtain ⟨_,_⟩:=zn0 NB154_159
              obtain ⟨_,_⟩:=zn0 NB154_161
              have hcz263_0 : wc.cell? ⟨gb154,0,none⟩ = some (.int .i64 a1_0):=zc00 BK154
              have hcz263_1 : wc.cell? ⟨gb154,1,none⟩ = some (.string a1_1):=zc01 BK154
              have hcz263_2 : wc.cell? ⟨gb154,2,none⟩ = some (.string a1_2):=zc02 BK154
              have hcz263_3 : wc.cell? ⟨gb154,3,none⟩ = some (.string a1_3):=zc03 BK154
              have hfz263_0:=blk_frozen BK154.out 0
              have hfz263_1:=blk_frozen BK154.out 1
              have hfz263_2:=blk_frozen BK154.out 2
              have hfz263_3:=blk_frozen BK154.out 3
              obtain ⟨_,_⟩:=zn0 NB159_153
              obtain ⟨_,_⟩:=zn0 NB159_155
              obtain ⟨_,_⟩:=zn0 NB159_161
              have hcz267_0 : wc.cell? ⟨gb159,0,none⟩ = some (.string x160000_59):=zc00 BK159
              have hcz267_1 : wc.cell? ⟨gb159,1,none⟩ = some (.string x160001_59):=zc01 BK159
              have hcz267_2 : wc.cell? ⟨gb159,2,none⟩ = some (.int .i64 x160002_59):=zc02 BK159
              have hfz267_0:=blk_frozen BK159.out 0
              have hfz267_1:=blk_frozen BK159.out 1
              have hfz267_2:=blk_frozen BK159.out 2
              try go_wp2
              have n0_ : Aside0 ((wc.setCell ⟨gb159,0,none⟩ (.string a1_3)).heap[gb153]? = some (.cells #[.slice A0_0 l0_0.length c0_0] 30 (0,0))):=⟨zK0 BK153.out⟩
              have n1_ : Aside0 ((wc.setCell ⟨gb159,0,none⟩ (.string a1_3)).heap[gb154]? = some (.cells #[.int .i64 a1_0,.string a1_1,.string a1_2,.string a1_3] 55 (0,0))):=⟨zK0 BK154.out⟩
              have n2_ : Aside0 ((wc.setCell ⟨gb159,0,none⟩ (.string a1_3)).heap[gb155]? = some (.cells #[.slice none 0 0] 30 (0,0))):=⟨zK0 BK155.out⟩
              have n3_ : Aside0 ((wc.setCell ⟨gb159,0,none⟩ (.string a1_3)).heap[gb159]? = some (.cells #[.string a1_3,.string x160001_59,.int .i64 x160002_59] 45 (0,0))):=⟨by refine zT0 ?_;refine blk_put (cs:=#[.string x160000_59,.string x160001_59,.int .i64 x160002_59]) ?_ 0 _ rfl;exact zK0 BK159.out⟩
              have n4_ : Aside0 ((wc.setCell ⟨gb159,0,none⟩ (.string a1_3)).heap[gb161]? = some (.cells #[.slice none 0 0] 30 (0,0))):=⟨zK0 BK161.out⟩
              have n5_ : Aside0 (Below w.heap.size w (wc.setCell ⟨gb159,0,none⟩ (.string a1_3))):=⟨zY0 HB.out⟩
              (try clear BK153)
              (try clear BK154)
              (try clear BK155)
              (try clear BK159)
              (try clear BK161)
              (try clear HB)
              generalize (wc.setCell ⟨gb159,0,none⟩ (.string a1_3)) = w268 at n0_ n1_ n2_ n3_ n4_ n5_ ⊢
              have BK153:=n0_
              have BK154:=n1_
              have BK155:=n2_
              have BK159:=n3_
              have BK161:=n4_
              have HB:=n5_
              clear n0_ n1_ n2_ n3_ n4_ n5_
              replace BK153:=Aside0.mk (blk_drew BK153.out)
              replace BK154:=Aside0.mk (blk_drew BK154.out)
              replace BK155:=Aside0.mk (blk_drew BK155.out)
              replace BK159:=Aside0.mk (blk_drew BK159.out)
              replace BK161:=Aside0.mk (blk_drew BK161.out)
              replace HB:=Aside0.mk (below_drew1 HB.out)
              refine start_ (n:=7) (S:=fun w' => w'.cell? ⟨gb153,0,none⟩ = some (.slice A0_0 l0_0.length c0_0) ∧ w'.cell? ⟨gb154,0,none⟩ = some (.int .i64 a1_0) ∧ w'.cell? ⟨gb154,1,none⟩ = some (.string a1_1) ∧ w'.cell? ⟨gb154,2,none⟩ = some (.string a1_2) ∧ w'.cell? ⟨gb154,3,none⟩ = some (.string a1_3) ∧ w'.cell? ⟨gb159,0,none⟩ = some (.string a1_3) ∧ w'.cell? ⟨gb159,1,none⟩ = some (.string x160001_59) ∧ w'.cell? ⟨gb159,2,none⟩ = some (.int .i64 x160002_59)) (ds:=[]) (zF0 7 0) (by kernel_rfl) rfl rfl ⟨zc00 BK153,zc00 BK154,zc01 BK154,zc02 BK154,zc03 BK154,zc00 BK159,zc01 BK159,zc02 BK159⟩ (fun hHeld => ?_)
              generalize w268.drew = w269 at BK153 BK154 BK155 BK159 BK161 HB hHeld ⊢
              refine pure_ (i:=1) (N:=some 111) (v:=?_) (a':=?_) (zF0 7 2) rfl rfl (by kernel_rfl) (fun _ _ _ h => h) (Or.inl ⟨by rfl,?_⟩) ?_ ?_;rotate_left
              ·intro w';go_simp;with_reducible rfl
              rotate_left
              ·simp only [Act.put,qA0,qB0,qC0,i64_w,i32_w];rfl
              refine take_ (i:=0) (N:=some 110) (v:=?_) (a':=?_) (zF0 7 3) rfl rfl (by kernel_rfl) (fun _ _ _ h => h) (Or.inl ⟨by rfl,?_⟩) hHeld ?_ ?_;rotate_left
              ·rintro w' ⟨s0,s1,s2,s3,s4,s5,s6,s7⟩
               go_simp
               with_reducible rfl
              rotate_left
              ·simp only [Act.put,qA0,qB0,qC0,i64_w,i32_w];rfl
              refine take_ (i:=2) (N:=some 112) (v:=?_) (a':=?_) (zF0 7 7) rfl rfl (by kernel_rfl) (fun _ _ _ h => h) (Or.inl ⟨by rfl,?_⟩) hHeld ?_ ?_;rotate_left
              ·rintro w' ⟨s0,s1,s2,s3,s4,s5,s6,s7⟩
               go_simp
               with_reducible rfl
              rotate_left
              ·simp only [Act.put,qA0,qB0,qC0,i64_w,i32_w];rfl
              refine take_ (i:=4) (N:=some 114) (v:=?_) (a':=?_) (zF0 7 23) rfl rfl (by kernel_rfl) (fun _ _ _ h => h) (Or.inl ⟨by rfl,?_⟩) hHeld ?_ ?_;rotate_left
              ·rintro w' ⟨s0,s1,s2,s3,s4,s5,s6,s7⟩
               go_simp
               with_reducible rfl
              rotate_left
              ·simp only [Act.put,qA0,qB0,qC0,i64_w,i32_w];rfl
              refine one_ (i:=3) (N:=some 113) (zF0 7 31) rfl rfl (by kernel_rfl) (by decide) (fun K hK => ?_)
              refine goes_ Try.func82 (by kernel_rfl) rfl #[.agg #[.slice A0_0 l0_0.length c0_0],.string a1_1] (by rfl) rfl rfl zM0 ?_
              with_reducible refine (spec_l03Without.calls kj188 _ _ l0_0 a1_1 t171 _ ?side1 ?side2 A232.out).mono ?_
              (case side1 => exact zA0 ((Kd.C_below HR0_0.out HB.out)))
              (case side2 => exact HC0_0.out)
              rintro e w270 ⟨v172,rfl,ho0,hb⟩
              refine ⟨_,rfl,?_⟩
              have HO173:=Aside0.mk (Kd.R_lower (Kd.R_newB ho0 (g:=gb159) (o:=.cells #[.string a1_3,.string x160001_59,.int .i64 x160002_59] 45 (0,0)) (zK0 BK159.out)) (zZ0 HB.out))
              replace BK153:=zb0 BK153 hb
              replace BK154:=zb0 BK154 hb
              replace BK155:=zb0 BK155 hb
              replace BK159:=zb0 BK159 hb
              replace BK161:=zb0 BK161 hb
              replace HB:=zs0 HB hb
              (try clear hb)
              (try clear hb2)
              (try clear hk)
              (try clear hi)
              (try clear ho0)
              obtain ⟨Ao271,co271,eo271⟩:=Kd.R_slice HO173.out
              (first | subst eo271 | (injection eo271 with f1_ f2_ f3_;have f4_:=f1_.symm;have f5_:=f3_.symm;clear f1_ f2_ f3_;subst f4_;subst f5_))
              refine hK.out _ _ ⟨zc00 BK153,zc00 BK154,zc01 BK154,zc02 BK154,zc03 BK154,zc00 BK159,zc01 BK159,zc02 BK159⟩ (fun hHeld => ?_)
              clear hK K
              refine norm_ (a':=?_) ?_ ?_;rotate_left
              ·show Act.put _ (some 113) _ = _;simp only [Act.put,qA0,qB0,qC0,i64_w,i32_w];rfl
              refine one_ (i:=5) (N:=some 115) (zF0 7 63) rfl rfl (by kernel_rfl) (by decide) (fun K hK => ?_)
              refine goes_ Try.func74 (by kernel_rfl) rfl #[.agg #[.slice Ao271 t171.length co271],.agg #[.string a1_3,.string x160001_59,.int .i64 x160002_59]] (by rfl) rfl rfl zM0 ?_
              with_reducible refine (spec_l03Put.calls kj188 _ _ t171 a1_3 x160001_59 x160002_59 t174 _ ?side1 ?side2 A233.out).mono ?_
              (case side1 => exact zA0 ((Kd.R_reads' HO173.out).2.2))
              (case side2 => exact (Kd.R_reads' HO173.out).2.1)
              rintro e w272 ⟨v175,rfl,ho0,hb⟩
              refine ⟨_,rfl,?_⟩
              have HO176:=Aside0.mk (Kd.R_lower (Kd.R_newB (Kd.R_new' ho0 (Kd.R_lt (zR0 HO173.out))) (g:=gb159) (o:=.cells #[.string a1_3,.string x160001_59,.int .i64 x160002_59] 45 (0,0)) (zK0 BK159.out)) (zZ0 HB.out))
              replace HO173:=Aside0.mk (Kd.R_elder' (zR0 HO173.out) (Kd.R_base ho0) hb)
              replace BK153:=zb0 BK153 hb
              replace BK154:=zb0 BK154 hb
              replace BK155:=zb0 BK155 hb
              replace BK159:=zb0 BK159 hb
              replace BK161:=zb0 BK161 hb
              replace HB:=zs0 HB hb
              (try clear hb)
              (try clear hb2)
              (try clear hk)
              (try clear hi)
              (try clear ho0)
              obtain ⟨Ao273,co273,eo273⟩:=Kd.R_slice HO176.out
              (first | subst eo273 | (injection eo273 with f1_ f2_ f3_;have f4_:=f1_.symm;have f5_:=f3_.symm;clear f1_ f2_ f3_;subst f4_;subst f5_))
              refine hK.out _ _ ⟨zc00 BK153,zc00 BK154,zc01 BK154,zc02 BK154,zc03 BK154,zc00 BK159,zc01 BK159,zc02 BK159⟩ (fun hHeld => ?_)
              clear hK K
              refine norm_ (a':=?_) ?_ ?_;rotate_left
              ·show Act.put _ (some 115) _ = _;simp only [Act.put,qA0,qB0,qC0,i64_w,i32_w];rfl
              refine one_ (i:=6) (N:=none) (zF0 7 127) rfl rfl (by kernel_rfl) (by decide) (fun K hK => ?_)
              have hs274 : w272.cell? ⟨gb161,0,none⟩ = some (.slice none 0 0):=zc00 BK161
              have hfs274:=blk_frozen BK161.out 0
              have hns274_0:=NB153_161.out
              have hns274_1:=NB154_161.out
              have hns274_2:=NB155_161.out
              have hns274_3:=NB159_161.out
              have hms274_0:=NB161_153.out
              have hms274_1:=NB161_154.out
              have hms274_2:=NB161_155.out
              have hms274_3:=NB161_159.out
              refine skip_ (w1:=?_) (by rfl) rfl ?_ ?_;rotate_left
              ·go_simp
               rfl
              refine hK.out _ _ ⟨((cell_far (p:=⟨gb161,_,none⟩) NB153_161.out _).trans (hHeld.1)),((cell_far (p:=⟨gb161,_,none⟩) NB154_161.out _).trans (hHeld.2.1)),((cell_far (p:=⟨gb161,_,none⟩) NB154_161.out _).trans (hHeld.2.2.1)),((cell_far (p:=⟨gb161,_,none⟩) NB154_161.out _).trans (hHeld.2.2.2.1)),((cell_far (p:=⟨gb161,_,none⟩) NB154_161.out _).trans (hHeld.2.2.2.2.1)),((cell_far (p:=⟨gb161,_,none⟩) NB159_161.out _).trans (hHeld.2.2.2.2.2.1)),((cell_far (p:=⟨gb161,_,none⟩) NB159_161.out _).trans (hHeld.2.2.2.2.2.2.1)),((cell_far (p:=⟨gb161,_,none⟩) NB159_161.out _).trans (hHeld.2.2.2.2.2.2.2))⟩ (fun hHeld => ?_)
              clear hK K
              refine done_ (by kernel_rfl) ?_
              obtain ⟨_,_⟩:=zn0 NB161_153
              obtain ⟨_,_⟩:=zn0 NB161_155
              obtain ⟨_,_⟩:=zd01 BK161
              try go_wp2_with (first | ((with_reducible refine gate_callee (f:=68) rfl ?_);refine goesL_ (some 125) rfl rfl Try.func68 (by kernel_rfl) rfl #[.agg #[.slice Ao273 t174.length co273]] rfl zM0 ?_;(with_reducible refine (spec_DiskOk.calls kj188 _ _ t174 false _ ?side1 ?side2 A234.out).mono ?_);(case side1 => refine (Kd.R_reads' (e:=45) (base:=w.heap.size) (ok:=fun k_ => ((True ∧ some k_ ≠ (.slice Ao271 t171.length co271 : Value).ownBlock) ∧ k_ ≠ gb159)) (n:=t174.length) (c:=co273) ?_).2.2;exact (by refine zV0 ?_;exact (Kd.R_set HO176.out BK161.out (by decide) 0 _)));(case side2 => exact (Kd.R_reads' HO176.out).2.1);rintro e w278 ⟨rfl,hb⟩;refine ⟨_,rfl,?_⟩;replace HO173:=Aside0.mk (Kd.R_below (by refine zV0 ?_;exact (Kd.R_set HO173.out BK161.out (by decide) 0 _)) hb);replace HO176:=Aside0.mk (Kd.R_below (by refine zV0 ?_;exact (Kd.R_set HO176.out BK161.out (by decide) 0 _)) hb);replace BK153:=zb0 BK153 hb;replace BK154:=zb0 BK154 hb;replace BK155:=zb0 BK155 hb;replace BK159:=zb0 BK159 hb;replace BK161:=Aside0.mk (blk_below (g:=gb161) (o:=.cells #[.slice Ao273 t174.length co273] 30 (0,0)) (by refine zT0 ?_;refine blk_put (cs:=#[.slice none 0 0]) ?_ 0 _ rfl;exact zK0 BK161.out) hb);replace HB:=zs0 HB hb;(try clear hb);(try clear hk);obtain ⟨_,_⟩:=zn0 NB155_153;obtain ⟨_,_⟩:=zd01 BK155))
              refine bodyPost_ret (results_ct rfl _ _ gb155 30 #[.slice none 0 0] (0,0) _ rfl (by refine zT0 ?_;refine blk_put (cs:=#[.slice none 0 0]) ?_ 0 _ rfl;exact zK0 BK155.out) Try.underlying30 rfl (by kernel_rfl)) rfl ?_
              exact ⟨_,zW0,by first | exact Kd.R_nil _ _ _ _ _ | exact Kd.N_nil _ _ _ _ _ | exact Kd.V_nil _ _ _ _ _ | exact Kd.Q_nil _ _ _ _ _ | exact Kd.S_nil _ _ _ _ _,(zY0 HB.out)⟩
         ·rw [if_neg c188] at H
          have c188b0 : (a1_0 == 3) = false:=beq_eq_false_iff_ne.mpr c188
          have c188b1 : (a1_0 != 3) = true:=bne_iff_ne.mpr c188
          by_cases c281 : a1_0 = 4
          ·rw [if_pos c281] at H
           have c281b0 : (a1_0 == 4) = true:=beq_iff_eq.mpr c281
           have c281b1 : (a1_0 != 4) = false:=bne_eq_false_iff_eq.mpr c281
           clear c281
           obtain ⟨t178,A282,H⟩:=bX0 H
           obtain ⟨t181,A283,H⟩:=bX0 H
           by_cases c284 : t181 = true
           ·subst c284
            rw [if_pos rfl] at H
            simp only [Option.some.injEq,Prod.mk.injEq] at H
            obtain ⟨rfl,rfl⟩:=H
            go_wp2_with (first | ((with_reducible refine gate_dst (N:=8) rfl ?_);refine zy0 (cs:=#[.slice none 0 0]) (t:=30) ?_;intro gb161 hg w285 hbox hb;have BK161:=Aside0.mk hbox;have GW161:=zz0 hg HB;have GE161:=zz0 hg HB;replace HB:=zs0 HB hb;have NB153_161:=zl0 hg BK153;have NB161_153:=zg0 hg BK153;replace BK153:=zb0 BK153 hb;have NB154_161:=zl0 hg BK154;have NB161_154:=zg0 hg BK154;replace BK154:=zb0 BK154 hb;have NB155_161:=zl0 hg BK155;have NB161_155:=zg0 hg BK155;replace BK155:=zb0 BK155 hb;have NB159_161:=zl0 hg BK159;have NB161_159:=zg0 hg BK159;replace BK159:=zb0 BK159 hb;clear hb hbox hg;obtain ⟨_,_⟩:=zn0 NB161_153;obtain ⟨_,_⟩:=zn0 NB161_154;obtain ⟨_,_⟩:=zn0 NB161_155;obtain ⟨_,_⟩:=zn0 NB161_159;obtain ⟨_,_⟩:=zd01 BK161;obtain ⟨_,_⟩:=zn0 NB154_153;obtain ⟨_,_⟩:=zn0 NB154_155;obtain ⟨_,_⟩:=zn0 NB154_159;obtain ⟨_,_,_,_,_,_,_,_⟩:=zd04 BK154;obtain ⟨_,_⟩:=zn0 NB153_155;obtain ⟨_,_⟩:=zn0 NB153_159;obtain ⟨_,_⟩:=zd01 BK153) | ((with_reducible refine gate_callee (f:=82) rfl ?_);refine goesL_ (some 123) rfl rfl Try.func82 (by kernel_rfl) rfl #[.agg #[.slice A0_0 l0_0.length c0_0],.string a1_1] rfl zM0 ?_;(with_reducible refine (spec_l03Without.calls kj59 _ _ l0_0 a1_1 t178 _ ?side1 ?side2 A282.out).mono ?_);(case side1 => exact Kd.C_below HR0_0.out (zY0 HB.out));(case side2 => exact HC0_0.out);rintro e w298 ⟨v179,rfl,ho0,hb⟩;refine ⟨_,rfl,?_⟩;have HO180:=Aside0.mk (Kd.R_lower (Kd.R_newB ho0 (g:=gb159) (o:=.cells #[.string x160000_59,.string x160001_59,.int .i64 x160002_59] 45 (0,0)) (zK0 BK159.out)) (zZ0 HB.out));replace BK153:=zb0 BK153 hb;replace BK154:=zb0 BK154 hb;replace BK155:=zb0 BK155 hb;replace BK159:=zb0 BK159 hb;replace BK161:=Aside0.mk (blk_below (g:=gb161) (o:=.cells #[.slice none 0 0] 30 (0,0)) (by refine zT0 ?_;refine blk_put (cs:=#[.slice none 0 0]) ?_ 0 _ rfl;exact zK0 BK161.out) hb);replace HB:=zs0 HB hb;(try clear hb);(try clear ho0);obtain ⟨Ao299,co299,eo299⟩:=Kd.R_slice HO180.out;subst eo299;obtain ⟨_,_⟩:=zd01 BK161) | ((with_reducible refine gate_callee (f:=68) rfl ?_);refine goesL_ (some 125) rfl rfl Try.func68 (by kernel_rfl) rfl #[.agg #[.slice Ao299 t178.length co299]] rfl zM0 ?_;(with_reducible refine (spec_DiskOk.calls kj59 _ _ t178 true _ ?side1 ?side2 A283.out).mono ?_);(case side1 => refine (Kd.R_reads' (e:=45) (base:=w.heap.size) (ok:=fun k_ => (True ∧ k_ ≠ gb159)) (n:=t178.length) (c:=co299) ?_).2.2;exact (by refine zV0 ?_;exact (Kd.R_set HO180.out BK161.out (by decide) 0 _)));(case side2 => exact (Kd.R_reads' HO180.out).2.1);rintro e w301 ⟨rfl,hb⟩;refine ⟨_,rfl,?_⟩;replace HO180:=Aside0.mk (Kd.R_below (by refine zV0 ?_;exact (Kd.R_set HO180.out BK161.out (by decide) 0 _)) hb);replace BK153:=zb0 BK153 hb;replace BK154:=zb0 BK154 hb;replace BK155:=zb0 BK155 hb;replace BK159:=zb0 BK159 hb;replace BK161:=Aside0.mk (blk_below (g:=gb161) (o:=.cells #[.slice Ao299 t178.length co299] 30 (0,0)) (by refine zT0 ?_;refine blk_put (cs:=#[.slice none 0 0]) ?_ 0 _ rfl;exact zK0 BK161.out) hb);replace HB:=zs0 HB hb;(try clear hb);(try clear hk);obtain ⟨_,_⟩:=zd01 BK161;obtain ⟨_,_⟩:=zn0 NB155_159;obtain ⟨_,_⟩:=zd01 BK155))
            refine bodyPost_ret (results_ct rfl _ _ gb155 30 #[.slice Ao299 t178.length co299] (0,0) _ rfl (by refine zT0 ?_;refine blk_put (cs:=#[.slice none 0 0]) ?_ 0 _ rfl;exact zK0 BK155.out) Try.underlying30 rfl (by kernel_rfl)) rfl ?_
            exact ⟨_,zW0,by refine zV0 ?_;exact Kd.R_mono (Kd.R_far (p:=⟨gb155,0,none⟩) (Kd.R_types HO180.out BK155.out (by decide)) (fun _ hk => hk.2) (.slice Ao299 t178.length co299)) (fun _ hk => trivial),(zY0 HB.out)⟩
           ·replace c284:=Bool.eq_false_iff.mpr c284
            subst c284
            rw [if_neg (show ¬ (false = true) by decide)] at H
            simp only [Option.some.injEq,Prod.mk.injEq] at H
            obtain ⟨rfl,rfl⟩:=H
            go_wp2_with (first | ((with_reducible refine gate_dst (N:=8) rfl ?_);refine zy0 (cs:=#[.slice none 0 0]) (t:=30) ?_;intro gb161 hg w305 hbox hb;have BK161:=Aside0.mk hbox;have GW161:=zz0 hg HB;have GE161:=zz0 hg HB;replace HB:=zs0 HB hb;have NB153_161:=zl0 hg BK153;have NB161_153:=zg0 hg BK153;replace BK153:=zb0 BK153 hb;have NB154_161:=zl0 hg BK154;have NB161_154:=zg0 hg BK154;replace BK154:=zb0 BK154 hb;have NB155_161:=zl0 hg BK155;have NB161_155:=zg0 hg BK155;replace BK155:=zb0 BK155 hb;have NB159_161:=zl0 hg BK159;have NB161_159:=zg0 hg BK159;replace BK159:=zb0 BK159 hb;clear hb hbox hg;obtain ⟨_,_⟩:=zn0 NB161_153;obtain ⟨_,_⟩:=zn0 NB161_154;obtain ⟨_,_⟩:=zn0 NB161_155;obtain ⟨_,_⟩:=zn0 NB161_159;obtain ⟨_,_⟩:=zd01 BK161;obtain ⟨_,_⟩:=zn0 NB154_153;obtain ⟨_,_⟩:=zn0 NB154_155;obtain ⟨_,_⟩:=zn0 NB154_159;obtain ⟨_,_,_,_,_,_,_,_⟩:=zd04 BK154;obtain ⟨_,_⟩:=zn0 NB153_155;obtain ⟨_,_⟩:=zn0 NB153_159;obtain ⟨_,_⟩:=zd01 BK153) | ((with_reducible refine gate_callee (f:=82) rfl ?_);refine goesL_ (some 123) rfl rfl Try.func82 (by kernel_rfl) rfl #[.agg #[.slice A0_0 l0_0.length c0_0],.string a1_1] rfl zM0 ?_;(with_reducible refine (spec_l03Without.calls kj59 _ _ l0_0 a1_1 t178 _ ?side1 ?side2 A282.out).mono ?_);(case side1 => exact Kd.C_below HR0_0.out (zY0 HB.out));(case side2 => exact HC0_0.out);rintro e w318 ⟨v179,rfl,ho0,hb⟩;refine ⟨_,rfl,?_⟩;have HO180:=Aside0.mk (Kd.R_lower (Kd.R_newB ho0 (g:=gb159) (o:=.cells #[.string x160000_59,.string x160001_59,.int .i64 x160002_59] 45 (0,0)) (zK0 BK159.out)) (zZ0 HB.out));replace BK153:=zb0 BK153 hb;replace BK154:=zb0 BK154 hb;replace BK155:=zb0 BK155 hb;replace BK159:=zb0 BK159 hb;replace BK161:=Aside0.mk (blk_below (g:=gb161) (o:=.cells #[.slice none 0 0] 30 (0,0)) (by refine zT0 ?_;refine blk_put (cs:=#[.slice none 0 0]) ?_ 0 _ rfl;exact zK0 BK161.out) hb);replace HB:=zs0 HB hb;(try clear hb);(try clear ho0);obtain ⟨Ao319,co319,eo319⟩:=Kd.R_slice HO180.out;subst eo319;obtain ⟨_,_⟩:=zd01 BK161) | ((with_reducible refine gate_callee (f:=68) rfl ?_);refine goesL_ (some 125) rfl rfl Try.func68 (by kernel_rfl) rfl #[.agg #[.slice Ao319 t178.length co319]] rfl zM0 ?_;(with_reducible refine (spec_DiskOk.calls kj59 _ _ t178 false _ ?side1 ?side2 A283.out).mono ?_);(case side1 => refine (Kd.R_reads' (e:=45) (base:=w.heap.size) (ok:=fun k_ => (True ∧ k_ ≠ gb159)) (n:=t178.length) (c:=co319) ?_).2.2;exact (by refine zV0 ?_;exact (Kd.R_set HO180.out BK161.out (by decide) 0 _)));(case side2 => exact (Kd.R_reads' HO180.out).2.1);rintro e w321 ⟨rfl,hb⟩;refine ⟨_,rfl,?_⟩;replace HO180:=Aside0.mk (Kd.R_below (by refine zV0 ?_;exact (Kd.R_set HO180.out BK161.out (by decide) 0 _)) hb);replace BK153:=zb0 BK153 hb;replace BK154:=zb0 BK154 hb;replace BK155:=zb0 BK155 hb;replace BK159:=zb0 BK159 hb;replace BK161:=Aside0.mk (blk_below (g:=gb161) (o:=.cells #[.slice Ao319 t178.length co319] 30 (0,0)) (by refine zT0 ?_;refine blk_put (cs:=#[.slice none 0 0]) ?_ 0 _ rfl;exact zK0 BK161.out) hb);replace HB:=zs0 HB hb;(try clear hb);(try clear hk);obtain ⟨_,_⟩:=zn0 NB155_159;obtain ⟨_,_⟩:=zd01 BK155))
            refine bodyPost_ret (results_ct rfl _ _ gb155 30 #[.slice none 0 0] (0,0) _ rfl (by refine zT0 ?_;refine blk_put (cs:=#[.slice none 0 0]) ?_ 0 _ rfl;exact zK0 BK155.out) Try.underlying30 rfl (by kernel_rfl)) rfl ?_
            exact ⟨_,zW0,by first | exact Kd.R_nil _ _ _ _ _ | exact Kd.N_nil _ _ _ _ _ | exact Kd.V_nil _ _ _ _ _ | exact Kd.Q_nil _ _ _ _ _ | exact Kd.S_nil _ _ _ _ _,(zY0 HB.out)⟩
          ·rw [if_neg c281] at H
           have c281b0 : (a1_0 == 4) = false:=beq_eq_false_iff_ne.mpr c281
           have c281b1 : (a1_0 != 4) = true:=bne_iff_ne.mpr c281
           simp only [Option.some.injEq,Prod.mk.injEq] at H
           obtain ⟨rfl,rfl⟩:=H
           go_wp2_with (first | ((with_reducible refine gate_dst (N:=8) rfl ?_);refine zy0 (cs:=#[.slice none 0 0]) (t:=30) ?_;intro gb161 hg w324 hbox hb;have BK161:=Aside0.mk hbox;have GW161:=zz0 hg HB;have GE161:=zz0 hg HB;replace HB:=zs0 HB hb;have NB153_161:=zl0 hg BK153;have NB161_153:=zg0 hg BK153;replace BK153:=zb0 BK153 hb;have NB154_161:=zl0 hg BK154;have NB161_154:=zg0 hg BK154;replace BK154:=zb0 BK154 hb;have NB155_161:=zl0 hg BK155;have NB161_155:=zg0 hg BK155;replace BK155:=zb0 BK155 hb;have NB159_161:=zl0 hg BK159;have NB161_159:=zg0 hg BK159;replace BK159:=zb0 BK159 hb;clear hb hbox hg;obtain ⟨_,_⟩:=zn0 NB161_153;obtain ⟨_,_⟩:=zn0 NB161_154;obtain ⟨_,_⟩:=zn0 NB161_155;obtain ⟨_,_⟩:=zn0 NB161_159;obtain ⟨_,_⟩:=zd01 BK161;obtain ⟨_,_⟩:=zn0 NB154_153;obtain ⟨_,_⟩:=zn0 NB154_155;obtain ⟨_,_⟩:=zn0 NB154_159;obtain ⟨_,_,_,_,_,_,_,_⟩:=zd04 BK154;obtain ⟨_,_⟩:=zn0 NB155_153;obtain ⟨_,_⟩:=zn0 NB155_159;obtain ⟨_,_⟩:=zd01 BK155))
           refine bodyPost_ret (results_ct rfl _ _ gb155 30 #[.slice none 0 0] (0,0) _ rfl (by refine zT0 ?_;refine blk_put (cs:=#[.slice none 0 0]) ?_ 0 _ rfl;exact zK0 BK155.out) Try.underlying30 rfl (by kernel_rfl)) rfl ?_
           exact ⟨_,zW0,by first | exact Kd.R_nil _ _ _ _ _ | exact Kd.N_nil _ _ _ _ _ | exact Kd.V_nil _ _ _ _ _ | exact Kd.Q_nil _ _ _ _ _ | exact Kd.S_nil _ _ _ _ _,(zY0 HB.out)⟩

end Go.Proofs.Ytgfacdhkamphiaa.PFnActs
