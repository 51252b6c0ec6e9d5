/- Walks of functions that the law FnExactDiffer reaches, turned by this session from a print of which a part did not build; what was changed is listed in wip/patches of the proofs' repo. -/
import Derived.Test.YtlekhcopddajbaaOFnExactDifferx0
import Derived.Test.YtlekhcopddajbaaOFnExactDifferx3
import Derived.Test.YtlekhcopddajbaaOFnExactDifferx5
import Derived.Test.YtlekhcopddajbaaOFnExactDifferx6
namespace Go.Proofs.Ytlekhcopddajbaa.PFnExactDiffer
open Go.RowKit Go.Proofs.YtlekhcopddajbaaW.PrintWords Go.Proofs.YtlekhcopddajbaaW.PrintLast Go.Proofs.YtlekhcopddajbaaW.PrintMore
attribute [local go_sem] max2_int min2_int max_two min_two max_three min_three max_four min_four   -- for this text's walks alone
set_option linter.unusedVariables false
set_option linter.unusedSimpArgs false

/-! ### spec_Differ: function 5 -/
mutual
def spec_Differ.j0 : Nat → List (S42) → List (S42) → List (S44) → Bool → Option ((List (S44)))
 | 0,_,_,_,_ => none
 | k + 1,x0,x1,x5,x20 => if x20 = true then (some x5) else (spec_Differ.l0 k x0 x1 x5 0 0)
def spec_Differ.l0 : Nat → List (S42) → List (S42) → List (S44) → Int → Int → Option ((List (S44)))
 | 0,_,_,_,_,_ => none
 | k + 1,x0,x1,x5,x6,x7 => if x6 < (x0.length : Int) then (spec_Differ.j2 k x0 x1 x5 x6 x7 true) else (spec_Differ.j2 k x0 x1 x5 x6 x7 (decide (x7 < (x1.length : Int))))
def spec_Differ.j2 : Nat → List (S42) → List (S42) → List (S44) → Int → Int → Bool → Option ((List (S44)))
 | 0,_,_,_,_,_,_ => none
 | k + 1,x0,x1,x5,x6,x7,x31 => if x31 = true then (if x7 = (x1.length : Int) then (spec_Differ.j3 k x0 x1 x5 x6 x7 true) else (if x6 < (x0.length : Int) then (if 0 ≤ x6 then (if 0 ≤ x7 then (if x7 < (x1.length : Int) then (spec_Differ.j3 k x0 x1 x5 x6 x7 (Op.bytesLess (((rd_T42 x0 x6).f0).toList) (((rd_T42 x1 x7).f0).toList))) else (none)) else (none)) else (none)) else (spec_Differ.j3 k x0 x1 x5 x6 x7 false))) else (some x5)
def spec_Differ.j3 : Nat → List (S42) → List (S42) → List (S44) → Int → Int → Bool → Option ((List (S44)))
 | 0,_,_,_,_,_,_ => none
 | k + 1,x0,x1,x5,x6,x7,x67 => if x67 = true then (if 0 ≤ x6 then (if x6 < (x0.length : Int) then (if x5.length < 3518437208883 then (spec_Differ.l0 k x0 x1 (x5 ++ [(⟨(rd_T42 x0 x6).f0,(⟨#[]⟩ : ByteArray),true⟩ : S44)]) (wrap64 (x6 + 1)) x7) else (none)) else (none)) else (none)) else (if x6 = (x0.length : Int) then (spec_Differ.j4 k x0 x1 x5 x6 x7 true) else (if 0 ≤ x7 then (if x7 < (x1.length : Int) then (if 0 ≤ x6 then (if x6 < (x0.length : Int) then (spec_Differ.j4 k x0 x1 x5 x6 x7 (Op.bytesLess (((rd_T42 x1 x7).f0).toList) (((rd_T42 x0 x6).f0).toList))) else (none)) else (none)) else (none)) else (none)))
def spec_Differ.j4 : Nat → List (S42) → List (S42) → List (S44) → Int → Int → Bool → Option ((List (S44)))
 | 0,_,_,_,_,_,_ => none
 | k + 1,x0,x1,x5,x6,x7,x102 => if x102 = true then (if 0 ≤ x7 then (if x7 < (x1.length : Int) then ((spec_ValText.f k ((rd_T42 x1 x7).f1.f0) ((rd_T42 x1 x7).f1.f1) ((rd_T42 x1 x7).f1.f2) ((rd_T42 x1 x7).f1.f3)).bind fun bt167 => (if x5.length < 3518437208883 then (spec_Differ.l0 k x0 x1 (x5 ++ [(⟨(rd_T42 x1 x7).f0,bt167.1,false⟩ : S44)]) x6 (wrap64 (x7 + 1))) else (none))) else (none)) else (none)) else (if 0 ≤ x6 then (if x6 < (x0.length : Int) then (if 0 ≤ x7 then (if x7 < (x1.length : Int) then ((spec_l10Same.f k ((rd_T42 x0 x6).f1.f0) ((rd_T42 x0 x6).f1.f1) ((rd_T42 x0 x6).f1.f2) ((rd_T42 x0 x6).f1.f3) ((rd_T42 x1 x7).f1.f0) ((rd_T42 x1 x7).f1.f1) ((rd_T42 x1 x7).f1.f2) ((rd_T42 x1 x7).f1.f3)).bind fun t175 => (if t175 = true then (spec_Differ.l0 k x0 x1 x5 (wrap64 (x6 + 1)) (wrap64 (x7 + 1))) else ((spec_ValText.f k ((rd_T42 x1 x7).f1.f0) ((rd_T42 x1 x7).f1.f1) ((rd_T42 x1 x7).f1.f2) ((rd_T42 x1 x7).f1.f3)).bind fun bt177 => (if x5.length < 3518437208883 then (spec_Differ.l0 k x0 x1 (x5 ++ [(⟨(rd_T42 x1 x7).f0,bt177.1,false⟩ : S44)]) (wrap64 (x6 + 1)) (wrap64 (x7 + 1))) else (none))))) else (none)) else (none)) else (none)) else (none))
end
def spec_Differ.f (k : Nat) (l0 : List (S42)) (l1 : List (S42)) : Option ((List (S44))):=(some (([] : List (S44)) : List (S44))).bind fun y153 => ((spec_TableOk.f k l0).bind fun t156 => (if t156 = true then ((spec_TableOk.f k l1).bind fun t157 => (spec_Differ.j0 k l0 l1 y153 (!t157))) else (spec_Differ.j0 k l0 l1 y153 true)))
theorem spec_Differ.mono_l : ∀ k,(∀ y0 y1 y2 y3,LeO (spec_Differ.j0 k y0 y1 y2 y3) (spec_Differ.j0 (k + 1) y0 y1 y2 y3)) ∧ (∀ y0 y1 y2 y3 y4,LeO (spec_Differ.l0 k y0 y1 y2 y3 y4) (spec_Differ.l0 (k + 1) y0 y1 y2 y3 y4)) ∧ (∀ y0 y1 y2 y3 y4 y5,LeO (spec_Differ.j2 k y0 y1 y2 y3 y4 y5) (spec_Differ.j2 (k + 1) y0 y1 y2 y3 y4 y5)) ∧ (∀ y0 y1 y2 y3 y4 y5,LeO (spec_Differ.j3 k y0 y1 y2 y3 y4 y5) (spec_Differ.j3 (k + 1) y0 y1 y2 y3 y4 y5)) ∧ (∀ y0 y1 y2 y3 y4 y5,LeO (spec_Differ.j4 k y0 y1 y2 y3 y4 y5) (spec_Differ.j4 (k + 1) y0 y1 y2 y3 y4 y5))
 | 0 => ⟨fun _ _ _ _ r h => by simp [spec_Differ.j0] at h,fun _ _ _ _ _ r h => by simp [spec_Differ.l0] at h,fun _ _ _ _ _ _ r h => by simp [spec_Differ.j2] at h,fun _ _ _ _ _ _ r h => by simp [spec_Differ.j3] at h,fun _ _ _ _ _ _ r h => by simp [spec_Differ.j4] at h⟩
 | k + 1 => by
  obtain ⟨ih0,ih1,ih2,ih3,ih4⟩:=spec_Differ.mono_l k
  refine ⟨?_,?_,?_,?_,?_⟩
  ·intro y0 y1 y2 y3
   unfold spec_Differ.j0
   repeat' first
   | (with_reducible exact ih0 _ _ _ _)
   | (with_reducible exact ih1 _ _ _ _ _)
   | (with_reducible exact ih2 _ _ _ _ _ _)
   | (with_reducible exact ih3 _ _ _ _ _ _)
   | (with_reducible exact ih4 _ _ _ _ _ _)
   | (with_reducible exact spec_TableOk.mono _ _)
   | (with_reducible exact spec_ValText.mono _ _ _ _ _)
   | (with_reducible exact spec_l10Same.mono _ _ _ _ _ _ _ _ _)
   | (with_reducible exact LeO.refl _)
   | (with_reducible exact LeO.none _)
   | (with_reducible refine LeO.ite ?_ ?_)
   | (with_reducible refine LeO.bind ?_ (fun _ => ?_))
   | exact ih0 _ _ _ _
   | exact ih1 _ _ _ _ _
   | exact ih2 _ _ _ _ _ _
   | exact ih3 _ _ _ _ _ _
   | exact ih4 _ _ _ _ _ _
   | exact spec_TableOk.mono _ _
   | exact spec_ValText.mono _ _ _ _ _
   | exact spec_l10Same.mono _ _ _ _ _ _ _ _ _
   | exact LeO.none _
   | refine LeO.ite ?_ ?_
   | refine LeO.bind ?_ (fun _ => ?_)
  ·intro y0 y1 y2 y3 y4
   unfold spec_Differ.l0
   repeat' first
   | (with_reducible exact ih0 _ _ _ _)
   | (with_reducible exact ih1 _ _ _ _ _)
   | (with_reducible exact ih2 _ _ _ _ _ _)
   | (with_reducible exact ih3 _ _ _ _ _ _)
   | (with_reducible exact ih4 _ _ _ _ _ _)
   | (with_reducible exact spec_TableOk.mono _ _)
   | (with_reducible exact spec_ValText.mono _ _ _ _ _)
   | (with_reducible exact spec_l10Same.mono _ _ _ _ _ _ _ _ _)
   | (with_reducible exact LeO.refl _)
   | (with_reducible exact LeO.none _)
   | (with_reducible refine LeO.ite ?_ ?_)
   | (with_reducible refine LeO.bind ?_ (fun _ => ?_))
   | exact ih0 _ _ _ _
   | exact ih1 _ _ _ _ _
   | exact ih2 _ _ _ _ _ _
   | exact ih3 _ _ _ _ _ _
   | exact ih4 _ _ _ _ _ _
   | exact spec_TableOk.mono _ _
   | exact spec_ValText.mono _ _ _ _ _
   | exact spec_l10Same.mono _ _ _ _ _ _ _ _ _
   | exact LeO.none _
   | refine LeO.ite ?_ ?_
   | refine LeO.bind ?_ (fun _ => ?_)
  ·intro y0 y1 y2 y3 y4 y5
   unfold spec_Differ.j2
   repeat' first
   | (with_reducible exact ih0 _ _ _ _)
   | (with_reducible exact ih1 _ _ _ _ _)
   | (with_reducible exact ih2 _ _ _ _ _ _)
   | (with_reducible exact ih3 _ _ _ _ _ _)
   | (with_reducible exact ih4 _ _ _ _ _ _)
   | (with_reducible exact spec_TableOk.mono _ _)
   | (with_reducible exact spec_ValText.mono _ _ _ _ _)
   | (with_reducible exact spec_l10Same.mono _ _ _ _ _ _ _ _ _)
   | (with_reducible exact LeO.refl _)
   | (with_reducible exact LeO.none _)
   | (with_reducible refine LeO.ite ?_ ?_)
   | (with_reducible refine LeO.bind ?_ (fun _ => ?_))
   | exact ih0 _ _ _ _
   | exact ih1 _ _ _ _ _
   | exact ih2 _ _ _ _ _ _
   | exact ih3 _ _ _ _ _ _
   | exact ih4 _ _ _ _ _ _
   | exact spec_TableOk.mono _ _
   | exact spec_ValText.mono _ _ _ _ _
   | exact spec_l10Same.mono _ _ _ _ _ _ _ _ _
   | exact LeO.none _
   | refine LeO.ite ?_ ?_
   | refine LeO.bind ?_ (fun _ => ?_)
  ·intro y0 y1 y2 y3 y4 y5
   unfold spec_Differ.j3
   repeat' first
   | (with_reducible exact ih0 _ _ _ _)
   | (with_reducible exact ih1 _ _ _ _ _)
   | (with_reducible exact ih2 _ _ _ _ _ _)
   | (with_reducible exact ih3 _ _ _ _ _ _)
   | (with_reducible exact ih4 _ _ _ _ _ _)
   | (with_reducible exact spec_TableOk.mono _ _)
   | (with_reducible exact spec_ValText.mono _ _ _ _ _)
   | (with_reducible exact spec_l10Same.mono _ _ _ _ _ _ _ _ _)
   | (with_reducible exact LeO.refl _)
   | (with_reducible exact LeO.none _)
   | (with_reducible refine LeO.ite ?_ ?_)
   | (with_reducible refine LeO.bind ?_ (fun _ => ?_))
   | exact ih0 _ _ _ _
   | exact ih1 _ _ _ _ _
   | exact ih2 _ _ _ _ _ _
   | exact ih3 _ _ _ _ _ _
   | exact ih4 _ _ _ _ _ _
   | exact spec_TableOk.mono _ _
   | exact spec_ValText.mono _ _ _ _ _
   | exact spec_l10Same.mono _ _ _ _ _ _ _ _ _
   | exact LeO.none _
   | refine LeO.ite ?_ ?_
   | refine LeO.bind ?_ (fun _ => ?_)
  ·intro y0 y1 y2 y3 y4 y5
   unfold spec_Differ.j4
   repeat' first
   | (with_reducible exact ih0 _ _ _ _)
   | (with_reducible exact ih1 _ _ _ _ _)
   | (with_reducible exact ih2 _ _ _ _ _ _)
   | (with_reducible exact ih3 _ _ _ _ _ _)
   | (with_reducible exact ih4 _ _ _ _ _ _)
   | (with_reducible exact spec_TableOk.mono _ _)
   | (with_reducible exact spec_ValText.mono _ _ _ _ _)
   | (with_reducible exact spec_l10Same.mono _ _ _ _ _ _ _ _ _)
   | (with_reducible exact LeO.refl _)
   | (with_reducible exact LeO.none _)
   | (with_reducible refine LeO.ite ?_ ?_)
   | (with_reducible refine LeO.bind ?_ (fun _ => ?_))
   | exact ih0 _ _ _ _
   | exact ih1 _ _ _ _ _
   | exact ih2 _ _ _ _ _ _
   | exact ih3 _ _ _ _ _ _
   | exact ih4 _ _ _ _ _ _
   | exact spec_TableOk.mono _ _
   | exact spec_ValText.mono _ _ _ _ _
   | exact spec_l10Same.mono _ _ _ _ _ _ _ _ _
   | exact LeO.none _
   | refine LeO.ite ?_ ?_
   | refine LeO.bind ?_ (fun _ => ?_)
theorem spec_Differ.mono : ∀ a0 a1 k,LeO (spec_Differ.f k a0 a1) (spec_Differ.f (k + 1) a0 a1):=by
 intro a0 a1 k
 obtain ⟨ih0,ih1,ih2,ih3,ih4⟩:=spec_Differ.mono_l k
 unfold spec_Differ.f
 repeat' first
   | (with_reducible exact ih0 _ _ _ _)
   | (with_reducible exact ih1 _ _ _ _ _)
   | (with_reducible exact ih2 _ _ _ _ _ _)
   | (with_reducible exact ih3 _ _ _ _ _ _)
   | (with_reducible exact ih4 _ _ _ _ _ _)
   | (with_reducible exact spec_TableOk.mono _ _)
   | (with_reducible exact spec_ValText.mono _ _ _ _ _)
   | (with_reducible exact spec_l10Same.mono _ _ _ _ _ _ _ _ _)
   | (with_reducible exact LeO.refl _)
   | (with_reducible exact LeO.none _)
   | (with_reducible refine LeO.ite ?_ ?_)
   | (with_reducible refine LeO.bind ?_ (fun _ => ?_))
   | exact ih0 _ _ _ _
   | exact ih1 _ _ _ _ _
   | exact ih2 _ _ _ _ _ _
   | exact ih3 _ _ _ _ _ _
   | exact ih4 _ _ _ _ _ _
   | exact spec_TableOk.mono _ _
   | exact spec_ValText.mono _ _ _ _ _
   | exact spec_l10Same.mono _ _ _ _ _ _ _ _ _
   | exact LeO.none _
   | refine LeO.ite ?_ ?_
   | refine LeO.bind ?_ (fun _ => ?_)
def spec_Differ.T7 : Bool × List (List Nat × List Nat):=(true,[([],[]),([],[]),([0,1],[0,1]),([2],[2]),([3],[3]),([],[]),([],[]),([5,6],[5,6]),([7],[7]),([8],[8]),([4,9],[4,9]),([10],[10])])
def spec_Differ.B7 : List Nat:=[0,0,3,7,15,0,0,96,224,480,1023,2047]
theorem spec_Differ.tab7 : rtab .any (opsOf Try.f5 7) = spec_Differ.T7:=by kernel_rfl
theorem spec_Differ.bits7 : waitsOk spec_Differ.T7.2 spec_Differ.B7 = true:=by kernel_rfl
def spec_Differ.T12 : Bool × List (List Nat × List Nat):=(true,[([],[]),([],[]),([1],[1]),([0,2],[0,2]),([3],[3]),([4],[4]),([4],[4]),([6,4],[4,6]),([5,7,4],[4,5,7]),([8,4,4],[4,8]),([9],[9]),([9],[9]),([10,11,9],[9,10,11]),([12,9],[9,12]),([13,9],[9,13]),([9],[9]),([9],[9]),([15,16,9],[9,15,16]),([17,9],[9,17]),([18,9],[9,18]),([14,19,9],[9,14,19]),([9,20,4],[4,9,20]),([4,21],[4,21]),([22,9],[22])])
def spec_Differ.B12 : List Nat:=[0,0,2,7,15,31,31,95,255,511,1023,1023,4095,8191,16383,1023,1023,99327,230399,492543,1048575,2097151,4194303,8388607]
theorem spec_Differ.tab12 : rtab .any (opsOf Try.f5 12) = spec_Differ.T12:=by kernel_rfl
theorem spec_Differ.bits12 : waitsOk spec_Differ.T12.2 spec_Differ.B12 = true:=by kernel_rfl
def spec_Differ.T15 : Bool × List (List Nat × List Nat):=(true,[([],[]),([],[]),([1],[1]),([0,2],[0,2]),([3],[3]),([4],[4]),([4],[4]),([5,6,4],[4,5,6]),([7,4],[4,7]),([8,4],[4,8]),([4],[4]),([4],[4]),([10,11,4],[4,10,11]),([12,4],[4,12]),([13,4],[4,13]),([9,14,4],[4,9,14]),([4,15],[4,15]),([16,4],[16])])
def spec_Differ.B15 : List Nat:=[0,0,2,7,15,31,31,127,255,511,31,31,3103,7199,15391,32767,65535,131071]
theorem spec_Differ.tab15 : rtab .any (opsOf Try.f5 15) = spec_Differ.T15:=by kernel_rfl
theorem spec_Differ.bits15 : waitsOk spec_Differ.T15.2 spec_Differ.B15 = true:=by kernel_rfl
set_option maxHeartbeats 8000000 in
set_option maxRecDepth 100000 in
theorem spec_Differ.calls (k : Nat) (A0 : Option Addr) (c0 : Nat) (l0 : List (S42)) (A1 : Option Addr) (c1 : Nat) (l1 : List (S42)) (r : List (S44)) (w : World) (hr0 : Kd.C k42 w A0 l0.length l0) (hc0 : l0.length ≤ c0) (hr1 : Kd.C k42 w A1 l1.length l1) (hc1 : l1.length ≤ c1) (h : spec_Differ.f k l0 l1 = some r) :
  Calls Try.prog 5 #[.slice A0 l0.length c0,.slice A1 l1.length c1] w fun e w' => ∃ v0_ : Value,e = .returned (v0_) ∧ Kd.R k44 44 w' w.heap.size (fun _ => True) v0_ r ∧ Below w.heap.size w w':=by
 have hu44:=Try.underlying44
 have hu40:=Try.underlying40
 have HR0:=Aside0.mk hr0
 have HC0:=Aside0.mk hc0
 clear hr0 hc0
 have HR1:=Aside0.mk hr1
 have HC1:=Aside0.mk hc1
 clear hr1 hc1
 have HB:=Aside0.mk (Below.refl w.heap.size w)
 have H : ((some (([] : List (S44)) : List (S44))).bind fun y153 => ((spec_TableOk.f k l0).bind fun t156 => (if t156 = true then ((spec_TableOk.f k l1).bind fun t157 => (spec_Differ.j0 k l0 l1 y153 (!t157))) else (spec_Differ.j0 k l0 l1 y153 true)))) = some r:=h
 clear h
 obtain ⟨y153,hy153⟩ : ∃ y_ : List (S44),y_ = (([] : List (S44))):=⟨_,rfl⟩
 replace H : ((spec_TableOk.f k l0).bind fun t156 => (if t156 = true then ((spec_TableOk.f k l1).bind fun t157 => (spec_Differ.j0 k l0 l1 y153 (!t157))) else (spec_Differ.j0 k l0 l1 y153 true))) = some r:=by first | (rw [hy153];with_reducible exact H) | (have H2_:=(Option.bind_some _ _).symm.trans H;rw [hy153];with_reducible exact H2_) | (have H2_:=(Option.bind_some _ _).symm.trans H;with_reducible exact H2_) | with_reducible exact H | (rw [hy153];exact H) | exact H
 have Ny153:=Aside0.mk hy153
 clear hy153
 have HC3:=Aside0.mk H
 clear H
 go_enter Try.func5,Try.ntmps5
 go_upto_region 2 with (first | ((with_reducible refine gate_dst (N:=12) rfl ?_);(try (refine gate_guard (by rfl) ?_;dsimp only));refine Kd.R_lit k44 _ 44 ?hg (N:=12) ?hd (xs:=([] : List (S44))) (inner:=[]) (ok:=fun _ => True) (okp:=fun _ => True) ?hr ?hp (fun _ hk => hk) trivial (Below.refl _ _) (Nat.le_refl _) (by simp) ?_;(case hd => rfl);(case hg => rfl);(case hr => first | (go_simp;done) | (go_simp;rfl));(case hp => exact (Reps.none _ _));intro v154 w4 ho5 hb hg_ hnew_;clear hg_ hnew_;(first | rw [← Ny153.out] at ho5 | (simp only [Int.reduceToNat] at ho5;rw [← Ny153.out] at ho5));have n0_:=Aside0.mk (Kd.R_lower ho5 (zZ0 HB.out));have n1_:=Aside0.mk (zS0 HB.out hb);clear HB;have HO155:=n0_;have HB:=n1_;clear n0_ n1_;clear hb ho5))
 (try simp only [Act.put,qA0,qB0,qC0])
 go_cut [20] (fun v20 wc => ∃ (kq : Nat) (x20_2 : Bool),v20 = .bool x20_2 ∧ Aside0 (spec_Differ.j0 kq l0 l1 y153 x20_2 = some r) ∧ Aside0 (kq ≤ k) ∧ Aside0 (Kd.R k44 44 wc w.heap.size (fun _ => True) v154 y153) ∧ Aside0 (Below w.heap.size w wc))
 case first =>
  have H:=HC3.out
  clear HC3
  replace H:=Option.bind_eq_some_iff.mp H
  obtain ⟨t156,A60,H⟩:=H
  replace H : (if t156 = true then ((spec_TableOk.f k l1).bind fun t157 => (spec_Differ.j0 k l0 l1 y153 (!t157))) else (spec_Differ.j0 k l0 l1 y153 true)) = some r:=H
  have A6:=Aside0.mk A60
  clear A60
  by_cases c7 : t156 = true
  ·subst c7
   have H1 : ((spec_TableOk.f k l1).bind fun t157 => (spec_Differ.j0 k l0 l1 y153 (!t157))) = some r:=by rw [if_pos rfl] at H;exact H
   clear H
   have H:=H1
   clear H1
   replace H:=Option.bind_eq_some_iff.mp H
   obtain ⟨t157,A80,H⟩:=H
   replace H : (spec_Differ.j0 k l0 l1 y153 (!t157)) = some r:=H
   have A8:=Aside0.mk A80
   clear A80
   have H':=Aside0.mk H
   clear H
   go_wp2_with (first | ((with_reducible refine gate_callee (f:=14) rfl ?_);refine goesL_ (some 14) rfl rfl Try.func14 (by kernel_rfl) rfl #[.slice A0 l0.length c0] rfl zM0 ?_;(with_reducible refine (spec_TableOk.calls k _ _ l0 true _ ?side1 ?side2 A6.out).mono ?_);(case side1 => repeat (first | exact (Kd.C_below HR0.out HB.out) | (with_reducible refine Kd.C_alloc ?_ _) | (with_reducible refine Kd.C_drewN ?_ _) | (with_reducible refine Kd.C_drew ?_)));(case side2 => exact HC0.out);rintro e w9 ⟨rfl,hb⟩;refine ⟨_,rfl,?_⟩;have n0_:=Aside0.mk (Kd.R_below (zR0 HO155.out) hb);have n1_:=Aside0.mk (zS0 HB.out hb);clear HO155;clear HB;have HO155:=n0_;have HB:=n1_;clear n0_ n1_;(try clear hb);(try clear hb2);(try clear hk);(try clear hi)) | (go_at_call 14;(with_reducible refine (spec_TableOk.calls k _ _ l1 t157 _ ?side1 ?side2 A8.out).mono ?_);(case side1 => repeat (first | exact (Kd.C_below HR1.out HB.out) | (with_reducible refine Kd.C_alloc ?_ _) | (with_reducible refine Kd.C_drewN ?_ _) | (with_reducible refine Kd.C_drew ?_)));(case side2 => exact HC1.out);rintro e w10 ⟨rfl,hb⟩;have n0_:=Aside0.mk (Kd.R_below (zR0 HO155.out) hb);have n1_:=Aside0.mk (zS0 HB.out hb);clear HO155;clear HB;have HO155:=n0_;have HB:=n1_;clear n0_ n1_;(try clear hb);(try clear hb2);(try clear hk);(try clear hi)))
   go_meet
   case rel => exact ⟨_,(!t157),(by first | rfl | (simp;done) | (simp [*];done)),H',⟨by first | omega | exact Nat.le_refl _⟩,⟨by (with_reducible repeat (first | apply Kd.R_alloc | apply Kd.R_drewN | apply Kd.R_drew));exact HO155.out⟩,⟨by repeat (first | (with_reducible first | exact HB.out | apply below_alloc | apply pw_below_drewN | apply below_drew1) | exact HB.out)⟩⟩
  ·replace c7:=Bool.eq_false_iff.mpr c7
   subst c7
   have H1 : (spec_Differ.j0 k l0 l1 y153 true) = some r:=by rw [if_neg (show ¬ (false = true) by decide)] at H;exact H
   clear H
   have H:=H1
   clear H1
   have H':=Aside0.mk H
   clear H
   go_wp2_with (first | ((with_reducible refine gate_callee (f:=14) rfl ?_);refine goesL_ (some 14) rfl rfl Try.func14 (by kernel_rfl) rfl #[.slice A0 l0.length c0] rfl zM0 ?_;(with_reducible refine (spec_TableOk.calls k _ _ l0 false _ ?side1 ?side2 A6.out).mono ?_);(case side1 => repeat (first | exact (Kd.C_below HR0.out HB.out) | (with_reducible refine Kd.C_alloc ?_ _) | (with_reducible refine Kd.C_drewN ?_ _) | (with_reducible refine Kd.C_drew ?_)));(case side2 => exact HC0.out);rintro e w11 ⟨rfl,hb⟩;refine ⟨_,rfl,?_⟩;have n0_:=Aside0.mk (Kd.R_below (zR0 HO155.out) hb);have n1_:=Aside0.mk (zS0 HB.out hb);clear HO155;clear HB;have HO155:=n0_;have HB:=n1_;clear n0_ n1_;(try clear hb);(try clear hb2);(try clear hk);(try clear hi)))
   go_meet
   case rel => exact ⟨_,(true),(by first | rfl | (simp;done) | (simp [*];done)),H',⟨by first | omega | exact Nat.le_refl _⟩,⟨by (with_reducible repeat (first | apply Kd.R_alloc | apply Kd.R_drewN | apply Kd.R_drew));exact HO155.out⟩,⟨by repeat (first | (with_reducible first | exact HB.out | apply below_alloc | apply pw_below_drewN | apply below_drew1) | exact HB.out)⟩⟩
 case rest =>
  clear HC3
  try clear c1
  try clear p2
  try clear c5
  try clear c7
  obtain ⟨kq,x20_2,rfl,HA,HJ2,HO_5,HB⟩:=hcut
  cases kq with
  | zero => exact absurd HA.out (by simp [spec_Differ.j0])
  | succ kj2 =>
   have H:=HA.out
   clear HA
   simp only [spec_Differ.j0] at H
   by_cases c12 : x20_2 = true
   ·subst c12
    have H1 : (some y153) = some r:=by rw [if_pos rfl] at H;exact H
    clear H
    have H:=H1
    clear H1
    obtain rfl:=Option.some.inj H
    go_wp2
    go_ret
    exact ⟨_,by first | rfl | (simp [errW_none,errW_some] <;> rfl) | (simp [*,errW_none,errW_some] <;> rfl),by (with_reducible repeat (first | apply Kd.R_alloc | apply Kd.R_drewN | apply Kd.R_drew));exact HO_5.out,by repeat (first | (with_reducible first | exact HB.out | apply below_alloc | apply pw_below_drewN | apply below_drew1) | exact HB.out)⟩
   ·replace c12:=Bool.eq_false_iff.mpr c12
    subst c12
    have H1 : (spec_Differ.l0 kj2 l0 l1 y153 0 0) = some r:=by rw [if_neg (show ¬ (false = true) by decide)] at H;exact H
    clear H
    have H:=H1
    clear H1
    have H':=Aside0.mk H
    clear H
    go_wp2
    go_loopg [5,6,7] kj2 (fun kq v5 v6 v7 w' => ∃ (x5_2 : List (S44)) (x6_2 : Int) (x7_2 : Int),v6 = .int .i64 x6_2 ∧ v7 = .int .i64 x7_2 ∧ Aside0 (spec_Differ.l0 kq l0 l1 x5_2 x6_2 x7_2 = some r) ∧ Aside0 (kq ≤ kj2) ∧ Aside0 (Kd.R k44 44 w' w.heap.size (fun _ => True) v5 x5_2) ∧ Aside0 (Below w.heap.size w w'))
    case atStart => exact ⟨(y153),(0),(0),(by first | rfl | (simp;done) | (simp [*];done)),(by first | rfl | (simp;done) | (simp [*];done)),H',⟨Nat.le_refl _⟩,⟨by (with_reducible repeat (first | apply Kd.R_alloc | apply Kd.R_drewN | apply Kd.R_drew));exact HO_5.out⟩,⟨by repeat (first | (with_reducible first | exact HB.out | apply below_alloc | apply pw_below_drewN | apply below_drew1) | exact HB.out)⟩⟩
    case round =>
     clear H'
     try clear c1
     try clear p2
     try clear c5
     try clear c7
     try clear c12
     try clear p2
     obtain ⟨x5_2,x6_2,x7_2,rfl,rfl,HA,HK2,HO_5,HB⟩:=hrel
     cases gk with
     | zero => exact absurd HA.out (by simp [spec_Differ.l0])
     | succ k2 =>
      have H:=HA.out
      clear HA
      simp only [spec_Differ.l0] at H
      have HC13:=Aside0.mk H
      clear H
      go_upto_region 6 with (fail)
      go_cut [31] (fun v31 wc => ∃ (kq : Nat) (x31_12 : Bool),v31 = .bool x31_12 ∧ Aside0 (spec_Differ.j2 kq l0 l1 x5_2 x6_2 x7_2 x31_12 = some r) ∧ Aside0 (kq ≤ k2) ∧ Aside0 (Kd.R k44 44 wc w.heap.size (fun _ => True) u5 x5_2) ∧ Aside0 (Below w.heap.size w wc))
      case first =>
       have H:=HC13.out
       clear HC13
       by_cases c14 : x6_2 < (l0.length : Int)
       ·rw [if_pos c14] at H
        have c14b0 : decide (x6_2 < (l0.length : Int)) = true:=decide_eq_true c14
        clear c14
        (first | rw [c14b0] | (simp only [i64_w,i32_w];rw [c14b0]) | skip)
        have H':=Aside0.mk H
        clear H
        go_wp2
        go_meet
        case rel => exact ⟨_,(true),(by first | rfl | (simp;done) | (simp [*];done)),H',⟨by have:=HJ2.out;have:=HK2.out;first | omega | exact Nat.le_refl _⟩,⟨by (with_reducible repeat (first | apply Kd.R_alloc | apply Kd.R_drewN | apply Kd.R_drew));exact HO_5.out⟩,⟨by repeat (first | (with_reducible first | exact HB.out | apply below_alloc | apply pw_below_drewN | apply below_drew1) | exact HB.out)⟩⟩
       ·rw [if_neg c14] at H
        have c14b0 : decide (x6_2 < (l0.length : Int)) = false:=decide_eq_false c14
        clear c14
        (first | rw [c14b0] | (simp only [i64_w,i32_w];rw [c14b0]) | skip)
        have H':=Aside0.mk H
        clear H
        go_wp2
        go_meet
        case rel => exact ⟨_,(decide (x7_2 < (l1.length : Int))),(by first | rfl | (simp;done) | (simp [*];done)),H',⟨by have:=HJ2.out;have:=HK2.out;first | omega | exact Nat.le_refl _⟩,⟨by (with_reducible repeat (first | apply Kd.R_alloc | apply Kd.R_drewN | apply Kd.R_drew));exact HO_5.out⟩,⟨by repeat (first | (with_reducible first | exact HB.out | apply below_alloc | apply pw_below_drewN | apply below_drew1) | exact HB.out)⟩⟩
      case rest =>
       clear HC13
       try clear c1
       try clear p2
       try clear c5
       try clear c7
       try clear c12
       try clear c14
       try clear c14b0
       try clear p2
       obtain ⟨kq,x31_12,rfl,HA,HJ12,HO_5,HB⟩:=hcut
       cases kq with
       | zero => exact absurd HA.out (by simp [spec_Differ.j2])
       | succ kj12 =>
        have H:=HA.out
        clear HA
        simp only [spec_Differ.j2] at H
        by_cases c15 : x31_12 = true
        ·subst c15
         have H1 : (if x7_2 = (l1.length : Int) then (spec_Differ.j3 kj12 l0 l1 x5_2 x6_2 x7_2 true) else (if x6_2 < (l0.length : Int) then (if 0 ≤ x6_2 then (if 0 ≤ x7_2 then (if x7_2 < (l1.length : Int) then (spec_Differ.j3 kj12 l0 l1 x5_2 x6_2 x7_2 (Op.bytesLess (((rd_T42 l0 x6_2).f0).toList) (((rd_T42 l1 x7_2).f0).toList))) else (none)) else (none)) else (none)) else (spec_Differ.j3 kj12 l0 l1 x5_2 x6_2 x7_2 false))) = some r:=by rw [if_pos rfl] at H;exact H
         clear H
         have H:=H1
         clear H1
         have HC16:=Aside0.mk H
         clear H
         go_upto_region 12 with (fail)
         go_cut [67] (fun v67 wc => ∃ (kq : Nat) (x67_15 : Bool),v67 = .bool x67_15 ∧ Aside0 (spec_Differ.j3 kq l0 l1 x5_2 x6_2 x7_2 x67_15 = some r) ∧ Aside0 (kq ≤ kj12) ∧ Aside0 (Kd.R k44 44 wc w.heap.size (fun _ => True) u5 x5_2) ∧ Aside0 (Below w.heap.size w wc))
         case first =>
          have H:=HC16.out
          clear HC16
          by_cases c17 : x7_2 = (l1.length : Int)
          ·rw [if_pos c17] at H
           have c17b0 : (x7_2 == (l1.length : Int)) = true:=beq_iff_eq.mpr c17
           have c17b1 : (x7_2 != (l1.length : Int)) = false:=bne_eq_false_iff_eq.mpr c17
           clear c17
           (first | rw [c17b0] | (simp only [i64_w,i32_w];rw [c17b0]) | skip)
           have H':=Aside0.mk H
           clear H
           try go_wp2
           have n0_:=Aside0.mk (Kd.R_drew HO_5.out)
           have n1_:=Aside0.mk (below_drew1 HB.out)
           clear HO_5
           clear HB
           have HO_5:=n0_
           have HB:=n1_
           clear n0_ n1_
           refine start_ (n:=24) (S:=fun w' => True) (ds:=[]) (zF0 24 0) (by kernel_rfl) rfl rfl trivial (fun hHeld => ?_);refine with_tabW spec_Differ.tab12 spec_Differ.bits12 (fun HT_ HW_ => ?_)
           generalize wc.drew = w18 at HO_5 HB hHeld ⊢
           refine zP0 (i:=0) (N:=some 68) (zF0 24 1) rfl rfl HT_.out ?_
           refine zP0 (i:=1) (N:=some 69) (zF0 24 3) rfl rfl HT_.out ?_
           refine zP0 (i:=2) (N:=some 70) (zF0 24 7) rfl rfl HT_.out ?_
           refine zP0 (i:=3) (N:=some 71) (zF0 24 15) rfl rfl HT_.out ?_
           refine zP0 (i:=4) (N:=some 72) (zF0 24 31) rfl rfl HT_.out ?_
           refine zQ0 (i:=5) (N:=some 73) (zF0 24 63) rfl rfl HT_.out ?_
           refine zQ0 (i:=6) (N:=some 74) (zF0 24 127) rfl rfl HT_.out ?_
           refine zQ0 (i:=7) (N:=some 75) (zF0 24 255) rfl rfl HT_.out ?_
           refine zQ0 (i:=8) (N:=some 76) (zF0 24 511) rfl rfl HT_.out ?_
           refine zQ0 (i:=9) (N:=some 77) (zF0 24 1023) rfl rfl HT_.out ?_
           refine zQ0 (i:=10) (N:=some 78) (zF0 24 2047) rfl rfl HT_.out ?_
           refine zQ0 (i:=11) (N:=some 79) (zF0 24 4095) rfl rfl HT_.out ?_
           refine zQ0 (i:=12) (N:=some 80) (zF0 24 8191) rfl rfl HT_.out ?_
           refine zQ0 (i:=13) (N:=some 81) (zF0 24 16383) rfl rfl HT_.out ?_
           refine zQ0 (i:=14) (N:=some 82) (zF0 24 32767) rfl rfl HT_.out ?_
           refine zQ0 (i:=15) (N:=some 83) (zF0 24 65535) rfl rfl HT_.out ?_
           refine zQ0 (i:=16) (N:=some 84) (zF0 24 131071) rfl rfl HT_.out ?_
           refine zQ0 (i:=17) (N:=some 85) (zF0 24 262143) rfl rfl HT_.out ?_
           refine zQ0 (i:=18) (N:=some 86) (zF0 24 524287) rfl rfl HT_.out ?_
           refine zQ0 (i:=19) (N:=some 87) (zF0 24 1048575) rfl rfl HT_.out ?_
           refine zQ0 (i:=20) (N:=some 88) (zF0 24 2097151) rfl rfl HT_.out ?_
           refine zQ0 (i:=21) (N:=some 89) (zF0 24 4194303) rfl rfl HT_.out ?_
           refine zP0 (i:=22) (N:=some 90) (zF0 24 8388607) rfl rfl HT_.out ?_
           refine zP0 (i:=23) (N:=some 67) (zF0 24 16777215) rfl rfl HT_.out ?_
           refine done_ (done_of HT_.out (by kernel_rfl)) ?_
           try go_wp2
           go_meet
           case rel => exact ⟨_,(true),(by first | rfl | (simp;done) | (simp [*];done)),H',⟨by have:=HJ2.out;have:=HK2.out;have:=HJ12.out;first | omega | exact Nat.le_refl _⟩,⟨by (with_reducible repeat (first | apply Kd.R_alloc | apply Kd.R_drewN | apply Kd.R_drew));exact HO_5.out⟩,⟨by repeat (first | (with_reducible first | exact HB.out | apply below_alloc | apply pw_below_drewN | apply below_drew1) | exact HB.out)⟩⟩
          ·rw [if_neg c17] at H
           have c17b0 : (x7_2 == (l1.length : Int)) = false:=beq_eq_false_iff_ne.mpr c17
           have c17b1 : (x7_2 != (l1.length : Int)) = true:=bne_iff_ne.mpr c17
           (first | rw [c17b0] | (simp only [i64_w,i32_w];rw [c17b0]) | skip)
           by_cases c19 : x6_2 < (l0.length : Int)
           ·rw [if_pos c19] at H
            have c19b0 : decide (x6_2 < (l0.length : Int)) = true:=decide_eq_true c19
            clear c19
            by_cases c20 : 0 ≤ x6_2
            ·rw [if_pos c20] at H
             have c20b0 : decide (0 ≤ x6_2) = true:=decide_eq_true c20
             clear c20
             by_cases c21 : 0 ≤ x7_2
             ·rw [if_pos c21] at H
              have c21b0 : decide (0 ≤ x7_2) = true:=decide_eq_true c21
              clear c21
              by_cases c22 : x7_2 < (l1.length : Int)
              ·rw [if_pos c22] at H
               have c22b0 : decide (x7_2 < (l1.length : Int)) = true:=decide_eq_true c22
               clear c22
               have H':=Aside0.mk H
               clear H
               try go_wp2
               have n0_:=Aside0.mk (Kd.R_drew HO_5.out)
               have n1_:=Aside0.mk (below_drew1 HB.out)
               clear HO_5
               clear HB
               have HO_5:=n0_
               have HB:=n1_
               clear n0_ n1_
               have p158 : 0 ≤ (x6_2 : Int):=of_decide_eq_true (by first | (with_reducible assumption) | assumption)
               have q158 : x6_2 < (l0.length : Int):=of_decide_eq_true (by first | (with_reducible assumption) | assumption)
               obtain ⟨ad158,A158_4,c158_4,e158,hx158_0,hx158_1,hx158_2,hx158_3,hx158_4,hl158_4,hi158_4⟩:=at_T42 HR0.out x6_2 p158 q158
               have hw158_4:=hx158_4
               have hw158_3:=hx158_3
               have hw158_2:=hx158_2
               have hw158_1:=hx158_1
               have hw158_0:=hx158_0
               cases e158
               replace hx158_0:=(HB.out.cell (World.block_lt_of_cell? w _ hx158_0)).trans hx158_0
               replace hx158_1:=(HB.out.cell (World.block_lt_of_cell? w _ hx158_1)).trans hx158_1
               replace hx158_2:=(HB.out.cell (World.block_lt_of_cell? w _ hx158_2)).trans hx158_2
               replace hx158_3:=(HB.out.cell (World.block_lt_of_cell? w _ hx158_3)).trans hx158_3
               replace hx158_4:=(HB.out.cell (World.block_lt_of_cell? w _ hx158_4)).trans hx158_4
               have HR158_4:=Aside0.mk hi158_4
               have HC158_4:=Aside0.mk hl158_4
               clear hi158_4 hl158_4
               replace p158:=eq_true p158
               replace q158:=eq_true q158
               have p159 : 0 ≤ (x7_2 : Int):=of_decide_eq_true (by first | (with_reducible assumption) | assumption)
               have q159 : x7_2 < (l1.length : Int):=of_decide_eq_true (by first | (with_reducible assumption) | assumption)
               obtain ⟨ad159,A159_4,c159_4,e159,hx159_0,hx159_1,hx159_2,hx159_3,hx159_4,hl159_4,hi159_4⟩:=at_T42 HR1.out x7_2 p159 q159
               have hw159_4:=hx159_4
               have hw159_3:=hx159_3
               have hw159_2:=hx159_2
               have hw159_1:=hx159_1
               have hw159_0:=hx159_0
               cases e159
               replace hx159_0:=(HB.out.cell (World.block_lt_of_cell? w _ hx159_0)).trans hx159_0
               replace hx159_1:=(HB.out.cell (World.block_lt_of_cell? w _ hx159_1)).trans hx159_1
               replace hx159_2:=(HB.out.cell (World.block_lt_of_cell? w _ hx159_2)).trans hx159_2
               replace hx159_3:=(HB.out.cell (World.block_lt_of_cell? w _ hx159_3)).trans hx159_3
               replace hx159_4:=(HB.out.cell (World.block_lt_of_cell? w _ hx159_4)).trans hx159_4
               have HR159_4:=Aside0.mk hi159_4
               have HC159_4:=Aside0.mk hl159_4
               clear hi159_4 hl159_4
               replace p159:=eq_true p159
               replace q159:=eq_true q159
               refine start_ (n:=24) (S:=fun w' => w'.cell? (ad158.add ((x6_2).toNat * 5)) = some (.string ((rd_T42 l0 x6_2).f0)) ∧ w'.cell? ⟨(ad158.add ((x6_2).toNat * 5)).block,(ad158.add ((x6_2).toNat * 5)).off + 1,none⟩ = some (.int .i64 ((rd_T42 l0 x6_2).f1.f0)) ∧ w'.cell? ⟨(ad158.add ((x6_2).toNat * 5)).block,(ad158.add ((x6_2).toNat * 5)).off + 2,none⟩ = some (.int .i64 ((rd_T42 l0 x6_2).f1.f1)) ∧ w'.cell? ⟨(ad158.add ((x6_2).toNat * 5)).block,(ad158.add ((x6_2).toNat * 5)).off + 3,none⟩ = some (.string ((rd_T42 l0 x6_2).f1.f2)) ∧ w'.cell? ⟨(ad158.add ((x6_2).toNat * 5)).block,(ad158.add ((x6_2).toNat * 5)).off + 4,none⟩ = some (.slice A158_4 ((rd_T42 l0 x6_2).f1.f3).length c158_4) ∧ w'.cell? (ad159.add ((x7_2).toNat * 5)) = some (.string ((rd_T42 l1 x7_2).f0)) ∧ w'.cell? ⟨(ad159.add ((x7_2).toNat * 5)).block,(ad159.add ((x7_2).toNat * 5)).off + 1,none⟩ = some (.int .i64 ((rd_T42 l1 x7_2).f1.f0)) ∧ w'.cell? ⟨(ad159.add ((x7_2).toNat * 5)).block,(ad159.add ((x7_2).toNat * 5)).off + 2,none⟩ = some (.int .i64 ((rd_T42 l1 x7_2).f1.f1)) ∧ w'.cell? ⟨(ad159.add ((x7_2).toNat * 5)).block,(ad159.add ((x7_2).toNat * 5)).off + 3,none⟩ = some (.string ((rd_T42 l1 x7_2).f1.f2)) ∧ w'.cell? ⟨(ad159.add ((x7_2).toNat * 5)).block,(ad159.add ((x7_2).toNat * 5)).off + 4,none⟩ = some (.slice A159_4 ((rd_T42 l1 x7_2).f1.f3).length c159_4)) (ds:=[]) (zF0 24 0) (by kernel_rfl) rfl rfl ⟨((HB.out.cell (World.block_lt_of_cell? w _ hw158_0)).trans hw158_0),((HB.out.cell (World.block_lt_of_cell? w _ hw158_1)).trans hw158_1),((HB.out.cell (World.block_lt_of_cell? w _ hw158_2)).trans hw158_2),((HB.out.cell (World.block_lt_of_cell? w _ hw158_3)).trans hw158_3),((HB.out.cell (World.block_lt_of_cell? w _ hw158_4)).trans hw158_4),((HB.out.cell (World.block_lt_of_cell? w _ hw159_0)).trans hw159_0),((HB.out.cell (World.block_lt_of_cell? w _ hw159_1)).trans hw159_1),((HB.out.cell (World.block_lt_of_cell? w _ hw159_2)).trans hw159_2),((HB.out.cell (World.block_lt_of_cell? w _ hw159_3)).trans hw159_3),((HB.out.cell (World.block_lt_of_cell? w _ hw159_4)).trans hw159_4)⟩ (fun hHeld => ?_);refine with_tabW spec_Differ.tab12 spec_Differ.bits12 (fun HT_ HW_ => ?_)
               generalize wc.drew = w23 at HO_5 HB HR158_4 HR159_4 hx158_0 hx158_1 hx158_2 hx158_3 hx158_4 hx159_0 hx159_1 hx159_2 hx159_3 hx159_4 hHeld ⊢
               refine zP0 (i:=0) (N:=some 68) (zF0 24 1) rfl rfl HT_.out ?_
               refine zP0 (i:=1) (N:=some 69) (zF0 24 3) rfl rfl HT_.out ?_
               refine zP0 (i:=2) (N:=some 70) (zF0 24 7) rfl rfl HT_.out ?_
               refine zP0 (i:=3) (N:=some 71) (zF0 24 15) rfl rfl HT_.out ?_
               refine zP0 (i:=4) (N:=some 72) (zF0 24 31) rfl rfl HT_.out ?_
               refine zP0 (i:=5) (N:=some 73) (zF0 24 63) rfl rfl HT_.out ?_
               refine zP0 (i:=6) (N:=some 74) (zF0 24 127) rfl rfl HT_.out ?_
               refine zP0 (i:=7) (N:=some 75) (zF0 24 255) rfl rfl HT_.out ?_
               refine zP0 (i:=8) (N:=some 76) (zF0 24 511) rfl rfl HT_.out ?_
               refine zP0 (i:=9) (N:=some 77) (zF0 24 1023) rfl rfl HT_.out ?_
               refine zP0 (i:=10) (N:=some 78) (zF0 24 2047) rfl rfl HT_.out ?_
               refine zP0 (i:=11) (N:=some 79) (zF0 24 4095) rfl rfl HT_.out ?_
               refine zP0 (i:=12) (N:=some 80) (zF0 24 8191) rfl rfl HT_.out ?_
               refine zP0 (i:=13) (N:=some 81) (zF0 24 16383) rfl rfl HT_.out ?_
               refine zP0 (i:=15) (N:=some 83) (zF0 24 49151) rfl rfl HT_.out ?_
               refine zP0 (i:=16) (N:=some 84) (zF0 24 114687) rfl rfl HT_.out ?_
               refine zP0 (i:=17) (N:=some 85) (zF0 24 245759) rfl rfl HT_.out ?_
               refine zP0 (i:=18) (N:=some 86) (zF0 24 507903) rfl rfl HT_.out ?_
               refine take_ (i:=14) (N:=some 82) (v:=?_) (a':=?_) (zF0 24 524287) rfl rfl (take_ofW HT_.out HW_.out (by kernel_rfl)) (fun _ _ _ h => h) (Or.inl ⟨by rfl,?_⟩) hHeld ?_ ?_;rotate_left
               ·rintro w' ⟨s0,s1,s2,s3,s4,s5,s6,s7,s8,s9⟩
                go_simp
                with_reducible rfl
               rotate_left
               ·simp only [Act.put,qA0,qB0,qC0,i64_w,i32_w];rfl
               refine take_ (i:=19) (N:=some 87) (v:=?_) (a':=?_) (zF0 24 1048575) rfl rfl (take_ofW HT_.out HW_.out (by kernel_rfl)) (fun _ _ _ h => h) (Or.inl ⟨by rfl,?_⟩) hHeld ?_ ?_;rotate_left
               ·rintro w' ⟨s0,s1,s2,s3,s4,s5,s6,s7,s8,s9⟩
                go_simp
                with_reducible rfl
               rotate_left
               ·simp only [Act.put,qA0,qB0,qC0,i64_w,i32_w];rfl
               refine zP0 (i:=20) (N:=some 88) (zF0 24 2097151) rfl rfl HT_.out ?_
               refine zP0 (i:=21) (N:=some 89) (zF0 24 4194303) rfl rfl HT_.out ?_
               refine zP0 (i:=22) (N:=some 90) (zF0 24 8388607) rfl rfl HT_.out ?_
               refine zP0 (i:=23) (N:=some 67) (zF0 24 16777215) rfl rfl HT_.out ?_
               refine done_ (done_of HT_.out (by kernel_rfl)) ?_
               try go_wp2
               go_meet
               case rel => exact ⟨_,((Op.bytesLess (((rd_T42 l0 x6_2).f0).toList) (((rd_T42 l1 x7_2).f0).toList))),(by first | rfl | (simp;done) | (simp [*];done)),H',⟨by have:=HJ2.out;have:=HK2.out;have:=HJ12.out;first | omega | exact Nat.le_refl _⟩,⟨by (with_reducible repeat (first | apply Kd.R_alloc | apply Kd.R_drewN | apply Kd.R_drew));exact HO_5.out⟩,⟨by repeat (first | (with_reducible first | exact HB.out | apply below_alloc | apply pw_below_drewN | apply below_drew1) | exact HB.out)⟩⟩
              ·rw [if_neg c22] at H
               exact absurd H (by simp)
             ·rw [if_neg c21] at H
              exact absurd H (by simp)
            ·rw [if_neg c20] at H
             exact absurd H (by simp)
           ·rw [if_neg c19] at H
            have c19b0 : decide (x6_2 < (l0.length : Int)) = false:=decide_eq_false c19
            clear c19
            have H':=Aside0.mk H
            clear H
            try go_wp2
            have n0_:=Aside0.mk (Kd.R_drew HO_5.out)
            have n1_:=Aside0.mk (below_drew1 HB.out)
            clear HO_5
            clear HB
            have HO_5:=n0_
            have HB:=n1_
            clear n0_ n1_
            refine start_ (n:=24) (S:=fun w' => True) (ds:=[]) (zF0 24 0) (by kernel_rfl) rfl rfl trivial (fun hHeld => ?_);refine with_tabW spec_Differ.tab12 spec_Differ.bits12 (fun HT_ HW_ => ?_)
            generalize wc.drew = w24 at HO_5 HB hHeld ⊢
            refine zP0 (i:=0) (N:=some 68) (zF0 24 1) rfl rfl HT_.out ?_
            refine zP0 (i:=1) (N:=some 69) (zF0 24 3) rfl rfl HT_.out ?_
            refine zP0 (i:=2) (N:=some 70) (zF0 24 7) rfl rfl HT_.out ?_
            refine zP0 (i:=3) (N:=some 71) (zF0 24 15) rfl rfl HT_.out ?_
            refine zP0 (i:=4) (N:=some 72) (zF0 24 31) rfl rfl HT_.out ?_
            refine zP0 (i:=5) (N:=some 73) (zF0 24 63) rfl rfl HT_.out ?_
            refine zP0 (i:=6) (N:=some 74) (zF0 24 127) rfl rfl HT_.out ?_
            refine zP0 (i:=7) (N:=some 75) (zF0 24 255) rfl rfl HT_.out ?_
            refine zP0 (i:=8) (N:=some 76) (zF0 24 511) rfl rfl HT_.out ?_
            refine zP0 (i:=9) (N:=some 77) (zF0 24 1023) rfl rfl HT_.out ?_
            refine zQ0 (i:=10) (N:=some 78) (zF0 24 2047) rfl rfl HT_.out ?_
            refine zQ0 (i:=11) (N:=some 79) (zF0 24 4095) rfl rfl HT_.out ?_
            refine zQ0 (i:=12) (N:=some 80) (zF0 24 8191) rfl rfl HT_.out ?_
            refine zQ0 (i:=13) (N:=some 81) (zF0 24 16383) rfl rfl HT_.out ?_
            refine zQ0 (i:=14) (N:=some 82) (zF0 24 32767) rfl rfl HT_.out ?_
            refine zQ0 (i:=15) (N:=some 83) (zF0 24 65535) rfl rfl HT_.out ?_
            refine zQ0 (i:=16) (N:=some 84) (zF0 24 131071) rfl rfl HT_.out ?_
            refine zQ0 (i:=17) (N:=some 85) (zF0 24 262143) rfl rfl HT_.out ?_
            refine zQ0 (i:=18) (N:=some 86) (zF0 24 524287) rfl rfl HT_.out ?_
            refine zQ0 (i:=19) (N:=some 87) (zF0 24 1048575) rfl rfl HT_.out ?_
            refine zQ0 (i:=20) (N:=some 88) (zF0 24 2097151) rfl rfl HT_.out ?_
            refine zP0 (i:=21) (N:=some 89) (zF0 24 4194303) rfl rfl HT_.out ?_
            refine zP0 (i:=22) (N:=some 90) (zF0 24 8388607) rfl rfl HT_.out ?_
            refine zP0 (i:=23) (N:=some 67) (zF0 24 16777215) rfl rfl HT_.out ?_
            refine done_ (done_of HT_.out (by kernel_rfl)) ?_
            try go_wp2
            go_meet
            case rel => exact ⟨_,(false),(by first | rfl | (simp;done) | (simp [*];done)),H',⟨by have:=HJ2.out;have:=HK2.out;have:=HJ12.out;first | omega | exact Nat.le_refl _⟩,⟨by (with_reducible repeat (first | apply Kd.R_alloc | apply Kd.R_drewN | apply Kd.R_drew));exact HO_5.out⟩,⟨by repeat (first | (with_reducible first | exact HB.out | apply below_alloc | apply pw_below_drewN | apply below_drew1) | exact HB.out)⟩⟩
         case rest =>
          clear HC16
          try clear c1
          try clear p1
          try clear q1
          try clear hx1
          try clear c2
          try clear p2
          try clear c15
          try clear p15
          try clear q15
          try clear hx15
          try clear c17
          try clear c17b0
          try clear c17b1
          try clear c19
          try clear c19b0
          try clear c20
          try clear c20b0
          try clear c21
          try clear c21b0
          try clear c22
          try clear c22b0
          try clear hx158_0
          try clear hx158_1
          try clear hx158_2
          try clear hx158_3
          try clear hx158_4
          try clear hx159_0
          try clear hx159_1
          try clear hx159_2
          try clear hx159_3
          try clear hx159_4
          try clear p158
          try clear p159
          try clear q158
          try clear q159
          obtain ⟨kq,x67_15,rfl,HA,HJ15,HO_5,HB⟩:=hcut
          cases kq with
          | zero => exact absurd HA.out (by simp [spec_Differ.j3])
          | succ kj15 =>
           have H:=HA.out
           clear HA
           simp only [spec_Differ.j3] at H
           by_cases c25 : x67_15 = true
           ·subst c25
            have H1 : (if 0 ≤ x6_2 then (if x6_2 < (l0.length : Int) then (if x5_2.length < 3518437208883 then (spec_Differ.l0 kj15 l0 l1 (x5_2 ++ [(⟨(rd_T42 l0 x6_2).f0,(⟨#[]⟩ : ByteArray),true⟩ : S44)]) (wrap64 (x6_2 + 1)) x7_2) else (none)) else (none)) else (none)) = some r:=by rw [if_pos rfl] at H;exact H
            clear H
            have H:=H1
            clear H1
            by_cases c26 : 0 ≤ x6_2
            ·rw [if_pos c26] at H
             have c26b0 : decide (0 ≤ x6_2) = true:=decide_eq_true c26
             clear c26
             by_cases c27 : x6_2 < (l0.length : Int)
             ·rw [if_pos c27] at H
              have c27b0 : decide (x6_2 < (l0.length : Int)) = true:=decide_eq_true c27
              clear c27
              by_cases c28 : x5_2.length < 3518437208883
              ·rw [if_pos c28] at H
               have LMc28:=Aside0.mk c28
               clear c28
               obtain ⟨y161,hy161⟩ : ∃ y_ : List (S44),y_ = (x5_2 ++ [(⟨(rd_T42 l0 x6_2).f0,(⟨#[]⟩ : ByteArray),true⟩ : S44)]):=⟨_,rfl⟩
               replace H : (spec_Differ.l0 kj15 l0 l1 y161 (wrap64 (x6_2 + 1)) x7_2) = some r:=by first | (rw [hy161];with_reducible exact H) | (have H2_:=(Option.bind_some _ _).symm.trans H;rw [hy161];with_reducible exact H2_) | (have H2_:=(Option.bind_some _ _).symm.trans H;with_reducible exact H2_) | with_reducible exact H | (rw [hy161];exact H) | exact H
               have Ny161:=Aside0.mk hy161
               clear hy161
               have H':=Aside0.mk H
               clear H
               have p160 : 0 ≤ (x6_2 : Int):=of_decide_eq_true (by first | (with_reducible assumption) | assumption)
               have q160 : x6_2 < (l0.length : Int):=of_decide_eq_true (by first | (with_reducible assumption) | assumption)
               obtain ⟨ad160,A160_4,c160_4,e160,hx160_0,hx160_1,hx160_2,hx160_3,hx160_4,hl160_4,hi160_4⟩:=at_T42 HR0.out x6_2 p160 q160
               cases e160
               replace hx160_0:=(HB.out.cell (World.block_lt_of_cell? w _ hx160_0)).trans hx160_0
               replace hx160_1:=(HB.out.cell (World.block_lt_of_cell? w _ hx160_1)).trans hx160_1
               replace hx160_2:=(HB.out.cell (World.block_lt_of_cell? w _ hx160_2)).trans hx160_2
               replace hx160_3:=(HB.out.cell (World.block_lt_of_cell? w _ hx160_3)).trans hx160_3
               replace hx160_4:=(HB.out.cell (World.block_lt_of_cell? w _ hx160_4)).trans hx160_4
               have HR160_4:=Aside0.mk hi160_4
               have HC160_4:=Aside0.mk hl160_4
               clear hi160_4 hl160_4
               replace p160:=eq_true p160
               replace q160:=eq_true q160
               go_wp2_with (first | ((with_reducible refine gate_builtin (b:=.append) (xs:=#[.tmp 91,.tmp 98]) rfl ?_);(try (refine gate_guard (by rfl) ?_;dsimp only));at_builtin;refine Kd.R_append k44 (w0:=w) w.heap.size rfl (.tmp 91) (.tmp 98) 24 44 (.agg #[(.string ⟨#[]⟩),(.string ⟨#[]⟩),(.bool false)]) 40 rfl Try.underlying24 info44 rfl (by decide) (by omega) u5 x5_2 (⟨(rd_T42 l0 x6_2).f0,(⟨#[]⟩ : ByteArray),true⟩ : S44) [.string ((rd_T42 l0 x6_2).f0),.string (⟨#[]⟩ : ByteArray),.bool true] (fun _ => True) (fun _ => False) rfl rfl ?aP (fun _ hk => hk.elim) ?aF ?aO ?aB ?aS ?aL ?_;(case aP => exact k44_mkM _ _ _ (⟨(rd_T42 l0 x6_2).f0,(⟨#[]⟩ : ByteArray),true⟩ : S44));(case aB => exact (by repeat (first | (with_reducible first | exact HB.out | apply below_alloc | apply pw_below_drewN | apply below_drew1) | exact HB.out)));(case aF => exact (fun _ _ => trivial));(case aO => exact (zR0 HO_5.out));(case aS => exact (zZ0 HB.out));(case aL => have:=LMc28.out;omega);intro v162 w29 ho hb hg hat;rw [← Ny161.out] at ho;have n0_:=Aside0.mk (hb);have n1_:=Aside0.mk (ho);clear HB;clear HO_5;have HB:=n0_;have HO163:=n1_;clear n0_ n1_;clear ho hb hg hat))
               go_roundg kj15
               case measure => have:=HJ2.out;have:=HK2.out;have:=HJ12.out;have:=HJ15.out;omega
               case rel => exact ⟨(y161),(wrap64 (x6_2 + 1)),(x7_2),(by first | rfl | (simp;done) | (simp [*];done)),(by first | rfl | (simp;done) | (simp [*];done)),H',⟨by have:=HJ2.out;have:=HK2.out;have:=HJ12.out;have:=HJ15.out;omega⟩,⟨by (with_reducible repeat (first | apply Kd.R_alloc | apply Kd.R_drewN | apply Kd.R_drew));exact HO163.out⟩,⟨by repeat (first | (with_reducible first | exact HB.out | apply below_alloc | apply pw_below_drewN | apply below_drew1) | exact HB.out)⟩⟩
              ·rw [if_neg c28] at H
               exact absurd H (by simp)
             ·rw [if_neg c27] at H
              exact absurd H (by simp)
            ·rw [if_neg c26] at H
             exact absurd H (by simp)
           ·replace c25:=Bool.eq_false_iff.mpr c25
            subst c25
            have H1 : (if x6_2 = (l0.length : Int) then (spec_Differ.j4 kj15 l0 l1 x5_2 x6_2 x7_2 true) else (if 0 ≤ x7_2 then (if x7_2 < (l1.length : Int) then (if 0 ≤ x6_2 then (if x6_2 < (l0.length : Int) then (spec_Differ.j4 kj15 l0 l1 x5_2 x6_2 x7_2 (Op.bytesLess (((rd_T42 l1 x7_2).f0).toList) (((rd_T42 l0 x6_2).f0).toList))) else (none)) else (none)) else (none)) else (none))) = some r:=by rw [if_neg (show ¬ (false = true) by decide)] at H;exact H
            clear H
            have H:=H1
            clear H1
            have HC30:=Aside0.mk H
            clear H
            go_upto_region 15 with (fail)
            go_cut [102] (fun v102 wc => ∃ (kq : Nat) (x102_29 : Bool),v102 = .bool x102_29 ∧ Aside0 (spec_Differ.j4 kq l0 l1 x5_2 x6_2 x7_2 x102_29 = some r) ∧ Aside0 (kq ≤ kj15) ∧ Aside0 (Kd.R k44 44 wc w.heap.size (fun _ => True) u5 x5_2) ∧ Aside0 (Below w.heap.size w wc))
            case first =>
             have H:=HC30.out
             clear HC30
             by_cases c31 : x6_2 = (l0.length : Int)
             ·rw [if_pos c31] at H
              have c31b0 : (x6_2 == (l0.length : Int)) = true:=beq_iff_eq.mpr c31
              have c31b1 : (x6_2 != (l0.length : Int)) = false:=bne_eq_false_iff_eq.mpr c31
              clear c31
              (first | rw [c31b0] | (simp only [i64_w,i32_w];rw [c31b0]) | skip)
              have H':=Aside0.mk H
              clear H
              try go_wp2
              have n0_:=Aside0.mk (Kd.R_drew HO_5.out)
              have n1_:=Aside0.mk (below_drew1 HB.out)
              clear HO_5
              clear HB
              have HO_5:=n0_
              have HB:=n1_
              clear n0_ n1_
              refine start_ (n:=18) (S:=fun w' => True) (ds:=[]) (zF0 18 0) (by kernel_rfl) rfl rfl trivial (fun hHeld => ?_);refine with_tabW spec_Differ.tab15 spec_Differ.bits15 (fun HT_ HW_ => ?_)
              generalize wc.drew = w32 at HO_5 HB hHeld ⊢
              refine zP0 (i:=0) (N:=some 103) (zF0 18 1) rfl rfl HT_.out ?_
              refine zP0 (i:=1) (N:=some 104) (zF0 18 3) rfl rfl HT_.out ?_
              refine zP0 (i:=2) (N:=some 105) (zF0 18 7) rfl rfl HT_.out ?_
              refine zP0 (i:=3) (N:=some 106) (zF0 18 15) rfl rfl HT_.out ?_
              refine zP0 (i:=4) (N:=some 107) (zF0 18 31) rfl rfl HT_.out ?_
              refine zQ0 (i:=5) (N:=some 108) (zF0 18 63) rfl rfl HT_.out ?_
              refine zQ0 (i:=6) (N:=some 109) (zF0 18 127) rfl rfl HT_.out ?_
              refine zQ0 (i:=7) (N:=some 110) (zF0 18 255) rfl rfl HT_.out ?_
              refine zQ0 (i:=8) (N:=some 111) (zF0 18 511) rfl rfl HT_.out ?_
              refine zQ0 (i:=9) (N:=some 112) (zF0 18 1023) rfl rfl HT_.out ?_
              refine zQ0 (i:=10) (N:=some 113) (zF0 18 2047) rfl rfl HT_.out ?_
              refine zQ0 (i:=11) (N:=some 114) (zF0 18 4095) rfl rfl HT_.out ?_
              refine zQ0 (i:=12) (N:=some 115) (zF0 18 8191) rfl rfl HT_.out ?_
              refine zQ0 (i:=13) (N:=some 116) (zF0 18 16383) rfl rfl HT_.out ?_
              refine zQ0 (i:=14) (N:=some 117) (zF0 18 32767) rfl rfl HT_.out ?_
              refine zQ0 (i:=15) (N:=some 118) (zF0 18 65535) rfl rfl HT_.out ?_
              refine zP0 (i:=16) (N:=some 119) (zF0 18 131071) rfl rfl HT_.out ?_
              refine zP0 (i:=17) (N:=some 102) (zF0 18 262143) rfl rfl HT_.out ?_
              refine done_ (done_of HT_.out (by kernel_rfl)) ?_
              try go_wp2
              go_meet
              case rel => exact ⟨_,(true),(by first | rfl | (simp;done) | (simp [*];done)),H',⟨by have:=HJ2.out;have:=HK2.out;have:=HJ12.out;have:=HJ15.out;first | omega | exact Nat.le_refl _⟩,⟨by (with_reducible repeat (first | apply Kd.R_alloc | apply Kd.R_drewN | apply Kd.R_drew));exact HO_5.out⟩,⟨by repeat (first | (with_reducible first | exact HB.out | apply below_alloc | apply pw_below_drewN | apply below_drew1) | exact HB.out)⟩⟩
             ·rw [if_neg c31] at H
              have c31b0 : (x6_2 == (l0.length : Int)) = false:=beq_eq_false_iff_ne.mpr c31
              have c31b1 : (x6_2 != (l0.length : Int)) = true:=bne_iff_ne.mpr c31
              (first | rw [c31b0] | (simp only [i64_w,i32_w];rw [c31b0]) | skip)
              by_cases c33 : 0 ≤ x7_2
              ·rw [if_pos c33] at H
               have c33b0 : decide (0 ≤ x7_2) = true:=decide_eq_true c33
               clear c33
               by_cases c34 : x7_2 < (l1.length : Int)
               ·rw [if_pos c34] at H
                have c34b0 : decide (x7_2 < (l1.length : Int)) = true:=decide_eq_true c34
                clear c34
                by_cases c35 : 0 ≤ x6_2
                ·rw [if_pos c35] at H
                 have c35b0 : decide (0 ≤ x6_2) = true:=decide_eq_true c35
                 clear c35
                 by_cases c36 : x6_2 < (l0.length : Int)
                 ·rw [if_pos c36] at H
                  have c36b0 : decide (x6_2 < (l0.length : Int)) = true:=decide_eq_true c36
                  clear c36
                  have H':=Aside0.mk H
                  clear H
                  try go_wp2
                  have n0_:=Aside0.mk (Kd.R_drew HO_5.out)
                  have n1_:=Aside0.mk (below_drew1 HB.out)
                  clear HO_5
                  clear HB
                  have HO_5:=n0_
                  have HB:=n1_
                  clear n0_ n1_
                  have p164 : 0 ≤ (x7_2 : Int):=of_decide_eq_true (by first | (with_reducible assumption) | assumption)
                  have q164 : x7_2 < (l1.length : Int):=of_decide_eq_true (by first | (with_reducible assumption) | assumption)
                  obtain ⟨ad164,A164_4,c164_4,e164,hx164_0,hx164_1,hx164_2,hx164_3,hx164_4,hl164_4,hi164_4⟩:=at_T42 HR1.out x7_2 p164 q164
                  have hw164_4:=hx164_4
                  have hw164_3:=hx164_3
                  have hw164_2:=hx164_2
                  have hw164_1:=hx164_1
                  have hw164_0:=hx164_0
                  cases e164
                  replace hx164_0:=(HB.out.cell (World.block_lt_of_cell? w _ hx164_0)).trans hx164_0
                  replace hx164_1:=(HB.out.cell (World.block_lt_of_cell? w _ hx164_1)).trans hx164_1
                  replace hx164_2:=(HB.out.cell (World.block_lt_of_cell? w _ hx164_2)).trans hx164_2
                  replace hx164_3:=(HB.out.cell (World.block_lt_of_cell? w _ hx164_3)).trans hx164_3
                  replace hx164_4:=(HB.out.cell (World.block_lt_of_cell? w _ hx164_4)).trans hx164_4
                  have HR164_4:=Aside0.mk hi164_4
                  have HC164_4:=Aside0.mk hl164_4
                  clear hi164_4 hl164_4
                  replace p164:=eq_true p164
                  replace q164:=eq_true q164
                  have p165 : 0 ≤ (x6_2 : Int):=of_decide_eq_true (by first | (with_reducible assumption) | assumption)
                  have q165 : x6_2 < (l0.length : Int):=of_decide_eq_true (by first | (with_reducible assumption) | assumption)
                  obtain ⟨ad165,A165_4,c165_4,e165,hx165_0,hx165_1,hx165_2,hx165_3,hx165_4,hl165_4,hi165_4⟩:=at_T42 HR0.out x6_2 p165 q165
                  have hw165_4:=hx165_4
                  have hw165_3:=hx165_3
                  have hw165_2:=hx165_2
                  have hw165_1:=hx165_1
                  have hw165_0:=hx165_0
                  cases e165
                  replace hx165_0:=(HB.out.cell (World.block_lt_of_cell? w _ hx165_0)).trans hx165_0
                  replace hx165_1:=(HB.out.cell (World.block_lt_of_cell? w _ hx165_1)).trans hx165_1
                  replace hx165_2:=(HB.out.cell (World.block_lt_of_cell? w _ hx165_2)).trans hx165_2
                  replace hx165_3:=(HB.out.cell (World.block_lt_of_cell? w _ hx165_3)).trans hx165_3
                  replace hx165_4:=(HB.out.cell (World.block_lt_of_cell? w _ hx165_4)).trans hx165_4
                  have HR165_4:=Aside0.mk hi165_4
                  have HC165_4:=Aside0.mk hl165_4
                  clear hi165_4 hl165_4
                  replace p165:=eq_true p165
                  replace q165:=eq_true q165
                  refine start_ (n:=18) (S:=fun w' => w'.cell? (ad164.add ((x7_2).toNat * 5)) = some (.string ((rd_T42 l1 x7_2).f0)) ∧ w'.cell? ⟨(ad164.add ((x7_2).toNat * 5)).block,(ad164.add ((x7_2).toNat * 5)).off + 1,none⟩ = some (.int .i64 ((rd_T42 l1 x7_2).f1.f0)) ∧ w'.cell? ⟨(ad164.add ((x7_2).toNat * 5)).block,(ad164.add ((x7_2).toNat * 5)).off + 2,none⟩ = some (.int .i64 ((rd_T42 l1 x7_2).f1.f1)) ∧ w'.cell? ⟨(ad164.add ((x7_2).toNat * 5)).block,(ad164.add ((x7_2).toNat * 5)).off + 3,none⟩ = some (.string ((rd_T42 l1 x7_2).f1.f2)) ∧ w'.cell? ⟨(ad164.add ((x7_2).toNat * 5)).block,(ad164.add ((x7_2).toNat * 5)).off + 4,none⟩ = some (.slice A164_4 ((rd_T42 l1 x7_2).f1.f3).length c164_4) ∧ w'.cell? (ad165.add ((x6_2).toNat * 5)) = some (.string ((rd_T42 l0 x6_2).f0)) ∧ w'.cell? ⟨(ad165.add ((x6_2).toNat * 5)).block,(ad165.add ((x6_2).toNat * 5)).off + 1,none⟩ = some (.int .i64 ((rd_T42 l0 x6_2).f1.f0)) ∧ w'.cell? ⟨(ad165.add ((x6_2).toNat * 5)).block,(ad165.add ((x6_2).toNat * 5)).off + 2,none⟩ = some (.int .i64 ((rd_T42 l0 x6_2).f1.f1)) ∧ w'.cell? ⟨(ad165.add ((x6_2).toNat * 5)).block,(ad165.add ((x6_2).toNat * 5)).off + 3,none⟩ = some (.string ((rd_T42 l0 x6_2).f1.f2)) ∧ w'.cell? ⟨(ad165.add ((x6_2).toNat * 5)).block,(ad165.add ((x6_2).toNat * 5)).off + 4,none⟩ = some (.slice A165_4 ((rd_T42 l0 x6_2).f1.f3).length c165_4)) (ds:=[]) (zF0 18 0) (by kernel_rfl) rfl rfl ⟨((HB.out.cell (World.block_lt_of_cell? w _ hw164_0)).trans hw164_0),((HB.out.cell (World.block_lt_of_cell? w _ hw164_1)).trans hw164_1),((HB.out.cell (World.block_lt_of_cell? w _ hw164_2)).trans hw164_2),((HB.out.cell (World.block_lt_of_cell? w _ hw164_3)).trans hw164_3),((HB.out.cell (World.block_lt_of_cell? w _ hw164_4)).trans hw164_4),((HB.out.cell (World.block_lt_of_cell? w _ hw165_0)).trans hw165_0),((HB.out.cell (World.block_lt_of_cell? w _ hw165_1)).trans hw165_1),((HB.out.cell (World.block_lt_of_cell? w _ hw165_2)).trans hw165_2),((HB.out.cell (World.block_lt_of_cell? w _ hw165_3)).trans hw165_3),((HB.out.cell (World.block_lt_of_cell? w _ hw165_4)).trans hw165_4)⟩ (fun hHeld => ?_);refine with_tabW spec_Differ.tab15 spec_Differ.bits15 (fun HT_ HW_ => ?_)
                  generalize wc.drew = w37 at HO_5 HB HR164_4 HR165_4 hx164_0 hx164_1 hx164_2 hx164_3 hx164_4 hx165_0 hx165_1 hx165_2 hx165_3 hx165_4 hHeld ⊢
                  refine zP0 (i:=0) (N:=some 103) (zF0 18 1) rfl rfl HT_.out ?_
                  refine zP0 (i:=1) (N:=some 104) (zF0 18 3) rfl rfl HT_.out ?_
                  refine zP0 (i:=2) (N:=some 105) (zF0 18 7) rfl rfl HT_.out ?_
                  refine zP0 (i:=3) (N:=some 106) (zF0 18 15) rfl rfl HT_.out ?_
                  refine zP0 (i:=4) (N:=some 107) (zF0 18 31) rfl rfl HT_.out ?_
                  refine zP0 (i:=5) (N:=some 108) (zF0 18 63) rfl rfl HT_.out ?_
                  refine zP0 (i:=6) (N:=some 109) (zF0 18 127) rfl rfl HT_.out ?_
                  refine zP0 (i:=7) (N:=some 110) (zF0 18 255) rfl rfl HT_.out ?_
                  refine zP0 (i:=8) (N:=some 111) (zF0 18 511) rfl rfl HT_.out ?_
                  refine zP0 (i:=10) (N:=some 113) (zF0 18 1535) rfl rfl HT_.out ?_
                  refine zP0 (i:=11) (N:=some 114) (zF0 18 3583) rfl rfl HT_.out ?_
                  refine zP0 (i:=12) (N:=some 115) (zF0 18 7679) rfl rfl HT_.out ?_
                  refine zP0 (i:=13) (N:=some 116) (zF0 18 15871) rfl rfl HT_.out ?_
                  refine take_ (i:=9) (N:=some 112) (v:=?_) (a':=?_) (zF0 18 16383) rfl rfl (take_ofW HT_.out HW_.out (by kernel_rfl)) (fun _ _ _ h => h) (Or.inl ⟨by rfl,?_⟩) hHeld ?_ ?_;rotate_left
                  ·rintro w' ⟨s0,s1,s2,s3,s4,s5,s6,s7,s8,s9⟩
                   go_simp
                   with_reducible rfl
                  rotate_left
                  ·simp only [Act.put,qA0,qB0,qC0,i64_w,i32_w];rfl
                  refine take_ (i:=14) (N:=some 117) (v:=?_) (a':=?_) (zF0 18 32767) rfl rfl (take_ofW HT_.out HW_.out (by kernel_rfl)) (fun _ _ _ h => h) (Or.inl ⟨by rfl,?_⟩) hHeld ?_ ?_;rotate_left
                  ·rintro w' ⟨s0,s1,s2,s3,s4,s5,s6,s7,s8,s9⟩
                   go_simp
                   with_reducible rfl
                  rotate_left
                  ·simp only [Act.put,qA0,qB0,qC0,i64_w,i32_w];rfl
                  refine zP0 (i:=15) (N:=some 118) (zF0 18 65535) rfl rfl HT_.out ?_
                  refine zP0 (i:=16) (N:=some 119) (zF0 18 131071) rfl rfl HT_.out ?_
                  refine zP0 (i:=17) (N:=some 102) (zF0 18 262143) rfl rfl HT_.out ?_
                  refine done_ (done_of HT_.out (by kernel_rfl)) ?_
                  try go_wp2
                  go_meet
                  case rel => exact ⟨_,((Op.bytesLess (((rd_T42 l1 x7_2).f0).toList) (((rd_T42 l0 x6_2).f0).toList))),(by first | rfl | (simp;done) | (simp [*];done)),H',⟨by have:=HJ2.out;have:=HK2.out;have:=HJ12.out;have:=HJ15.out;first | omega | exact Nat.le_refl _⟩,⟨by (with_reducible repeat (first | apply Kd.R_alloc | apply Kd.R_drewN | apply Kd.R_drew));exact HO_5.out⟩,⟨by repeat (first | (with_reducible first | exact HB.out | apply below_alloc | apply pw_below_drewN | apply below_drew1) | exact HB.out)⟩⟩
                 ·rw [if_neg c36] at H
                  exact absurd H (by simp)
                ·rw [if_neg c35] at H
                 exact absurd H (by simp)
               ·rw [if_neg c34] at H
                exact absurd H (by simp)
              ·rw [if_neg c33] at H
               exact absurd H (by simp)
            case rest =>
             clear HC30
             try clear c1
             try clear p1
             try clear q1
             try clear hx1
             try clear c2
             try clear p2
             try clear c3
             try clear p6
             try clear c15
             try clear p15
             try clear q15
             try clear hx15
             try clear c16
             try clear p16
             try clear q16
             try clear hx16
             try clear c17
             try clear c17b0
             try clear c17b1
             try clear c19
             try clear c19b0
             try clear c20
             try clear c20b0
             try clear c21
             try clear c21b0
             try clear c22
             try clear c22b0
             try clear c25
             try clear c26
             try clear c26b0
             try clear c27
             try clear c27b0
             try clear c28
             try clear c31
             try clear c31b0
             try clear c31b1
             try clear c33
             try clear c33b0
             try clear c34
             try clear c34b0
             try clear c35
             try clear c35b0
             try clear c36
             try clear c36b0
             try clear hx158_0
             try clear hx158_1
             try clear hx158_2
             try clear hx158_3
             try clear hx158_4
             try clear hx159_0
             try clear hx159_1
             try clear hx159_2
             try clear hx159_3
             try clear hx159_4
             try clear hx160_0
             try clear hx160_1
             try clear hx160_2
             try clear hx160_3
             try clear hx160_4
             try clear hx164_0
             try clear hx164_1
             try clear hx164_2
             try clear hx164_3
             try clear hx164_4
             try clear hx165_0
             try clear hx165_1
             try clear hx165_2
             try clear hx165_3
             try clear hx165_4
             try clear p1
             try clear p15
             try clear p158
             try clear p159
             try clear p160
             try clear p164
             try clear p165
             try clear p2
             try clear q1
             try clear q15
             try clear q158
             try clear q159
             try clear q160
             try clear q164
             try clear q165
             obtain ⟨kq,x102_29,rfl,HA,HJ29,HO_5,HB⟩:=hcut
             cases kq with
             | zero => exact absurd HA.out (by simp [spec_Differ.j4])
             | succ kj29 =>
              have H:=HA.out
              clear HA
              simp only [spec_Differ.j4] at H
              by_cases c38 : x102_29 = true
              ·subst c38
               have H1 : (if 0 ≤ x7_2 then (if x7_2 < (l1.length : Int) then ((spec_ValText.f kj29 ((rd_T42 l1 x7_2).f1.f0) ((rd_T42 l1 x7_2).f1.f1) ((rd_T42 l1 x7_2).f1.f2) ((rd_T42 l1 x7_2).f1.f3)).bind fun bt167 => (if x5_2.length < 3518437208883 then (spec_Differ.l0 kj29 l0 l1 (x5_2 ++ [(⟨(rd_T42 l1 x7_2).f0,bt167.1,false⟩ : S44)]) x6_2 (wrap64 (x7_2 + 1))) else (none))) else (none)) else (none)) = some r:=by rw [if_pos rfl] at H;exact H
               clear H
               have H:=H1
               clear H1
               by_cases c39 : 0 ≤ x7_2
               ·rw [if_pos c39] at H
                have c39b0 : decide (0 ≤ x7_2) = true:=decide_eq_true c39
                clear c39
                by_cases c40 : x7_2 < (l1.length : Int)
                ·rw [if_pos c40] at H
                 have c40b0 : decide (x7_2 < (l1.length : Int)) = true:=decide_eq_true c40
                 clear c40
                 replace H:=Option.bind_eq_some_iff.mp H
                 obtain ⟨⟨t167,t168⟩,A410,H⟩:=H
                 replace H : (if x5_2.length < 3518437208883 then (spec_Differ.l0 kj29 l0 l1 (x5_2 ++ [(⟨(rd_T42 l1 x7_2).f0,t167,false⟩ : S44)]) x6_2 (wrap64 (x7_2 + 1))) else (none)) = some r:=H
                 have A41:=Aside0.mk A410
                 clear A410
                 by_cases c42 : x5_2.length < 3518437208883
                 ·rw [if_pos c42] at H
                  have LMc42:=Aside0.mk c42
                  clear c42
                  obtain ⟨y170,hy170⟩ : ∃ y_ : List (S44),y_ = (x5_2 ++ [(⟨(rd_T42 l1 x7_2).f0,t167,false⟩ : S44)]):=⟨_,rfl⟩
                  replace H : (spec_Differ.l0 kj29 l0 l1 y170 x6_2 (wrap64 (x7_2 + 1))) = some r:=by first | (rw [hy170];with_reducible exact H) | (have H2_:=(Option.bind_some _ _).symm.trans H;rw [hy170];with_reducible exact H2_) | (have H2_:=(Option.bind_some _ _).symm.trans H;with_reducible exact H2_) | with_reducible exact H | (rw [hy170];exact H) | exact H
                  have Ny170:=Aside0.mk hy170
                  clear hy170
                  have H':=Aside0.mk H
                  clear H
                  have p166 : 0 ≤ (x7_2 : Int):=of_decide_eq_true (by first | (with_reducible assumption) | assumption)
                  have q166 : x7_2 < (l1.length : Int):=of_decide_eq_true (by first | (with_reducible assumption) | assumption)
                  obtain ⟨ad166,A166_4,c166_4,e166,hx166_0,hx166_1,hx166_2,hx166_3,hx166_4,hl166_4,hi166_4⟩:=at_T42 HR1.out x7_2 p166 q166
                  cases e166
                  replace hx166_0:=(HB.out.cell (World.block_lt_of_cell? w _ hx166_0)).trans hx166_0
                  replace hx166_1:=(HB.out.cell (World.block_lt_of_cell? w _ hx166_1)).trans hx166_1
                  replace hx166_2:=(HB.out.cell (World.block_lt_of_cell? w _ hx166_2)).trans hx166_2
                  replace hx166_3:=(HB.out.cell (World.block_lt_of_cell? w _ hx166_3)).trans hx166_3
                  replace hx166_4:=(HB.out.cell (World.block_lt_of_cell? w _ hx166_4)).trans hx166_4
                  have HR166_4:=Aside0.mk hi166_4
                  have HC166_4:=Aside0.mk hl166_4
                  clear hi166_4 hl166_4
                  replace p166:=eq_true p166
                  replace q166:=eq_true q166
                  go_wp2_with (first | ((with_reducible refine gate_callee (f:=15) rfl ?_);refine goesL_ (some 126) rfl rfl Try.func15 (by kernel_rfl) rfl #[.agg #[.int .i64 ((rd_T42 l1 x7_2).f1.f0),.int .i64 ((rd_T42 l1 x7_2).f1.f1),.string ((rd_T42 l1 x7_2).f1.f2),.slice A166_4 ((rd_T42 l1 x7_2).f1.f3).length c166_4]] rfl zM0 ?_;(with_reducible refine (spec_ValText.calls kj29 ((rd_T42 l1 x7_2).f1.f0) ((rd_T42 l1 x7_2).f1.f1) ((rd_T42 l1 x7_2).f1.f2) _ _ ((rd_T42 l1 x7_2).f1.f3) t167 t168 _ ?side1 ?side2 A41.out).mono ?_);(case side1 => repeat (first | exact (Kd.C_below HR166_4.out HB.out) | (with_reducible refine Kd.C_alloc ?_ _) | (with_reducible refine Kd.C_drewN ?_ _) | (with_reducible refine Kd.C_drew ?_)));(case side2 => exact HC166_4.out);rintro e w43 ⟨rfl,hb⟩;refine ⟨_,rfl,?_⟩;have n0_:=Aside0.mk (Kd.R_below (zR0 HO_5.out) hb);have n1_:=Aside0.mk (zS0 HB.out hb);clear HO_5;clear HB;have HO_5:=n0_;have HB:=n1_;clear n0_ n1_;(try clear hb);(try clear hb2);(try clear hk);(try clear hi);have p169 : 0 ≤ (x7_2 : Int):=of_decide_eq_true (by first | (with_reducible assumption) | assumption);have q169 : x7_2 < (l1.length : Int):=of_decide_eq_true (by first | (with_reducible assumption) | assumption);obtain ⟨ad169,A169_4,c169_4,e169,hx169_0,hx169_1,hx169_2,hx169_3,hx169_4,hl169_4,hi169_4⟩:=at_T42 HR1.out x7_2 p169 q169;obtain rfl : ad166 = ad169:=(by injection e169);replace hx169_0:=(HB.out.cell (World.block_lt_of_cell? w _ hx169_0)).trans hx169_0;replace hx169_1:=(HB.out.cell (World.block_lt_of_cell? w _ hx169_1)).trans hx169_1;replace hx169_2:=(HB.out.cell (World.block_lt_of_cell? w _ hx169_2)).trans hx169_2;replace hx169_3:=(HB.out.cell (World.block_lt_of_cell? w _ hx169_3)).trans hx169_3;replace hx169_4:=(HB.out.cell (World.block_lt_of_cell? w _ hx169_4)).trans hx169_4;have HR169_4:=Aside0.mk hi169_4;have HC169_4:=Aside0.mk hl169_4;clear hi169_4 hl169_4;replace p169:=eq_true p169;replace q169:=eq_true q169) | ((with_reducible refine gate_builtin (b:=.append) (xs:=#[.tmp 129,.tmp 137]) rfl ?_);(try (refine gate_guard (by rfl) ?_;dsimp only));at_builtin;refine Kd.R_append k44 (w0:=w) w.heap.size rfl (.tmp 129) (.tmp 137) 24 44 (.agg #[(.string ⟨#[]⟩),(.string ⟨#[]⟩),(.bool false)]) 40 rfl Try.underlying24 info44 rfl (by decide) (by omega) u5 x5_2 (⟨(rd_T42 l1 x7_2).f0,t167,false⟩ : S44) [.string ((rd_T42 l1 x7_2).f0),.string t167,.bool false] (fun _ => True) (fun _ => False) rfl rfl ?aP (fun _ hk => hk.elim) ?aF ?aO ?aB ?aS ?aL ?_;(case aP => exact k44_mkM _ _ _ (⟨(rd_T42 l1 x7_2).f0,t167,false⟩ : S44));(case aB => exact (by repeat (first | (with_reducible first | exact HB.out | apply below_alloc | apply pw_below_drewN | apply below_drew1) | exact HB.out)));(case aF => exact (fun _ _ => trivial));(case aO => exact (zR0 HO_5.out));(case aS => exact (zZ0 HB.out));(case aL => have:=LMc42.out;omega);intro v171 w44 ho hb hg hat;rw [← Ny170.out] at ho;have n0_:=Aside0.mk (hb);have n1_:=Aside0.mk (ho);clear HB;clear HO_5;have HB:=n0_;have HO172:=n1_;clear n0_ n1_;clear ho hb hg hat))
                  go_roundg kj29
                  case measure => have:=HJ2.out;have:=HK2.out;have:=HJ12.out;have:=HJ15.out;have:=HJ29.out;omega
                  case rel => exact ⟨(y170),(x6_2),(wrap64 (x7_2 + 1)),(by first | rfl | (simp;done) | (simp [*];done)),(by first | rfl | (simp;done) | (simp [*];done)),H',⟨by have:=HJ2.out;have:=HK2.out;have:=HJ12.out;have:=HJ15.out;have:=HJ29.out;omega⟩,⟨by (with_reducible repeat (first | apply Kd.R_alloc | apply Kd.R_drewN | apply Kd.R_drew));exact HO172.out⟩,⟨by repeat (first | (with_reducible first | exact HB.out | apply below_alloc | apply pw_below_drewN | apply below_drew1) | exact HB.out)⟩⟩
                 ·rw [if_neg c42] at H
                  exact absurd H (by simp)
                ·rw [if_neg c40] at H
                 exact absurd H (by simp)
               ·rw [if_neg c39] at H
                exact absurd H (by simp)
              ·replace c38:=Bool.eq_false_iff.mpr c38
               subst c38
               have H1 : (if 0 ≤ x6_2 then (if x6_2 < (l0.length : Int) then (if 0 ≤ x7_2 then (if x7_2 < (l1.length : Int) then ((spec_l10Same.f kj29 ((rd_T42 l0 x6_2).f1.f0) ((rd_T42 l0 x6_2).f1.f1) ((rd_T42 l0 x6_2).f1.f2) ((rd_T42 l0 x6_2).f1.f3) ((rd_T42 l1 x7_2).f1.f0) ((rd_T42 l1 x7_2).f1.f1) ((rd_T42 l1 x7_2).f1.f2) ((rd_T42 l1 x7_2).f1.f3)).bind fun t175 => (if t175 = true then (spec_Differ.l0 kj29 l0 l1 x5_2 (wrap64 (x6_2 + 1)) (wrap64 (x7_2 + 1))) else ((spec_ValText.f kj29 ((rd_T42 l1 x7_2).f1.f0) ((rd_T42 l1 x7_2).f1.f1) ((rd_T42 l1 x7_2).f1.f2) ((rd_T42 l1 x7_2).f1.f3)).bind fun bt177 => (if x5_2.length < 3518437208883 then (spec_Differ.l0 kj29 l0 l1 (x5_2 ++ [(⟨(rd_T42 l1 x7_2).f0,bt177.1,false⟩ : S44)]) (wrap64 (x6_2 + 1)) (wrap64 (x7_2 + 1))) else (none))))) else (none)) else (none)) else (none)) else (none)) = some r:=by rw [if_neg (show ¬ (false = true) by decide)] at H;exact H
               clear H
               have H:=H1
               clear H1
               by_cases c45 : 0 ≤ x6_2
               ·rw [if_pos c45] at H
                have c45b0 : decide (0 ≤ x6_2) = true:=decide_eq_true c45
                clear c45
                by_cases c46 : x6_2 < (l0.length : Int)
                ·rw [if_pos c46] at H
                 have c46b0 : decide (x6_2 < (l0.length : Int)) = true:=decide_eq_true c46
                 clear c46
                 by_cases c47 : 0 ≤ x7_2
                 ·rw [if_pos c47] at H
                  have c47b0 : decide (0 ≤ x7_2) = true:=decide_eq_true c47
                  clear c47
                  by_cases c48 : x7_2 < (l1.length : Int)
                  ·rw [if_pos c48] at H
                   have c48b0 : decide (x7_2 < (l1.length : Int)) = true:=decide_eq_true c48
                   clear c48
                   replace H:=Option.bind_eq_some_iff.mp H
                   obtain ⟨t175,A490,H⟩:=H
                   replace H : (if t175 = true then (spec_Differ.l0 kj29 l0 l1 x5_2 (wrap64 (x6_2 + 1)) (wrap64 (x7_2 + 1))) else ((spec_ValText.f kj29 ((rd_T42 l1 x7_2).f1.f0) ((rd_T42 l1 x7_2).f1.f1) ((rd_T42 l1 x7_2).f1.f2) ((rd_T42 l1 x7_2).f1.f3)).bind fun bt177 => (if x5_2.length < 3518437208883 then (spec_Differ.l0 kj29 l0 l1 (x5_2 ++ [(⟨(rd_T42 l1 x7_2).f0,bt177.1,false⟩ : S44)]) (wrap64 (x6_2 + 1)) (wrap64 (x7_2 + 1))) else (none)))) = some r:=H
                   have A49:=Aside0.mk A490
                   clear A490
                   by_cases c50 : t175 = true
                   ·subst c50
                    have H1 : (spec_Differ.l0 kj29 l0 l1 x5_2 (wrap64 (x6_2 + 1)) (wrap64 (x7_2 + 1))) = some r:=by rw [if_pos rfl] at H;exact H
                    clear H
                    have H:=H1
                    clear H1
                    have H':=Aside0.mk H
                    clear H
                    try go_wp2
                    have n0_:=Aside0.mk (Kd.R_drew HO_5.out)
                    have n1_:=Aside0.mk (below_drew1 HB.out)
                    clear HO_5
                    clear HB
                    have HO_5:=n0_
                    have HB:=n1_
                    clear n0_ n1_
                    have p173 : 0 ≤ (x6_2 : Int):=of_decide_eq_true (by first | (with_reducible assumption) | assumption)
                    have q173 : x6_2 < (l0.length : Int):=of_decide_eq_true (by first | (with_reducible assumption) | assumption)
                    obtain ⟨ad173,A173_4,c173_4,e173,hx173_0,hx173_1,hx173_2,hx173_3,hx173_4,hl173_4,hi173_4⟩:=at_T42 HR0.out x6_2 p173 q173
                    have hw173_4:=hx173_4
                    have hw173_3:=hx173_3
                    have hw173_2:=hx173_2
                    have hw173_1:=hx173_1
                    have hw173_0:=hx173_0
                    cases e173
                    replace hx173_0:=(HB.out.cell (World.block_lt_of_cell? w _ hx173_0)).trans hx173_0
                    replace hx173_1:=(HB.out.cell (World.block_lt_of_cell? w _ hx173_1)).trans hx173_1
                    replace hx173_2:=(HB.out.cell (World.block_lt_of_cell? w _ hx173_2)).trans hx173_2
                    replace hx173_3:=(HB.out.cell (World.block_lt_of_cell? w _ hx173_3)).trans hx173_3
                    replace hx173_4:=(HB.out.cell (World.block_lt_of_cell? w _ hx173_4)).trans hx173_4
                    have HR173_4:=Aside0.mk hi173_4
                    have HC173_4:=Aside0.mk hl173_4
                    clear hi173_4 hl173_4
                    replace p173:=eq_true p173
                    replace q173:=eq_true q173
                    have p174 : 0 ≤ (x7_2 : Int):=of_decide_eq_true (by first | (with_reducible assumption) | assumption)
                    have q174 : x7_2 < (l1.length : Int):=of_decide_eq_true (by first | (with_reducible assumption) | assumption)
                    obtain ⟨ad174,A174_4,c174_4,e174,hx174_0,hx174_1,hx174_2,hx174_3,hx174_4,hl174_4,hi174_4⟩:=at_T42 HR1.out x7_2 p174 q174
                    have hw174_4:=hx174_4
                    have hw174_3:=hx174_3
                    have hw174_2:=hx174_2
                    have hw174_1:=hx174_1
                    have hw174_0:=hx174_0
                    cases e174
                    replace hx174_0:=(HB.out.cell (World.block_lt_of_cell? w _ hx174_0)).trans hx174_0
                    replace hx174_1:=(HB.out.cell (World.block_lt_of_cell? w _ hx174_1)).trans hx174_1
                    replace hx174_2:=(HB.out.cell (World.block_lt_of_cell? w _ hx174_2)).trans hx174_2
                    replace hx174_3:=(HB.out.cell (World.block_lt_of_cell? w _ hx174_3)).trans hx174_3
                    replace hx174_4:=(HB.out.cell (World.block_lt_of_cell? w _ hx174_4)).trans hx174_4
                    have HR174_4:=Aside0.mk hi174_4
                    have HC174_4:=Aside0.mk hl174_4
                    clear hi174_4 hl174_4
                    replace p174:=eq_true p174
                    replace q174:=eq_true q174
                    refine start_ (n:=12) (S:=fun w' => w'.cell? (ad173.add ((x6_2).toNat * 5)) = some (.string ((rd_T42 l0 x6_2).f0)) ∧ w'.cell? ⟨(ad173.add ((x6_2).toNat * 5)).block,(ad173.add ((x6_2).toNat * 5)).off + 1,none⟩ = some (.int .i64 ((rd_T42 l0 x6_2).f1.f0)) ∧ w'.cell? ⟨(ad173.add ((x6_2).toNat * 5)).block,(ad173.add ((x6_2).toNat * 5)).off + 2,none⟩ = some (.int .i64 ((rd_T42 l0 x6_2).f1.f1)) ∧ w'.cell? ⟨(ad173.add ((x6_2).toNat * 5)).block,(ad173.add ((x6_2).toNat * 5)).off + 3,none⟩ = some (.string ((rd_T42 l0 x6_2).f1.f2)) ∧ w'.cell? ⟨(ad173.add ((x6_2).toNat * 5)).block,(ad173.add ((x6_2).toNat * 5)).off + 4,none⟩ = some (.slice A173_4 ((rd_T42 l0 x6_2).f1.f3).length c173_4) ∧ w'.cell? (ad174.add ((x7_2).toNat * 5)) = some (.string ((rd_T42 l1 x7_2).f0)) ∧ w'.cell? ⟨(ad174.add ((x7_2).toNat * 5)).block,(ad174.add ((x7_2).toNat * 5)).off + 1,none⟩ = some (.int .i64 ((rd_T42 l1 x7_2).f1.f0)) ∧ w'.cell? ⟨(ad174.add ((x7_2).toNat * 5)).block,(ad174.add ((x7_2).toNat * 5)).off + 2,none⟩ = some (.int .i64 ((rd_T42 l1 x7_2).f1.f1)) ∧ w'.cell? ⟨(ad174.add ((x7_2).toNat * 5)).block,(ad174.add ((x7_2).toNat * 5)).off + 3,none⟩ = some (.string ((rd_T42 l1 x7_2).f1.f2)) ∧ w'.cell? ⟨(ad174.add ((x7_2).toNat * 5)).block,(ad174.add ((x7_2).toNat * 5)).off + 4,none⟩ = some (.slice A174_4 ((rd_T42 l1 x7_2).f1.f3).length c174_4)) (ds:=[]) (zF0 12 0) (by kernel_rfl) rfl rfl ⟨((HB.out.cell (World.block_lt_of_cell? w _ hw173_0)).trans hw173_0),((HB.out.cell (World.block_lt_of_cell? w _ hw173_1)).trans hw173_1),((HB.out.cell (World.block_lt_of_cell? w _ hw173_2)).trans hw173_2),((HB.out.cell (World.block_lt_of_cell? w _ hw173_3)).trans hw173_3),((HB.out.cell (World.block_lt_of_cell? w _ hw173_4)).trans hw173_4),((HB.out.cell (World.block_lt_of_cell? w _ hw174_0)).trans hw174_0),((HB.out.cell (World.block_lt_of_cell? w _ hw174_1)).trans hw174_1),((HB.out.cell (World.block_lt_of_cell? w _ hw174_2)).trans hw174_2),((HB.out.cell (World.block_lt_of_cell? w _ hw174_3)).trans hw174_3),((HB.out.cell (World.block_lt_of_cell? w _ hw174_4)).trans hw174_4)⟩ (fun hHeld => ?_);refine with_tabW spec_Differ.tab7 spec_Differ.bits7 (fun HT_ HW_ => ?_)
                    generalize wc.drew = w51 at HO_5 HB HR173_4 HR174_4 hx173_0 hx173_1 hx173_2 hx173_3 hx173_4 hx174_0 hx174_1 hx174_2 hx174_3 hx174_4 hHeld ⊢
                    refine zP0 (i:=0) (N:=some 32) (zF0 12 1) rfl rfl HT_.out ?_
                    refine zP0 (i:=1) (N:=some 33) (zF0 12 3) rfl rfl HT_.out ?_
                    refine zP0 (i:=2) (N:=some 34) (zF0 12 7) rfl rfl HT_.out ?_
                    refine zP0 (i:=3) (N:=some 35) (zF0 12 15) rfl rfl HT_.out ?_
                    refine zP0 (i:=5) (N:=some 37) (zF0 12 47) rfl rfl HT_.out ?_
                    refine zP0 (i:=6) (N:=some 38) (zF0 12 111) rfl rfl HT_.out ?_
                    refine zP0 (i:=7) (N:=some 39) (zF0 12 239) rfl rfl HT_.out ?_
                    refine zP0 (i:=8) (N:=some 40) (zF0 12 495) rfl rfl HT_.out ?_
                    refine take_ (i:=4) (N:=some 36) (v:=?_) (a':=?_) (zF0 12 511) rfl rfl (take_ofW HT_.out HW_.out (by kernel_rfl)) (fun _ _ _ h => h) (Or.inl ⟨by rfl,?_⟩) hHeld ?_ ?_;rotate_left
                    ·rintro w' ⟨s0,s1,s2,s3,s4,s5,s6,s7,s8,s9⟩
                     go_simp
                     with_reducible rfl
                    rotate_left
                    ·simp only [Act.put,qA0,qB0,qC0,i64_w,i32_w];rfl
                    refine take_ (i:=9) (N:=some 41) (v:=?_) (a':=?_) (zF0 12 1023) rfl rfl (take_ofW HT_.out HW_.out (by kernel_rfl)) (fun _ _ _ h => h) (Or.inl ⟨by rfl,?_⟩) hHeld ?_ ?_;rotate_left
                    ·rintro w' ⟨s0,s1,s2,s3,s4,s5,s6,s7,s8,s9⟩
                     go_simp
                     with_reducible rfl
                    rotate_left
                    ·simp only [Act.put,qA0,qB0,qC0,i64_w,i32_w];rfl
                    refine one_ (i:=10) (N:=some 42) (zF0 12 2047) rfl rfl (one_of HT_.out (by kernel_rfl)) (by decide) (fun K hK => ?_)
                    refine goes_ Try.func16 (by kernel_rfl) rfl #[.agg #[.int .i64 ((rd_T42 l0 x6_2).f1.f0),.int .i64 ((rd_T42 l0 x6_2).f1.f1),.string ((rd_T42 l0 x6_2).f1.f2),.slice A173_4 ((rd_T42 l0 x6_2).f1.f3).length c173_4],.agg #[.int .i64 ((rd_T42 l1 x7_2).f1.f0),.int .i64 ((rd_T42 l1 x7_2).f1.f1),.string ((rd_T42 l1 x7_2).f1.f2),.slice A174_4 ((rd_T42 l1 x7_2).f1.f3).length c174_4]] (by rfl) rfl rfl zM0 ?_
                    with_reducible refine (spec_l10Same.calls kj29 ((rd_T42 l0 x6_2).f1.f0) ((rd_T42 l0 x6_2).f1.f1) ((rd_T42 l0 x6_2).f1.f2) _ _ ((rd_T42 l0 x6_2).f1.f3) ((rd_T42 l1 x7_2).f1.f0) ((rd_T42 l1 x7_2).f1.f1) ((rd_T42 l1 x7_2).f1.f2) _ _ ((rd_T42 l1 x7_2).f1.f3) true _ ?side1 ?side2 ?side3 ?side4 A49.out).mono ?_
                    (case side1 => repeat (first | exact (Kd.C_below HR173_4.out HB.out) | (with_reducible refine Kd.C_alloc ?_ _) | (with_reducible refine Kd.C_drewN ?_ _) | (with_reducible refine Kd.C_drew ?_)))
                    (case side2 => exact HC173_4.out)
                    (case side3 => repeat (first | exact (Kd.C_below HR174_4.out HB.out) | (with_reducible refine Kd.C_alloc ?_ _) | (with_reducible refine Kd.C_drewN ?_ _) | (with_reducible refine Kd.C_drew ?_)))
                    (case side4 => exact HC174_4.out)
                    rintro e w52 ⟨rfl,hb⟩
                    refine ⟨_,rfl,?_⟩
                    have n0_:=Aside0.mk (Kd.R_below (zR0 HO_5.out) hb)
                    have n1_:=Aside0.mk (zS0 HB.out hb)
                    clear HO_5
                    clear HB
                    have HO_5:=n0_
                    have HB:=n1_
                    clear n0_ n1_
                    (try clear hb)
                    (try clear hb2)
                    (try clear hk)
                    (try clear hi)
                    refine hK.out _ _ ⟨((HB.out.cell (World.block_lt_of_cell? w _ hw173_0)).trans hw173_0),((HB.out.cell (World.block_lt_of_cell? w _ hw173_1)).trans hw173_1),((HB.out.cell (World.block_lt_of_cell? w _ hw173_2)).trans hw173_2),((HB.out.cell (World.block_lt_of_cell? w _ hw173_3)).trans hw173_3),((HB.out.cell (World.block_lt_of_cell? w _ hw173_4)).trans hw173_4),((HB.out.cell (World.block_lt_of_cell? w _ hw174_0)).trans hw174_0),((HB.out.cell (World.block_lt_of_cell? w _ hw174_1)).trans hw174_1),((HB.out.cell (World.block_lt_of_cell? w _ hw174_2)).trans hw174_2),((HB.out.cell (World.block_lt_of_cell? w _ hw174_3)).trans hw174_3),((HB.out.cell (World.block_lt_of_cell? w _ hw174_4)).trans hw174_4)⟩ (fun hHeld => ?_)
                    clear hK K
                    refine norm_ (a':=?_) ?_ ?_;rotate_left
                    ·show Act.put _ (some 42) _ = _;simp only [Act.put,qA0,qB0,qC0,i64_w,i32_w];rfl
                    refine zP0 (i:=11) (N:=some 43) (zF0 12 4095) rfl rfl HT_.out ?_
                    refine done_ (done_of HT_.out (by kernel_rfl)) ?_
                    try go_wp2
                    go_roundg kj29
                    case measure => have:=HJ2.out;have:=HK2.out;have:=HJ12.out;have:=HJ15.out;have:=HJ29.out;omega
                    case rel => exact ⟨(x5_2),(wrap64 (x6_2 + 1)),(wrap64 (x7_2 + 1)),(by first | rfl | (simp;done) | (simp [*];done)),(by first | rfl | (simp;done) | (simp [*];done)),H',⟨by have:=HJ2.out;have:=HK2.out;have:=HJ12.out;have:=HJ15.out;have:=HJ29.out;omega⟩,⟨by (with_reducible repeat (first | apply Kd.R_alloc | apply Kd.R_drewN | apply Kd.R_drew));exact HO_5.out⟩,⟨by repeat (first | (with_reducible first | exact HB.out | apply below_alloc | apply pw_below_drewN | apply below_drew1) | exact HB.out)⟩⟩
                   ·replace c50:=Bool.eq_false_iff.mpr c50
                    subst c50
                    have H1 : ((spec_ValText.f kj29 ((rd_T42 l1 x7_2).f1.f0) ((rd_T42 l1 x7_2).f1.f1) ((rd_T42 l1 x7_2).f1.f2) ((rd_T42 l1 x7_2).f1.f3)).bind fun bt177 => (if x5_2.length < 3518437208883 then (spec_Differ.l0 kj29 l0 l1 (x5_2 ++ [(⟨(rd_T42 l1 x7_2).f0,bt177.1,false⟩ : S44)]) (wrap64 (x6_2 + 1)) (wrap64 (x7_2 + 1))) else (none))) = some r:=by rw [if_neg (show ¬ (false = true) by decide)] at H;exact H
                    clear H
                    have H:=H1
                    clear H1
                    replace H:=Option.bind_eq_some_iff.mp H
                    obtain ⟨⟨t177,t178⟩,A530,H⟩:=H
                    replace H : (if x5_2.length < 3518437208883 then (spec_Differ.l0 kj29 l0 l1 (x5_2 ++ [(⟨(rd_T42 l1 x7_2).f0,t177,false⟩ : S44)]) (wrap64 (x6_2 + 1)) (wrap64 (x7_2 + 1))) else (none)) = some r:=H
                    have A53:=Aside0.mk A530
                    clear A530
                    by_cases c54 : x5_2.length < 3518437208883
                    ·rw [if_pos c54] at H
                     have LMc54:=Aside0.mk c54
                     clear c54
                     obtain ⟨y180,hy180⟩ : ∃ y_ : List (S44),y_ = (x5_2 ++ [(⟨(rd_T42 l1 x7_2).f0,t177,false⟩ : S44)]):=⟨_,rfl⟩
                     replace H : (spec_Differ.l0 kj29 l0 l1 y180 (wrap64 (x6_2 + 1)) (wrap64 (x7_2 + 1))) = some r:=by first | (rw [hy180];with_reducible exact H) | (have H2_:=(Option.bind_some _ _).symm.trans H;rw [hy180];with_reducible exact H2_) | (have H2_:=(Option.bind_some _ _).symm.trans H;with_reducible exact H2_) | with_reducible exact H | (rw [hy180];exact H) | exact H
                     have Ny180:=Aside0.mk hy180
                     clear hy180
                     have H':=Aside0.mk H
                     clear H
                     try go_wp2
                     have n0_:=Aside0.mk (Kd.R_drew HO_5.out)
                     have n1_:=Aside0.mk (below_drew1 HB.out)
                     clear HO_5
                     clear HB
                     have HO_5:=n0_
                     have HB:=n1_
                     clear n0_ n1_
                     have p173 : 0 ≤ (x6_2 : Int):=of_decide_eq_true (by first | (with_reducible assumption) | assumption)
                     have q173 : x6_2 < (l0.length : Int):=of_decide_eq_true (by first | (with_reducible assumption) | assumption)
                     obtain ⟨ad173,A173_4,c173_4,e173,hx173_0,hx173_1,hx173_2,hx173_3,hx173_4,hl173_4,hi173_4⟩:=at_T42 HR0.out x6_2 p173 q173
                     have hw173_4:=hx173_4
                     have hw173_3:=hx173_3
                     have hw173_2:=hx173_2
                     have hw173_1:=hx173_1
                     have hw173_0:=hx173_0
                     cases e173
                     replace hx173_0:=(HB.out.cell (World.block_lt_of_cell? w _ hx173_0)).trans hx173_0
                     replace hx173_1:=(HB.out.cell (World.block_lt_of_cell? w _ hx173_1)).trans hx173_1
                     replace hx173_2:=(HB.out.cell (World.block_lt_of_cell? w _ hx173_2)).trans hx173_2
                     replace hx173_3:=(HB.out.cell (World.block_lt_of_cell? w _ hx173_3)).trans hx173_3
                     replace hx173_4:=(HB.out.cell (World.block_lt_of_cell? w _ hx173_4)).trans hx173_4
                     have HR173_4:=Aside0.mk hi173_4
                     have HC173_4:=Aside0.mk hl173_4
                     clear hi173_4 hl173_4
                     replace p173:=eq_true p173
                     replace q173:=eq_true q173
                     have p174 : 0 ≤ (x7_2 : Int):=of_decide_eq_true (by first | (with_reducible assumption) | assumption)
                     have q174 : x7_2 < (l1.length : Int):=of_decide_eq_true (by first | (with_reducible assumption) | assumption)
                     obtain ⟨ad174,A174_4,c174_4,e174,hx174_0,hx174_1,hx174_2,hx174_3,hx174_4,hl174_4,hi174_4⟩:=at_T42 HR1.out x7_2 p174 q174
                     have hw174_4:=hx174_4
                     have hw174_3:=hx174_3
                     have hw174_2:=hx174_2
                     have hw174_1:=hx174_1
                     have hw174_0:=hx174_0
                     cases e174
                     replace hx174_0:=(HB.out.cell (World.block_lt_of_cell? w _ hx174_0)).trans hx174_0
                     replace hx174_1:=(HB.out.cell (World.block_lt_of_cell? w _ hx174_1)).trans hx174_1
                     replace hx174_2:=(HB.out.cell (World.block_lt_of_cell? w _ hx174_2)).trans hx174_2
                     replace hx174_3:=(HB.out.cell (World.block_lt_of_cell? w _ hx174_3)).trans hx174_3
                     replace hx174_4:=(HB.out.cell (World.block_lt_of_cell? w _ hx174_4)).trans hx174_4
                     have HR174_4:=Aside0.mk hi174_4
                     have HC174_4:=Aside0.mk hl174_4
                     clear hi174_4 hl174_4
                     replace p174:=eq_true p174
                     replace q174:=eq_true q174
                     refine start_ (n:=12) (S:=fun w' => w'.cell? (ad173.add ((x6_2).toNat * 5)) = some (.string ((rd_T42 l0 x6_2).f0)) ∧ w'.cell? ⟨(ad173.add ((x6_2).toNat * 5)).block,(ad173.add ((x6_2).toNat * 5)).off + 1,none⟩ = some (.int .i64 ((rd_T42 l0 x6_2).f1.f0)) ∧ w'.cell? ⟨(ad173.add ((x6_2).toNat * 5)).block,(ad173.add ((x6_2).toNat * 5)).off + 2,none⟩ = some (.int .i64 ((rd_T42 l0 x6_2).f1.f1)) ∧ w'.cell? ⟨(ad173.add ((x6_2).toNat * 5)).block,(ad173.add ((x6_2).toNat * 5)).off + 3,none⟩ = some (.string ((rd_T42 l0 x6_2).f1.f2)) ∧ w'.cell? ⟨(ad173.add ((x6_2).toNat * 5)).block,(ad173.add ((x6_2).toNat * 5)).off + 4,none⟩ = some (.slice A173_4 ((rd_T42 l0 x6_2).f1.f3).length c173_4) ∧ w'.cell? (ad174.add ((x7_2).toNat * 5)) = some (.string ((rd_T42 l1 x7_2).f0)) ∧ w'.cell? ⟨(ad174.add ((x7_2).toNat * 5)).block,(ad174.add ((x7_2).toNat * 5)).off + 1,none⟩ = some (.int .i64 ((rd_T42 l1 x7_2).f1.f0)) ∧ w'.cell? ⟨(ad174.add ((x7_2).toNat * 5)).block,(ad174.add ((x7_2).toNat * 5)).off + 2,none⟩ = some (.int .i64 ((rd_T42 l1 x7_2).f1.f1)) ∧ w'.cell? ⟨(ad174.add ((x7_2).toNat * 5)).block,(ad174.add ((x7_2).toNat * 5)).off + 3,none⟩ = some (.string ((rd_T42 l1 x7_2).f1.f2)) ∧ w'.cell? ⟨(ad174.add ((x7_2).toNat * 5)).block,(ad174.add ((x7_2).toNat * 5)).off + 4,none⟩ = some (.slice A174_4 ((rd_T42 l1 x7_2).f1.f3).length c174_4)) (ds:=[]) (zF0 12 0) (by kernel_rfl) rfl rfl ⟨((HB.out.cell (World.block_lt_of_cell? w _ hw173_0)).trans hw173_0),((HB.out.cell (World.block_lt_of_cell? w _ hw173_1)).trans hw173_1),((HB.out.cell (World.block_lt_of_cell? w _ hw173_2)).trans hw173_2),((HB.out.cell (World.block_lt_of_cell? w _ hw173_3)).trans hw173_3),((HB.out.cell (World.block_lt_of_cell? w _ hw173_4)).trans hw173_4),((HB.out.cell (World.block_lt_of_cell? w _ hw174_0)).trans hw174_0),((HB.out.cell (World.block_lt_of_cell? w _ hw174_1)).trans hw174_1),((HB.out.cell (World.block_lt_of_cell? w _ hw174_2)).trans hw174_2),((HB.out.cell (World.block_lt_of_cell? w _ hw174_3)).trans hw174_3),((HB.out.cell (World.block_lt_of_cell? w _ hw174_4)).trans hw174_4)⟩ (fun hHeld => ?_);refine with_tabW spec_Differ.tab7 spec_Differ.bits7 (fun HT_ HW_ => ?_)
                     generalize wc.drew = w55 at HO_5 HB HR173_4 HR174_4 hx173_0 hx173_1 hx173_2 hx173_3 hx173_4 hx174_0 hx174_1 hx174_2 hx174_3 hx174_4 hHeld ⊢
                     refine zP0 (i:=0) (N:=some 32) (zF0 12 1) rfl rfl HT_.out ?_
                     refine zP0 (i:=1) (N:=some 33) (zF0 12 3) rfl rfl HT_.out ?_
                     refine zP0 (i:=2) (N:=some 34) (zF0 12 7) rfl rfl HT_.out ?_
                     refine zP0 (i:=3) (N:=some 35) (zF0 12 15) rfl rfl HT_.out ?_
                     refine zP0 (i:=5) (N:=some 37) (zF0 12 47) rfl rfl HT_.out ?_
                     refine zP0 (i:=6) (N:=some 38) (zF0 12 111) rfl rfl HT_.out ?_
                     refine zP0 (i:=7) (N:=some 39) (zF0 12 239) rfl rfl HT_.out ?_
                     refine zP0 (i:=8) (N:=some 40) (zF0 12 495) rfl rfl HT_.out ?_
                     refine take_ (i:=4) (N:=some 36) (v:=?_) (a':=?_) (zF0 12 511) rfl rfl (take_ofW HT_.out HW_.out (by kernel_rfl)) (fun _ _ _ h => h) (Or.inl ⟨by rfl,?_⟩) hHeld ?_ ?_;rotate_left
                     ·rintro w' ⟨s0,s1,s2,s3,s4,s5,s6,s7,s8,s9⟩
                      go_simp
                      with_reducible rfl
                     rotate_left
                     ·simp only [Act.put,qA0,qB0,qC0,i64_w,i32_w];rfl
                     refine take_ (i:=9) (N:=some 41) (v:=?_) (a':=?_) (zF0 12 1023) rfl rfl (take_ofW HT_.out HW_.out (by kernel_rfl)) (fun _ _ _ h => h) (Or.inl ⟨by rfl,?_⟩) hHeld ?_ ?_;rotate_left
                     ·rintro w' ⟨s0,s1,s2,s3,s4,s5,s6,s7,s8,s9⟩
                      go_simp
                      with_reducible rfl
                     rotate_left
                     ·simp only [Act.put,qA0,qB0,qC0,i64_w,i32_w];rfl
                     refine one_ (i:=10) (N:=some 42) (zF0 12 2047) rfl rfl (one_of HT_.out (by kernel_rfl)) (by decide) (fun K hK => ?_)
                     refine goes_ Try.func16 (by kernel_rfl) rfl #[.agg #[.int .i64 ((rd_T42 l0 x6_2).f1.f0),.int .i64 ((rd_T42 l0 x6_2).f1.f1),.string ((rd_T42 l0 x6_2).f1.f2),.slice A173_4 ((rd_T42 l0 x6_2).f1.f3).length c173_4],.agg #[.int .i64 ((rd_T42 l1 x7_2).f1.f0),.int .i64 ((rd_T42 l1 x7_2).f1.f1),.string ((rd_T42 l1 x7_2).f1.f2),.slice A174_4 ((rd_T42 l1 x7_2).f1.f3).length c174_4]] (by rfl) rfl rfl zM0 ?_
                     with_reducible refine (spec_l10Same.calls kj29 ((rd_T42 l0 x6_2).f1.f0) ((rd_T42 l0 x6_2).f1.f1) ((rd_T42 l0 x6_2).f1.f2) _ _ ((rd_T42 l0 x6_2).f1.f3) ((rd_T42 l1 x7_2).f1.f0) ((rd_T42 l1 x7_2).f1.f1) ((rd_T42 l1 x7_2).f1.f2) _ _ ((rd_T42 l1 x7_2).f1.f3) false _ ?side1 ?side2 ?side3 ?side4 A49.out).mono ?_
                     (case side1 => repeat (first | exact (Kd.C_below HR173_4.out HB.out) | (with_reducible refine Kd.C_alloc ?_ _) | (with_reducible refine Kd.C_drewN ?_ _) | (with_reducible refine Kd.C_drew ?_)))
                     (case side2 => exact HC173_4.out)
                     (case side3 => repeat (first | exact (Kd.C_below HR174_4.out HB.out) | (with_reducible refine Kd.C_alloc ?_ _) | (with_reducible refine Kd.C_drewN ?_ _) | (with_reducible refine Kd.C_drew ?_)))
                     (case side4 => exact HC174_4.out)
                     rintro e w56 ⟨rfl,hb⟩
                     refine ⟨_,rfl,?_⟩
                     have n0_:=Aside0.mk (Kd.R_below (zR0 HO_5.out) hb)
                     have n1_:=Aside0.mk (zS0 HB.out hb)
                     clear HO_5
                     clear HB
                     have HO_5:=n0_
                     have HB:=n1_
                     clear n0_ n1_
                     (try clear hb)
                     (try clear hb2)
                     (try clear hk)
                     (try clear hi)
                     refine hK.out _ _ ⟨((HB.out.cell (World.block_lt_of_cell? w _ hw173_0)).trans hw173_0),((HB.out.cell (World.block_lt_of_cell? w _ hw173_1)).trans hw173_1),((HB.out.cell (World.block_lt_of_cell? w _ hw173_2)).trans hw173_2),((HB.out.cell (World.block_lt_of_cell? w _ hw173_3)).trans hw173_3),((HB.out.cell (World.block_lt_of_cell? w _ hw173_4)).trans hw173_4),((HB.out.cell (World.block_lt_of_cell? w _ hw174_0)).trans hw174_0),((HB.out.cell (World.block_lt_of_cell? w _ hw174_1)).trans hw174_1),((HB.out.cell (World.block_lt_of_cell? w _ hw174_2)).trans hw174_2),((HB.out.cell (World.block_lt_of_cell? w _ hw174_3)).trans hw174_3),((HB.out.cell (World.block_lt_of_cell? w _ hw174_4)).trans hw174_4)⟩ (fun hHeld => ?_)
                     clear hK K
                     refine norm_ (a':=?_) ?_ ?_;rotate_left
                     ·show Act.put _ (some 42) _ = _;simp only [Act.put,qA0,qB0,qC0,i64_w,i32_w];rfl
                     refine zP0 (i:=11) (N:=some 43) (zF0 12 4095) rfl rfl HT_.out ?_
                     refine done_ (done_of HT_.out (by kernel_rfl)) ?_
                     have p176 : 0 ≤ (x7_2 : Int):=of_decide_eq_true (by first | (with_reducible assumption) | assumption)
                     have q176 : x7_2 < (l1.length : Int):=of_decide_eq_true (by first | (with_reducible assumption) | assumption)
                     obtain ⟨ad176,A176_4,c176_4,e176,hx176_0,hx176_1,hx176_2,hx176_3,hx176_4,hl176_4,hi176_4⟩:=at_T42 HR1.out x7_2 p176 q176
                     obtain rfl : ad174 = ad176:=(by injection e176)
                     obtain ⟨hA_,hc_⟩ : A176_4 = A174_4 ∧ c176_4 = c174_4:=(by have e_:=Option.some.inj (hx176_4.symm.trans hw174_4);injection e_ with h1_ _ h3_;exact ⟨h1_,h3_⟩)
                     subst hA_
                     subst hc_
                     replace hx176_0:=(HB.out.cell (World.block_lt_of_cell? w _ hx176_0)).trans hx176_0
                     replace hx176_1:=(HB.out.cell (World.block_lt_of_cell? w _ hx176_1)).trans hx176_1
                     replace hx176_2:=(HB.out.cell (World.block_lt_of_cell? w _ hx176_2)).trans hx176_2
                     replace hx176_3:=(HB.out.cell (World.block_lt_of_cell? w _ hx176_3)).trans hx176_3
                     replace hx176_4:=(HB.out.cell (World.block_lt_of_cell? w _ hx176_4)).trans hx176_4
                     have HR176_4:=Aside0.mk hi176_4
                     have HC176_4:=Aside0.mk hl176_4
                     clear hi176_4 hl176_4
                     replace p176:=eq_true p176
                     replace q176:=eq_true q176
                     try go_wp2_with (first | ((with_reducible refine gate_callee (f:=15) rfl ?_);refine goesL_ (some 50) rfl rfl Try.func15 (by kernel_rfl) rfl #[.agg #[.int .i64 ((rd_T42 l1 x7_2).f1.f0),.int .i64 ((rd_T42 l1 x7_2).f1.f1),.string ((rd_T42 l1 x7_2).f1.f2),.slice A176_4 ((rd_T42 l1 x7_2).f1.f3).length c176_4]] rfl zM0 ?_;(with_reducible refine (spec_ValText.calls kj29 ((rd_T42 l1 x7_2).f1.f0) ((rd_T42 l1 x7_2).f1.f1) ((rd_T42 l1 x7_2).f1.f2) _ _ ((rd_T42 l1 x7_2).f1.f3) t177 t178 _ ?side1 ?side2 A53.out).mono ?_);(case side1 => repeat (first | exact (Kd.C_below HR176_4.out HB.out) | (with_reducible refine Kd.C_alloc ?_ _) | (with_reducible refine Kd.C_drewN ?_ _) | (with_reducible refine Kd.C_drew ?_)));(case side2 => exact HC176_4.out);rintro e w57 ⟨rfl,hb⟩;refine ⟨_,rfl,?_⟩;have n0_:=Aside0.mk (Kd.R_below (zR0 HO_5.out) hb);have n1_:=Aside0.mk (zS0 HB.out hb);clear HO_5;clear HB;have HO_5:=n0_;have HB:=n1_;clear n0_ n1_;(try clear hb);(try clear hb2);(try clear hk);(try clear hi);have p179 : 0 ≤ (x7_2 : Int):=of_decide_eq_true (by first | (with_reducible assumption) | assumption);have q179 : x7_2 < (l1.length : Int):=of_decide_eq_true (by first | (with_reducible assumption) | assumption);obtain ⟨ad179,A179_4,c179_4,e179,hx179_0,hx179_1,hx179_2,hx179_3,hx179_4,hl179_4,hi179_4⟩:=at_T42 HR1.out x7_2 p179 q179;obtain rfl : ad174 = ad179:=(by injection e179);replace hx179_0:=(HB.out.cell (World.block_lt_of_cell? w _ hx179_0)).trans hx179_0;replace hx179_1:=(HB.out.cell (World.block_lt_of_cell? w _ hx179_1)).trans hx179_1;replace hx179_2:=(HB.out.cell (World.block_lt_of_cell? w _ hx179_2)).trans hx179_2;replace hx179_3:=(HB.out.cell (World.block_lt_of_cell? w _ hx179_3)).trans hx179_3;replace hx179_4:=(HB.out.cell (World.block_lt_of_cell? w _ hx179_4)).trans hx179_4;have HR179_4:=Aside0.mk hi179_4;have HC179_4:=Aside0.mk hl179_4;clear hi179_4 hl179_4;replace p179:=eq_true p179;replace q179:=eq_true q179) | ((with_reducible refine gate_builtin (b:=.append) (xs:=#[.tmp 53,.tmp 61]) rfl ?_);(try (refine gate_guard (by rfl) ?_;dsimp only));at_builtin;refine Kd.R_append k44 (w0:=w) w.heap.size rfl (.tmp 53) (.tmp 61) 24 44 (.agg #[(.string ⟨#[]⟩),(.string ⟨#[]⟩),(.bool false)]) 40 rfl Try.underlying24 info44 rfl (by decide) (by omega) u5 x5_2 (⟨(rd_T42 l1 x7_2).f0,t177,false⟩ : S44) [.string ((rd_T42 l1 x7_2).f0),.string t177,.bool false] (fun _ => True) (fun _ => False) rfl rfl ?aP (fun _ hk => hk.elim) ?aF ?aO ?aB ?aS ?aL ?_;(case aP => exact k44_mkM _ _ _ (⟨(rd_T42 l1 x7_2).f0,t177,false⟩ : S44));(case aB => exact (by repeat (first | (with_reducible first | exact HB.out | apply below_alloc | apply pw_below_drewN | apply below_drew1) | exact HB.out)));(case aF => exact (fun _ _ => trivial));(case aO => exact (zR0 HO_5.out));(case aS => exact (zZ0 HB.out));(case aL => have:=LMc54.out;omega);intro v181 w58 ho hb hg hat;rw [← Ny180.out] at ho;have n0_:=Aside0.mk (hb);have n1_:=Aside0.mk (ho);clear HB;clear HO_5;have HB:=n0_;have HO182:=n1_;clear n0_ n1_;clear ho hb hg hat))
                     go_roundg kj29
                     case measure => have:=HJ2.out;have:=HK2.out;have:=HJ12.out;have:=HJ15.out;have:=HJ29.out;omega
                     case rel => exact ⟨(y180),(wrap64 (x6_2 + 1)),(wrap64 (x7_2 + 1)),(by first | rfl | (simp;done) | (simp [*];done)),(by first | rfl | (simp;done) | (simp [*];done)),H',⟨by have:=HJ2.out;have:=HK2.out;have:=HJ12.out;have:=HJ15.out;have:=HJ29.out;omega⟩,⟨by (with_reducible repeat (first | apply Kd.R_alloc | apply Kd.R_drewN | apply Kd.R_drew));exact HO182.out⟩,⟨by repeat (first | (with_reducible first | exact HB.out | apply below_alloc | apply pw_below_drewN | apply below_drew1) | exact HB.out)⟩⟩
                    ·rw [if_neg c54] at H
                     exact absurd H (by simp)
                  ·rw [if_neg c48] at H
                   exact absurd H (by simp)
                 ·rw [if_neg c47] at H
                  exact absurd H (by simp)
                ·rw [if_neg c46] at H
                 exact absurd H (by simp)
               ·rw [if_neg c45] at H
                exact absurd H (by simp)
        ·replace c15:=Bool.eq_false_iff.mpr c15
         subst c15
         have H1 : (some x5_2) = some r:=by rw [if_neg (show ¬ (false = true) by decide)] at H;exact H
         clear H
         have H:=H1
         clear H1
         obtain rfl:=Option.some.inj H
         go_wp2
         go_ret
         exact ⟨_,by first | rfl | (simp [errW_none,errW_some] <;> rfl) | (simp [*,errW_none,errW_some] <;> rfl),by (with_reducible repeat (first | apply Kd.R_alloc | apply Kd.R_drewN | apply Kd.R_drew));exact HO_5.out,by repeat (first | (with_reducible first | exact HB.out | apply below_alloc | apply pw_below_drewN | apply below_drew1) | exact HB.out)⟩

end Go.Proofs.Ytlekhcopddajbaa.PFnExactDiffer
