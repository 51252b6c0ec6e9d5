/- Walks of functions that the law FnExactDiffer reaches, turned by this session from a print of which a part did not build; what was changed is listed in wip/patches of the proofs' repo. -/
import Derived.Test.YtlekhcopddajbaaOFnExactDifferx0
import Derived.Test.YtlekhcopddajbaaOFnExactDifferx10
import Derived.Test.YtlekhcopddajbaaOFnExactDifferx11
import Derived.Test.YtlekhcopddajbaaOFnExactDifferx12
namespace Go.Proofs.Ytlekhcopddajbaa.PFnExactDiffer
open Go.RowKit Go.Proofs.YtlekhcopddajbaaW.PrintWords Go.Proofs.YtlekhcopddajbaaW.PrintLast Go.Proofs.YtlekhcopddajbaaW.PrintMore
attribute [local go_sem] max2_int min2_int max_two min_two max_three min_three max_four min_four   -- for this text's walks alone
set_option linter.unusedVariables false
set_option linter.unusedSimpArgs false

/-! ### impl_Differ: function 7 -/
mutual
def impl_Differ.j0 : Nat → List (S42) → List (S42) → Bool → Option ((List (S44)))
 | 0,_,_,_ => none
 | k + 1,x0,x1,x23 => if x23 = true then (some ([] : List (S44))) else (impl_Differ.l0 k x0 x1 ([] : List (S44)) x0 (x0.length : Int) 0)
def impl_Differ.l0 : Nat → List (S42) → List (S42) → List (S44) → List (S42) → Int → Int → Option ((List (S44)))
 | 0,_,_,_,_,_,_ => none
 | k + 1,x0,x1,x5,x24,x25,x26 => if x26 < x25 then (if 0 ≤ x26 then (if x26 < (x24.length : Int) then ((impl_Find.f x1 ((rd_T42 x24 x26).f0)).bind fun bt266 => (if bt266.2.2.2.2 = true then (impl_Differ.l0 k x0 x1 x5 x24 x25 (wrap64 (x26 + 1))) else (if x5.length < 3518437208883 then (impl_Differ.l0 k x0 x1 (x5 ++ [(⟨(rd_T42 x24 x26).f0,(⟨#[]⟩ : ByteArray),true⟩ : S44)]) x24 x25 (wrap64 (x26 + 1))) else (none)))) else (none)) else (none)) else (impl_Differ.l1 k x0 x5 x1 (x1.length : Int) 0)
def impl_Differ.l1 : Nat → List (S42) → List (S44) → List (S42) → Int → Int → Option ((List (S44)))
 | 0,_,_,_,_,_ => none
 | k + 1,x0,x5,x46,x47,x48 => if x48 < x47 then (if 0 ≤ x48 then (if x48 < (x46.length : Int) then ((impl_Find.f x0 ((rd_T42 x46 x48).f0)).bind fun bt280 => (if bt280.2.2.2.2 = true then ((impl_sameVal.f k bt280.1 bt280.2.1 bt280.2.2.1 bt280.2.2.2.1 ((rd_T42 x46 x48).f1.f0) ((rd_T42 x46 x48).f1.f1) ((rd_T42 x46 x48).f1.f2) ((rd_T42 x46 x48).f1.f3)).bind fun t288 => (if t288 = true then (impl_Differ.l1 k x0 x5 x46 x47 (wrap64 (x48 + 1))) else ((impl_ValText.f k ((rd_T42 x46 x48).f1.f0) ((rd_T42 x46 x48).f1.f1) ((rd_T42 x46 x48).f1.f2) ((rd_T42 x46 x48).f1.f3)).bind fun bt289 => (if x5.length < 3518437208883 then (impl_Differ.l1 k x0 (x5 ++ [(⟨(rd_T42 x46 x48).f0,bt289.1,false⟩ : S44)]) x46 x47 (wrap64 (x48 + 1))) else (none))))) else ((impl_ValText.f k ((rd_T42 x46 x48).f1.f0) ((rd_T42 x46 x48).f1.f1) ((rd_T42 x46 x48).f1.f2) ((rd_T42 x46 x48).f1.f3)).bind fun bt294 => (if x5.length < 3518437208883 then (impl_Differ.l1 k x0 (x5 ++ [(⟨(rd_T42 x46 x48).f0,bt294.1,false⟩ : S44)]) x46 x47 (wrap64 (x48 + 1))) else (none))))) else (none)) else (none)) else ((slices_SortFunc_c.f x5).bind fun t277 => (some t277))
end
def impl_Differ.f (k : Nat) (l0 : List (S42)) (l1 : List (S42)) : Option ((List (S44))):=(impl_TableOk.f k l0).bind fun t262 => (if t262 = true then ((impl_TableOk.f k l1).bind fun t263 => (impl_Differ.j0 k l0 l1 (!t263))) else (impl_Differ.j0 k l0 l1 true))
theorem impl_Differ.mono_l : ∀ k,(∀ y0 y1 y2,LeO (impl_Differ.j0 k y0 y1 y2) (impl_Differ.j0 (k + 1) y0 y1 y2)) ∧ (∀ y0 y1 y2 y3 y4 y5,LeO (impl_Differ.l0 k y0 y1 y2 y3 y4 y5) (impl_Differ.l0 (k + 1) y0 y1 y2 y3 y4 y5)) ∧ (∀ y0 y1 y2 y3 y4,LeO (impl_Differ.l1 k y0 y1 y2 y3 y4) (impl_Differ.l1 (k + 1) y0 y1 y2 y3 y4))
 | 0 => ⟨fun _ _ _ r h => by simp [impl_Differ.j0] at h,fun _ _ _ _ _ _ r h => by simp [impl_Differ.l0] at h,fun _ _ _ _ _ r h => by simp [impl_Differ.l1] at h⟩
 | k + 1 => by
  obtain ⟨ih0,ih1,ih2⟩:=impl_Differ.mono_l k
  refine ⟨?_,?_,?_⟩
  ·intro y0 y1 y2
   unfold impl_Differ.j0
   repeat' first
   | (with_reducible exact ih0 _ _ _)
   | (with_reducible exact ih1 _ _ _ _ _ _)
   | (with_reducible exact ih2 _ _ _ _ _)
   | (with_reducible exact impl_TableOk.mono _ _)
   | (with_reducible exact impl_ValText.mono _ _ _ _ _)
   | (with_reducible exact impl_sameVal.mono _ _ _ _ _ _ _ _ _)
   | (with_reducible exact LeO.refl _)
   | (with_reducible exact LeO.none _)
   | (with_reducible refine LeO.ite ?_ ?_)
   | (with_reducible refine LeO.bind ?_ (fun _ => ?_))
   | exact ih0 _ _ _
   | exact ih1 _ _ _ _ _ _
   | exact ih2 _ _ _ _ _
   | exact impl_TableOk.mono _ _
   | exact impl_ValText.mono _ _ _ _ _
   | exact impl_sameVal.mono _ _ _ _ _ _ _ _ _
   | exact LeO.none _
   | refine LeO.ite ?_ ?_
   | refine LeO.bind ?_ (fun _ => ?_)
  ·intro y0 y1 y2 y3 y4 y5
   unfold impl_Differ.l0
   repeat' first
   | (with_reducible exact ih0 _ _ _)
   | (with_reducible exact ih1 _ _ _ _ _ _)
   | (with_reducible exact ih2 _ _ _ _ _)
   | (with_reducible exact impl_TableOk.mono _ _)
   | (with_reducible exact impl_ValText.mono _ _ _ _ _)
   | (with_reducible exact impl_sameVal.mono _ _ _ _ _ _ _ _ _)
   | (with_reducible exact LeO.refl _)
   | (with_reducible exact LeO.none _)
   | (with_reducible refine LeO.ite ?_ ?_)
   | (with_reducible refine LeO.bind ?_ (fun _ => ?_))
   | exact ih0 _ _ _
   | exact ih1 _ _ _ _ _ _
   | exact ih2 _ _ _ _ _
   | exact impl_TableOk.mono _ _
   | exact impl_ValText.mono _ _ _ _ _
   | exact impl_sameVal.mono _ _ _ _ _ _ _ _ _
   | exact LeO.none _
   | refine LeO.ite ?_ ?_
   | refine LeO.bind ?_ (fun _ => ?_)
  ·intro y0 y1 y2 y3 y4
   unfold impl_Differ.l1
   repeat' first
   | (with_reducible exact ih0 _ _ _)
   | (with_reducible exact ih1 _ _ _ _ _ _)
   | (with_reducible exact ih2 _ _ _ _ _)
   | (with_reducible exact impl_TableOk.mono _ _)
   | (with_reducible exact impl_ValText.mono _ _ _ _ _)
   | (with_reducible exact impl_sameVal.mono _ _ _ _ _ _ _ _ _)
   | (with_reducible exact LeO.refl _)
   | (with_reducible exact LeO.none _)
   | (with_reducible refine LeO.ite ?_ ?_)
   | (with_reducible refine LeO.bind ?_ (fun _ => ?_))
   | exact ih0 _ _ _
   | exact ih1 _ _ _ _ _ _
   | exact ih2 _ _ _ _ _
   | exact impl_TableOk.mono _ _
   | exact impl_ValText.mono _ _ _ _ _
   | exact impl_sameVal.mono _ _ _ _ _ _ _ _ _
   | exact LeO.none _
   | refine LeO.ite ?_ ?_
   | refine LeO.bind ?_ (fun _ => ?_)
theorem impl_Differ.mono : ∀ a0 a1 k,LeO (impl_Differ.f k a0 a1) (impl_Differ.f (k + 1) a0 a1):=by
 intro a0 a1 k
 obtain ⟨ih0,ih1,ih2⟩:=impl_Differ.mono_l k
 unfold impl_Differ.f
 repeat' first
   | (with_reducible exact ih0 _ _ _)
   | (with_reducible exact ih1 _ _ _ _ _ _)
   | (with_reducible exact ih2 _ _ _ _ _)
   | (with_reducible exact impl_TableOk.mono _ _)
   | (with_reducible exact impl_ValText.mono _ _ _ _ _)
   | (with_reducible exact impl_sameVal.mono _ _ _ _ _ _ _ _ _)
   | (with_reducible exact LeO.refl _)
   | (with_reducible exact LeO.none _)
   | (with_reducible refine LeO.ite ?_ ?_)
   | (with_reducible refine LeO.bind ?_ (fun _ => ?_))
   | exact ih0 _ _ _
   | exact ih1 _ _ _ _ _ _
   | exact ih2 _ _ _ _ _
   | exact impl_TableOk.mono _ _
   | exact impl_ValText.mono _ _ _ _ _
   | exact impl_sameVal.mono _ _ _ _ _ _ _ _ _
   | exact LeO.none _
   | refine LeO.ite ?_ ?_
   | refine LeO.bind ?_ (fun _ => ?_)
set_option maxHeartbeats 8000000 in
set_option maxRecDepth 100000 in
theorem impl_Differ.calls (k : Nat) (A0 : Option Addr) (c0 : Nat) (l0 : List (S42)) (A1 : Option Addr) (c1 : Nat) (l1 : List (S42)) (r : List (S44)) (w : World) (hr0 : Kd.C k42 w A0 l0.length l0) (hc0 : l0.length ≤ c0) (hr1 : Kd.C k42 w A1 l1.length l1) (hc1 : l1.length ≤ c1) (h : impl_Differ.f k l0 l1 = some r) :
  Calls Try.prog 7 #[.slice A0 l0.length c0,.slice A1 l1.length c1] w fun e w' => ∃ v0_ : Value,e = .returned (v0_) ∧ Kd.R k44 44 w' w.heap.size (fun _ => True) v0_ r ∧ Below w.heap.size w w':=by
 have hu42:=Try.underlying42
 have hu40:=Try.underlying40
 have hu44:=Try.underlying44
 have HR0:=Aside0.mk hr0
 have HC0:=Aside0.mk hc0
 clear hr0 hc0
 have HR1:=Aside0.mk hr1
 have HC1:=Aside0.mk hc1
 clear hr1 hc1
 have HB:=Aside0.mk (Below.refl w.heap.size w)
 have H : ((impl_TableOk.f k l0).bind fun t262 => (if t262 = true then ((impl_TableOk.f k l1).bind fun t263 => (impl_Differ.j0 k l0 l1 (!t263))) else (impl_Differ.j0 k l0 l1 true))) = some r:=h
 clear h
 have HC3:=Aside0.mk H
 clear H
 go_enter Try.func7,Try.ntmps7
 go_upto_region 1 with (fail)
 go_cut [23] (fun v23 wc => ∃ (kq : Nat) (x23_2 : Bool),v23 = .bool x23_2 ∧ Aside0 (impl_Differ.j0 kq l0 l1 x23_2 = some r) ∧ Aside0 (kq ≤ k) ∧ Aside0 (Below w.heap.size w wc))
 case first =>
  have H:=HC3.out
  clear HC3
  replace H:=Option.bind_eq_some_iff.mp H
  obtain ⟨t262,A40,H⟩:=H
  replace H : (if t262 = true then ((impl_TableOk.f k l1).bind fun t263 => (impl_Differ.j0 k l0 l1 (!t263))) else (impl_Differ.j0 k l0 l1 true)) = some r:=H
  have A4:=Aside0.mk A40
  clear A40
  by_cases c5 : t262 = true
  ·subst c5
   have H1 : ((impl_TableOk.f k l1).bind fun t263 => (impl_Differ.j0 k l0 l1 (!t263))) = some r:=by rw [if_pos rfl] at H;exact H
   clear H
   have H:=H1
   clear H1
   replace H:=Option.bind_eq_some_iff.mp H
   obtain ⟨t263,A60,H⟩:=H
   replace H : (impl_Differ.j0 k l0 l1 (!t263)) = some r:=H
   have A6:=Aside0.mk A60
   clear A60
   have H':=Aside0.mk H
   clear H
   go_wp2_with (first | ((with_reducible refine gate_callee (f:=18) rfl ?_);refine goesL_ (some 17) rfl rfl Try.func18 (by kernel_rfl) rfl #[.slice A0 l0.length c0] rfl zM0 ?_;(with_reducible refine (impl_TableOk.calls k _ _ l0 true _ ?side1 ?side2 A4.out).mono ?_);(case side1 => repeat (first | exact (Kd.C_below HR0.out HB.out) | (with_reducible refine Kd.C_alloc ?_ _) | (with_reducible refine Kd.C_drewN ?_ _) | (with_reducible refine Kd.C_drew ?_)));(case side2 => exact HC0.out);rintro e w7 ⟨rfl,hb⟩;refine ⟨_,rfl,?_⟩;have n0_:=Aside0.mk (zS0 HB.out hb);clear HB;have HB:=n0_;clear n0_;(try clear hb);(try clear hb2);(try clear hk);(try clear hi)) | (go_at_call 18;(with_reducible refine (impl_TableOk.calls k _ _ l1 t263 _ ?side1 ?side2 A6.out).mono ?_);(case side1 => repeat (first | exact (Kd.C_below HR1.out HB.out) | (with_reducible refine Kd.C_alloc ?_ _) | (with_reducible refine Kd.C_drewN ?_ _) | (with_reducible refine Kd.C_drew ?_)));(case side2 => exact HC1.out);rintro e w8 ⟨rfl,hb⟩;have n0_:=Aside0.mk (zS0 HB.out hb);clear HB;have HB:=n0_;clear n0_;(try clear hb);(try clear hb2);(try clear hk);(try clear hi)))
   go_meet
   case rel => exact ⟨_,(!t263),(by first | rfl | (simp;done) | (simp [*];done)),H',⟨by first | omega | exact Nat.le_refl _⟩,⟨by repeat (first | (with_reducible first | exact HB.out | apply below_alloc | apply pw_below_drewN | apply below_drew1) | exact HB.out)⟩⟩
  ·replace c5:=Bool.eq_false_iff.mpr c5
   subst c5
   have H1 : (impl_Differ.j0 k l0 l1 true) = some r:=by rw [if_neg (show ¬ (false = true) by decide)] at H;exact H
   clear H
   have H:=H1
   clear H1
   have H':=Aside0.mk H
   clear H
   go_wp2_with (first | ((with_reducible refine gate_callee (f:=18) rfl ?_);refine goesL_ (some 17) rfl rfl Try.func18 (by kernel_rfl) rfl #[.slice A0 l0.length c0] rfl zM0 ?_;(with_reducible refine (impl_TableOk.calls k _ _ l0 false _ ?side1 ?side2 A4.out).mono ?_);(case side1 => repeat (first | exact (Kd.C_below HR0.out HB.out) | (with_reducible refine Kd.C_alloc ?_ _) | (with_reducible refine Kd.C_drewN ?_ _) | (with_reducible refine Kd.C_drew ?_)));(case side2 => exact HC0.out);rintro e w9 ⟨rfl,hb⟩;refine ⟨_,rfl,?_⟩;have n0_:=Aside0.mk (zS0 HB.out hb);clear HB;have HB:=n0_;clear n0_;(try clear hb);(try clear hb2);(try clear hk);(try clear hi)))
   go_meet
   case rel => exact ⟨_,(true),(by first | rfl | (simp;done) | (simp [*];done)),H',⟨by first | omega | exact Nat.le_refl _⟩,⟨by repeat (first | (with_reducible first | exact HB.out | apply below_alloc | apply pw_below_drewN | apply below_drew1) | exact HB.out)⟩⟩
 case rest =>
  clear HC3
  try clear c1
  try clear p2
  try clear c5
  try clear c7
  obtain ⟨kq,x23_2,rfl,HA,HJ2,HB⟩:=hcut
  cases kq with
  | zero => exact absurd HA.out (by simp [impl_Differ.j0])
  | succ kj2 =>
   have H:=HA.out
   clear HA
   simp only [impl_Differ.j0] at H
   by_cases c10 : x23_2 = true
   ·subst c10
    have H1 : (some ([] : List (S44))) = some r:=by rw [if_pos rfl] at H;exact H
    clear H
    have H:=H1
    clear H1
    obtain rfl:=Option.some.inj H
    go_wp2
    go_ret
    exact ⟨_,by first | rfl | (simp [errW_none,errW_some] <;> rfl) | (simp [*,errW_none,errW_some] <;> rfl),by first | exact Kd.R_nil _ _ _ _ _ | exact Kd.N_nil _ _ _ _ _ | exact Kd.V_nil _ _ _ _ _ | exact Kd.Q_nil _ _ _ _ _ | exact Kd.S_nil _ _ _ _ _,by repeat (first | (with_reducible first | exact HB.out | apply below_alloc | apply pw_below_drewN | apply below_drew1) | exact HB.out)⟩
   ·replace c10:=Bool.eq_false_iff.mpr c10
    subst c10
    have H1 : (impl_Differ.l0 kj2 l0 l1 ([] : List (S44)) l0 (l0.length : Int) 0) = some r:=by rw [if_neg (show ¬ (false = true) by decide)] at H;exact H
    clear H
    have H:=H1
    clear H1
    have H':=Aside0.mk H
    clear H
    go_wp2
    go_loopg [5,26] kj2 (fun kq v5 v26 w' => ∃ (x5_2 : List (S44)) (x26_2 : Int),v26 = .int .i64 x26_2 ∧ Aside0 (impl_Differ.l0 kq l0 l1 x5_2 l0 (l0.length : Int) x26_2 = some r) ∧ Aside0 (kq ≤ kj2) ∧ Aside0 (Kd.R k44 44 w' w.heap.size (fun _ => True) v5 x5_2) ∧ Aside0 (Below w.heap.size w w'))
    case atStart => exact ⟨(([] : List (S44))),(0),(by first | rfl | (simp;done) | (simp [*];done)),H',⟨Nat.le_refl _⟩,⟨by first | exact Kd.R_nil _ _ _ _ _ | exact Kd.N_nil _ _ _ _ _ | exact Kd.V_nil _ _ _ _ _ | exact Kd.Q_nil _ _ _ _ _ | exact Kd.S_nil _ _ _ _ _⟩,⟨by repeat (first | (with_reducible first | exact HB.out | apply below_alloc | apply pw_below_drewN | apply below_drew1) | exact HB.out)⟩⟩
    case round =>
     clear H'
     try clear c1
     try clear p2
     try clear c5
     try clear c7
     try clear c10
     try clear p2
     obtain ⟨x5_2,x26_2,rfl,HA,HK2,HO_5,HB⟩:=hrel
     cases gk with
     | zero => exact absurd HA.out (by simp [impl_Differ.l0])
     | succ k2 =>
      have H:=HA.out
      clear HA
      simp only [impl_Differ.l0] at H
      by_cases c11 : x26_2 < (l0.length : Int)
      ·rw [if_pos c11] at H
       have c11b0 : decide (x26_2 < (l0.length : Int)) = true:=decide_eq_true c11
       clear c11
       by_cases c12 : 0 ≤ x26_2
       ·rw [if_pos c12] at H
        have c12b0 : decide (0 ≤ x26_2) = true:=decide_eq_true c12
        clear c12
        by_cases c13 : x26_2 < (l0.length : Int)
        ·rw [if_pos c13] at H
         have c13b0 : decide (x26_2 < (l0.length : Int)) = true:=decide_eq_true c13
         clear c13
         replace H:=Option.bind_eq_some_iff.mp H
         obtain ⟨⟨t266,t267,t268,t269,t272⟩,A140,H⟩:=H
         replace H : (if t272 = true then (impl_Differ.l0 k2 l0 l1 x5_2 l0 (l0.length : Int) (wrap64 (x26_2 + 1))) else (if x5_2.length < 3518437208883 then (impl_Differ.l0 k2 l0 l1 (x5_2 ++ [(⟨(rd_T42 l0 x26_2).f0,(⟨#[]⟩ : ByteArray),true⟩ : S44)]) l0 (l0.length : Int) (wrap64 (x26_2 + 1))) else (none))) = some r:=H
         have A14:=Aside0.mk A140
         clear A140
         by_cases c15 : t272 = true
         ·subst c15
          have H1 : (impl_Differ.l0 k2 l0 l1 x5_2 l0 (l0.length : Int) (wrap64 (x26_2 + 1))) = some r:=by rw [if_pos rfl] at H;exact H
          clear H
          have H:=H1
          clear H1
          have H':=Aside0.mk H
          clear H
          have p264 : 0 ≤ (x26_2 : Int):=of_decide_eq_true (by first | (with_reducible assumption) | assumption)
          have q264 : x26_2 < (l0.length : Int):=of_decide_eq_true (by first | (with_reducible assumption) | assumption)
          obtain ⟨ad264,A264_4,c264_4,e264,hx264_0,hx264_1,hx264_2,hx264_3,hx264_4,hl264_4,hi264_4⟩:=at_T42 HR0.out x26_2 p264 q264
          cases e264
          replace hx264_0:=(HB.out.cell (World.block_lt_of_cell? w _ hx264_0)).trans hx264_0
          replace hx264_1:=(HB.out.cell (World.block_lt_of_cell? w _ hx264_1)).trans hx264_1
          replace hx264_2:=(HB.out.cell (World.block_lt_of_cell? w _ hx264_2)).trans hx264_2
          replace hx264_3:=(HB.out.cell (World.block_lt_of_cell? w _ hx264_3)).trans hx264_3
          replace hx264_4:=(HB.out.cell (World.block_lt_of_cell? w _ hx264_4)).trans hx264_4
          have HR264_4:=Aside0.mk hi264_4
          have HC264_4:=Aside0.mk hl264_4
          clear hi264_4 hl264_4
          replace p264:=eq_true p264
          replace q264:=eq_true q264
          go_wp2_with (first | ((with_reducible refine gate_dst (N:=7) rfl ?_);refine box_event ?hg (N:=7) ?hd (cs:=#[.string (⟨#[]⟩ : ByteArray),.int .i64 0,.int .i64 0,.string (⟨#[]⟩ : ByteArray),.slice none 0 0]) (t:=42) ?hr ?_;(case hd => rfl);(case hg => rfl);(case hr => first | (go_simp;done) | (go_simp;rfl));intro gb265 hg w16 hbox hb;have n0_:=Aside0.mk (Kd.R_below (zR0 HO_5.out) hb);have n1_:=Aside0.mk (zS0 HB.out hb);have n2_:=Aside0.mk (hbox);have n3_:=Aside0.mk ((by rw [hg];exact (zZ0 HB.out) : w.heap.size ≤ gb265));have n4_:=Aside0.mk ((by rw [hg];exact (zZ0 HB.out) : w.heap.size ≤ gb265));clear HO_5;clear HB;have HO_5:=n0_;have HB:=n1_;have BK265:=n2_;have GW265:=n3_;have GE265:=n4_;clear n0_ n1_ n2_ n3_ n4_;clear hb hbox hg;have hcz17_0 : w16.cell? ⟨gb265,0,none⟩ = some (.string (⟨#[]⟩ : ByteArray)):=(blk_cell BK265.out 0).trans rfl;have hcz17_1 : w16.cell? ⟨gb265,1,none⟩ = some (.int .i64 0):=(blk_cell BK265.out 1).trans rfl;have hcz17_2 : w16.cell? ⟨gb265,2,none⟩ = some (.int .i64 0):=(blk_cell BK265.out 2).trans rfl;have hcz17_3 : w16.cell? ⟨gb265,3,none⟩ = some (.string (⟨#[]⟩ : ByteArray)):=(blk_cell BK265.out 3).trans rfl;have hcz17_4 : w16.cell? ⟨gb265,4,none⟩ = some (.slice none 0 0):=(blk_cell BK265.out 4).trans rfl;have hfz17_0:=blk_frozen BK265.out 0;have hfz17_1:=blk_frozen BK265.out 1;have hfz17_2:=blk_frozen BK265.out 2;have hfz17_3:=blk_frozen BK265.out 3;have hfz17_4:=blk_frozen BK265.out 4) | ((with_reducible refine gate_callee (f:=19) rfl ?_);refine goesL_ (some 34) rfl rfl Try.func19 (by kernel_rfl) rfl #[.slice A1 l1.length c1,.string ((rd_T42 l0 x26_2).f0)] rfl zM0 ?_;(with_reducible refine (impl_Find.calls _ _ l1 ((rd_T42 l0 x26_2).f0) t266 t267 t268 t269 true _ ?side1 ?side2 A14.out).mono ?_);(case side1 => exact Kd.C_below HR1.out (by repeat (first | (with_reducible first | exact HB.out | apply below_alloc | apply pw_below_drewN | apply below_drew1 | refine below_set ?_ GE265.out) | exact HB.out)));(case side2 => exact HC1.out);rintro e w18 ⟨v270,rfl,ho0,hb⟩;refine ⟨_,rfl,?_⟩;have n0_:=Aside0.mk (Kd.R_below (by (with_reducible repeat (first | apply Kd.R_alloc | apply Kd.R_drewN | apply Kd.R_drew));exact (Kd.R_mono (Kd.R_far (p:=⟨gb265,4,none⟩) (Kd.R_far (p:=⟨gb265,3,none⟩) (Kd.R_far (p:=⟨gb265,2,none⟩) (Kd.R_far (p:=⟨gb265,1,none⟩) (Kd.R_far (p:=⟨gb265,0,none⟩) (Kd.R_types HO_5.out BK265.out (by decide)) (fun _ hk => hk.2) (.string ((rd_T42 l0 x26_2).f0))) (fun _ hk => hk.2) (.int .i64 ((rd_T42 l0 x26_2).f1.f0))) (fun _ hk => hk.2) (.int .i64 ((rd_T42 l0 x26_2).f1.f1))) (fun _ hk => hk.2) (.string ((rd_T42 l0 x26_2).f1.f2))) (fun _ hk => hk.2) (.slice A264_4 ((rd_T42 l0 x26_2).f1.f3).length c264_4)) (fun _ h_ => h_.1))) hb);have n1_:=Aside0.mk (Kd.R_lower ho0 (zZ0 HB.out));have n2_:=Aside0.mk (blk_below (g:=gb265) (o:=.cells #[.string ((rd_T42 l0 x26_2).f0),.int .i64 ((rd_T42 l0 x26_2).f1.f0),.int .i64 ((rd_T42 l0 x26_2).f1.f1),.string ((rd_T42 l0 x26_2).f1.f2),.slice A264_4 ((rd_T42 l0 x26_2).f1.f3).length c264_4] 42 (0,0)) (by (with_reducible repeat (first | refine blk_drewN ?_ _ | refine blk_drew ?_ | refine blk_alloc ?_ _));refine blk_put (cs:=#[.string ((rd_T42 l0 x26_2).f0),.int .i64 ((rd_T42 l0 x26_2).f1.f0),.int .i64 ((rd_T42 l0 x26_2).f1.f1),.string ((rd_T42 l0 x26_2).f1.f2),.slice none 0 0]) ?_ 4 _ rfl;(with_reducible repeat (first | refine blk_drewN ?_ _ | refine blk_drew ?_ | refine blk_alloc ?_ _));refine blk_put (cs:=#[.string ((rd_T42 l0 x26_2).f0),.int .i64 ((rd_T42 l0 x26_2).f1.f0),.int .i64 ((rd_T42 l0 x26_2).f1.f1),.string (⟨#[]⟩ : ByteArray),.slice none 0 0]) ?_ 3 _ rfl;(with_reducible repeat (first | refine blk_drewN ?_ _ | refine blk_drew ?_ | refine blk_alloc ?_ _));refine blk_put (cs:=#[.string ((rd_T42 l0 x26_2).f0),.int .i64 ((rd_T42 l0 x26_2).f1.f0),.int .i64 0,.string (⟨#[]⟩ : ByteArray),.slice none 0 0]) ?_ 2 _ rfl;(with_reducible repeat (first | refine blk_drewN ?_ _ | refine blk_drew ?_ | refine blk_alloc ?_ _));refine blk_put (cs:=#[.string ((rd_T42 l0 x26_2).f0),.int .i64 0,.int .i64 0,.string (⟨#[]⟩ : ByteArray),.slice none 0 0]) ?_ 1 _ rfl;(with_reducible repeat (first | refine blk_drewN ?_ _ | refine blk_drew ?_ | refine blk_alloc ?_ _));refine blk_put (cs:=#[.string (⟨#[]⟩ : ByteArray),.int .i64 0,.int .i64 0,.string (⟨#[]⟩ : ByteArray),.slice none 0 0]) ?_ 0 _ rfl;(with_reducible repeat (first | refine blk_drewN ?_ _ | refine blk_drew ?_ | refine blk_alloc ?_ _));exact BK265.out) hb);have n3_:=Aside0.mk (zS0 HB.out hb);clear HO_5;clear BK265;clear HB;have HO_5:=n0_;have HO271:=n1_;have BK265:=n2_;have HB:=n3_;clear n0_ n1_ n2_ n3_;(try clear hb);(try clear hb2);(try clear hk);(try clear hi);(try clear ho0)) | ((with_reducible refine gate_dst (N:=8) rfl ?_);refine box_event ?hg (N:=8) ?hd (cs:=#[.int .i64 0,.int .i64 0,.string (⟨#[]⟩ : ByteArray),.slice none 0 0]) (t:=40) ?hr ?_;(case hd => rfl);(case hg => rfl);(case hr => first | (go_simp;done) | (go_simp;rfl));intro gb273 hg w19 hbox hb;have n0_:=Aside0.mk (Kd.R_below (zR0 HO_5.out) hb);have n1_:=Aside0.mk (Kd.R_below (zR0 HO271.out) hb);have n2_:=Aside0.mk (zB0 BK265.out hb);have n3_:=Aside0.mk (zS0 HB.out hb);have n4_:=Aside0.mk (hbox);have n5_:=Aside0.mk ((by rw [hg];exact (zZ0 HB.out) : w.heap.size ≤ gb273));have n6_:=Aside0.mk ((by rw [hg];exact (zZ0 HB.out) : w.heap.size ≤ gb273));have n7_:=Aside0.mk ((zL0 hg BK265.out : gb265 ≠ gb273));have n8_:=Aside0.mk ((zG0 hg BK265.out : gb273 ≠ gb265));clear HO_5;clear HO271;clear BK265;clear HB;have HO_5:=n0_;have HO271:=n1_;have BK265:=n2_;have HB:=n3_;have BK273:=n4_;have GW273:=n5_;have GE273:=n6_;have NB265_273:=n7_;have NB273_265:=n8_;clear n0_ n1_ n2_ n3_ n4_ n5_ n6_ n7_ n8_;clear hb hbox hg;have hnb20:=NB273_265.out;have hnc20:=NB265_273.out;have hcz21_0 : w19.cell? ⟨gb273,0,none⟩ = some (.int .i64 0):=(blk_cell BK273.out 0).trans rfl;have hcz21_1 : w19.cell? ⟨gb273,1,none⟩ = some (.int .i64 0):=(blk_cell BK273.out 1).trans rfl;have hcz21_2 : w19.cell? ⟨gb273,2,none⟩ = some (.string (⟨#[]⟩ : ByteArray)):=(blk_cell BK273.out 2).trans rfl;have hcz21_3 : w19.cell? ⟨gb273,3,none⟩ = some (.slice none 0 0):=(blk_cell BK273.out 3).trans rfl;have hfz21_0:=blk_frozen BK273.out 0;have hfz21_1:=blk_frozen BK273.out 1;have hfz21_2:=blk_frozen BK273.out 2;have hfz21_3:=blk_frozen BK273.out 3;obtain ⟨Ao22,co22,eo22⟩:=Kd.R_slice HO271.out;subst eo22))
          go_roundg k2
          case measure => have:=HJ2.out;have:=HK2.out;omega
          case rel => exact ⟨(x5_2),(wrap64 (x26_2 + 1)),(by first | rfl | (simp;done) | (simp [*];done)),H',⟨by have:=HJ2.out;have:=HK2.out;omega⟩,⟨by (with_reducible repeat (first | apply Kd.R_alloc | apply Kd.R_drewN | apply Kd.R_drew));exact Kd.R_mono (Kd.R_far (p:=⟨gb273,3,none⟩) (Kd.R_far (p:=⟨gb273,2,none⟩) (Kd.R_far (p:=⟨gb273,1,none⟩) (Kd.R_far (p:=⟨gb273,0,none⟩) (Kd.R_types HO_5.out BK273.out (by decide)) (fun _ hk => hk.2) (.int .i64 t266)) (fun _ hk => hk.2) (.int .i64 t267)) (fun _ hk => hk.2) (.string t268)) (fun _ hk => hk.2) (.slice Ao22 t269.length co22)) (fun _ hk => trivial)⟩,⟨by repeat (first | (with_reducible first | exact HB.out | apply below_alloc | apply pw_below_drewN | apply below_drew1 | refine below_set ?_ GE265.out | refine below_set ?_ GE273.out) | exact HB.out)⟩⟩
         ·replace c15:=Bool.eq_false_iff.mpr c15
          subst c15
          have H1 : (if x5_2.length < 3518437208883 then (impl_Differ.l0 k2 l0 l1 (x5_2 ++ [(⟨(rd_T42 l0 x26_2).f0,(⟨#[]⟩ : ByteArray),true⟩ : S44)]) l0 (l0.length : Int) (wrap64 (x26_2 + 1))) else (none)) = some r:=by rw [if_neg (show ¬ (false = true) by decide)] at H;exact H
          clear H
          have H:=H1
          clear H1
          by_cases c23 : x5_2.length < 3518437208883
          ·rw [if_pos c23] at H
           have LMc23:=Aside0.mk c23
           clear c23
           obtain ⟨y274,hy274⟩ : ∃ y_ : List (S44),y_ = (x5_2 ++ [(⟨(rd_T42 l0 x26_2).f0,(⟨#[]⟩ : ByteArray),true⟩ : S44)]):=⟨_,rfl⟩
           replace H : (impl_Differ.l0 k2 l0 l1 y274 l0 (l0.length : Int) (wrap64 (x26_2 + 1))) = some r:=by first | (rw [hy274];with_reducible exact H) | (have H2_:=(Option.bind_some _ _).symm.trans H;rw [hy274];with_reducible exact H2_) | (have H2_:=(Option.bind_some _ _).symm.trans H;with_reducible exact H2_) | with_reducible exact H | (rw [hy274];exact H) | exact H
           have Ny274:=Aside0.mk hy274
           clear hy274
           have H':=Aside0.mk H
           clear H
           have p264 : 0 ≤ (x26_2 : Int):=of_decide_eq_true (by first | (with_reducible assumption) | assumption)
           have q264 : x26_2 < (l0.length : Int):=of_decide_eq_true (by first | (with_reducible assumption) | assumption)
           obtain ⟨ad264,A264_4,c264_4,e264,hx264_0,hx264_1,hx264_2,hx264_3,hx264_4,hl264_4,hi264_4⟩:=at_T42 HR0.out x26_2 p264 q264
           cases e264
           replace hx264_0:=(HB.out.cell (World.block_lt_of_cell? w _ hx264_0)).trans hx264_0
           replace hx264_1:=(HB.out.cell (World.block_lt_of_cell? w _ hx264_1)).trans hx264_1
           replace hx264_2:=(HB.out.cell (World.block_lt_of_cell? w _ hx264_2)).trans hx264_2
           replace hx264_3:=(HB.out.cell (World.block_lt_of_cell? w _ hx264_3)).trans hx264_3
           replace hx264_4:=(HB.out.cell (World.block_lt_of_cell? w _ hx264_4)).trans hx264_4
           have HR264_4:=Aside0.mk hi264_4
           have HC264_4:=Aside0.mk hl264_4
           clear hi264_4 hl264_4
           replace p264:=eq_true p264
           replace q264:=eq_true q264
           go_wp2_with (first | ((with_reducible refine gate_dst (N:=7) rfl ?_);refine box_event ?hg (N:=7) ?hd (cs:=#[.string (⟨#[]⟩ : ByteArray),.int .i64 0,.int .i64 0,.string (⟨#[]⟩ : ByteArray),.slice none 0 0]) (t:=42) ?hr ?_;(case hd => rfl);(case hg => rfl);(case hr => first | (go_simp;done) | (go_simp;rfl));intro gb265 hg w24 hbox hb;have n0_:=Aside0.mk (Kd.R_below (zR0 HO_5.out) hb);have n1_:=Aside0.mk (zS0 HB.out hb);have n2_:=Aside0.mk (hbox);have n3_:=Aside0.mk ((by rw [hg];exact (zZ0 HB.out) : w.heap.size ≤ gb265));have n4_:=Aside0.mk ((by rw [hg];exact (zZ0 HB.out) : w.heap.size ≤ gb265));clear HO_5;clear HB;have HO_5:=n0_;have HB:=n1_;have BK265:=n2_;have GW265:=n3_;have GE265:=n4_;clear n0_ n1_ n2_ n3_ n4_;clear hb hbox hg;have hcz25_0 : w24.cell? ⟨gb265,0,none⟩ = some (.string (⟨#[]⟩ : ByteArray)):=(blk_cell BK265.out 0).trans rfl;have hcz25_1 : w24.cell? ⟨gb265,1,none⟩ = some (.int .i64 0):=(blk_cell BK265.out 1).trans rfl;have hcz25_2 : w24.cell? ⟨gb265,2,none⟩ = some (.int .i64 0):=(blk_cell BK265.out 2).trans rfl;have hcz25_3 : w24.cell? ⟨gb265,3,none⟩ = some (.string (⟨#[]⟩ : ByteArray)):=(blk_cell BK265.out 3).trans rfl;have hcz25_4 : w24.cell? ⟨gb265,4,none⟩ = some (.slice none 0 0):=(blk_cell BK265.out 4).trans rfl;have hfz25_0:=blk_frozen BK265.out 0;have hfz25_1:=blk_frozen BK265.out 1;have hfz25_2:=blk_frozen BK265.out 2;have hfz25_3:=blk_frozen BK265.out 3;have hfz25_4:=blk_frozen BK265.out 4) | ((with_reducible refine gate_callee (f:=19) rfl ?_);refine goesL_ (some 34) rfl rfl Try.func19 (by kernel_rfl) rfl #[.slice A1 l1.length c1,.string ((rd_T42 l0 x26_2).f0)] rfl zM0 ?_;(with_reducible refine (impl_Find.calls _ _ l1 ((rd_T42 l0 x26_2).f0) t266 t267 t268 t269 false _ ?side1 ?side2 A14.out).mono ?_);(case side1 => exact Kd.C_below HR1.out (by repeat (first | (with_reducible first | exact HB.out | apply below_alloc | apply pw_below_drewN | apply below_drew1 | refine below_set ?_ GE265.out) | exact HB.out)));(case side2 => exact HC1.out);rintro e w26 ⟨v270,rfl,ho0,hb⟩;refine ⟨_,rfl,?_⟩;have n0_:=Aside0.mk (Kd.R_below (by (with_reducible repeat (first | apply Kd.R_alloc | apply Kd.R_drewN | apply Kd.R_drew));exact (Kd.R_mono (Kd.R_far (p:=⟨gb265,4,none⟩) (Kd.R_far (p:=⟨gb265,3,none⟩) (Kd.R_far (p:=⟨gb265,2,none⟩) (Kd.R_far (p:=⟨gb265,1,none⟩) (Kd.R_far (p:=⟨gb265,0,none⟩) (Kd.R_types HO_5.out BK265.out (by decide)) (fun _ hk => hk.2) (.string ((rd_T42 l0 x26_2).f0))) (fun _ hk => hk.2) (.int .i64 ((rd_T42 l0 x26_2).f1.f0))) (fun _ hk => hk.2) (.int .i64 ((rd_T42 l0 x26_2).f1.f1))) (fun _ hk => hk.2) (.string ((rd_T42 l0 x26_2).f1.f2))) (fun _ hk => hk.2) (.slice A264_4 ((rd_T42 l0 x26_2).f1.f3).length c264_4)) (fun _ h_ => h_.1))) hb);have n1_:=Aside0.mk (Kd.R_lower ho0 (zZ0 HB.out));have n2_:=Aside0.mk (blk_below (g:=gb265) (o:=.cells #[.string ((rd_T42 l0 x26_2).f0),.int .i64 ((rd_T42 l0 x26_2).f1.f0),.int .i64 ((rd_T42 l0 x26_2).f1.f1),.string ((rd_T42 l0 x26_2).f1.f2),.slice A264_4 ((rd_T42 l0 x26_2).f1.f3).length c264_4] 42 (0,0)) (by (with_reducible repeat (first | refine blk_drewN ?_ _ | refine blk_drew ?_ | refine blk_alloc ?_ _));refine blk_put (cs:=#[.string ((rd_T42 l0 x26_2).f0),.int .i64 ((rd_T42 l0 x26_2).f1.f0),.int .i64 ((rd_T42 l0 x26_2).f1.f1),.string ((rd_T42 l0 x26_2).f1.f2),.slice none 0 0]) ?_ 4 _ rfl;(with_reducible repeat (first | refine blk_drewN ?_ _ | refine blk_drew ?_ | refine blk_alloc ?_ _));refine blk_put (cs:=#[.string ((rd_T42 l0 x26_2).f0),.int .i64 ((rd_T42 l0 x26_2).f1.f0),.int .i64 ((rd_T42 l0 x26_2).f1.f1),.string (⟨#[]⟩ : ByteArray),.slice none 0 0]) ?_ 3 _ rfl;(with_reducible repeat (first | refine blk_drewN ?_ _ | refine blk_drew ?_ | refine blk_alloc ?_ _));refine blk_put (cs:=#[.string ((rd_T42 l0 x26_2).f0),.int .i64 ((rd_T42 l0 x26_2).f1.f0),.int .i64 0,.string (⟨#[]⟩ : ByteArray),.slice none 0 0]) ?_ 2 _ rfl;(with_reducible repeat (first | refine blk_drewN ?_ _ | refine blk_drew ?_ | refine blk_alloc ?_ _));refine blk_put (cs:=#[.string ((rd_T42 l0 x26_2).f0),.int .i64 0,.int .i64 0,.string (⟨#[]⟩ : ByteArray),.slice none 0 0]) ?_ 1 _ rfl;(with_reducible repeat (first | refine blk_drewN ?_ _ | refine blk_drew ?_ | refine blk_alloc ?_ _));refine blk_put (cs:=#[.string (⟨#[]⟩ : ByteArray),.int .i64 0,.int .i64 0,.string (⟨#[]⟩ : ByteArray),.slice none 0 0]) ?_ 0 _ rfl;(with_reducible repeat (first | refine blk_drewN ?_ _ | refine blk_drew ?_ | refine blk_alloc ?_ _));exact BK265.out) hb);have n3_:=Aside0.mk (zS0 HB.out hb);clear HO_5;clear BK265;clear HB;have HO_5:=n0_;have HO271:=n1_;have BK265:=n2_;have HB:=n3_;clear n0_ n1_ n2_ n3_;(try clear hb);(try clear hb2);(try clear hk);(try clear hi);(try clear ho0)) | ((with_reducible refine gate_dst (N:=8) rfl ?_);refine box_event ?hg (N:=8) ?hd (cs:=#[.int .i64 0,.int .i64 0,.string (⟨#[]⟩ : ByteArray),.slice none 0 0]) (t:=40) ?hr ?_;(case hd => rfl);(case hg => rfl);(case hr => first | (go_simp;done) | (go_simp;rfl));intro gb273 hg w27 hbox hb;have n0_:=Aside0.mk (Kd.R_below (zR0 HO_5.out) hb);have n1_:=Aside0.mk (Kd.R_below (zR0 HO271.out) hb);have n2_:=Aside0.mk (zB0 BK265.out hb);have n3_:=Aside0.mk (zS0 HB.out hb);have n4_:=Aside0.mk (hbox);have n5_:=Aside0.mk ((by rw [hg];exact (zZ0 HB.out) : w.heap.size ≤ gb273));have n6_:=Aside0.mk ((by rw [hg];exact (zZ0 HB.out) : w.heap.size ≤ gb273));have n7_:=Aside0.mk ((zL0 hg BK265.out : gb265 ≠ gb273));have n8_:=Aside0.mk ((zG0 hg BK265.out : gb273 ≠ gb265));clear HO_5;clear HO271;clear BK265;clear HB;have HO_5:=n0_;have HO271:=n1_;have BK265:=n2_;have HB:=n3_;have BK273:=n4_;have GW273:=n5_;have GE273:=n6_;have NB265_273:=n7_;have NB273_265:=n8_;clear n0_ n1_ n2_ n3_ n4_ n5_ n6_ n7_ n8_;clear hb hbox hg;have hnb28:=NB273_265.out;have hnc28:=NB265_273.out;have hcz29_0 : w27.cell? ⟨gb273,0,none⟩ = some (.int .i64 0):=(blk_cell BK273.out 0).trans rfl;have hcz29_1 : w27.cell? ⟨gb273,1,none⟩ = some (.int .i64 0):=(blk_cell BK273.out 1).trans rfl;have hcz29_2 : w27.cell? ⟨gb273,2,none⟩ = some (.string (⟨#[]⟩ : ByteArray)):=(blk_cell BK273.out 2).trans rfl;have hcz29_3 : w27.cell? ⟨gb273,3,none⟩ = some (.slice none 0 0):=(blk_cell BK273.out 3).trans rfl;have hfz29_0:=blk_frozen BK273.out 0;have hfz29_1:=blk_frozen BK273.out 1;have hfz29_2:=blk_frozen BK273.out 2;have hfz29_3:=blk_frozen BK273.out 3;obtain ⟨Ao30,co30,eo30⟩:=Kd.R_slice HO271.out;subst eo30;have hcz31_0 : w27.cell? ⟨gb265,0,none⟩ = some (.string ((rd_T42 l0 x26_2).f0)):=(blk_cell BK265.out 0).trans rfl;have hcz31_1 : w27.cell? ⟨gb265,1,none⟩ = some (.int .i64 ((rd_T42 l0 x26_2).f1.f0)):=(blk_cell BK265.out 1).trans rfl;have hcz31_2 : w27.cell? ⟨gb265,2,none⟩ = some (.int .i64 ((rd_T42 l0 x26_2).f1.f1)):=(blk_cell BK265.out 2).trans rfl;have hcz31_3 : w27.cell? ⟨gb265,3,none⟩ = some (.string ((rd_T42 l0 x26_2).f1.f2)):=(blk_cell BK265.out 3).trans rfl;have hcz31_4 : w27.cell? ⟨gb265,4,none⟩ = some (.slice A264_4 ((rd_T42 l0 x26_2).f1.f3).length c264_4):=(blk_cell BK265.out 4).trans rfl;have hfz31_0:=blk_frozen BK265.out 0;have hfz31_1:=blk_frozen BK265.out 1;have hfz31_2:=blk_frozen BK265.out 2;have hfz31_3:=blk_frozen BK265.out 3;have hfz31_4:=blk_frozen BK265.out 4) | ((with_reducible refine gate_builtin (b:=.append) (xs:=#[.tmp 39,.tmp 43]) rfl ?_);at_builtin;refine Kd.R_append k44 (w0:=w) w.heap.size rfl (.tmp 39) (.tmp 43) 24 44 (.agg #[(.string ⟨#[]⟩),(.string ⟨#[]⟩),(.bool false)]) 40 rfl Try.underlying24 info44 rfl (by decide) (by omega) u5 x5_2 (⟨(rd_T42 l0 x26_2).f0,(⟨#[]⟩ : ByteArray),true⟩ : S44) [.string ((rd_T42 l0 x26_2).f0),.string (⟨#[]⟩ : ByteArray),.bool true] (fun _ => True) (fun _ => False) rfl (by first | (go_simp;done) | (go_simp;rfl)) ?aP (fun _ hk => hk.elim) ?aF ?aO ?aB ?aS ?aL ?_;(case aP => exact k44_mkM _ _ _ (⟨(rd_T42 l0 x26_2).f0,(⟨#[]⟩ : ByteArray),true⟩ : S44));(case aB => exact (by repeat (first | (with_reducible first | exact HB.out | apply below_alloc | apply pw_below_drewN | apply below_drew1 | refine below_set ?_ GE265.out | refine below_set ?_ GE273.out) | exact HB.out)));(case aF => exact (fun _ _ => trivial));(case aO => exact (by (with_reducible repeat (first | apply Kd.R_alloc | apply Kd.R_drewN | apply Kd.R_drew));exact Kd.R_mono (Kd.R_far (p:=⟨gb273,3,none⟩) (Kd.R_far (p:=⟨gb273,2,none⟩) (Kd.R_far (p:=⟨gb273,1,none⟩) (Kd.R_far (p:=⟨gb273,0,none⟩) (Kd.R_types HO_5.out BK273.out (by decide)) (fun _ hk => hk.2) (.int .i64 t266)) (fun _ hk => hk.2) (.int .i64 t267)) (fun _ hk => hk.2) (.string t268)) (fun _ hk => hk.2) (.slice Ao30 t269.length co30)) (fun _ hk => trivial)));(case aS => exact (zZ0 HB.out));(case aL => have:=LMc23.out;omega);intro v275 w32 ho hb hg hat;rw [← Ny274.out] at ho;have n0_:=Aside0.mk (blk_grown (g:=gb265) (o:=.cells #[.string ((rd_T42 l0 x26_2).f0),.int .i64 ((rd_T42 l0 x26_2).f1.f0),.int .i64 ((rd_T42 l0 x26_2).f1.f1),.string ((rd_T42 l0 x26_2).f1.f2),.slice A264_4 ((rd_T42 l0 x26_2).f1.f3).length c264_4] 42 (0,0)) (by (with_reducible repeat (first | refine blk_drewN ?_ _ | refine blk_drew ?_ | refine blk_alloc ?_ _));refine blk_far ?_ NB265_273.out _;(with_reducible repeat (first | refine blk_drewN ?_ _ | refine blk_drew ?_ | refine blk_alloc ?_ _));refine blk_far ?_ NB265_273.out _;(with_reducible repeat (first | refine blk_drewN ?_ _ | refine blk_drew ?_ | refine blk_alloc ?_ _));refine blk_far ?_ NB265_273.out _;(with_reducible repeat (first | refine blk_drewN ?_ _ | refine blk_drew ?_ | refine blk_alloc ?_ _));refine blk_far ?_ NB265_273.out _;(with_reducible repeat (first | refine blk_drewN ?_ _ | refine blk_drew ?_ | refine blk_alloc ?_ _));exact BK265.out) hg (Kd.R_ne HO_5.out BK265.out (by decide)));have n1_:=Aside0.mk (Kd.R_over' (by (with_reducible repeat (first | apply Kd.R_alloc | apply Kd.R_drewN | apply Kd.R_drew));exact (Kd.R_mono (Kd.R_far (p:=⟨gb273,3,none⟩) (Kd.R_far (p:=⟨gb273,2,none⟩) (Kd.R_far (p:=⟨gb273,1,none⟩) (Kd.R_far (p:=⟨gb273,0,none⟩) (Kd.R_types HO271.out BK273.out (by decide)) (fun _ hk => hk.2) (.int .i64 t266)) (fun _ hk => hk.2) (.int .i64 t267)) (fun _ hk => hk.2) (.string t268)) (fun _ hk => hk.2) (.slice Ao30 t269.length co30)) (fun _ h_ => h_.1))) (Kd.R_typed (by (with_reducible repeat (first | apply Kd.R_alloc | apply Kd.R_drewN | apply Kd.R_drew));exact (Kd.R_mono (Kd.R_far (p:=⟨gb273,3,none⟩) (Kd.R_far (p:=⟨gb273,2,none⟩) (Kd.R_far (p:=⟨gb273,1,none⟩) (Kd.R_far (p:=⟨gb273,0,none⟩) (Kd.R_types HO_5.out BK273.out (by decide)) (fun _ hk => hk.2) (.int .i64 t266)) (fun _ hk => hk.2) (.int .i64 t267)) (fun _ hk => hk.2) (.string t268)) (fun _ hk => hk.2) (.slice Ao30 t269.length co30)) (fun _ h_ => h_.1)))) (by decide) hg);have n2_:=Aside0.mk (blk_grown (g:=gb273) (o:=.cells #[.int .i64 t266,.int .i64 t267,.string t268,.slice Ao30 t269.length co30] 40 (0,0)) (by (with_reducible repeat (first | refine blk_drewN ?_ _ | refine blk_drew ?_ | refine blk_alloc ?_ _));refine blk_put (cs:=#[.int .i64 t266,.int .i64 t267,.string t268,.slice none 0 0]) ?_ 3 _ rfl;(with_reducible repeat (first | refine blk_drewN ?_ _ | refine blk_drew ?_ | refine blk_alloc ?_ _));refine blk_put (cs:=#[.int .i64 t266,.int .i64 t267,.string (⟨#[]⟩ : ByteArray),.slice none 0 0]) ?_ 2 _ rfl;(with_reducible repeat (first | refine blk_drewN ?_ _ | refine blk_drew ?_ | refine blk_alloc ?_ _));refine blk_put (cs:=#[.int .i64 t266,.int .i64 0,.string (⟨#[]⟩ : ByteArray),.slice none 0 0]) ?_ 1 _ rfl;(with_reducible repeat (first | refine blk_drewN ?_ _ | refine blk_drew ?_ | refine blk_alloc ?_ _));refine blk_put (cs:=#[.int .i64 0,.int .i64 0,.string (⟨#[]⟩ : ByteArray),.slice none 0 0]) ?_ 0 _ rfl;(with_reducible repeat (first | refine blk_drewN ?_ _ | refine blk_drew ?_ | refine blk_alloc ?_ _));exact BK273.out) hg (Kd.R_ne HO_5.out BK273.out (by decide)));have n3_:=Aside0.mk (hb);have n4_:=Aside0.mk (ho);clear BK265;clear HO271;clear BK273;clear HB;clear HO_5;have BK265:=n0_;have HO271:=n1_;have BK273:=n2_;have HB:=n3_;have HO276:=n4_;clear n0_ n1_ n2_ n3_ n4_;clear ho hb hg hat))
           go_roundg k2
           case measure => have:=HJ2.out;have:=HK2.out;omega
           case rel => exact ⟨(y274),(wrap64 (x26_2 + 1)),(by first | rfl | (simp;done) | (simp [*];done)),H',⟨by have:=HJ2.out;have:=HK2.out;omega⟩,⟨by (with_reducible repeat (first | apply Kd.R_alloc | apply Kd.R_drewN | apply Kd.R_drew));exact HO276.out⟩,⟨by repeat (first | (with_reducible first | exact HB.out | apply below_alloc | apply pw_below_drewN | apply below_drew1 | refine below_set ?_ GE265.out | refine below_set ?_ GE273.out) | exact HB.out)⟩⟩
          ·rw [if_neg c23] at H
           exact absurd H (by simp)
        ·rw [if_neg c13] at H
         exact absurd H (by simp)
       ·rw [if_neg c12] at H
        exact absurd H (by simp)
      ·rw [if_neg c11] at H
       have c11b0 : decide (x26_2 < (l0.length : Int)) = false:=decide_eq_false c11
       clear c11
       have H':=Aside0.mk H
       clear H
       go_wp2
       go_loopg [5,48] k2 (fun kq v5 v48 w' => ∃ (x5_3 : List (S44)) (x48_3 : Int),v48 = .int .i64 x48_3 ∧ Aside0 (impl_Differ.l1 kq l0 x5_3 l1 (l1.length : Int) x48_3 = some r) ∧ Aside0 (kq ≤ k2) ∧ Aside0 (Kd.R k44 44 w' w.heap.size (fun _ => True) v5 x5_3) ∧ Aside0 (Below w.heap.size w w'))
       case atStart => exact ⟨(x5_2),(0),(by first | rfl | (simp;done) | (simp [*];done)),H',⟨Nat.le_refl _⟩,⟨by (with_reducible repeat (first | apply Kd.R_alloc | apply Kd.R_drewN | apply Kd.R_drew));exact HO_5.out⟩,⟨by repeat (first | (with_reducible first | exact HB.out | apply below_alloc | apply pw_below_drewN | apply below_drew1) | exact HB.out)⟩⟩
       case round =>
        clear H'
        try clear c1
        try clear c2
        try clear p2
        try clear q2
        try clear hx2
        try clear c5
        try clear p6
        try clear c7
        try clear c10
        try clear c11
        try clear c11b0
        try clear c12
        try clear c12b0
        try clear c13
        try clear c13b0
        try clear c15
        try clear c18
        try clear c19
        try clear c20
        try clear c23
        try clear c26
        try clear p26
        try clear q26
        try clear hx26
        try clear c28
        try clear hcz17_0
        try clear hcz17_1
        try clear hcz17_2
        try clear hcz17_3
        try clear hcz17_4
        try clear hcz21_0
        try clear hcz21_1
        try clear hcz21_2
        try clear hcz21_3
        try clear hcz25_0
        try clear hcz25_1
        try clear hcz25_2
        try clear hcz25_3
        try clear hcz25_4
        try clear hcz29_0
        try clear hcz29_1
        try clear hcz29_2
        try clear hcz29_3
        try clear hcz31_0
        try clear hcz31_1
        try clear hcz31_2
        try clear hcz31_3
        try clear hcz31_4
        try clear hfz17_0
        try clear hfz17_1
        try clear hfz17_2
        try clear hfz17_3
        try clear hfz17_4
        try clear hfz21_0
        try clear hfz21_1
        try clear hfz21_2
        try clear hfz21_3
        try clear hfz25_0
        try clear hfz25_1
        try clear hfz25_2
        try clear hfz25_3
        try clear hfz25_4
        try clear hfz29_0
        try clear hfz29_1
        try clear hfz29_2
        try clear hfz29_3
        try clear hfz31_0
        try clear hfz31_1
        try clear hfz31_2
        try clear hfz31_3
        try clear hfz31_4
        try clear hx264_0
        try clear hx264_1
        try clear hx264_2
        try clear hx264_3
        try clear hx264_4
        try clear p2
        try clear p264
        try clear q264
        obtain ⟨x5_3,x48_3,rfl,HA,HK3,HO_5,HB⟩:=hrel
        cases gk with
        | zero => exact absurd HA.out (by simp [impl_Differ.l1])
        | succ k3 =>
         have H:=HA.out
         clear HA
         simp only [impl_Differ.l1] at H
         by_cases c33 : x48_3 < (l1.length : Int)
         ·rw [if_pos c33] at H
          have c33b0 : decide (x48_3 < (l1.length : Int)) = true:=decide_eq_true c33
          clear c33
          by_cases c34 : 0 ≤ x48_3
          ·rw [if_pos c34] at H
           have c34b0 : decide (0 ≤ x48_3) = true:=decide_eq_true c34
           clear c34
           by_cases c35 : x48_3 < (l1.length : Int)
           ·rw [if_pos c35] at H
            have c35b0 : decide (x48_3 < (l1.length : Int)) = true:=decide_eq_true c35
            clear c35
            replace H:=Option.bind_eq_some_iff.mp H
            obtain ⟨⟨t280,t281,t282,t283,t286⟩,A360,H⟩:=H
            replace H : (if t286 = true then ((impl_sameVal.f k3 t280 t281 t282 t283 ((rd_T42 l1 x48_3).f1.f0) ((rd_T42 l1 x48_3).f1.f1) ((rd_T42 l1 x48_3).f1.f2) ((rd_T42 l1 x48_3).f1.f3)).bind fun t288 => (if t288 = true then (impl_Differ.l1 k3 l0 x5_3 l1 (l1.length : Int) (wrap64 (x48_3 + 1))) else ((impl_ValText.f k3 ((rd_T42 l1 x48_3).f1.f0) ((rd_T42 l1 x48_3).f1.f1) ((rd_T42 l1 x48_3).f1.f2) ((rd_T42 l1 x48_3).f1.f3)).bind fun bt289 => (if x5_3.length < 3518437208883 then (impl_Differ.l1 k3 l0 (x5_3 ++ [(⟨(rd_T42 l1 x48_3).f0,bt289.1,false⟩ : S44)]) l1 (l1.length : Int) (wrap64 (x48_3 + 1))) else (none))))) else ((impl_ValText.f k3 ((rd_T42 l1 x48_3).f1.f0) ((rd_T42 l1 x48_3).f1.f1) ((rd_T42 l1 x48_3).f1.f2) ((rd_T42 l1 x48_3).f1.f3)).bind fun bt294 => (if x5_3.length < 3518437208883 then (impl_Differ.l1 k3 l0 (x5_3 ++ [(⟨(rd_T42 l1 x48_3).f0,bt294.1,false⟩ : S44)]) l1 (l1.length : Int) (wrap64 (x48_3 + 1))) else (none)))) = some r:=H
            have A36:=Aside0.mk A360
            clear A360
            by_cases c37 : t286 = true
            ·subst c37
             have H1 : ((impl_sameVal.f k3 t280 t281 t282 t283 ((rd_T42 l1 x48_3).f1.f0) ((rd_T42 l1 x48_3).f1.f1) ((rd_T42 l1 x48_3).f1.f2) ((rd_T42 l1 x48_3).f1.f3)).bind fun t288 => (if t288 = true then (impl_Differ.l1 k3 l0 x5_3 l1 (l1.length : Int) (wrap64 (x48_3 + 1))) else ((impl_ValText.f k3 ((rd_T42 l1 x48_3).f1.f0) ((rd_T42 l1 x48_3).f1.f1) ((rd_T42 l1 x48_3).f1.f2) ((rd_T42 l1 x48_3).f1.f3)).bind fun bt289 => (if x5_3.length < 3518437208883 then (impl_Differ.l1 k3 l0 (x5_3 ++ [(⟨(rd_T42 l1 x48_3).f0,bt289.1,false⟩ : S44)]) l1 (l1.length : Int) (wrap64 (x48_3 + 1))) else (none))))) = some r:=by rw [if_pos rfl] at H;exact H
             clear H
             have H:=H1
             clear H1
             replace H:=Option.bind_eq_some_iff.mp H
             obtain ⟨t288,A380,H⟩:=H
             replace H : (if t288 = true then (impl_Differ.l1 k3 l0 x5_3 l1 (l1.length : Int) (wrap64 (x48_3 + 1))) else ((impl_ValText.f k3 ((rd_T42 l1 x48_3).f1.f0) ((rd_T42 l1 x48_3).f1.f1) ((rd_T42 l1 x48_3).f1.f2) ((rd_T42 l1 x48_3).f1.f3)).bind fun bt289 => (if x5_3.length < 3518437208883 then (impl_Differ.l1 k3 l0 (x5_3 ++ [(⟨(rd_T42 l1 x48_3).f0,bt289.1,false⟩ : S44)]) l1 (l1.length : Int) (wrap64 (x48_3 + 1))) else (none)))) = some r:=H
             have A38:=Aside0.mk A380
             clear A380
             by_cases c39 : t288 = true
             ·subst c39
              have H1 : (impl_Differ.l1 k3 l0 x5_3 l1 (l1.length : Int) (wrap64 (x48_3 + 1))) = some r:=by rw [if_pos rfl] at H;exact H
              clear H
              have H:=H1
              clear H1
              have H':=Aside0.mk H
              clear H
              have p278 : 0 ≤ (x48_3 : Int):=of_decide_eq_true (by first | (with_reducible assumption) | assumption)
              have q278 : x48_3 < (l1.length : Int):=of_decide_eq_true (by first | (with_reducible assumption) | assumption)
              obtain ⟨ad278,A278_4,c278_4,e278,hx278_0,hx278_1,hx278_2,hx278_3,hx278_4,hl278_4,hi278_4⟩:=at_T42 HR1.out x48_3 p278 q278
              cases e278
              replace hx278_0:=(HB.out.cell (World.block_lt_of_cell? w _ hx278_0)).trans hx278_0
              replace hx278_1:=(HB.out.cell (World.block_lt_of_cell? w _ hx278_1)).trans hx278_1
              replace hx278_2:=(HB.out.cell (World.block_lt_of_cell? w _ hx278_2)).trans hx278_2
              replace hx278_3:=(HB.out.cell (World.block_lt_of_cell? w _ hx278_3)).trans hx278_3
              replace hx278_4:=(HB.out.cell (World.block_lt_of_cell? w _ hx278_4)).trans hx278_4
              have HR278_4:=Aside0.mk hi278_4
              have HC278_4:=Aside0.mk hl278_4
              clear hi278_4 hl278_4
              replace p278:=eq_true p278
              replace q278:=eq_true q278
              go_wp2_with (first | ((with_reducible refine gate_dst (N:=11) rfl ?_);refine box_event ?hg (N:=11) ?hd (cs:=#[.string (⟨#[]⟩ : ByteArray),.int .i64 0,.int .i64 0,.string (⟨#[]⟩ : ByteArray),.slice none 0 0]) (t:=42) ?hr ?_;(case hd => rfl);(case hg => rfl);(case hr => first | (go_simp;done) | (go_simp;rfl));intro gb279 hg w40 hbox hb;have n0_:=Aside0.mk (Kd.R_below (zR0 HO_5.out) hb);have n1_:=Aside0.mk (zS0 HB.out hb);have n2_:=Aside0.mk (hbox);have n3_:=Aside0.mk ((by rw [hg];exact (zZ0 HB.out) : w.heap.size ≤ gb279));have n4_:=Aside0.mk ((by rw [hg];exact (zZ0 HB.out) : w.heap.size ≤ gb279));clear HO_5;clear HB;have HO_5:=n0_;have HB:=n1_;have BK279:=n2_;have GW279:=n3_;have GE279:=n4_;clear n0_ n1_ n2_ n3_ n4_;clear hb hbox hg;have hcz41_0 : w40.cell? ⟨gb279,0,none⟩ = some (.string (⟨#[]⟩ : ByteArray)):=(blk_cell BK279.out 0).trans rfl;have hcz41_1 : w40.cell? ⟨gb279,1,none⟩ = some (.int .i64 0):=(blk_cell BK279.out 1).trans rfl;have hcz41_2 : w40.cell? ⟨gb279,2,none⟩ = some (.int .i64 0):=(blk_cell BK279.out 2).trans rfl;have hcz41_3 : w40.cell? ⟨gb279,3,none⟩ = some (.string (⟨#[]⟩ : ByteArray)):=(blk_cell BK279.out 3).trans rfl;have hcz41_4 : w40.cell? ⟨gb279,4,none⟩ = some (.slice none 0 0):=(blk_cell BK279.out 4).trans rfl;have hfz41_0:=blk_frozen BK279.out 0;have hfz41_1:=blk_frozen BK279.out 1;have hfz41_2:=blk_frozen BK279.out 2;have hfz41_3:=blk_frozen BK279.out 3;have hfz41_4:=blk_frozen BK279.out 4) | ((with_reducible refine gate_callee (f:=19) rfl ?_);refine goesL_ (some 56) rfl rfl Try.func19 (by kernel_rfl) rfl #[.slice A0 l0.length c0,.string ((rd_T42 l1 x48_3).f0)] rfl zM0 ?_;(with_reducible refine (impl_Find.calls _ _ l0 ((rd_T42 l1 x48_3).f0) t280 t281 t282 t283 true _ ?side1 ?side2 A36.out).mono ?_);(case side1 => exact Kd.C_below HR0.out (by repeat (first | (with_reducible first | exact HB.out | apply below_alloc | apply pw_below_drewN | apply below_drew1 | refine below_set ?_ GE279.out) | exact HB.out)));(case side2 => exact HC0.out);rintro e w42 ⟨v284,rfl,ho0,hb⟩;refine ⟨_,rfl,?_⟩;have n0_:=Aside0.mk (Kd.R_below (by (with_reducible repeat (first | apply Kd.R_alloc | apply Kd.R_drewN | apply Kd.R_drew));exact (Kd.R_mono (Kd.R_far (p:=⟨gb279,4,none⟩) (Kd.R_far (p:=⟨gb279,3,none⟩) (Kd.R_far (p:=⟨gb279,2,none⟩) (Kd.R_far (p:=⟨gb279,1,none⟩) (Kd.R_far (p:=⟨gb279,0,none⟩) (Kd.R_types HO_5.out BK279.out (by decide)) (fun _ hk => hk.2) (.string ((rd_T42 l1 x48_3).f0))) (fun _ hk => hk.2) (.int .i64 ((rd_T42 l1 x48_3).f1.f0))) (fun _ hk => hk.2) (.int .i64 ((rd_T42 l1 x48_3).f1.f1))) (fun _ hk => hk.2) (.string ((rd_T42 l1 x48_3).f1.f2))) (fun _ hk => hk.2) (.slice A278_4 ((rd_T42 l1 x48_3).f1.f3).length c278_4)) (fun _ h_ => h_.1))) hb);have n1_:=Aside0.mk (Kd.R_lower ho0 (zZ0 HB.out));have n2_:=Aside0.mk (blk_below (g:=gb279) (o:=.cells #[.string ((rd_T42 l1 x48_3).f0),.int .i64 ((rd_T42 l1 x48_3).f1.f0),.int .i64 ((rd_T42 l1 x48_3).f1.f1),.string ((rd_T42 l1 x48_3).f1.f2),.slice A278_4 ((rd_T42 l1 x48_3).f1.f3).length c278_4] 42 (0,0)) (by (with_reducible repeat (first | refine blk_drewN ?_ _ | refine blk_drew ?_ | refine blk_alloc ?_ _));refine blk_put (cs:=#[.string ((rd_T42 l1 x48_3).f0),.int .i64 ((rd_T42 l1 x48_3).f1.f0),.int .i64 ((rd_T42 l1 x48_3).f1.f1),.string ((rd_T42 l1 x48_3).f1.f2),.slice none 0 0]) ?_ 4 _ rfl;(with_reducible repeat (first | refine blk_drewN ?_ _ | refine blk_drew ?_ | refine blk_alloc ?_ _));refine blk_put (cs:=#[.string ((rd_T42 l1 x48_3).f0),.int .i64 ((rd_T42 l1 x48_3).f1.f0),.int .i64 ((rd_T42 l1 x48_3).f1.f1),.string (⟨#[]⟩ : ByteArray),.slice none 0 0]) ?_ 3 _ rfl;(with_reducible repeat (first | refine blk_drewN ?_ _ | refine blk_drew ?_ | refine blk_alloc ?_ _));refine blk_put (cs:=#[.string ((rd_T42 l1 x48_3).f0),.int .i64 ((rd_T42 l1 x48_3).f1.f0),.int .i64 0,.string (⟨#[]⟩ : ByteArray),.slice none 0 0]) ?_ 2 _ rfl;(with_reducible repeat (first | refine blk_drewN ?_ _ | refine blk_drew ?_ | refine blk_alloc ?_ _));refine blk_put (cs:=#[.string ((rd_T42 l1 x48_3).f0),.int .i64 0,.int .i64 0,.string (⟨#[]⟩ : ByteArray),.slice none 0 0]) ?_ 1 _ rfl;(with_reducible repeat (first | refine blk_drewN ?_ _ | refine blk_drew ?_ | refine blk_alloc ?_ _));refine blk_put (cs:=#[.string (⟨#[]⟩ : ByteArray),.int .i64 0,.int .i64 0,.string (⟨#[]⟩ : ByteArray),.slice none 0 0]) ?_ 0 _ rfl;(with_reducible repeat (first | refine blk_drewN ?_ _ | refine blk_drew ?_ | refine blk_alloc ?_ _));exact BK279.out) hb);have n3_:=Aside0.mk (zS0 HB.out hb);clear HO_5;clear BK279;clear HB;have HO_5:=n0_;have HO285:=n1_;have BK279:=n2_;have HB:=n3_;clear n0_ n1_ n2_ n3_;(try clear hb);(try clear hb2);(try clear hk);(try clear hi);(try clear ho0)) | ((with_reducible refine gate_dst (N:=12) rfl ?_);refine box_event ?hg (N:=12) ?hd (cs:=#[.int .i64 0,.int .i64 0,.string (⟨#[]⟩ : ByteArray),.slice none 0 0]) (t:=40) ?hr ?_;(case hd => rfl);(case hg => rfl);(case hr => first | (go_simp;done) | (go_simp;rfl));intro gb287 hg w43 hbox hb;have n0_:=Aside0.mk (Kd.R_below (zR0 HO_5.out) hb);have n1_:=Aside0.mk (Kd.R_below (zR0 HO285.out) hb);have n2_:=Aside0.mk (zB0 BK279.out hb);have n3_:=Aside0.mk (zS0 HB.out hb);have n4_:=Aside0.mk (hbox);have n5_:=Aside0.mk ((by rw [hg];exact (zZ0 HB.out) : w.heap.size ≤ gb287));have n6_:=Aside0.mk ((by rw [hg];exact (zZ0 HB.out) : w.heap.size ≤ gb287));have n7_:=Aside0.mk ((zL0 hg BK279.out : gb279 ≠ gb287));have n8_:=Aside0.mk ((zG0 hg BK279.out : gb287 ≠ gb279));clear HO_5;clear HO285;clear BK279;clear HB;have HO_5:=n0_;have HO285:=n1_;have BK279:=n2_;have HB:=n3_;have BK287:=n4_;have GW287:=n5_;have GE287:=n6_;have NB279_287:=n7_;have NB287_279:=n8_;clear n0_ n1_ n2_ n3_ n4_ n5_ n6_ n7_ n8_;clear hb hbox hg;have hnb44:=NB287_279.out;have hnc44:=NB279_287.out;have hcz45_0 : w43.cell? ⟨gb287,0,none⟩ = some (.int .i64 0):=(blk_cell BK287.out 0).trans rfl;have hcz45_1 : w43.cell? ⟨gb287,1,none⟩ = some (.int .i64 0):=(blk_cell BK287.out 1).trans rfl;have hcz45_2 : w43.cell? ⟨gb287,2,none⟩ = some (.string (⟨#[]⟩ : ByteArray)):=(blk_cell BK287.out 2).trans rfl;have hcz45_3 : w43.cell? ⟨gb287,3,none⟩ = some (.slice none 0 0):=(blk_cell BK287.out 3).trans rfl;have hfz45_0:=blk_frozen BK287.out 0;have hfz45_1:=blk_frozen BK287.out 1;have hfz45_2:=blk_frozen BK287.out 2;have hfz45_3:=blk_frozen BK287.out 3;obtain ⟨Ao46,co46,eo46⟩:=Kd.R_slice HO285.out;subst eo46;have hcz47_0 : w43.cell? ⟨gb279,0,none⟩ = some (.string ((rd_T42 l1 x48_3).f0)):=(blk_cell BK279.out 0).trans rfl;have hcz47_1 : w43.cell? ⟨gb279,1,none⟩ = some (.int .i64 ((rd_T42 l1 x48_3).f1.f0)):=(blk_cell BK279.out 1).trans rfl;have hcz47_2 : w43.cell? ⟨gb279,2,none⟩ = some (.int .i64 ((rd_T42 l1 x48_3).f1.f1)):=(blk_cell BK279.out 2).trans rfl;have hcz47_3 : w43.cell? ⟨gb279,3,none⟩ = some (.string ((rd_T42 l1 x48_3).f1.f2)):=(blk_cell BK279.out 3).trans rfl;have hcz47_4 : w43.cell? ⟨gb279,4,none⟩ = some (.slice A278_4 ((rd_T42 l1 x48_3).f1.f3).length c278_4):=(blk_cell BK279.out 4).trans rfl;have hfz47_0:=blk_frozen BK279.out 0;have hfz47_1:=blk_frozen BK279.out 1;have hfz47_2:=blk_frozen BK279.out 2;have hfz47_3:=blk_frozen BK279.out 3;have hfz47_4:=blk_frozen BK279.out 4) | (go_at_call 20;(with_reducible refine (impl_sameVal.calls k3 t280 t281 t282 _ _ t283 ((rd_T42 l1 x48_3).f1.f0) ((rd_T42 l1 x48_3).f1.f1) ((rd_T42 l1 x48_3).f1.f2) _ _ ((rd_T42 l1 x48_3).f1.f3) true _ ?side1 ?side2 ?side3 ?side4 A38.out).mono ?_);(case side1 => refine (Kd.R_reads' (e:=9) (base:=w.heap.size) (ok:=fun k_ => True) (n:=t283.length) (c:=co46) ?_).2.2;exact (by (with_reducible repeat (first | apply Kd.R_alloc | apply Kd.R_drewN | apply Kd.R_drew));exact (Kd.R_mono (Kd.R_far (p:=⟨gb287,3,none⟩) (Kd.R_far (p:=⟨gb287,2,none⟩) (Kd.R_far (p:=⟨gb287,1,none⟩) (Kd.R_far (p:=⟨gb287,0,none⟩) (Kd.R_types HO285.out BK287.out (by decide)) (fun _ hk => hk.2) (.int .i64 t280)) (fun _ hk => hk.2) (.int .i64 t281)) (fun _ hk => hk.2) (.string t282)) (fun _ hk => hk.2) (.slice Ao46 t283.length co46)) (fun _ h_ => h_.1))));(case side2 => exact (Kd.R_reads' HO285.out).2.1);(case side3 => exact Kd.C_below HR278_4.out (by repeat (first | (with_reducible first | exact HB.out | apply below_alloc | apply pw_below_drewN | apply below_drew1 | refine below_set ?_ GE279.out | refine below_set ?_ GE287.out) | exact HB.out)));(case side4 => exact HC278_4.out);rintro e w48 ⟨rfl,hb⟩;have n0_:=Aside0.mk (Kd.R_below (by (with_reducible repeat (first | apply Kd.R_alloc | apply Kd.R_drewN | apply Kd.R_drew));exact (Kd.R_mono (Kd.R_far (p:=⟨gb287,3,none⟩) (Kd.R_far (p:=⟨gb287,2,none⟩) (Kd.R_far (p:=⟨gb287,1,none⟩) (Kd.R_far (p:=⟨gb287,0,none⟩) (Kd.R_types HO_5.out BK287.out (by decide)) (fun _ hk => hk.2) (.int .i64 t280)) (fun _ hk => hk.2) (.int .i64 t281)) (fun _ hk => hk.2) (.string t282)) (fun _ hk => hk.2) (.slice Ao46 t283.length co46)) (fun _ h_ => h_.1))) hb);have n1_:=Aside0.mk (Kd.R_below (by (with_reducible repeat (first | apply Kd.R_alloc | apply Kd.R_drewN | apply Kd.R_drew));exact (Kd.R_mono (Kd.R_far (p:=⟨gb287,3,none⟩) (Kd.R_far (p:=⟨gb287,2,none⟩) (Kd.R_far (p:=⟨gb287,1,none⟩) (Kd.R_far (p:=⟨gb287,0,none⟩) (Kd.R_types HO285.out BK287.out (by decide)) (fun _ hk => hk.2) (.int .i64 t280)) (fun _ hk => hk.2) (.int .i64 t281)) (fun _ hk => hk.2) (.string t282)) (fun _ hk => hk.2) (.slice Ao46 t283.length co46)) (fun _ h_ => h_.1))) hb);have n2_:=Aside0.mk (blk_below (g:=gb279) (o:=.cells #[.string ((rd_T42 l1 x48_3).f0),.int .i64 ((rd_T42 l1 x48_3).f1.f0),.int .i64 ((rd_T42 l1 x48_3).f1.f1),.string ((rd_T42 l1 x48_3).f1.f2),.slice A278_4 ((rd_T42 l1 x48_3).f1.f3).length c278_4] 42 (0,0)) (by (with_reducible repeat (first | refine blk_drewN ?_ _ | refine blk_drew ?_ | refine blk_alloc ?_ _));refine blk_far ?_ NB279_287.out _;(with_reducible repeat (first | refine blk_drewN ?_ _ | refine blk_drew ?_ | refine blk_alloc ?_ _));refine blk_far ?_ NB279_287.out _;(with_reducible repeat (first | refine blk_drewN ?_ _ | refine blk_drew ?_ | refine blk_alloc ?_ _));refine blk_far ?_ NB279_287.out _;(with_reducible repeat (first | refine blk_drewN ?_ _ | refine blk_drew ?_ | refine blk_alloc ?_ _));refine blk_far ?_ NB279_287.out _;(with_reducible repeat (first | refine blk_drewN ?_ _ | refine blk_drew ?_ | refine blk_alloc ?_ _));exact BK279.out) hb);have n3_:=Aside0.mk (blk_below (g:=gb287) (o:=.cells #[.int .i64 t280,.int .i64 t281,.string t282,.slice Ao46 t283.length co46] 40 (0,0)) (by (with_reducible repeat (first | refine blk_drewN ?_ _ | refine blk_drew ?_ | refine blk_alloc ?_ _));refine blk_put (cs:=#[.int .i64 t280,.int .i64 t281,.string t282,.slice none 0 0]) ?_ 3 _ rfl;(with_reducible repeat (first | refine blk_drewN ?_ _ | refine blk_drew ?_ | refine blk_alloc ?_ _));refine blk_put (cs:=#[.int .i64 t280,.int .i64 t281,.string (⟨#[]⟩ : ByteArray),.slice none 0 0]) ?_ 2 _ rfl;(with_reducible repeat (first | refine blk_drewN ?_ _ | refine blk_drew ?_ | refine blk_alloc ?_ _));refine blk_put (cs:=#[.int .i64 t280,.int .i64 0,.string (⟨#[]⟩ : ByteArray),.slice none 0 0]) ?_ 1 _ rfl;(with_reducible repeat (first | refine blk_drewN ?_ _ | refine blk_drew ?_ | refine blk_alloc ?_ _));refine blk_put (cs:=#[.int .i64 0,.int .i64 0,.string (⟨#[]⟩ : ByteArray),.slice none 0 0]) ?_ 0 _ rfl;(with_reducible repeat (first | refine blk_drewN ?_ _ | refine blk_drew ?_ | refine blk_alloc ?_ _));exact BK287.out) hb);have n4_:=Aside0.mk (zS0 HB.out hb);clear HO_5;clear HO285;clear BK279;clear BK287;clear HB;have HO_5:=n0_;have HO285:=n1_;have BK279:=n2_;have BK287:=n3_;have HB:=n4_;clear n0_ n1_ n2_ n3_ n4_;(try clear hb);(try clear hb2);(try clear hk);(try clear hi)))
              go_roundg k3
              case measure => have:=HJ2.out;have:=HK2.out;have:=HK3.out;omega
              case rel => exact ⟨(x5_3),(wrap64 (x48_3 + 1)),(by first | rfl | (simp;done) | (simp [*];done)),H',⟨by have:=HJ2.out;have:=HK2.out;have:=HK3.out;omega⟩,⟨by (with_reducible repeat (first | apply Kd.R_alloc | apply Kd.R_drewN | apply Kd.R_drew));exact HO_5.out⟩,⟨by repeat (first | (with_reducible first | exact HB.out | apply below_alloc | apply pw_below_drewN | apply below_drew1 | refine below_set ?_ GE279.out | refine below_set ?_ GE287.out) | exact HB.out)⟩⟩
             ·replace c39:=Bool.eq_false_iff.mpr c39
              subst c39
              have H1 : ((impl_ValText.f k3 ((rd_T42 l1 x48_3).f1.f0) ((rd_T42 l1 x48_3).f1.f1) ((rd_T42 l1 x48_3).f1.f2) ((rd_T42 l1 x48_3).f1.f3)).bind fun bt289 => (if x5_3.length < 3518437208883 then (impl_Differ.l1 k3 l0 (x5_3 ++ [(⟨(rd_T42 l1 x48_3).f0,bt289.1,false⟩ : S44)]) l1 (l1.length : Int) (wrap64 (x48_3 + 1))) else (none))) = some r:=by rw [if_neg (show ¬ (false = true) by decide)] at H;exact H
              clear H
              have H:=H1
              clear H1
              replace H:=Option.bind_eq_some_iff.mp H
              obtain ⟨⟨t289,t290⟩,A490,H⟩:=H
              replace H : (if x5_3.length < 3518437208883 then (impl_Differ.l1 k3 l0 (x5_3 ++ [(⟨(rd_T42 l1 x48_3).f0,t289,false⟩ : S44)]) l1 (l1.length : Int) (wrap64 (x48_3 + 1))) else (none)) = some r:=H
              have A49:=Aside0.mk A490
              clear A490
              by_cases c50 : x5_3.length < 3518437208883
              ·rw [if_pos c50] at H
               have LMc50:=Aside0.mk c50
               clear c50
               obtain ⟨y291,hy291⟩ : ∃ y_ : List (S44),y_ = (x5_3 ++ [(⟨(rd_T42 l1 x48_3).f0,t289,false⟩ : S44)]):=⟨_,rfl⟩
               replace H : (impl_Differ.l1 k3 l0 y291 l1 (l1.length : Int) (wrap64 (x48_3 + 1))) = some r:=by first | (rw [hy291];with_reducible exact H) | (have H2_:=(Option.bind_some _ _).symm.trans H;rw [hy291];with_reducible exact H2_) | (have H2_:=(Option.bind_some _ _).symm.trans H;with_reducible exact H2_) | with_reducible exact H | (rw [hy291];exact H) | exact H
               have Ny291:=Aside0.mk hy291
               clear hy291
               have H':=Aside0.mk H
               clear H
               have p278 : 0 ≤ (x48_3 : Int):=of_decide_eq_true (by first | (with_reducible assumption) | assumption)
               have q278 : x48_3 < (l1.length : Int):=of_decide_eq_true (by first | (with_reducible assumption) | assumption)
               obtain ⟨ad278,A278_4,c278_4,e278,hx278_0,hx278_1,hx278_2,hx278_3,hx278_4,hl278_4,hi278_4⟩:=at_T42 HR1.out x48_3 p278 q278
               cases e278
               replace hx278_0:=(HB.out.cell (World.block_lt_of_cell? w _ hx278_0)).trans hx278_0
               replace hx278_1:=(HB.out.cell (World.block_lt_of_cell? w _ hx278_1)).trans hx278_1
               replace hx278_2:=(HB.out.cell (World.block_lt_of_cell? w _ hx278_2)).trans hx278_2
               replace hx278_3:=(HB.out.cell (World.block_lt_of_cell? w _ hx278_3)).trans hx278_3
               replace hx278_4:=(HB.out.cell (World.block_lt_of_cell? w _ hx278_4)).trans hx278_4
               have HR278_4:=Aside0.mk hi278_4
               have HC278_4:=Aside0.mk hl278_4
               clear hi278_4 hl278_4
               replace p278:=eq_true p278
               replace q278:=eq_true q278
               go_wp2_with (first | ((with_reducible refine gate_dst (N:=11) rfl ?_);refine box_event ?hg (N:=11) ?hd (cs:=#[.string (⟨#[]⟩ : ByteArray),.int .i64 0,.int .i64 0,.string (⟨#[]⟩ : ByteArray),.slice none 0 0]) (t:=42) ?hr ?_;(case hd => rfl);(case hg => rfl);(case hr => first | (go_simp;done) | (go_simp;rfl));intro gb279 hg w51 hbox hb;have n0_:=Aside0.mk (Kd.R_below (zR0 HO_5.out) hb);have n1_:=Aside0.mk (zS0 HB.out hb);have n2_:=Aside0.mk (hbox);have n3_:=Aside0.mk ((by rw [hg];exact (zZ0 HB.out) : w.heap.size ≤ gb279));have n4_:=Aside0.mk ((by rw [hg];exact (zZ0 HB.out) : w.heap.size ≤ gb279));clear HO_5;clear HB;have HO_5:=n0_;have HB:=n1_;have BK279:=n2_;have GW279:=n3_;have GE279:=n4_;clear n0_ n1_ n2_ n3_ n4_;clear hb hbox hg;have hcz52_0 : w51.cell? ⟨gb279,0,none⟩ = some (.string (⟨#[]⟩ : ByteArray)):=(blk_cell BK279.out 0).trans rfl;have hcz52_1 : w51.cell? ⟨gb279,1,none⟩ = some (.int .i64 0):=(blk_cell BK279.out 1).trans rfl;have hcz52_2 : w51.cell? ⟨gb279,2,none⟩ = some (.int .i64 0):=(blk_cell BK279.out 2).trans rfl;have hcz52_3 : w51.cell? ⟨gb279,3,none⟩ = some (.string (⟨#[]⟩ : ByteArray)):=(blk_cell BK279.out 3).trans rfl;have hcz52_4 : w51.cell? ⟨gb279,4,none⟩ = some (.slice none 0 0):=(blk_cell BK279.out 4).trans rfl;have hfz52_0:=blk_frozen BK279.out 0;have hfz52_1:=blk_frozen BK279.out 1;have hfz52_2:=blk_frozen BK279.out 2;have hfz52_3:=blk_frozen BK279.out 3;have hfz52_4:=blk_frozen BK279.out 4) | ((with_reducible refine gate_callee (f:=19) rfl ?_);refine goesL_ (some 56) rfl rfl Try.func19 (by kernel_rfl) rfl #[.slice A0 l0.length c0,.string ((rd_T42 l1 x48_3).f0)] rfl zM0 ?_;(with_reducible refine (impl_Find.calls _ _ l0 ((rd_T42 l1 x48_3).f0) t280 t281 t282 t283 true _ ?side1 ?side2 A36.out).mono ?_);(case side1 => exact Kd.C_below HR0.out (by repeat (first | (with_reducible first | exact HB.out | apply below_alloc | apply pw_below_drewN | apply below_drew1 | refine below_set ?_ GE279.out) | exact HB.out)));(case side2 => exact HC0.out);rintro e w53 ⟨v284,rfl,ho0,hb⟩;refine ⟨_,rfl,?_⟩;have n0_:=Aside0.mk (Kd.R_below (by (with_reducible repeat (first | apply Kd.R_alloc | apply Kd.R_drewN | apply Kd.R_drew));exact (Kd.R_mono (Kd.R_far (p:=⟨gb279,4,none⟩) (Kd.R_far (p:=⟨gb279,3,none⟩) (Kd.R_far (p:=⟨gb279,2,none⟩) (Kd.R_far (p:=⟨gb279,1,none⟩) (Kd.R_far (p:=⟨gb279,0,none⟩) (Kd.R_types HO_5.out BK279.out (by decide)) (fun _ hk => hk.2) (.string ((rd_T42 l1 x48_3).f0))) (fun _ hk => hk.2) (.int .i64 ((rd_T42 l1 x48_3).f1.f0))) (fun _ hk => hk.2) (.int .i64 ((rd_T42 l1 x48_3).f1.f1))) (fun _ hk => hk.2) (.string ((rd_T42 l1 x48_3).f1.f2))) (fun _ hk => hk.2) (.slice A278_4 ((rd_T42 l1 x48_3).f1.f3).length c278_4)) (fun _ h_ => h_.1))) hb);have n1_:=Aside0.mk (Kd.R_lower ho0 (zZ0 HB.out));have n2_:=Aside0.mk (blk_below (g:=gb279) (o:=.cells #[.string ((rd_T42 l1 x48_3).f0),.int .i64 ((rd_T42 l1 x48_3).f1.f0),.int .i64 ((rd_T42 l1 x48_3).f1.f1),.string ((rd_T42 l1 x48_3).f1.f2),.slice A278_4 ((rd_T42 l1 x48_3).f1.f3).length c278_4] 42 (0,0)) (by (with_reducible repeat (first | refine blk_drewN ?_ _ | refine blk_drew ?_ | refine blk_alloc ?_ _));refine blk_put (cs:=#[.string ((rd_T42 l1 x48_3).f0),.int .i64 ((rd_T42 l1 x48_3).f1.f0),.int .i64 ((rd_T42 l1 x48_3).f1.f1),.string ((rd_T42 l1 x48_3).f1.f2),.slice none 0 0]) ?_ 4 _ rfl;(with_reducible repeat (first | refine blk_drewN ?_ _ | refine blk_drew ?_ | refine blk_alloc ?_ _));refine blk_put (cs:=#[.string ((rd_T42 l1 x48_3).f0),.int .i64 ((rd_T42 l1 x48_3).f1.f0),.int .i64 ((rd_T42 l1 x48_3).f1.f1),.string (⟨#[]⟩ : ByteArray),.slice none 0 0]) ?_ 3 _ rfl;(with_reducible repeat (first | refine blk_drewN ?_ _ | refine blk_drew ?_ | refine blk_alloc ?_ _));refine blk_put (cs:=#[.string ((rd_T42 l1 x48_3).f0),.int .i64 ((rd_T42 l1 x48_3).f1.f0),.int .i64 0,.string (⟨#[]⟩ : ByteArray),.slice none 0 0]) ?_ 2 _ rfl;(with_reducible repeat (first | refine blk_drewN ?_ _ | refine blk_drew ?_ | refine blk_alloc ?_ _));refine blk_put (cs:=#[.string ((rd_T42 l1 x48_3).f0),.int .i64 0,.int .i64 0,.string (⟨#[]⟩ : ByteArray),.slice none 0 0]) ?_ 1 _ rfl;(with_reducible repeat (first | refine blk_drewN ?_ _ | refine blk_drew ?_ | refine blk_alloc ?_ _));refine blk_put (cs:=#[.string (⟨#[]⟩ : ByteArray),.int .i64 0,.int .i64 0,.string (⟨#[]⟩ : ByteArray),.slice none 0 0]) ?_ 0 _ rfl;(with_reducible repeat (first | refine blk_drewN ?_ _ | refine blk_drew ?_ | refine blk_alloc ?_ _));exact BK279.out) hb);have n3_:=Aside0.mk (zS0 HB.out hb);clear HO_5;clear BK279;clear HB;have HO_5:=n0_;have HO285:=n1_;have BK279:=n2_;have HB:=n3_;clear n0_ n1_ n2_ n3_;(try clear hb);(try clear hb2);(try clear hk);(try clear hi);(try clear ho0)) | ((with_reducible refine gate_dst (N:=12) rfl ?_);refine box_event ?hg (N:=12) ?hd (cs:=#[.int .i64 0,.int .i64 0,.string (⟨#[]⟩ : ByteArray),.slice none 0 0]) (t:=40) ?hr ?_;(case hd => rfl);(case hg => rfl);(case hr => first | (go_simp;done) | (go_simp;rfl));intro gb287 hg w54 hbox hb;have n0_:=Aside0.mk (Kd.R_below (zR0 HO_5.out) hb);have n1_:=Aside0.mk (Kd.R_below (zR0 HO285.out) hb);have n2_:=Aside0.mk (zB0 BK279.out hb);have n3_:=Aside0.mk (zS0 HB.out hb);have n4_:=Aside0.mk (hbox);have n5_:=Aside0.mk ((by rw [hg];exact (zZ0 HB.out) : w.heap.size ≤ gb287));have n6_:=Aside0.mk ((by rw [hg];exact (zZ0 HB.out) : w.heap.size ≤ gb287));have n7_:=Aside0.mk ((zL0 hg BK279.out : gb279 ≠ gb287));have n8_:=Aside0.mk ((zG0 hg BK279.out : gb287 ≠ gb279));clear HO_5;clear HO285;clear BK279;clear HB;have HO_5:=n0_;have HO285:=n1_;have BK279:=n2_;have HB:=n3_;have BK287:=n4_;have GW287:=n5_;have GE287:=n6_;have NB279_287:=n7_;have NB287_279:=n8_;clear n0_ n1_ n2_ n3_ n4_ n5_ n6_ n7_ n8_;clear hb hbox hg;have hnb55:=NB287_279.out;have hnc55:=NB279_287.out;have hcz56_0 : w54.cell? ⟨gb287,0,none⟩ = some (.int .i64 0):=(blk_cell BK287.out 0).trans rfl;have hcz56_1 : w54.cell? ⟨gb287,1,none⟩ = some (.int .i64 0):=(blk_cell BK287.out 1).trans rfl;have hcz56_2 : w54.cell? ⟨gb287,2,none⟩ = some (.string (⟨#[]⟩ : ByteArray)):=(blk_cell BK287.out 2).trans rfl;have hcz56_3 : w54.cell? ⟨gb287,3,none⟩ = some (.slice none 0 0):=(blk_cell BK287.out 3).trans rfl;have hfz56_0:=blk_frozen BK287.out 0;have hfz56_1:=blk_frozen BK287.out 1;have hfz56_2:=blk_frozen BK287.out 2;have hfz56_3:=blk_frozen BK287.out 3;obtain ⟨Ao57,co57,eo57⟩:=Kd.R_slice HO285.out;subst eo57;have hcz58_0 : w54.cell? ⟨gb279,0,none⟩ = some (.string ((rd_T42 l1 x48_3).f0)):=(blk_cell BK279.out 0).trans rfl;have hcz58_1 : w54.cell? ⟨gb279,1,none⟩ = some (.int .i64 ((rd_T42 l1 x48_3).f1.f0)):=(blk_cell BK279.out 1).trans rfl;have hcz58_2 : w54.cell? ⟨gb279,2,none⟩ = some (.int .i64 ((rd_T42 l1 x48_3).f1.f1)):=(blk_cell BK279.out 2).trans rfl;have hcz58_3 : w54.cell? ⟨gb279,3,none⟩ = some (.string ((rd_T42 l1 x48_3).f1.f2)):=(blk_cell BK279.out 3).trans rfl;have hcz58_4 : w54.cell? ⟨gb279,4,none⟩ = some (.slice A278_4 ((rd_T42 l1 x48_3).f1.f3).length c278_4):=(blk_cell BK279.out 4).trans rfl;have hfz58_0:=blk_frozen BK279.out 0;have hfz58_1:=blk_frozen BK279.out 1;have hfz58_2:=blk_frozen BK279.out 2;have hfz58_3:=blk_frozen BK279.out 3;have hfz58_4:=blk_frozen BK279.out 4) | (go_at_call 20;(with_reducible refine (impl_sameVal.calls k3 t280 t281 t282 _ _ t283 ((rd_T42 l1 x48_3).f1.f0) ((rd_T42 l1 x48_3).f1.f1) ((rd_T42 l1 x48_3).f1.f2) _ _ ((rd_T42 l1 x48_3).f1.f3) false _ ?side1 ?side2 ?side3 ?side4 A38.out).mono ?_);(case side1 => refine (Kd.R_reads' (e:=9) (base:=w.heap.size) (ok:=fun k_ => True) (n:=t283.length) (c:=co57) ?_).2.2;exact (by (with_reducible repeat (first | apply Kd.R_alloc | apply Kd.R_drewN | apply Kd.R_drew));exact (Kd.R_mono (Kd.R_far (p:=⟨gb287,3,none⟩) (Kd.R_far (p:=⟨gb287,2,none⟩) (Kd.R_far (p:=⟨gb287,1,none⟩) (Kd.R_far (p:=⟨gb287,0,none⟩) (Kd.R_types HO285.out BK287.out (by decide)) (fun _ hk => hk.2) (.int .i64 t280)) (fun _ hk => hk.2) (.int .i64 t281)) (fun _ hk => hk.2) (.string t282)) (fun _ hk => hk.2) (.slice Ao57 t283.length co57)) (fun _ h_ => h_.1))));(case side2 => exact (Kd.R_reads' HO285.out).2.1);(case side3 => exact Kd.C_below HR278_4.out (by repeat (first | (with_reducible first | exact HB.out | apply below_alloc | apply pw_below_drewN | apply below_drew1 | refine below_set ?_ GE279.out | refine below_set ?_ GE287.out) | exact HB.out)));(case side4 => exact HC278_4.out);rintro e w59 ⟨rfl,hb⟩;have n0_:=Aside0.mk (Kd.R_below (by (with_reducible repeat (first | apply Kd.R_alloc | apply Kd.R_drewN | apply Kd.R_drew));exact (Kd.R_mono (Kd.R_far (p:=⟨gb287,3,none⟩) (Kd.R_far (p:=⟨gb287,2,none⟩) (Kd.R_far (p:=⟨gb287,1,none⟩) (Kd.R_far (p:=⟨gb287,0,none⟩) (Kd.R_types HO_5.out BK287.out (by decide)) (fun _ hk => hk.2) (.int .i64 t280)) (fun _ hk => hk.2) (.int .i64 t281)) (fun _ hk => hk.2) (.string t282)) (fun _ hk => hk.2) (.slice Ao57 t283.length co57)) (fun _ h_ => h_.1))) hb);have n1_:=Aside0.mk (Kd.R_below (by (with_reducible repeat (first | apply Kd.R_alloc | apply Kd.R_drewN | apply Kd.R_drew));exact (Kd.R_mono (Kd.R_far (p:=⟨gb287,3,none⟩) (Kd.R_far (p:=⟨gb287,2,none⟩) (Kd.R_far (p:=⟨gb287,1,none⟩) (Kd.R_far (p:=⟨gb287,0,none⟩) (Kd.R_types HO285.out BK287.out (by decide)) (fun _ hk => hk.2) (.int .i64 t280)) (fun _ hk => hk.2) (.int .i64 t281)) (fun _ hk => hk.2) (.string t282)) (fun _ hk => hk.2) (.slice Ao57 t283.length co57)) (fun _ h_ => h_.1))) hb);have n2_:=Aside0.mk (blk_below (g:=gb279) (o:=.cells #[.string ((rd_T42 l1 x48_3).f0),.int .i64 ((rd_T42 l1 x48_3).f1.f0),.int .i64 ((rd_T42 l1 x48_3).f1.f1),.string ((rd_T42 l1 x48_3).f1.f2),.slice A278_4 ((rd_T42 l1 x48_3).f1.f3).length c278_4] 42 (0,0)) (by (with_reducible repeat (first | refine blk_drewN ?_ _ | refine blk_drew ?_ | refine blk_alloc ?_ _));refine blk_far ?_ NB279_287.out _;(with_reducible repeat (first | refine blk_drewN ?_ _ | refine blk_drew ?_ | refine blk_alloc ?_ _));refine blk_far ?_ NB279_287.out _;(with_reducible repeat (first | refine blk_drewN ?_ _ | refine blk_drew ?_ | refine blk_alloc ?_ _));refine blk_far ?_ NB279_287.out _;(with_reducible repeat (first | refine blk_drewN ?_ _ | refine blk_drew ?_ | refine blk_alloc ?_ _));refine blk_far ?_ NB279_287.out _;(with_reducible repeat (first | refine blk_drewN ?_ _ | refine blk_drew ?_ | refine blk_alloc ?_ _));exact BK279.out) hb);have n3_:=Aside0.mk (blk_below (g:=gb287) (o:=.cells #[.int .i64 t280,.int .i64 t281,.string t282,.slice Ao57 t283.length co57] 40 (0,0)) (by (with_reducible repeat (first | refine blk_drewN ?_ _ | refine blk_drew ?_ | refine blk_alloc ?_ _));refine blk_put (cs:=#[.int .i64 t280,.int .i64 t281,.string t282,.slice none 0 0]) ?_ 3 _ rfl;(with_reducible repeat (first | refine blk_drewN ?_ _ | refine blk_drew ?_ | refine blk_alloc ?_ _));refine blk_put (cs:=#[.int .i64 t280,.int .i64 t281,.string (⟨#[]⟩ : ByteArray),.slice none 0 0]) ?_ 2 _ rfl;(with_reducible repeat (first | refine blk_drewN ?_ _ | refine blk_drew ?_ | refine blk_alloc ?_ _));refine blk_put (cs:=#[.int .i64 t280,.int .i64 0,.string (⟨#[]⟩ : ByteArray),.slice none 0 0]) ?_ 1 _ rfl;(with_reducible repeat (first | refine blk_drewN ?_ _ | refine blk_drew ?_ | refine blk_alloc ?_ _));refine blk_put (cs:=#[.int .i64 0,.int .i64 0,.string (⟨#[]⟩ : ByteArray),.slice none 0 0]) ?_ 0 _ rfl;(with_reducible repeat (first | refine blk_drewN ?_ _ | refine blk_drew ?_ | refine blk_alloc ?_ _));exact BK287.out) hb);have n4_:=Aside0.mk (zS0 HB.out hb);clear HO_5;clear HO285;clear BK279;clear BK287;clear HB;have HO_5:=n0_;have HO285:=n1_;have BK279:=n2_;have BK287:=n3_;have HB:=n4_;clear n0_ n1_ n2_ n3_ n4_;(try clear hb);(try clear hb2);(try clear hk);(try clear hi);have hcz60_0 : w59.cell? ⟨gb279,0,none⟩ = some (.string ((rd_T42 l1 x48_3).f0)):=(blk_cell BK279.out 0).trans rfl;have hcz60_1 : w59.cell? ⟨gb279,1,none⟩ = some (.int .i64 ((rd_T42 l1 x48_3).f1.f0)):=(blk_cell BK279.out 1).trans rfl;have hcz60_2 : w59.cell? ⟨gb279,2,none⟩ = some (.int .i64 ((rd_T42 l1 x48_3).f1.f1)):=(blk_cell BK279.out 2).trans rfl;have hcz60_3 : w59.cell? ⟨gb279,3,none⟩ = some (.string ((rd_T42 l1 x48_3).f1.f2)):=(blk_cell BK279.out 3).trans rfl;have hcz60_4 : w59.cell? ⟨gb279,4,none⟩ = some (.slice A278_4 ((rd_T42 l1 x48_3).f1.f3).length c278_4):=(blk_cell BK279.out 4).trans rfl;have hfz60_0:=blk_frozen BK279.out 0;have hfz60_1:=blk_frozen BK279.out 1;have hfz60_2:=blk_frozen BK279.out 2;have hfz60_3:=blk_frozen BK279.out 3;have hfz60_4:=blk_frozen BK279.out 4) | ((with_reducible refine gate_callee (f:=21) rfl ?_);refine goesL_ (some 71) rfl rfl Try.func21 (by kernel_rfl) rfl #[.agg #[.int .i64 ((rd_T42 l1 x48_3).f1.f0),.int .i64 ((rd_T42 l1 x48_3).f1.f1),.string ((rd_T42 l1 x48_3).f1.f2),.slice A278_4 ((rd_T42 l1 x48_3).f1.f3).length c278_4]] rfl zM0 ?_;(with_reducible refine (impl_ValText.calls k3 ((rd_T42 l1 x48_3).f1.f0) ((rd_T42 l1 x48_3).f1.f1) ((rd_T42 l1 x48_3).f1.f2) _ _ ((rd_T42 l1 x48_3).f1.f3) t289 t290 _ ?side1 ?side2 A49.out).mono ?_);(case side1 => repeat (first | exact (Kd.C_below HR278_4.out HB.out) | (with_reducible refine Kd.C_alloc ?_ _) | (with_reducible refine Kd.C_drewN ?_ _) | (with_reducible refine Kd.C_drew ?_)));(case side2 => exact HC278_4.out);rintro e w61 ⟨rfl,hb⟩;refine ⟨_,rfl,?_⟩;have n0_:=Aside0.mk (Kd.R_below (zR0 HO_5.out) hb);have n1_:=Aside0.mk (Kd.R_below (zR0 HO285.out) hb);have n2_:=Aside0.mk (zB0 BK279.out hb);have n3_:=Aside0.mk (zB0 BK287.out hb);have n4_:=Aside0.mk (zS0 HB.out hb);clear HO_5;clear HO285;clear BK279;clear BK287;clear HB;have HO_5:=n0_;have HO285:=n1_;have BK279:=n2_;have BK287:=n3_;have HB:=n4_;clear n0_ n1_ n2_ n3_ n4_;(try clear hb);(try clear hb2);(try clear hk);(try clear hi);have hcz62_0 : w61.cell? ⟨gb279,0,none⟩ = some (.string ((rd_T42 l1 x48_3).f0)):=(blk_cell BK279.out 0).trans rfl;have hcz62_1 : w61.cell? ⟨gb279,1,none⟩ = some (.int .i64 ((rd_T42 l1 x48_3).f1.f0)):=(blk_cell BK279.out 1).trans rfl;have hcz62_2 : w61.cell? ⟨gb279,2,none⟩ = some (.int .i64 ((rd_T42 l1 x48_3).f1.f1)):=(blk_cell BK279.out 2).trans rfl;have hcz62_3 : w61.cell? ⟨gb279,3,none⟩ = some (.string ((rd_T42 l1 x48_3).f1.f2)):=(blk_cell BK279.out 3).trans rfl;have hcz62_4 : w61.cell? ⟨gb279,4,none⟩ = some (.slice A278_4 ((rd_T42 l1 x48_3).f1.f3).length c278_4):=(blk_cell BK279.out 4).trans rfl;have hfz62_0:=blk_frozen BK279.out 0;have hfz62_1:=blk_frozen BK279.out 1;have hfz62_2:=blk_frozen BK279.out 2;have hfz62_3:=blk_frozen BK279.out 3;have hfz62_4:=blk_frozen BK279.out 4) | ((with_reducible refine gate_builtin (b:=.append) (xs:=#[.tmp 74,.tmp 79]) rfl ?_);at_builtin;refine Kd.R_append k44 (w0:=w) w.heap.size rfl (.tmp 74) (.tmp 79) 24 44 (.agg #[(.string ⟨#[]⟩),(.string ⟨#[]⟩),(.bool false)]) 40 rfl Try.underlying24 info44 rfl (by decide) (by omega) u5 x5_3 (⟨(rd_T42 l1 x48_3).f0,t289,false⟩ : S44) [.string ((rd_T42 l1 x48_3).f0),.string t289,.bool false] (fun _ => True) (fun _ => False) rfl rfl ?aP (fun _ hk => hk.elim) ?aF ?aO ?aB ?aS ?aL ?_;(case aP => exact k44_mkM _ _ _ (⟨(rd_T42 l1 x48_3).f0,t289,false⟩ : S44));(case aB => exact (by repeat (first | (with_reducible first | exact HB.out | apply below_alloc | apply pw_below_drewN | apply below_drew1 | refine below_set ?_ GE279.out | refine below_set ?_ GE287.out) | exact HB.out)));(case aF => exact (fun _ _ => trivial));(case aO => exact (zR0 HO_5.out));(case aS => exact (zZ0 HB.out));(case aL => have:=LMc50.out;omega);intro v292 w63 ho hb hg hat;rw [← Ny291.out] at ho;have n0_:=Aside0.mk (blk_grown (g:=gb279) (o:=.cells #[.string ((rd_T42 l1 x48_3).f0),.int .i64 ((rd_T42 l1 x48_3).f1.f0),.int .i64 ((rd_T42 l1 x48_3).f1.f1),.string ((rd_T42 l1 x48_3).f1.f2),.slice A278_4 ((rd_T42 l1 x48_3).f1.f3).length c278_4] 42 (0,0)) (zK0 BK279.out) hg (Kd.R_ne HO_5.out BK279.out (by decide)));have n1_:=Aside0.mk (Kd.R_over' (zR0 HO285.out) (Kd.R_typed (zR0 HO_5.out)) (by decide) hg);have n2_:=Aside0.mk (blk_grown (g:=gb287) (o:=.cells #[.int .i64 t280,.int .i64 t281,.string t282,.slice Ao57 t283.length co57] 40 (0,0)) (zK0 BK287.out) hg (Kd.R_ne HO_5.out BK287.out (by decide)));have n3_:=Aside0.mk (hb);have n4_:=Aside0.mk (ho);clear BK279;clear HO285;clear BK287;clear HB;clear HO_5;have BK279:=n0_;have HO285:=n1_;have BK287:=n2_;have HB:=n3_;have HO293:=n4_;clear n0_ n1_ n2_ n3_ n4_;clear ho hb hg hat))
               go_roundg k3
               case measure => have:=HJ2.out;have:=HK2.out;have:=HK3.out;omega
               case rel => exact ⟨(y291),(wrap64 (x48_3 + 1)),(by first | rfl | (simp;done) | (simp [*];done)),H',⟨by have:=HJ2.out;have:=HK2.out;have:=HK3.out;omega⟩,⟨by (with_reducible repeat (first | apply Kd.R_alloc | apply Kd.R_drewN | apply Kd.R_drew));exact HO293.out⟩,⟨by repeat (first | (with_reducible first | exact HB.out | apply below_alloc | apply pw_below_drewN | apply below_drew1 | refine below_set ?_ GE279.out | refine below_set ?_ GE287.out) | exact HB.out)⟩⟩
              ·rw [if_neg c50] at H
               exact absurd H (by simp)
            ·replace c37:=Bool.eq_false_iff.mpr c37
             subst c37
             have H1 : ((impl_ValText.f k3 ((rd_T42 l1 x48_3).f1.f0) ((rd_T42 l1 x48_3).f1.f1) ((rd_T42 l1 x48_3).f1.f2) ((rd_T42 l1 x48_3).f1.f3)).bind fun bt294 => (if x5_3.length < 3518437208883 then (impl_Differ.l1 k3 l0 (x5_3 ++ [(⟨(rd_T42 l1 x48_3).f0,bt294.1,false⟩ : S44)]) l1 (l1.length : Int) (wrap64 (x48_3 + 1))) else (none))) = some r:=by rw [if_neg (show ¬ (false = true) by decide)] at H;exact H
             clear H
             have H:=H1
             clear H1
             replace H:=Option.bind_eq_some_iff.mp H
             obtain ⟨⟨t294,t295⟩,A640,H⟩:=H
             replace H : (if x5_3.length < 3518437208883 then (impl_Differ.l1 k3 l0 (x5_3 ++ [(⟨(rd_T42 l1 x48_3).f0,t294,false⟩ : S44)]) l1 (l1.length : Int) (wrap64 (x48_3 + 1))) else (none)) = some r:=H
             have A64:=Aside0.mk A640
             clear A640
             by_cases c65 : x5_3.length < 3518437208883
             ·rw [if_pos c65] at H
              have LMc65:=Aside0.mk c65
              clear c65
              obtain ⟨y296,hy296⟩ : ∃ y_ : List (S44),y_ = (x5_3 ++ [(⟨(rd_T42 l1 x48_3).f0,t294,false⟩ : S44)]):=⟨_,rfl⟩
              replace H : (impl_Differ.l1 k3 l0 y296 l1 (l1.length : Int) (wrap64 (x48_3 + 1))) = some r:=by first | (rw [hy296];with_reducible exact H) | (have H2_:=(Option.bind_some _ _).symm.trans H;rw [hy296];with_reducible exact H2_) | (have H2_:=(Option.bind_some _ _).symm.trans H;with_reducible exact H2_) | with_reducible exact H | (rw [hy296];exact H) | exact H
              have Ny296:=Aside0.mk hy296
              clear hy296
              have H':=Aside0.mk H
              clear H
              have p278 : 0 ≤ (x48_3 : Int):=of_decide_eq_true (by first | (with_reducible assumption) | assumption)
              have q278 : x48_3 < (l1.length : Int):=of_decide_eq_true (by first | (with_reducible assumption) | assumption)
              obtain ⟨ad278,A278_4,c278_4,e278,hx278_0,hx278_1,hx278_2,hx278_3,hx278_4,hl278_4,hi278_4⟩:=at_T42 HR1.out x48_3 p278 q278
              cases e278
              replace hx278_0:=(HB.out.cell (World.block_lt_of_cell? w _ hx278_0)).trans hx278_0
              replace hx278_1:=(HB.out.cell (World.block_lt_of_cell? w _ hx278_1)).trans hx278_1
              replace hx278_2:=(HB.out.cell (World.block_lt_of_cell? w _ hx278_2)).trans hx278_2
              replace hx278_3:=(HB.out.cell (World.block_lt_of_cell? w _ hx278_3)).trans hx278_3
              replace hx278_4:=(HB.out.cell (World.block_lt_of_cell? w _ hx278_4)).trans hx278_4
              have HR278_4:=Aside0.mk hi278_4
              have HC278_4:=Aside0.mk hl278_4
              clear hi278_4 hl278_4
              replace p278:=eq_true p278
              replace q278:=eq_true q278
              go_wp2_with (first | ((with_reducible refine gate_dst (N:=11) rfl ?_);refine box_event ?hg (N:=11) ?hd (cs:=#[.string (⟨#[]⟩ : ByteArray),.int .i64 0,.int .i64 0,.string (⟨#[]⟩ : ByteArray),.slice none 0 0]) (t:=42) ?hr ?_;(case hd => rfl);(case hg => rfl);(case hr => first | (go_simp;done) | (go_simp;rfl));intro gb279 hg w66 hbox hb;have n0_:=Aside0.mk (Kd.R_below (zR0 HO_5.out) hb);have n1_:=Aside0.mk (zS0 HB.out hb);have n2_:=Aside0.mk (hbox);have n3_:=Aside0.mk ((by rw [hg];exact (zZ0 HB.out) : w.heap.size ≤ gb279));have n4_:=Aside0.mk ((by rw [hg];exact (zZ0 HB.out) : w.heap.size ≤ gb279));clear HO_5;clear HB;have HO_5:=n0_;have HB:=n1_;have BK279:=n2_;have GW279:=n3_;have GE279:=n4_;clear n0_ n1_ n2_ n3_ n4_;clear hb hbox hg;have hcz67_0 : w66.cell? ⟨gb279,0,none⟩ = some (.string (⟨#[]⟩ : ByteArray)):=(blk_cell BK279.out 0).trans rfl;have hcz67_1 : w66.cell? ⟨gb279,1,none⟩ = some (.int .i64 0):=(blk_cell BK279.out 1).trans rfl;have hcz67_2 : w66.cell? ⟨gb279,2,none⟩ = some (.int .i64 0):=(blk_cell BK279.out 2).trans rfl;have hcz67_3 : w66.cell? ⟨gb279,3,none⟩ = some (.string (⟨#[]⟩ : ByteArray)):=(blk_cell BK279.out 3).trans rfl;have hcz67_4 : w66.cell? ⟨gb279,4,none⟩ = some (.slice none 0 0):=(blk_cell BK279.out 4).trans rfl;have hfz67_0:=blk_frozen BK279.out 0;have hfz67_1:=blk_frozen BK279.out 1;have hfz67_2:=blk_frozen BK279.out 2;have hfz67_3:=blk_frozen BK279.out 3;have hfz67_4:=blk_frozen BK279.out 4) | ((with_reducible refine gate_callee (f:=19) rfl ?_);refine goesL_ (some 56) rfl rfl Try.func19 (by kernel_rfl) rfl #[.slice A0 l0.length c0,.string ((rd_T42 l1 x48_3).f0)] rfl zM0 ?_;(with_reducible refine (impl_Find.calls _ _ l0 ((rd_T42 l1 x48_3).f0) t280 t281 t282 t283 false _ ?side1 ?side2 A36.out).mono ?_);(case side1 => exact Kd.C_below HR0.out (by repeat (first | (with_reducible first | exact HB.out | apply below_alloc | apply pw_below_drewN | apply below_drew1 | refine below_set ?_ GE279.out) | exact HB.out)));(case side2 => exact HC0.out);rintro e w68 ⟨v284,rfl,ho0,hb⟩;refine ⟨_,rfl,?_⟩;have n0_:=Aside0.mk (Kd.R_below (by (with_reducible repeat (first | apply Kd.R_alloc | apply Kd.R_drewN | apply Kd.R_drew));exact (Kd.R_mono (Kd.R_far (p:=⟨gb279,4,none⟩) (Kd.R_far (p:=⟨gb279,3,none⟩) (Kd.R_far (p:=⟨gb279,2,none⟩) (Kd.R_far (p:=⟨gb279,1,none⟩) (Kd.R_far (p:=⟨gb279,0,none⟩) (Kd.R_types HO_5.out BK279.out (by decide)) (fun _ hk => hk.2) (.string ((rd_T42 l1 x48_3).f0))) (fun _ hk => hk.2) (.int .i64 ((rd_T42 l1 x48_3).f1.f0))) (fun _ hk => hk.2) (.int .i64 ((rd_T42 l1 x48_3).f1.f1))) (fun _ hk => hk.2) (.string ((rd_T42 l1 x48_3).f1.f2))) (fun _ hk => hk.2) (.slice A278_4 ((rd_T42 l1 x48_3).f1.f3).length c278_4)) (fun _ h_ => h_.1))) hb);have n1_:=Aside0.mk (Kd.R_lower ho0 (zZ0 HB.out));have n2_:=Aside0.mk (blk_below (g:=gb279) (o:=.cells #[.string ((rd_T42 l1 x48_3).f0),.int .i64 ((rd_T42 l1 x48_3).f1.f0),.int .i64 ((rd_T42 l1 x48_3).f1.f1),.string ((rd_T42 l1 x48_3).f1.f2),.slice A278_4 ((rd_T42 l1 x48_3).f1.f3).length c278_4] 42 (0,0)) (by (with_reducible repeat (first | refine blk_drewN ?_ _ | refine blk_drew ?_ | refine blk_alloc ?_ _));refine blk_put (cs:=#[.string ((rd_T42 l1 x48_3).f0),.int .i64 ((rd_T42 l1 x48_3).f1.f0),.int .i64 ((rd_T42 l1 x48_3).f1.f1),.string ((rd_T42 l1 x48_3).f1.f2),.slice none 0 0]) ?_ 4 _ rfl;(with_reducible repeat (first | refine blk_drewN ?_ _ | refine blk_drew ?_ | refine blk_alloc ?_ _));refine blk_put (cs:=#[.string ((rd_T42 l1 x48_3).f0),.int .i64 ((rd_T42 l1 x48_3).f1.f0),.int .i64 ((rd_T42 l1 x48_3).f1.f1),.string (⟨#[]⟩ : ByteArray),.slice none 0 0]) ?_ 3 _ rfl;(with_reducible repeat (first | refine blk_drewN ?_ _ | refine blk_drew ?_ | refine blk_alloc ?_ _));refine blk_put (cs:=#[.string ((rd_T42 l1 x48_3).f0),.int .i64 ((rd_T42 l1 x48_3).f1.f0),.int .i64 0,.string (⟨#[]⟩ : ByteArray),.slice none 0 0]) ?_ 2 _ rfl;(with_reducible repeat (first | refine blk_drewN ?_ _ | refine blk_drew ?_ | refine blk_alloc ?_ _));refine blk_put (cs:=#[.string ((rd_T42 l1 x48_3).f0),.int .i64 0,.int .i64 0,.string (⟨#[]⟩ : ByteArray),.slice none 0 0]) ?_ 1 _ rfl;(with_reducible repeat (first | refine blk_drewN ?_ _ | refine blk_drew ?_ | refine blk_alloc ?_ _));refine blk_put (cs:=#[.string (⟨#[]⟩ : ByteArray),.int .i64 0,.int .i64 0,.string (⟨#[]⟩ : ByteArray),.slice none 0 0]) ?_ 0 _ rfl;(with_reducible repeat (first | refine blk_drewN ?_ _ | refine blk_drew ?_ | refine blk_alloc ?_ _));exact BK279.out) hb);have n3_:=Aside0.mk (zS0 HB.out hb);clear HO_5;clear BK279;clear HB;have HO_5:=n0_;have HO285:=n1_;have BK279:=n2_;have HB:=n3_;clear n0_ n1_ n2_ n3_;(try clear hb);(try clear hb2);(try clear hk);(try clear hi);(try clear ho0)) | ((with_reducible refine gate_dst (N:=12) rfl ?_);refine box_event ?hg (N:=12) ?hd (cs:=#[.int .i64 0,.int .i64 0,.string (⟨#[]⟩ : ByteArray),.slice none 0 0]) (t:=40) ?hr ?_;(case hd => rfl);(case hg => rfl);(case hr => first | (go_simp;done) | (go_simp;rfl));intro gb287 hg w69 hbox hb;have n0_:=Aside0.mk (Kd.R_below (zR0 HO_5.out) hb);have n1_:=Aside0.mk (Kd.R_below (zR0 HO285.out) hb);have n2_:=Aside0.mk (zB0 BK279.out hb);have n3_:=Aside0.mk (zS0 HB.out hb);have n4_:=Aside0.mk (hbox);have n5_:=Aside0.mk ((by rw [hg];exact (zZ0 HB.out) : w.heap.size ≤ gb287));have n6_:=Aside0.mk ((by rw [hg];exact (zZ0 HB.out) : w.heap.size ≤ gb287));have n7_:=Aside0.mk ((zL0 hg BK279.out : gb279 ≠ gb287));have n8_:=Aside0.mk ((zG0 hg BK279.out : gb287 ≠ gb279));clear HO_5;clear HO285;clear BK279;clear HB;have HO_5:=n0_;have HO285:=n1_;have BK279:=n2_;have HB:=n3_;have BK287:=n4_;have GW287:=n5_;have GE287:=n6_;have NB279_287:=n7_;have NB287_279:=n8_;clear n0_ n1_ n2_ n3_ n4_ n5_ n6_ n7_ n8_;clear hb hbox hg;have hnb70:=NB287_279.out;have hnc70:=NB279_287.out;have hcz71_0 : w69.cell? ⟨gb287,0,none⟩ = some (.int .i64 0):=(blk_cell BK287.out 0).trans rfl;have hcz71_1 : w69.cell? ⟨gb287,1,none⟩ = some (.int .i64 0):=(blk_cell BK287.out 1).trans rfl;have hcz71_2 : w69.cell? ⟨gb287,2,none⟩ = some (.string (⟨#[]⟩ : ByteArray)):=(blk_cell BK287.out 2).trans rfl;have hcz71_3 : w69.cell? ⟨gb287,3,none⟩ = some (.slice none 0 0):=(blk_cell BK287.out 3).trans rfl;have hfz71_0:=blk_frozen BK287.out 0;have hfz71_1:=blk_frozen BK287.out 1;have hfz71_2:=blk_frozen BK287.out 2;have hfz71_3:=blk_frozen BK287.out 3;obtain ⟨Ao72,co72,eo72⟩:=Kd.R_slice HO285.out;subst eo72;have hcz73_0 : w69.cell? ⟨gb279,0,none⟩ = some (.string ((rd_T42 l1 x48_3).f0)):=(blk_cell BK279.out 0).trans rfl;have hcz73_1 : w69.cell? ⟨gb279,1,none⟩ = some (.int .i64 ((rd_T42 l1 x48_3).f1.f0)):=(blk_cell BK279.out 1).trans rfl;have hcz73_2 : w69.cell? ⟨gb279,2,none⟩ = some (.int .i64 ((rd_T42 l1 x48_3).f1.f1)):=(blk_cell BK279.out 2).trans rfl;have hcz73_3 : w69.cell? ⟨gb279,3,none⟩ = some (.string ((rd_T42 l1 x48_3).f1.f2)):=(blk_cell BK279.out 3).trans rfl;have hcz73_4 : w69.cell? ⟨gb279,4,none⟩ = some (.slice A278_4 ((rd_T42 l1 x48_3).f1.f3).length c278_4):=(blk_cell BK279.out 4).trans rfl;have hfz73_0:=blk_frozen BK279.out 0;have hfz73_1:=blk_frozen BK279.out 1;have hfz73_2:=blk_frozen BK279.out 2;have hfz73_3:=blk_frozen BK279.out 3;have hfz73_4:=blk_frozen BK279.out 4) | ((with_reducible refine gate_callee (f:=21) rfl ?_);refine goesL_ (some 71) rfl rfl Try.func21 (by kernel_rfl) rfl #[.agg #[.int .i64 ((rd_T42 l1 x48_3).f1.f0),.int .i64 ((rd_T42 l1 x48_3).f1.f1),.string ((rd_T42 l1 x48_3).f1.f2),.slice A278_4 ((rd_T42 l1 x48_3).f1.f3).length c278_4]] rfl zM0 ?_;(with_reducible refine (impl_ValText.calls k3 ((rd_T42 l1 x48_3).f1.f0) ((rd_T42 l1 x48_3).f1.f1) ((rd_T42 l1 x48_3).f1.f2) _ _ ((rd_T42 l1 x48_3).f1.f3) t294 t295 _ ?side1 ?side2 A64.out).mono ?_);(case side1 => exact Kd.C_below HR278_4.out (by repeat (first | (with_reducible first | exact HB.out | apply below_alloc | apply pw_below_drewN | apply below_drew1 | refine below_set ?_ GE279.out | refine below_set ?_ GE287.out) | exact HB.out)));(case side2 => exact HC278_4.out);rintro e w74 ⟨rfl,hb⟩;refine ⟨_,rfl,?_⟩;have n0_:=Aside0.mk (Kd.R_below (by (with_reducible repeat (first | apply Kd.R_alloc | apply Kd.R_drewN | apply Kd.R_drew));exact (Kd.R_mono (Kd.R_far (p:=⟨gb287,3,none⟩) (Kd.R_far (p:=⟨gb287,2,none⟩) (Kd.R_far (p:=⟨gb287,1,none⟩) (Kd.R_far (p:=⟨gb287,0,none⟩) (Kd.R_types HO_5.out BK287.out (by decide)) (fun _ hk => hk.2) (.int .i64 t280)) (fun _ hk => hk.2) (.int .i64 t281)) (fun _ hk => hk.2) (.string t282)) (fun _ hk => hk.2) (.slice Ao72 t283.length co72)) (fun _ h_ => h_.1))) hb);have n1_:=Aside0.mk (Kd.R_below (by (with_reducible repeat (first | apply Kd.R_alloc | apply Kd.R_drewN | apply Kd.R_drew));exact (Kd.R_mono (Kd.R_far (p:=⟨gb287,3,none⟩) (Kd.R_far (p:=⟨gb287,2,none⟩) (Kd.R_far (p:=⟨gb287,1,none⟩) (Kd.R_far (p:=⟨gb287,0,none⟩) (Kd.R_types HO285.out BK287.out (by decide)) (fun _ hk => hk.2) (.int .i64 t280)) (fun _ hk => hk.2) (.int .i64 t281)) (fun _ hk => hk.2) (.string t282)) (fun _ hk => hk.2) (.slice Ao72 t283.length co72)) (fun _ h_ => h_.1))) hb);have n2_:=Aside0.mk (blk_below (g:=gb279) (o:=.cells #[.string ((rd_T42 l1 x48_3).f0),.int .i64 ((rd_T42 l1 x48_3).f1.f0),.int .i64 ((rd_T42 l1 x48_3).f1.f1),.string ((rd_T42 l1 x48_3).f1.f2),.slice A278_4 ((rd_T42 l1 x48_3).f1.f3).length c278_4] 42 (0,0)) (by (with_reducible repeat (first | refine blk_drewN ?_ _ | refine blk_drew ?_ | refine blk_alloc ?_ _));refine blk_far ?_ NB279_287.out _;(with_reducible repeat (first | refine blk_drewN ?_ _ | refine blk_drew ?_ | refine blk_alloc ?_ _));refine blk_far ?_ NB279_287.out _;(with_reducible repeat (first | refine blk_drewN ?_ _ | refine blk_drew ?_ | refine blk_alloc ?_ _));refine blk_far ?_ NB279_287.out _;(with_reducible repeat (first | refine blk_drewN ?_ _ | refine blk_drew ?_ | refine blk_alloc ?_ _));refine blk_far ?_ NB279_287.out _;(with_reducible repeat (first | refine blk_drewN ?_ _ | refine blk_drew ?_ | refine blk_alloc ?_ _));exact BK279.out) hb);have n3_:=Aside0.mk (blk_below (g:=gb287) (o:=.cells #[.int .i64 t280,.int .i64 t281,.string t282,.slice Ao72 t283.length co72] 40 (0,0)) (by (with_reducible repeat (first | refine blk_drewN ?_ _ | refine blk_drew ?_ | refine blk_alloc ?_ _));refine blk_put (cs:=#[.int .i64 t280,.int .i64 t281,.string t282,.slice none 0 0]) ?_ 3 _ rfl;(with_reducible repeat (first | refine blk_drewN ?_ _ | refine blk_drew ?_ | refine blk_alloc ?_ _));refine blk_put (cs:=#[.int .i64 t280,.int .i64 t281,.string (⟨#[]⟩ : ByteArray),.slice none 0 0]) ?_ 2 _ rfl;(with_reducible repeat (first | refine blk_drewN ?_ _ | refine blk_drew ?_ | refine blk_alloc ?_ _));refine blk_put (cs:=#[.int .i64 t280,.int .i64 0,.string (⟨#[]⟩ : ByteArray),.slice none 0 0]) ?_ 1 _ rfl;(with_reducible repeat (first | refine blk_drewN ?_ _ | refine blk_drew ?_ | refine blk_alloc ?_ _));refine blk_put (cs:=#[.int .i64 0,.int .i64 0,.string (⟨#[]⟩ : ByteArray),.slice none 0 0]) ?_ 0 _ rfl;(with_reducible repeat (first | refine blk_drewN ?_ _ | refine blk_drew ?_ | refine blk_alloc ?_ _));exact BK287.out) hb);have n4_:=Aside0.mk (zS0 HB.out hb);clear HO_5;clear HO285;clear BK279;clear BK287;clear HB;have HO_5:=n0_;have HO285:=n1_;have BK279:=n2_;have BK287:=n3_;have HB:=n4_;clear n0_ n1_ n2_ n3_ n4_;(try clear hb);(try clear hb2);(try clear hk);(try clear hi);have hcz75_0 : w74.cell? ⟨gb279,0,none⟩ = some (.string ((rd_T42 l1 x48_3).f0)):=(blk_cell BK279.out 0).trans rfl;have hcz75_1 : w74.cell? ⟨gb279,1,none⟩ = some (.int .i64 ((rd_T42 l1 x48_3).f1.f0)):=(blk_cell BK279.out 1).trans rfl;have hcz75_2 : w74.cell? ⟨gb279,2,none⟩ = some (.int .i64 ((rd_T42 l1 x48_3).f1.f1)):=(blk_cell BK279.out 2).trans rfl;have hcz75_3 : w74.cell? ⟨gb279,3,none⟩ = some (.string ((rd_T42 l1 x48_3).f1.f2)):=(blk_cell BK279.out 3).trans rfl;have hcz75_4 : w74.cell? ⟨gb279,4,none⟩ = some (.slice A278_4 ((rd_T42 l1 x48_3).f1.f3).length c278_4):=(blk_cell BK279.out 4).trans rfl;have hfz75_0:=blk_frozen BK279.out 0;have hfz75_1:=blk_frozen BK279.out 1;have hfz75_2:=blk_frozen BK279.out 2;have hfz75_3:=blk_frozen BK279.out 3;have hfz75_4:=blk_frozen BK279.out 4) | ((with_reducible refine gate_builtin (b:=.append) (xs:=#[.tmp 74,.tmp 79]) rfl ?_);at_builtin;refine Kd.R_append k44 (w0:=w) w.heap.size rfl (.tmp 74) (.tmp 79) 24 44 (.agg #[(.string ⟨#[]⟩),(.string ⟨#[]⟩),(.bool false)]) 40 rfl Try.underlying24 info44 rfl (by decide) (by omega) u5 x5_3 (⟨(rd_T42 l1 x48_3).f0,t294,false⟩ : S44) [.string ((rd_T42 l1 x48_3).f0),.string t294,.bool false] (fun _ => True) (fun _ => False) rfl rfl ?aP (fun _ hk => hk.elim) ?aF ?aO ?aB ?aS ?aL ?_;(case aP => exact k44_mkM _ _ _ (⟨(rd_T42 l1 x48_3).f0,t294,false⟩ : S44));(case aB => exact (by repeat (first | (with_reducible first | exact HB.out | apply below_alloc | apply pw_below_drewN | apply below_drew1 | refine below_set ?_ GE279.out | refine below_set ?_ GE287.out) | exact HB.out)));(case aF => exact (fun _ _ => trivial));(case aO => exact (zR0 HO_5.out));(case aS => exact (zZ0 HB.out));(case aL => have:=LMc65.out;omega);intro v297 w76 ho hb hg hat;rw [← Ny296.out] at ho;have n0_:=Aside0.mk (blk_grown (g:=gb279) (o:=.cells #[.string ((rd_T42 l1 x48_3).f0),.int .i64 ((rd_T42 l1 x48_3).f1.f0),.int .i64 ((rd_T42 l1 x48_3).f1.f1),.string ((rd_T42 l1 x48_3).f1.f2),.slice A278_4 ((rd_T42 l1 x48_3).f1.f3).length c278_4] 42 (0,0)) (zK0 BK279.out) hg (Kd.R_ne HO_5.out BK279.out (by decide)));have n1_:=Aside0.mk (Kd.R_over' (zR0 HO285.out) (Kd.R_typed (zR0 HO_5.out)) (by decide) hg);have n2_:=Aside0.mk (blk_grown (g:=gb287) (o:=.cells #[.int .i64 t280,.int .i64 t281,.string t282,.slice Ao72 t283.length co72] 40 (0,0)) (zK0 BK287.out) hg (Kd.R_ne HO_5.out BK287.out (by decide)));have n3_:=Aside0.mk (hb);have n4_:=Aside0.mk (ho);clear BK279;clear HO285;clear BK287;clear HB;clear HO_5;have BK279:=n0_;have HO285:=n1_;have BK287:=n2_;have HB:=n3_;have HO298:=n4_;clear n0_ n1_ n2_ n3_ n4_;clear ho hb hg hat))
              go_roundg k3
              case measure => have:=HJ2.out;have:=HK2.out;have:=HK3.out;omega
              case rel => exact ⟨(y296),(wrap64 (x48_3 + 1)),(by first | rfl | (simp;done) | (simp [*];done)),H',⟨by have:=HJ2.out;have:=HK2.out;have:=HK3.out;omega⟩,⟨by (with_reducible repeat (first | apply Kd.R_alloc | apply Kd.R_drewN | apply Kd.R_drew));exact HO298.out⟩,⟨by repeat (first | (with_reducible first | exact HB.out | apply below_alloc | apply pw_below_drewN | apply below_drew1 | refine below_set ?_ GE279.out | refine below_set ?_ GE287.out) | exact HB.out)⟩⟩
             ·rw [if_neg c65] at H
              exact absurd H (by simp)
           ·rw [if_neg c35] at H
            exact absurd H (by simp)
          ·rw [if_neg c34] at H
           exact absurd H (by simp)
         ·rw [if_neg c33] at H
          have c33b0 : decide (x48_3 < (l1.length : Int)) = false:=decide_eq_false c33
          clear c33
          replace H:=Option.bind_eq_some_iff.mp H
          obtain ⟨t277,A770,H⟩:=H
          replace H : (some t277) = some r:=H
          have A77:=Aside0.mk A770
          clear A770
          obtain rfl:=Option.some.inj H
          obtain ⟨Ao78,co78,eo78⟩:=Kd.R_slice HO_5.out
          subst eo78
          go_wp2_with (first | ((with_reducible refine gate_callee (f:=22) rfl ?_);refine goesL_ (some 83) rfl rfl Try.func22 (by kernel_rfl) rfl #[.slice Ao78 x5_3.length co78,.func (.func 23) #[] #[]] rfl zM0 ?_;(with_reducible refine (slices_SortFunc_c.calls (fun k_ => some k_ = (.slice Ao78 x5_3.length co78 : Value).ownBlock) (.slice Ao78 x5_3.length co78) x5_3 t277 w _ ?side1 ?side2 A77.out).mono ?_);(case side1 => repeat (first | (with_reducible first | exact HB.out | apply below_alloc | apply pw_below_drewN | apply below_drew1) | exact HB.out));(case side2 => exact Kd.R_tight rfl HO_5.out);rintro e w79 ⟨rfl,hy0,hb,hkp⟩;refine ⟨_,rfl,?_⟩;have n0_:=Aside0.mk (Kd.R_reok rfl hy0 (fun k_ e_ => HO_5.out.1 k_ e_));have n1_:=Aside0.mk (hb);clear HO_5;clear HB;have HO_5:=n0_;have HB:=n1_;clear n0_ n1_;(try clear hb);(try clear hkp);(try clear hy0)))
          go_ret
          exact ⟨_,by first | rfl | (simp [errW_none,errW_some] <;> rfl) | (simp [*,errW_none,errW_some] <;> rfl),by (with_reducible repeat (first | apply Kd.R_alloc | apply Kd.R_drewN | apply Kd.R_drew));exact HO_5.out,by repeat (first | (with_reducible first | exact HB.out | apply below_alloc | apply pw_below_drewN | apply below_drew1) | exact HB.out)⟩

/-! ### laws_eqChange: function 25 -/
def laws_eqChange.f (a0_0 : ByteArray) (a0_1 : ByteArray) (a0_2 : Bool) (a1_0 : ByteArray) (a1_1 : ByteArray) (a1_2 : Bool) : Option (Bool):=if a0_0.toList = a1_0.toList then (if a0_1.toList = a1_1.toList then (if (a0_2 != a1_2) = true then (some false) else (some true)) else (some false)) else (some false)
set_option maxHeartbeats 8000000 in
set_option maxRecDepth 100000 in
theorem laws_eqChange.calls (a0_0 : ByteArray) (a0_1 : ByteArray) (a0_2 : Bool) (a1_0 : ByteArray) (a1_1 : ByteArray) (a1_2 : Bool) (r : Bool) (w : World) (h : laws_eqChange.f a0_0 a0_1 a0_2 a1_0 a1_1 a1_2 = some r) :
  Calls Try.prog 25 #[.agg #[.string a0_0,.string a0_1,.bool a0_2],.agg #[.string a1_0,.string a1_1,.bool a1_2]] w fun e w' => e = .returned (.bool r) ∧ Below w.heap.size w w':=by
 have hu44:=Try.underlying44
 have HB:=Aside0.mk (Below.refl w.heap.size w)
 have H : (if a0_0.toList = a1_0.toList then (if a0_1.toList = a1_1.toList then (if (a0_2 != a1_2) = true then (some false) else (some true)) else (some false)) else (some false)) = some r:=h
 clear h
 by_cases c3 : a0_0.toList = a1_0.toList
 ·rw [if_pos c3] at H
  have c3b0 : (a0_0.toList == a1_0.toList) = true:=beq_iff_eq.mpr c3
  have c3b1 : (a0_0.toList != a1_0.toList) = false:=bne_eq_false_iff_eq.mpr c3
  clear c3
  by_cases c4 : a0_1.toList = a1_1.toList
  ·rw [if_pos c4] at H
   have c4b0 : (a0_1.toList == a1_1.toList) = true:=beq_iff_eq.mpr c4
   have c4b1 : (a0_1.toList != a1_1.toList) = false:=bne_eq_false_iff_eq.mpr c4
   clear c4
   by_cases c5 : (a0_2 != a1_2) = true
   ·rw [if_pos c5] at H
    have c5b0 : (a0_2 != a1_2) = true:=c5
    (try (have c5b1 : decide (a0_2 = a1_2) = false:=by simpa using c5))
    (try (have c5b2 : (a0_2 == a1_2) = false:=by simpa using c5))
    (try (have c5b3 : ¬ (a0_2 = a1_2):=by simpa using c5))
    clear c5
    obtain rfl:=Option.some.inj H
    go_enter Try.func25,Try.ntmps25
    go_wp2_with (first | ((with_reducible refine gate_dst (N:=2) rfl ?_);refine box_event ?hg (N:=2) ?hd (cs:=#[.string a0_0,.string a0_1,.bool a0_2]) (t:=44) ?hr ?_;(case hd => rfl);(case hg => rfl);(case hr => first | (go_simp;done) | (go_simp;rfl));intro gb299 hg w6 hbox hb;have n0_:=Aside0.mk (zS0 HB.out hb);have n1_:=Aside0.mk (hbox);have n2_:=Aside0.mk ((by rw [hg];exact (zZ0 HB.out) : w.heap.size ≤ gb299));have n3_:=Aside0.mk ((by rw [hg];exact (zZ0 HB.out) : w.heap.size ≤ gb299));clear HB;have HB:=n0_;have BK299:=n1_;have GW299:=n2_;have GE299:=n3_;clear n0_ n1_ n2_ n3_;clear hb hbox hg) | ((with_reducible refine gate_dst (N:=3) rfl ?_);refine box_event ?hg (N:=3) ?hd (cs:=#[.string a1_0,.string a1_1,.bool a1_2]) (t:=44) ?hr ?_;(case hd => rfl);(case hg => rfl);(case hr => first | (go_simp;done) | (go_simp;rfl));intro gb300 hg w7 hbox hb;have n0_:=Aside0.mk (zB0 BK299.out hb);have n1_:=Aside0.mk (zS0 HB.out hb);have n2_:=Aside0.mk (hbox);have n3_:=Aside0.mk ((by rw [hg];exact (zZ0 HB.out) : w.heap.size ≤ gb300));have n4_:=Aside0.mk ((by rw [hg];exact (zZ0 HB.out) : w.heap.size ≤ gb300));have n5_:=Aside0.mk ((zL0 hg BK299.out : gb299 ≠ gb300));have n6_:=Aside0.mk ((zG0 hg BK299.out : gb300 ≠ gb299));clear BK299;clear HB;have BK299:=n0_;have HB:=n1_;have BK300:=n2_;have GW300:=n3_;have GE300:=n4_;have NB299_300:=n5_;have NB300_299:=n6_;clear n0_ n1_ n2_ n3_ n4_ n5_ n6_;clear hb hbox hg;have hnb8:=NB299_300.out;have hnc8:=NB300_299.out;have hcz9_0 : w7.cell? ⟨gb299,0,none⟩ = some (.string a0_0):=(blk_cell BK299.out 0).trans rfl;have hcz9_1 : w7.cell? ⟨gb299,1,none⟩ = some (.string a0_1):=(blk_cell BK299.out 1).trans rfl;have hcz9_2 : w7.cell? ⟨gb299,2,none⟩ = some (.bool a0_2):=(blk_cell BK299.out 2).trans rfl;have hfz9_0:=blk_frozen BK299.out 0;have hfz9_1:=blk_frozen BK299.out 1;have hfz9_2:=blk_frozen BK299.out 2;have hcz10_0 : w7.cell? ⟨gb300,0,none⟩ = some (.string a1_0):=(blk_cell BK300.out 0).trans rfl;have hcz10_1 : w7.cell? ⟨gb300,1,none⟩ = some (.string a1_1):=(blk_cell BK300.out 1).trans rfl;have hcz10_2 : w7.cell? ⟨gb300,2,none⟩ = some (.bool a1_2):=(blk_cell BK300.out 2).trans rfl;have hfz10_0:=blk_frozen BK300.out 0;have hfz10_1:=blk_frozen BK300.out 1;have hfz10_2:=blk_frozen BK300.out 2))
    go_ret
    exact ⟨by first | rfl | (simp [errW_none,errW_some] <;> rfl) | (simp [*,errW_none,errW_some] <;> rfl),by repeat (first | (with_reducible first | exact HB.out | apply below_alloc | apply pw_below_drewN | apply below_drew1 | refine below_set ?_ GE299.out | refine below_set ?_ GE300.out) | exact HB.out)⟩
   ·rw [if_neg c5] at H
    have c5b0 : (a0_2 != a1_2) = false:=by simpa using c5
    (try (have c5b1 : decide (a0_2 = a1_2) = true:=by simpa using c5))
    (try (have c5b2 : (a0_2 == a1_2) = true:=by simpa using c5))
    clear c5
    obtain rfl:=Option.some.inj H
    go_enter Try.func25,Try.ntmps25
    go_wp2_with (first | ((with_reducible refine gate_dst (N:=2) rfl ?_);refine box_event ?hg (N:=2) ?hd (cs:=#[.string a0_0,.string a0_1,.bool a0_2]) (t:=44) ?hr ?_;(case hd => rfl);(case hg => rfl);(case hr => first | (go_simp;done) | (go_simp;rfl));intro gb299 hg w11 hbox hb;have n0_:=Aside0.mk (zS0 HB.out hb);have n1_:=Aside0.mk (hbox);have n2_:=Aside0.mk ((by rw [hg];exact (zZ0 HB.out) : w.heap.size ≤ gb299));have n3_:=Aside0.mk ((by rw [hg];exact (zZ0 HB.out) : w.heap.size ≤ gb299));clear HB;have HB:=n0_;have BK299:=n1_;have GW299:=n2_;have GE299:=n3_;clear n0_ n1_ n2_ n3_;clear hb hbox hg) | ((with_reducible refine gate_dst (N:=3) rfl ?_);refine box_event ?hg (N:=3) ?hd (cs:=#[.string a1_0,.string a1_1,.bool a1_2]) (t:=44) ?hr ?_;(case hd => rfl);(case hg => rfl);(case hr => first | (go_simp;done) | (go_simp;rfl));intro gb300 hg w12 hbox hb;have n0_:=Aside0.mk (zB0 BK299.out hb);have n1_:=Aside0.mk (zS0 HB.out hb);have n2_:=Aside0.mk (hbox);have n3_:=Aside0.mk ((by rw [hg];exact (zZ0 HB.out) : w.heap.size ≤ gb300));have n4_:=Aside0.mk ((by rw [hg];exact (zZ0 HB.out) : w.heap.size ≤ gb300));have n5_:=Aside0.mk ((zL0 hg BK299.out : gb299 ≠ gb300));have n6_:=Aside0.mk ((zG0 hg BK299.out : gb300 ≠ gb299));clear BK299;clear HB;have BK299:=n0_;have HB:=n1_;have BK300:=n2_;have GW300:=n3_;have GE300:=n4_;have NB299_300:=n5_;have NB300_299:=n6_;clear n0_ n1_ n2_ n3_ n4_ n5_ n6_;clear hb hbox hg;have hnb13:=NB299_300.out;have hnc13:=NB300_299.out;have hcz14_0 : w12.cell? ⟨gb299,0,none⟩ = some (.string a0_0):=(blk_cell BK299.out 0).trans rfl;have hcz14_1 : w12.cell? ⟨gb299,1,none⟩ = some (.string a0_1):=(blk_cell BK299.out 1).trans rfl;have hcz14_2 : w12.cell? ⟨gb299,2,none⟩ = some (.bool a0_2):=(blk_cell BK299.out 2).trans rfl;have hfz14_0:=blk_frozen BK299.out 0;have hfz14_1:=blk_frozen BK299.out 1;have hfz14_2:=blk_frozen BK299.out 2;have hcz15_0 : w12.cell? ⟨gb300,0,none⟩ = some (.string a1_0):=(blk_cell BK300.out 0).trans rfl;have hcz15_1 : w12.cell? ⟨gb300,1,none⟩ = some (.string a1_1):=(blk_cell BK300.out 1).trans rfl;have hcz15_2 : w12.cell? ⟨gb300,2,none⟩ = some (.bool a1_2):=(blk_cell BK300.out 2).trans rfl;have hfz15_0:=blk_frozen BK300.out 0;have hfz15_1:=blk_frozen BK300.out 1;have hfz15_2:=blk_frozen BK300.out 2))
    go_ret
    exact ⟨by first | rfl | (simp [errW_none,errW_some] <;> rfl) | (simp [*,errW_none,errW_some] <;> rfl),by repeat (first | (with_reducible first | exact HB.out | apply below_alloc | apply pw_below_drewN | apply below_drew1 | refine below_set ?_ GE299.out | refine below_set ?_ GE300.out) | exact HB.out)⟩
  ·rw [if_neg c4] at H
   have c4b0 : (a0_1.toList == a1_1.toList) = false:=beq_eq_false_iff_ne.mpr c4
   have c4b1 : (a0_1.toList != a1_1.toList) = true:=bne_iff_ne.mpr c4
   obtain rfl:=Option.some.inj H
   go_enter Try.func25,Try.ntmps25
   go_wp2_with (first | ((with_reducible refine gate_dst (N:=2) rfl ?_);refine box_event ?hg (N:=2) ?hd (cs:=#[.string a0_0,.string a0_1,.bool a0_2]) (t:=44) ?hr ?_;(case hd => rfl);(case hg => rfl);(case hr => first | (go_simp;done) | (go_simp;rfl));intro gb299 hg w16 hbox hb;have n0_:=Aside0.mk (zS0 HB.out hb);have n1_:=Aside0.mk (hbox);have n2_:=Aside0.mk ((by rw [hg];exact (zZ0 HB.out) : w.heap.size ≤ gb299));have n3_:=Aside0.mk ((by rw [hg];exact (zZ0 HB.out) : w.heap.size ≤ gb299));clear HB;have HB:=n0_;have BK299:=n1_;have GW299:=n2_;have GE299:=n3_;clear n0_ n1_ n2_ n3_;clear hb hbox hg) | ((with_reducible refine gate_dst (N:=3) rfl ?_);refine box_event ?hg (N:=3) ?hd (cs:=#[.string a1_0,.string a1_1,.bool a1_2]) (t:=44) ?hr ?_;(case hd => rfl);(case hg => rfl);(case hr => first | (go_simp;done) | (go_simp;rfl));intro gb300 hg w17 hbox hb;have n0_:=Aside0.mk (zB0 BK299.out hb);have n1_:=Aside0.mk (zS0 HB.out hb);have n2_:=Aside0.mk (hbox);have n3_:=Aside0.mk ((by rw [hg];exact (zZ0 HB.out) : w.heap.size ≤ gb300));have n4_:=Aside0.mk ((by rw [hg];exact (zZ0 HB.out) : w.heap.size ≤ gb300));have n5_:=Aside0.mk ((zL0 hg BK299.out : gb299 ≠ gb300));have n6_:=Aside0.mk ((zG0 hg BK299.out : gb300 ≠ gb299));clear BK299;clear HB;have BK299:=n0_;have HB:=n1_;have BK300:=n2_;have GW300:=n3_;have GE300:=n4_;have NB299_300:=n5_;have NB300_299:=n6_;clear n0_ n1_ n2_ n3_ n4_ n5_ n6_;clear hb hbox hg;have hnb18:=NB299_300.out;have hnc18:=NB300_299.out;have hcz19_0 : w17.cell? ⟨gb299,0,none⟩ = some (.string a0_0):=(blk_cell BK299.out 0).trans rfl;have hcz19_1 : w17.cell? ⟨gb299,1,none⟩ = some (.string a0_1):=(blk_cell BK299.out 1).trans rfl;have hcz19_2 : w17.cell? ⟨gb299,2,none⟩ = some (.bool a0_2):=(blk_cell BK299.out 2).trans rfl;have hfz19_0:=blk_frozen BK299.out 0;have hfz19_1:=blk_frozen BK299.out 1;have hfz19_2:=blk_frozen BK299.out 2;have hcz20_0 : w17.cell? ⟨gb300,0,none⟩ = some (.string a1_0):=(blk_cell BK300.out 0).trans rfl;have hcz20_1 : w17.cell? ⟨gb300,1,none⟩ = some (.string a1_1):=(blk_cell BK300.out 1).trans rfl;have hcz20_2 : w17.cell? ⟨gb300,2,none⟩ = some (.bool a1_2):=(blk_cell BK300.out 2).trans rfl;have hfz20_0:=blk_frozen BK300.out 0;have hfz20_1:=blk_frozen BK300.out 1;have hfz20_2:=blk_frozen BK300.out 2))
   go_ret
   exact ⟨by first | rfl | (simp [errW_none,errW_some] <;> rfl) | (simp [*,errW_none,errW_some] <;> rfl),by repeat (first | (with_reducible first | exact HB.out | apply below_alloc | apply pw_below_drewN | apply below_drew1 | refine below_set ?_ GE299.out | refine below_set ?_ GE300.out) | exact HB.out)⟩
 ·rw [if_neg c3] at H
  have c3b0 : (a0_0.toList == a1_0.toList) = false:=beq_eq_false_iff_ne.mpr c3
  have c3b1 : (a0_0.toList != a1_0.toList) = true:=bne_iff_ne.mpr c3
  obtain rfl:=Option.some.inj H
  go_enter Try.func25,Try.ntmps25
  go_wp2_with (first | ((with_reducible refine gate_dst (N:=2) rfl ?_);refine box_event ?hg (N:=2) ?hd (cs:=#[.string a0_0,.string a0_1,.bool a0_2]) (t:=44) ?hr ?_;(case hd => rfl);(case hg => rfl);(case hr => first | (go_simp;done) | (go_simp;rfl));intro gb299 hg w21 hbox hb;have n0_:=Aside0.mk (zS0 HB.out hb);have n1_:=Aside0.mk (hbox);have n2_:=Aside0.mk ((by rw [hg];exact (zZ0 HB.out) : w.heap.size ≤ gb299));have n3_:=Aside0.mk ((by rw [hg];exact (zZ0 HB.out) : w.heap.size ≤ gb299));clear HB;have HB:=n0_;have BK299:=n1_;have GW299:=n2_;have GE299:=n3_;clear n0_ n1_ n2_ n3_;clear hb hbox hg) | ((with_reducible refine gate_dst (N:=3) rfl ?_);refine box_event ?hg (N:=3) ?hd (cs:=#[.string a1_0,.string a1_1,.bool a1_2]) (t:=44) ?hr ?_;(case hd => rfl);(case hg => rfl);(case hr => first | (go_simp;done) | (go_simp;rfl));intro gb300 hg w22 hbox hb;have n0_:=Aside0.mk (zB0 BK299.out hb);have n1_:=Aside0.mk (zS0 HB.out hb);have n2_:=Aside0.mk (hbox);have n3_:=Aside0.mk ((by rw [hg];exact (zZ0 HB.out) : w.heap.size ≤ gb300));have n4_:=Aside0.mk ((by rw [hg];exact (zZ0 HB.out) : w.heap.size ≤ gb300));have n5_:=Aside0.mk ((zL0 hg BK299.out : gb299 ≠ gb300));have n6_:=Aside0.mk ((zG0 hg BK299.out : gb300 ≠ gb299));clear BK299;clear HB;have BK299:=n0_;have HB:=n1_;have BK300:=n2_;have GW300:=n3_;have GE300:=n4_;have NB299_300:=n5_;have NB300_299:=n6_;clear n0_ n1_ n2_ n3_ n4_ n5_ n6_;clear hb hbox hg;have hnb23:=NB299_300.out;have hnc23:=NB300_299.out;have hcz24_0 : w22.cell? ⟨gb299,0,none⟩ = some (.string a0_0):=(blk_cell BK299.out 0).trans rfl;have hcz24_1 : w22.cell? ⟨gb299,1,none⟩ = some (.string a0_1):=(blk_cell BK299.out 1).trans rfl;have hcz24_2 : w22.cell? ⟨gb299,2,none⟩ = some (.bool a0_2):=(blk_cell BK299.out 2).trans rfl;have hfz24_0:=blk_frozen BK299.out 0;have hfz24_1:=blk_frozen BK299.out 1;have hfz24_2:=blk_frozen BK299.out 2;have hcz25_0 : w22.cell? ⟨gb300,0,none⟩ = some (.string a1_0):=(blk_cell BK300.out 0).trans rfl;have hcz25_1 : w22.cell? ⟨gb300,1,none⟩ = some (.string a1_1):=(blk_cell BK300.out 1).trans rfl;have hcz25_2 : w22.cell? ⟨gb300,2,none⟩ = some (.bool a1_2):=(blk_cell BK300.out 2).trans rfl;have hfz25_0:=blk_frozen BK300.out 0;have hfz25_1:=blk_frozen BK300.out 1;have hfz25_2:=blk_frozen BK300.out 2))
  go_ret
  exact ⟨by first | rfl | (simp [errW_none,errW_some] <;> rfl) | (simp [*,errW_none,errW_some] <;> rfl),by repeat (first | (with_reducible first | exact HB.out | apply below_alloc | apply pw_below_drewN | apply below_drew1 | refine below_set ?_ GE299.out | refine below_set ?_ GE300.out) | exact HB.out)⟩

end Go.Proofs.Ytlekhcopddajbaa.PFnExactDiffer
