/- Walks, turned from a print. -/
import Derived.Test.YtlekhcopddajbaaGreatDoorOFnExactSegmentsx0
import Derived.Test.YtlekhcopddajbaaGreatDoorOFnExactSegmentsx2
import Derived.Test.YtlekhcopddajbaaGreatDoorOFnExactSegmentsx3
import Derived.Test.YtlekhcopddajbaaGreatDoorOFnExactSegmentsx8
namespace Go.Proofs.YtlekhcopddajbaaGreatDoor.PFnExactSegments
open Go.RowKit Go.Proofs.YtlekhcopddajbaaGreatDoorW.PrintWords Go.Proofs.YtlekhcopddajbaaGreatDoorW.PrintLast Go.Proofs.YtlekhcopddajbaaGreatDoorW.PrintMore
attribute [local go_sem] max2_int min2_int max_two min_two max_three min_three max_four min_four
set_option linter.unusedVariables false
set_option linter.unusedSimpArgs false

/-! ### spec_Segments: function 5 -/
mutual
def spec_Segments.l0 : Nat → List Int → Int → Int → List (S46) → Option (List Int × Bool)
 | 0,_,_,_,_ => none
 | k + 1,x4,x5,x6,x273000 => if x6 ≤ 99 then ((spec_SegName.f k x6).bind fun t277 => ((spec_l03At.f k x273000 t277).bind fun t278 => (if t278 < 0 then (spec_Segments.l0 k x4 x5 (wrap64 (x6 + 1)) x273000) else (if 0 ≤ t278 then (if t278 < (x273000.length : Int) then ((spec_ReadSegment.f k x6 ((rd_T46 x273000 t278).f1)).bind fun bt280 => (if bt280.2.2.2 = true then (if bt280.1 > x5 then (spec_Segments.l0 k x4 bt280.1 (wrap64 (x6 + 1)) x273000) else (spec_Segments.l0 k x4 x5 (wrap64 (x6 + 1)) x273000)) else (spec_Segments.l0 k x4 x5 (wrap64 (x6 + 1)) x273000))) else (none)) else (none))))) else (spec_Segments.l1 k x4 x5 x273000)
def spec_Segments.l1 : Nat → List Int → Int → List (S46) → Option (List Int × Bool)
 | 0,_,_,_ => none
 | k + 1,x4,x12,x273000 => if x12 ≤ 99 then ((spec_SegName.f k x12).bind fun t286 => ((spec_l03At.f k x273000 t286).bind fun t287 => (if t287 < 0 then (spec_Segments.l1 k x4 (wrap64 (x12 + 1)) x273000) else (if 0 ≤ t287 then (if t287 < (x273000.length : Int) then ((spec_ReadSegment.f k x12 ((rd_T46 x273000 t287).f1)).bind fun bt289 => (if bt289.2.2.2 = true then (if x4.length < 17592186044416 then (spec_Segments.l1 k (x4 ++ [x12]) (wrap64 (x12 + 1)) x273000) else (none)) else (some ((([] : List Int)),false)))) else (none)) else (none))))) else (some (x4,decide ((x4.length : Int) > 0)))
end
def spec_Segments.f (k : Nat) (l0_0 : List (S46)) : Option (List Int × Bool):=(some (([] : List Int) : List Int)).bind fun y273 => ((spec_DiskOk.f k l0_0).bind fun t276 => (if t276 = true then (spec_Segments.l0 k y273 0 0 l0_0) else (some (y273,false))))
theorem spec_Segments.mono_l : ∀ k,(∀ y0 y1 y2 y3,LeO (spec_Segments.l0 k y0 y1 y2 y3) (spec_Segments.l0 (k + 1) y0 y1 y2 y3)) ∧ (∀ y0 y1 y2,LeO (spec_Segments.l1 k y0 y1 y2) (spec_Segments.l1 (k + 1) y0 y1 y2))
 | 0 => ⟨fun _ _ _ _ r h => by simp [spec_Segments.l0] at h,fun _ _ _ r h => by simp [spec_Segments.l1] at h⟩
 | k + 1 => by
  obtain ⟨ih0,ih1⟩:=spec_Segments.mono_l k
  refine ⟨?_,?_⟩
  intro y0 y1 y2 y3;unfold spec_Segments.l0;rotate_left
  intro y0 y1 y2;unfold spec_Segments.l1;rotate_left
  all_goals repeat' first
  | (with_reducible exact ih0 _ _ _ _)
  | (with_reducible exact ih1 _ _ _)
  | (with_reducible exact spec_DiskOk.mono _ _)
  | (with_reducible exact spec_ReadSegment.mono _ _ _)
  | (with_reducible exact spec_SegName.mono _ _)
  | (with_reducible exact spec_l03At.mono _ _ _)
  | (with_reducible exact LeO.refl _)
  | (with_reducible exact LeO.none _)
  | (with_reducible refine LeO.ite ?_ ?_)
  | (with_reducible refine LeO.bind ?_ (fun _ => ?_))
theorem spec_Segments.mono : ∀ a0 k,LeO (spec_Segments.f k a0) (spec_Segments.f (k + 1) a0):=by
 intro a0 k
 obtain ⟨ih0,ih1⟩:=spec_Segments.mono_l k
 unfold spec_Segments.f
 repeat' first
  | (with_reducible exact ih0 _ _ _ _)
  | (with_reducible exact ih1 _ _ _)
  | (with_reducible exact spec_DiskOk.mono _ _)
  | (with_reducible exact spec_ReadSegment.mono _ _ _)
  | (with_reducible exact spec_SegName.mono _ _)
  | (with_reducible exact spec_l03At.mono _ _ _)
  | (with_reducible exact LeO.refl _)
  | (with_reducible exact LeO.none _)
  | (with_reducible refine LeO.ite ?_ ?_)
  | (with_reducible refine LeO.bind ?_ (fun _ => ?_))
set_option maxHeartbeats 8000000 in
set_option maxRecDepth 100000 in
theorem spec_Segments.calls (k : Nat) (A0_0 : Option Addr) (c0_0 : Nat) (l0_0 : List (S46)) (r1 : List Int) (r2 : Bool) (w : World) (hr0_0 : Kd.C k46 w A0_0 l0_0.length l0_0) (hc0_0 : l0_0.length ≤ c0_0) (h : spec_Segments.f k l0_0 = some (r1,r2)) :
  Calls Tryz.prog 5 #[.agg #[.slice A0_0 l0_0.length c0_0]] w fun e w' => ∃ v0_ : Value,e = .returned (.tuple #[v0_,.bool r2]) ∧ Kd.R (Kd.int .i64) 3 w' w.heap.size (fun _ => True) v0_ r1 ∧ Below w.heap.size w w':=by
 have hu31:=Tryz.underlying31
 have HR0_0:=Aside0.mk hr0_0
 have HC0_0:=Aside0.mk hc0_0
 clear hr0_0 hc0_0
 have HB:=Aside0.mk (Below.refl w.heap.size w)
 have H : ((some (([] : List Int) : List Int)).bind fun y273 => ((spec_DiskOk.f k l0_0).bind fun t276 => (if t276 = true then (spec_Segments.l0 k y273 0 0 l0_0) else (some (y273,false))))) = some (r1,r2):=h
 clear h
 obtain ⟨y273,hy273⟩ : ∃ y_ : List Int,y_ = (([] : List Int)):=⟨_,rfl⟩
 replace H : ((spec_DiskOk.f k l0_0).bind fun t276 => (if t276 = true then (spec_Segments.l0 k y273 0 0 l0_0) else (some (y273,false)))) = some (r1,r2):=by first | (rw [hy273];with_reducible exact H) | (have H2_:=(Option.bind_some _ _).symm.trans H;rw [hy273];with_reducible exact H2_) | (have H2_:=(Option.bind_some _ _).symm.trans H;with_reducible exact H2_) | with_reducible exact H | (rw [hy273];exact H) | exact H
 have Ny273:=Aside0.mk hy273
 clear hy273
 obtain ⟨t276,A2,H⟩:=bX0 H
 by_cases c3 : t276 = true
 ·subst c3
  rw [if_pos rfl] at H
  have H':=Aside0.mk H
  clear H
  go_enter Tryz.func5,Tryz.ntmps5
  go_wp2_with (first | ((with_reducible refine gate_dst (N:=1) rfl ?_);refine zy0 (cs:=#[.slice A0_0 l0_0.length c0_0]) (t:=31) ?_;intro gb272 hg w4 hbox hb;have BK272:=Aside0.mk hbox;have GW272:=zz0 hg HB;have GE272:=zz0 hg HB;replace HB:=zs0 HB hb;clear hb hbox hg) | ((with_reducible refine gate_dst (N:=18) rfl ?_);refine Kd.R_lit (Kd.int .i64) _ 3 ?hg (N:=18) ?hd (xs:=([] : List Int)) (inner:=[]) (ok:=fun _ => True) (okp:=fun _ => True) ?hr ?hp (fun _ hk => hk) trivial (Below.refl _ _) (Nat.le_refl _) (by simp) ?_;(case hd => rfl);(case hg => rfl);(case hr => first | (go_simp;done) | (go_simp;rfl));(case hp => exact (Reps.none _ _));intro v274 w5 ho6 hb hg_ hnew_;clear hg_ hnew_;(first | rw [← Ny273.out] at ho6 | (simp only [Int.reduceToNat] at ho6;rw [← Ny273.out] at ho6));have HO275:=Aside0.mk (Kd.R_lower ho6 (zZ0 HB.out));replace BK272:=zb0 BK272 hb;replace HB:=zs0 HB hb;clear hb ho6;obtain ⟨hcz7_0,hfz7_0⟩:=zd01 BK272) | ((with_reducible refine gate_callee (f:=14) rfl ?_);refine goesL_ (some 20) rfl rfl Tryz.func14 (by kernel_rfl) rfl #[.agg #[.slice A0_0 l0_0.length c0_0]] rfl zM0 ?_;(with_reducible refine (spec_DiskOk.calls k _ _ l0_0 true _ ?side1 ?side2 A2.out).mono ?_);(case side1 => exact zA0 ((Kd.C_below HR0_0.out HB.out)));(case side2 => exact HC0_0.out);rintro e w8 ⟨rfl,hb⟩;refine ⟨_,rfl,?_⟩;replace HO275:=Aside0.mk (Kd.R_below (zR0 HO275.out) hb);replace BK272:=zb0 BK272 hb;replace HB:=zs0 HB hb;(try clear hb);(try clear hk)))
  go_loopg [5,6] k (fun kq v5 v6 w' => ∃ (x5_1 : Int) (x6_1 : Int),v5 = .int .i64 x5_1 ∧ v6 = .int .i64 x6_1 ∧ Aside0 (spec_Segments.l0 kq y273 x5_1 x6_1 l0_0 = some (r1,r2)) ∧ Aside0 (kq ≤ k) ∧ Aside0 (Kd.R (Kd.int .i64) 3 w' w.heap.size (fun _ => True) v274 y273) ∧ Aside0 (w'.heap[gb272]? = some (.cells #[(.slice A0_0 l0_0.length c0_0)] 31 (0,0))) ∧ Aside0 (Below w.heap.size w w'))
  case atStart => exact ⟨(0),(0),zE0,zE0,H',⟨Nat.le_refl _⟩,⟨zR0 HO275.out⟩,⟨zK0 BK272.out⟩,⟨zY0 HB.out⟩⟩
  case round =>
   clear H'
   try clear c3
   try clear hcz7_0
   try clear hfz7_0
   obtain ⟨x5_1,x6_1,rfl,rfl,HA,HK1,HO_4,BK272,HB⟩:=hrel
   cases gk with
   | zero => exact absurd HA.out (by simp [spec_Segments.l0])
   | succ k1 =>
    have H:=HA.out
    clear HA
    simp only [spec_Segments.l0] at H
    by_cases c9 : x6_1 ≤ 99
    ·rw [if_pos c9] at H
     have c9b0 : decide (x6_1 ≤ 99) = true:=decide_eq_true c9
     clear c9
     obtain ⟨t277,A10,H⟩:=bX0 H
     obtain ⟨t278,A11,H⟩:=bX0 H
     by_cases c12 : t278 < 0
     ·rw [if_pos c12] at H
      have c12b0 : decide (t278 < 0) = true:=decide_eq_true c12
      clear c12
      have H':=Aside0.mk H
      clear H
      try go_wp2
      replace HO_4:=Aside0.mk (Kd.R_drew HO_4.out)
      replace BK272:=Aside0.mk (blk_drew BK272.out)
      replace HB:=Aside0.mk (below_drew1 HB.out)
      refine start_ (n:=5) (S:=fun w' => w'.cell? ⟨gb272,0,none⟩ = some (.slice A0_0 l0_0.length c0_0)) (ds:=[]) (zF0 5 0) (by kernel_rfl) rfl rfl (zc00 BK272) (fun hHeld => ?_)
      generalize wr.drew = w13 at HO_4 BK272 HB hHeld ⊢
      refine pure_ (i:=1) (N:=some 28) (v:=?_) (a':=?_) (zF0 5 2) rfl rfl (by kernel_rfl) (fun _ _ _ h => h) (Or.inl ⟨by rfl,?_⟩) ?_ ?_;rotate_left
      ·intro w';go_simp;with_reducible rfl
      rotate_left
      ·simp only [Act.put,qA0,qB0,qC0,i64_w,i32_w];rfl
      refine take_ (i:=0) (N:=some 27) (v:=?_) (a':=?_) (zF0 5 3) rfl rfl (by kernel_rfl) (fun _ _ _ h => h) (Or.inl ⟨by rfl,?_⟩) hHeld ?_ ?_;rotate_left
      ·intro w' s0
       go_simp
       with_reducible rfl
      rotate_left
      ·simp only [Act.put,qA0,qB0,qC0,i64_w,i32_w];rfl
      refine one_ (i:=2) (N:=some 29) (zF0 5 7) rfl rfl (by kernel_rfl) (by decide) (fun K hK => ?_)
      refine goes_ Tryz.func16 (by kernel_rfl) rfl #[.int .i64 x6_1] (by rfl) rfl rfl zM0 ?_
      with_reducible refine (spec_SegName.calls k1 x6_1 t277 _ A10.out).mono ?_
      rintro e w14 ⟨rfl,hb⟩
      refine ⟨_,rfl,?_⟩
      replace HO_4:=Aside0.mk (Kd.R_below (zR0 HO_4.out) hb)
      replace BK272:=zb0 BK272 hb
      replace HB:=zs0 HB hb
      (try clear hb)
      (try clear hb2)
      (try clear hk)
      (try clear hi)
      refine hK.out _ _ (zc00 BK272) (fun hHeld => ?_)
      clear hK K
      refine norm_ (a':=?_) ?_ ?_;rotate_left
      ·show Act.put _ (some 29) _ = _;simp only [Act.put,qA0,qB0,qC0,i64_w,i32_w];rfl
      refine one_ (i:=3) (N:=some 30) (zF0 5 15) rfl rfl (by kernel_rfl) (by decide) (fun K hK => ?_)
      refine goes_ Tryz.func15 (by kernel_rfl) rfl #[.agg #[.slice A0_0 l0_0.length c0_0],.string t277] (by rfl) rfl rfl zM0 ?_
      with_reducible refine (spec_l03At.calls k1 _ _ l0_0 t277 t278 _ ?side1 ?side2 A11.out).mono ?_
      (case side1 => exact zA0 ((Kd.C_below HR0_0.out HB.out)))
      (case side2 => exact HC0_0.out)
      rintro e w15 ⟨rfl,hb⟩
      refine ⟨_,rfl,?_⟩
      replace HO_4:=Aside0.mk (Kd.R_below (zR0 HO_4.out) hb)
      replace BK272:=zb0 BK272 hb
      replace HB:=zs0 HB hb
      (try clear hb)
      (try clear hb2)
      (try clear hk)
      (try clear hi)
      refine hK.out _ _ (zc00 BK272) (fun hHeld => ?_)
      clear hK K
      refine norm_ (a':=?_) ?_ ?_;rotate_left
      ·show Act.put _ (some 30) _ = _;simp only [Act.put,qA0,qB0,qC0,i64_w,i32_w];rfl
      refine pure_ (i:=4) (N:=some 7) (v:=?_) (a':=?_) (zF0 5 31) rfl rfl (by kernel_rfl) (fun _ _ _ h => h) (Or.inl ⟨by rfl,?_⟩) ?_ ?_;rotate_left
      ·intro w';go_simp;with_reducible rfl
      rotate_left
      ·simp only [Act.put,qA0,qB0,qC0,i64_w,i32_w];rfl
      refine done_ (by kernel_rfl) ?_
      try go_wp2
      go_roundg k1
      case measure => have:=HK1.out;omega
      case rel => exact ⟨(x5_1),(wrap64 (x6_1 + 1)),zE0,zE0,H',⟨by have:=HK1.out;omega⟩,⟨zR0 HO_4.out⟩,⟨zK0 BK272.out⟩,⟨zY0 HB.out⟩⟩
     ·rw [if_neg c12] at H
      have c12b0 : decide (t278 < 0) = false:=decide_eq_false c12
      clear c12
      by_cases c16 : 0 ≤ t278
      ·rw [if_pos c16] at H
       have c16b0 : decide (0 ≤ t278) = true:=decide_eq_true c16
       clear c16
       by_cases c17 : t278 < (l0_0.length : Int)
       ·rw [if_pos c17] at H
        have c17b0 : decide (t278 < (l0_0.length : Int)) = true:=decide_eq_true c17
        clear c17
        obtain ⟨⟨t280,t281,t282,t283⟩,A18,H⟩:=bX0 H
        dsimp only at H
        by_cases c19 : t283 = true
        ·subst c19
         rw [if_pos rfl] at H
         by_cases c20 : t280 > x5_1
         ·rw [if_pos c20] at H
          have c20b0 : decide (x5_1 < t280) = true:=decide_eq_true c20
          clear c20
          have H':=Aside0.mk H
          clear H
          try go_wp2
          replace HO_4:=Aside0.mk (Kd.R_drew HO_4.out)
          replace BK272:=Aside0.mk (blk_drew BK272.out)
          replace HB:=Aside0.mk (below_drew1 HB.out)
          refine start_ (n:=5) (S:=fun w' => w'.cell? ⟨gb272,0,none⟩ = some (.slice A0_0 l0_0.length c0_0)) (ds:=[]) (zF0 5 0) (by kernel_rfl) rfl rfl (zc00 BK272) (fun hHeld => ?_)
          generalize wr.drew = w21 at HO_4 BK272 HB hHeld ⊢
          refine pure_ (i:=1) (N:=some 28) (v:=?_) (a':=?_) (zF0 5 2) rfl rfl (by kernel_rfl) (fun _ _ _ h => h) (Or.inl ⟨by rfl,?_⟩) ?_ ?_;rotate_left
          ·intro w';go_simp;with_reducible rfl
          rotate_left
          ·simp only [Act.put,qA0,qB0,qC0,i64_w,i32_w];rfl
          refine take_ (i:=0) (N:=some 27) (v:=?_) (a':=?_) (zF0 5 3) rfl rfl (by kernel_rfl) (fun _ _ _ h => h) (Or.inl ⟨by rfl,?_⟩) hHeld ?_ ?_;rotate_left
          ·intro w' s0
           go_simp
           with_reducible rfl
          rotate_left
          ·simp only [Act.put,qA0,qB0,qC0,i64_w,i32_w];rfl
          refine one_ (i:=2) (N:=some 29) (zF0 5 7) rfl rfl (by kernel_rfl) (by decide) (fun K hK => ?_)
          refine goes_ Tryz.func16 (by kernel_rfl) rfl #[.int .i64 x6_1] (by rfl) rfl rfl zM0 ?_
          with_reducible refine (spec_SegName.calls k1 x6_1 t277 _ A10.out).mono ?_
          rintro e w22 ⟨rfl,hb⟩
          refine ⟨_,rfl,?_⟩
          replace HO_4:=Aside0.mk (Kd.R_below (zR0 HO_4.out) hb)
          replace BK272:=zb0 BK272 hb
          replace HB:=zs0 HB hb
          (try clear hb)
          (try clear hb2)
          (try clear hk)
          (try clear hi)
          refine hK.out _ _ (zc00 BK272) (fun hHeld => ?_)
          clear hK K
          refine norm_ (a':=?_) ?_ ?_;rotate_left
          ·show Act.put _ (some 29) _ = _;simp only [Act.put,qA0,qB0,qC0,i64_w,i32_w];rfl
          refine one_ (i:=3) (N:=some 30) (zF0 5 15) rfl rfl (by kernel_rfl) (by decide) (fun K hK => ?_)
          refine goes_ Tryz.func15 (by kernel_rfl) rfl #[.agg #[.slice A0_0 l0_0.length c0_0],.string t277] (by rfl) rfl rfl zM0 ?_
          with_reducible refine (spec_l03At.calls k1 _ _ l0_0 t277 t278 _ ?side1 ?side2 A11.out).mono ?_
          (case side1 => exact zA0 ((Kd.C_below HR0_0.out HB.out)))
          (case side2 => exact HC0_0.out)
          rintro e w23 ⟨rfl,hb⟩
          refine ⟨_,rfl,?_⟩
          replace HO_4:=Aside0.mk (Kd.R_below (zR0 HO_4.out) hb)
          replace BK272:=zb0 BK272 hb
          replace HB:=zs0 HB hb
          (try clear hb)
          (try clear hb2)
          (try clear hk)
          (try clear hi)
          refine hK.out _ _ (zc00 BK272) (fun hHeld => ?_)
          clear hK K
          refine norm_ (a':=?_) ?_ ?_;rotate_left
          ·show Act.put _ (some 30) _ = _;simp only [Act.put,qA0,qB0,qC0,i64_w,i32_w];rfl
          refine pure_ (i:=4) (N:=some 7) (v:=?_) (a':=?_) (zF0 5 31) rfl rfl (by kernel_rfl) (fun _ _ _ h => h) (Or.inl ⟨by rfl,?_⟩) ?_ ?_;rotate_left
          ·intro w';go_simp;with_reducible rfl
          rotate_left
          ·simp only [Act.put,qA0,qB0,qC0,i64_w,i32_w];rfl
          refine done_ (by kernel_rfl) ?_
          obtain ⟨_,_⟩:=zd01 BK272
          have p279 : 0 ≤ (t278 : Int):=zD0
          have q279 : t278 < (l0_0.length : Int):=zD0
          obtain ⟨ad279,e279,hx279_0,hx279_1,hx279_2⟩:=at_T46 HR0_0.out t278 p279 q279
          cases e279
          replace hx279_0:=zx0 HB hx279_0
          replace hx279_1:=zx0 HB hx279_1
          replace hx279_2:=zx0 HB hx279_2
          replace p279:=eq_true p279
          replace q279:=eq_true q279
          try go_wp2_with (first | ((with_reducible refine gate_callee (f:=17) rfl ?_);refine goesL_ (some 41) rfl rfl Tryz.func17 (by kernel_rfl) rfl #[.int .i64 x6_1,.string ((rd_T46 l0_0 t278).f1)] rfl zM0 ?_;(with_reducible refine (spec_ReadSegment.calls k1 x6_1 ((rd_T46 l0_0 t278).f1) t280 t281 t282 true _ A18.out).mono ?_);rintro e w25 ⟨v284,rfl,ho0,hb⟩;refine ⟨_,rfl,?_⟩;replace HO_4:=Aside0.mk (Kd.R_below (zR0 HO_4.out) hb);have HO285:=Aside0.mk (Kd.S_lower ho0 (zZ0 HB.out));replace BK272:=zb0 BK272 hb;replace HB:=zs0 HB hb;(try clear hb);(try clear ho0)))
          go_roundg k1
          case measure => have:=HK1.out;omega
          case rel => exact ⟨(t280),(wrap64 (x6_1 + 1)),zE0,zE0,H',⟨by have:=HK1.out;omega⟩,⟨zR0 HO_4.out⟩,⟨zK0 BK272.out⟩,⟨zY0 HB.out⟩⟩
         ·rw [if_neg c20] at H
          have c20b0 : decide (x5_1 < t280) = false:=decide_eq_false c20
          clear c20
          have H':=Aside0.mk H
          clear H
          try go_wp2
          replace HO_4:=Aside0.mk (Kd.R_drew HO_4.out)
          replace BK272:=Aside0.mk (blk_drew BK272.out)
          replace HB:=Aside0.mk (below_drew1 HB.out)
          refine start_ (n:=5) (S:=fun w' => w'.cell? ⟨gb272,0,none⟩ = some (.slice A0_0 l0_0.length c0_0)) (ds:=[]) (zF0 5 0) (by kernel_rfl) rfl rfl (zc00 BK272) (fun hHeld => ?_)
          generalize wr.drew = w26 at HO_4 BK272 HB hHeld ⊢
          refine pure_ (i:=1) (N:=some 28) (v:=?_) (a':=?_) (zF0 5 2) rfl rfl (by kernel_rfl) (fun _ _ _ h => h) (Or.inl ⟨by rfl,?_⟩) ?_ ?_;rotate_left
          ·intro w';go_simp;with_reducible rfl
          rotate_left
          ·simp only [Act.put,qA0,qB0,qC0,i64_w,i32_w];rfl
          refine take_ (i:=0) (N:=some 27) (v:=?_) (a':=?_) (zF0 5 3) rfl rfl (by kernel_rfl) (fun _ _ _ h => h) (Or.inl ⟨by rfl,?_⟩) hHeld ?_ ?_;rotate_left
          ·intro w' s0
           go_simp
           with_reducible rfl
          rotate_left
          ·simp only [Act.put,qA0,qB0,qC0,i64_w,i32_w];rfl
          refine one_ (i:=2) (N:=some 29) (zF0 5 7) rfl rfl (by kernel_rfl) (by decide) (fun K hK => ?_)
          refine goes_ Tryz.func16 (by kernel_rfl) rfl #[.int .i64 x6_1] (by rfl) rfl rfl zM0 ?_
          with_reducible refine (spec_SegName.calls k1 x6_1 t277 _ A10.out).mono ?_
          rintro e w27 ⟨rfl,hb⟩
          refine ⟨_,rfl,?_⟩
          replace HO_4:=Aside0.mk (Kd.R_below (zR0 HO_4.out) hb)
          replace BK272:=zb0 BK272 hb
          replace HB:=zs0 HB hb
          (try clear hb)
          (try clear hb2)
          (try clear hk)
          (try clear hi)
          refine hK.out _ _ (zc00 BK272) (fun hHeld => ?_)
          clear hK K
          refine norm_ (a':=?_) ?_ ?_;rotate_left
          ·show Act.put _ (some 29) _ = _;simp only [Act.put,qA0,qB0,qC0,i64_w,i32_w];rfl
          refine one_ (i:=3) (N:=some 30) (zF0 5 15) rfl rfl (by kernel_rfl) (by decide) (fun K hK => ?_)
          refine goes_ Tryz.func15 (by kernel_rfl) rfl #[.agg #[.slice A0_0 l0_0.length c0_0],.string t277] (by rfl) rfl rfl zM0 ?_
          with_reducible refine (spec_l03At.calls k1 _ _ l0_0 t277 t278 _ ?side1 ?side2 A11.out).mono ?_
          (case side1 => exact zA0 ((Kd.C_below HR0_0.out HB.out)))
          (case side2 => exact HC0_0.out)
          rintro e w28 ⟨rfl,hb⟩
          refine ⟨_,rfl,?_⟩
          replace HO_4:=Aside0.mk (Kd.R_below (zR0 HO_4.out) hb)
          replace BK272:=zb0 BK272 hb
          replace HB:=zs0 HB hb
          (try clear hb)
          (try clear hb2)
          (try clear hk)
          (try clear hi)
          refine hK.out _ _ (zc00 BK272) (fun hHeld => ?_)
          clear hK K
          refine norm_ (a':=?_) ?_ ?_;rotate_left
          ·show Act.put _ (some 30) _ = _;simp only [Act.put,qA0,qB0,qC0,i64_w,i32_w];rfl
          refine pure_ (i:=4) (N:=some 7) (v:=?_) (a':=?_) (zF0 5 31) rfl rfl (by kernel_rfl) (fun _ _ _ h => h) (Or.inl ⟨by rfl,?_⟩) ?_ ?_;rotate_left
          ·intro w';go_simp;with_reducible rfl
          rotate_left
          ·simp only [Act.put,qA0,qB0,qC0,i64_w,i32_w];rfl
          refine done_ (by kernel_rfl) ?_
          obtain ⟨_,_⟩:=zd01 BK272
          have p279 : 0 ≤ (t278 : Int):=zD0
          have q279 : t278 < (l0_0.length : Int):=zD0
          obtain ⟨ad279,e279,hx279_0,hx279_1,hx279_2⟩:=at_T46 HR0_0.out t278 p279 q279
          cases e279
          replace hx279_0:=zx0 HB hx279_0
          replace hx279_1:=zx0 HB hx279_1
          replace hx279_2:=zx0 HB hx279_2
          replace p279:=eq_true p279
          replace q279:=eq_true q279
          try go_wp2_with (first | ((with_reducible refine gate_callee (f:=17) rfl ?_);refine goesL_ (some 41) rfl rfl Tryz.func17 (by kernel_rfl) rfl #[.int .i64 x6_1,.string ((rd_T46 l0_0 t278).f1)] rfl zM0 ?_;(with_reducible refine (spec_ReadSegment.calls k1 x6_1 ((rd_T46 l0_0 t278).f1) t280 t281 t282 true _ A18.out).mono ?_);rintro e w30 ⟨v284,rfl,ho0,hb⟩;refine ⟨_,rfl,?_⟩;replace HO_4:=Aside0.mk (Kd.R_below (zR0 HO_4.out) hb);have HO285:=Aside0.mk (Kd.S_lower ho0 (zZ0 HB.out));replace BK272:=zb0 BK272 hb;replace HB:=zs0 HB hb;(try clear hb);(try clear ho0)))
          go_roundg k1
          case measure => have:=HK1.out;omega
          case rel => exact ⟨(x5_1),(wrap64 (x6_1 + 1)),zE0,zE0,H',⟨by have:=HK1.out;omega⟩,⟨zR0 HO_4.out⟩,⟨zK0 BK272.out⟩,⟨zY0 HB.out⟩⟩
        ·replace c19:=Bool.eq_false_iff.mpr c19
         subst c19
         rw [if_neg (show ¬ (false = true) by decide)] at H
         have H':=Aside0.mk H
         clear H
         try go_wp2
         replace HO_4:=Aside0.mk (Kd.R_drew HO_4.out)
         replace BK272:=Aside0.mk (blk_drew BK272.out)
         replace HB:=Aside0.mk (below_drew1 HB.out)
         refine start_ (n:=5) (S:=fun w' => w'.cell? ⟨gb272,0,none⟩ = some (.slice A0_0 l0_0.length c0_0)) (ds:=[]) (zF0 5 0) (by kernel_rfl) rfl rfl (zc00 BK272) (fun hHeld => ?_)
         generalize wr.drew = w31 at HO_4 BK272 HB hHeld ⊢
         refine pure_ (i:=1) (N:=some 28) (v:=?_) (a':=?_) (zF0 5 2) rfl rfl (by kernel_rfl) (fun _ _ _ h => h) (Or.inl ⟨by rfl,?_⟩) ?_ ?_;rotate_left
         ·intro w';go_simp;with_reducible rfl
         rotate_left
         ·simp only [Act.put,qA0,qB0,qC0,i64_w,i32_w];rfl
         refine take_ (i:=0) (N:=some 27) (v:=?_) (a':=?_) (zF0 5 3) rfl rfl (by kernel_rfl) (fun _ _ _ h => h) (Or.inl ⟨by rfl,?_⟩) hHeld ?_ ?_;rotate_left
         ·intro w' s0
          go_simp
          with_reducible rfl
         rotate_left
         ·simp only [Act.put,qA0,qB0,qC0,i64_w,i32_w];rfl
         refine one_ (i:=2) (N:=some 29) (zF0 5 7) rfl rfl (by kernel_rfl) (by decide) (fun K hK => ?_)
         refine goes_ Tryz.func16 (by kernel_rfl) rfl #[.int .i64 x6_1] (by rfl) rfl rfl zM0 ?_
         with_reducible refine (spec_SegName.calls k1 x6_1 t277 _ A10.out).mono ?_
         rintro e w32 ⟨rfl,hb⟩
         refine ⟨_,rfl,?_⟩
         replace HO_4:=Aside0.mk (Kd.R_below (zR0 HO_4.out) hb)
         replace BK272:=zb0 BK272 hb
         replace HB:=zs0 HB hb
         (try clear hb)
         (try clear hb2)
         (try clear hk)
         (try clear hi)
         refine hK.out _ _ (zc00 BK272) (fun hHeld => ?_)
         clear hK K
         refine norm_ (a':=?_) ?_ ?_;rotate_left
         ·show Act.put _ (some 29) _ = _;simp only [Act.put,qA0,qB0,qC0,i64_w,i32_w];rfl
         refine one_ (i:=3) (N:=some 30) (zF0 5 15) rfl rfl (by kernel_rfl) (by decide) (fun K hK => ?_)
         refine goes_ Tryz.func15 (by kernel_rfl) rfl #[.agg #[.slice A0_0 l0_0.length c0_0],.string t277] (by rfl) rfl rfl zM0 ?_
         with_reducible refine (spec_l03At.calls k1 _ _ l0_0 t277 t278 _ ?side1 ?side2 A11.out).mono ?_
         (case side1 => exact zA0 ((Kd.C_below HR0_0.out HB.out)))
         (case side2 => exact HC0_0.out)
         rintro e w33 ⟨rfl,hb⟩
         refine ⟨_,rfl,?_⟩
         replace HO_4:=Aside0.mk (Kd.R_below (zR0 HO_4.out) hb)
         replace BK272:=zb0 BK272 hb
         replace HB:=zs0 HB hb
         (try clear hb)
         (try clear hb2)
         (try clear hk)
         (try clear hi)
         refine hK.out _ _ (zc00 BK272) (fun hHeld => ?_)
         clear hK K
         refine norm_ (a':=?_) ?_ ?_;rotate_left
         ·show Act.put _ (some 30) _ = _;simp only [Act.put,qA0,qB0,qC0,i64_w,i32_w];rfl
         refine pure_ (i:=4) (N:=some 7) (v:=?_) (a':=?_) (zF0 5 31) rfl rfl (by kernel_rfl) (fun _ _ _ h => h) (Or.inl ⟨by rfl,?_⟩) ?_ ?_;rotate_left
         ·intro w';go_simp;with_reducible rfl
         rotate_left
         ·simp only [Act.put,qA0,qB0,qC0,i64_w,i32_w];rfl
         refine done_ (by kernel_rfl) ?_
         obtain ⟨_,_⟩:=zd01 BK272
         have p279 : 0 ≤ (t278 : Int):=zD0
         have q279 : t278 < (l0_0.length : Int):=zD0
         obtain ⟨ad279,e279,hx279_0,hx279_1,hx279_2⟩:=at_T46 HR0_0.out t278 p279 q279
         cases e279
         replace hx279_0:=zx0 HB hx279_0
         replace hx279_1:=zx0 HB hx279_1
         replace hx279_2:=zx0 HB hx279_2
         replace p279:=eq_true p279
         replace q279:=eq_true q279
         try go_wp2_with (first | ((with_reducible refine gate_callee (f:=17) rfl ?_);refine goesL_ (some 41) rfl rfl Tryz.func17 (by kernel_rfl) rfl #[.int .i64 x6_1,.string ((rd_T46 l0_0 t278).f1)] rfl zM0 ?_;(with_reducible refine (spec_ReadSegment.calls k1 x6_1 ((rd_T46 l0_0 t278).f1) t280 t281 t282 false _ A18.out).mono ?_);rintro e w35 ⟨v284,rfl,ho0,hb⟩;refine ⟨_,rfl,?_⟩;replace HO_4:=Aside0.mk (Kd.R_below (zR0 HO_4.out) hb);have HO285:=Aside0.mk (Kd.S_lower ho0 (zZ0 HB.out));replace BK272:=zb0 BK272 hb;replace HB:=zs0 HB hb;(try clear hb);(try clear ho0)))
         go_roundg k1
         case measure => have:=HK1.out;omega
         case rel => exact ⟨(x5_1),(wrap64 (x6_1 + 1)),zE0,zE0,H',⟨by have:=HK1.out;omega⟩,⟨zR0 HO_4.out⟩,⟨zK0 BK272.out⟩,⟨zY0 HB.out⟩⟩
       ·rw [if_neg c17] at H
        exact absurd H (by simp)
      ·rw [if_neg c16] at H
       exact absurd H (by simp)
    ·rw [if_neg c9] at H
     have c9b0 : decide (x6_1 ≤ 99) = false:=decide_eq_false c9
     clear c9
     have H':=Aside0.mk H
     clear H
     go_wp2
     go_loopg [4,12] k1 (fun kq v4 v12 w' => ∃ (x4_2 : List Int) (x12_2 : Int),v12 = .int .i64 x12_2 ∧ Aside0 (spec_Segments.l1 kq x4_2 x12_2 l0_0 = some (r1,r2)) ∧ Aside0 (kq ≤ k1) ∧ Aside0 (Kd.R (Kd.int .i64) 3 w' w.heap.size (fun _ => True) v4 x4_2) ∧ Aside0 (w'.heap[gb272]? = some (.cells #[(.slice A0_0 l0_0.length c0_0)] 31 (0,0))) ∧ Aside0 (Below w.heap.size w w'))
     case atStart => exact ⟨(y273),(x5_1),zE0,H',⟨Nat.le_refl _⟩,⟨zR0 HO_4.out⟩,⟨zK0 BK272.out⟩,⟨zY0 HB.out⟩⟩
     case round =>
      clear H'
      try clear c3
      try clear c9
      try clear c9b0
      try clear hcz7_0
      try clear hfz7_0
      obtain ⟨x4_2,x12_2,rfl,HA,HK2,HO_4,BK272,HB⟩:=hrel
      cases gk with
      | zero => exact absurd HA.out (by simp [spec_Segments.l1])
      | succ k2 =>
       have H:=HA.out
       clear HA
       simp only [spec_Segments.l1] at H
       by_cases c36 : x12_2 ≤ 99
       ·rw [if_pos c36] at H
        have c36b0 : decide (x12_2 ≤ 99) = true:=decide_eq_true c36
        clear c36
        obtain ⟨t286,A37,H⟩:=bX0 H
        obtain ⟨t287,A38,H⟩:=bX0 H
        by_cases c39 : t287 < 0
        ·rw [if_pos c39] at H
         have c39b0 : decide (t287 < 0) = true:=decide_eq_true c39
         clear c39
         have H':=Aside0.mk H
         clear H
         try go_wp2
         replace HO_4:=Aside0.mk (Kd.R_drew HO_4.out)
         replace BK272:=Aside0.mk (blk_drew BK272.out)
         replace HB:=Aside0.mk (below_drew1 HB.out)
         refine start_ (n:=5) (S:=fun w' => w'.cell? ⟨gb272,0,none⟩ = some (.slice A0_0 l0_0.length c0_0)) (ds:=[]) (zF0 5 0) (by kernel_rfl) rfl rfl (zc00 BK272) (fun hHeld => ?_)
         generalize wr.drew = w40 at HO_4 BK272 HB hHeld ⊢
         refine pure_ (i:=1) (N:=some 59) (v:=?_) (a':=?_) (zF0 5 2) rfl rfl (by kernel_rfl) (fun _ _ _ h => h) (Or.inl ⟨by rfl,?_⟩) ?_ ?_;rotate_left
         ·intro w';go_simp;with_reducible rfl
         rotate_left
         ·simp only [Act.put,qA0,qB0,qC0,i64_w,i32_w];rfl
         refine take_ (i:=0) (N:=some 58) (v:=?_) (a':=?_) (zF0 5 3) rfl rfl (by kernel_rfl) (fun _ _ _ h => h) (Or.inl ⟨by rfl,?_⟩) hHeld ?_ ?_;rotate_left
         ·intro w' s0
          go_simp
          with_reducible rfl
         rotate_left
         ·simp only [Act.put,qA0,qB0,qC0,i64_w,i32_w];rfl
         refine one_ (i:=2) (N:=some 60) (zF0 5 7) rfl rfl (by kernel_rfl) (by decide) (fun K hK => ?_)
         refine goes_ Tryz.func16 (by kernel_rfl) rfl #[.int .i64 x12_2] (by rfl) rfl rfl zM0 ?_
         with_reducible refine (spec_SegName.calls k2 x12_2 t286 _ A37.out).mono ?_
         rintro e w41 ⟨rfl,hb⟩
         refine ⟨_,rfl,?_⟩
         replace HO_4:=Aside0.mk (Kd.R_below (zR0 HO_4.out) hb)
         replace BK272:=zb0 BK272 hb
         replace HB:=zs0 HB hb
         (try clear hb)
         (try clear hb2)
         (try clear hk)
         (try clear hi)
         refine hK.out _ _ (zc00 BK272) (fun hHeld => ?_)
         clear hK K
         refine norm_ (a':=?_) ?_ ?_;rotate_left
         ·show Act.put _ (some 60) _ = _;simp only [Act.put,qA0,qB0,qC0,i64_w,i32_w];rfl
         refine one_ (i:=3) (N:=some 61) (zF0 5 15) rfl rfl (by kernel_rfl) (by decide) (fun K hK => ?_)
         refine goes_ Tryz.func15 (by kernel_rfl) rfl #[.agg #[.slice A0_0 l0_0.length c0_0],.string t286] (by rfl) rfl rfl zM0 ?_
         with_reducible refine (spec_l03At.calls k2 _ _ l0_0 t286 t287 _ ?side1 ?side2 A38.out).mono ?_
         (case side1 => exact zA0 ((Kd.C_below HR0_0.out HB.out)))
         (case side2 => exact HC0_0.out)
         rintro e w42 ⟨rfl,hb⟩
         refine ⟨_,rfl,?_⟩
         replace HO_4:=Aside0.mk (Kd.R_below (zR0 HO_4.out) hb)
         replace BK272:=zb0 BK272 hb
         replace HB:=zs0 HB hb
         (try clear hb)
         (try clear hb2)
         (try clear hk)
         (try clear hi)
         refine hK.out _ _ (zc00 BK272) (fun hHeld => ?_)
         clear hK K
         refine norm_ (a':=?_) ?_ ?_;rotate_left
         ·show Act.put _ (some 61) _ = _;simp only [Act.put,qA0,qB0,qC0,i64_w,i32_w];rfl
         refine pure_ (i:=4) (N:=some 13) (v:=?_) (a':=?_) (zF0 5 31) rfl rfl (by kernel_rfl) (fun _ _ _ h => h) (Or.inl ⟨by rfl,?_⟩) ?_ ?_;rotate_left
         ·intro w';go_simp;with_reducible rfl
         rotate_left
         ·simp only [Act.put,qA0,qB0,qC0,i64_w,i32_w];rfl
         refine done_ (by kernel_rfl) ?_
         try go_wp2
         go_roundg k2
         case measure => have:=HK1.out;have:=HK2.out;omega
         case rel => exact ⟨(x4_2),(wrap64 (x12_2 + 1)),zE0,H',⟨by have:=HK1.out;have:=HK2.out;omega⟩,⟨zR0 HO_4.out⟩,⟨zK0 BK272.out⟩,⟨zY0 HB.out⟩⟩
        ·rw [if_neg c39] at H
         have c39b0 : decide (t287 < 0) = false:=decide_eq_false c39
         clear c39
         by_cases c43 : 0 ≤ t287
         ·rw [if_pos c43] at H
          have c43b0 : decide (0 ≤ t287) = true:=decide_eq_true c43
          clear c43
          by_cases c44 : t287 < (l0_0.length : Int)
          ·rw [if_pos c44] at H
           have c44b0 : decide (t287 < (l0_0.length : Int)) = true:=decide_eq_true c44
           clear c44
           obtain ⟨⟨t289,t290,t291,t292⟩,A45,H⟩:=bX0 H
           dsimp only at H
           by_cases c46 : t292 = true
           ·subst c46
            rw [if_pos rfl] at H
            by_cases c47 : x4_2.length < 17592186044416
            ·rw [if_pos c47] at H
             have LMc47:=Aside0.mk c47
             clear c47
             obtain ⟨y295,hy295⟩ : ∃ y_ : List Int,y_ = (x4_2 ++ [x12_2]):=⟨_,rfl⟩
             replace H : (spec_Segments.l1 k2 y295 (wrap64 (x12_2 + 1)) l0_0) = some (r1,r2):=by first | (rw [hy295];with_reducible exact H) | (have H2_:=(Option.bind_some _ _).symm.trans H;rw [hy295];with_reducible exact H2_) | (have H2_:=(Option.bind_some _ _).symm.trans H;with_reducible exact H2_) | with_reducible exact H | (rw [hy295];exact H) | exact H
             have Ny295:=Aside0.mk hy295
             clear hy295
             have H':=Aside0.mk H
             clear H
             try go_wp2
             replace HO_4:=Aside0.mk (Kd.R_drew HO_4.out)
             replace BK272:=Aside0.mk (blk_drew BK272.out)
             replace HB:=Aside0.mk (below_drew1 HB.out)
             refine start_ (n:=5) (S:=fun w' => w'.cell? ⟨gb272,0,none⟩ = some (.slice A0_0 l0_0.length c0_0)) (ds:=[]) (zF0 5 0) (by kernel_rfl) rfl rfl (zc00 BK272) (fun hHeld => ?_)
             generalize wr.drew = w48 at HO_4 BK272 HB hHeld ⊢
             refine pure_ (i:=1) (N:=some 59) (v:=?_) (a':=?_) (zF0 5 2) rfl rfl (by kernel_rfl) (fun _ _ _ h => h) (Or.inl ⟨by rfl,?_⟩) ?_ ?_;rotate_left
             ·intro w';go_simp;with_reducible rfl
             rotate_left
             ·simp only [Act.put,qA0,qB0,qC0,i64_w,i32_w];rfl
             refine take_ (i:=0) (N:=some 58) (v:=?_) (a':=?_) (zF0 5 3) rfl rfl (by kernel_rfl) (fun _ _ _ h => h) (Or.inl ⟨by rfl,?_⟩) hHeld ?_ ?_;rotate_left
             ·intro w' s0
              go_simp
              with_reducible rfl
             rotate_left
             ·simp only [Act.put,qA0,qB0,qC0,i64_w,i32_w];rfl
             refine one_ (i:=2) (N:=some 60) (zF0 5 7) rfl rfl (by kernel_rfl) (by decide) (fun K hK => ?_)
             refine goes_ Tryz.func16 (by kernel_rfl) rfl #[.int .i64 x12_2] (by rfl) rfl rfl zM0 ?_
             with_reducible refine (spec_SegName.calls k2 x12_2 t286 _ A37.out).mono ?_
             rintro e w49 ⟨rfl,hb⟩
             refine ⟨_,rfl,?_⟩
             replace HO_4:=Aside0.mk (Kd.R_below (zR0 HO_4.out) hb)
             replace BK272:=zb0 BK272 hb
             replace HB:=zs0 HB hb
             (try clear hb)
             (try clear hb2)
             (try clear hk)
             (try clear hi)
             refine hK.out _ _ (zc00 BK272) (fun hHeld => ?_)
             clear hK K
             refine norm_ (a':=?_) ?_ ?_;rotate_left
             ·show Act.put _ (some 60) _ = _;simp only [Act.put,qA0,qB0,qC0,i64_w,i32_w];rfl
             refine one_ (i:=3) (N:=some 61) (zF0 5 15) rfl rfl (by kernel_rfl) (by decide) (fun K hK => ?_)
             refine goes_ Tryz.func15 (by kernel_rfl) rfl #[.agg #[.slice A0_0 l0_0.length c0_0],.string t286] (by rfl) rfl rfl zM0 ?_
             with_reducible refine (spec_l03At.calls k2 _ _ l0_0 t286 t287 _ ?side1 ?side2 A38.out).mono ?_
             (case side1 => exact zA0 ((Kd.C_below HR0_0.out HB.out)))
             (case side2 => exact HC0_0.out)
             rintro e w50 ⟨rfl,hb⟩
             refine ⟨_,rfl,?_⟩
             replace HO_4:=Aside0.mk (Kd.R_below (zR0 HO_4.out) hb)
             replace BK272:=zb0 BK272 hb
             replace HB:=zs0 HB hb
             (try clear hb)
             (try clear hb2)
             (try clear hk)
             (try clear hi)
             refine hK.out _ _ (zc00 BK272) (fun hHeld => ?_)
             clear hK K
             refine norm_ (a':=?_) ?_ ?_;rotate_left
             ·show Act.put _ (some 61) _ = _;simp only [Act.put,qA0,qB0,qC0,i64_w,i32_w];rfl
             refine pure_ (i:=4) (N:=some 13) (v:=?_) (a':=?_) (zF0 5 31) rfl rfl (by kernel_rfl) (fun _ _ _ h => h) (Or.inl ⟨by rfl,?_⟩) ?_ ?_;rotate_left
             ·intro w';go_simp;with_reducible rfl
             rotate_left
             ·simp only [Act.put,qA0,qB0,qC0,i64_w,i32_w];rfl
             refine done_ (by kernel_rfl) ?_
             obtain ⟨_,_⟩:=zd01 BK272
             have p288 : 0 ≤ (t287 : Int):=zD0
             have q288 : t287 < (l0_0.length : Int):=zD0
             obtain ⟨ad288,e288,hx288_0,hx288_1,hx288_2⟩:=at_T46 HR0_0.out t287 p288 q288
             cases e288
             replace hx288_0:=zx0 HB hx288_0
             replace hx288_1:=zx0 HB hx288_1
             replace hx288_2:=zx0 HB hx288_2
             replace p288:=eq_true p288
             replace q288:=eq_true q288
             try go_wp2_with (first | ((with_reducible refine gate_callee (f:=17) rfl ?_);refine goesL_ (some 72) rfl rfl Tryz.func17 (by kernel_rfl) rfl #[.int .i64 x12_2,.string ((rd_T46 l0_0 t287).f1)] rfl zM0 ?_;(with_reducible refine (spec_ReadSegment.calls k2 x12_2 ((rd_T46 l0_0 t287).f1) t289 t290 t291 true _ A45.out).mono ?_);rintro e w52 ⟨v293,rfl,ho0,hb⟩;refine ⟨_,rfl,?_⟩;replace HO_4:=Aside0.mk (Kd.R_below (zR0 HO_4.out) hb);have HO294:=Aside0.mk (Kd.S_lower ho0 (zZ0 HB.out));replace BK272:=zb0 BK272 hb;replace HB:=zs0 HB hb;(try clear hb);(try clear ho0)) | ((with_reducible refine gate_builtin (b:=.append) (xs:=#[.tmp 80,.tmp 82]) rfl ?_);at_builtin;refine Kd.R_append (Kd.int .i64) (w0:=w) w.heap.size rfl (.tmp 80) (.tmp 82) 26 3 (.int .i64 0) 8 rfl Tryz.underlying26 info3 rfl (by decide) (by omega) u4 x4_2 x12_2 [.int .i64 x12_2] (fun _ => True) (fun _ => False) rfl rfl ?aP (fun _ hk => hk.elim) ?aF ?aO ?aB ?aS ?aL ?_;(case aP => exact rfl);(case aB => exact (zY0 HB.out));(case aF => exact (fun _ _ => trivial));(case aO => exact (zR0 HO_4.out));(case aS => exact (zZ0 HB.out));(case aL => have:=LMc47.out;omega);intro v296 w53 ho hb hg hat;rw [← Ny295.out] at ho;replace BK272:=Aside0.mk (blk_grown (g:=gb272) (o:=.cells #[.slice (some ad288) l0_0.length c0_0] 31 (0,0)) (zK0 BK272.out) hg (Kd.R_ne HO_4.out BK272.out (by decide)));replace HO294:=Aside0.mk (Kd.S_over' (by (with_reducible repeat (first | apply Kd.S_alloc | apply Kd.S_drewN | apply Kd.S_drew));exact HO294.out) (Kd.R_typed (zR0 HO_4.out)) (by decide) hg);replace HB:=Aside0.mk hb;have HO297:=Aside0.mk ho;clear HO_4;clear ho hb hg hat))
             go_roundg k2
             case measure => have:=HK1.out;have:=HK2.out;omega
             case rel => exact ⟨(y295),(wrap64 (x12_2 + 1)),zE0,H',⟨by have:=HK1.out;have:=HK2.out;omega⟩,⟨zR0 HO297.out⟩,⟨zK0 BK272.out⟩,⟨zY0 HB.out⟩⟩
            ·rw [if_neg c47] at H
             exact absurd H (by simp)
           ·replace c46:=Bool.eq_false_iff.mpr c46
            subst c46
            rw [if_neg (show ¬ (false = true) by decide)] at H
            obtain ⟨y298,hy298⟩ : ∃ y_ : List Int,y_ = (([] : List Int)):=⟨_,rfl⟩
            replace H : (some (y298,false)) = some (r1,r2):=by first | (rw [hy298];with_reducible exact H) | (have H2_:=(Option.bind_some _ _).symm.trans H;rw [hy298];with_reducible exact H2_) | (have H2_:=(Option.bind_some _ _).symm.trans H;with_reducible exact H2_) | with_reducible exact H | (rw [hy298];exact H) | exact H
            have Ny298:=Aside0.mk hy298
            clear hy298
            simp only [Option.some.injEq,Prod.mk.injEq] at H
            obtain ⟨rfl,rfl⟩:=H
            try go_wp2
            replace HO_4:=Aside0.mk (Kd.R_drew HO_4.out)
            replace BK272:=Aside0.mk (blk_drew BK272.out)
            replace HB:=Aside0.mk (below_drew1 HB.out)
            refine start_ (n:=5) (S:=fun w' => w'.cell? ⟨gb272,0,none⟩ = some (.slice A0_0 l0_0.length c0_0)) (ds:=[]) (zF0 5 0) (by kernel_rfl) rfl rfl (zc00 BK272) (fun hHeld => ?_)
            generalize wr.drew = w54 at HO_4 BK272 HB hHeld ⊢
            refine pure_ (i:=1) (N:=some 59) (v:=?_) (a':=?_) (zF0 5 2) rfl rfl (by kernel_rfl) (fun _ _ _ h => h) (Or.inl ⟨by rfl,?_⟩) ?_ ?_;rotate_left
            ·intro w';go_simp;with_reducible rfl
            rotate_left
            ·simp only [Act.put,qA0,qB0,qC0,i64_w,i32_w];rfl
            refine take_ (i:=0) (N:=some 58) (v:=?_) (a':=?_) (zF0 5 3) rfl rfl (by kernel_rfl) (fun _ _ _ h => h) (Or.inl ⟨by rfl,?_⟩) hHeld ?_ ?_;rotate_left
            ·intro w' s0
             go_simp
             with_reducible rfl
            rotate_left
            ·simp only [Act.put,qA0,qB0,qC0,i64_w,i32_w];rfl
            refine one_ (i:=2) (N:=some 60) (zF0 5 7) rfl rfl (by kernel_rfl) (by decide) (fun K hK => ?_)
            refine goes_ Tryz.func16 (by kernel_rfl) rfl #[.int .i64 x12_2] (by rfl) rfl rfl zM0 ?_
            with_reducible refine (spec_SegName.calls k2 x12_2 t286 _ A37.out).mono ?_
            rintro e w55 ⟨rfl,hb⟩
            refine ⟨_,rfl,?_⟩
            replace HO_4:=Aside0.mk (Kd.R_below (zR0 HO_4.out) hb)
            replace BK272:=zb0 BK272 hb
            replace HB:=zs0 HB hb
            (try clear hb)
            (try clear hb2)
            (try clear hk)
            (try clear hi)
            refine hK.out _ _ (zc00 BK272) (fun hHeld => ?_)
            clear hK K
            refine norm_ (a':=?_) ?_ ?_;rotate_left
            ·show Act.put _ (some 60) _ = _;simp only [Act.put,qA0,qB0,qC0,i64_w,i32_w];rfl
            refine one_ (i:=3) (N:=some 61) (zF0 5 15) rfl rfl (by kernel_rfl) (by decide) (fun K hK => ?_)
            refine goes_ Tryz.func15 (by kernel_rfl) rfl #[.agg #[.slice A0_0 l0_0.length c0_0],.string t286] (by rfl) rfl rfl zM0 ?_
            with_reducible refine (spec_l03At.calls k2 _ _ l0_0 t286 t287 _ ?side1 ?side2 A38.out).mono ?_
            (case side1 => exact zA0 ((Kd.C_below HR0_0.out HB.out)))
            (case side2 => exact HC0_0.out)
            rintro e w56 ⟨rfl,hb⟩
            refine ⟨_,rfl,?_⟩
            replace HO_4:=Aside0.mk (Kd.R_below (zR0 HO_4.out) hb)
            replace BK272:=zb0 BK272 hb
            replace HB:=zs0 HB hb
            (try clear hb)
            (try clear hb2)
            (try clear hk)
            (try clear hi)
            refine hK.out _ _ (zc00 BK272) (fun hHeld => ?_)
            clear hK K
            refine norm_ (a':=?_) ?_ ?_;rotate_left
            ·show Act.put _ (some 61) _ = _;simp only [Act.put,qA0,qB0,qC0,i64_w,i32_w];rfl
            refine pure_ (i:=4) (N:=some 13) (v:=?_) (a':=?_) (zF0 5 31) rfl rfl (by kernel_rfl) (fun _ _ _ h => h) (Or.inl ⟨by rfl,?_⟩) ?_ ?_;rotate_left
            ·intro w';go_simp;with_reducible rfl
            rotate_left
            ·simp only [Act.put,qA0,qB0,qC0,i64_w,i32_w];rfl
            refine done_ (by kernel_rfl) ?_
            obtain ⟨_,_⟩:=zd01 BK272
            have p288 : 0 ≤ (t287 : Int):=zD0
            have q288 : t287 < (l0_0.length : Int):=zD0
            obtain ⟨ad288,e288,hx288_0,hx288_1,hx288_2⟩:=at_T46 HR0_0.out t287 p288 q288
            cases e288
            replace hx288_0:=zx0 HB hx288_0
            replace hx288_1:=zx0 HB hx288_1
            replace hx288_2:=zx0 HB hx288_2
            replace p288:=eq_true p288
            replace q288:=eq_true q288
            try go_wp2_with (first | ((with_reducible refine gate_callee (f:=17) rfl ?_);refine goesL_ (some 72) rfl rfl Tryz.func17 (by kernel_rfl) rfl #[.int .i64 x12_2,.string ((rd_T46 l0_0 t287).f1)] rfl zM0 ?_;(with_reducible refine (spec_ReadSegment.calls k2 x12_2 ((rd_T46 l0_0 t287).f1) t289 t290 t291 false _ A45.out).mono ?_);rintro e w58 ⟨v293,rfl,ho0,hb⟩;refine ⟨_,rfl,?_⟩;replace HO_4:=Aside0.mk (Kd.R_below (zR0 HO_4.out) hb);have HO294:=Aside0.mk (Kd.S_lower ho0 (zZ0 HB.out));replace BK272:=zb0 BK272 hb;replace HB:=zs0 HB hb;(try clear hb);(try clear ho0)) | ((with_reducible refine gate_dst (N:=79) rfl ?_);refine Kd.R_lit (Kd.int .i64) _ 3 ?hg (N:=79) ?hd (xs:=([] : List Int)) (inner:=[]) (ok:=fun _ => True) (okp:=fun _ => True) ?hr ?hp (fun _ hk => hk) trivial (Below.refl _ _) (Nat.le_refl _) (by simp) ?_;(case hd => rfl);(case hg => rfl);(case hr => first | (go_simp;done) | (go_simp;rfl));(case hp => exact (Reps.none _ _));intro v299 w59 ho60 hb hg_ hnew_;clear hg_ hnew_;(first | rw [← Ny298.out] at ho60 | (simp only [Int.reduceToNat] at ho60;rw [← Ny298.out] at ho60));replace HO294:=Aside0.mk (Kd.S_below (by (with_reducible repeat (first | apply Kd.S_alloc | apply Kd.S_drewN | apply Kd.S_drew));exact HO294.out) hb);have HO300:=Aside0.mk (Kd.R_lower (Kd.R_new' ho60 (Kd.R_lt (zR0 HO_4.out))) (zZ0 HB.out));replace HO_4:=Aside0.mk (Kd.R_elder' (zR0 HO_4.out) (Kd.R_base ho60) hb);replace BK272:=zb0 BK272 hb;replace HB:=zs0 HB hb;clear hb ho60))
            go_ret2
            exact ⟨_,zW0,by refine zV0 ?_;exact Kd.R_mono HO300.out (fun _ hk => trivial),(zY0 HB.out)⟩
          ·rw [if_neg c44] at H
           exact absurd H (by simp)
         ·rw [if_neg c43] at H
          exact absurd H (by simp)
       ·rw [if_neg c36] at H
        have c36b0 : decide (x12_2 ≤ 99) = false:=decide_eq_false c36
        clear c36
        simp only [Option.some.injEq,Prod.mk.injEq] at H
        obtain ⟨rfl,rfl⟩:=H
        obtain ⟨Ao61,co61,eo61⟩:=Kd.R_slice HO_4.out
        subst eo61
        go_wp2
        go_ret2
        exact ⟨_,zW0,by exact zR0 HO_4.out,(zY0 HB.out)⟩
 ·replace c3:=Bool.eq_false_iff.mpr c3
  subst c3
  rw [if_neg (show ¬ (false = true) by decide)] at H
  simp only [Option.some.injEq,Prod.mk.injEq] at H
  obtain ⟨rfl,rfl⟩:=H
  go_enter Tryz.func5,Tryz.ntmps5
  go_wp2_with (first | ((with_reducible refine gate_dst (N:=1) rfl ?_);refine zy0 (cs:=#[.slice A0_0 l0_0.length c0_0]) (t:=31) ?_;intro gb272 hg w62 hbox hb;have BK272:=Aside0.mk hbox;have GW272:=zz0 hg HB;have GE272:=zz0 hg HB;replace HB:=zs0 HB hb;clear hb hbox hg) | ((with_reducible refine gate_dst (N:=18) rfl ?_);refine Kd.R_lit (Kd.int .i64) _ 3 ?hg (N:=18) ?hd (xs:=([] : List Int)) (inner:=[]) (ok:=fun _ => True) (okp:=fun _ => True) ?hr ?hp (fun _ hk => hk) trivial (Below.refl _ _) (Nat.le_refl _) (by simp) ?_;(case hd => rfl);(case hg => rfl);(case hr => first | (go_simp;done) | (go_simp;rfl));(case hp => exact (Reps.none _ _));intro v274 w63 ho64 hb hg_ hnew_;clear hg_ hnew_;(first | rw [← Ny273.out] at ho64 | (simp only [Int.reduceToNat] at ho64;rw [← Ny273.out] at ho64));have HO275:=Aside0.mk (Kd.R_lower ho64 (zZ0 HB.out));replace BK272:=zb0 BK272 hb;replace HB:=zs0 HB hb;clear hb ho64;obtain ⟨_,_⟩:=zd01 BK272) | ((with_reducible refine gate_callee (f:=14) rfl ?_);refine goesL_ (some 20) rfl rfl Tryz.func14 (by kernel_rfl) rfl #[.agg #[.slice A0_0 l0_0.length c0_0]] rfl zM0 ?_;(with_reducible refine (spec_DiskOk.calls k _ _ l0_0 false _ ?side1 ?side2 A2.out).mono ?_);(case side1 => exact zA0 ((Kd.C_below HR0_0.out HB.out)));(case side2 => exact HC0_0.out);rintro e w66 ⟨rfl,hb⟩;refine ⟨_,rfl,?_⟩;replace HO275:=Aside0.mk (Kd.R_below (zR0 HO275.out) hb);replace BK272:=zb0 BK272 hb;replace HB:=zs0 HB hb;(try clear hb);(try clear hk)))
  go_ret2
  exact ⟨_,zW0,by exact zR0 HO275.out,(zY0 HB.out)⟩

end Go.Proofs.YtlekhcopddajbaaGreatDoor.PFnExactSegments
