/- Walks, turned from a print. -/
import Derived.Test.YtlekhcopddajbaaGreatDoorOFnExactSegmentsx0
import Derived.Test.YtlekhcopddajbaaGreatDoorOFnExactSegmentsx11
import Derived.Test.YtlekhcopddajbaaGreatDoorOFnExactSegmentsx12
import Derived.Test.YtlekhcopddajbaaGreatDoorOFnExactSegmentsx14
namespace Go.Proofs.YtlekhcopddajbaaGreatDoor.PFnExactSegments
open Go.RowKit Go.Proofs.YtlekhcopddajbaaGreatDoorW.PrintWords Go.Proofs.YtlekhcopddajbaaGreatDoorW.PrintLast Go.Proofs.YtlekhcopddajbaaGreatDoorW.PrintMore
attribute [local go_sem] max2_int min2_int max_two min_two max_three min_three max_four min_four
set_option linter.unusedVariables false
set_option linter.unusedSimpArgs false

/-! ### impl_Segments: function 7 -/
mutual
def impl_Segments.l0 : Nat → List Int → List (S46) → Int → Int → List (S46) → Int → Option (List Int × Bool)
 | 0,_,_,_,_,_,_ => none
 | k + 1,x4,x23,x24,x25,x408000,x410000 => if x25 < x24 then (if 0 ≤ x25 then (if x25 < (x23.length : Int) then ((impl_segNumber.f ((rd_T46 x23 x25).f0)).bind fun t412 => (if t412 < 0 then (impl_Segments.l0 k x4 x23 x24 (wrap64 (x25 + 1)) x408000 x410000) else (if x4.length < 17592186044416 then ((impl_headOf.f k t412 ((rd_T46 x23 x25).f1)).bind fun bt416 => (impl_Segments.l0 k (x4 ++ [t412]) x23 x24 (wrap64 (x25 + 1)) x408000 (mx x410000 bt416.1))) else (none)))) else (none)) else (none)) else ((slices_Sort_i.f x4).bind fun t419 => ((slices_DeleteFunc_i.f t419 x410000).bind fun t420 => (impl_Segments.l1 k t420 t420 (t420.length : Int) 0 x408000)))
def impl_Segments.l1 : Nat → List Int → List Int → Int → Int → List (S46) → Option (List Int × Bool)
 | 0,_,_,_,_,_ => none
 | k + 1,x4,x55,x56,x57,x408000 => if x57 < x56 then (if 0 ≤ x57 then (if x57 < (x55.length : Int) then ((impl_SegName.f (rd x55 x57)).bind fun t424 => ((impl_FileAt.f x408000 t424).bind fun bt425 => ((impl_headOf.f k (rd x55 x57) bt425.1).bind fun bt427 => (if bt427.2.2 = true then (impl_Segments.l1 k x4 x55 x56 (wrap64 (x57 + 1)) x408000) else (some (([] : List Int),false)))))) else (none)) else (none)) else (if (x4.length : Int) = 0 then (some (([] : List Int),false)) else (some (x4,true)))
end
def impl_Segments.f (k : Nat) (l0_0 : List (S46)) : Option (List Int × Bool):=(impl_DiskOk.f k l0_0).bind fun t408 => (if t408 = true then (impl_Segments.l0 k ([] : List Int) l0_0 (l0_0.length : Int) 0 l0_0 0) else (some (([] : List Int),false)))
theorem impl_Segments.mono_l : ∀ k,(∀ y0 y1 y2 y3 y4 y5,LeO (impl_Segments.l0 k y0 y1 y2 y3 y4 y5) (impl_Segments.l0 (k + 1) y0 y1 y2 y3 y4 y5)) ∧ (∀ y0 y1 y2 y3 y4,LeO (impl_Segments.l1 k y0 y1 y2 y3 y4) (impl_Segments.l1 (k + 1) y0 y1 y2 y3 y4))
 | 0 => ⟨fun _ _ _ _ _ _ r h => by simp [impl_Segments.l0] at h,fun _ _ _ _ _ r h => by simp [impl_Segments.l1] at h⟩
 | k + 1 => by
  obtain ⟨ih0,ih1⟩:=impl_Segments.mono_l k
  refine ⟨?_,?_⟩
  intro y0 y1 y2 y3 y4 y5;unfold impl_Segments.l0;rotate_left
  intro y0 y1 y2 y3 y4;unfold impl_Segments.l1;rotate_left
  all_goals repeat' first
  | (with_reducible exact ih0 _ _ _ _ _ _)
  | (with_reducible exact ih1 _ _ _ _ _)
  | (with_reducible exact impl_DiskOk.mono _ _)
  | (with_reducible exact impl_headOf.mono _ _ _)
  | (with_reducible exact LeO.refl _)
  | (with_reducible exact LeO.none _)
  | (with_reducible refine LeO.ite ?_ ?_)
  | (with_reducible refine LeO.bind ?_ (fun _ => ?_))
theorem impl_Segments.mono : ∀ a0 k,LeO (impl_Segments.f k a0) (impl_Segments.f (k + 1) a0):=by
 intro a0 k
 obtain ⟨ih0,ih1⟩:=impl_Segments.mono_l k
 unfold impl_Segments.f
 repeat' first
  | (with_reducible exact ih0 _ _ _ _ _ _)
  | (with_reducible exact ih1 _ _ _ _ _)
  | (with_reducible exact impl_DiskOk.mono _ _)
  | (with_reducible exact impl_headOf.mono _ _ _)
  | (with_reducible exact LeO.refl _)
  | (with_reducible exact LeO.none _)
  | (with_reducible refine LeO.ite ?_ ?_)
  | (with_reducible refine LeO.bind ?_ (fun _ => ?_))
def impl_Segments.T19 : Bool × List (List Nat × List Nat):=(true,[([],[]),([],[]),([1],[1]),([0,2,2],[0,2]),([3],[3]),([4],[4]),([4],[4]),([5,3,0,1,2,3,4,5],[5]),([6,7,0,1,2,3,4,5,6,7],[6])])
def impl_Segments.B19 : List Nat:=[0,0,2,7,15,31,31,63,255]
theorem impl_Segments.tab19 : rtab .any (opsOf Tryz.f7 19) = impl_Segments.T19:=by kernel_rfl
theorem impl_Segments.bits19 : waitsOk impl_Segments.T19.2 impl_Segments.B19 = true:=by kernel_rfl
set_option maxHeartbeats 8000000 in
set_option maxRecDepth 100000 in
theorem impl_Segments.calls (k : Nat) (A0_0 : Option Addr) (c0_0 : Nat) (l0_0 : List (S46)) (r1 : List Int) (r2 : Bool) (w : World) (hr0_0 : Kd.C k46 w A0_0 l0_0.length l0_0) (hc0_0 : l0_0.length ≤ c0_0) (h : impl_Segments.f k l0_0 = some (r1,r2)) (HTAB : Tab w:=by first | assumption | exact Tab.up HTAB (by repeat (first | (with_reducible first | exact HB.out | apply below_alloc | apply pw_below_drewN | apply below_drew1 | refine below_set ?_ (Aside0.out (by assumption))) | exact HB.out))) :
  Calls Tryz.prog 7 #[.agg #[.slice A0_0 l0_0.length c0_0]] w fun e w' => ∃ v0_ : Value,e = .returned (.tuple #[v0_,.bool r2]) ∧ Kd.R (Kd.int .i64) 3 w' w.heap.size (fun _ => True) v0_ r1 ∧ Below w.heap.size w w':=by
 have hu31:=Tryz.underlying31
 have hu46:=Tryz.underlying46
 have HR0_0:=Aside0.mk hr0_0
 have HC0_0:=Aside0.mk hc0_0
 clear hr0_0 hc0_0
 have HB:=Aside0.mk (Below.refl w.heap.size w)
 have H : ((impl_DiskOk.f k l0_0).bind fun t408 => (if t408 = true then (impl_Segments.l0 k ([] : List Int) l0_0 (l0_0.length : Int) 0 l0_0 0) else (some (([] : List Int),false)))) = some (r1,r2):=h
 clear h
 obtain ⟨t408,A2,H⟩:=bX0 H
 by_cases c3 : t408 = true
 ·subst c3
  rw [if_pos rfl] at H
  have H':=Aside0.mk H
  clear H
  go_enter Tryz.func7,Tryz.ntmps7
  go_wp2_with (first | ((with_reducible refine gate_dst (N:=1) rfl ?_);refine zy0 (cs:=#[.slice A0_0 l0_0.length c0_0]) (t:=31) ?_;intro gb407 hg w4 hbox hb;have BK407:=Aside0.mk hbox;have GW407:=zz0 hg HB;have GE407:=zz0 hg HB;replace HB:=zs0 HB hb;clear hb hbox hg;obtain ⟨hcz5_0,hfz5_0⟩:=zd01 BK407) | ((with_reducible refine gate_callee (f:=19) rfl ?_);refine goesL_ (some 20) rfl rfl Tryz.func19 (by kernel_rfl) rfl #[.agg #[.slice A0_0 l0_0.length c0_0]] rfl zM0 ?_;(with_reducible refine (impl_DiskOk.calls k _ _ l0_0 true _ ?side1 ?side2 A2.out).mono ?_);(case side1 => exact zA0 ((Kd.C_below HR0_0.out HB.out)));(case side2 => exact HC0_0.out);rintro e w6 ⟨rfl,hb⟩;refine ⟨_,rfl,?_⟩;replace BK407:=zb0 BK407 hb;replace HB:=zs0 HB hb;(try clear hb)) | ((with_reducible refine gate_dst (N:=5) rfl ?_);refine zy0 (cs:=#[.int .i64 0]) (t:=3) ?_;intro gb409 hg w7 hbox hb;have BK409:=Aside0.mk hbox;have GW409:=zz0 hg HB;have GE409:=zz0 hg HB;replace HB:=zs0 HB hb;have NB407_409:=zl0 hg BK407;have NB409_407:=zg0 hg BK407;replace BK407:=zb0 BK407 hb;clear hb hbox hg;obtain ⟨_,_⟩:=zn0 NB409_407;obtain ⟨hcz9_0,hfz9_0⟩:=zd01 BK409;obtain ⟨hcz10_0,hfz10_0⟩:=zd01 BK407))
  go_loopg [4,25] k (fun kq v4 v25 w' => ∃ (x4_1 : List Int) (x25_1 : Int) (x410000_1 : Int),v25 = .int .i64 x25_1 ∧ Aside0 (impl_Segments.l0 kq x4_1 l0_0 (l0_0.length : Int) x25_1 l0_0 x410000_1 = some (r1,r2)) ∧ Aside0 (kq ≤ k) ∧ Aside0 (Kd.R (Kd.int .i64) 3 w' w.heap.size (fun k_ => k_ ≠ gb409) v4 x4_1) ∧ Aside0 (w'.heap[gb407]? = some (.cells #[(.slice A0_0 l0_0.length c0_0)] 31 (0,0))) ∧ Aside0 (w'.heap[gb409]? = some (.cells #[.int .i64 x410000_1] 3 (0,0))) ∧ Aside0 (Below w.heap.size w w'))
  case atStart => exact ⟨(([] : List Int)),(0),(0),zE0,H',⟨Nat.le_refl _⟩,⟨by first | exact Kd.R_nil _ _ _ _ _ | exact Kd.N_nil _ _ _ _ _ | exact Kd.V_nil _ _ _ _ _ | exact Kd.Q_nil _ _ _ _ _ | exact Kd.S_nil _ _ _ _ _⟩,⟨zK0 BK407.out⟩,⟨by refine zT0 ?_;refine blk_put (cs:=#[.int .i64 0]) ?_ 0 _ rfl;exact zK0 BK409.out⟩,⟨zY0 HB.out⟩⟩
  case round =>
   clear H'
   try clear c3
   try clear hcz10_0
   try clear hcz5_0
   try clear hcz9_0
   try clear hfz10_0
   try clear hfz5_0
   try clear hfz9_0
   obtain ⟨x4_1,x25_1,x410000_1,rfl,HA,HK1,HO_4,BK407,BK409,HB⟩:=hrel
   cases gk with
   | zero => exact absurd HA.out (by simp [impl_Segments.l0])
   | succ k1 =>
    have H:=HA.out
    clear HA
    simp only [impl_Segments.l0] at H
    by_cases c11 : x25_1 < (l0_0.length : Int)
    ·rw [if_pos c11] at H
     have c11b0 : decide (x25_1 < (l0_0.length : Int)) = true:=decide_eq_true c11
     clear c11
     by_cases c12 : 0 ≤ x25_1
     ·rw [if_pos c12] at H
      have c12b0 : decide (0 ≤ x25_1) = true:=decide_eq_true c12
      clear c12
      by_cases c13 : x25_1 < (l0_0.length : Int)
      ·rw [if_pos c13] at H
       have c13b0 : decide (x25_1 < (l0_0.length : Int)) = true:=decide_eq_true c13
       clear c13
       obtain ⟨t412,A14,H⟩:=bX0 H
       by_cases c15 : t412 < 0
       ·rw [if_pos c15] at H
        have c15b0 : decide (t412 < 0) = true:=decide_eq_true c15
        clear c15
        have H':=Aside0.mk H
        clear H
        have p410 : 0 ≤ (x25_1 : Int):=zD0
        have q410 : x25_1 < (l0_0.length : Int):=zD0
        obtain ⟨ad410,e410,hx410_0,hx410_1,hx410_2⟩:=at_T46 HR0_0.out x25_1 p410 q410
        cases e410
        replace hx410_0:=zx0 HB hx410_0
        replace hx410_1:=zx0 HB hx410_1
        replace hx410_2:=zx0 HB hx410_2
        replace p410:=eq_true p410
        replace q410:=eq_true q410
        go_wp2_with (first | ((with_reducible refine gate_dst (N:=7) rfl ?_);refine zy0 (cs:=#[.string (⟨#[]⟩ : ByteArray),.string (⟨#[]⟩ : ByteArray),.int .i64 0]) (t:=46) ?_;intro gb411 hg w16 hbox hb;replace HO_4:=Aside0.mk (Kd.R_below (zR0 HO_4.out) hb);have BK411:=Aside0.mk hbox;have GW411:=zz0 hg HB;have GE411:=zz0 hg HB;replace HB:=zs0 HB hb;have NB407_411:=zl0 hg BK407;have NB411_407:=zg0 hg BK407;replace BK407:=zb0 BK407 hb;have NB409_411:=zl0 hg BK409;have NB411_409:=zg0 hg BK409;replace BK409:=zb0 BK409 hb;clear hb hbox hg;obtain ⟨_,_⟩:=zn0 NB411_407;obtain ⟨_,_⟩:=zn0 NB411_409;obtain ⟨hcz19_0,hcz19_1,hcz19_2,hfz19_0,hfz19_1,hfz19_2⟩:=zd03 BK411) | ((with_reducible refine gate_callee (f:=20) rfl ?_);refine goesL_ (some 31) rfl rfl Tryz.func20 (by kernel_rfl) rfl #[.string ((rd_T46 l0_0 x25_1).f0)] rfl zM0 ?_;(with_reducible refine (impl_segNumber.calls ((rd_T46 l0_0 x25_1).f0) t412 _ A14.out).mono ?_);rintro e w20 ⟨rfl,hb⟩;refine ⟨_,rfl,?_⟩;replace HO_4:=Aside0.mk (Kd.R_below (by refine zV0 ?_;exact (Kd.R_mono (Kd.R_far (p:=⟨gb411,2,none⟩) (Kd.R_far (p:=⟨gb411,1,none⟩) (Kd.R_far (p:=⟨gb411,0,none⟩) (Kd.R_types HO_4.out BK411.out (by decide)) (fun _ hk => hk.2) (.string ((rd_T46 l0_0 x25_1).f0))) (fun _ hk => hk.2) (.string ((rd_T46 l0_0 x25_1).f1))) (fun _ hk => hk.2) (.int .i64 ((rd_T46 l0_0 x25_1).f2))) (fun _ h_ => h_.1))) hb);replace BK407:=zb0 BK407 hb;replace BK409:=zb0 BK409 hb;replace BK411:=Aside0.mk (blk_below (g:=gb411) (o:=.cells #[.string ((rd_T46 l0_0 x25_1).f0),.string ((rd_T46 l0_0 x25_1).f1),.int .i64 ((rd_T46 l0_0 x25_1).f2)] 46 (0,0)) (by refine zT0 ?_;refine blk_put (cs:=#[.string ((rd_T46 l0_0 x25_1).f0),.string ((rd_T46 l0_0 x25_1).f1),.int .i64 0]) ?_ 2 _ rfl;refine zT0 ?_;refine blk_put (cs:=#[.string ((rd_T46 l0_0 x25_1).f0),.string (⟨#[]⟩ : ByteArray),.int .i64 0]) ?_ 1 _ rfl;refine zT0 ?_;refine blk_put (cs:=#[.string (⟨#[]⟩ : ByteArray),.string (⟨#[]⟩ : ByteArray),.int .i64 0]) ?_ 0 _ rfl;exact zK0 BK411.out) hb);replace HB:=zs0 HB hb;(try clear hb);(try clear hk)))
        go_roundg k1
        case measure => have:=HK1.out;omega
        case rel => exact ⟨(x4_1),(wrap64 (x25_1 + 1)),(x410000_1),zE0,H',⟨by have:=HK1.out;omega⟩,⟨zR0 HO_4.out⟩,⟨zK0 BK407.out⟩,⟨zK0 BK409.out⟩,⟨zY0 HB.out⟩⟩
       ·rw [if_neg c15] at H
        have c15b0 : decide (t412 < 0) = false:=decide_eq_false c15
        clear c15
        by_cases c21 : x4_1.length < 17592186044416
        ·rw [if_pos c21] at H
         have LMc21:=Aside0.mk c21
         clear c21
         obtain ⟨y413,hy413⟩ : ∃ y_ : List Int,y_ = (x4_1 ++ [t412]):=⟨_,rfl⟩
         replace H : ((impl_headOf.f k1 t412 ((rd_T46 l0_0 x25_1).f1)).bind fun bt416 => (impl_Segments.l0 k1 y413 l0_0 (l0_0.length : Int) (wrap64 (x25_1 + 1)) l0_0 (mx x410000_1 bt416.1))) = some (r1,r2):=by first | (rw [hy413];with_reducible exact H) | (have H2_:=(Option.bind_some _ _).symm.trans H;rw [hy413];with_reducible exact H2_) | (have H2_:=(Option.bind_some _ _).symm.trans H;with_reducible exact H2_) | with_reducible exact H | (rw [hy413];exact H) | exact H
         have Ny413:=Aside0.mk hy413
         clear hy413
         obtain ⟨⟨t416,t417,t418⟩,A22,H⟩:=bX0 H
         dsimp only at H
         obtain ⟨ji23,hji23⟩ : ∃ j_ : Int,(mx x410000_1 t416) = j_:=⟨_,rfl⟩
         replace H : (impl_Segments.l0 k1 y413 l0_0 (l0_0.length : Int) (wrap64 (x25_1 + 1)) l0_0 ji23) = some (r1,r2):=by first | (rw [hji23] at H;exact H) | (simp only [hji23] at H ⊢;exact H)
         (try rw [hji23] at A14)
         (try rw [hji23] at A22)
         have hji23_ : (if x410000_1 < t416 then t416 else x410000_1) = ji23:=hji23
         have H':=Aside0.mk H
         clear H
         have p410 : 0 ≤ (x25_1 : Int):=zD0
         have q410 : x25_1 < (l0_0.length : Int):=zD0
         obtain ⟨ad410,e410,hx410_0,hx410_1,hx410_2⟩:=at_T46 HR0_0.out x25_1 p410 q410
         cases e410
         replace hx410_0:=zx0 HB hx410_0
         replace hx410_1:=zx0 HB hx410_1
         replace hx410_2:=zx0 HB hx410_2
         replace p410:=eq_true p410
         replace q410:=eq_true q410
         go_wp2_with (first | ((with_reducible refine gate_dst (N:=7) rfl ?_);refine zy0 (cs:=#[.string (⟨#[]⟩ : ByteArray),.string (⟨#[]⟩ : ByteArray),.int .i64 0]) (t:=46) ?_;intro gb411 hg w24 hbox hb;replace HO_4:=Aside0.mk (Kd.R_below (zR0 HO_4.out) hb);have BK411:=Aside0.mk hbox;have GW411:=zz0 hg HB;have GE411:=zz0 hg HB;replace HB:=zs0 HB hb;have NB407_411:=zl0 hg BK407;have NB411_407:=zg0 hg BK407;replace BK407:=zb0 BK407 hb;have NB409_411:=zl0 hg BK409;have NB411_409:=zg0 hg BK409;replace BK409:=zb0 BK409 hb;clear hb hbox hg;obtain ⟨_,_⟩:=zn0 NB411_407;obtain ⟨_,_⟩:=zn0 NB411_409;obtain ⟨_,_,_,_,_,_⟩:=zd03 BK411) | ((with_reducible refine gate_callee (f:=20) rfl ?_);refine goesL_ (some 31) rfl rfl Tryz.func20 (by kernel_rfl) rfl #[.string ((rd_T46 l0_0 x25_1).f0)] rfl zM0 ?_;(with_reducible refine (impl_segNumber.calls ((rd_T46 l0_0 x25_1).f0) t412 _ A14.out).mono ?_);rintro e w28 ⟨rfl,hb⟩;refine ⟨_,rfl,?_⟩;replace HO_4:=Aside0.mk (Kd.R_below (by refine zV0 ?_;exact (Kd.R_mono (Kd.R_far (p:=⟨gb411,2,none⟩) (Kd.R_far (p:=⟨gb411,1,none⟩) (Kd.R_far (p:=⟨gb411,0,none⟩) (Kd.R_types HO_4.out BK411.out (by decide)) (fun _ hk => hk.2) (.string ((rd_T46 l0_0 x25_1).f0))) (fun _ hk => hk.2) (.string ((rd_T46 l0_0 x25_1).f1))) (fun _ hk => hk.2) (.int .i64 ((rd_T46 l0_0 x25_1).f2))) (fun _ h_ => h_.1))) hb);replace BK407:=zb0 BK407 hb;replace BK409:=zb0 BK409 hb;replace BK411:=Aside0.mk (blk_below (g:=gb411) (o:=.cells #[.string ((rd_T46 l0_0 x25_1).f0),.string ((rd_T46 l0_0 x25_1).f1),.int .i64 ((rd_T46 l0_0 x25_1).f2)] 46 (0,0)) (by refine zT0 ?_;refine blk_put (cs:=#[.string ((rd_T46 l0_0 x25_1).f0),.string ((rd_T46 l0_0 x25_1).f1),.int .i64 0]) ?_ 2 _ rfl;refine zT0 ?_;refine blk_put (cs:=#[.string ((rd_T46 l0_0 x25_1).f0),.string (⟨#[]⟩ : ByteArray),.int .i64 0]) ?_ 1 _ rfl;refine zT0 ?_;refine blk_put (cs:=#[.string (⟨#[]⟩ : ByteArray),.string (⟨#[]⟩ : ByteArray),.int .i64 0]) ?_ 0 _ rfl;exact zK0 BK411.out) hb);replace HB:=zs0 HB hb;(try clear hb);(try clear hk)) | ((with_reducible refine gate_builtin (b:=.append) (xs:=#[.tmp 34,.tmp 36]) rfl ?_);at_builtin;refine Kd.R_append (Kd.int .i64) (w0:=w) w.heap.size rfl (.tmp 34) (.tmp 36) 26 3 (.int .i64 0) 8 rfl Tryz.underlying26 info3 rfl (by decide) (by omega) u4 x4_1 t412 [.int .i64 t412] (fun k_ => k_ ≠ gb409) (fun _ => False) rfl rfl ?aP (fun _ hk => hk.elim) ?aF ?aO ?aB ?aS ?aL ?_;(case aP => exact rfl);(case aB => exact (zY0 HB.out));(case aF => exact (fun k_ hk => Kd.freshB (g:=gb409) (o:=.cells #[.int .i64 x410000_1] 3 (0,0)) (zK0 BK409.out) k_ hk));(case aO => exact (zR0 HO_4.out));(case aS => exact (zZ0 HB.out));(case aL => have:=LMc21.out;omega);intro v414 w29 ho hb hg hat;rw [← Ny413.out] at ho;replace BK407:=Aside0.mk (blk_grown (g:=gb407) (o:=.cells #[.slice (some ad410) l0_0.length c0_0] 31 (0,0)) (zK0 BK407.out) hg (Kd.R_ne HO_4.out BK407.out (by decide)));replace BK409:=Aside0.mk (blk_grown (g:=gb409) (o:=.cells #[.int .i64 x410000_1] 3 (0,0)) (zK0 BK409.out) hg (Kd.R_away HO_4.out (fun _ hk => hk)));replace BK411:=Aside0.mk (blk_grown (g:=gb411) (o:=.cells #[.string ((rd_T46 l0_0 x25_1).f0),.string ((rd_T46 l0_0 x25_1).f1),.int .i64 ((rd_T46 l0_0 x25_1).f2)] 46 (0,0)) (zK0 BK411.out) hg (Kd.R_ne HO_4.out BK411.out (by decide)));replace HB:=Aside0.mk hb;have HO415:=Aside0.mk ho;clear HO_4;clear ho hb hg hat;obtain ⟨_,_,_,_,_,_⟩:=zd03 BK411) | ((with_reducible refine gate_callee (f:=21) rfl ?_);refine goesL_ (some 42) rfl rfl Tryz.func21 (by kernel_rfl) rfl #[.int .i64 t412,.string ((rd_T46 l0_0 x25_1).f1)] rfl zM0 ?_;(with_reducible refine (impl_headOf.calls k1 t412 ((rd_T46 l0_0 x25_1).f1) t416 t417 t418 _ A22.out).mono ?_);rintro e w31 ⟨rfl,hb⟩;refine ⟨_,rfl,?_⟩;replace HO415:=Aside0.mk (Kd.R_below (zR0 HO415.out) hb);replace BK407:=zb0 BK407 hb;replace BK409:=zb0 BK409 hb;replace BK411:=zb0 BK411 hb;replace HB:=zs0 HB hb;(try clear hb);(try clear hk);obtain ⟨_,_⟩:=zn0 NB409_407;obtain ⟨_,_⟩:=zd01 BK409))
         go_roundg k1
         case measure => have:=HK1.out;omega
         case rel => exact ⟨(y413),(wrap64 (x25_1 + 1)),(ji23),zE0,H',⟨by have:=HK1.out;omega⟩,⟨by refine zV0 ?_;exact Kd.R_mono (Kd.R_far (p:=⟨gb409,0,none⟩) (Kd.R_mono HO415.out (fun k_ hk => (⟨hk,hk⟩ : _ ∧ k_ ≠ gb409))) (fun _ hk => hk.2) (.int .i64 ji23)) (fun _ hk => hk.1)⟩,⟨zK0 BK407.out⟩,⟨by refine zT0 ?_;refine blk_put (cs:=#[.int .i64 x410000_1]) ?_ 0 _ rfl;exact zK0 BK409.out⟩,⟨zY0 HB.out⟩⟩
        ·rw [if_neg c21] at H
         exact absurd H (by simp)
      ·rw [if_neg c13] at H
       exact absurd H (by simp)
     ·rw [if_neg c12] at H
      exact absurd H (by simp)
    ·rw [if_neg c11] at H
     have c11b0 : decide (x25_1 < (l0_0.length : Int)) = false:=decide_eq_false c11
     clear c11
     obtain ⟨t419,A34,H⟩:=bX0 H
     obtain ⟨t420,A35,H⟩:=bX0 H
     have H':=Aside0.mk H
     clear H
     obtain ⟨Ao36,co36,eo36⟩:=Kd.R_slice HO_4.out
     subst eo36
     go_wp2_with (first | ((with_reducible refine gate_callee (f:=22) rfl ?_);refine goesL_ (some 51) rfl rfl Tryz.func22 (by kernel_rfl) rfl #[.slice Ao36 x4_1.length co36] rfl zM0 ?_;(with_reducible refine (slices_Sort_i.calls (fun k_ => some k_ = (.slice Ao36 x4_1.length co36 : Value).ownBlock) (.slice Ao36 x4_1.length co36) x4_1 t419 w _ ?side1 ?side2 A34.out).mono ?_);(case side1 => repeat (first | (with_reducible first | exact HB.out | apply below_alloc | apply pw_below_drewN | apply below_drew1 | refine below_set ?_ GE407.out | refine below_set ?_ GE409.out) | exact HB.out));(case side2 => exact Kd.R_tight rfl HO_4.out);rintro e w37 ⟨rfl,hy0,hb,hkp⟩;refine ⟨_,rfl,?_⟩;replace BK407:=Aside0.mk (blk_kept (zK0 BK407.out) hkp (fun hs_ => (fun e_ => (Kd.R_ne HO_4.out BK407.out (by decide)) e_) hs_));replace BK409:=Aside0.mk (blk_kept (zK0 BK409.out) hkp (fun hs_ => (fun e_ => (Kd.R_away HO_4.out (fun _ hk => hk)) e_) hs_));replace HO_4:=Aside0.mk (Kd.R_reok rfl hy0 (fun k_ e_ => HO_4.out.1 k_ e_));replace HB:=Aside0.mk hb;(try clear hb);(try clear hkp);(try clear hy0);obtain ⟨_,_⟩:=zn0 NB409_407;obtain ⟨hcz39_0,hfz39_0⟩:=zd01 BK409) | ((with_reducible refine gate_callee (f:=23) rfl ?_);refine goesL_ (some 54) rfl rfl Tryz.func23 (by kernel_rfl) rfl #[.slice Ao36 x4_1.length co36,.func (.func 24) #[] #[.pointer (some ⟨gb409,0,none⟩)]] rfl zM0 ?_;(with_reducible refine (slices_DeleteFunc_i.calls (fun k_ => some k_ = (.slice Ao36 x4_1.length co36 : Value).ownBlock) (.slice Ao36 x4_1.length co36) t419 x410000_1 t420 w _ ?side1 ?side2 A35.out gb409 ?side3 ?side4).mono ?_);(case side3 => exact zK0 BK409.out);(case side4 => exact Kd.R_away HO_4.out (fun _ hk => hk));(case side1 => repeat (first | (with_reducible first | exact HB.out | apply below_alloc | apply pw_below_drewN | apply below_drew1 | refine below_set ?_ GE407.out | refine below_set ?_ GE409.out) | exact HB.out));(case side2 => exact Kd.R_tight rfl HO_4.out);rintro e w40 ⟨v421,rfl,ho0,hb,hkp⟩;refine ⟨_,rfl,?_⟩;replace BK407:=Aside0.mk (blk_kept (zK0 BK407.out) hkp (fun hs_ => (fun e_ => (Kd.R_ne HO_4.out BK407.out (by decide)) e_) hs_));have HO422:=Aside0.mk (Kd.R_mono (ok':=fun k_ => k_ ≠ gb409) ho0 (fun k_ hk_ => Or.elim hk_ (fun hs_ => fun e_ => (Kd.R_away HO_4.out (fun _ hk => hk)) (by rw [← e_];exact hs_)) (fun hn_ => (Kd.freshB (g:=gb409) (o:=.cells #[.int .i64 x410000_1] 3 (0,0)) (zK0 BK409.out) k_ hn_))));replace BK409:=Aside0.mk (blk_kept (zK0 BK409.out) hkp (fun hs_ => (fun e_ => (Kd.R_away HO_4.out (fun _ hk => hk)) e_) hs_));replace HB:=Aside0.mk hb;clear HO_4;(try clear hb);(try clear hkp);(try clear ho0);obtain ⟨Ao41,co41,eo41⟩:=Kd.R_slice HO422.out;subst eo41))
     go_loopg [57] k1 (fun kq v57 w' => ∃ (x57_2 : Int),v57 = .int .i64 x57_2 ∧ Aside0 (impl_Segments.l1 kq t420 t420 (t420.length : Int) x57_2 l0_0 = some (r1,r2)) ∧ Aside0 (kq ≤ k1) ∧ Aside0 (Kd.R (Kd.int .i64) 3 w' w.heap.size (fun k_ => k_ ≠ gb409) (.slice Ao41 t420.length co41) t420) ∧ Aside0 (Kd.R (Kd.int .i64) 3 w' w.heap.size (fun k_ => k_ ≠ gb409) (.slice Ao41 t420.length co41) t420) ∧ Aside0 (w'.heap[gb407]? = some (.cells #[(.slice A0_0 l0_0.length c0_0)] 31 (0,0))) ∧ Aside0 (w'.heap[gb409]? = some (.cells #[.int .i64 x410000_1] 3 (0,0))) ∧ Aside0 (Below w.heap.size w w'))
     case atStart => exact ⟨(0),zE0,H',⟨Nat.le_refl _⟩,⟨zR0 HO422.out⟩,⟨zR0 HO422.out⟩,⟨zK0 BK407.out⟩,⟨zK0 BK409.out⟩,⟨zY0 HB.out⟩⟩
     case round =>
      clear H'
      try clear c3
      try clear c11
      try clear c11b0
      try clear hcz10_0
      try clear hcz39_0
      try clear hcz5_0
      try clear hcz9_0
      try clear hfz10_0
      try clear hfz39_0
      try clear hfz5_0
      try clear hfz9_0
      obtain ⟨x57_2,rfl,HA,HK2,HO_4,HO_55,BK407,BK409,HB⟩:=hrel
      cases gk with
      | zero => exact absurd HA.out (by simp [impl_Segments.l1])
      | succ k2 =>
       have H:=HA.out
       clear HA
       simp only [impl_Segments.l1] at H
       by_cases c42 : x57_2 < (t420.length : Int)
       ·rw [if_pos c42] at H
        have c42b0 : decide (x57_2 < (t420.length : Int)) = true:=decide_eq_true c42
        clear c42
        by_cases c43 : 0 ≤ x57_2
        ·rw [if_pos c43] at H
         have c43b0 : decide (0 ≤ x57_2) = true:=decide_eq_true c43
         clear c43
         by_cases c44 : x57_2 < (t420.length : Int)
         ·rw [if_pos c44] at H
          have c44b0 : decide (x57_2 < (t420.length : Int)) = true:=decide_eq_true c44
          clear c44
          obtain ⟨t424,A45,H⟩:=bX0 H
          obtain ⟨⟨t425,t426⟩,A46,H⟩:=bX0 H
          dsimp only at H
          obtain ⟨⟨t427,t428,t429⟩,A47,H⟩:=bX0 H
          dsimp only at H
          by_cases c48 : t429 = true
          ·subst c48
           rw [if_pos rfl] at H
           have H':=Aside0.mk H
           clear H
           have p423 : 0 ≤ (x57_2 : Int):=zD0
           have q423 : x57_2 < (t420.length : Int):=zD0
           obtain ⟨ad423,e423,hx423_0⟩:=Kd.at_int (Kd.R_reads' HO_55.out).2.2 x57_2 p423 q423
           cases e423
           replace p423:=eq_true p423
           replace q423:=eq_true q423
           try go_wp2
           replace HO_4:=Aside0.mk (Kd.R_drew HO_4.out)
           replace HO_55:=Aside0.mk (Kd.R_drew HO_55.out)
           replace BK407:=Aside0.mk (blk_drew BK407.out)
           replace BK409:=Aside0.mk (blk_drew BK409.out)
           replace HB:=Aside0.mk (below_drew1 HB.out)
           refine start_ (n:=9) (S:=fun w' => w'.cell? ⟨gb407,0,none⟩ = some (.slice A0_0 l0_0.length c0_0)) (ds:=[]) (zF0 9 0) (by kernel_rfl) rfl rfl (zc00 BK407) (fun hHeld => ?_);refine with_tabW impl_Segments.tab19 impl_Segments.bits19 (fun HT_ HW_ => ?_)
           generalize wr.drew = w49 at HO_4 HO_55 BK407 BK409 HB hHeld ⊢
           refine zp0 1 63 9 2 HT_ ?_
           refine zt0 0 62 9 3 HT_ HW_ hHeld ?_
           refine one_ (i:=2) (N:=some 64) (zF0 9 7) rfl rfl (one_of HT_.out (by kernel_rfl)) (by decide) (fun K hK => ?_)
           refine goes_ Tryz.func26 (by kernel_rfl) rfl #[.int .i64 (rd t420 x57_2)] (by rfl) rfl rfl zM0 ?_
           with_reducible refine (impl_SegName.calls (rd t420 x57_2) t424 _ A45.out).mono ?_
           rintro e w50 ⟨rfl,hb⟩
           refine ⟨_,rfl,?_⟩
           replace HO_4:=Aside0.mk (Kd.R_below (zR0 HO_4.out) hb)
           replace HO_55:=Aside0.mk (Kd.R_below (zR0 HO_55.out) hb)
           replace BK407:=zb0 BK407 hb
           replace BK409:=zb0 BK409 hb
           replace HB:=zs0 HB hb
           (try clear hb)
           (try clear hb2)
           (try clear hk)
           (try clear hi)
           refine hK.out _ _ (zc00 BK407) (fun hHeld => ?_)
           clear hK K
           refine norm_ (a':=?_) ?_ ?_;rotate_left
           ·show Act.put _ (some 64) _ = _;simp only [Act.put,qA0,qB0,qC0,i64_w,i32_w];rfl
           refine one_ (i:=3) (N:=some 65) (zF0 9 15) rfl rfl (one_of HT_.out (by kernel_rfl)) (by decide) (fun K hK => ?_)
           refine goes_ Tryz.func25 (by kernel_rfl) rfl #[.agg #[.slice A0_0 l0_0.length c0_0],.string t424] (by rfl) rfl rfl zM0 ?_
           with_reducible refine (impl_FileAt.calls _ _ l0_0 t424 t425 t426 _ ?side1 ?side2 A46.out).mono ?_
           (case side1 => exact zA0 ((Kd.C_below HR0_0.out HB.out)))
           (case side2 => exact HC0_0.out)
           rintro e w51 ⟨rfl,hb⟩
           refine ⟨_,rfl,?_⟩
           replace HO_4:=Aside0.mk (Kd.R_below (zR0 HO_4.out) hb)
           replace HO_55:=Aside0.mk (Kd.R_below (zR0 HO_55.out) hb)
           replace BK407:=zb0 BK407 hb
           replace BK409:=zb0 BK409 hb
           replace HB:=zs0 HB hb
           (try clear hb)
           (try clear hb2)
           (try clear hk)
           (try clear hi)
           refine hK.out _ _ (zc00 BK407) (fun hHeld => ?_)
           clear hK K
           refine norm_ (a':=?_) ?_ ?_;rotate_left
           ·show Act.put _ (some 65) _ = _;simp only [Act.put,qA0,qB0,qC0,i64_w,i32_w];rfl
           refine zp0 4 61 9 31 HT_ ?_
           refine zp0 5 66 9 63 HT_ ?_
           refine zp0 6 67 9 127 HT_ ?_
           refine zp0 7 14 9 255 HT_ ?_
           refine zp0 8 15 9 511 HT_ ?_
           refine done_ (done_of HT_.out (by kernel_rfl)) ?_
           try go_wp2_with (first | ((with_reducible refine gate_callee (f:=21) rfl ?_);refine goesL_ (some 71) rfl rfl Tryz.func21 (by kernel_rfl) rfl #[.int .i64 (rd t420 x57_2),.string t425] rfl zM0 ?_;(with_reducible refine (impl_headOf.calls k2 (rd t420 x57_2) t425 t427 t428 true _ A47.out).mono ?_);rintro e w52 ⟨rfl,hb⟩;refine ⟨_,rfl,?_⟩;replace HO_4:=Aside0.mk (Kd.R_below (zR0 HO_4.out) hb);replace HO_55:=Aside0.mk (Kd.R_below (zR0 HO_55.out) hb);replace BK407:=zb0 BK407 hb;replace BK409:=zb0 BK409 hb;replace HB:=zs0 HB hb;(try clear hb)))
           go_roundg k2
           case measure => have:=HK1.out;have:=HK2.out;omega
           case rel => exact ⟨(wrap64 (x57_2 + 1)),zE0,H',⟨by have:=HK1.out;have:=HK2.out;omega⟩,⟨zR0 HO_4.out⟩,⟨zR0 HO_55.out⟩,⟨zK0 BK407.out⟩,⟨zK0 BK409.out⟩,⟨zY0 HB.out⟩⟩
          ·replace c48:=Bool.eq_false_iff.mpr c48
           subst c48
           rw [if_neg (show ¬ (false = true) by decide)] at H
           simp only [Option.some.injEq,Prod.mk.injEq] at H
           obtain ⟨rfl,rfl⟩:=H
           have p423 : 0 ≤ (x57_2 : Int):=zD0
           have q423 : x57_2 < (t420.length : Int):=zD0
           obtain ⟨ad423,e423,hx423_0⟩:=Kd.at_int (Kd.R_reads' HO_55.out).2.2 x57_2 p423 q423
           cases e423
           replace p423:=eq_true p423
           replace q423:=eq_true q423
           try go_wp2
           replace HO_4:=Aside0.mk (Kd.R_drew HO_4.out)
           replace HO_55:=Aside0.mk (Kd.R_drew HO_55.out)
           replace BK407:=Aside0.mk (blk_drew BK407.out)
           replace BK409:=Aside0.mk (blk_drew BK409.out)
           replace HB:=Aside0.mk (below_drew1 HB.out)
           refine start_ (n:=9) (S:=fun w' => w'.cell? ⟨gb407,0,none⟩ = some (.slice A0_0 l0_0.length c0_0)) (ds:=[]) (zF0 9 0) (by kernel_rfl) rfl rfl (zc00 BK407) (fun hHeld => ?_);refine with_tabW impl_Segments.tab19 impl_Segments.bits19 (fun HT_ HW_ => ?_)
           generalize wr.drew = w53 at HO_4 HO_55 BK407 BK409 HB hHeld ⊢
           refine zp0 1 63 9 2 HT_ ?_
           refine zt0 0 62 9 3 HT_ HW_ hHeld ?_
           refine one_ (i:=2) (N:=some 64) (zF0 9 7) rfl rfl (one_of HT_.out (by kernel_rfl)) (by decide) (fun K hK => ?_)
           refine goes_ Tryz.func26 (by kernel_rfl) rfl #[.int .i64 (rd t420 x57_2)] (by rfl) rfl rfl zM0 ?_
           with_reducible refine (impl_SegName.calls (rd t420 x57_2) t424 _ A45.out).mono ?_
           rintro e w54 ⟨rfl,hb⟩
           refine ⟨_,rfl,?_⟩
           replace HO_4:=Aside0.mk (Kd.R_below (zR0 HO_4.out) hb)
           replace HO_55:=Aside0.mk (Kd.R_below (zR0 HO_55.out) hb)
           replace BK407:=zb0 BK407 hb
           replace BK409:=zb0 BK409 hb
           replace HB:=zs0 HB hb
           (try clear hb)
           (try clear hb2)
           (try clear hk)
           (try clear hi)
           refine hK.out _ _ (zc00 BK407) (fun hHeld => ?_)
           clear hK K
           refine norm_ (a':=?_) ?_ ?_;rotate_left
           ·show Act.put _ (some 64) _ = _;simp only [Act.put,qA0,qB0,qC0,i64_w,i32_w];rfl
           refine one_ (i:=3) (N:=some 65) (zF0 9 15) rfl rfl (one_of HT_.out (by kernel_rfl)) (by decide) (fun K hK => ?_)
           refine goes_ Tryz.func25 (by kernel_rfl) rfl #[.agg #[.slice A0_0 l0_0.length c0_0],.string t424] (by rfl) rfl rfl zM0 ?_
           with_reducible refine (impl_FileAt.calls _ _ l0_0 t424 t425 t426 _ ?side1 ?side2 A46.out).mono ?_
           (case side1 => exact zA0 ((Kd.C_below HR0_0.out HB.out)))
           (case side2 => exact HC0_0.out)
           rintro e w55 ⟨rfl,hb⟩
           refine ⟨_,rfl,?_⟩
           replace HO_4:=Aside0.mk (Kd.R_below (zR0 HO_4.out) hb)
           replace HO_55:=Aside0.mk (Kd.R_below (zR0 HO_55.out) hb)
           replace BK407:=zb0 BK407 hb
           replace BK409:=zb0 BK409 hb
           replace HB:=zs0 HB hb
           (try clear hb)
           (try clear hb2)
           (try clear hk)
           (try clear hi)
           refine hK.out _ _ (zc00 BK407) (fun hHeld => ?_)
           clear hK K
           refine norm_ (a':=?_) ?_ ?_;rotate_left
           ·show Act.put _ (some 65) _ = _;simp only [Act.put,qA0,qB0,qC0,i64_w,i32_w];rfl
           refine zp0 4 61 9 31 HT_ ?_
           refine zp0 5 66 9 63 HT_ ?_
           refine zp0 6 67 9 127 HT_ ?_
           refine zp0 7 14 9 255 HT_ ?_
           refine zp0 8 15 9 511 HT_ ?_
           refine done_ (done_of HT_.out (by kernel_rfl)) ?_
           try go_wp2_with (first | ((with_reducible refine gate_callee (f:=21) rfl ?_);refine goesL_ (some 71) rfl rfl Tryz.func21 (by kernel_rfl) rfl #[.int .i64 (rd t420 x57_2),.string t425] rfl zM0 ?_;(with_reducible refine (impl_headOf.calls k2 (rd t420 x57_2) t425 t427 t428 false _ A47.out).mono ?_);rintro e w56 ⟨rfl,hb⟩;refine ⟨_,rfl,?_⟩;replace HO_4:=Aside0.mk (Kd.R_below (zR0 HO_4.out) hb);replace HO_55:=Aside0.mk (Kd.R_below (zR0 HO_55.out) hb);replace BK407:=zb0 BK407 hb;replace BK409:=zb0 BK409 hb;replace HB:=zs0 HB hb;(try clear hb)))
           go_ret2
           exact ⟨_,zW0,by first | exact Kd.R_nil _ _ _ _ _ | exact Kd.N_nil _ _ _ _ _ | exact Kd.V_nil _ _ _ _ _ | exact Kd.Q_nil _ _ _ _ _ | exact Kd.S_nil _ _ _ _ _,(zY0 HB.out)⟩
         ·rw [if_neg c44] at H
          exact absurd H (by simp)
        ·rw [if_neg c43] at H
         exact absurd H (by simp)
       ·rw [if_neg c42] at H
        have c42b0 : decide (x57_2 < (t420.length : Int)) = false:=decide_eq_false c42
        clear c42
        by_cases c57 : (t420.length : Int) = 0
        ·rw [if_pos c57] at H
         have c57b0 : ((t420.length : Int) == 0) = true:=beq_iff_eq.mpr c57
         have c57b1 : ((t420.length : Int) != 0) = false:=bne_eq_false_iff_eq.mpr c57
         clear c57
         simp only [Option.some.injEq,Prod.mk.injEq] at H
         obtain ⟨rfl,rfl⟩:=H
         go_wp2
         go_ret2
         exact ⟨_,zW0,by first | exact Kd.R_nil _ _ _ _ _ | exact Kd.N_nil _ _ _ _ _ | exact Kd.V_nil _ _ _ _ _ | exact Kd.Q_nil _ _ _ _ _ | exact Kd.S_nil _ _ _ _ _,(zY0 HB.out)⟩
        ·rw [if_neg c57] at H
         have c57b0 : ((t420.length : Int) == 0) = false:=beq_eq_false_iff_ne.mpr c57
         have c57b1 : ((t420.length : Int) != 0) = true:=bne_iff_ne.mpr c57
         have c57b2 : ¬ (t420 = []):=fun h_ => c57 (by rw [h_];rfl)
         simp only [Option.some.injEq,Prod.mk.injEq] at H
         obtain ⟨rfl,rfl⟩:=H
         go_wp2
         go_ret2
         exact ⟨_,zW0,by refine zV0 ?_;exact Kd.R_mono HO_4.out (fun _ hk => trivial),(zY0 HB.out)⟩
 ·replace c3:=Bool.eq_false_iff.mpr c3
  subst c3
  rw [if_neg (show ¬ (false = true) by decide)] at H
  simp only [Option.some.injEq,Prod.mk.injEq] at H
  obtain ⟨rfl,rfl⟩:=H
  go_enter Tryz.func7,Tryz.ntmps7
  go_wp2_with (first | ((with_reducible refine gate_dst (N:=1) rfl ?_);refine zy0 (cs:=#[.slice A0_0 l0_0.length c0_0]) (t:=31) ?_;intro gb407 hg w58 hbox hb;have BK407:=Aside0.mk hbox;have GW407:=zz0 hg HB;have GE407:=zz0 hg HB;replace HB:=zs0 HB hb;clear hb hbox hg;obtain ⟨_,_⟩:=zd01 BK407) | ((with_reducible refine gate_callee (f:=19) rfl ?_);refine goesL_ (some 20) rfl rfl Tryz.func19 (by kernel_rfl) rfl #[.agg #[.slice A0_0 l0_0.length c0_0]] rfl zM0 ?_;(with_reducible refine (impl_DiskOk.calls k _ _ l0_0 false _ ?side1 ?side2 A2.out).mono ?_);(case side1 => exact zA0 ((Kd.C_below HR0_0.out HB.out)));(case side2 => exact HC0_0.out);rintro e w60 ⟨rfl,hb⟩;refine ⟨_,rfl,?_⟩;replace BK407:=zb0 BK407 hb;replace HB:=zs0 HB hb;(try clear hb)))
  go_ret2
  exact ⟨_,zW0,by first | exact Kd.R_nil _ _ _ _ _ | exact Kd.N_nil _ _ _ _ _ | exact Kd.V_nil _ _ _ _ _ | exact Kd.Q_nil _ _ _ _ _ | exact Kd.S_nil _ _ _ _ _,(zY0 HB.out)⟩

/-! ### laws_eqIntS: function 8 -/
def laws_eqIntS.l0 : Nat → List Int → List Int → Int → Option (Bool)
 | 0,_,_,_ => none
 | k + 1,x0,x1,x5 => if x5 < (x0.length : Int) then (if 0 ≤ x5 then (if x5 < (x1.length : Int) then (if (rd x0 x5) = (rd x1 x5) then (laws_eqIntS.l0 k x0 x1 (wrap64 (x5 + 1))) else (some false)) else (none)) else (none)) else (some true)
def laws_eqIntS.f (k : Nat) (l0 : List Int) (l1 : List Int) : Option (Bool):=if (l0.length : Int) = (l1.length : Int) then (laws_eqIntS.l0 k l0 l1 0) else (some false)
theorem laws_eqIntS.mono_l : ∀ k,(∀ y0 y1 y2,LeO (laws_eqIntS.l0 k y0 y1 y2) (laws_eqIntS.l0 (k + 1) y0 y1 y2))
 | 0 => fun _ _ _ r h => by simp [laws_eqIntS.l0] at h
 | k + 1 => by
  have ih0:=laws_eqIntS.mono_l k
  ·intro y0 y1 y2
   unfold laws_eqIntS.l0
   repeat' first
  | (with_reducible exact ih0 _ _ _)
  | (with_reducible exact LeO.refl _)
  | (with_reducible exact LeO.none _)
  | (with_reducible refine LeO.ite ?_ ?_)
  | (with_reducible refine LeO.bind ?_ (fun _ => ?_))
theorem laws_eqIntS.mono : ∀ a0 a1 k,LeO (laws_eqIntS.f k a0 a1) (laws_eqIntS.f (k + 1) a0 a1):=by
 intro a0 a1 k
 have ih0:=laws_eqIntS.mono_l k
 unfold laws_eqIntS.f
 repeat' first
  | (with_reducible exact ih0 _ _ _)
  | (with_reducible exact LeO.refl _)
  | (with_reducible exact LeO.none _)
  | (with_reducible refine LeO.ite ?_ ?_)
  | (with_reducible refine LeO.bind ?_ (fun _ => ?_))
set_option maxHeartbeats 8000000 in
set_option maxRecDepth 100000 in
theorem laws_eqIntS.calls (k : Nat) (A0 : Option Addr) (c0 : Nat) (l0 : List Int) (A1 : Option Addr) (c1 : Nat) (l1 : List Int) (r : Bool) (w : World) (hr0 : Kd.C (Kd.int .i64) w A0 l0.length l0) (hc0 : l0.length ≤ c0) (hr1 : Kd.C (Kd.int .i64) w A1 l1.length l1) (hc1 : l1.length ≤ c1) (h : laws_eqIntS.f k l0 l1 = some r) :
  Calls Tryz.prog 8 #[.slice A0 l0.length c0,.slice A1 l1.length c1] w fun e w' => e = .returned (.bool r) ∧ Drawn0 w w':=by
 have HR0:=Aside0.mk hr0
 have HC0:=Aside0.mk hc0
 clear hr0 hc0
 have HR1:=Aside0.mk hr1
 have HC1:=Aside0.mk hc1
 clear hr1 hc1
 have H : (if (l0.length : Int) = (l1.length : Int) then (laws_eqIntS.l0 k l0 l1 0) else (some false)) = some r:=h
 clear h
 by_cases c3 : (l0.length : Int) = (l1.length : Int)
 ·rw [if_pos c3] at H
  have c3b0 : ((l0.length : Int) == (l1.length : Int)) = true:=beq_iff_eq.mpr c3
  have c3b1 : ((l0.length : Int) != (l1.length : Int)) = false:=bne_eq_false_iff_eq.mpr c3
  have c3b2 : (l0.length == l1.length) = true:=by first | simpa using c3 | (simp at c3 ⊢;omega)
  clear c3
  have H':=Aside0.mk H
  clear H
  go_enter Tryz.func8,Tryz.ntmps8
  go_wp2
  repeat (go_quiet (fail);try go_wp2)
  go_loopg [5] k (fun kq v5 w' => ∃ (x5_1 : Int),v5 = .int .i64 x5_1 ∧ Aside0 (laws_eqIntS.l0 kq l0 l1 x5_1 = some r) ∧ Aside0 (kq ≤ k) ∧ Drawn0 w w')
  case atStart => exact ⟨(0),zE0,H',⟨Nat.le_refl _⟩,by repeat (first | exact Drawn0.refl _ | apply Drawn0.step)⟩
  case round =>
   clear H'
   try clear c3
   try clear c3b0
   try clear c3b1
   try clear c3b2
   obtain ⟨x5_1,rfl,HA,HK1,⟨m1,rfl⟩⟩:=hrel
   cases gk with
   | zero => exact absurd HA.out (by simp [laws_eqIntS.l0])
   | succ k1 =>
    have H:=HA.out
    clear HA
    simp only [laws_eqIntS.l0] at H
    by_cases c4 : x5_1 < (l0.length : Int)
    ·rw [if_pos c4] at H
     have c4b0 : decide (x5_1 < (l0.length : Int)) = true:=decide_eq_true c4
     clear c4
     by_cases c5 : 0 ≤ x5_1
     ·rw [if_pos c5] at H
      have c5b0 : decide (0 ≤ x5_1) = true:=decide_eq_true c5
      clear c5
      by_cases c6 : x5_1 < (l1.length : Int)
      ·rw [if_pos c6] at H
       have c6b0 : decide (x5_1 < (l1.length : Int)) = true:=decide_eq_true c6
       clear c6
       by_cases c7 : (rd l0 x5_1) = (rd l1 x5_1)
       ·rw [if_pos c7] at H
        have c7b0 : ((rd l0 x5_1) == (rd l1 x5_1)) = true:=beq_iff_eq.mpr c7
        have c7b1 : ((rd l0 x5_1) != (rd l1 x5_1)) = false:=bne_eq_false_iff_eq.mpr c7
        clear c7
        have H':=Aside0.mk H
        clear H
        have p430 : 0 ≤ (x5_1 : Int):=zD0
        have q430 : x5_1 < (l0.length : Int):=zD0
        obtain ⟨ad430,e430,hx430_0⟩:=Kd.at_int HR0.out x5_1 p430 q430
        cases e430
        replace p430:=eq_true p430
        replace q430:=eq_true q430
        have p431 : 0 ≤ (x5_1 : Int):=zD0
        have q431 : x5_1 < (l1.length : Int):=zD0
        obtain ⟨ad431,e431,hx431_0⟩:=Kd.at_int HR1.out x5_1 p431 q431
        cases e431
        replace p431:=eq_true p431
        replace q431:=eq_true q431
        go_wp2
        repeat (go_quiet (fail);try go_wp2)
        go_roundg k1
        case measure => have:=HK1.out;omega
        case rel => exact ⟨(wrap64 (x5_1 + 1)),zE0,H',⟨by have:=HK1.out;omega⟩,by repeat (first | exact Drawn0.refl _ | apply Drawn0.step)⟩
       ·rw [if_neg c7] at H
        have c7b0 : ((rd l0 x5_1) == (rd l1 x5_1)) = false:=beq_eq_false_iff_ne.mpr c7
        have c7b1 : ((rd l0 x5_1) != (rd l1 x5_1)) = true:=bne_iff_ne.mpr c7
        obtain rfl:=Option.some.inj H
        have p430 : 0 ≤ (x5_1 : Int):=zD0
        have q430 : x5_1 < (l0.length : Int):=zD0
        obtain ⟨ad430,e430,hx430_0⟩:=Kd.at_int HR0.out x5_1 p430 q430
        cases e430
        replace p430:=eq_true p430
        replace q430:=eq_true q430
        have p431 : 0 ≤ (x5_1 : Int):=zD0
        have q431 : x5_1 < (l1.length : Int):=zD0
        obtain ⟨ad431,e431,hx431_0⟩:=Kd.at_int HR1.out x5_1 p431 q431
        cases e431
        replace p431:=eq_true p431
        replace q431:=eq_true q431
        go_wp2
        repeat (go_quiet (fail);try go_wp2)
        go_ret
        exact ⟨by first | rfl | (simp;done) | (simp [*];done),by repeat (first | exact Drawn0.refl _ | apply Drawn0.step)⟩
      ·rw [if_neg c6] at H
       exact absurd H (by simp)
     ·rw [if_neg c5] at H
      exact absurd H (by simp)
    ·rw [if_neg c4] at H
     have c4b0 : decide (x5_1 < (l0.length : Int)) = false:=decide_eq_false c4
     clear c4
     obtain rfl:=Option.some.inj H
     go_wp2
     repeat (go_quiet (fail);try go_wp2)
     go_ret
     exact ⟨by first | rfl | (simp;done) | (simp [*];done),by repeat (first | exact Drawn0.refl _ | apply Drawn0.step)⟩
 ·rw [if_neg c3] at H
  have c3b0 : ((l0.length : Int) == (l1.length : Int)) = false:=beq_eq_false_iff_ne.mpr c3
  have c3b1 : ((l0.length : Int) != (l1.length : Int)) = true:=bne_iff_ne.mpr c3
  have c3b2 : (l0.length == l1.length) = false:=by first | simpa using c3 | (simp at c3 ⊢;omega)
  obtain rfl:=Option.some.inj H
  go_enter Tryz.func8,Tryz.ntmps8
  go_wp2
  repeat (go_quiet (fail);try go_wp2)
  go_ret
  exact ⟨by first | rfl | (simp;done) | (simp [*];done),by repeat (first | exact Drawn0.refl _ | apply Drawn0.step)⟩

/-! ### laws_eqFile: function 51 -/
def laws_eqFile.f (a0_0 : ByteArray) (a0_1 : ByteArray) (a0_2 : Int) (a1_0 : ByteArray) (a1_1 : ByteArray) (a1_2 : Int) : Option (Bool):=if a0_0.toList = a1_0.toList then (if a0_1.toList = a1_1.toList then (if a0_2 = a1_2 then (some true) else (some false)) else (some false)) else (some false)
set_option maxHeartbeats 8000000 in
set_option maxRecDepth 100000 in
theorem laws_eqFile.calls (a0_0 : ByteArray) (a0_1 : ByteArray) (a0_2 : Int) (a1_0 : ByteArray) (a1_1 : ByteArray) (a1_2 : Int) (r : Bool) (w : World) (h : laws_eqFile.f a0_0 a0_1 a0_2 a1_0 a1_1 a1_2 = some r) :
  Calls Tryz.prog 51 #[.agg #[.string a0_0,.string a0_1,.int .i64 a0_2],.agg #[.string a1_0,.string a1_1,.int .i64 a1_2]] w fun e w' => e = .returned (.bool r) ∧ Below w.heap.size w w':=by
 have hu46:=Tryz.underlying46
 have HB:=Aside0.mk (Below.refl w.heap.size w)
 have H : (if a0_0.toList = a1_0.toList then (if a0_1.toList = a1_1.toList then (if a0_2 = a1_2 then (some true) else (some false)) else (some false)) else (some false)) = some r:=h
 clear h
 by_cases c3 : a0_0.toList = a1_0.toList
 ·rw [if_pos c3] at H
  have c3b0 : (a0_0.toList == a1_0.toList) = true:=beq_iff_eq.mpr c3
  have c3b1 : (a0_0.toList != a1_0.toList) = false:=bne_eq_false_iff_eq.mpr c3
  clear c3
  by_cases c4 : a0_1.toList = a1_1.toList
  ·rw [if_pos c4] at H
   have c4b0 : (a0_1.toList == a1_1.toList) = true:=beq_iff_eq.mpr c4
   have c4b1 : (a0_1.toList != a1_1.toList) = false:=bne_eq_false_iff_eq.mpr c4
   clear c4
   by_cases c5 : a0_2 = a1_2
   ·rw [if_pos c5] at H
    have c5b0 : (a0_2 == a1_2) = true:=beq_iff_eq.mpr c5
    have c5b1 : (a0_2 != a1_2) = false:=bne_eq_false_iff_eq.mpr c5
    clear c5
    obtain rfl:=Option.some.inj H
    go_enter Tryz.func51,Tryz.ntmps51
    go_wp2_with (first | ((with_reducible refine gate_dst (N:=2) rfl ?_);refine zy0 (cs:=#[.string a0_0,.string a0_1,.int .i64 a0_2]) (t:=46) ?_;intro gb432 hg w6 hbox hb;have BK432:=Aside0.mk hbox;have GW432:=zz0 hg HB;have GE432:=zz0 hg HB;replace HB:=zs0 HB hb;clear hb hbox hg) | ((with_reducible refine gate_dst (N:=3) rfl ?_);refine zy0 (cs:=#[.string a1_0,.string a1_1,.int .i64 a1_2]) (t:=46) ?_;intro gb433 hg w7 hbox hb;have BK433:=Aside0.mk hbox;have GW433:=zz0 hg HB;have GE433:=zz0 hg HB;replace HB:=zs0 HB hb;have NB432_433:=zl0 hg BK432;have NB433_432:=zg0 hg BK432;replace BK432:=zb0 BK432 hb;clear hb hbox hg;obtain ⟨_,_⟩:=zn0 NB432_433;obtain ⟨hcz9_0,_,_,hfz9_0,_,_⟩:=zd03 BK432;obtain ⟨hcz10_0,_,_,hfz10_0,_,_⟩:=zd03 BK433))
    go_ret
    exact ⟨zW0,(zY0 HB.out)⟩
   ·rw [if_neg c5] at H
    have c5b0 : (a0_2 == a1_2) = false:=beq_eq_false_iff_ne.mpr c5
    have c5b1 : (a0_2 != a1_2) = true:=bne_iff_ne.mpr c5
    obtain rfl:=Option.some.inj H
    go_enter Tryz.func51,Tryz.ntmps51
    go_wp2_with (first | ((with_reducible refine gate_dst (N:=2) rfl ?_);refine zy0 (cs:=#[.string a0_0,.string a0_1,.int .i64 a0_2]) (t:=46) ?_;intro gb432 hg w11 hbox hb;have BK432:=Aside0.mk hbox;have GW432:=zz0 hg HB;have GE432:=zz0 hg HB;replace HB:=zs0 HB hb;clear hb hbox hg) | ((with_reducible refine gate_dst (N:=3) rfl ?_);refine zy0 (cs:=#[.string a1_0,.string a1_1,.int .i64 a1_2]) (t:=46) ?_;intro gb433 hg w12 hbox hb;have BK433:=Aside0.mk hbox;have GW433:=zz0 hg HB;have GE433:=zz0 hg HB;replace HB:=zs0 HB hb;have NB432_433:=zl0 hg BK432;have NB433_432:=zg0 hg BK432;replace BK432:=zb0 BK432 hb;clear hb hbox hg;obtain ⟨_,_⟩:=zn0 NB432_433;obtain ⟨_,_,_,_,_,_⟩:=zd03 BK432;obtain ⟨_,_,_,_,_,_⟩:=zd03 BK433))
    go_ret
    exact ⟨zW0,(zY0 HB.out)⟩
  ·rw [if_neg c4] at H
   have c4b0 : (a0_1.toList == a1_1.toList) = false:=beq_eq_false_iff_ne.mpr c4
   have c4b1 : (a0_1.toList != a1_1.toList) = true:=bne_iff_ne.mpr c4
   obtain rfl:=Option.some.inj H
   go_enter Tryz.func51,Tryz.ntmps51
   go_wp2_with (first | ((with_reducible refine gate_dst (N:=2) rfl ?_);refine zy0 (cs:=#[.string a0_0,.string a0_1,.int .i64 a0_2]) (t:=46) ?_;intro gb432 hg w16 hbox hb;have BK432:=Aside0.mk hbox;have GW432:=zz0 hg HB;have GE432:=zz0 hg HB;replace HB:=zs0 HB hb;clear hb hbox hg) | ((with_reducible refine gate_dst (N:=3) rfl ?_);refine zy0 (cs:=#[.string a1_0,.string a1_1,.int .i64 a1_2]) (t:=46) ?_;intro gb433 hg w17 hbox hb;have BK433:=Aside0.mk hbox;have GW433:=zz0 hg HB;have GE433:=zz0 hg HB;replace HB:=zs0 HB hb;have NB432_433:=zl0 hg BK432;have NB433_432:=zg0 hg BK432;replace BK432:=zb0 BK432 hb;clear hb hbox hg;obtain ⟨_,_⟩:=zn0 NB432_433;obtain ⟨hcz19_0,hcz19_1,hcz19_2,hfz19_0,hfz19_1,hfz19_2⟩:=zd03 BK432;obtain ⟨_,_,_,_,_,_⟩:=zd03 BK433))
   go_ret
   exact ⟨zW0,(zY0 HB.out)⟩
 ·rw [if_neg c3] at H
  have c3b0 : (a0_0.toList == a1_0.toList) = false:=beq_eq_false_iff_ne.mpr c3
  have c3b1 : (a0_0.toList != a1_0.toList) = true:=bne_iff_ne.mpr c3
  obtain rfl:=Option.some.inj H
  go_enter Tryz.func51,Tryz.ntmps51
  go_wp2_with (first | ((with_reducible refine gate_dst (N:=2) rfl ?_);refine zy0 (cs:=#[.string a0_0,.string a0_1,.int .i64 a0_2]) (t:=46) ?_;intro gb432 hg w21 hbox hb;have BK432:=Aside0.mk hbox;have GW432:=zz0 hg HB;have GE432:=zz0 hg HB;replace HB:=zs0 HB hb;clear hb hbox hg) | ((with_reducible refine gate_dst (N:=3) rfl ?_);refine zy0 (cs:=#[.string a1_0,.string a1_1,.int .i64 a1_2]) (t:=46) ?_;intro gb433 hg w22 hbox hb;have BK433:=Aside0.mk hbox;have GW433:=zz0 hg HB;have GE433:=zz0 hg HB;replace HB:=zs0 HB hb;have NB432_433:=zl0 hg BK432;have NB433_432:=zg0 hg BK432;replace BK432:=zb0 BK432 hb;clear hb hbox hg;obtain ⟨_,_⟩:=zn0 NB432_433;obtain ⟨_,_,_,_,_,_⟩:=zd03 BK432;obtain ⟨_,_,_,_,_,_⟩:=zd03 BK433))
  go_ret
  exact ⟨zW0,(zY0 HB.out)⟩

end Go.Proofs.YtlekhcopddajbaaGreatDoor.PFnExactSegments
