/- Walks, turned from a print. -/
import Derived.Test.YtlekhcopddajbaaGreatDoorOFnExactSegmentsx0
import Derived.Test.YtlekhcopddajbaaGreatDoorOFnExactSegmentsx1
import Derived.Test.YtlekhcopddajbaaGreatDoorOFnExactSegmentsx9
import Derived.Test.YtlekhcopddajbaaGreatDoorOFnExactSegmentsx10
import Derived.Test.YtlekhcopddajbaaGreatDoorOFnExactSegmentsx15
import Derived.Test.YtlekhcopddajbaaGreatDoorOFnExactSegmentsx16
import Derived.Test.YtlekhcopddajbaaGreatDoorOFnExactSegmentsx17
namespace Go.Proofs.YtlekhcopddajbaaGreatDoor.PFnExactSegments
open Go.RowKit Go.Proofs.YtlekhcopddajbaaGreatDoorW.PrintWords Go.Proofs.YtlekhcopddajbaaGreatDoorW.PrintLast Go.Proofs.YtlekhcopddajbaaGreatDoorW.PrintMore
attribute [local go_sem] max2_int min2_int max_two min_two max_three min_three max_four min_four
set_option linter.unusedVariables false
set_option linter.unusedSimpArgs false

/-! ### laws_FnExactSegments: function 3 -/
mutual
def laws_FnExactSegments.j0 : Nat → List Int → Bool → List Int → Bool → Bool → List (S59) → List (S46) → Option (Bool)
 | 0,_,_,_,_,_,_,_ => none
 | k + 1,x4,x5,x7,x8,x40,x454000,x466000 => if x40 = true then (some false) else ((laws_toDisk.f k x454000).bind fun t471 => ((laws_eqDisk.f k x466000 t471).bind fun t474 => (if t474 = true then ((laws_markDisk.f k x466000 1).bind fun bt475 => (if bt475.1 < 0 then (laws_FnExactSegments.j1 k x4 x5 x7 true x454000) else ((laws_eqIntS.f k x7 x4).bind fun t477 => (if t477 = true then (laws_FnExactSegments.j1 k x4 x5 x7 (x8 != x5) x454000) else (laws_FnExactSegments.j1 k x4 x5 x7 true x454000))))) else (some false))))
def laws_FnExactSegments.j1 : Nat → List Int → Bool → List Int → Bool → List (S59) → Option (Bool)
 | 0,_,_,_,_,_ => none
 | k + 1,x4,x5,x7,x61,x454000 => if x61 = true then (some false) else ((laws_markIntS.f k x7 1).bind fun bt478 => ((laws_heldIntS.f k bt478.2 1).bind fun t480 => (if t480 < 0 then (some false) else (if t480 = bt478.1 then ((laws_toDisk.f k x454000).bind fun t481 => ((impl_Segments.f k t481).bind fun bt484 => ((laws_eqIntS.f k bt484.1 x4).bind fun t488 => (if t488 = true then (laws_FnExactSegments.j2 k bt478.2 bt478.1 (bt484.2 != x5)) else (laws_FnExactSegments.j2 k bt478.2 bt478.1 true))))) else (some false)))))
def laws_FnExactSegments.j2 : Nat → List Int → Int → Bool → Option (Bool)
 | 0,_,_,_ => none
 | k + 1,x7,x10,x87 => if x87 = true then (some false) else ((laws_heldIntS.f k x7 1).bind fun t489 => (if t489 < 0 then (some false) else (if t489 = x10 then (some true) else (some false))))
end
def laws_FnExactSegments.f (k : Nat) (l0_0 : List (S59)) : Option (Bool):=(laws_szDisk.f k l0_0 1048576).bind fun t454 => (if t454 < 0 then (some true) else ((laws_toDisk.f k l0_0).bind fun t455 => ((spec_Segments.f k t455).bind fun bt458 => ((laws_toDisk.f k l0_0).bind fun t462 => ((impl_Segments.f k t462).bind fun bt466 => ((laws_eqIntS.f k bt466.1 bt458.1).bind fun t470 => (if t470 = true then (laws_FnExactSegments.j0 k bt458.1 bt458.2 bt466.1 bt466.2 (bt466.2 != bt458.2) l0_0 t462) else (laws_FnExactSegments.j0 k bt458.1 bt458.2 bt466.1 bt466.2 true l0_0 t462))))))))
theorem laws_FnExactSegments.mono_l : ∀ k,(∀ y0 y1 y2 y3 y4 y5 y6,LeO (laws_FnExactSegments.j0 k y0 y1 y2 y3 y4 y5 y6) (laws_FnExactSegments.j0 (k + 1) y0 y1 y2 y3 y4 y5 y6)) ∧ (∀ y0 y1 y2 y3 y4,LeO (laws_FnExactSegments.j1 k y0 y1 y2 y3 y4) (laws_FnExactSegments.j1 (k + 1) y0 y1 y2 y3 y4)) ∧ (∀ y0 y1 y2,LeO (laws_FnExactSegments.j2 k y0 y1 y2) (laws_FnExactSegments.j2 (k + 1) y0 y1 y2))
 | 0 => ⟨fun _ _ _ _ _ _ _ r h => by simp [laws_FnExactSegments.j0] at h,fun _ _ _ _ _ r h => by simp [laws_FnExactSegments.j1] at h,fun _ _ _ r h => by simp [laws_FnExactSegments.j2] at h⟩
 | k + 1 => by
  obtain ⟨ih0,ih1,ih2⟩:=laws_FnExactSegments.mono_l k
  refine ⟨?_,?_,?_⟩
  intro y0 y1 y2 y3 y4 y5 y6;unfold laws_FnExactSegments.j0;rotate_left
  intro y0 y1 y2 y3 y4;unfold laws_FnExactSegments.j1;rotate_left
  intro y0 y1 y2;unfold laws_FnExactSegments.j2;rotate_left
  all_goals repeat' first
  | (with_reducible exact ih0 _ _ _ _ _ _ _)
  | (with_reducible exact ih1 _ _ _ _ _)
  | (with_reducible exact ih2 _ _ _)
  | (with_reducible exact impl_Segments.mono _ _)
  | (with_reducible exact laws_eqDisk.mono _ _ _)
  | (with_reducible exact laws_eqIntS.mono _ _ _)
  | (with_reducible exact laws_heldIntS.mono _ _ _)
  | (with_reducible exact laws_markDisk.mono _ _ _)
  | (with_reducible exact laws_markIntS.mono _ _ _)
  | (with_reducible exact laws_szDisk.mono _ _ _)
  | (with_reducible exact laws_toDisk.mono _ _)
  | (with_reducible exact spec_Segments.mono _ _)
  | (with_reducible exact LeO.refl _)
  | (with_reducible exact LeO.none _)
  | (with_reducible refine LeO.ite ?_ ?_)
  | (with_reducible refine LeO.bind ?_ (fun _ => ?_))
theorem laws_FnExactSegments.mono : ∀ a0 k,LeO (laws_FnExactSegments.f k a0) (laws_FnExactSegments.f (k + 1) a0):=by
 intro a0 k
 obtain ⟨ih0,ih1,ih2⟩:=laws_FnExactSegments.mono_l k
 unfold laws_FnExactSegments.f
 repeat' first
  | (with_reducible exact ih0 _ _ _ _ _ _ _)
  | (with_reducible exact ih1 _ _ _ _ _)
  | (with_reducible exact ih2 _ _ _)
  | (with_reducible exact impl_Segments.mono _ _)
  | (with_reducible exact laws_eqDisk.mono _ _ _)
  | (with_reducible exact laws_eqIntS.mono _ _ _)
  | (with_reducible exact laws_heldIntS.mono _ _ _)
  | (with_reducible exact laws_markDisk.mono _ _ _)
  | (with_reducible exact laws_markIntS.mono _ _ _)
  | (with_reducible exact laws_szDisk.mono _ _ _)
  | (with_reducible exact laws_toDisk.mono _ _)
  | (with_reducible exact spec_Segments.mono _ _)
  | (with_reducible exact LeO.refl _)
  | (with_reducible exact LeO.none _)
  | (with_reducible refine LeO.ite ?_ ?_)
  | (with_reducible refine LeO.bind ?_ (fun _ => ?_))
set_option maxHeartbeats 8000000 in
set_option maxRecDepth 100000 in
theorem laws_FnExactSegments.calls (k : Nat) (A0_0 : Option Addr) (c0_0 : Nat) (l0_0 : List (S59)) (r : Bool) (w : World) (hr0_0 : Kd.C k59 w A0_0 l0_0.length l0_0) (hc0_0 : l0_0.length ≤ c0_0) (h : laws_FnExactSegments.f k l0_0 = some r) (hrt : r = true) (HTAB : Tab w) :
  Calls Tryz.prog 3 #[.agg #[.slice A0_0 l0_0.length c0_0]] w fun e w' => e = .returned (.bool r) ∧ Below w.heap.size w w':=by
 have hu24:=Tryz.underlying24
 have hu31:=Tryz.underlying31
 have HR0_0:=Aside0.mk hr0_0
 have HC0_0:=Aside0.mk hc0_0
 clear hr0_0 hc0_0
 have HB:=Aside0.mk (Below.refl w.heap.size w)
 have H : ((laws_szDisk.f k l0_0 1048576).bind fun t454 => (if t454 < 0 then (some true) else ((laws_toDisk.f k l0_0).bind fun t455 => ((spec_Segments.f k t455).bind fun bt458 => ((laws_toDisk.f k l0_0).bind fun t462 => ((impl_Segments.f k t462).bind fun bt466 => ((laws_eqIntS.f k bt466.1 bt458.1).bind fun t470 => (if t470 = true then (laws_FnExactSegments.j0 k bt458.1 bt458.2 bt466.1 bt466.2 (bt466.2 != bt458.2) l0_0 t462) else (laws_FnExactSegments.j0 k bt458.1 bt458.2 bt466.1 bt466.2 true l0_0 t462))))))))) = some r:=h
 clear h
 obtain ⟨t454,A2,H⟩:=bX0 H
 by_cases c3 : t454 < 0
 ·rw [if_pos c3] at H
  have c3b0 : decide (t454 < 0) = true:=decide_eq_true c3
  clear c3
  obtain rfl:=Option.some.inj H
  go_enter Tryz.func3,Tryz.ntmps3
  go_wp2_with (first | ((with_reducible refine gate_dst (N:=1) rfl ?_);refine zy0 (cs:=#[.slice A0_0 l0_0.length c0_0]) (t:=24) ?_;intro gb453 hg w4 hbox hb;have BK453:=Aside0.mk hbox;have GW453:=zz0 hg HB;have GE453:=zz0 hg HB;replace HB:=zs0 HB hb;clear hb hbox hg;obtain ⟨_,_⟩:=zd01 BK453) | ((with_reducible refine gate_callee (f:=4) rfl ?_);refine goesL_ (some 16) rfl rfl Tryz.func4 (by kernel_rfl) rfl #[.agg #[.slice A0_0 l0_0.length c0_0],.int .i64 1048576] rfl zM0 ?_;(with_reducible refine (laws_szDisk.calls k _ _ l0_0 1048576 t454 _ ?side1 ?side2 A2.out).mono ?_);(case side1 => exact zA0 ((Kd.C_below HR0_0.out HB.out)));(case side2 => exact HC0_0.out);rintro e w6 ⟨rfl,hb⟩;refine ⟨_,rfl,?_⟩;replace BK453:=zb0 BK453 hb;replace HB:=zs0 HB hb;(try clear hb)))
  go_ret
  exact ⟨zW0,(zY0 HB.out)⟩
 ·rw [if_neg c3] at H
  have c3b0 : decide (t454 < 0) = false:=decide_eq_false c3
  clear c3
  obtain ⟨t455,A7,H⟩:=bX0 H
  obtain ⟨⟨t458,t461⟩,A8,H⟩:=bX0 H
  dsimp only at H
  obtain ⟨t462,A9,H⟩:=bX0 H
  obtain ⟨⟨t466,t469⟩,A10,H⟩:=bX0 H
  dsimp only at H
  have HC11:=Aside0.mk H
  clear H
  go_enter Tryz.func3,Tryz.ntmps3
  go_upto_region 8 with (first | ((with_reducible refine gate_dst (N:=1) rfl ?_);refine zy0 (cs:=#[.slice A0_0 l0_0.length c0_0]) (t:=24) ?_;intro gb453 hg w12 hbox hb;have BK453:=Aside0.mk hbox;have GW453:=zz0 hg HB;have GE453:=zz0 hg HB;replace HB:=zs0 HB hb;clear hb hbox hg;obtain ⟨hcz13_0,hfz13_0⟩:=zd01 BK453) | ((with_reducible refine gate_callee (f:=4) rfl ?_);refine goesL_ (some 16) rfl rfl Tryz.func4 (by kernel_rfl) rfl #[.agg #[.slice A0_0 l0_0.length c0_0],.int .i64 1048576] rfl zM0 ?_;(with_reducible refine (laws_szDisk.calls k _ _ l0_0 1048576 t454 _ ?side1 ?side2 A2.out).mono ?_);(case side1 => exact zA0 ((Kd.C_below HR0_0.out HB.out)));(case side2 => exact HC0_0.out);rintro e w14 ⟨rfl,hb⟩;refine ⟨_,rfl,?_⟩;replace BK453:=zb0 BK453 hb;replace HB:=zs0 HB hb;(try clear hb);obtain ⟨hcz15_0,hfz15_0⟩:=zd01 BK453) | ((with_reducible refine gate_callee (f:=6) rfl ?_);refine goesL_ (some 21) rfl rfl Tryz.func6 (by kernel_rfl) rfl #[.agg #[.slice A0_0 l0_0.length c0_0]] rfl zM0 ?_;(with_reducible refine (laws_toDisk.calls k _ _ l0_0 t455 _ ?side1 ?side2 A7.out).mono ?_);(case side1 => exact zA0 ((Kd.C_below HR0_0.out HB.out)));(case side2 => exact HC0_0.out);rintro e w16 ⟨v456,rfl,ho0,hb⟩;refine ⟨_,rfl,?_⟩;have HO457:=Aside0.mk (Kd.R_lower ho0 (zZ0 HB.out));replace BK453:=zb0 BK453 hb;replace HB:=zs0 HB hb;(try clear hb);(try clear ho0);obtain ⟨Ao17,co17,eo17⟩:=Kd.R_slice HO457.out;subst eo17) | ((with_reducible refine gate_callee (f:=5) rfl ?_);refine goesL_ (some 22) rfl rfl Tryz.func5 (by kernel_rfl) rfl #[.agg #[.slice Ao17 t455.length co17]] rfl zM0 ?_;(with_reducible refine (spec_Segments.calls k _ _ t455 t458 t461 _ ?side1 ?side2 A8.out).mono ?_);(case side1 => exact zA0 ((Kd.R_reads' HO457.out).2.2));(case side2 => exact (Kd.R_reads' HO457.out).2.1);rintro e w18 ⟨v459,rfl,ho0,hb⟩;refine ⟨_,rfl,?_⟩;replace HO457:=Aside0.mk (Kd.R_below (zR0 HO457.out) hb);have HO460:=Aside0.mk (Kd.R_lower ho0 (zZ0 HB.out));replace BK453:=zb0 BK453 hb;replace HB:=zs0 HB hb;(try clear hb);(try clear ho0);obtain ⟨hcz19_0,hfz19_0⟩:=zd01 BK453) | ((with_reducible refine gate_callee (f:=6) rfl ?_);refine goesL_ (some 26) rfl rfl Tryz.func6 (by kernel_rfl) rfl #[.agg #[.slice A0_0 l0_0.length c0_0]] rfl zM0 ?_;(with_reducible refine (laws_toDisk.calls k _ _ l0_0 t462 _ ?side1 ?side2 A9.out).mono ?_);(case side1 => exact zA0 ((Kd.C_below HR0_0.out HB.out)));(case side2 => exact HC0_0.out);rintro e w20 ⟨v463,rfl,ho0,hb⟩;refine ⟨_,rfl,?_⟩;replace HO460:=Aside0.mk (Kd.R_below (zR0 HO460.out) hb);have HO464:=Aside0.mk (Kd.R_lower (Kd.R_new' ho0 (Kd.R_lt (zR0 HO457.out))) (zZ0 HB.out));replace HO457:=Aside0.mk (Kd.R_elder' (zR0 HO457.out) (Kd.R_base ho0) hb);replace BK453:=zb0 BK453 hb;replace HB:=zs0 HB hb;(try clear hb);(try clear ho0)) | ((with_reducible refine gate_dst (N:=6) rfl ?_);refine zy0 (cs:=#[.slice none 0 0]) (t:=31) ?_;intro gb465 hg w21 hbox hb;replace HO457:=Aside0.mk (Kd.R_below (zR0 HO457.out) hb);replace HO460:=Aside0.mk (Kd.R_below (zR0 HO460.out) hb);replace HO464:=Aside0.mk (Kd.R_below (zR0 HO464.out) hb);have BK465:=Aside0.mk hbox;have GW465:=zz0 hg HB;have GE465:=zz0 hg HB;replace HB:=zs0 HB hb;have NB453_465:=zl0 hg BK453;have NB465_453:=zg0 hg BK453;replace BK453:=zb0 BK453 hb;clear hb hbox hg;obtain ⟨Ao22,co22,eo22⟩:=Kd.R_slice HO464.out;subst eo22;obtain ⟨_,_⟩:=zn0 NB465_453;obtain ⟨hcz24_0,hfz24_0⟩:=zd01 BK465) | ((with_reducible refine gate_callee (f:=7) rfl ?_);refine goesL_ (some 29) rfl rfl Tryz.func7 (by kernel_rfl) rfl #[.agg #[.slice Ao22 t462.length co22]] rfl zM0 ?_;(with_reducible refine (impl_Segments.calls k _ _ t462 t466 t469 _ ?side1 ?side2 A10.out).mono ?_);(case side1 => refine (Kd.R_reads' (e:=46) (base:=w.heap.size) (ok:=fun k_ => (True ∧ some k_ ≠ (.slice Ao17 t455.length co17 : Value).ownBlock)) (n:=t462.length) (c:=co22) ?_).2.2;exact (by refine zV0 ?_;exact (Kd.R_set HO464.out BK465.out (by decide) 0 _)));(case side2 => exact (Kd.R_reads' HO464.out).2.1);rintro e w25 ⟨v467,rfl,ho0,hb⟩;refine ⟨_,rfl,?_⟩;replace HO457:=Aside0.mk (Kd.R_below (by refine zV0 ?_;exact (Kd.R_set HO457.out BK465.out (by decide) 0 _)) hb);replace HO464:=Aside0.mk (Kd.R_below (by refine zV0 ?_;exact (Kd.R_set HO464.out BK465.out (by decide) 0 _)) hb);have HO468:=Aside0.mk (Kd.R_lower (Kd.R_new' ho0 (Kd.R_lt (by refine zV0 ?_;exact (Kd.R_set HO460.out BK465.out (by decide) 0 _)))) (zZ0 HB.out));replace HO460:=Aside0.mk (Kd.R_elder' (by refine zV0 ?_;exact (Kd.R_set HO460.out BK465.out (by decide) 0 _)) (Kd.R_base ho0) hb);replace BK453:=zb0 BK453 hb;replace BK465:=Aside0.mk (blk_below (g:=gb465) (o:=.cells #[.slice Ao22 t462.length co22] 31 (0,0)) (by refine zT0 ?_;refine blk_put (cs:=#[.slice none 0 0]) ?_ 0 _ rfl;exact zK0 BK465.out) hb);replace HB:=zs0 HB hb;(try clear hb);(try clear hk);(try clear ho0)))
  (try simp only [Act.put,qA0,qB0,qC0])
  go_cut [40] (fun v40 wc => ∃ (kq : Nat) (x40_10 : Bool),v40 = .bool x40_10 ∧ Aside0 (laws_FnExactSegments.j0 kq t458 t461 t466 t469 x40_10 l0_0 t462 = some r) ∧ Aside0 (kq ≤ k) ∧ Aside0 (Kd.R (Kd.int .i64) 3 wc w.heap.size (fun k_ => some k_ ≠ (v467 : Value).ownBlock) v459 t458) ∧ Aside0 (Kd.R (Kd.int .i64) 3 wc w.heap.size (fun k_ => some k_ ≠ (v459 : Value).ownBlock) v467 t466) ∧ Aside0 (Kd.R k46 46 wc w.heap.size (fun _ => True) (.slice Ao22 t462.length co22) t462) ∧ Aside0 (wc.heap[gb453]? = some (.cells #[(.slice A0_0 l0_0.length c0_0)] 24 (0,0))) ∧ Aside0 (wc.heap[gb465]? = some (.cells #[(.slice Ao22 t462.length co22)] 31 (0,0))) ∧ Aside0 (Below w.heap.size w wc))
  case first =>
   have H:=HC11.out
   clear HC11
   obtain ⟨t470,A26,H⟩:=bX0 H
   by_cases c27 : t470 = true
   ·subst c27
    rw [if_pos rfl] at H
    have H':=Aside0.mk H
    clear H
    obtain ⟨Ao28,co28,eo28⟩:=Kd.R_slice HO468.out
    subst eo28
    obtain ⟨Ao29,co29,eo29⟩:=Kd.R_slice HO460.out
    subst eo29
    go_wp2_with (first | ((with_reducible refine gate_callee (f:=8) rfl ?_);refine goesL_ (some 34) rfl rfl Tryz.func8 (by kernel_rfl) rfl #[.slice Ao28 t466.length co28,.slice Ao29 t458.length co29] rfl zM0 ?_;(with_reducible refine (laws_eqIntS.calls k _ _ t466 _ _ t458 true _ ?side1 ?side2 ?side3 ?side4 A26.out).mono ?_);(case side1 => exact zA0 ((Kd.R_reads' HO468.out).2.2));(case side2 => exact (Kd.R_reads' HO468.out).2.1);(case side3 => exact zA0 ((Kd.R_reads' HO460.out).2.2));(case side4 => exact (Kd.R_reads' HO460.out).2.1);rintro e w' ⟨rfl,⟨nd,rfl⟩⟩;refine ⟨_,rfl,?_⟩))
    go_meet
    case rel => exact ⟨_,((t469 != t461)),zE0,H',⟨by first | omega | exact Nat.le_refl _⟩,⟨by refine zV0 ?_;exact Kd.R_mono HO460.out (fun _ hk => hk.2)⟩,⟨by refine zV0 ?_;exact Kd.R_mono HO468.out (fun _ hk => hk.2)⟩,⟨by refine zV0 ?_;exact Kd.R_mono HO464.out (fun _ hk => trivial)⟩,⟨zK0 BK453.out⟩,⟨zK0 BK465.out⟩,⟨zY0 HB.out⟩⟩
   ·replace c27:=Bool.eq_false_iff.mpr c27
    subst c27
    have H1 : (laws_FnExactSegments.j0 k t458 t461 t466 t469 true l0_0 t462) = some r:=by rw [if_neg (show ¬ (false = true) by decide)] at H;exact H
    exact absurd (H1.trans (congrArg some hrt)) (by first | simp | (cases k <;> simp [laws_FnExactSegments.j0,laws_FnExactSegments.j1,laws_FnExactSegments.j2]))
  case rest =>
   clear HC11
   try clear c3
   try clear c3b0
   try clear hcz13_0
   try clear hcz15_0
   try clear hcz19_0
   try clear hcz24_0
   try clear hfz13_0
   try clear hfz15_0
   try clear hfz19_0
   try clear hfz24_0
   obtain ⟨kq,x40_10,rfl,HA,HJ10,HO_4,HO_7,HO_466000,BK453,BK465,HB⟩:=hcut
   cases kq with
   | zero => exact absurd HA.out (by simp [laws_FnExactSegments.j0])
   | succ kj10 =>
    have H:=HA.out
    clear HA
    simp only [laws_FnExactSegments.j0] at H
    by_cases c32 : x40_10 = true
    ·subst c32
     have H1 : (some false) = some r:=by rw [if_pos rfl] at H;exact H
     exact absurd (H1.trans (congrArg some hrt)) (by first | simp | (cases kj10 <;> simp [laws_FnExactSegments.j0,laws_FnExactSegments.j1,laws_FnExactSegments.j2]) | (cases k <;> simp [laws_FnExactSegments.j0,laws_FnExactSegments.j1,laws_FnExactSegments.j2]))
    ·replace c32:=Bool.eq_false_iff.mpr c32
     subst c32
     rw [if_neg (show ¬ (false = true) by decide)] at H
     obtain ⟨t471,A33,H⟩:=bX0 H
     obtain ⟨t474,A34,H⟩:=bX0 H
     by_cases c35 : t474 = true
     ·subst c35
      rw [if_pos rfl] at H
      obtain ⟨⟨t475,t476⟩,A36,H⟩:=bX0 H
      dsimp only at H
      have HC37:=Aside0.mk H
      clear H
      try go_wp2
      replace HO_4:=Aside0.mk (Kd.R_drew HO_4.out)
      replace HO_7:=Aside0.mk (Kd.R_drew HO_7.out)
      replace HO_466000:=Aside0.mk (Kd.R_drew HO_466000.out)
      replace BK453:=Aside0.mk (blk_drew BK453.out)
      replace BK465:=Aside0.mk (blk_drew BK465.out)
      replace HB:=Aside0.mk (below_drew1 HB.out)
      refine start_ (n:=5) (S:=fun w' => w'.cell? ⟨gb465,0,none⟩ = some (.slice Ao22 t462.length co22) ∧ w'.cell? ⟨gb453,0,none⟩ = some (.slice A0_0 l0_0.length c0_0)) (ds:=[]) (zF0 5 0) (by kernel_rfl) rfl rfl ⟨zc00 BK465,zc00 BK453⟩ (fun hHeld => ?_)
      generalize wc.drew = w38 at HO_4 HO_7 HO_466000 BK453 BK465 HB hHeld ⊢
      refine take_ (i:=0) (N:=some 41) (v:=?_) (a':=?_) (zF0 5 1) rfl rfl (by kernel_rfl) (fun _ _ _ h => h) (Or.inl ⟨by rfl,?_⟩) hHeld ?_ ?_;rotate_left
      ·rintro w' ⟨s0,s1⟩
       go_simp
       with_reducible rfl
      rotate_left
      ·simp only [Act.put,qA0,qB0,qC0,i64_w,i32_w];rfl
      refine take_ (i:=1) (N:=some 42) (v:=?_) (a':=?_) (zF0 5 3) rfl rfl (by kernel_rfl) (fun _ _ _ h => h) (Or.inl ⟨by rfl,?_⟩) hHeld ?_ ?_;rotate_left
      ·rintro w' ⟨s0,s1⟩
       go_simp
       with_reducible rfl
      rotate_left
      ·simp only [Act.put,qA0,qB0,qC0,i64_w,i32_w];rfl
      refine one_ (i:=2) (N:=some 43) (zF0 5 7) rfl rfl (by kernel_rfl) (by decide) (fun K hK => ?_)
      refine goes_ Tryz.func6 (by kernel_rfl) rfl #[.agg #[.slice A0_0 l0_0.length c0_0]] (by rfl) rfl rfl zM0 ?_
      with_reducible refine (laws_toDisk.calls kj10 _ _ l0_0 t471 _ ?side1 ?side2 A33.out).mono ?_
      (case side1 => exact zA0 ((Kd.C_below HR0_0.out HB.out)))
      (case side2 => exact HC0_0.out)
      rintro e w39 ⟨v472,rfl,ho0,hb⟩
      refine ⟨_,rfl,?_⟩
      replace HO_4:=Aside0.mk (Kd.R_below (zR0 HO_4.out) hb)
      replace HO_7:=Aside0.mk (Kd.R_below (zR0 HO_7.out) hb)
      have HO473:=Aside0.mk (Kd.R_lower (Kd.R_new' ho0 (Kd.R_lt (zR0 HO_466000.out))) (zZ0 HB.out))
      replace HO_466000:=Aside0.mk (Kd.R_elder' (zR0 HO_466000.out) (Kd.R_base ho0) hb)
      replace BK453:=zb0 BK453 hb
      replace BK465:=zb0 BK465 hb
      replace HB:=zs0 HB hb
      (try clear hb)
      (try clear hb2)
      (try clear hk)
      (try clear hi)
      (try clear ho0)
      obtain ⟨Ao40,co40,eo40⟩:=Kd.R_slice HO473.out
      (first | subst eo40 | (injection eo40 with f1_ f2_ f3_;have f4_:=f1_.symm;have f5_:=f3_.symm;clear f1_ f2_ f3_;subst f4_;subst f5_))
      refine hK.out _ _ ⟨zc00 BK465,zc00 BK453⟩ (fun hHeld => ?_)
      clear hK K
      refine norm_ (a':=?_) ?_ ?_;rotate_left
      ·show Act.put _ (some 43) _ = _;simp only [Act.put,qA0,qB0,qC0,i64_w,i32_w];rfl
      refine one_ (i:=3) (N:=some 44) (zF0 5 15) rfl rfl (by kernel_rfl) (by decide) (fun K hK => ?_)
      refine goes_ Tryz.func9 (by kernel_rfl) rfl #[.agg #[.slice Ao22 t462.length co22],.agg #[.slice Ao40 t471.length co40]] (by rfl) rfl rfl zM0 ?_
      with_reducible refine (laws_eqDisk.calls kj10 _ _ t462 _ _ t471 true _ ?side1 ?side2 ?side3 ?side4 A34.out).mono ?_
      (case side1 => exact zA0 ((Kd.R_reads' HO_466000.out).2.2))
      (case side2 => exact (Kd.R_reads' HO_466000.out).2.1)
      (case side3 => exact zA0 ((Kd.R_reads' HO473.out).2.2))
      (case side4 => exact (Kd.R_reads' HO473.out).2.1)
      rintro e w41 ⟨rfl,hb⟩
      refine ⟨_,rfl,?_⟩
      replace HO_4:=Aside0.mk (Kd.R_below (zR0 HO_4.out) hb)
      replace HO_7:=Aside0.mk (Kd.R_below (zR0 HO_7.out) hb)
      replace HO_466000:=Aside0.mk (Kd.R_below (zR0 HO_466000.out) hb)
      replace HO473:=Aside0.mk (Kd.R_below (zR0 HO473.out) hb)
      replace BK453:=zb0 BK453 hb
      replace BK465:=zb0 BK465 hb
      replace HB:=zs0 HB hb
      (try clear hb)
      (try clear hb2)
      (try clear hk)
      (try clear hi)
      refine hK.out _ _ ⟨zc00 BK465,zc00 BK453⟩ (fun hHeld => ?_)
      clear hK K
      refine norm_ (a':=?_) ?_ ?_;rotate_left
      ·show Act.put _ (some 44) _ = _;simp only [Act.put,qA0,qB0,qC0,i64_w,i32_w];rfl
      refine pure_ (i:=4) (N:=some 45) (v:=?_) (a':=?_) (zF0 5 31) rfl rfl (by kernel_rfl) (fun _ _ _ h => h) (Or.inl ⟨by rfl,?_⟩) ?_ ?_;rotate_left
      ·intro w';go_simp;with_reducible rfl
      rotate_left
      ·simp only [Act.put,qA0,qB0,qC0,i64_w,i32_w];rfl
      refine done_ (by kernel_rfl) ?_
      obtain ⟨_,_⟩:=zn0 NB465_453
      obtain ⟨hcz43_0,hfz43_0⟩:=zd01 BK465
      go_upto_region 14 with (first | ((with_reducible refine gate_callee (f:=10) rfl ?_);refine goesL_ (some 48) rfl rfl Tryz.func10 (by kernel_rfl) rfl #[.agg #[.slice Ao22 t462.length co22],.int .i64 1] rfl zM0 ?_;(with_reducible refine (laws_markDisk.calls kj10 (fun k_ => some k_ = (.slice Ao22 t462.length co22 : Value).ownBlock) (.slice Ao22 t462.length co22) t462 1 t475 t476 w _ ?side1 ?side2 A36.out).mono ?_);(case side1 => repeat (first | (with_reducible first | exact HB.out | apply below_alloc | apply pw_below_drewN | apply below_drew1 | refine below_set ?_ GE453.out | refine below_set ?_ GE465.out) | exact HB.out));(case side2 => exact Kd.R_tight rfl HO_466000.out);rintro e w44 ⟨rfl,hy0,hb,hkp⟩;refine ⟨_,rfl,?_⟩;replace HO_4:=Aside0.mk (Kd.R_mono (ok':=fun k_ => some k_ ≠ (v467 : Value).ownBlock) (Kd.R_keptB ((Kd.R_apart' HO_4.out (Kd.R_typed HO_466000.out) (by decide))) hkp (fun k_ hk_ hs_ => (hk_.2) hs_)) (fun k_ hk_ => hk_.1.1));replace HO_7:=Aside0.mk (Kd.R_mono (ok':=fun k_ => some k_ ≠ (v459 : Value).ownBlock) (Kd.R_keptB ((Kd.R_apart' HO_7.out (Kd.R_typed HO_466000.out) (by decide))) hkp (fun k_ hk_ hs_ => (hk_.2) hs_)) (fun k_ hk_ => hk_.1.1));replace BK453:=Aside0.mk (blk_kept (zK0 BK453.out) hkp (fun hs_ => (fun e_ => (Kd.R_ne HO_466000.out BK453.out (by decide)) e_) hs_));replace BK465:=Aside0.mk (blk_kept (zK0 BK465.out) hkp (fun hs_ => (fun e_ => (Kd.R_ne HO_466000.out BK465.out (by decide)) e_) hs_));replace HO_466000:=Aside0.mk (Kd.R_reok rfl hy0 (fun k_ e_ => HO_466000.out.1 k_ e_));replace HO473:=Aside0.mk (Kd.R_mono (ok':=fun k_ => some k_ ≠ (.slice Ao22 t462.length co22 : Value).ownBlock) (Kd.R_keptB (HO473.out) hkp (fun k_ hk_ hs_ => (hk_.2) hs_)) (fun k_ hk_ => hk_.1.2));replace HB:=Aside0.mk hb;(try clear hb);(try clear hkp);(try clear hy0)))
      (try simp only [Act.put,qA0,qB0,qC0])
      go_cut [61] (fun v61 wc => ∃ (kq : Nat) (x61_36 : Bool),v61 = .bool x61_36 ∧ Aside0 (laws_FnExactSegments.j1 kq t458 t461 t466 x61_36 l0_0 = some r) ∧ Aside0 (kq ≤ kj10) ∧ Aside0 (Kd.R (Kd.int .i64) 3 wc w.heap.size (fun k_ => some k_ ≠ (v467 : Value).ownBlock) v459 t458) ∧ Aside0 (Kd.R (Kd.int .i64) 3 wc w.heap.size (fun k_ => some k_ ≠ (v459 : Value).ownBlock) v467 t466) ∧ Aside0 (Kd.R k46 46 wc w.heap.size (fun _ => True) (.slice Ao22 t462.length co22) t476) ∧ Aside0 (wc.heap[gb453]? = some (.cells #[(.slice A0_0 l0_0.length c0_0)] 24 (0,0))) ∧ Aside0 (wc.heap[gb465]? = some (.cells #[(.slice Ao22 t462.length co22)] 31 (0,0))) ∧ Aside0 (Below w.heap.size w wc))
      case first =>
       have H:=HC37.out
       clear HC37
       by_cases c45 : t475 < 0
       ·rw [if_pos c45] at H
        exact absurd (H.trans (congrArg some hrt)) (by first | simp | (cases kj10 <;> simp [laws_FnExactSegments.j0,laws_FnExactSegments.j1,laws_FnExactSegments.j2]) | (cases k <;> simp [laws_FnExactSegments.j0,laws_FnExactSegments.j1,laws_FnExactSegments.j2]))
       ·rw [if_neg c45] at H
        have c45b0 : decide (t475 < 0) = false:=decide_eq_false c45
        clear c45
        (first | rw [c45b0] | (simp only [i64_w,i32_w];rw [c45b0]) | skip)
        obtain ⟨t477,A46,H⟩:=bX0 H
        by_cases c47 : t477 = true
        ·subst c47
         rw [if_pos rfl] at H
         have H':=Aside0.mk H
         clear H
         obtain ⟨Ao48,co48,eo48⟩:=Kd.R_slice HO_7.out
         subst eo48
         obtain ⟨Ao49,co49,eo49⟩:=Kd.R_slice HO_4.out
         subst eo49
         go_wp2_with (first | (go_at_call 8;(with_reducible refine (laws_eqIntS.calls kj10 _ _ t466 _ _ t458 true _ ?side1 ?side2 ?side3 ?side4 A46.out).mono ?_);(case side1 => exact zA0 ((Kd.R_reads' HO_7.out).2.2));(case side2 => exact (Kd.R_reads' HO_7.out).2.1);(case side3 => exact zA0 ((Kd.R_reads' HO_4.out).2.2));(case side4 => exact (Kd.R_reads' HO_4.out).2.1);rintro e w' ⟨rfl,⟨nd,rfl⟩⟩))
         go_meet
         case rel => exact ⟨_,((t469 != t461)),zE0,H',⟨by have:=HJ10.out;first | omega | exact Nat.le_refl _⟩,⟨zR0 HO_4.out⟩,⟨zR0 HO_7.out⟩,⟨by refine zV0 ?_;exact Kd.R_mono HO_466000.out (fun _ hk => trivial)⟩,⟨zK0 BK453.out⟩,⟨zK0 BK465.out⟩,⟨zY0 HB.out⟩⟩
        ·replace c47:=Bool.eq_false_iff.mpr c47
         subst c47
         have H1 : (laws_FnExactSegments.j1 kj10 t458 t461 t466 true l0_0) = some r:=by rw [if_neg (show ¬ (false = true) by decide)] at H;exact H
         exact absurd (H1.trans (congrArg some hrt)) (by first | simp | (cases kj10 <;> simp [laws_FnExactSegments.j0,laws_FnExactSegments.j1,laws_FnExactSegments.j2]) | (cases k <;> simp [laws_FnExactSegments.j0,laws_FnExactSegments.j1,laws_FnExactSegments.j2]))
      case rest =>
       clear HC37
       try clear c3
       try clear c3b0
       try clear c32
       try clear c35
       try clear hcz13_0
       try clear hcz15_0
       try clear hcz19_0
       try clear hcz24_0
       try clear hcz43_0
       try clear hfz13_0
       try clear hfz15_0
       try clear hfz19_0
       try clear hfz24_0
       try clear hfz43_0
       obtain ⟨kq,x61_36,rfl,HA,HJ36,HO_4,HO_7,HO_466000,BK453,BK465,HB⟩:=hcut
       have hl466000_36:=(Kd.R_reads' HO_466000.out).1
       rw [hl466000_36] at HO_466000
       (try simp only [hl466000_36])
       (try simp only [hl466000_36] at BK453)
       (try simp only [hl466000_36] at BK465)
       (try simp only [hl466000_36] at HO_4)
       (try simp only [hl466000_36] at HO_7)
       cases kq with
       | zero => exact absurd HA.out (by simp [laws_FnExactSegments.j1])
       | succ kj36 =>
        have H:=HA.out
        clear HA
        simp only [laws_FnExactSegments.j1] at H
        by_cases c52 : x61_36 = true
        ·subst c52
         have H1 : (some false) = some r:=by rw [if_pos rfl] at H;exact H
         exact absurd (H1.trans (congrArg some hrt)) (by first | simp | (cases kj36 <;> simp [laws_FnExactSegments.j0,laws_FnExactSegments.j1,laws_FnExactSegments.j2]) | (cases kj10 <;> simp [laws_FnExactSegments.j0,laws_FnExactSegments.j1,laws_FnExactSegments.j2]) | (cases k <;> simp [laws_FnExactSegments.j0,laws_FnExactSegments.j1,laws_FnExactSegments.j2]))
        ·replace c52:=Bool.eq_false_iff.mpr c52
         subst c52
         rw [if_neg (show ¬ (false = true) by decide)] at H
         obtain ⟨⟨t478,t479⟩,A53,H⟩:=bX0 H
         dsimp only at H
         obtain ⟨t480,A54,H⟩:=bX0 H
         by_cases c55 : t480 < 0
         ·rw [if_pos c55] at H
          exact absurd (H.trans (congrArg some hrt)) (by first | simp | (cases kj36 <;> simp [laws_FnExactSegments.j0,laws_FnExactSegments.j1,laws_FnExactSegments.j2]) | (cases kj10 <;> simp [laws_FnExactSegments.j0,laws_FnExactSegments.j1,laws_FnExactSegments.j2]) | (cases k <;> simp [laws_FnExactSegments.j0,laws_FnExactSegments.j1,laws_FnExactSegments.j2]))
         ·rw [if_neg c55] at H
          have c55b0 : decide (t480 < 0) = false:=decide_eq_false c55
          clear c55
          by_cases c58 : t480 = t478
          ·rw [if_pos c58] at H
           have c58b0 : (t480 == t478) = true:=beq_iff_eq.mpr c58
           have c58b1 : (t480 != t478) = false:=bne_eq_false_iff_eq.mpr c58
           clear c58
           obtain ⟨t481,A59,H⟩:=bX0 H
           obtain ⟨⟨t484,t487⟩,A60,H⟩:=bX0 H
           dsimp only at H
           have HC61:=Aside0.mk H
           clear H
           obtain ⟨Ao62,co62,eo62⟩:=Kd.R_slice HO_7.out
           subst eo62
           go_upto_region 25 with (first | ((with_reducible refine gate_callee (f:=11) rfl ?_);refine goesL_ (some 64) rfl rfl Tryz.func11 (by kernel_rfl) rfl #[.slice Ao62 t466.length co62,.int .i64 1] rfl zM0 ?_;(with_reducible refine (laws_markIntS.calls kj36 (fun k_ => some k_ = (.slice Ao62 t466.length co62 : Value).ownBlock) (.slice Ao62 t466.length co62) t466 1 t478 t479 w _ ?side1 ?side2 A53.out).mono ?_);(case side1 => repeat (first | (with_reducible first | exact HB.out | apply below_alloc | apply pw_below_drewN | apply below_drew1 | refine below_set ?_ GE453.out | refine below_set ?_ GE465.out) | exact HB.out));(case side2 => exact Kd.R_tight rfl HO_7.out);rintro e w63 ⟨rfl,hy0,hb,hkp⟩;refine ⟨_,rfl,?_⟩;replace HO_4:=Aside0.mk (Kd.R_mono (ok':=fun k_ => some k_ ≠ (.slice Ao62 t466.length co62 : Value).ownBlock) (Kd.R_keptB (HO_4.out) hkp (fun k_ hk_ hs_ => (hk_) hs_)) (fun k_ hk_ => hk_.1));replace HO_466000:=Aside0.mk (Kd.R_mono (ok':=fun k_ => True) (Kd.R_keptB ((Kd.R_apart' HO_466000.out (Kd.R_typed HO_7.out) (by decide))) hkp (fun k_ hk_ hs_ => (hk_.2) hs_)) (fun k_ hk_ => trivial));replace BK453:=Aside0.mk (blk_kept (zK0 BK453.out) hkp (fun hs_ => (fun e_ => (Kd.R_ne HO_7.out BK453.out (by decide)) e_) hs_));replace BK465:=Aside0.mk (blk_kept (zK0 BK465.out) hkp (fun hs_ => (fun e_ => (Kd.R_ne HO_7.out BK465.out (by decide)) e_) hs_));replace HO_7:=Aside0.mk (Kd.R_reok rfl hy0 (fun k_ e_ => HO_7.out.1 k_ e_));replace HB:=Aside0.mk hb;(try clear hb);(try clear hkp);(try clear hy0)) | ((with_reducible refine gate_callee (f:=12) rfl ?_);refine goesL_ (some 67) rfl rfl Tryz.func12 (by kernel_rfl) rfl #[.slice Ao62 t479.length co62,.int .i64 1] rfl (by (try simp only [List.map_toArray,List.map_cons,List.map_nil]);first | done | (rw [show t479.length = t466.length from (Kd.R_reads' HO_7.out).1.symm] <;> rfl) | rfl | (simp only [List.length_drop,List.length_take];rfl)) ?_;(with_reducible refine (laws_heldIntS.calls kj36 _ _ t479 1 t480 _ ?side1 ?side2 A54.out).mono ?_);(case side1 => exact zA0 ((Kd.R_reads' HO_7.out).2.2));(case side2 => rw [show t479.length = t466.length from (Kd.R_reads' HO_7.out).1.symm];exact (Kd.R_reads' HO_7.out).2.1);rintro e w' ⟨rfl,⟨nd,rfl⟩⟩;refine ⟨_,rfl,?_⟩;obtain ⟨_,_⟩:=zn0 NB453_465;obtain ⟨hcz65_0,hfz65_0⟩:=zd01 BK453) | ((with_reducible refine gate_callee (f:=6) rfl ?_);refine goesL_ (some 75) rfl rfl Tryz.func6 (by kernel_rfl) rfl #[.agg #[.slice A0_0 l0_0.length c0_0]] rfl zM0 ?_;(with_reducible refine (laws_toDisk.calls kj36 _ _ l0_0 t481 _ ?side1 ?side2 A59.out).mono ?_);(case side1 => exact zA0 ((Kd.C_below HR0_0.out (zY0 HB.out))));(case side2 => exact HC0_0.out);rintro e w66 ⟨v482,rfl,ho0,hb⟩;refine ⟨_,rfl,?_⟩;replace HO_4:=Aside0.mk (Kd.R_below (zR0 HO_4.out) hb);replace HO_7:=Aside0.mk (Kd.R_below (zR0 HO_7.out) hb);have HO483:=Aside0.mk (Kd.R_lower (Kd.R_new' ho0 (Kd.R_lt (zR0 HO_466000.out))) (zZ0 HB.out));replace HO_466000:=Aside0.mk (Kd.R_elder' (zR0 HO_466000.out) (Kd.R_base ho0) hb);replace BK453:=zb0 BK453 hb;replace BK465:=zb0 BK465 hb;replace HB:=zs0 HB hb;(try clear hb);(try clear ho0);obtain ⟨Ao67,co67,eo67⟩:=Kd.R_slice HO483.out;subst eo67) | ((with_reducible refine gate_callee (f:=7) rfl ?_);refine goesL_ (some 76) rfl rfl Tryz.func7 (by kernel_rfl) rfl #[.agg #[.slice Ao67 t481.length co67]] rfl zM0 ?_;(with_reducible refine (impl_Segments.calls kj36 _ _ t481 t484 t487 _ ?side1 ?side2 A60.out).mono ?_);(case side1 => exact zA0 ((Kd.R_reads' HO483.out).2.2));(case side2 => exact (Kd.R_reads' HO483.out).2.1);rintro e w68 ⟨v485,rfl,ho0,hb⟩;refine ⟨_,rfl,?_⟩;replace HO_466000:=Aside0.mk (Kd.R_below (zR0 HO_466000.out) hb);replace HO483:=Aside0.mk (Kd.R_below (zR0 HO483.out) hb);have HO486:=Aside0.mk (Kd.R_lower (Kd.R_new' (Kd.R_new' ho0 (Kd.R_lt (zR0 HO_4.out))) (Kd.R_lt (zR0 HO_7.out))) (zZ0 HB.out));replace HO_4:=Aside0.mk (Kd.R_elder' (zR0 HO_4.out) (Kd.R_base ho0) hb);replace HO_7:=Aside0.mk (Kd.R_elder' (zR0 HO_7.out) (Kd.R_base ho0) hb);replace BK453:=zb0 BK453 hb;replace BK465:=zb0 BK465 hb;replace HB:=zs0 HB hb;(try clear hb);(try clear ho0)))
           (try simp only [Act.put,qA0,qB0,qC0])
           go_cut [87] (fun v87 wc => ∃ (kq : Nat) (x87_60 : Bool),v87 = .bool x87_60 ∧ Aside0 (laws_FnExactSegments.j2 kq t479 t478 x87_60 = some r) ∧ Aside0 (kq ≤ kj36) ∧ Aside0 (Kd.R (Kd.int .i64) 3 wc w.heap.size (fun _ => True) (.slice Ao62 t466.length co62) t479) ∧ Aside0 (Kd.R k46 46 wc w.heap.size (fun _ => True) (.slice Ao22 t476.length co22) t476) ∧ Aside0 (wc.heap[gb453]? = some (.cells #[(.slice A0_0 l0_0.length c0_0)] 24 (0,0))) ∧ Aside0 (wc.heap[gb465]? = some (.cells #[(.slice Ao22 t476.length co22)] 31 (0,0))) ∧ Aside0 (Below w.heap.size w wc))
           case first =>
            have H:=HC61.out
            clear HC61
            obtain ⟨t488,A69,H⟩:=bX0 H
            by_cases c70 : t488 = true
            ·subst c70
             rw [if_pos rfl] at H
             have H':=Aside0.mk H
             clear H
             obtain ⟨Ao71,co71,eo71⟩:=Kd.R_slice HO486.out
             subst eo71
             obtain ⟨Ao72,co72,eo72⟩:=Kd.R_slice HO_4.out
             subst eo72
             go_wp2_with (first | ((with_reducible refine gate_callee (f:=8) rfl ?_);refine goesL_ (some 81) rfl rfl Tryz.func8 (by kernel_rfl) rfl #[.slice Ao71 t484.length co71,.slice Ao72 t458.length co72] rfl zM0 ?_;(with_reducible refine (laws_eqIntS.calls kj36 _ _ t484 _ _ t458 true _ ?side1 ?side2 ?side3 ?side4 A69.out).mono ?_);(case side1 => exact zA0 ((Kd.R_reads' HO486.out).2.2));(case side2 => exact (Kd.R_reads' HO486.out).2.1);(case side3 => exact zA0 ((Kd.R_reads' HO_4.out).2.2));(case side4 => exact (Kd.R_reads' HO_4.out).2.1);rintro e w' ⟨rfl,⟨nd,rfl⟩⟩;refine ⟨_,rfl,?_⟩))
             go_meet
             case rel => exact ⟨_,((t487 != t461)),zE0,H',⟨by have:=HJ10.out;have:=HJ36.out;first | omega | exact Nat.le_refl _⟩,⟨by (try simp only [hl466000_36]);refine zV0 ?_;exact Kd.R_mono HO_7.out (fun _ hk => trivial)⟩,⟨by (try simp only [hl466000_36]);refine zV0 ?_;exact Kd.R_mono HO_466000.out (fun _ hk => trivial)⟩,⟨by (try simp only [hl466000_36]);exact zK0 BK453.out⟩,⟨by (try simp only [hl466000_36]);exact zK0 BK465.out⟩,⟨zY0 HB.out⟩⟩
            ·replace c70:=Bool.eq_false_iff.mpr c70
             subst c70
             have H1 : (laws_FnExactSegments.j2 kj36 t479 t478 true) = some r:=by rw [if_neg (show ¬ (false = true) by decide)] at H;exact H
             exact absurd (H1.trans (congrArg some hrt)) (by first | simp | (cases kj36 <;> simp [laws_FnExactSegments.j0,laws_FnExactSegments.j1,laws_FnExactSegments.j2]) | (cases kj10 <;> simp [laws_FnExactSegments.j0,laws_FnExactSegments.j1,laws_FnExactSegments.j2]) | (cases k <;> simp [laws_FnExactSegments.j0,laws_FnExactSegments.j1,laws_FnExactSegments.j2]))
           case rest =>
            clear HC61
            try clear c3
            try clear c3b0
            try clear c32
            try clear c35
            try clear c52
            try clear c55
            try clear c55b0
            try clear c58
            try clear c58b0
            try clear c58b1
            try clear hcz13_0
            try clear hcz15_0
            try clear hcz19_0
            try clear hcz24_0
            try clear hcz43_0
            try clear hcz65_0
            try clear hfz13_0
            try clear hfz15_0
            try clear hfz19_0
            try clear hfz24_0
            try clear hfz43_0
            try clear hfz65_0
            obtain ⟨kq,x87_60,rfl,HA,HJ60,HO_7,HO_466000,BK453,BK465,HB⟩:=hcut
            have hl7_60:=(Kd.R_reads' HO_7.out).1
            rw [hl7_60] at HO_7
            (try simp only [hl7_60])
            (try simp only [hl7_60] at BK453)
            (try simp only [hl7_60] at BK465)
            (try simp only [hl7_60] at HO_466000)
            cases kq with
            | zero => exact absurd HA.out (by simp [laws_FnExactSegments.j2])
            | succ kj60 =>
             have H:=HA.out
             clear HA
             simp only [laws_FnExactSegments.j2] at H
             by_cases c75 : x87_60 = true
             ·subst c75
              have H1 : (some false) = some r:=by rw [if_pos rfl] at H;exact H
              exact absurd (H1.trans (congrArg some hrt)) (by first | simp | (cases kj60 <;> simp [laws_FnExactSegments.j0,laws_FnExactSegments.j1,laws_FnExactSegments.j2]) | (cases kj36 <;> simp [laws_FnExactSegments.j0,laws_FnExactSegments.j1,laws_FnExactSegments.j2]) | (cases kj10 <;> simp [laws_FnExactSegments.j0,laws_FnExactSegments.j1,laws_FnExactSegments.j2]) | (cases k <;> simp [laws_FnExactSegments.j0,laws_FnExactSegments.j1,laws_FnExactSegments.j2]))
             ·replace c75:=Bool.eq_false_iff.mpr c75
              subst c75
              rw [if_neg (show ¬ (false = true) by decide)] at H
              obtain ⟨t489,A76,H⟩:=bX0 H
              by_cases c77 : t489 < 0
              ·rw [if_pos c77] at H
               exact absurd (H.trans (congrArg some hrt)) (by first | simp | (cases kj60 <;> simp [laws_FnExactSegments.j0,laws_FnExactSegments.j1,laws_FnExactSegments.j2]) | (cases kj36 <;> simp [laws_FnExactSegments.j0,laws_FnExactSegments.j1,laws_FnExactSegments.j2]) | (cases kj10 <;> simp [laws_FnExactSegments.j0,laws_FnExactSegments.j1,laws_FnExactSegments.j2]) | (cases k <;> simp [laws_FnExactSegments.j0,laws_FnExactSegments.j1,laws_FnExactSegments.j2]))
              ·rw [if_neg c77] at H
               have c77b0 : decide (t489 < 0) = false:=decide_eq_false c77
               clear c77
               by_cases c78 : t489 = t478
               ·rw [if_pos c78] at H
                have c78b0 : (t489 == t478) = true:=beq_iff_eq.mpr c78
                have c78b1 : (t489 != t478) = false:=bne_eq_false_iff_eq.mpr c78
                clear c78
                obtain rfl:=Option.some.inj H
                go_wp2_with (first | ((with_reducible refine gate_callee (f:=12) rfl ?_);refine goesL_ (some 90) rfl rfl Tryz.func12 (by kernel_rfl) rfl #[.slice Ao62 t479.length co62,.int .i64 1] rfl zM0 ?_;(with_reducible refine (laws_heldIntS.calls kj60 _ _ t479 1 t489 _ ?side1 ?side2 A76.out).mono ?_);(case side1 => exact zA0 ((Kd.R_reads' HO_7.out).2.2));(case side2 => exact (Kd.R_reads' HO_7.out).2.1);rintro e w' ⟨rfl,⟨nd,rfl⟩⟩;refine ⟨_,rfl,?_⟩))
                go_ret
                exact ⟨zW0,(zY0 HB.out)⟩
               ·rw [if_neg c78] at H
                have c78b0 : (t489 == t478) = false:=beq_eq_false_iff_ne.mpr c78
                have c78b1 : (t489 != t478) = true:=bne_iff_ne.mpr c78
                obtain rfl:=Option.some.inj H
                go_wp2_with (first | ((with_reducible refine gate_callee (f:=12) rfl ?_);refine goesL_ (some 90) rfl rfl Tryz.func12 (by kernel_rfl) rfl #[.slice Ao62 t479.length co62,.int .i64 1] rfl zM0 ?_;(with_reducible refine (laws_heldIntS.calls kj60 _ _ t479 1 t489 _ ?side1 ?side2 A76.out).mono ?_);(case side1 => exact zA0 ((Kd.R_reads' HO_7.out).2.2));(case side2 => exact (Kd.R_reads' HO_7.out).2.1);rintro e w' ⟨rfl,⟨nd,rfl⟩⟩;refine ⟨_,rfl,?_⟩))
                go_ret
                exact ⟨zW0,(zY0 HB.out)⟩
          ·rw [if_neg c58] at H
           have c58b0 : (t480 == t478) = false:=beq_eq_false_iff_ne.mpr c58
           have c58b1 : (t480 != t478) = true:=bne_iff_ne.mpr c58
           obtain rfl:=Option.some.inj H
           obtain ⟨Ao79,co79,eo79⟩:=Kd.R_slice HO_7.out
           subst eo79
           go_wp2_with (first | ((with_reducible refine gate_callee (f:=11) rfl ?_);refine goesL_ (some 64) rfl rfl Tryz.func11 (by kernel_rfl) rfl #[.slice Ao79 t466.length co79,.int .i64 1] rfl zM0 ?_;(with_reducible refine (laws_markIntS.calls kj36 (fun k_ => some k_ = (.slice Ao79 t466.length co79 : Value).ownBlock) (.slice Ao79 t466.length co79) t466 1 t478 t479 w _ ?side1 ?side2 A53.out).mono ?_);(case side1 => repeat (first | (with_reducible first | exact HB.out | apply below_alloc | apply pw_below_drewN | apply below_drew1 | refine below_set ?_ GE453.out | refine below_set ?_ GE465.out) | exact HB.out));(case side2 => exact Kd.R_tight rfl HO_7.out);rintro e w80 ⟨rfl,hy0,hb,hkp⟩;refine ⟨_,rfl,?_⟩;replace HO_4:=Aside0.mk (Kd.R_mono (ok':=fun k_ => some k_ ≠ (.slice Ao79 t466.length co79 : Value).ownBlock) (Kd.R_keptB (HO_4.out) hkp (fun k_ hk_ hs_ => (hk_) hs_)) (fun k_ hk_ => hk_.1));replace HO_466000:=Aside0.mk (Kd.R_mono (ok':=fun k_ => True) (Kd.R_keptB ((Kd.R_apart' HO_466000.out (Kd.R_typed HO_7.out) (by decide))) hkp (fun k_ hk_ hs_ => (hk_.2) hs_)) (fun k_ hk_ => trivial));replace BK453:=Aside0.mk (blk_kept (zK0 BK453.out) hkp (fun hs_ => (fun e_ => (Kd.R_ne HO_7.out BK453.out (by decide)) e_) hs_));replace BK465:=Aside0.mk (blk_kept (zK0 BK465.out) hkp (fun hs_ => (fun e_ => (Kd.R_ne HO_7.out BK465.out (by decide)) e_) hs_));replace HO_7:=Aside0.mk (Kd.R_reok rfl hy0 (fun k_ e_ => HO_7.out.1 k_ e_));replace HB:=Aside0.mk hb;(try clear hb);(try clear hkp);(try clear hy0)) | ((with_reducible refine gate_callee (f:=12) rfl ?_);refine goesL_ (some 67) rfl rfl Tryz.func12 (by kernel_rfl) rfl #[.slice Ao79 t479.length co79,.int .i64 1] rfl (by (try simp only [List.map_toArray,List.map_cons,List.map_nil]);first | done | (rw [show t479.length = t466.length from (Kd.R_reads' HO_7.out).1.symm] <;> rfl) | rfl | (simp only [List.length_drop,List.length_take];rfl)) ?_;(with_reducible refine (laws_heldIntS.calls kj36 _ _ t479 1 t480 _ ?side1 ?side2 A54.out).mono ?_);(case side1 => exact zA0 ((Kd.R_reads' HO_7.out).2.2));(case side2 => rw [show t479.length = t466.length from (Kd.R_reads' HO_7.out).1.symm];exact (Kd.R_reads' HO_7.out).2.1);rintro e w' ⟨rfl,⟨nd,rfl⟩⟩;refine ⟨_,rfl,?_⟩))
           go_ret
           exact ⟨zW0,(zY0 HB.out)⟩
     ·replace c35:=Bool.eq_false_iff.mpr c35
      subst c35
      have H1 : (some false) = some r:=by rw [if_neg (show ¬ (false = true) by decide)] at H;exact H
      exact absurd (H1.trans (congrArg some hrt)) (by first | simp | (cases kj60 <;> simp [laws_FnExactSegments.j0,laws_FnExactSegments.j1,laws_FnExactSegments.j2]) | (cases kj36 <;> simp [laws_FnExactSegments.j0,laws_FnExactSegments.j1,laws_FnExactSegments.j2]) | (cases kj10 <;> simp [laws_FnExactSegments.j0,laws_FnExactSegments.j1,laws_FnExactSegments.j2]) | (cases k <;> simp [laws_FnExactSegments.j0,laws_FnExactSegments.j1,laws_FnExactSegments.j2]))end Go.Proofs.YtlekhcopddajbaaGreatDoor.PFnExactSegments
