/- Walks, turned from a print. -/
import Derived.Test.YtgfacdhkamphiaaOFnActsx0
import Derived.Test.YtgfacdhkamphiaaOFnActsx2
import Derived.Test.YtgfacdhkamphiaaOFnActsx12
import Derived.Test.YtgfacdhkamphiaaOFnActsx16
namespace Go.Proofs.Ytgfacdhkamphiaa.PFnActs
open Go.RowKit Go.Proofs.YtgfacdhkamphiaaW.PrintWords Go.Proofs.YtgfacdhkamphiaaW.PrintLast Go.Proofs.YtgfacdhkamphiaaW.PrintMore
attribute [local go_sem] max2_int min2_int max_two min_two max_three min_three max_four min_four
set_option linter.unusedVariables false
set_option linter.unusedSimpArgs false

/-! ### impl_CutActs: function 46 -/
def impl_CutActs.f (k : Nat) (l0_0 : List (S45)) (l1 : List (S55)) (a2 : Int) (l3 : List Int) : Option ((List (S45)) × Bool):=(impl_within.f a2 0 (l1.length : Int)).bind fun t454 => (if t454 = true then (if 0 ≤ a2 then (if a2 ≤ (l1.length : Int) then ((impl_DoActs.f k l0_0 (l1.take (a2 : Int).toNat)).bind fun bt459 => (if bt459.2 < a2 then (some (([] : List (S45)),false)) else ((impl_LoseDisk.f k bt459.1 l3).bind fun bt464 => (some (bt464.1,bt464.2))))) else (none)) else (none)) else (some (([] : List (S45)),false)))
theorem impl_CutActs.mono : ∀ a0 a1 a2 a3 k,LeO (impl_CutActs.f k a0 a1 a2 a3) (impl_CutActs.f (k + 1) a0 a1 a2 a3):=by
 intro a0 a1 a2 a3 k
 unfold impl_CutActs.f
 repeat' first
  | (with_reducible exact impl_DoActs.mono _ _ _)
  | (with_reducible exact impl_LoseDisk.mono _ _ _)
  | (with_reducible exact LeO.refl _)
  | (with_reducible exact LeO.none _)
  | (with_reducible refine LeO.ite ?_ ?_)
  | (with_reducible refine LeO.bind ?_ (fun _ => ?_))
def impl_CutActs.T3 : Bool × List (List Nat × List Nat):=(true,[([],[]),([],[]),([],[]),([1,2],[1,2]),([0,3],[0,3]),([4],[4]),([5],[5]),([5],[5]),([],[]),([8,6,4,0,1,2,3,4,5,6,8],[6,8]),([7,9,0,1,2,3,4,5,6,7,8,9],[7])])
def impl_CutActs.B3 : List Nat:=[0,0,0,6,15,31,63,63,0,383,1023]
theorem impl_CutActs.tab3 : rtab .any (opsOf Try.f46 3) = impl_CutActs.T3:=by kernel_rfl
theorem impl_CutActs.bits3 : waitsOk impl_CutActs.T3.2 impl_CutActs.B3 = true:=by kernel_rfl
set_option maxHeartbeats 8000000 in
set_option maxRecDepth 100000 in
theorem impl_CutActs.calls (k : Nat) (A0_0 : Option Addr) (c0_0 : Nat) (l0_0 : List (S45)) (A1 : Option Addr) (c1 : Nat) (l1 : List (S55)) (a2 : Int) (A3 : Option Addr) (c3 : Nat) (l3 : List Int) (r1 : List (S45)) (r2 : Bool) (w : World) (hr0_0 : Kd.C k45 w A0_0 l0_0.length l0_0) (hc0_0 : l0_0.length ≤ c0_0) (hr1 : Kd.C k55 w A1 l1.length l1) (hc1 : l1.length ≤ c1) (hr3 : Kd.C (Kd.int .i64) w A3 l3.length l3) (hc3 : l3.length ≤ c3) (h : impl_CutActs.f k l0_0 l1 a2 l3 = some (r1,r2)) :
  Calls Try.prog 46 #[.agg #[.slice A0_0 l0_0.length c0_0],.slice A1 l1.length c1,.int .i64 a2,.slice A3 l3.length c3] w fun e w' => ∃ v0_ : Value,e = .returned (.tuple #[.agg #[v0_],.bool r2]) ∧ Kd.R k45 45 w' w.heap.size (fun _ => True) v0_ r1 ∧ Below w.heap.size w w':=by
 have hu30:=Try.underlying30
 have HR0_0:=Aside0.mk hr0_0
 have HC0_0:=Aside0.mk hc0_0
 clear hr0_0 hc0_0
 have HR1:=Aside0.mk hr1
 have HC1:=Aside0.mk hc1
 clear hr1 hc1
 have HR3:=Aside0.mk hr3
 have HC3:=Aside0.mk hc3
 clear hr3 hc3
 have HB:=Aside0.mk (Below.refl w.heap.size w)
 have H : ((impl_within.f a2 0 (l1.length : Int)).bind fun t454 => (if t454 = true then (if 0 ≤ a2 then (if a2 ≤ (l1.length : Int) then ((impl_DoActs.f k l0_0 (l1.take (a2 : Int).toNat)).bind fun bt459 => (if bt459.2 < a2 then (some (([] : List (S45)),false)) else ((impl_LoseDisk.f k bt459.1 l3).bind fun bt464 => (some (bt464.1,bt464.2))))) else (none)) else (none)) else (some (([] : List (S45)),false)))) = some (r1,r2):=h
 clear h
 obtain ⟨t454,A5,H⟩:=bX0 H
 by_cases c6 : t454 = true
 ·subst c6
  rw [if_pos rfl] at H
  by_cases c7 : 0 ≤ a2
  ·rw [if_pos c7] at H
   have c7b0:=eq_true c7
   have c7b1 : decide (0 ≤ a2) = true:=decide_eq_true c7
   clear c7
   by_cases c8 : a2 ≤ (l1.length : Int)
   ·rw [if_pos c8] at H
    have c8b0:=eq_true c8
    have c8b1 : decide (a2 ≤ (l1.length : Int)) = true:=decide_eq_true c8
    clear c8
    obtain ⟨y455,hy455⟩ : ∃ y_ : List (S55),y_ = (l1.take (a2 : Int).toNat):=⟨_,rfl⟩
    replace H : ((impl_DoActs.f k l0_0 y455).bind fun bt459 => (if bt459.2 < a2 then (some (([] : List (S45)),false)) else ((impl_LoseDisk.f k bt459.1 l3).bind fun bt464 => (some (bt464.1,bt464.2))))) = some (r1,r2):=by first | (rw [hy455];with_reducible exact H) | (have H2_:=(Option.bind_some _ _).symm.trans H;rw [hy455];with_reducible exact H2_) | (have H2_:=(Option.bind_some _ _).symm.trans H;with_reducible exact H2_) | with_reducible exact H | (rw [hy455];exact H) | exact H
    have Ny455:=Aside0.mk hy455
    clear hy455
    obtain ⟨⟨t459,t462⟩,A9,H⟩:=bX0 H
    dsimp only at H
    by_cases c10 : t462 < a2
    ·rw [if_pos c10] at H
     have c10b0 : decide (t462 < a2) = true:=decide_eq_true c10
     clear c10
     simp only [Option.some.injEq,Prod.mk.injEq] at H
     obtain ⟨rfl,rfl⟩:=H
     go_enter Try.func46,Try.ntmps46
     try go_wp2_with (first | ((with_reducible refine gate_dst (N:=4) rfl ?_);refine zy0 (cs:=#[.slice A0_0 l0_0.length c0_0]) (t:=30) ?_;intro gb452 hg w11 hbox hb;have BK452:=Aside0.mk hbox;have GW452:=zz0 hg HB;have GE452:=zz0 hg HB;replace HB:=zs0 HB hb;clear hb hbox hg) | ((with_reducible refine gate_dst (N:=8) rfl ?_);refine zy0 (cs:=#[.slice none 0 0]) (t:=30) ?_;intro gb453 hg w12 hbox hb;have BK453:=Aside0.mk hbox;have GW453:=zz0 hg HB;have GE453:=zz0 hg HB;replace HB:=zs0 HB hb;have NB452_453:=zl0 hg BK452;have NB453_452:=zg0 hg BK452;replace BK452:=zb0 BK452 hb;clear hb hbox hg) | ((with_reducible refine gate_callee (f:=78) rfl ?_);refine goesL_ (some 15) rfl rfl Try.func78 (by kernel_rfl) rfl #[.int .i64 a2,.int .i64 0,.int .i64 (l1.length : Int)] rfl zM0 ?_;(with_reducible refine (impl_within.calls a2 0 (l1.length : Int) true _ A5.out).mono ?_);rintro e w' ⟨rfl,⟨nd,rfl⟩⟩;refine ⟨_,rfl,?_⟩;(try (rw [drewN_self w12];generalize hq_ : World.drewN w12 _ = w12;have n0_ : Aside0 (w12.heap[gb452]? = some (.cells #[.slice A0_0 l0_0.length c0_0] 30 (0,0))):=⟨by rw [← hq_];exact (zK0 BK452.out)⟩;have n1_ : Aside0 (w12.heap[gb453]? = some (.cells #[.slice none 0 0] 30 (0,0))):=⟨by rw [← hq_];exact (zK0 BK453.out)⟩;have n2_ : Aside0 (Below w.heap.size w w12):=⟨by rw [← hq_];exact (zY0 HB.out)⟩;clear BK452 BK453 HB hq_;have BK452:=n0_;have BK453:=n1_;have HB:=n2_;clear n0_ n1_ n2_))))
     replace BK452:=Aside0.mk (blk_drew BK452.out)
     replace BK453:=Aside0.mk (blk_drew BK453.out)
     replace HB:=Aside0.mk (below_drew1 HB.out)
     have q14 : (a2 : Int) ≤ ((l1.length : Int) : Int):=zD0
     obtain ⟨i014,hi014,_,hsz14,_⟩:=info_parts info55
     have hroom14 : l1.length ≤ c1:=HC1.out
     have hC14 : Kd.C k55 _ A1 l1.length l1:=HR1.out
     have hcut14:=cut_to (P:=Try.prog) 62 55 .i64 Try.underlying62 hi014 A1 l1.length c1 a2 (zD0) q14 hroom14
     have hr14:=Kd.C_take (m:=(a2 : Int).toNat) hC14 (by omega)
     have hy14 : y455.length = (a2 : Int).toNat:=(by rw [Ny455.out,List.length_take];omega)
     rw [← Ny455.out] at hr14
     rw [← hy14] at hcut14
     have HR458:=Aside0.mk hr14
     have HC458:=Aside0.mk (show y455.length ≤ c1 from by omega)
     clear hr14 hC14 hroom14 hi014 hsz14
     have KY14:=Aside0.mk hy14
     clear hy14
     replace q14:=eq_true q14
     refine start_ (n:=11) (S:=fun w' => w'.cell? ⟨gb452,0,none⟩ = some (.slice A0_0 l0_0.length c0_0)) (ds:=[]) (zF0 11 0) (by kernel_rfl) rfl rfl (zc00 BK452) (fun hHeld => ?_);refine with_tabW impl_CutActs.tab3 impl_CutActs.bits3 (fun HT_ HW_ => ?_)
     generalize w12.drew = w13 at BK452 BK453 HB HR458 hHeld ⊢
     refine zp0 1 20 11 2 HT_ ?_
     refine zp0 2 21 11 6 HT_ ?_
     refine zp0 3 22 11 14 HT_ ?_
     refine zt0 0 19 11 15 HT_ HW_ hHeld ?_
     refine join_ (σ:=Value × Nat) 2 (zF0 11 511) (fun s_ => [(23,.tuple #[.agg #[s_.1],.int .i64 t462]),(10,.pointer (some ⟨s_.2,0,none⟩)),(18,.tuple #[.agg #[s_.1],.int .i64 t462]),(24,.agg #[s_.1]),(25,.int .i64 t462)]) (fun s_ w' => (w'.cell? ⟨gb452,0,none⟩ = some (.slice A0_0 l0_0.length c0_0)) ∧ (Kd.R k45 45 w' w.heap.size (fun _ => True) s_.1 t459) ∧ (w'.heap[gb452]? = some (.cells #[.slice A0_0 l0_0.length c0_0] 30 (0,0))) ∧ (w'.heap[gb453]? = some (.cells #[.slice none 0 0] 30 (0,0))) ∧ (w'.heap[s_.2]? = some (.cells #[.slice none 0 0] 30 (0,0))) ∧ (w.heap.size ≤ s_.2) ∧ (w.heap.size ≤ s_.2) ∧ (gb452 ≠ s_.2) ∧ (s_.2 ≠ gb452) ∧ (gb453 ≠ s_.2) ∧ (s_.2 ≠ gb453) ∧ (Below w.heap.size w w')) ?_ ?_
     rotate_left
     ·intro hCont
      refine two_ (i:=4) (j:=8) (Ni:=some 23) (Nj:=some 10) (zF0 11 31) (zF0 11 271) rfl rfl rfl rfl (two_of HT_.out (by kernel_rfl)) (by decide) (by decide) (fun K hK => ?_) (fun K hK => ?_)
      ·skip
       refine goes_ Try.func42 (by kernel_rfl) rfl #[.agg #[.slice A0_0 l0_0.length c0_0],.slice A1 y455.length c1] (by rfl) rfl rfl zM0 ?_
       with_reducible refine (impl_DoActs.calls k _ _ l0_0 _ _ y455 t459 t462 _ ?side1 ?side2 ?side3 ?side4 A9.out).mono ?_
       (case side1 => exact zA0 ((Kd.C_below HR0_0.out HB.out)))
       (case side2 => exact HC0_0.out)
       (case side3 => exact zA0 ((Kd.C_below HR458.out HB.out)))
       (case side4 => exact HC458.out)
       rintro e w15 ⟨v460,rfl,ho0,hb⟩
       refine ⟨_,rfl,?_⟩
       have HO461:=Aside0.mk (Kd.R_lower ho0 (zZ0 HB.out))
       replace BK452:=zb0 BK452 hb
       replace BK453:=zb0 BK453 hb
       replace HB:=zs0 HB hb
       (try clear hb)
       (try clear hb2)
       (try clear hk)
       (try clear hi)
       (try clear ho0)
       refine hK.out _ _ (zc00 BK452) (fun hHeld => ?_)
       clear hK K
       refine norm_ (a':=?_) ?_ ?_;rotate_left
       ·show Act.put _ (some 23) _ = _;simp only [Act.put,qA0,qB0,qC0,i64_w,i32_w];rfl
       refine zp0 5 18 11 63 HT_ ?_
       refine zp0 6 24 11 127 HT_ ?_
       refine zp0 7 25 11 255 HT_ ?_
       refine one_ (i:=8) (N:=some 10) (zF0 11 511) rfl rfl (one_of HT_.out (by kernel_rfl)) (by decide) (fun K hK => ?_)
       refine box_step ?hg (N:=10) ?hd (cs:=#[.slice none 0 0]) (t:=30) ?hr ?_;(case hd => rfl);(case hg => rfl);(case hr => first | (go_simp;done) | (go_simp;rfl))
       intro gb463 hg w16 hbox hb
       replace HO461:=Aside0.mk (Kd.R_below (zR0 HO461.out) hb)
       have BK463:=Aside0.mk hbox
       have GW463:=zz0 hg HB
       have GE463:=zz0 hg HB
       replace HB:=zs0 HB hb
       have NB452_463:=zl0 hg BK452
       have NB463_452:=zg0 hg BK452
       replace BK452:=zb0 BK452 hb
       have NB453_463:=zl0 hg BK453
       have NB463_453:=zg0 hg BK453
       replace BK453:=zb0 BK453 hb
       clear hb hbox hg
       refine hK.out _ _ (zc00 BK452) (fun hHeld => ?_)
       clear hK K
       refine norm_ (a':=?_) ?_ ?_;rotate_left
       ·show Act.put _ (some 10) _ = _;simp only [Act.put,qA0,qB0,qC0,i64_w,i32_w];rfl
       exact norm_ (by simp only [putAll,Act.put,qA0,qB0,qC0]) (hCont (v460,gb463) _ ⟨hHeld,(zR0 HO461.out),(zK0 BK452.out),(zK0 BK453.out),(zK0 BK463.out),GW463.out,GE463.out,NB452_463.out,NB463_452.out,NB453_463.out,NB463_453.out,(zY0 HB.out)⟩)
      ·skip
       refine box_step ?hg (N:=10) ?hd (cs:=#[.slice none 0 0]) (t:=30) ?hr ?_;(case hd => rfl);(case hg => rfl);(case hr => first | (go_simp;done) | (go_simp;rfl))
       intro gb463 hg w15 hbox hb
       have BK463:=Aside0.mk hbox
       have GW463:=zz0 hg HB
       have GE463:=zz0 hg HB
       replace HB:=zs0 HB hb
       have NB452_463:=zl0 hg BK452
       have NB463_452:=zg0 hg BK452
       replace BK452:=zb0 BK452 hb
       have NB453_463:=zl0 hg BK453
       have NB463_453:=zg0 hg BK453
       replace BK453:=zb0 BK453 hb
       clear hb hbox hg
       refine hK.out _ _ (zc00 BK452) (fun hHeld => ?_)
       clear hK K
       refine norm_ (a':=?_) ?_ ?_;rotate_left
       ·show Act.put _ (some 10) _ = _;simp only [Act.put,qA0,qB0,qC0,i64_w,i32_w];rfl
       refine one_ (i:=4) (N:=some 23) (zF0 11 287) rfl rfl (one_of HT_.out (by kernel_rfl)) (by decide) (fun K hK => ?_)
       refine goes_ Try.func42 (by kernel_rfl) rfl #[.agg #[.slice A0_0 l0_0.length c0_0],.slice A1 y455.length c1] (by rfl) rfl rfl zM0 ?_
       with_reducible refine (impl_DoActs.calls k _ _ l0_0 _ _ y455 t459 t462 _ ?side1 ?side2 ?side3 ?side4 A9.out).mono ?_
       (case side1 => exact zA0 ((Kd.C_below HR0_0.out HB.out)))
       (case side2 => exact HC0_0.out)
       (case side3 => exact zA0 ((Kd.C_below HR458.out HB.out)))
       (case side4 => exact HC458.out)
       rintro e w16 ⟨v460,rfl,ho0,hb⟩
       refine ⟨_,rfl,?_⟩
       have HO461:=Aside0.mk (Kd.R_lower ho0 (zZ0 HB.out))
       replace BK452:=zb0 BK452 hb
       replace BK453:=zb0 BK453 hb
       replace BK463:=zb0 BK463 hb
       replace HB:=zs0 HB hb
       (try clear hb)
       (try clear hb2)
       (try clear hk)
       (try clear hi)
       (try clear ho0)
       refine hK.out _ _ (zc00 BK452) (fun hHeld => ?_)
       clear hK K
       refine norm_ (a':=?_) ?_ ?_;rotate_left
       ·show Act.put _ (some 23) _ = _;simp only [Act.put,qA0,qB0,qC0,i64_w,i32_w];rfl
       refine zp0 5 18 11 319 HT_ ?_
       refine zp0 6 24 11 383 HT_ ?_
       refine zp0 7 25 11 511 HT_ ?_
       exact norm_ (by simp only [putAll,Act.put,qA0,qB0,qC0]) (hCont (v460,gb463) _ ⟨hHeld,(zR0 HO461.out),(zK0 BK452.out),(zK0 BK453.out),(zK0 BK463.out),GW463.out,GE463.out,NB452_463.out,NB463_452.out,NB453_463.out,NB463_453.out,(zY0 HB.out)⟩)
     rintro ⟨v460,gb463⟩ w17 ⟨hS_,h0_,h1_,h2_,h3_,h4_,h5_,h6_,h7_,h8_,h9_,h10_⟩
     have n0_ : Aside0 (Kd.R k45 45 w17 w.heap.size (fun _ => True) v460 t459):=⟨h0_⟩
     have n1_ : Aside0 (w17.heap[gb452]? = some (.cells #[.slice A0_0 l0_0.length c0_0] 30 (0,0))):=⟨h1_⟩
     have n2_ : Aside0 (w17.heap[gb453]? = some (.cells #[.slice none 0 0] 30 (0,0))):=⟨h2_⟩
     have n3_ : Aside0 (w17.heap[gb463]? = some (.cells #[.slice none 0 0] 30 (0,0))):=⟨h3_⟩
     have n4_ : Aside0 (w.heap.size ≤ gb463):=⟨h4_⟩
     have n5_ : Aside0 (w.heap.size ≤ gb463):=⟨h5_⟩
     have n6_ : Aside0 (gb452 ≠ gb463):=⟨h6_⟩
     have n7_ : Aside0 (gb463 ≠ gb452):=⟨h7_⟩
     have n8_ : Aside0 (gb453 ≠ gb463):=⟨h8_⟩
     have n9_ : Aside0 (gb463 ≠ gb453):=⟨h9_⟩
     have n10_ : Aside0 (Below w.heap.size w w17):=⟨h10_⟩
     clear BK452 BK453 HB
     clear h0_ h1_ h2_ h3_ h4_ h5_ h6_ h7_ h8_ h9_ h10_
     have HO461:=n0_
     have BK452:=n1_
     have BK453:=n2_
     have BK463:=n3_
     have GW463:=n4_
     have GE463:=n5_
     have NB452_463:=n6_
     have NB463_452:=n7_
     have NB453_463:=n8_
     have NB463_453:=n9_
     have HB:=n10_
     clear n0_ n1_ n2_ n3_ n4_ n5_ n6_ n7_ n8_ n9_ n10_
     have hHeld : w17.cell? ⟨gb452,0,none⟩ = some (.slice A0_0 l0_0.length c0_0):=hS_
     obtain ⟨Ao18,co18,eo18⟩:=Kd.R_slice HO461.out
     (first | subst eo18 | (injection eo18 with f1_ f2_ f3_;have f4_:=f1_.symm;have f5_:=f3_.symm;clear f1_ f2_ f3_;subst f4_;subst f5_))
     refine norm_ (a':=?_) ?_ ?_;rotate_left
     ·simp only [putAll,Act.put,qA0,qB0,qC0]
      rfl
     refine one_ (i:=9) (N:=none) (zF0 11 1023) rfl rfl (one_of HT_.out (by kernel_rfl)) (by decide) (fun K hK => ?_)
     have hs19 : w17.cell? ⟨gb463,0,none⟩ = some (.slice none 0 0):=zc00 BK463
     have hfs19:=blk_frozen BK463.out 0
     have hns19_0:=NB452_463.out
     have hns19_1:=NB453_463.out
     have hms19_0:=NB463_452.out
     have hms19_1:=NB463_453.out
     refine skip_ (w1:=?_) (by rfl) rfl ?_ ?_;rotate_left
     ·go_simp
      rfl
     refine hK.out _ _ (((cell_far (p:=⟨gb463,_,none⟩) NB452_463.out _).trans (hHeld))) (fun hHeld => ?_)
     clear hK K
     refine zp0 10 11 11 2047 HT_ ?_
     refine done_ (done_of HT_.out (by kernel_rfl)) ?_
     obtain ⟨_,_⟩:=zn0 NB453_452
     obtain ⟨_,_⟩:=zn0 NB453_463
     obtain ⟨_,_⟩:=zd01 BK453
     try go_wp2
     refine bodyPost_ret (results_ct rfl _ _ gb453 30 #[.slice none 0 0] (0,0) _ rfl (by refine zT0 ?_;refine blk_put (cs:=#[.slice none 0 0]) ?_ 0 _ rfl;exact zK0 BK453.out) Try.underlying30 rfl (by kernel_rfl)) rfl ?_
     exact ⟨_,zW0,by first | exact Kd.R_nil _ _ _ _ _ | exact Kd.N_nil _ _ _ _ _ | exact Kd.V_nil _ _ _ _ _ | exact Kd.Q_nil _ _ _ _ _ | exact Kd.S_nil _ _ _ _ _,(zY0 HB.out)⟩
    ·rw [if_neg c10] at H
     have c10b0 : decide (t462 < a2) = false:=decide_eq_false c10
     clear c10
     obtain ⟨⟨t464,t467⟩,A23,H⟩:=bX0 H
     dsimp only at H
     simp only [Option.some.injEq,Prod.mk.injEq] at H
     obtain ⟨rfl,rfl⟩:=H
     go_enter Try.func46,Try.ntmps46
     try go_wp2_with (first | ((with_reducible refine gate_dst (N:=4) rfl ?_);refine zy0 (cs:=#[.slice A0_0 l0_0.length c0_0]) (t:=30) ?_;intro gb452 hg w24 hbox hb;have BK452:=Aside0.mk hbox;have GW452:=zz0 hg HB;have GE452:=zz0 hg HB;replace HB:=zs0 HB hb;clear hb hbox hg) | ((with_reducible refine gate_dst (N:=8) rfl ?_);refine zy0 (cs:=#[.slice none 0 0]) (t:=30) ?_;intro gb453 hg w25 hbox hb;have BK453:=Aside0.mk hbox;have GW453:=zz0 hg HB;have GE453:=zz0 hg HB;replace HB:=zs0 HB hb;have NB452_453:=zl0 hg BK452;have NB453_452:=zg0 hg BK452;replace BK452:=zb0 BK452 hb;clear hb hbox hg) | ((with_reducible refine gate_callee (f:=78) rfl ?_);refine goesL_ (some 15) rfl rfl Try.func78 (by kernel_rfl) rfl #[.int .i64 a2,.int .i64 0,.int .i64 (l1.length : Int)] rfl zM0 ?_;(with_reducible refine (impl_within.calls a2 0 (l1.length : Int) true _ A5.out).mono ?_);rintro e w' ⟨rfl,⟨nd,rfl⟩⟩;refine ⟨_,rfl,?_⟩;(try (rw [drewN_self w25];generalize hq_ : World.drewN w25 _ = w25;have n0_ : Aside0 (w25.heap[gb452]? = some (.cells #[.slice A0_0 l0_0.length c0_0] 30 (0,0))):=⟨by rw [← hq_];exact (zK0 BK452.out)⟩;have n1_ : Aside0 (w25.heap[gb453]? = some (.cells #[.slice none 0 0] 30 (0,0))):=⟨by rw [← hq_];exact (zK0 BK453.out)⟩;have n2_ : Aside0 (Below w.heap.size w w25):=⟨by rw [← hq_];exact (zY0 HB.out)⟩;clear BK452 BK453 HB hq_;have BK452:=n0_;have BK453:=n1_;have HB:=n2_;clear n0_ n1_ n2_))))
     replace BK452:=Aside0.mk (blk_drew BK452.out)
     replace BK453:=Aside0.mk (blk_drew BK453.out)
     replace HB:=Aside0.mk (below_drew1 HB.out)
     have q27 : (a2 : Int) ≤ ((l1.length : Int) : Int):=zD0
     obtain ⟨i027,hi027,_,hsz27,_⟩:=info_parts info55
     have hroom27 : l1.length ≤ c1:=HC1.out
     have hC27 : Kd.C k55 _ A1 l1.length l1:=HR1.out
     have hcut27:=cut_to (P:=Try.prog) 62 55 .i64 Try.underlying62 hi027 A1 l1.length c1 a2 (zD0) q27 hroom27
     have hr27:=Kd.C_take (m:=(a2 : Int).toNat) hC27 (by omega)
     have hy27 : y455.length = (a2 : Int).toNat:=(by rw [Ny455.out,List.length_take];omega)
     rw [← Ny455.out] at hr27
     rw [← hy27] at hcut27
     have HR458:=Aside0.mk hr27
     have HC458:=Aside0.mk (show y455.length ≤ c1 from by omega)
     clear hr27 hC27 hroom27 hi027 hsz27
     have KY27:=Aside0.mk hy27
     clear hy27
     replace q27:=eq_true q27
     refine start_ (n:=11) (S:=fun w' => w'.cell? ⟨gb452,0,none⟩ = some (.slice A0_0 l0_0.length c0_0)) (ds:=[]) (zF0 11 0) (by kernel_rfl) rfl rfl (zc00 BK452) (fun hHeld => ?_);refine with_tabW impl_CutActs.tab3 impl_CutActs.bits3 (fun HT_ HW_ => ?_)
     generalize w25.drew = w26 at BK452 BK453 HB HR458 hHeld ⊢
     refine zp0 1 20 11 2 HT_ ?_
     refine zp0 2 21 11 6 HT_ ?_
     refine zp0 3 22 11 14 HT_ ?_
     refine zt0 0 19 11 15 HT_ HW_ hHeld ?_
     refine join_ (σ:=Value × Nat) 2 (zF0 11 511) (fun s_ => [(23,.tuple #[.agg #[s_.1],.int .i64 t462]),(10,.pointer (some ⟨s_.2,0,none⟩)),(18,.tuple #[.agg #[s_.1],.int .i64 t462]),(24,.agg #[s_.1]),(25,.int .i64 t462)]) (fun s_ w' => (w'.cell? ⟨gb452,0,none⟩ = some (.slice A0_0 l0_0.length c0_0)) ∧ (Kd.R k45 45 w' w.heap.size (fun _ => True) s_.1 t459) ∧ (w'.heap[gb452]? = some (.cells #[.slice A0_0 l0_0.length c0_0] 30 (0,0))) ∧ (w'.heap[gb453]? = some (.cells #[.slice none 0 0] 30 (0,0))) ∧ (w'.heap[s_.2]? = some (.cells #[.slice none 0 0] 30 (0,0))) ∧ (w.heap.size ≤ s_.2) ∧ (w.heap.size ≤ s_.2) ∧ (gb452 ≠ s_.2) ∧ (s_.2 ≠ gb452) ∧ (gb453 ≠ s_.2) ∧ (s_.2 ≠ gb453) ∧ (Below w.heap.size w w')) ?_ ?_
     rotate_left
     ·intro hCont
      refine two_ (i:=4) (j:=8) (Ni:=some 23) (Nj:=some 10) (zF0 11 31) (zF0 11 271) rfl rfl rfl rfl (two_of HT_.out (by kernel_rfl)) (by decide) (by decide) (fun K hK => ?_) (fun K hK => ?_)
      ·skip
       refine goes_ Try.func42 (by kernel_rfl) rfl #[.agg #[.slice A0_0 l0_0.length c0_0],.slice A1 y455.length c1] (by rfl) rfl rfl zM0 ?_
       with_reducible refine (impl_DoActs.calls k _ _ l0_0 _ _ y455 t459 t462 _ ?side1 ?side2 ?side3 ?side4 A9.out).mono ?_
       (case side1 => exact zA0 ((Kd.C_below HR0_0.out HB.out)))
       (case side2 => exact HC0_0.out)
       (case side3 => exact zA0 ((Kd.C_below HR458.out HB.out)))
       (case side4 => exact HC458.out)
       rintro e w28 ⟨v460,rfl,ho0,hb⟩
       refine ⟨_,rfl,?_⟩
       have HO461:=Aside0.mk (Kd.R_lower ho0 (zZ0 HB.out))
       replace BK452:=zb0 BK452 hb
       replace BK453:=zb0 BK453 hb
       replace HB:=zs0 HB hb
       (try clear hb)
       (try clear hb2)
       (try clear hk)
       (try clear hi)
       (try clear ho0)
       refine hK.out _ _ (zc00 BK452) (fun hHeld => ?_)
       clear hK K
       refine norm_ (a':=?_) ?_ ?_;rotate_left
       ·show Act.put _ (some 23) _ = _;simp only [Act.put,qA0,qB0,qC0,i64_w,i32_w];rfl
       refine zp0 5 18 11 63 HT_ ?_
       refine zp0 6 24 11 127 HT_ ?_
       refine zp0 7 25 11 255 HT_ ?_
       refine one_ (i:=8) (N:=some 10) (zF0 11 511) rfl rfl (one_of HT_.out (by kernel_rfl)) (by decide) (fun K hK => ?_)
       refine box_step ?hg (N:=10) ?hd (cs:=#[.slice none 0 0]) (t:=30) ?hr ?_;(case hd => rfl);(case hg => rfl);(case hr => first | (go_simp;done) | (go_simp;rfl))
       intro gb463 hg w29 hbox hb
       replace HO461:=Aside0.mk (Kd.R_below (zR0 HO461.out) hb)
       have BK463:=Aside0.mk hbox
       have GW463:=zz0 hg HB
       have GE463:=zz0 hg HB
       replace HB:=zs0 HB hb
       have NB452_463:=zl0 hg BK452
       have NB463_452:=zg0 hg BK452
       replace BK452:=zb0 BK452 hb
       have NB453_463:=zl0 hg BK453
       have NB463_453:=zg0 hg BK453
       replace BK453:=zb0 BK453 hb
       clear hb hbox hg
       refine hK.out _ _ (zc00 BK452) (fun hHeld => ?_)
       clear hK K
       refine norm_ (a':=?_) ?_ ?_;rotate_left
       ·show Act.put _ (some 10) _ = _;simp only [Act.put,qA0,qB0,qC0,i64_w,i32_w];rfl
       exact norm_ (by simp only [putAll,Act.put,qA0,qB0,qC0]) (hCont (v460,gb463) _ ⟨hHeld,(zR0 HO461.out),(zK0 BK452.out),(zK0 BK453.out),(zK0 BK463.out),GW463.out,GE463.out,NB452_463.out,NB463_452.out,NB453_463.out,NB463_453.out,(zY0 HB.out)⟩)
      ·skip
       refine box_step ?hg (N:=10) ?hd (cs:=#[.slice none 0 0]) (t:=30) ?hr ?_;(case hd => rfl);(case hg => rfl);(case hr => first | (go_simp;done) | (go_simp;rfl))
       intro gb463 hg w28 hbox hb
       have BK463:=Aside0.mk hbox
       have GW463:=zz0 hg HB
       have GE463:=zz0 hg HB
       replace HB:=zs0 HB hb
       have NB452_463:=zl0 hg BK452
       have NB463_452:=zg0 hg BK452
       replace BK452:=zb0 BK452 hb
       have NB453_463:=zl0 hg BK453
       have NB463_453:=zg0 hg BK453
       replace BK453:=zb0 BK453 hb
       clear hb hbox hg
       refine hK.out _ _ (zc00 BK452) (fun hHeld => ?_)
       clear hK K
       refine norm_ (a':=?_) ?_ ?_;rotate_left
       ·show Act.put _ (some 10) _ = _;simp only [Act.put,qA0,qB0,qC0,i64_w,i32_w];rfl
       refine one_ (i:=4) (N:=some 23) (zF0 11 287) rfl rfl (one_of HT_.out (by kernel_rfl)) (by decide) (fun K hK => ?_)
       refine goes_ Try.func42 (by kernel_rfl) rfl #[.agg #[.slice A0_0 l0_0.length c0_0],.slice A1 y455.length c1] (by rfl) rfl rfl zM0 ?_
       with_reducible refine (impl_DoActs.calls k _ _ l0_0 _ _ y455 t459 t462 _ ?side1 ?side2 ?side3 ?side4 A9.out).mono ?_
       (case side1 => exact zA0 ((Kd.C_below HR0_0.out HB.out)))
       (case side2 => exact HC0_0.out)
       (case side3 => exact zA0 ((Kd.C_below HR458.out HB.out)))
       (case side4 => exact HC458.out)
       rintro e w29 ⟨v460,rfl,ho0,hb⟩
       refine ⟨_,rfl,?_⟩
       have HO461:=Aside0.mk (Kd.R_lower ho0 (zZ0 HB.out))
       replace BK452:=zb0 BK452 hb
       replace BK453:=zb0 BK453 hb
       replace BK463:=zb0 BK463 hb
       replace HB:=zs0 HB hb
       (try clear hb)
       (try clear hb2)
       (try clear hk)
       (try clear hi)
       (try clear ho0)
       refine hK.out _ _ (zc00 BK452) (fun hHeld => ?_)
       clear hK K
       refine norm_ (a':=?_) ?_ ?_;rotate_left
       ·show Act.put _ (some 23) _ = _;simp only [Act.put,qA0,qB0,qC0,i64_w,i32_w];rfl
       refine zp0 5 18 11 319 HT_ ?_
       refine zp0 6 24 11 383 HT_ ?_
       refine zp0 7 25 11 511 HT_ ?_
       exact norm_ (by simp only [putAll,Act.put,qA0,qB0,qC0]) (hCont (v460,gb463) _ ⟨hHeld,(zR0 HO461.out),(zK0 BK452.out),(zK0 BK453.out),(zK0 BK463.out),GW463.out,GE463.out,NB452_463.out,NB463_452.out,NB453_463.out,NB463_453.out,(zY0 HB.out)⟩)
     rintro ⟨v460,gb463⟩ w30 ⟨hS_,h0_,h1_,h2_,h3_,h4_,h5_,h6_,h7_,h8_,h9_,h10_⟩
     have n0_ : Aside0 (Kd.R k45 45 w30 w.heap.size (fun _ => True) v460 t459):=⟨h0_⟩
     have n1_ : Aside0 (w30.heap[gb452]? = some (.cells #[.slice A0_0 l0_0.length c0_0] 30 (0,0))):=⟨h1_⟩
     have n2_ : Aside0 (w30.heap[gb453]? = some (.cells #[.slice none 0 0] 30 (0,0))):=⟨h2_⟩
     have n3_ : Aside0 (w30.heap[gb463]? = some (.cells #[.slice none 0 0] 30 (0,0))):=⟨h3_⟩
     have n4_ : Aside0 (w.heap.size ≤ gb463):=⟨h4_⟩
     have n5_ : Aside0 (w.heap.size ≤ gb463):=⟨h5_⟩
     have n6_ : Aside0 (gb452 ≠ gb463):=⟨h6_⟩
     have n7_ : Aside0 (gb463 ≠ gb452):=⟨h7_⟩
     have n8_ : Aside0 (gb453 ≠ gb463):=⟨h8_⟩
     have n9_ : Aside0 (gb463 ≠ gb453):=⟨h9_⟩
     have n10_ : Aside0 (Below w.heap.size w w30):=⟨h10_⟩
     clear BK452 BK453 HB
     clear h0_ h1_ h2_ h3_ h4_ h5_ h6_ h7_ h8_ h9_ h10_
     have HO461:=n0_
     have BK452:=n1_
     have BK453:=n2_
     have BK463:=n3_
     have GW463:=n4_
     have GE463:=n5_
     have NB452_463:=n6_
     have NB463_452:=n7_
     have NB453_463:=n8_
     have NB463_453:=n9_
     have HB:=n10_
     clear n0_ n1_ n2_ n3_ n4_ n5_ n6_ n7_ n8_ n9_ n10_
     have hHeld : w30.cell? ⟨gb452,0,none⟩ = some (.slice A0_0 l0_0.length c0_0):=hS_
     obtain ⟨Ao31,co31,eo31⟩:=Kd.R_slice HO461.out
     (first | subst eo31 | (injection eo31 with f1_ f2_ f3_;have f4_:=f1_.symm;have f5_:=f3_.symm;clear f1_ f2_ f3_;subst f4_;subst f5_))
     refine norm_ (a':=?_) ?_ ?_;rotate_left
     ·simp only [putAll,Act.put,qA0,qB0,qC0]
      rfl
     refine one_ (i:=9) (N:=none) (zF0 11 1023) rfl rfl (one_of HT_.out (by kernel_rfl)) (by decide) (fun K hK => ?_)
     have hs32 : w30.cell? ⟨gb463,0,none⟩ = some (.slice none 0 0):=zc00 BK463
     have hfs32:=blk_frozen BK463.out 0
     have hns32_0:=NB452_463.out
     have hns32_1:=NB453_463.out
     have hms32_0:=NB463_452.out
     have hms32_1:=NB463_453.out
     refine skip_ (w1:=?_) (by rfl) rfl ?_ ?_;rotate_left
     ·go_simp
      rfl
     refine hK.out _ _ (((cell_far (p:=⟨gb463,_,none⟩) NB452_463.out _).trans (hHeld))) (fun hHeld => ?_)
     clear hK K
     refine zp0 10 11 11 2047 HT_ ?_
     refine done_ (done_of HT_.out (by kernel_rfl)) ?_
     obtain ⟨_,_⟩:=zn0 NB463_452
     obtain ⟨_,_⟩:=zn0 NB463_453
     obtain ⟨_,_⟩:=zd01 BK463
     try go_wp2_with (first | ((with_reducible refine gate_callee (f:=25) rfl ?_);refine goesL_ (some 32) rfl rfl Try.func25 (by kernel_rfl) rfl #[.agg #[.slice Ao31 t459.length co31],.slice A3 l3.length c3] rfl zM0 ?_;(with_reducible refine (impl_LoseDisk.calls k _ _ t459 _ _ l3 t464 t467 _ ?side1 ?side2 ?side3 ?side4 A23.out).mono ?_);(case side1 => refine (Kd.R_reads' (e:=45) (base:=w.heap.size) (ok:=fun k_ => True) (n:=t459.length) (c:=co31) ?_).2.2;exact (by refine zV0 ?_;exact (Kd.R_set HO461.out BK463.out (by decide) 0 _)));(case side2 => exact (Kd.R_reads' HO461.out).2.1);(case side3 => exact Kd.C_below HR3.out (zY0 HB.out));(case side4 => exact HC3.out);rintro e w36 ⟨v465,rfl,ho0,hb⟩;refine ⟨_,rfl,?_⟩;have HO466:=Aside0.mk (Kd.R_lower (Kd.R_new' ho0 (Kd.R_lt (by refine zV0 ?_;exact (Kd.R_set HO461.out BK463.out (by decide) 0 _)))) (zZ0 HB.out));replace HO461:=Aside0.mk (Kd.R_elder' (by refine zV0 ?_;exact (Kd.R_set HO461.out BK463.out (by decide) 0 _)) (Kd.R_base ho0) hb);replace BK452:=zb0 BK452 hb;replace BK453:=zb0 BK453 hb;replace BK463:=Aside0.mk (blk_below (g:=gb463) (o:=.cells #[.slice Ao31 t459.length co31] 30 (0,0)) (by refine zT0 ?_;refine blk_put (cs:=#[.slice none 0 0]) ?_ 0 _ rfl;exact zK0 BK463.out) hb);replace HB:=zs0 HB hb;(try clear hb);(try clear hk);(try clear ho0);obtain ⟨Ao37,co37,eo37⟩:=Kd.R_slice HO466.out;subst eo37;obtain ⟨_,_⟩:=zn0 NB453_452;obtain ⟨_,_⟩:=zd01 BK453))
     refine bodyPost_ret (results_ct rfl _ _ gb453 30 #[.slice Ao37 t464.length co37] (0,0) _ rfl (by refine zT0 ?_;refine blk_put (cs:=#[.slice none 0 0]) ?_ 0 _ rfl;exact zK0 BK453.out) Try.underlying30 rfl (by kernel_rfl)) rfl ?_
     exact ⟨_,zW0,by refine zV0 ?_;exact Kd.R_mono (Kd.R_far (p:=⟨gb453,0,none⟩) (Kd.R_types HO466.out BK453.out (by decide)) (fun _ hk => hk.2) (.slice Ao37 t464.length co37)) (fun _ hk => trivial),(zY0 HB.out)⟩
   ·rw [if_neg c8] at H
    exact absurd H (by simp)
  ·rw [if_neg c7] at H
   exact absurd H (by simp)
 ·replace c6:=Bool.eq_false_iff.mpr c6
  subst c6
  rw [if_neg (show ¬ (false = true) by decide)] at H
  simp only [Option.some.injEq,Prod.mk.injEq] at H
  obtain ⟨rfl,rfl⟩:=H
  go_enter Try.func46,Try.ntmps46
  go_wp2_with (first | ((with_reducible refine gate_dst (N:=4) rfl ?_);refine zy0 (cs:=#[.slice A0_0 l0_0.length c0_0]) (t:=30) ?_;intro gb452 hg w40 hbox hb;have BK452:=Aside0.mk hbox;have GW452:=zz0 hg HB;have GE452:=zz0 hg HB;replace HB:=zs0 HB hb;clear hb hbox hg) | ((with_reducible refine gate_dst (N:=8) rfl ?_);refine zy0 (cs:=#[.slice none 0 0]) (t:=30) ?_;intro gb453 hg w41 hbox hb;have BK453:=Aside0.mk hbox;have GW453:=zz0 hg HB;have GE453:=zz0 hg HB;replace HB:=zs0 HB hb;have NB452_453:=zl0 hg BK452;have NB453_452:=zg0 hg BK452;replace BK452:=zb0 BK452 hb;clear hb hbox hg) | ((with_reducible refine gate_callee (f:=78) rfl ?_);refine goesL_ (some 15) rfl rfl Try.func78 (by kernel_rfl) rfl #[.int .i64 a2,.int .i64 0,.int .i64 (l1.length : Int)] rfl zM0 ?_;(with_reducible refine (impl_within.calls a2 0 (l1.length : Int) false _ A5.out).mono ?_);rintro e w' ⟨rfl,⟨nd,rfl⟩⟩;refine ⟨_,rfl,?_⟩;(try (rw [drewN_self w41];generalize hq_ : World.drewN w41 _ = w41;have n0_ : Aside0 (w41.heap[gb452]? = some (.cells #[.slice A0_0 l0_0.length c0_0] 30 (0,0))):=⟨by rw [← hq_];exact (zK0 BK452.out)⟩;have n1_ : Aside0 (w41.heap[gb453]? = some (.cells #[.slice none 0 0] 30 (0,0))):=⟨by rw [← hq_];exact (zK0 BK453.out)⟩;have n2_ : Aside0 (Below w.heap.size w w41):=⟨by rw [← hq_];exact (zY0 HB.out)⟩;clear BK452 BK453 HB hq_;have BK452:=n0_;have BK453:=n1_;have HB:=n2_;clear n0_ n1_ n2_));obtain ⟨_,_⟩:=zn0 NB453_452;obtain ⟨_,_⟩:=zd01 BK453))
  refine bodyPost_ret (results_ct rfl _ _ gb453 30 #[.slice none 0 0] (0,0) _ rfl (by refine zT0 ?_;refine blk_put (cs:=#[.slice none 0 0]) ?_ 0 _ rfl;exact zK0 BK453.out) Try.underlying30 rfl (by kernel_rfl)) rfl ?_
  exact ⟨_,zW0,by first | exact Kd.R_nil _ _ _ _ _ | exact Kd.N_nil _ _ _ _ _ | exact Kd.V_nil _ _ _ _ _ | exact Kd.Q_nil _ _ _ _ _ | exact Kd.S_nil _ _ _ _ _,(zY0 HB.out)⟩

end Go.Proofs.Ytgfacdhkamphiaa.PFnActs
