/- Walks, turned from a print. -/
import Derived.Test.YtgfacdhkamphiaaOFnActsx0
import Derived.Test.YtgfacdhkamphiaaOFnActsx6
import Derived.Test.YtgfacdhkamphiaaOFnActsx11
import Derived.Test.YtgfacdhkamphiaaOFnActsx18
namespace Go.Proofs.Ytgfacdhkamphiaa.PFnActs
open Go.RowKit Go.Proofs.YtgfacdhkamphiaaW.PrintWords Go.Proofs.YtgfacdhkamphiaaW.PrintLast Go.Proofs.YtgfacdhkamphiaaW.PrintMore
attribute [local go_sem] max2_int min2_int max_two min_two max_three min_three max_four min_four
set_option linter.unusedVariables false
set_option linter.unusedSimpArgs false

/-! ### spec_CutActs: function 47 -/
def spec_CutActs.f (k : Nat) (l0_0 : List (S45)) (l1 : List (S55)) (a2 : Int) (l3 : List Int) : Option ((List (S45)) × Bool):=(spec_l01In.f a2 0 (l1.length : Int)).bind fun t489 => (if t489 = true then (if 0 ≤ a2 then (if a2 ≤ (l1.length : Int) then ((spec_DoActs.f k l0_0 (l1.take (a2 : Int).toNat)).bind fun bt494 => (if bt494.2 < a2 then (some (([] : List (S45)),false)) else ((spec_LoseDisk.f k bt494.1 l3).bind fun bt499 => (some (bt499.1,bt499.2))))) else (none)) else (none)) else (some (([] : List (S45)),false)))
theorem spec_CutActs.mono : ∀ a0 a1 a2 a3 k,LeO (spec_CutActs.f k a0 a1 a2 a3) (spec_CutActs.f (k + 1) a0 a1 a2 a3):=by
 intro a0 a1 a2 a3 k
 unfold spec_CutActs.f
 repeat' first
  | (with_reducible exact spec_DoActs.mono _ _ _)
  | (with_reducible exact spec_LoseDisk.mono _ _ _)
  | (with_reducible exact LeO.refl _)
  | (with_reducible exact LeO.none _)
  | (with_reducible refine LeO.ite ?_ ?_)
  | (with_reducible refine LeO.bind ?_ (fun _ => ?_))
def spec_CutActs.T3 : Bool × List (List Nat × List Nat):=(true,[([],[]),([],[]),([],[]),([1,2],[1,2]),([0,3],[0,3]),([4],[4]),([5],[5]),([5],[5]),([],[]),([8,6,4,0,1,2,3,4,5,6,8],[6,8]),([7,9,0,1,2,3,4,5,6,7,8,9],[7])])
def spec_CutActs.B3 : List Nat:=[0,0,0,6,15,31,63,63,0,383,1023]
theorem spec_CutActs.tab3 : rtab .any (opsOf Try.f47 3) = spec_CutActs.T3:=by kernel_rfl
theorem spec_CutActs.bits3 : waitsOk spec_CutActs.T3.2 spec_CutActs.B3 = true:=by kernel_rfl
set_option maxHeartbeats 8000000 in
set_option maxRecDepth 100000 in
theorem spec_CutActs.calls (k : Nat) (A0_0 : Option Addr) (c0_0 : Nat) (l0_0 : List (S45)) (A1 : Option Addr) (c1 : Nat) (l1 : List (S55)) (a2 : Int) (A3 : Option Addr) (c3 : Nat) (l3 : List Int) (r1 : List (S45)) (r2 : Bool) (w : World) (hr0_0 : Kd.C k45 w A0_0 l0_0.length l0_0) (hc0_0 : l0_0.length ≤ c0_0) (hr1 : Kd.C k55 w A1 l1.length l1) (hc1 : l1.length ≤ c1) (hr3 : Kd.C (Kd.int .i64) w A3 l3.length l3) (hc3 : l3.length ≤ c3) (h : spec_CutActs.f k l0_0 l1 a2 l3 = some (r1,r2)) :
  Calls Try.prog 47 #[.agg #[.slice A0_0 l0_0.length c0_0],.slice A1 l1.length c1,.int .i64 a2,.slice A3 l3.length c3] w fun e w' => ∃ v0_ : Value,e = .returned (.tuple #[.agg #[v0_],.bool r2]) ∧ Kd.R k45 45 w' w.heap.size (fun _ => True) v0_ r1 ∧ Below w.heap.size w w':=by
 have hu30:=Try.underlying30
 have HR0_0:=Aside0.mk hr0_0
 have HC0_0:=Aside0.mk hc0_0
 clear hr0_0 hc0_0
 have HR1:=Aside0.mk hr1
 have HC1:=Aside0.mk hc1
 clear hr1 hc1
 have HR3:=Aside0.mk hr3
 have HC3:=Aside0.mk hc3
 clear hr3 hc3
 have HB:=Aside0.mk (Below.refl w.heap.size w)
 have H : ((spec_l01In.f a2 0 (l1.length : Int)).bind fun t489 => (if t489 = true then (if 0 ≤ a2 then (if a2 ≤ (l1.length : Int) then ((spec_DoActs.f k l0_0 (l1.take (a2 : Int).toNat)).bind fun bt494 => (if bt494.2 < a2 then (some (([] : List (S45)),false)) else ((spec_LoseDisk.f k bt494.1 l3).bind fun bt499 => (some (bt499.1,bt499.2))))) else (none)) else (none)) else (some (([] : List (S45)),false)))) = some (r1,r2):=h
 clear h
 obtain ⟨t489,A5,H⟩:=bX0 H
 by_cases c6 : t489 = true
 ·subst c6
  rw [if_pos rfl] at H
  by_cases c7 : 0 ≤ a2
  ·rw [if_pos c7] at H
   have c7b0:=eq_true c7
   have c7b1 : decide (0 ≤ a2) = true:=decide_eq_true c7
   clear c7
   by_cases c8 : a2 ≤ (l1.length : Int)
   ·rw [if_pos c8] at H
    have c8b0:=eq_true c8
    have c8b1 : decide (a2 ≤ (l1.length : Int)) = true:=decide_eq_true c8
    clear c8
    obtain ⟨y490,hy490⟩ : ∃ y_ : List (S55),y_ = (l1.take (a2 : Int).toNat):=⟨_,rfl⟩
    replace H : ((spec_DoActs.f k l0_0 y490).bind fun bt494 => (if bt494.2 < a2 then (some (([] : List (S45)),false)) else ((spec_LoseDisk.f k bt494.1 l3).bind fun bt499 => (some (bt499.1,bt499.2))))) = some (r1,r2):=by first | (rw [hy490];with_reducible exact H) | (have H2_:=(Option.bind_some _ _).symm.trans H;rw [hy490];with_reducible exact H2_) | (have H2_:=(Option.bind_some _ _).symm.trans H;with_reducible exact H2_) | with_reducible exact H | (rw [hy490];exact H) | exact H
    have Ny490:=Aside0.mk hy490
    clear hy490
    obtain ⟨⟨t494,t497⟩,A9,H⟩:=bX0 H
    dsimp only at H
    by_cases c10 : t497 < a2
    ·rw [if_pos c10] at H
     have c10b0 : decide (t497 < a2) = true:=decide_eq_true c10
     clear c10
     simp only [Option.some.injEq,Prod.mk.injEq] at H
     obtain ⟨rfl,rfl⟩:=H
     go_enter Try.func47,Try.ntmps47
     try go_wp2_with (first | ((with_reducible refine gate_dst (N:=4) rfl ?_);refine zy0 (cs:=#[.slice A0_0 l0_0.length c0_0]) (t:=30) ?_;intro gb487 hg w11 hbox hb;have BK487:=Aside0.mk hbox;have GW487:=zz0 hg HB;have GE487:=zz0 hg HB;replace HB:=zs0 HB hb;clear hb hbox hg) | ((with_reducible refine gate_dst (N:=8) rfl ?_);refine zy0 (cs:=#[.slice none 0 0]) (t:=30) ?_;intro gb488 hg w12 hbox hb;have BK488:=Aside0.mk hbox;have GW488:=zz0 hg HB;have GE488:=zz0 hg HB;replace HB:=zs0 HB hb;have NB487_488:=zl0 hg BK487;have NB488_487:=zg0 hg BK487;replace BK487:=zb0 BK487 hb;clear hb hbox hg) | ((with_reducible refine gate_callee (f:=91) rfl ?_);refine goesL_ (some 15) rfl rfl Try.func91 (by kernel_rfl) rfl #[.int .i64 a2,.int .i64 0,.int .i64 (l1.length : Int)] rfl zM0 ?_;(with_reducible refine (spec_l01In.calls a2 0 (l1.length : Int) true _ A5.out).mono ?_);rintro e w' ⟨rfl,⟨nd,rfl⟩⟩;refine ⟨_,rfl,?_⟩;(try (rw [drewN_self w12];generalize hq_ : World.drewN w12 _ = w12;have n0_ : Aside0 (w12.heap[gb487]? = some (.cells #[.slice A0_0 l0_0.length c0_0] 30 (0,0))):=⟨by rw [← hq_];exact (zK0 BK487.out)⟩;have n1_ : Aside0 (w12.heap[gb488]? = some (.cells #[.slice none 0 0] 30 (0,0))):=⟨by rw [← hq_];exact (zK0 BK488.out)⟩;have n2_ : Aside0 (Below w.heap.size w w12):=⟨by rw [← hq_];exact (zY0 HB.out)⟩;clear BK487 BK488 HB hq_;have BK487:=n0_;have BK488:=n1_;have HB:=n2_;clear n0_ n1_ n2_))))
     replace BK487:=Aside0.mk (blk_drew BK487.out)
     replace BK488:=Aside0.mk (blk_drew BK488.out)
     replace HB:=Aside0.mk (below_drew1 HB.out)
     have q14 : (a2 : Int) ≤ ((l1.length : Int) : Int):=zD0
     obtain ⟨i014,hi014,_,hsz14,_⟩:=info_parts info55
     have hroom14 : l1.length ≤ c1:=HC1.out
     have hC14 : Kd.C k55 _ A1 l1.length l1:=HR1.out
     have hcut14:=cut_to (P:=Try.prog) 62 55 .i64 Try.underlying62 hi014 A1 l1.length c1 a2 (zD0) q14 hroom14
     have hr14:=Kd.C_take (m:=(a2 : Int).toNat) hC14 (by omega)
     have hy14 : y490.length = (a2 : Int).toNat:=(by rw [Ny490.out,List.length_take];omega)
     rw [← Ny490.out] at hr14
     rw [← hy14] at hcut14
     have HR493:=Aside0.mk hr14
     have HC493:=Aside0.mk (show y490.length ≤ c1 from by omega)
     clear hr14 hC14 hroom14 hi014 hsz14
     have KY14:=Aside0.mk hy14
     clear hy14
     replace q14:=eq_true q14
     refine start_ (n:=11) (S:=fun w' => w'.cell? ⟨gb487,0,none⟩ = some (.slice A0_0 l0_0.length c0_0)) (ds:=[]) (zF0 11 0) (by kernel_rfl) rfl rfl (zc00 BK487) (fun hHeld => ?_);refine with_tabW spec_CutActs.tab3 spec_CutActs.bits3 (fun HT_ HW_ => ?_)
     generalize w12.drew = w13 at BK487 BK488 HB HR493 hHeld ⊢
     refine zp0 1 20 11 2 HT_ ?_
     refine zp0 2 21 11 6 HT_ ?_
     refine zp0 3 22 11 14 HT_ ?_
     refine zt0 0 19 11 15 HT_ HW_ hHeld ?_
     refine join_ (σ:=Value × Nat) 2 (zF0 11 511) (fun s_ => [(23,.tuple #[.agg #[s_.1],.int .i64 t497]),(10,.pointer (some ⟨s_.2,0,none⟩)),(18,.tuple #[.agg #[s_.1],.int .i64 t497]),(24,.agg #[s_.1]),(25,.int .i64 t497)]) (fun s_ w' => (w'.cell? ⟨gb487,0,none⟩ = some (.slice A0_0 l0_0.length c0_0)) ∧ (Kd.R k45 45 w' w.heap.size (fun _ => True) s_.1 t494) ∧ (w'.heap[gb487]? = some (.cells #[.slice A0_0 l0_0.length c0_0] 30 (0,0))) ∧ (w'.heap[gb488]? = some (.cells #[.slice none 0 0] 30 (0,0))) ∧ (w'.heap[s_.2]? = some (.cells #[.slice none 0 0] 30 (0,0))) ∧ (w.heap.size ≤ s_.2) ∧ (w.heap.size ≤ s_.2) ∧ (gb487 ≠ s_.2) ∧ (s_.2 ≠ gb487) ∧ (gb488 ≠ s_.2) ∧ (s_.2 ≠ gb488) ∧ (Below w.heap.size w w')) ?_ ?_
     rotate_left
     ·intro hCont
      refine two_ (i:=4) (j:=8) (Ni:=some 23) (Nj:=some 10) (zF0 11 31) (zF0 11 271) rfl rfl rfl rfl (two_of HT_.out (by kernel_rfl)) (by decide) (by decide) (fun K hK => ?_) (fun K hK => ?_)
      ·skip
       refine goes_ Try.func40 (by kernel_rfl) rfl #[.agg #[.slice A0_0 l0_0.length c0_0],.slice A1 y490.length c1] (by rfl) rfl rfl zM0 ?_
       with_reducible refine (spec_DoActs.calls k _ _ l0_0 _ _ y490 t494 t497 _ ?side1 ?side2 ?side3 ?side4 A9.out).mono ?_
       (case side1 => exact zA0 ((Kd.C_below HR0_0.out HB.out)))
       (case side2 => exact HC0_0.out)
       (case side3 => exact zA0 ((Kd.C_below HR493.out HB.out)))
       (case side4 => exact HC493.out)
       rintro e w15 ⟨v495,rfl,ho0,hb⟩
       refine ⟨_,rfl,?_⟩
       have HO496:=Aside0.mk (Kd.R_lower ho0 (zZ0 HB.out))
       replace BK487:=zb0 BK487 hb
       replace BK488:=zb0 BK488 hb
       replace HB:=zs0 HB hb
       (try clear hb)
       (try clear hb2)
       (try clear hk)
       (try clear hi)
       (try clear ho0)
       refine hK.out _ _ (zc00 BK487) (fun hHeld => ?_)
       clear hK K
       refine norm_ (a':=?_) ?_ ?_;rotate_left
       ·show Act.put _ (some 23) _ = _;simp only [Act.put,qA0,qB0,qC0,i64_w,i32_w];rfl
       refine zp0 5 18 11 63 HT_ ?_
       refine zp0 6 24 11 127 HT_ ?_
       refine zp0 7 25 11 255 HT_ ?_
       refine one_ (i:=8) (N:=some 10) (zF0 11 511) rfl rfl (one_of HT_.out (by kernel_rfl)) (by decide) (fun K hK => ?_)
       refine box_step ?hg (N:=10) ?hd (cs:=#[.slice none 0 0]) (t:=30) ?hr ?_;(case hd => rfl);(case hg => rfl);(case hr => first | (go_simp;done) | (go_simp;rfl))
       intro gb498 hg w16 hbox hb
       replace HO496:=Aside0.mk (Kd.R_below (zR0 HO496.out) hb)
       have BK498:=Aside0.mk hbox
       have GW498:=zz0 hg HB
       have GE498:=zz0 hg HB
       replace HB:=zs0 HB hb
       have NB487_498:=zl0 hg BK487
       have NB498_487:=zg0 hg BK487
       replace BK487:=zb0 BK487 hb
       have NB488_498:=zl0 hg BK488
       have NB498_488:=zg0 hg BK488
       replace BK488:=zb0 BK488 hb
       clear hb hbox hg
       refine hK.out _ _ (zc00 BK487) (fun hHeld => ?_)
       clear hK K
       refine norm_ (a':=?_) ?_ ?_;rotate_left
       ·show Act.put _ (some 10) _ = _;simp only [Act.put,qA0,qB0,qC0,i64_w,i32_w];rfl
       exact norm_ (by simp only [putAll,Act.put,qA0,qB0,qC0]) (hCont (v495,gb498) _ ⟨hHeld,(zR0 HO496.out),(zK0 BK487.out),(zK0 BK488.out),(zK0 BK498.out),GW498.out,GE498.out,NB487_498.out,NB498_487.out,NB488_498.out,NB498_488.out,(zY0 HB.out)⟩)
      ·skip
       refine box_step ?hg (N:=10) ?hd (cs:=#[.slice none 0 0]) (t:=30) ?hr ?_;(case hd => rfl);(case hg => rfl);(case hr => first | (go_simp;done) | (go_simp;rfl))
       intro gb498 hg w15 hbox hb
       have BK498:=Aside0.mk hbox
       have GW498:=zz0 hg HB
       have GE498:=zz0 hg HB
       replace HB:=zs0 HB hb
       have NB487_498:=zl0 hg BK487
       have NB498_487:=zg0 hg BK487
       replace BK487:=zb0 BK487 hb
       have NB488_498:=zl0 hg BK488
       have NB498_488:=zg0 hg BK488
       replace BK488:=zb0 BK488 hb
       clear hb hbox hg
       refine hK.out _ _ (zc00 BK487) (fun hHeld => ?_)
       clear hK K
       refine norm_ (a':=?_) ?_ ?_;rotate_left
       ·show Act.put _ (some 10) _ = _;simp only [Act.put,qA0,qB0,qC0,i64_w,i32_w];rfl
       refine one_ (i:=4) (N:=some 23) (zF0 11 287) rfl rfl (one_of HT_.out (by kernel_rfl)) (by decide) (fun K hK => ?_)
       refine goes_ Try.func40 (by kernel_rfl) rfl #[.agg #[.slice A0_0 l0_0.length c0_0],.slice A1 y490.length c1] (by rfl) rfl rfl zM0 ?_
       with_reducible refine (spec_DoActs.calls k _ _ l0_0 _ _ y490 t494 t497 _ ?side1 ?side2 ?side3 ?side4 A9.out).mono ?_
       (case side1 => exact zA0 ((Kd.C_below HR0_0.out HB.out)))
       (case side2 => exact HC0_0.out)
       (case side3 => exact zA0 ((Kd.C_below HR493.out HB.out)))
       (case side4 => exact HC493.out)
       rintro e w16 ⟨v495,rfl,ho0,hb⟩
       refine ⟨_,rfl,?_⟩
       have HO496:=Aside0.mk (Kd.R_lower ho0 (zZ0 HB.out))
       replace BK487:=zb0 BK487 hb
       replace BK488:=zb0 BK488 hb
       replace BK498:=zb0 BK498 hb
       replace HB:=zs0 HB hb
       (try clear hb)
       (try clear hb2)
       (try clear hk)
       (try clear hi)
       (try clear ho0)
       refine hK.out _ _ (zc00 BK487) (fun hHeld => ?_)
       clear hK K
       refine norm_ (a':=?_) ?_ ?_;rotate_left
       ·show Act.put _ (some 23) _ = _;simp only [Act.put,qA0,qB0,qC0,i64_w,i32_w];rfl
       refine zp0 5 18 11 319 HT_ ?_
       refine zp0 6 24 11 383 HT_ ?_
       refine zp0 7 25 11 511 HT_ ?_
       exact norm_ (by simp only [putAll,Act.put,qA0,qB0,qC0]) (hCont (v495,gb498) _ ⟨hHeld,(zR0 HO496.out),(zK0 BK487.out),(zK0 BK488.out),(zK0 BK498.out),GW498.out,GE498.out,NB487_498.out,NB498_487.out,NB488_498.out,NB498_488.out,(zY0 HB.out)⟩)
     rintro ⟨v495,gb498⟩ w17 ⟨hS_,h0_,h1_,h2_,h3_,h4_,h5_,h6_,h7_,h8_,h9_,h10_⟩
     have n0_ : Aside0 (Kd.R k45 45 w17 w.heap.size (fun _ => True) v495 t494):=⟨h0_⟩
     have n1_ : Aside0 (w17.heap[gb487]? = some (.cells #[.slice A0_0 l0_0.length c0_0] 30 (0,0))):=⟨h1_⟩
     have n2_ : Aside0 (w17.heap[gb488]? = some (.cells #[.slice none 0 0] 30 (0,0))):=⟨h2_⟩
     have n3_ : Aside0 (w17.heap[gb498]? = some (.cells #[.slice none 0 0] 30 (0,0))):=⟨h3_⟩
     have n4_ : Aside0 (w.heap.size ≤ gb498):=⟨h4_⟩
     have n5_ : Aside0 (w.heap.size ≤ gb498):=⟨h5_⟩
     have n6_ : Aside0 (gb487 ≠ gb498):=⟨h6_⟩
     have n7_ : Aside0 (gb498 ≠ gb487):=⟨h7_⟩
     have n8_ : Aside0 (gb488 ≠ gb498):=⟨h8_⟩
     have n9_ : Aside0 (gb498 ≠ gb488):=⟨h9_⟩
     have n10_ : Aside0 (Below w.heap.size w w17):=⟨h10_⟩
     clear BK487 BK488 HB
     clear h0_ h1_ h2_ h3_ h4_ h5_ h6_ h7_ h8_ h9_ h10_
     have HO496:=n0_
     have BK487:=n1_
     have BK488:=n2_
     have BK498:=n3_
     have GW498:=n4_
     have GE498:=n5_
     have NB487_498:=n6_
     have NB498_487:=n7_
     have NB488_498:=n8_
     have NB498_488:=n9_
     have HB:=n10_
     clear n0_ n1_ n2_ n3_ n4_ n5_ n6_ n7_ n8_ n9_ n10_
     have hHeld : w17.cell? ⟨gb487,0,none⟩ = some (.slice A0_0 l0_0.length c0_0):=hS_
     obtain ⟨Ao18,co18,eo18⟩:=Kd.R_slice HO496.out
     (first | subst eo18 | (injection eo18 with f1_ f2_ f3_;have f4_:=f1_.symm;have f5_:=f3_.symm;clear f1_ f2_ f3_;subst f4_;subst f5_))
     refine norm_ (a':=?_) ?_ ?_;rotate_left
     ·simp only [putAll,Act.put,qA0,qB0,qC0]
      rfl
     refine one_ (i:=9) (N:=none) (zF0 11 1023) rfl rfl (one_of HT_.out (by kernel_rfl)) (by decide) (fun K hK => ?_)
     have hs19 : w17.cell? ⟨gb498,0,none⟩ = some (.slice none 0 0):=zc00 BK498
     have hfs19:=blk_frozen BK498.out 0
     have hns19_0:=NB487_498.out
     have hns19_1:=NB488_498.out
     have hms19_0:=NB498_487.out
     have hms19_1:=NB498_488.out
     refine skip_ (w1:=?_) (by rfl) rfl ?_ ?_;rotate_left
     ·go_simp
      rfl
     refine hK.out _ _ (((cell_far (p:=⟨gb498,_,none⟩) NB487_498.out _).trans (hHeld))) (fun hHeld => ?_)
     clear hK K
     refine zp0 10 11 11 2047 HT_ ?_
     refine done_ (done_of HT_.out (by kernel_rfl)) ?_
     obtain ⟨_,_⟩:=zn0 NB488_487
     obtain ⟨_,_⟩:=zn0 NB488_498
     obtain ⟨_,_⟩:=zd01 BK488
     try go_wp2
     refine bodyPost_ret (results_ct rfl _ _ gb488 30 #[.slice none 0 0] (0,0) _ rfl (by refine zT0 ?_;refine blk_put (cs:=#[.slice none 0 0]) ?_ 0 _ rfl;exact zK0 BK488.out) Try.underlying30 rfl (by kernel_rfl)) rfl ?_
     exact ⟨_,zW0,by first | exact Kd.R_nil _ _ _ _ _ | exact Kd.N_nil _ _ _ _ _ | exact Kd.V_nil _ _ _ _ _ | exact Kd.Q_nil _ _ _ _ _ | exact Kd.S_nil _ _ _ _ _,(zY0 HB.out)⟩
    ·rw [if_neg c10] at H
     have c10b0 : decide (t497 < a2) = false:=decide_eq_false c10
     clear c10
     obtain ⟨⟨t499,t502⟩,A23,H⟩:=bX0 H
     dsimp only at H
     simp only [Option.some.injEq,Prod.mk.injEq] at H
     obtain ⟨rfl,rfl⟩:=H
     go_enter Try.func47,Try.ntmps47
     try go_wp2_with (first | ((with_reducible refine gate_dst (N:=4) rfl ?_);refine zy0 (cs:=#[.slice A0_0 l0_0.length c0_0]) (t:=30) ?_;intro gb487 hg w24 hbox hb;have BK487:=Aside0.mk hbox;have GW487:=zz0 hg HB;have GE487:=zz0 hg HB;replace HB:=zs0 HB hb;clear hb hbox hg) | ((with_reducible refine gate_dst (N:=8) rfl ?_);refine zy0 (cs:=#[.slice none 0 0]) (t:=30) ?_;intro gb488 hg w25 hbox hb;have BK488:=Aside0.mk hbox;have GW488:=zz0 hg HB;have GE488:=zz0 hg HB;replace HB:=zs0 HB hb;have NB487_488:=zl0 hg BK487;have NB488_487:=zg0 hg BK487;replace BK487:=zb0 BK487 hb;clear hb hbox hg) | ((with_reducible refine gate_callee (f:=91) rfl ?_);refine goesL_ (some 15) rfl rfl Try.func91 (by kernel_rfl) rfl #[.int .i64 a2,.int .i64 0,.int .i64 (l1.length : Int)] rfl zM0 ?_;(with_reducible refine (spec_l01In.calls a2 0 (l1.length : Int) true _ A5.out).mono ?_);rintro e w' ⟨rfl,⟨nd,rfl⟩⟩;refine ⟨_,rfl,?_⟩;(try (rw [drewN_self w25];generalize hq_ : World.drewN w25 _ = w25;have n0_ : Aside0 (w25.heap[gb487]? = some (.cells #[.slice A0_0 l0_0.length c0_0] 30 (0,0))):=⟨by rw [← hq_];exact (zK0 BK487.out)⟩;have n1_ : Aside0 (w25.heap[gb488]? = some (.cells #[.slice none 0 0] 30 (0,0))):=⟨by rw [← hq_];exact (zK0 BK488.out)⟩;have n2_ : Aside0 (Below w.heap.size w w25):=⟨by rw [← hq_];exact (zY0 HB.out)⟩;clear BK487 BK488 HB hq_;have BK487:=n0_;have BK488:=n1_;have HB:=n2_;clear n0_ n1_ n2_))))
     replace BK487:=Aside0.mk (blk_drew BK487.out)
     replace BK488:=Aside0.mk (blk_drew BK488.out)
     replace HB:=Aside0.mk (below_drew1 HB.out)
     have q27 : (a2 : Int) ≤ ((l1.length : Int) : Int):=zD0
     obtain ⟨i027,hi027,_,hsz27,_⟩:=info_parts info55
     have hroom27 : l1.length ≤ c1:=HC1.out
     have hC27 : Kd.C k55 _ A1 l1.length l1:=HR1.out
     have hcut27:=cut_to (P:=Try.prog) 62 55 .i64 Try.underlying62 hi027 A1 l1.length c1 a2 (zD0) q27 hroom27
     have hr27:=Kd.C_take (m:=(a2 : Int).toNat) hC27 (by omega)
     have hy27 : y490.length = (a2 : Int).toNat:=(by rw [Ny490.out,List.length_take];omega)
     rw [← Ny490.out] at hr27
     rw [← hy27] at hcut27
     have HR493:=Aside0.mk hr27
     have HC493:=Aside0.mk (show y490.length ≤ c1 from by omega)
     clear hr27 hC27 hroom27 hi027 hsz27
     have KY27:=Aside0.mk hy27
     clear hy27
     replace q27:=eq_true q27
     refine start_ (n:=11) (S:=fun w' => w'.cell? ⟨gb487,0,none⟩ = some (.slice A0_0 l0_0.length c0_0)) (ds:=[]) (zF0 11 0) (by kernel_rfl) rfl rfl (zc00 BK487) (fun hHeld => ?_);refine with_tabW spec_CutActs.tab3 spec_CutActs.bits3 (fun HT_ HW_ => ?_)
     generalize w25.drew = w26 at BK487 BK488 HB HR493 hHeld ⊢
     refine zp0 1 20 11 2 HT_ ?_
     refine zp0 2 21 11 6 HT_ ?_
     refine zp0 3 22 11 14 HT_ ?_
     refine zt0 0 19 11 15 HT_ HW_ hHeld ?_
     refine join_ (σ:=Value × Nat) 2 (zF0 11 511) (fun s_ => [(23,.tuple #[.agg #[s_.1],.int .i64 t497]),(10,.pointer (some ⟨s_.2,0,none⟩)),(18,.tuple #[.agg #[s_.1],.int .i64 t497]),(24,.agg #[s_.1]),(25,.int .i64 t497)]) (fun s_ w' => (w'.cell? ⟨gb487,0,none⟩ = some (.slice A0_0 l0_0.length c0_0)) ∧ (Kd.R k45 45 w' w.heap.size (fun _ => True) s_.1 t494) ∧ (w'.heap[gb487]? = some (.cells #[.slice A0_0 l0_0.length c0_0] 30 (0,0))) ∧ (w'.heap[gb488]? = some (.cells #[.slice none 0 0] 30 (0,0))) ∧ (w'.heap[s_.2]? = some (.cells #[.slice none 0 0] 30 (0,0))) ∧ (w.heap.size ≤ s_.2) ∧ (w.heap.size ≤ s_.2) ∧ (gb487 ≠ s_.2) ∧ (s_.2 ≠ gb487) ∧ (gb488 ≠ s_.2) ∧ (s_.2 ≠ gb488) ∧ (Below w.heap.size w w')) ?_ ?_
     rotate_left
     ·intro hCont
      refine two_ (i:=4) (j:=8) (Ni:=some 23) (Nj:=some 10) (zF0 11 31) (zF0 11 271) rfl rfl rfl rfl (two_of HT_.out (by kernel_rfl)) (by decide) (by decide) (fun K hK => ?_) (fun K hK => ?_)
      ·skip
       refine goes_ Try.func40 (by kernel_rfl) rfl #[.agg #[.slice A0_0 l0_0.length c0_0],.slice A1 y490.length c1] (by rfl) rfl rfl zM0 ?_
       with_reducible refine (spec_DoActs.calls k _ _ l0_0 _ _ y490 t494 t497 _ ?side1 ?side2 ?side3 ?side4 A9.out).mono ?_
       (case side1 => exact zA0 ((Kd.C_below HR0_0.out HB.out)))
       (case side2 => exact HC0_0.out)
       (case side3 => exact zA0 ((Kd.C_below HR493.out HB.out)))
       (case side4 => exact HC493.out)
       rintro e w28 ⟨v495,rfl,ho0,hb⟩
       refine ⟨_,rfl,?_⟩
       have HO496:=Aside0.mk (Kd.R_lower ho0 (zZ0 HB.out))
       replace BK487:=zb0 BK487 hb
       replace BK488:=zb0 BK488 hb
       replace HB:=zs0 HB hb
       (try clear hb)
       (try clear hb2)
       (try clear hk)
       (try clear hi)
       (try clear ho0)
       refine hK.out _ _ (zc00 BK487) (fun hHeld => ?_)
       clear hK K
       refine norm_ (a':=?_) ?_ ?_;rotate_left
       ·show Act.put _ (some 23) _ = _;simp only [Act.put,qA0,qB0,qC0,i64_w,i32_w];rfl
       refine zp0 5 18 11 63 HT_ ?_
       refine zp0 6 24 11 127 HT_ ?_
       refine zp0 7 25 11 255 HT_ ?_
       refine one_ (i:=8) (N:=some 10) (zF0 11 511) rfl rfl (one_of HT_.out (by kernel_rfl)) (by decide) (fun K hK => ?_)
       refine box_step ?hg (N:=10) ?hd (cs:=#[.slice none 0 0]) (t:=30) ?hr ?_;(case hd => rfl);(case hg => rfl);(case hr => first | (go_simp;done) | (go_simp;rfl))
       intro gb498 hg w29 hbox hb
       replace HO496:=Aside0.mk (Kd.R_below (zR0 HO496.out) hb)
       have BK498:=Aside0.mk hbox
       have GW498:=zz0 hg HB
       have GE498:=zz0 hg HB
       replace HB:=zs0 HB hb
       have NB487_498:=zl0 hg BK487
       have NB498_487:=zg0 hg BK487
       replace BK487:=zb0 BK487 hb
       have NB488_498:=zl0 hg BK488
       have NB498_488:=zg0 hg BK488
       replace BK488:=zb0 BK488 hb
       clear hb hbox hg
       refine hK.out _ _ (zc00 BK487) (fun hHeld => ?_)
       clear hK K
       refine norm_ (a':=?_) ?_ ?_;rotate_left
       ·show Act.put _ (some 10) _ = _;simp only [Act.put,qA0,qB0,qC0,i64_w,i32_w];rfl
       exact norm_ (by simp only [putAll,Act.put,qA0,qB0,qC0]) (hCont (v495,gb498) _ ⟨hHeld,(zR0 HO496.out),(zK0 BK487.out),(zK0 BK488.out),(zK0 BK498.out),GW498.out,GE498.out,NB487_498.out,NB498_487.out,NB488_498.out,NB498_488.out,(zY0 HB.out)⟩)
      ·skip
       refine box_step ?hg (N:=10) ?hd (cs:=#[.slice none 0 0]) (t:=30) ?hr ?_;(case hd => rfl);(case hg => rfl);(case hr => first | (go_simp;done) | (go_simp;rfl))
       intro gb498 hg w28 hbox hb
       have BK498:=Aside0.mk hbox
       have GW498:=zz0 hg HB
       have GE498:=zz0 hg HB
       replace HB:=zs0 HB hb
       have NB487_498:=zl0 hg BK487
       have NB498_487:=zg0 hg BK487
       replace BK487:=zb0 BK487 hb
       have NB488_498:=zl0 hg BK488
       have NB498_488:=zg0 hg BK488
       replace BK488:=zb0 BK488 hb
       clear hb hbox hg
       refine hK.out _ _ (zc00 BK487) (fun hHeld => ?_)
       clear hK K
       refine norm_ (a':=?_) ?_ ?_;rotate_left
       ·show Act.put _ (some 10) _ = _;simp only [Act.put,qA0,qB0,qC0,i64_w,i32_w];rfl
       refine one_ (i:=4) (N:=some 23) (zF0 11 287) rfl rfl (one_of HT_.out (by kernel_rfl)) (by decide) (fun K hK => ?_)
       refine goes_ Try.func40 (by kernel_rfl) rfl #[.agg #[.slice A0_0 l0_0.length c0_0],.slice A1 y490.length c1] (by rfl) rfl rfl zM0 ?_
       with_reducible refine (spec_DoActs.calls k _ _ l0_0 _ _ y490 t494 t497 _ ?side1 ?side2 ?side3 ?side4 A9.out).mono ?_
       (case side1 => exact zA0 ((Kd.C_below HR0_0.out HB.out)))
       (case side2 => exact HC0_0.out)
       (case side3 => exact zA0 ((Kd.C_below HR493.out HB.out)))
       (case side4 => exact HC493.out)
       rintro e w29 ⟨v495,rfl,ho0,hb⟩
       refine ⟨_,rfl,?_⟩
       have HO496:=Aside0.mk (Kd.R_lower ho0 (zZ0 HB.out))
       replace BK487:=zb0 BK487 hb
       replace BK488:=zb0 BK488 hb
       replace BK498:=zb0 BK498 hb
       replace HB:=zs0 HB hb
       (try clear hb)
       (try clear hb2)
       (try clear hk)
       (try clear hi)
       (try clear ho0)
       refine hK.out _ _ (zc00 BK487) (fun hHeld => ?_)
       clear hK K
       refine norm_ (a':=?_) ?_ ?_;rotate_left
       ·show Act.put _ (some 23) _ = _;simp only [Act.put,qA0,qB0,qC0,i64_w,i32_w];rfl
       refine zp0 5 18 11 319 HT_ ?_
       refine zp0 6 24 11 383 HT_ ?_
       refine zp0 7 25 11 511 HT_ ?_
       exact norm_ (by simp only [putAll,Act.put,qA0,qB0,qC0]) (hCont (v495,gb498) _ ⟨hHeld,(zR0 HO496.out),(zK0 BK487.out),(zK0 BK488.out),(zK0 BK498.out),GW498.out,GE498.out,NB487_498.out,NB498_487.out,NB488_498.out,NB498_488.out,(zY0 HB.out)⟩)
     rintro ⟨v495,gb498⟩ w30 ⟨hS_,h0_,h1_,h2_,h3_,h4_,h5_,h6_,h7_,h8_,h9_,h10_⟩
     have n0_ : Aside0 (Kd.R k45 45 w30 w.heap.size (fun _ => True) v495 t494):=⟨h0_⟩
     have n1_ : Aside0 (w30.heap[gb487]? = some (.cells #[.slice A0_0 l0_0.length c0_0] 30 (0,0))):=⟨h1_⟩
     have n2_ : Aside0 (w30.heap[gb488]? = some (.cells #[.slice none 0 0] 30 (0,0))):=⟨h2_⟩
     have n3_ : Aside0 (w30.heap[gb498]? = some (.cells #[.slice none 0 0] 30 (0,0))):=⟨h3_⟩
     have n4_ : Aside0 (w.heap.size ≤ gb498):=⟨h4_⟩
     have n5_ : Aside0 (w.heap.size ≤ gb498):=⟨h5_⟩
     have n6_ : Aside0 (gb487 ≠ gb498):=⟨h6_⟩
     have n7_ : Aside0 (gb498 ≠ gb487):=⟨h7_⟩
     have n8_ : Aside0 (gb488 ≠ gb498):=⟨h8_⟩
     have n9_ : Aside0 (gb498 ≠ gb488):=⟨h9_⟩
     have n10_ : Aside0 (Below w.heap.size w w30):=⟨h10_⟩
     clear BK487 BK488 HB
     clear h0_ h1_ h2_ h3_ h4_ h5_ h6_ h7_ h8_ h9_ h10_
     have HO496:=n0_
     have BK487:=n1_
     have BK488:=n2_
     have BK498:=n3_
     have GW498:=n4_
     have GE498:=n5_
     have NB487_498:=n6_
     have NB498_487:=n7_
     have NB488_498:=n8_
     have NB498_488:=n9_
     have HB:=n10_
     clear n0_ n1_ n2_ n3_ n4_ n5_ n6_ n7_ n8_ n9_ n10_
     have hHeld : w30.cell? ⟨gb487,0,none⟩ = some (.slice A0_0 l0_0.length c0_0):=hS_
     obtain ⟨Ao31,co31,eo31⟩:=Kd.R_slice HO496.out
     (first | subst eo31 | (injection eo31 with f1_ f2_ f3_;have f4_:=f1_.symm;have f5_:=f3_.symm;clear f1_ f2_ f3_;subst f4_;subst f5_))
     refine norm_ (a':=?_) ?_ ?_;rotate_left
     ·simp only [putAll,Act.put,qA0,qB0,qC0]
      rfl
     refine one_ (i:=9) (N:=none) (zF0 11 1023) rfl rfl (one_of HT_.out (by kernel_rfl)) (by decide) (fun K hK => ?_)
     have hs32 : w30.cell? ⟨gb498,0,none⟩ = some (.slice none 0 0):=zc00 BK498
     have hfs32:=blk_frozen BK498.out 0
     have hns32_0:=NB487_498.out
     have hns32_1:=NB488_498.out
     have hms32_0:=NB498_487.out
     have hms32_1:=NB498_488.out
     refine skip_ (w1:=?_) (by rfl) rfl ?_ ?_;rotate_left
     ·go_simp
      rfl
     refine hK.out _ _ (((cell_far (p:=⟨gb498,_,none⟩) NB487_498.out _).trans (hHeld))) (fun hHeld => ?_)
     clear hK K
     refine zp0 10 11 11 2047 HT_ ?_
     refine done_ (done_of HT_.out (by kernel_rfl)) ?_
     obtain ⟨_,_⟩:=zn0 NB498_487
     obtain ⟨_,_⟩:=zn0 NB498_488
     obtain ⟨_,_⟩:=zd01 BK498
     try go_wp2_with (first | ((with_reducible refine gate_callee (f:=29) rfl ?_);refine goesL_ (some 32) rfl rfl Try.func29 (by kernel_rfl) rfl #[.agg #[.slice Ao31 t494.length co31],.slice A3 l3.length c3] rfl zM0 ?_;(with_reducible refine (spec_LoseDisk.calls k _ _ t494 _ _ l3 t499 t502 _ ?side1 ?side2 ?side3 ?side4 A23.out).mono ?_);(case side1 => refine (Kd.R_reads' (e:=45) (base:=w.heap.size) (ok:=fun k_ => True) (n:=t494.length) (c:=co31) ?_).2.2;exact (by refine zV0 ?_;exact (Kd.R_set HO496.out BK498.out (by decide) 0 _)));(case side2 => exact (Kd.R_reads' HO496.out).2.1);(case side3 => exact Kd.C_below HR3.out (zY0 HB.out));(case side4 => exact HC3.out);rintro e w36 ⟨v500,rfl,ho0,hb⟩;refine ⟨_,rfl,?_⟩;have HO501:=Aside0.mk (Kd.R_lower (Kd.R_new' ho0 (Kd.R_lt (by refine zV0 ?_;exact (Kd.R_set HO496.out BK498.out (by decide) 0 _)))) (zZ0 HB.out));replace HO496:=Aside0.mk (Kd.R_elder' (by refine zV0 ?_;exact (Kd.R_set HO496.out BK498.out (by decide) 0 _)) (Kd.R_base ho0) hb);replace BK487:=zb0 BK487 hb;replace BK488:=zb0 BK488 hb;replace BK498:=Aside0.mk (blk_below (g:=gb498) (o:=.cells #[.slice Ao31 t494.length co31] 30 (0,0)) (by refine zT0 ?_;refine blk_put (cs:=#[.slice none 0 0]) ?_ 0 _ rfl;exact zK0 BK498.out) hb);replace HB:=zs0 HB hb;(try clear hb);(try clear hk);(try clear ho0);obtain ⟨Ao37,co37,eo37⟩:=Kd.R_slice HO501.out;subst eo37;obtain ⟨_,_⟩:=zn0 NB488_487;obtain ⟨_,_⟩:=zd01 BK488))
     refine bodyPost_ret (results_ct rfl _ _ gb488 30 #[.slice Ao37 t499.length co37] (0,0) _ rfl (by refine zT0 ?_;refine blk_put (cs:=#[.slice none 0 0]) ?_ 0 _ rfl;exact zK0 BK488.out) Try.underlying30 rfl (by kernel_rfl)) rfl ?_
     exact ⟨_,zW0,by refine zV0 ?_;exact Kd.R_mono (Kd.R_far (p:=⟨gb488,0,none⟩) (Kd.R_types HO501.out BK488.out (by decide)) (fun _ hk => hk.2) (.slice Ao37 t499.length co37)) (fun _ hk => trivial),(zY0 HB.out)⟩
   ·rw [if_neg c8] at H
    exact absurd H (by simp)
  ·rw [if_neg c7] at H
   exact absurd H (by simp)
 ·replace c6:=Bool.eq_false_iff.mpr c6
  subst c6
  rw [if_neg (show ¬ (false = true) by decide)] at H
  simp only [Option.some.injEq,Prod.mk.injEq] at H
  obtain ⟨rfl,rfl⟩:=H
  go_enter Try.func47,Try.ntmps47
  go_wp2_with (first | ((with_reducible refine gate_dst (N:=4) rfl ?_);refine zy0 (cs:=#[.slice A0_0 l0_0.length c0_0]) (t:=30) ?_;intro gb487 hg w40 hbox hb;have BK487:=Aside0.mk hbox;have GW487:=zz0 hg HB;have GE487:=zz0 hg HB;replace HB:=zs0 HB hb;clear hb hbox hg) | ((with_reducible refine gate_dst (N:=8) rfl ?_);refine zy0 (cs:=#[.slice none 0 0]) (t:=30) ?_;intro gb488 hg w41 hbox hb;have BK488:=Aside0.mk hbox;have GW488:=zz0 hg HB;have GE488:=zz0 hg HB;replace HB:=zs0 HB hb;have NB487_488:=zl0 hg BK487;have NB488_487:=zg0 hg BK487;replace BK487:=zb0 BK487 hb;clear hb hbox hg) | ((with_reducible refine gate_callee (f:=91) rfl ?_);refine goesL_ (some 15) rfl rfl Try.func91 (by kernel_rfl) rfl #[.int .i64 a2,.int .i64 0,.int .i64 (l1.length : Int)] rfl zM0 ?_;(with_reducible refine (spec_l01In.calls a2 0 (l1.length : Int) false _ A5.out).mono ?_);rintro e w' ⟨rfl,⟨nd,rfl⟩⟩;refine ⟨_,rfl,?_⟩;(try (rw [drewN_self w41];generalize hq_ : World.drewN w41 _ = w41;have n0_ : Aside0 (w41.heap[gb487]? = some (.cells #[.slice A0_0 l0_0.length c0_0] 30 (0,0))):=⟨by rw [← hq_];exact (zK0 BK487.out)⟩;have n1_ : Aside0 (w41.heap[gb488]? = some (.cells #[.slice none 0 0] 30 (0,0))):=⟨by rw [← hq_];exact (zK0 BK488.out)⟩;have n2_ : Aside0 (Below w.heap.size w w41):=⟨by rw [← hq_];exact (zY0 HB.out)⟩;clear BK487 BK488 HB hq_;have BK487:=n0_;have BK488:=n1_;have HB:=n2_;clear n0_ n1_ n2_));obtain ⟨_,_⟩:=zn0 NB488_487;obtain ⟨_,_⟩:=zd01 BK488))
  refine bodyPost_ret (results_ct rfl _ _ gb488 30 #[.slice none 0 0] (0,0) _ rfl (by refine zT0 ?_;refine blk_put (cs:=#[.slice none 0 0]) ?_ 0 _ rfl;exact zK0 BK488.out) Try.underlying30 rfl (by kernel_rfl)) rfl ?_
  exact ⟨_,zW0,by first | exact Kd.R_nil _ _ _ _ _ | exact Kd.N_nil _ _ _ _ _ | exact Kd.V_nil _ _ _ _ _ | exact Kd.Q_nil _ _ _ _ _ | exact Kd.S_nil _ _ _ _ _,(zY0 HB.out)⟩

end Go.Proofs.Ytgfacdhkamphiaa.PFnActs
