/- Walks of functions that the law FnExactCutActs reaches, turned by this session from a print of which a part did not build; what was changed is listed in wip/patches of the proofs' repo. -/
import Derived.Test.YtgfacdhkamphiaaOFnExactCutActsx0
import Derived.Test.YtgfacdhkamphiaaOFnExactCutActsx5
import Derived.Test.YtgfacdhkamphiaaOFnExactCutActsx7
import Derived.Test.YtgfacdhkamphiaaOFnExactCutActsx9
namespace Go.Proofs.Ytgfacdhkamphiaa.PFnExactCutActs
open Go.RowKit Go.Proofs.YtgfacdhkamphiaaW.PrintWords Go.Proofs.YtgfacdhkamphiaaW.PrintLast Go.Proofs.YtgfacdhkamphiaaW.PrintMore
attribute [local go_sem] max2_int min2_int max_two min_two max_three min_three max_four min_four   -- for this text's walks alone
set_option linter.unusedVariables false
set_option linter.unusedSimpArgs false

/-! ### impl_CutActs: function 46 -/
def impl_CutActs.f (k : Nat) (l0_0 : List (S45)) (l1 : List (S55)) (a2 : Int) (l3 : List Int) : Option ((List (S45)) × Bool):=(impl_within.f a2 0 (l1.length : Int)).bind fun t224 => (if t224 = true then (if 0 ≤ a2 then (if a2 ≤ (l1.length : Int) then ((impl_DoActs.f k l0_0 (l1.take (a2 : Int).toNat)).bind fun bt229 => (if bt229.2 < a2 then (some (([] : List (S45)),false)) else ((impl_LoseDisk.f k bt229.1 l3).bind fun bt234 => (some (bt234.1,bt234.2))))) else (none)) else (none)) else (some (([] : List (S45)),false)))
theorem impl_CutActs.mono : ∀ a0 a1 a2 a3 k,LeO (impl_CutActs.f k a0 a1 a2 a3) (impl_CutActs.f (k + 1) a0 a1 a2 a3):=by
 intro a0 a1 a2 a3 k
 unfold impl_CutActs.f
 repeat' first
   | (with_reducible exact impl_DoActs.mono _ _ _)
   | (with_reducible exact impl_LoseDisk.mono _ _ _)
   | (with_reducible exact LeO.refl _)
   | (with_reducible exact LeO.none _)
   | (with_reducible refine LeO.ite ?_ ?_)
   | (with_reducible refine LeO.bind ?_ (fun _ => ?_))
   | exact impl_DoActs.mono _ _ _
   | exact impl_LoseDisk.mono _ _ _
   | exact LeO.none _
   | refine LeO.ite ?_ ?_
   | refine LeO.bind ?_ (fun _ => ?_)
def impl_CutActs.T3 : Bool × List (List Nat × List Nat):=(true,[([],[]),([],[]),([],[]),([1,2],[1,2]),([0,3],[0,3]),([4],[4]),([5],[5]),([5],[5]),([],[]),([8,6,4,0,1,2,3,4,5,6,8],[6,8]),([7,9,0,1,2,3,4,5,6,7,8,9],[7])])
def impl_CutActs.B3 : List Nat:=[0,0,0,6,15,31,63,63,0,383,1023]
theorem impl_CutActs.tab3 : rtab .any (opsOf Try.f46 3) = impl_CutActs.T3:=by kernel_rfl
theorem impl_CutActs.bits3 : waitsOk impl_CutActs.T3.2 impl_CutActs.B3 = true:=by kernel_rfl
set_option maxHeartbeats 8000000 in
set_option maxRecDepth 100000 in
theorem impl_CutActs.calls (k : Nat) (A0_0 : Option Addr) (c0_0 : Nat) (l0_0 : List (S45)) (A1 : Option Addr) (c1 : Nat) (l1 : List (S55)) (a2 : Int) (A3 : Option Addr) (c3 : Nat) (l3 : List Int) (r1 : List (S45)) (r2 : Bool) (w : World) (hr0_0 : Kd.C k45 w A0_0 l0_0.length l0_0) (hc0_0 : l0_0.length ≤ c0_0) (hr1 : Kd.C k55 w A1 l1.length l1) (hc1 : l1.length ≤ c1) (hr3 : Kd.C (Kd.int .i64) w A3 l3.length l3) (hc3 : l3.length ≤ c3) (h : impl_CutActs.f k l0_0 l1 a2 l3 = some (r1,r2)) :
  Calls Try.prog 46 #[.agg #[.slice A0_0 l0_0.length c0_0],.slice A1 l1.length c1,.int .i64 a2,.slice A3 l3.length c3] w fun e w' => ∃ v0_ : Value,e = .returned (.tuple #[.agg #[v0_],.bool r2]) ∧ Kd.R k45 45 w' w.heap.size (fun _ => True) v0_ r1 ∧ Below w.heap.size w w':=by
 have hu30:=Try.underlying30
 have HR0_0:=Aside0.mk hr0_0
 have HC0_0:=Aside0.mk hc0_0
 clear hr0_0 hc0_0
 have HR1:=Aside0.mk hr1
 have HC1:=Aside0.mk hc1
 clear hr1 hc1
 have HR3:=Aside0.mk hr3
 have HC3:=Aside0.mk hc3
 clear hr3 hc3
 have HB:=Aside0.mk (Below.refl w.heap.size w)
 have H : ((impl_within.f a2 0 (l1.length : Int)).bind fun t224 => (if t224 = true then (if 0 ≤ a2 then (if a2 ≤ (l1.length : Int) then ((impl_DoActs.f k l0_0 (l1.take (a2 : Int).toNat)).bind fun bt229 => (if bt229.2 < a2 then (some (([] : List (S45)),false)) else ((impl_LoseDisk.f k bt229.1 l3).bind fun bt234 => (some (bt234.1,bt234.2))))) else (none)) else (none)) else (some (([] : List (S45)),false)))) = some (r1,r2):=h
 clear h
 replace H:=Option.bind_eq_some_iff.mp H
 obtain ⟨t224,A50,H⟩:=H
 replace H : (if t224 = true then (if 0 ≤ a2 then (if a2 ≤ (l1.length : Int) then ((impl_DoActs.f k l0_0 (l1.take (a2 : Int).toNat)).bind fun bt229 => (if bt229.2 < a2 then (some (([] : List (S45)),false)) else ((impl_LoseDisk.f k bt229.1 l3).bind fun bt234 => (some (bt234.1,bt234.2))))) else (none)) else (none)) else (some (([] : List (S45)),false))) = some (r1,r2):=H
 have A5:=Aside0.mk A50
 clear A50
 by_cases c6 : t224 = true
 ·subst c6
  have H1 : (if 0 ≤ a2 then (if a2 ≤ (l1.length : Int) then ((impl_DoActs.f k l0_0 (l1.take (a2 : Int).toNat)).bind fun bt229 => (if bt229.2 < a2 then (some (([] : List (S45)),false)) else ((impl_LoseDisk.f k bt229.1 l3).bind fun bt234 => (some (bt234.1,bt234.2))))) else (none)) else (none)) = some (r1,r2):=by rw [if_pos rfl] at H;exact H
  clear H
  have H:=H1
  clear H1
  by_cases c7 : 0 ≤ a2
  ·rw [if_pos c7] at H
   have c7b0:=eq_true c7
   have c7b1 : decide (0 ≤ a2) = true:=decide_eq_true c7
   clear c7
   by_cases c8 : a2 ≤ (l1.length : Int)
   ·rw [if_pos c8] at H
    have c8b0:=eq_true c8
    have c8b1 : decide (a2 ≤ (l1.length : Int)) = true:=decide_eq_true c8
    clear c8
    obtain ⟨y225,hy225⟩ : ∃ y_ : List (S55),y_ = (l1.take (a2 : Int).toNat):=⟨_,rfl⟩
    replace H : ((impl_DoActs.f k l0_0 y225).bind fun bt229 => (if bt229.2 < a2 then (some (([] : List (S45)),false)) else ((impl_LoseDisk.f k bt229.1 l3).bind fun bt234 => (some (bt234.1,bt234.2))))) = some (r1,r2):=by first | (rw [hy225];with_reducible exact H) | (have H2_:=(Option.bind_some _ _).symm.trans H;rw [hy225];with_reducible exact H2_) | (have H2_:=(Option.bind_some _ _).symm.trans H;with_reducible exact H2_) | with_reducible exact H | (rw [hy225];exact H) | exact H
    have Ny225:=Aside0.mk hy225
    clear hy225
    replace H:=Option.bind_eq_some_iff.mp H
    obtain ⟨⟨t229,t232⟩,A90,H⟩:=H
    replace H : (if t232 < a2 then (some (([] : List (S45)),false)) else ((impl_LoseDisk.f k t229 l3).bind fun bt234 => (some (bt234.1,bt234.2)))) = some (r1,r2):=H
    have A9:=Aside0.mk A90
    clear A90
    by_cases c10 : t232 < a2
    ·rw [if_pos c10] at H
     have c10b0 : decide (t232 < a2) = true:=decide_eq_true c10
     clear c10
     simp only [Option.some.injEq,Prod.mk.injEq] at H
     obtain ⟨rfl,rfl⟩:=H
     go_enter Try.func46,Try.ntmps46
     try go_wp2_with (first | ((with_reducible refine gate_dst (N:=4) rfl ?_);refine box_event ?hg (N:=4) ?hd (cs:=#[.slice A0_0 l0_0.length c0_0]) (t:=30) ?hr ?_;(case hd => rfl);(case hg => rfl);(case hr => first | (go_simp;done) | (go_simp;rfl));intro gb222 hg w11 hbox hb;have BK222:=Aside0.mk hbox;have GW222:=zz0 hg HB;have GE222:=zz0 hg HB;replace HB:=zs0 HB hb;clear hb hbox hg) | ((with_reducible refine gate_dst (N:=8) rfl ?_);refine box_event ?hg (N:=8) ?hd (cs:=#[.slice none 0 0]) (t:=30) ?hr ?_;(case hd => rfl);(case hg => rfl);(case hr => first | (go_simp;done) | (go_simp;rfl));intro gb223 hg w12 hbox hb;have BK223:=Aside0.mk hbox;have GW223:=zz0 hg HB;have GE223:=zz0 hg HB;replace HB:=zs0 HB hb;have NB222_223:=zl0 hg BK222;have NB223_222:=zg0 hg BK222;replace BK222:=zb0 BK222 hb;clear hb hbox hg) | ((with_reducible refine gate_callee (f:=78) rfl ?_);refine goesL_ (some 15) rfl rfl Try.func78 (by kernel_rfl) rfl #[.int .i64 a2,.int .i64 0,.int .i64 (l1.length : Int)] rfl zM0 ?_;(with_reducible refine (impl_within.calls a2 0 (l1.length : Int) true _ A5.out).mono ?_);rintro e w' ⟨rfl,⟨nd,rfl⟩⟩;refine ⟨_,rfl,?_⟩;(try (rw [drewN_self w12];generalize hq_ : World.drewN w12 _ = w12;have n0_ : Aside0 (w12.heap[gb222]? = some (.cells #[.slice A0_0 l0_0.length c0_0] 30 (0,0))):=⟨by rw [← hq_];exact (zK0 BK222.out)⟩;have n1_ : Aside0 (w12.heap[gb223]? = some (.cells #[.slice none 0 0] 30 (0,0))):=⟨by rw [← hq_];exact (zK0 BK223.out)⟩;have n2_ : Aside0 (Below w.heap.size w w12):=⟨by rw [← hq_];exact (zY0 HB.out)⟩;clear BK222 BK223 HB hq_;have BK222:=n0_;have BK223:=n1_;have HB:=n2_;clear n0_ n1_ n2_))))
     replace BK222:=Aside0.mk (blk_drew BK222.out)
     replace BK223:=Aside0.mk (blk_drew BK223.out)
     replace HB:=Aside0.mk (below_drew1 HB.out)
     have q14 : (a2 : Int) ≤ ((l1.length : Int) : Int):=zD0
     obtain ⟨i014,hi014,_,hsz14,_⟩:=info_parts info55
     have hroom14 : l1.length ≤ c1:=HC1.out
     have hC14 : Kd.C k55 _ A1 l1.length l1:=HR1.out
     have hcut14:=cut_to (P:=Try.prog) 62 55 .i64 Try.underlying62 hi014 A1 l1.length c1 a2 (zD0) q14 hroom14
     have hr14:=Kd.C_take (m:=(a2 : Int).toNat) hC14 (by omega)
     have hy14 : y225.length = (a2 : Int).toNat:=(by rw [Ny225.out,List.length_take];omega)
     rw [← Ny225.out] at hr14
     rw [← hy14] at hcut14
     have HR228:=Aside0.mk hr14
     have HC228:=Aside0.mk (show y225.length ≤ c1 from by omega)
     clear hr14 hC14 hroom14 hi014 hsz14
     have KY14:=Aside0.mk hy14
     clear hy14
     replace q14:=eq_true q14
     refine start_ (n:=11) (S:=fun w' => w'.cell? ⟨gb222,0,none⟩ = some (.slice A0_0 l0_0.length c0_0)) (ds:=[]) (zF0 11 0) (by kernel_rfl) rfl rfl ((blk_cell BK222.out 0).trans rfl) (fun hHeld => ?_);refine with_tabW impl_CutActs.tab3 impl_CutActs.bits3 (fun HT_ HW_ => ?_)
     generalize w12.drew = w13 at BK222 BK223 HB HR228 hHeld ⊢
     refine zp0 1 20 11 2 HT_ ?_
     refine zp0 2 21 11 6 HT_ ?_
     refine zp0 3 22 11 14 HT_ ?_
     refine take_ (i:=0) (N:=some 19) (v:=?_) (a':=?_) (zF0 11 15) rfl rfl (take_ofW HT_.out HW_.out (by kernel_rfl)) (fun _ _ _ h => h) (Or.inl ⟨by rfl,?_⟩) hHeld ?_ ?_;rotate_left
     ·intro w' s0
      go_simp
      with_reducible rfl
     rotate_left
     ·simp only [Act.put,qA0,qB0,qC0,i64_w,i32_w];rfl
     refine join_ (σ:=Value × Nat) 2 (zF0 11 511) (fun s_ => [(23,.tuple #[.agg #[s_.1],.int .i64 t232]),(10,.pointer (some ⟨s_.2,0,none⟩)),(18,.tuple #[.agg #[s_.1],.int .i64 t232]),(24,.agg #[s_.1]),(25,.int .i64 t232)]) (fun s_ w' => (w'.cell? ⟨gb222,0,none⟩ = some (.slice A0_0 l0_0.length c0_0)) ∧ (Kd.R k45 45 w' w.heap.size (fun _ => True) s_.1 t229) ∧ (w'.heap[gb222]? = some (.cells #[.slice A0_0 l0_0.length c0_0] 30 (0,0))) ∧ (w'.heap[gb223]? = some (.cells #[.slice none 0 0] 30 (0,0))) ∧ (w'.heap[s_.2]? = some (.cells #[.slice none 0 0] 30 (0,0))) ∧ (w.heap.size ≤ s_.2) ∧ (w.heap.size ≤ s_.2) ∧ (gb222 ≠ s_.2) ∧ (s_.2 ≠ gb222) ∧ (gb223 ≠ s_.2) ∧ (s_.2 ≠ gb223) ∧ (Below w.heap.size w w')) ?_ ?_
     rotate_left
     ·intro hCont
      refine two_ (i:=4) (j:=8) (Ni:=some 23) (Nj:=some 10) (zF0 11 31) (zF0 11 271) rfl rfl rfl rfl (two_of HT_.out (by kernel_rfl)) (by decide) (by decide) (fun K hK => ?_) (fun K hK => ?_)
      ·skip
       refine goes_ Try.func42 (by kernel_rfl) rfl #[.agg #[.slice A0_0 l0_0.length c0_0],.slice A1 y225.length c1] (by rfl) rfl rfl zM0 ?_
       with_reducible refine (impl_DoActs.calls k _ _ l0_0 _ _ y225 t229 t232 _ ?side1 ?side2 ?side3 ?side4 A9.out).mono ?_
       (case side1 => exact zA0 (Kd.C_below HR0_0.out HB.out))
       (case side2 => exact HC0_0.out)
       (case side3 => exact zA0 (Kd.C_below HR228.out HB.out))
       (case side4 => exact HC228.out)
       rintro e w15 ⟨v230,rfl,ho0,hb⟩
       refine ⟨_,rfl,?_⟩
       have HO231:=Aside0.mk (Kd.R_lower ho0 (zZ0 HB.out))
       replace BK222:=zb0 BK222 hb
       replace BK223:=zb0 BK223 hb
       replace HB:=zs0 HB hb
       (try clear hb)
       (try clear hb2)
       (try clear hk)
       (try clear hi)
       (try clear ho0)
       refine hK.out _ _ ((blk_cell BK222.out 0).trans rfl) (fun hHeld => ?_)
       clear hK K
       refine norm_ (a':=?_) ?_ ?_;rotate_left
       ·show Act.put _ (some 23) _ = _;simp only [Act.put,qA0,qB0,qC0,i64_w,i32_w];rfl
       refine zp0 5 18 11 63 HT_ ?_
       refine zp0 6 24 11 127 HT_ ?_
       refine zp0 7 25 11 255 HT_ ?_
       refine one_ (i:=8) (N:=some 10) (zF0 11 511) rfl rfl (one_of HT_.out (by kernel_rfl)) (by decide) (fun K hK => ?_)
       refine box_step ?hg (N:=10) ?hd (cs:=#[.slice none 0 0]) (t:=30) ?hr ?_;(case hd => rfl);(case hg => rfl);(case hr => first | (go_simp;done) | (go_simp;rfl))
       intro gb233 hg w16 hbox hb
       replace HO231:=Aside0.mk (Kd.R_below (zR0 HO231.out) hb)
       have BK233:=Aside0.mk hbox
       have GW233:=zz0 hg HB
       have GE233:=zz0 hg HB
       replace HB:=zs0 HB hb
       have NB222_233:=zl0 hg BK222
       have NB233_222:=zg0 hg BK222
       replace BK222:=zb0 BK222 hb
       have NB223_233:=zl0 hg BK223
       have NB233_223:=zg0 hg BK223
       replace BK223:=zb0 BK223 hb
       clear hb hbox hg
       refine hK.out _ _ ((blk_cell BK222.out 0).trans rfl) (fun hHeld => ?_)
       clear hK K
       refine norm_ (a':=?_) ?_ ?_;rotate_left
       ·show Act.put _ (some 10) _ = _;simp only [Act.put,qA0,qB0,qC0,i64_w,i32_w];rfl
       exact norm_ (by simp only [putAll,Act.put,qA0,qB0,qC0]) (hCont (v230,gb233) _ ⟨hHeld,(zR0 HO231.out),(zK0 BK222.out),(zK0 BK223.out),(zK0 BK233.out),GW233.out,GE233.out,NB222_233.out,NB233_222.out,NB223_233.out,NB233_223.out,(zY0 HB.out)⟩)
      ·skip
       refine box_step ?hg (N:=10) ?hd (cs:=#[.slice none 0 0]) (t:=30) ?hr ?_;(case hd => rfl);(case hg => rfl);(case hr => first | (go_simp;done) | (go_simp;rfl))
       intro gb233 hg w15 hbox hb
       have BK233:=Aside0.mk hbox
       have GW233:=zz0 hg HB
       have GE233:=zz0 hg HB
       replace HB:=zs0 HB hb
       have NB222_233:=zl0 hg BK222
       have NB233_222:=zg0 hg BK222
       replace BK222:=zb0 BK222 hb
       have NB223_233:=zl0 hg BK223
       have NB233_223:=zg0 hg BK223
       replace BK223:=zb0 BK223 hb
       clear hb hbox hg
       refine hK.out _ _ ((blk_cell BK222.out 0).trans rfl) (fun hHeld => ?_)
       clear hK K
       refine norm_ (a':=?_) ?_ ?_;rotate_left
       ·show Act.put _ (some 10) _ = _;simp only [Act.put,qA0,qB0,qC0,i64_w,i32_w];rfl
       refine one_ (i:=4) (N:=some 23) (zF0 11 287) rfl rfl (one_of HT_.out (by kernel_rfl)) (by decide) (fun K hK => ?_)
       refine goes_ Try.func42 (by kernel_rfl) rfl #[.agg #[.slice A0_0 l0_0.length c0_0],.slice A1 y225.length c1] (by rfl) rfl rfl zM0 ?_
       with_reducible refine (impl_DoActs.calls k _ _ l0_0 _ _ y225 t229 t232 _ ?side1 ?side2 ?side3 ?side4 A9.out).mono ?_
       (case side1 => exact zA0 (Kd.C_below HR0_0.out HB.out))
       (case side2 => exact HC0_0.out)
       (case side3 => exact zA0 (Kd.C_below HR228.out HB.out))
       (case side4 => exact HC228.out)
       rintro e w16 ⟨v230,rfl,ho0,hb⟩
       refine ⟨_,rfl,?_⟩
       have HO231:=Aside0.mk (Kd.R_lower ho0 (zZ0 HB.out))
       replace BK222:=zb0 BK222 hb
       replace BK223:=zb0 BK223 hb
       replace BK233:=zb0 BK233 hb
       replace HB:=zs0 HB hb
       (try clear hb)
       (try clear hb2)
       (try clear hk)
       (try clear hi)
       (try clear ho0)
       refine hK.out _ _ ((blk_cell BK222.out 0).trans rfl) (fun hHeld => ?_)
       clear hK K
       refine norm_ (a':=?_) ?_ ?_;rotate_left
       ·show Act.put _ (some 23) _ = _;simp only [Act.put,qA0,qB0,qC0,i64_w,i32_w];rfl
       refine zp0 5 18 11 319 HT_ ?_
       refine zp0 6 24 11 383 HT_ ?_
       refine zp0 7 25 11 511 HT_ ?_
       exact norm_ (by simp only [putAll,Act.put,qA0,qB0,qC0]) (hCont (v230,gb233) _ ⟨hHeld,(zR0 HO231.out),(zK0 BK222.out),(zK0 BK223.out),(zK0 BK233.out),GW233.out,GE233.out,NB222_233.out,NB233_222.out,NB223_233.out,NB233_223.out,(zY0 HB.out)⟩)
     rintro ⟨v230,gb233⟩ w17 ⟨hS_,h0_,h1_,h2_,h3_,h4_,h5_,h6_,h7_,h8_,h9_,h10_⟩
     have n0_ : Aside0 (Kd.R k45 45 w17 w.heap.size (fun _ => True) v230 t229):=⟨h0_⟩
     have n1_ : Aside0 (w17.heap[gb222]? = some (.cells #[.slice A0_0 l0_0.length c0_0] 30 (0,0))):=⟨h1_⟩
     have n2_ : Aside0 (w17.heap[gb223]? = some (.cells #[.slice none 0 0] 30 (0,0))):=⟨h2_⟩
     have n3_ : Aside0 (w17.heap[gb233]? = some (.cells #[.slice none 0 0] 30 (0,0))):=⟨h3_⟩
     have n4_ : Aside0 (w.heap.size ≤ gb233):=⟨h4_⟩
     have n5_ : Aside0 (w.heap.size ≤ gb233):=⟨h5_⟩
     have n6_ : Aside0 (gb222 ≠ gb233):=⟨h6_⟩
     have n7_ : Aside0 (gb233 ≠ gb222):=⟨h7_⟩
     have n8_ : Aside0 (gb223 ≠ gb233):=⟨h8_⟩
     have n9_ : Aside0 (gb233 ≠ gb223):=⟨h9_⟩
     have n10_ : Aside0 (Below w.heap.size w w17):=⟨h10_⟩
     clear BK222 BK223 HB
     clear h0_ h1_ h2_ h3_ h4_ h5_ h6_ h7_ h8_ h9_ h10_
     have HO231:=n0_
     have BK222:=n1_
     have BK223:=n2_
     have BK233:=n3_
     have GW233:=n4_
     have GE233:=n5_
     have NB222_233:=n6_
     have NB233_222:=n7_
     have NB223_233:=n8_
     have NB233_223:=n9_
     have HB:=n10_
     clear n0_ n1_ n2_ n3_ n4_ n5_ n6_ n7_ n8_ n9_ n10_
     have hHeld : w17.cell? ⟨gb222,0,none⟩ = some (.slice A0_0 l0_0.length c0_0):=hS_
     obtain ⟨Ao18,co18,eo18⟩:=Kd.R_slice HO231.out
     (first | subst eo18 | (injection eo18 with f1_ f2_ f3_;have f4_:=f1_.symm;have f5_:=f3_.symm;clear f1_ f2_ f3_;subst f4_;subst f5_))
     refine norm_ (a':=?_) ?_ ?_;rotate_left
     ·simp only [putAll,Act.put,qA0,qB0,qC0]
      rfl
     refine one_ (i:=9) (N:=none) (zF0 11 1023) rfl rfl (one_of HT_.out (by kernel_rfl)) (by decide) (fun K hK => ?_)
     have hs19 : w17.cell? ⟨gb233,0,none⟩ = some (.slice none 0 0):=(blk_cell BK233.out 0).trans rfl
     have hfs19:=blk_frozen BK233.out 0
     have hns19_0:=NB222_233.out
     have hns19_1:=NB223_233.out
     have hms19_0:=NB233_222.out
     have hms19_1:=NB233_223.out
     refine skip_ (w1:=?_) (by rfl) rfl ?_ ?_;rotate_left
     ·go_simp
      rfl
     refine hK.out _ _ (((cell_far (p:=⟨gb233,_,none⟩) NB222_233.out _).trans (hHeld))) (fun hHeld => ?_)
     clear hK K
     refine zp0 10 11 11 2047 HT_ ?_
     refine done_ (done_of HT_.out (by kernel_rfl)) ?_
     obtain ⟨_,_⟩:=zn0 NB223_222
     obtain ⟨_,_⟩:=zn0 NB223_233
     have hcz22_0:=zc00 BK223
     have hfz22_0:=blk_frozen BK223.out 0
     try go_wp2
     refine bodyPost_ret (results_ct rfl _ _ gb223 30 #[.slice none 0 0] (0,0) _ rfl (by refine zT0 ?_;refine blk_put (cs:=#[.slice none 0 0]) ?_ 0 _ rfl;exact zK0 BK223.out) Try.underlying30 rfl (by kernel_rfl)) rfl ?_
     exact ⟨_,zW0,by first | exact Kd.R_nil _ _ _ _ _ | exact Kd.N_nil _ _ _ _ _ | exact Kd.V_nil _ _ _ _ _ | exact Kd.Q_nil _ _ _ _ _ | exact Kd.S_nil _ _ _ _ _,(zY0 HB.out)⟩
    ·rw [if_neg c10] at H
     have c10b0 : decide (t232 < a2) = false:=decide_eq_false c10
     clear c10
     replace H:=Option.bind_eq_some_iff.mp H
     obtain ⟨⟨t234,t237⟩,A230,H⟩:=H
     replace H : (some (t234,t237)) = some (r1,r2):=H
     have A23:=Aside0.mk A230
     clear A230
     simp only [Option.some.injEq,Prod.mk.injEq] at H
     obtain ⟨rfl,rfl⟩:=H
     go_enter Try.func46,Try.ntmps46
     try go_wp2_with (first | ((with_reducible refine gate_dst (N:=4) rfl ?_);refine box_event ?hg (N:=4) ?hd (cs:=#[.slice A0_0 l0_0.length c0_0]) (t:=30) ?hr ?_;(case hd => rfl);(case hg => rfl);(case hr => first | (go_simp;done) | (go_simp;rfl));intro gb222 hg w24 hbox hb;have BK222:=Aside0.mk hbox;have GW222:=zz0 hg HB;have GE222:=zz0 hg HB;replace HB:=zs0 HB hb;clear hb hbox hg) | ((with_reducible refine gate_dst (N:=8) rfl ?_);refine box_event ?hg (N:=8) ?hd (cs:=#[.slice none 0 0]) (t:=30) ?hr ?_;(case hd => rfl);(case hg => rfl);(case hr => first | (go_simp;done) | (go_simp;rfl));intro gb223 hg w25 hbox hb;have BK223:=Aside0.mk hbox;have GW223:=zz0 hg HB;have GE223:=zz0 hg HB;replace HB:=zs0 HB hb;have NB222_223:=zl0 hg BK222;have NB223_222:=zg0 hg BK222;replace BK222:=zb0 BK222 hb;clear hb hbox hg) | ((with_reducible refine gate_callee (f:=78) rfl ?_);refine goesL_ (some 15) rfl rfl Try.func78 (by kernel_rfl) rfl #[.int .i64 a2,.int .i64 0,.int .i64 (l1.length : Int)] rfl zM0 ?_;(with_reducible refine (impl_within.calls a2 0 (l1.length : Int) true _ A5.out).mono ?_);rintro e w' ⟨rfl,⟨nd,rfl⟩⟩;refine ⟨_,rfl,?_⟩;(try (rw [drewN_self w25];generalize hq_ : World.drewN w25 _ = w25;have n0_ : Aside0 (w25.heap[gb222]? = some (.cells #[.slice A0_0 l0_0.length c0_0] 30 (0,0))):=⟨by rw [← hq_];exact (zK0 BK222.out)⟩;have n1_ : Aside0 (w25.heap[gb223]? = some (.cells #[.slice none 0 0] 30 (0,0))):=⟨by rw [← hq_];exact (zK0 BK223.out)⟩;have n2_ : Aside0 (Below w.heap.size w w25):=⟨by rw [← hq_];exact (zY0 HB.out)⟩;clear BK222 BK223 HB hq_;have BK222:=n0_;have BK223:=n1_;have HB:=n2_;clear n0_ n1_ n2_))))
     replace BK222:=Aside0.mk (blk_drew BK222.out)
     replace BK223:=Aside0.mk (blk_drew BK223.out)
     replace HB:=Aside0.mk (below_drew1 HB.out)
     have q27 : (a2 : Int) ≤ ((l1.length : Int) : Int):=zD0
     obtain ⟨i027,hi027,_,hsz27,_⟩:=info_parts info55
     have hroom27 : l1.length ≤ c1:=HC1.out
     have hC27 : Kd.C k55 _ A1 l1.length l1:=HR1.out
     have hcut27:=cut_to (P:=Try.prog) 62 55 .i64 Try.underlying62 hi027 A1 l1.length c1 a2 (zD0) q27 hroom27
     have hr27:=Kd.C_take (m:=(a2 : Int).toNat) hC27 (by omega)
     have hy27 : y225.length = (a2 : Int).toNat:=(by rw [Ny225.out,List.length_take];omega)
     rw [← Ny225.out] at hr27
     rw [← hy27] at hcut27
     have HR228:=Aside0.mk hr27
     have HC228:=Aside0.mk (show y225.length ≤ c1 from by omega)
     clear hr27 hC27 hroom27 hi027 hsz27
     have KY27:=Aside0.mk hy27
     clear hy27
     replace q27:=eq_true q27
     refine start_ (n:=11) (S:=fun w' => w'.cell? ⟨gb222,0,none⟩ = some (.slice A0_0 l0_0.length c0_0)) (ds:=[]) (zF0 11 0) (by kernel_rfl) rfl rfl ((blk_cell BK222.out 0).trans rfl) (fun hHeld => ?_);refine with_tabW impl_CutActs.tab3 impl_CutActs.bits3 (fun HT_ HW_ => ?_)
     generalize w25.drew = w26 at BK222 BK223 HB HR228 hHeld ⊢
     refine zp0 1 20 11 2 HT_ ?_
     refine zp0 2 21 11 6 HT_ ?_
     refine zp0 3 22 11 14 HT_ ?_
     refine take_ (i:=0) (N:=some 19) (v:=?_) (a':=?_) (zF0 11 15) rfl rfl (take_ofW HT_.out HW_.out (by kernel_rfl)) (fun _ _ _ h => h) (Or.inl ⟨by rfl,?_⟩) hHeld ?_ ?_;rotate_left
     ·intro w' s0
      go_simp
      with_reducible rfl
     rotate_left
     ·simp only [Act.put,qA0,qB0,qC0,i64_w,i32_w];rfl
     refine join_ (σ:=Value × Nat) 2 (zF0 11 511) (fun s_ => [(23,.tuple #[.agg #[s_.1],.int .i64 t232]),(10,.pointer (some ⟨s_.2,0,none⟩)),(18,.tuple #[.agg #[s_.1],.int .i64 t232]),(24,.agg #[s_.1]),(25,.int .i64 t232)]) (fun s_ w' => (w'.cell? ⟨gb222,0,none⟩ = some (.slice A0_0 l0_0.length c0_0)) ∧ (Kd.R k45 45 w' w.heap.size (fun _ => True) s_.1 t229) ∧ (w'.heap[gb222]? = some (.cells #[.slice A0_0 l0_0.length c0_0] 30 (0,0))) ∧ (w'.heap[gb223]? = some (.cells #[.slice none 0 0] 30 (0,0))) ∧ (w'.heap[s_.2]? = some (.cells #[.slice none 0 0] 30 (0,0))) ∧ (w.heap.size ≤ s_.2) ∧ (w.heap.size ≤ s_.2) ∧ (gb222 ≠ s_.2) ∧ (s_.2 ≠ gb222) ∧ (gb223 ≠ s_.2) ∧ (s_.2 ≠ gb223) ∧ (Below w.heap.size w w')) ?_ ?_
     rotate_left
     ·intro hCont
      refine two_ (i:=4) (j:=8) (Ni:=some 23) (Nj:=some 10) (zF0 11 31) (zF0 11 271) rfl rfl rfl rfl (two_of HT_.out (by kernel_rfl)) (by decide) (by decide) (fun K hK => ?_) (fun K hK => ?_)
      ·skip
       refine goes_ Try.func42 (by kernel_rfl) rfl #[.agg #[.slice A0_0 l0_0.length c0_0],.slice A1 y225.length c1] (by rfl) rfl rfl zM0 ?_
       with_reducible refine (impl_DoActs.calls k _ _ l0_0 _ _ y225 t229 t232 _ ?side1 ?side2 ?side3 ?side4 A9.out).mono ?_
       (case side1 => exact zA0 (Kd.C_below HR0_0.out HB.out))
       (case side2 => exact HC0_0.out)
       (case side3 => exact zA0 (Kd.C_below HR228.out HB.out))
       (case side4 => exact HC228.out)
       rintro e w28 ⟨v230,rfl,ho0,hb⟩
       refine ⟨_,rfl,?_⟩
       have HO231:=Aside0.mk (Kd.R_lower ho0 (zZ0 HB.out))
       replace BK222:=zb0 BK222 hb
       replace BK223:=zb0 BK223 hb
       replace HB:=zs0 HB hb
       (try clear hb)
       (try clear hb2)
       (try clear hk)
       (try clear hi)
       (try clear ho0)
       refine hK.out _ _ ((blk_cell BK222.out 0).trans rfl) (fun hHeld => ?_)
       clear hK K
       refine norm_ (a':=?_) ?_ ?_;rotate_left
       ·show Act.put _ (some 23) _ = _;simp only [Act.put,qA0,qB0,qC0,i64_w,i32_w];rfl
       refine zp0 5 18 11 63 HT_ ?_
       refine zp0 6 24 11 127 HT_ ?_
       refine zp0 7 25 11 255 HT_ ?_
       refine one_ (i:=8) (N:=some 10) (zF0 11 511) rfl rfl (one_of HT_.out (by kernel_rfl)) (by decide) (fun K hK => ?_)
       refine box_step ?hg (N:=10) ?hd (cs:=#[.slice none 0 0]) (t:=30) ?hr ?_;(case hd => rfl);(case hg => rfl);(case hr => first | (go_simp;done) | (go_simp;rfl))
       intro gb233 hg w29 hbox hb
       replace HO231:=Aside0.mk (Kd.R_below (zR0 HO231.out) hb)
       have BK233:=Aside0.mk hbox
       have GW233:=zz0 hg HB
       have GE233:=zz0 hg HB
       replace HB:=zs0 HB hb
       have NB222_233:=zl0 hg BK222
       have NB233_222:=zg0 hg BK222
       replace BK222:=zb0 BK222 hb
       have NB223_233:=zl0 hg BK223
       have NB233_223:=zg0 hg BK223
       replace BK223:=zb0 BK223 hb
       clear hb hbox hg
       refine hK.out _ _ ((blk_cell BK222.out 0).trans rfl) (fun hHeld => ?_)
       clear hK K
       refine norm_ (a':=?_) ?_ ?_;rotate_left
       ·show Act.put _ (some 10) _ = _;simp only [Act.put,qA0,qB0,qC0,i64_w,i32_w];rfl
       exact norm_ (by simp only [putAll,Act.put,qA0,qB0,qC0]) (hCont (v230,gb233) _ ⟨hHeld,(zR0 HO231.out),(zK0 BK222.out),(zK0 BK223.out),(zK0 BK233.out),GW233.out,GE233.out,NB222_233.out,NB233_222.out,NB223_233.out,NB233_223.out,(zY0 HB.out)⟩)
      ·skip
       refine box_step ?hg (N:=10) ?hd (cs:=#[.slice none 0 0]) (t:=30) ?hr ?_;(case hd => rfl);(case hg => rfl);(case hr => first | (go_simp;done) | (go_simp;rfl))
       intro gb233 hg w28 hbox hb
       have BK233:=Aside0.mk hbox
       have GW233:=zz0 hg HB
       have GE233:=zz0 hg HB
       replace HB:=zs0 HB hb
       have NB222_233:=zl0 hg BK222
       have NB233_222:=zg0 hg BK222
       replace BK222:=zb0 BK222 hb
       have NB223_233:=zl0 hg BK223
       have NB233_223:=zg0 hg BK223
       replace BK223:=zb0 BK223 hb
       clear hb hbox hg
       refine hK.out _ _ ((blk_cell BK222.out 0).trans rfl) (fun hHeld => ?_)
       clear hK K
       refine norm_ (a':=?_) ?_ ?_;rotate_left
       ·show Act.put _ (some 10) _ = _;simp only [Act.put,qA0,qB0,qC0,i64_w,i32_w];rfl
       refine one_ (i:=4) (N:=some 23) (zF0 11 287) rfl rfl (one_of HT_.out (by kernel_rfl)) (by decide) (fun K hK => ?_)
       refine goes_ Try.func42 (by kernel_rfl) rfl #[.agg #[.slice A0_0 l0_0.length c0_0],.slice A1 y225.length c1] (by rfl) rfl rfl zM0 ?_
       with_reducible refine (impl_DoActs.calls k _ _ l0_0 _ _ y225 t229 t232 _ ?side1 ?side2 ?side3 ?side4 A9.out).mono ?_
       (case side1 => exact zA0 (Kd.C_below HR0_0.out HB.out))
       (case side2 => exact HC0_0.out)
       (case side3 => exact zA0 (Kd.C_below HR228.out HB.out))
       (case side4 => exact HC228.out)
       rintro e w29 ⟨v230,rfl,ho0,hb⟩
       refine ⟨_,rfl,?_⟩
       have HO231:=Aside0.mk (Kd.R_lower ho0 (zZ0 HB.out))
       replace BK222:=zb0 BK222 hb
       replace BK223:=zb0 BK223 hb
       replace BK233:=zb0 BK233 hb
       replace HB:=zs0 HB hb
       (try clear hb)
       (try clear hb2)
       (try clear hk)
       (try clear hi)
       (try clear ho0)
       refine hK.out _ _ ((blk_cell BK222.out 0).trans rfl) (fun hHeld => ?_)
       clear hK K
       refine norm_ (a':=?_) ?_ ?_;rotate_left
       ·show Act.put _ (some 23) _ = _;simp only [Act.put,qA0,qB0,qC0,i64_w,i32_w];rfl
       refine zp0 5 18 11 319 HT_ ?_
       refine zp0 6 24 11 383 HT_ ?_
       refine zp0 7 25 11 511 HT_ ?_
       exact norm_ (by simp only [putAll,Act.put,qA0,qB0,qC0]) (hCont (v230,gb233) _ ⟨hHeld,(zR0 HO231.out),(zK0 BK222.out),(zK0 BK223.out),(zK0 BK233.out),GW233.out,GE233.out,NB222_233.out,NB233_222.out,NB223_233.out,NB233_223.out,(zY0 HB.out)⟩)
     rintro ⟨v230,gb233⟩ w30 ⟨hS_,h0_,h1_,h2_,h3_,h4_,h5_,h6_,h7_,h8_,h9_,h10_⟩
     have n0_ : Aside0 (Kd.R k45 45 w30 w.heap.size (fun _ => True) v230 t229):=⟨h0_⟩
     have n1_ : Aside0 (w30.heap[gb222]? = some (.cells #[.slice A0_0 l0_0.length c0_0] 30 (0,0))):=⟨h1_⟩
     have n2_ : Aside0 (w30.heap[gb223]? = some (.cells #[.slice none 0 0] 30 (0,0))):=⟨h2_⟩
     have n3_ : Aside0 (w30.heap[gb233]? = some (.cells #[.slice none 0 0] 30 (0,0))):=⟨h3_⟩
     have n4_ : Aside0 (w.heap.size ≤ gb233):=⟨h4_⟩
     have n5_ : Aside0 (w.heap.size ≤ gb233):=⟨h5_⟩
     have n6_ : Aside0 (gb222 ≠ gb233):=⟨h6_⟩
     have n7_ : Aside0 (gb233 ≠ gb222):=⟨h7_⟩
     have n8_ : Aside0 (gb223 ≠ gb233):=⟨h8_⟩
     have n9_ : Aside0 (gb233 ≠ gb223):=⟨h9_⟩
     have n10_ : Aside0 (Below w.heap.size w w30):=⟨h10_⟩
     clear BK222 BK223 HB
     clear h0_ h1_ h2_ h3_ h4_ h5_ h6_ h7_ h8_ h9_ h10_
     have HO231:=n0_
     have BK222:=n1_
     have BK223:=n2_
     have BK233:=n3_
     have GW233:=n4_
     have GE233:=n5_
     have NB222_233:=n6_
     have NB233_222:=n7_
     have NB223_233:=n8_
     have NB233_223:=n9_
     have HB:=n10_
     clear n0_ n1_ n2_ n3_ n4_ n5_ n6_ n7_ n8_ n9_ n10_
     have hHeld : w30.cell? ⟨gb222,0,none⟩ = some (.slice A0_0 l0_0.length c0_0):=hS_
     obtain ⟨Ao31,co31,eo31⟩:=Kd.R_slice HO231.out
     (first | subst eo31 | (injection eo31 with f1_ f2_ f3_;have f4_:=f1_.symm;have f5_:=f3_.symm;clear f1_ f2_ f3_;subst f4_;subst f5_))
     refine norm_ (a':=?_) ?_ ?_;rotate_left
     ·simp only [putAll,Act.put,qA0,qB0,qC0]
      rfl
     refine one_ (i:=9) (N:=none) (zF0 11 1023) rfl rfl (one_of HT_.out (by kernel_rfl)) (by decide) (fun K hK => ?_)
     have hs32 : w30.cell? ⟨gb233,0,none⟩ = some (.slice none 0 0):=(blk_cell BK233.out 0).trans rfl
     have hfs32:=blk_frozen BK233.out 0
     have hns32_0:=NB222_233.out
     have hns32_1:=NB223_233.out
     have hms32_0:=NB233_222.out
     have hms32_1:=NB233_223.out
     refine skip_ (w1:=?_) (by rfl) rfl ?_ ?_;rotate_left
     ·go_simp
      rfl
     refine hK.out _ _ (((cell_far (p:=⟨gb233,_,none⟩) NB222_233.out _).trans (hHeld))) (fun hHeld => ?_)
     clear hK K
     refine zp0 10 11 11 2047 HT_ ?_
     refine done_ (done_of HT_.out (by kernel_rfl)) ?_
     obtain ⟨_,_⟩:=zn0 NB233_222
     obtain ⟨_,_⟩:=zn0 NB233_223
     have hcz35_0:=zc00 BK233
     have hfz35_0:=blk_frozen BK233.out 0
     try go_wp2_with (first | ((with_reducible refine gate_callee (f:=25) rfl ?_);refine goesL_ (some 32) rfl rfl Try.func25 (by kernel_rfl) rfl #[.agg #[.slice Ao31 t229.length co31],.slice A3 l3.length c3] rfl zM0 ?_;(with_reducible refine (impl_LoseDisk.calls k _ _ t229 _ _ l3 t234 t237 _ ?side1 ?side2 ?side3 ?side4 A23.out).mono ?_);(case side1 => refine (Kd.R_reads' (e:=45) (base:=w.heap.size) (ok:=fun k_ => True) (n:=t229.length) (c:=co31) ?_).2.2;exact (by refine zV0 ?_;exact (Kd.R_mono (Kd.R_far (p:=⟨gb233,0,none⟩) (Kd.R_types HO231.out BK233.out (by decide)) (fun _ hk => hk.2) (.slice Ao31 t229.length co31)) (fun _ h_ => h_.1))));(case side2 => exact (Kd.R_reads' HO231.out).2.1);(case side3 => exact Kd.C_below HR3.out (zY0 HB.out));(case side4 => exact HC3.out);rintro e w36 ⟨v235,rfl,ho0,hb⟩;refine ⟨_,rfl,?_⟩;have HO236:=Aside0.mk (Kd.R_lower (Kd.R_new' ho0 (Kd.R_lt (by refine zV0 ?_;exact (Kd.R_mono (Kd.R_far (p:=⟨gb233,0,none⟩) (Kd.R_types HO231.out BK233.out (by decide)) (fun _ hk => hk.2) (.slice Ao31 t229.length co31)) (fun _ h_ => h_.1))))) (zZ0 HB.out));replace HO231:=Aside0.mk (Kd.R_elder' (by refine zV0 ?_;exact (Kd.R_mono (Kd.R_far (p:=⟨gb233,0,none⟩) (Kd.R_types HO231.out BK233.out (by decide)) (fun _ hk => hk.2) (.slice Ao31 t229.length co31)) (fun _ h_ => h_.1))) (Kd.R_base ho0) hb);replace BK222:=zb0 BK222 hb;replace BK223:=zb0 BK223 hb;replace BK233:=Aside0.mk (blk_below (g:=gb233) (o:=.cells #[.slice Ao31 t229.length co31] 30 (0,0)) (by refine zT0 ?_;refine blk_put (cs:=#[.slice none 0 0]) ?_ 0 _ rfl;exact zK0 BK233.out) hb);replace HB:=zs0 HB hb;(try clear hb);(try clear hk);(try clear ho0);obtain ⟨Ao37,co37,eo37⟩:=Kd.R_slice HO236.out;subst eo37;obtain ⟨_,_⟩:=zn0 NB223_222;have hcz39_0:=zc00 BK223;have hfz39_0:=blk_frozen BK223.out 0))
     refine bodyPost_ret (results_ct rfl _ _ gb223 30 #[.slice Ao37 t234.length co37] (0,0) _ rfl (by refine zT0 ?_;refine blk_put (cs:=#[.slice none 0 0]) ?_ 0 _ rfl;exact zK0 BK223.out) Try.underlying30 rfl (by kernel_rfl)) rfl ?_
     exact ⟨_,zW0,by refine zV0 ?_;exact Kd.R_mono (Kd.R_far (p:=⟨gb223,0,none⟩) (Kd.R_types HO236.out BK223.out (by decide)) (fun _ hk => hk.2) (.slice Ao37 t234.length co37)) (fun _ hk => trivial),(zY0 HB.out)⟩
   ·rw [if_neg c8] at H
    exact absurd H (by simp)
  ·rw [if_neg c7] at H
   exact absurd H (by simp)
 ·replace c6:=Bool.eq_false_iff.mpr c6
  subst c6
  have H1 : (some (([] : List (S45)),false)) = some (r1,r2):=by rw [if_neg (show ¬ (false = true) by decide)] at H;exact H
  clear H
  have H:=H1
  clear H1
  simp only [Option.some.injEq,Prod.mk.injEq] at H
  obtain ⟨rfl,rfl⟩:=H
  go_enter Try.func46,Try.ntmps46
  go_wp2_with (first | ((with_reducible refine gate_dst (N:=4) rfl ?_);refine box_event ?hg (N:=4) ?hd (cs:=#[.slice A0_0 l0_0.length c0_0]) (t:=30) ?hr ?_;(case hd => rfl);(case hg => rfl);(case hr => first | (go_simp;done) | (go_simp;rfl));intro gb222 hg w40 hbox hb;have BK222:=Aside0.mk hbox;have GW222:=zz0 hg HB;have GE222:=zz0 hg HB;replace HB:=zs0 HB hb;clear hb hbox hg) | ((with_reducible refine gate_dst (N:=8) rfl ?_);refine box_event ?hg (N:=8) ?hd (cs:=#[.slice none 0 0]) (t:=30) ?hr ?_;(case hd => rfl);(case hg => rfl);(case hr => first | (go_simp;done) | (go_simp;rfl));intro gb223 hg w41 hbox hb;have BK223:=Aside0.mk hbox;have GW223:=zz0 hg HB;have GE223:=zz0 hg HB;replace HB:=zs0 HB hb;have NB222_223:=zl0 hg BK222;have NB223_222:=zg0 hg BK222;replace BK222:=zb0 BK222 hb;clear hb hbox hg) | ((with_reducible refine gate_callee (f:=78) rfl ?_);refine goesL_ (some 15) rfl rfl Try.func78 (by kernel_rfl) rfl #[.int .i64 a2,.int .i64 0,.int .i64 (l1.length : Int)] rfl zM0 ?_;(with_reducible refine (impl_within.calls a2 0 (l1.length : Int) false _ A5.out).mono ?_);rintro e w' ⟨rfl,⟨nd,rfl⟩⟩;refine ⟨_,rfl,?_⟩;(try (rw [drewN_self w41];generalize hq_ : World.drewN w41 _ = w41;have n0_ : Aside0 (w41.heap[gb222]? = some (.cells #[.slice A0_0 l0_0.length c0_0] 30 (0,0))):=⟨by rw [← hq_];exact (zK0 BK222.out)⟩;have n1_ : Aside0 (w41.heap[gb223]? = some (.cells #[.slice none 0 0] 30 (0,0))):=⟨by rw [← hq_];exact (zK0 BK223.out)⟩;have n2_ : Aside0 (Below w.heap.size w w41):=⟨by rw [← hq_];exact (zY0 HB.out)⟩;clear BK222 BK223 HB hq_;have BK222:=n0_;have BK223:=n1_;have HB:=n2_;clear n0_ n1_ n2_));obtain ⟨_,_⟩:=zn0 NB223_222;have hcz43_0:=zc00 BK223;have hfz43_0:=blk_frozen BK223.out 0))
  refine bodyPost_ret (results_ct rfl _ _ gb223 30 #[.slice none 0 0] (0,0) _ rfl (by refine zT0 ?_;refine blk_put (cs:=#[.slice none 0 0]) ?_ 0 _ rfl;exact zK0 BK223.out) Try.underlying30 rfl (by kernel_rfl)) rfl ?_
  exact ⟨_,zW0,by first | exact Kd.R_nil _ _ _ _ _ | exact Kd.N_nil _ _ _ _ _ | exact Kd.V_nil _ _ _ _ _ | exact Kd.Q_nil _ _ _ _ _ | exact Kd.S_nil _ _ _ _ _,(zY0 HB.out)⟩

/-! ### spec_l01In: function 91 -/
def spec_l01In.f (a0 : Int) (a1 : Int) (a2 : Int) : Option (Bool):=if a0 ≥ a1 then (some (decide (a0 ≤ a2))) else (some false)
set_option maxHeartbeats 8000000 in
set_option maxRecDepth 100000 in
theorem spec_l01In.calls (a0 : Int) (a1 : Int) (a2 : Int) (r : Bool) (w : World) (h : spec_l01In.f a0 a1 a2 = some r) :
  Calls Try.prog 91 #[.int .i64 a0,.int .i64 a1,.int .i64 a2] w fun e w' => e = .returned (.bool r) ∧ Drawn0 w w':=by
 have H : (if a0 ≥ a1 then (some (decide (a0 ≤ a2))) else (some false)) = some r:=h
 clear h
 by_cases c4 : a0 ≥ a1
 ·rw [if_pos c4] at H
  have c4b0 : decide (a1 ≤ a0) = true:=decide_eq_true c4
  clear c4
  obtain rfl:=Option.some.inj H
  go_enter Try.func91,Try.ntmps91
  go_wp2
  go_ret
  exact ⟨by first | rfl | (simp;done) | (simp [*];done),by repeat (first | exact Drawn0.refl _ | apply Drawn0.step)⟩
 ·rw [if_neg c4] at H
  have c4b0 : decide (a1 ≤ a0) = false:=decide_eq_false c4
  clear c4
  obtain rfl:=Option.some.inj H
  go_enter Try.func91,Try.ntmps91
  go_wp2
  go_ret
  exact ⟨by first | rfl | (simp;done) | (simp [*];done),by repeat (first | exact Drawn0.refl _ | apply Drawn0.step)⟩

/-! ### spec_l03Name: function 81 -/
def spec_l03Name.f (a0 : ByteArray) : Option (Bool):=(spec_l01In.f (a0.size : Int) 1 8).bind fun t238 => (some t238)
set_option maxHeartbeats 8000000 in
set_option maxRecDepth 100000 in
theorem spec_l03Name.calls (a0 : ByteArray) (r : Bool) (w : World) (h : spec_l03Name.f a0 = some r) :
  Calls Try.prog 81 #[.string a0] w fun e w' => e = .returned (.bool r) ∧ Drawn0 w w':=by
 have H : ((spec_l01In.f (a0.size : Int) 1 8).bind fun t238 => (some t238)) = some r:=h
 clear h
 replace H:=Option.bind_eq_some_iff.mp H
 obtain ⟨t238,A20,H⟩:=H
 replace H : (some t238) = some r:=H
 have A2:=Aside0.mk A20
 clear A20
 obtain rfl:=Option.some.inj H
 go_enter Try.func81,Try.ntmps81
 go_wp2_with (first | ((with_reducible refine gate_callee (f:=91) rfl ?_);refine goesL_ (some 5) rfl rfl Try.func91 (by kernel_rfl) rfl #[.int .i64 (a0.size : Int),.int .i64 1,.int .i64 8] rfl zM0 ?_;(with_reducible refine (spec_l01In.calls (a0.size : Int) 1 8 t238 _ A2.out).mono ?_);rintro e w' ⟨rfl,⟨nd,rfl⟩⟩;refine ⟨_,rfl,?_⟩))
 go_ret
 exact ⟨by first | rfl | (simp;done) | (simp [*];done),by repeat (first | exact Drawn0.refl _ | apply Drawn0.step)⟩

end Go.Proofs.Ytgfacdhkamphiaa.PFnExactCutActs
