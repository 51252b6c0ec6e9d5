/- Walks of functions that the law FnExactCutActs reaches, turned by this session from a print of which a part did not build; what was changed is listed in wip/patches of the proofs' repo. -/
import Derived.Test.YtgfacdhkamphiaaOFnExactCutActsx0
import Derived.Test.YtgfacdhkamphiaaOFnExactCutActsx16
namespace Go.Proofs.Ytgfacdhkamphiaa.PFnExactCutActs
open Go.RowKit Go.Proofs.YtgfacdhkamphiaaW.PrintWords Go.Proofs.YtgfacdhkamphiaaW.PrintLast Go.Proofs.YtgfacdhkamphiaaW.PrintMore
attribute [local go_sem] max2_int min2_int max_two min_two max_three min_three max_four min_four   -- for this text's walks alone
set_option linter.unusedVariables false
set_option linter.unusedSimpArgs false

/-! ### spec_DoActs: function 40 -/
def spec_DoActs.l0 : Nat → List (S55) → Int → List (S45) → Option ((List (S45)) × Int)
 | 0,_,_,_ => none
 | k + 1,x1,x7,x329000 => if x7 < (x1.length : Int) then (if 0 ≤ x7 then ((spec_DoAct.f k x329000 ((rd_T55 x1 x7).f0) ((rd_T55 x1 x7).f1) ((rd_T55 x1 x7).f2) ((rd_T55 x1 x7).f3)).bind fun bt330 => (if bt330.2 = true then (spec_DoActs.l0 k x1 (wrap64 (x7 + 1)) bt330.1) else (some (x329000,x7)))) else (none)) else (some (x329000,(x1.length : Int)))
def spec_DoActs.f (k : Nat) (l0_0 : List (S45)) (l1 : List (S55)) : Option ((List (S45)) × Int):=(some (([] : List (S45)) : List (S45))).bind fun y322 => (if y322.length + l0_0.length < 3518437208883 then (spec_DoActs.l0 k l1 0 (y322 ++ l0_0)) else (none))
theorem spec_DoActs.mono_l : ∀ k,(∀ y0 y1 y2,LeO (spec_DoActs.l0 k y0 y1 y2) (spec_DoActs.l0 (k + 1) y0 y1 y2))
 | 0 => fun _ _ _ r h => by simp [spec_DoActs.l0] at h
 | k + 1 => by
  have ih0:=spec_DoActs.mono_l k
  ·intro y0 y1 y2
   unfold spec_DoActs.l0
   repeat' first
   | (with_reducible exact ih0 _ _ _)
   | (with_reducible exact spec_DoAct.mono _ _ _ _ _ _)
   | (with_reducible exact LeO.refl _)
   | (with_reducible exact LeO.none _)
   | (with_reducible refine LeO.ite ?_ ?_)
   | (with_reducible refine LeO.bind ?_ (fun _ => ?_))
   | exact ih0 _ _ _
   | exact spec_DoAct.mono _ _ _ _ _ _
   | exact LeO.none _
   | refine LeO.ite ?_ ?_
   | refine LeO.bind ?_ (fun _ => ?_)
theorem spec_DoActs.mono : ∀ a0 a1 k,LeO (spec_DoActs.f k a0 a1) (spec_DoActs.f (k + 1) a0 a1):=by
 intro a0 a1 k
 have ih0:=spec_DoActs.mono_l k
 unfold spec_DoActs.f
 repeat' first
   | (with_reducible exact ih0 _ _ _)
   | (with_reducible exact spec_DoAct.mono _ _ _ _ _ _)
   | (with_reducible exact LeO.refl _)
   | (with_reducible exact LeO.none _)
   | (with_reducible refine LeO.ite ?_ ?_)
   | (with_reducible refine LeO.bind ?_ (fun _ => ?_))
   | exact ih0 _ _ _
   | exact spec_DoAct.mono _ _ _ _ _ _
   | exact LeO.none _
   | refine LeO.ite ?_ ?_
   | refine LeO.bind ?_ (fun _ => ?_)
def spec_DoActs.T5 : Bool × List (List Nat × List Nat):=(true,[([],[]),([],[]),([],[]),([1,2],[1,2]),([3],[3]),([0,4],[0,4]),([5],[5]),([6],[6]),([6],[6]),([],[]),([9,7,5,0,1,2,3,4,5,6,7,9],[7,9]),([8,10,0,1,2,3,4,5,6,7,8,9,10],[8])])
def spec_DoActs.B5 : List Nat:=[0,0,0,6,14,31,63,127,127,0,767,2047]
theorem spec_DoActs.tab5 : rtab .any (opsOf Try.f40 5) = spec_DoActs.T5:=by kernel_rfl
theorem spec_DoActs.bits5 : waitsOk spec_DoActs.T5.2 spec_DoActs.B5 = true:=by kernel_rfl
set_option maxHeartbeats 8000000 in
set_option maxRecDepth 100000 in
theorem spec_DoActs.calls (k : Nat) (A0_0 : Option Addr) (c0_0 : Nat) (l0_0 : List (S45)) (A1 : Option Addr) (c1 : Nat) (l1 : List (S55)) (r1 : List (S45)) (r2 : Int) (w : World) (hr0_0 : Kd.C k45 w A0_0 l0_0.length l0_0) (hc0_0 : l0_0.length ≤ c0_0) (hr1 : Kd.C k55 w A1 l1.length l1) (hc1 : l1.length ≤ c1) (h : spec_DoActs.f k l0_0 l1 = some (r1,r2)) :
  Calls Try.prog 40 #[.agg #[.slice A0_0 l0_0.length c0_0],.slice A1 l1.length c1] w fun e w' => ∃ v0_ : Value,e = .returned (.tuple #[.agg #[v0_],.int .i64 r2]) ∧ Kd.R k45 45 w' w.heap.size (fun _ => True) v0_ r1 ∧ Below w.heap.size w w':=by
 have hu30:=Try.underlying30
 have hu55:=Try.underlying55
 have HR0_0:=Aside0.mk hr0_0
 have HC0_0:=Aside0.mk hc0_0
 clear hr0_0 hc0_0
 have HR1:=Aside0.mk hr1
 have HC1:=Aside0.mk hc1
 clear hr1 hc1
 have HB:=Aside0.mk (Below.refl w.heap.size w)
 have H : ((some (([] : List (S45)) : List (S45))).bind fun y322 => (if y322.length + l0_0.length < 3518437208883 then (spec_DoActs.l0 k l1 0 (y322 ++ l0_0)) else (none))) = some (r1,r2):=h
 clear h
 obtain ⟨y322,hy322⟩ : ∃ y_ : List (S45),y_ = (([] : List (S45))):=⟨_,rfl⟩
 replace H : (if y322.length + l0_0.length < 3518437208883 then (spec_DoActs.l0 k l1 0 (y322 ++ l0_0)) else (none)) = some (r1,r2):=by first | (rw [hy322];with_reducible exact H) | (have H2_:=(Option.bind_some _ _).symm.trans H;rw [hy322];with_reducible exact H2_) | (have H2_:=(Option.bind_some _ _).symm.trans H;with_reducible exact H2_) | with_reducible exact H | (rw [hy322];exact H) | exact H
 have Ny322:=Aside0.mk hy322
 clear hy322
 by_cases c3 : y322.length + l0_0.length < 3518437208883
 ·rw [if_pos c3] at H
  have LMc3:=Aside0.mk c3
  clear c3
  obtain ⟨y325,hy325⟩ : ∃ y_ : List (S45),y_ = (y322 ++ l0_0):=⟨_,rfl⟩
  replace H : (spec_DoActs.l0 k l1 0 y325) = some (r1,r2):=by first | (rw [hy325];with_reducible exact H) | (have H2_:=(Option.bind_some _ _).symm.trans H;rw [hy325];with_reducible exact H2_) | (have H2_:=(Option.bind_some _ _).symm.trans H;with_reducible exact H2_) | with_reducible exact H | (rw [hy325];exact H) | exact H
  have Ny325:=Aside0.mk hy325
  clear hy325
  have H':=Aside0.mk H
  clear H
  go_enter Try.func40,Try.ntmps40
  go_wp2_with (first | ((with_reducible refine gate_dst (N:=2) rfl ?_);refine box_event ?hg (N:=2) ?hd (cs:=#[.slice A0_0 l0_0.length c0_0]) (t:=30) ?hr ?_;(case hd => rfl);(case hg => rfl);(case hr => first | (go_simp;done) | (go_simp;rfl));intro gb320 hg w4 hbox hb;have BK320:=Aside0.mk hbox;have GW320:=zz0 hg HB;have GE320:=zz0 hg HB;replace HB:=zs0 HB hb;clear hb hbox hg) | ((with_reducible refine gate_dst (N:=4) rfl ?_);refine box_event ?hg (N:=4) ?hd (cs:=#[.slice none 0 0]) (t:=30) ?hr ?_;(case hd => rfl);(case hg => rfl);(case hr => first | (go_simp;done) | (go_simp;rfl));intro gb321 hg w5 hbox hb;have BK321:=Aside0.mk hbox;have GW321:=zz0 hg HB;have GE321:=zz0 hg HB;replace HB:=zs0 HB hb;have NB320_321:=zl0 hg BK320;have NB321_320:=zg0 hg BK320;replace BK320:=zb0 BK320 hb;clear hb hbox hg) | ((with_reducible refine gate_dst (N:=10) rfl ?_);refine Kd.R_lit k45 _ 45 ?hg (N:=10) ?hd (xs:=([] : List (S45))) (inner:=[]) (ok:=fun _ => True) (okp:=fun _ => True) ?hr ?hp (fun _ hk => hk) trivial (Below.refl _ _) (Nat.le_refl _) (by simp) ?_;(case hd => rfl);(case hg => rfl);(case hr => first | (go_simp;done) | (go_simp;rfl));(case hp => exact (Reps.none _ _));intro v323 w6 ho7 hb hg_ hnew_;clear hg_ hnew_;(first | rw [← Ny322.out] at ho7 | (simp only [Int.reduceToNat] at ho7;rw [← Ny322.out] at ho7));have HO324:=Aside0.mk (Kd.R_lower ho7 (zZ0 HB.out));replace BK320:=zb0 BK320 hb;replace BK321:=zb0 BK321 hb;replace HB:=zs0 HB hb;clear hb ho7;obtain ⟨_,_⟩:=zn0 NB320_321;have hcz9_0:=zc00 BK320;have hfz9_0:=blk_frozen BK320.out 0) | ((with_reducible refine gate_builtin (b:=.append) (xs:=#[.tmp 10,.tmp 12]) rfl ?_);at_builtin;refine Kd.R_append_rows k45 (w0:=w) w.heap.size rfl (.tmp 10) (.tmp 12) 28 45 (.agg #[(.string ⟨#[]⟩),(.string ⟨#[]⟩),(.int .i64 0)]) 40 rfl Try.underlying28 info45 rfl (by decide) (by omega) v323 y322 l0_0 _ _ _ (fun _ => True) (fun _ => False) rfl rfl ?aO ?aR (fun _ _ h => h) (fun _ h => h.elim) ?aF ?aB ?aS ?aL ?_;(case aR => exact zA0 (Kd.C_below HR0_0.out HB.out));(case aB => exact (zY0 HB.out));(case aF => exact (fun _ _ => trivial));(case aO => exact (zR0 HO324.out));(case aS => exact (zZ0 HB.out));(case aL => have:=LMc3.out;omega);intro v326 w10 ho hb hg hat;rw [← Ny325.out] at ho;replace BK320:=Aside0.mk (blk_grown (g:=gb320) (o:=.cells #[.slice A0_0 l0_0.length c0_0] 30 (0,0)) (zK0 BK320.out) hg (Kd.R_ne HO324.out BK320.out (by decide)));replace BK321:=Aside0.mk (blk_grown (g:=gb321) (o:=.cells #[.slice none 0 0] 30 (0,0)) (zK0 BK321.out) hg (Kd.R_ne HO324.out BK321.out (by decide)));replace HB:=Aside0.mk hb;have HO327:=Aside0.mk ho;clear HO324;clear ho hb hg hat;obtain ⟨Ao11,co11,eo11⟩:=Kd.R_slice HO327.out;subst eo11) | ((with_reducible refine gate_dst (N:=6) rfl ?_);refine box_event ?hg (N:=6) ?hd (cs:=#[.slice none 0 0]) (t:=30) ?hr ?_;(case hd => rfl);(case hg => rfl);(case hr => first | (go_simp;done) | (go_simp;rfl));intro gb328 hg w12 hbox hb;replace HO327:=Aside0.mk (Kd.R_below (zR0 HO327.out) hb);have BK328:=Aside0.mk hbox;have GW328:=zz0 hg HB;have GE328:=zz0 hg HB;replace HB:=zs0 HB hb;have NB320_328:=zl0 hg BK320;have NB328_320:=zg0 hg BK320;replace BK320:=zb0 BK320 hb;have NB321_328:=zl0 hg BK321;have NB328_321:=zg0 hg BK321;replace BK321:=zb0 BK321 hb;clear hb hbox hg;obtain ⟨_,_⟩:=zn0 NB328_320;obtain ⟨_,_⟩:=zn0 NB328_321;have hcz15_0:=zc00 BK328;have hfz15_0:=blk_frozen BK328.out 0))
  go_loopg [7] k (fun kq v7 w' => ∃ (x7_1 : Int) (x329000_1 : List (S45)) (u329000 : Value),v7 = .int .i64 x7_1 ∧ Aside0 (spec_DoActs.l0 kq l1 x7_1 x329000_1 = some (r1,r2)) ∧ Aside0 (kq ≤ k) ∧ Aside0 (Kd.R k45 45 w' w.heap.size (fun _ => True) u329000 x329000_1) ∧ Aside0 (w'.heap[gb320]? = some (.cells #[(.slice A0_0 l0_0.length c0_0)] 30 (0,0))) ∧ Aside0 (w'.heap[gb321]? = some (.cells #[(.slice none 0 0)] 30 (0,0))) ∧ Aside0 (w'.heap[gb328]? = some (.cells #[u329000] 30 (0,0))) ∧ Aside0 (Below w.heap.size w w'))
  case atStart => exact ⟨(0),(y325),(.slice Ao11 y325.length co11),zE0,H',⟨Nat.le_refl _⟩,⟨by refine zV0 ?_;exact Kd.R_mono (Kd.R_far (p:=⟨gb328,0,none⟩) (Kd.R_types HO327.out BK328.out (by decide)) (fun _ hk => hk.2) (.slice Ao11 y325.length co11)) (fun _ hk => trivial)⟩,⟨zK0 BK320.out⟩,⟨zK0 BK321.out⟩,⟨by refine zT0 ?_;refine blk_put (cs:=#[.slice none 0 0]) ?_ 0 _ rfl;exact zK0 BK328.out⟩,⟨zY0 HB.out⟩⟩
  case round =>
   clear H'
   try clear c3
   try clear hcz15_0
   try clear hcz9_0
   try clear hfz15_0
   try clear hfz9_0
   obtain ⟨x7_1,x329000_1,u329000,rfl,HA,HK1,HO_329000,BK320,BK321,BK328,HB⟩:=hrel
   cases gk with
   | zero => exact absurd HA.out (by simp [spec_DoActs.l0])
   | succ k1 =>
    have H:=HA.out
    clear HA
    simp only [spec_DoActs.l0] at H
    by_cases c16 : x7_1 < (l1.length : Int)
    ·rw [if_pos c16] at H
     have c16b0 : decide (x7_1 < (l1.length : Int)) = true:=decide_eq_true c16
     clear c16
     by_cases c17 : 0 ≤ x7_1
     ·rw [if_pos c17] at H
      have c17b0 : decide (0 ≤ x7_1) = true:=decide_eq_true c17
      clear c17
      replace H:=Option.bind_eq_some_iff.mp H
      obtain ⟨⟨t330,t333⟩,A180,H⟩:=H
      replace H : (if t333 = true then (spec_DoActs.l0 k1 l1 (wrap64 (x7_1 + 1)) t330) else (some (x329000_1,x7_1))) = some (r1,r2):=H
      have A18:=Aside0.mk A180
      clear A180
      by_cases c19 : t333 = true
      ·subst c19
       have H1 : (spec_DoActs.l0 k1 l1 (wrap64 (x7_1 + 1)) t330) = some (r1,r2):=by rw [if_pos rfl] at H;exact H
       clear H
       have H:=H1
       clear H1
       have H':=Aside0.mk H
       clear H
       obtain ⟨Ao20,co20,eo20⟩:=Kd.R_slice HO_329000.out
       subst eo20
       try go_wp2
       replace HO_329000:=Aside0.mk (Kd.R_drew HO_329000.out)
       replace BK320:=Aside0.mk (blk_drew BK320.out)
       replace BK321:=Aside0.mk (blk_drew BK321.out)
       replace BK328:=Aside0.mk (blk_drew BK328.out)
       replace HB:=Aside0.mk (below_drew1 HB.out)
       have p329 : 0 ≤ (x7_1 : Int):=zD0
       have q329 : x7_1 < (l1.length : Int):=zD0
       obtain ⟨ad329,e329,hx329_0,hx329_1,hx329_2,hx329_3⟩:=at_T55 HR1.out x7_1 p329 q329
       have hw329_3:=hx329_3
       have hw329_2:=hx329_2
       have hw329_1:=hx329_1
       have hw329_0:=hx329_0
       cases e329
       replace hx329_0:=zx0 HB hx329_0
       replace hx329_1:=zx0 HB hx329_1
       replace hx329_2:=zx0 HB hx329_2
       replace hx329_3:=zx0 HB hx329_3
       replace p329:=eq_true p329
       replace q329:=eq_true q329
       refine start_ (n:=12) (S:=fun w' => w'.cell? ⟨gb328,0,none⟩ = some (.slice Ao20 x329000_1.length co20) ∧ w'.cell? (ad329.add ((x7_1).toNat * 4)) = some (.int .i64 ((rd_T55 l1 x7_1).f0)) ∧ w'.cell? ⟨(ad329.add ((x7_1).toNat * 4)).block,(ad329.add ((x7_1).toNat * 4)).off + 1,none⟩ = some (.string ((rd_T55 l1 x7_1).f1)) ∧ w'.cell? ⟨(ad329.add ((x7_1).toNat * 4)).block,(ad329.add ((x7_1).toNat * 4)).off + 2,none⟩ = some (.string ((rd_T55 l1 x7_1).f2)) ∧ w'.cell? ⟨(ad329.add ((x7_1).toNat * 4)).block,(ad329.add ((x7_1).toNat * 4)).off + 3,none⟩ = some (.string ((rd_T55 l1 x7_1).f3))) (ds:=[]) (zF0 12 0) (by kernel_rfl) rfl rfl ⟨(blk_cell BK328.out 0).trans rfl,(zx0 HB hw329_0 :),(zx0 HB hw329_1 :),(zx0 HB hw329_2 :),(zx0 HB hw329_3 :)⟩ (fun hHeld => ?_);refine with_tabW spec_DoActs.tab5 spec_DoActs.bits5 (fun HT_ HW_ => ?_)
       generalize wr.drew = w21 at HO_329000 BK320 BK321 BK328 HB hx329_0 hx329_1 hx329_2 hx329_3 hHeld ⊢
       refine zp0 1 23 12 2 HT_ ?_
       refine zp0 2 24 12 6 HT_ ?_
       refine zp0 3 25 12 14 HT_ ?_
       refine take_ (i:=0) (N:=some 22) (v:=?_) (a':=?_) (zF0 12 15) rfl rfl (take_ofW HT_.out HW_.out (by kernel_rfl)) (fun _ _ _ h => h) (Or.inl ⟨by rfl,?_⟩) hHeld ?_ ?_;rotate_left
       ·rintro w' ⟨s0,s1,s2,s3,s4⟩
        go_simp
        with_reducible rfl
       rotate_left
       ·simp only [Act.put,qA0,qB0,qC0,i64_w,i32_w];rfl
       refine take_ (i:=4) (N:=some 26) (v:=?_) (a':=?_) (zF0 12 31) rfl rfl (take_ofW HT_.out HW_.out (by kernel_rfl)) (fun _ _ _ h => h) (Or.inl ⟨by rfl,?_⟩) hHeld ?_ ?_;rotate_left
       ·rintro w' ⟨s0,s1,s2,s3,s4⟩
        go_simp
        with_reducible rfl
       rotate_left
       ·simp only [Act.put,qA0,qB0,qC0,i64_w,i32_w];rfl
       refine join_ (σ:=Value × Nat) 2 (zF0 12 1023) (fun s_ => [(27,.tuple #[.agg #[s_.1],.bool true]),(8,.pointer (some ⟨s_.2,0,none⟩)),(21,.tuple #[.agg #[s_.1],.bool true]),(28,.agg #[s_.1]),(29,.bool true)]) (fun s_ w' => (w'.cell? ⟨gb328,0,none⟩ = some (.slice Ao20 x329000_1.length co20) ∧ w'.cell? (ad329.add ((x7_1).toNat * 4)) = some (.int .i64 ((rd_T55 l1 x7_1).f0)) ∧ w'.cell? ⟨(ad329.add ((x7_1).toNat * 4)).block,(ad329.add ((x7_1).toNat * 4)).off + 1,none⟩ = some (.string ((rd_T55 l1 x7_1).f1)) ∧ w'.cell? ⟨(ad329.add ((x7_1).toNat * 4)).block,(ad329.add ((x7_1).toNat * 4)).off + 2,none⟩ = some (.string ((rd_T55 l1 x7_1).f2)) ∧ w'.cell? ⟨(ad329.add ((x7_1).toNat * 4)).block,(ad329.add ((x7_1).toNat * 4)).off + 3,none⟩ = some (.string ((rd_T55 l1 x7_1).f3))) ∧ (Kd.R k45 45 w' w.heap.size (fun k_ => some k_ ≠ (.slice Ao20 x329000_1.length co20 : Value).ownBlock) s_.1 t330) ∧ (Kd.R k45 45 w' w.heap.size (fun k_ => some k_ ≠ (s_.1 : Value).ownBlock) (.slice Ao20 x329000_1.length co20) x329000_1) ∧ (w'.heap[gb320]? = some (.cells #[.slice A0_0 l0_0.length c0_0] 30 (0,0))) ∧ (w'.heap[gb321]? = some (.cells #[.slice none 0 0] 30 (0,0))) ∧ (w'.heap[gb328]? = some (.cells #[.slice Ao20 x329000_1.length co20] 30 (0,0))) ∧ (w'.heap[s_.2]? = some (.cells #[.slice none 0 0] 30 (0,0))) ∧ (w.heap.size ≤ s_.2) ∧ (w.heap.size ≤ s_.2) ∧ (gb320 ≠ s_.2) ∧ (s_.2 ≠ gb320) ∧ (gb321 ≠ s_.2) ∧ (s_.2 ≠ gb321) ∧ (gb328 ≠ s_.2) ∧ (s_.2 ≠ gb328) ∧ (Below w.heap.size w w')) ?_ ?_
       rotate_left
       ·intro hCont
        refine two_ (i:=5) (j:=9) (Ni:=some 27) (Nj:=some 8) (zF0 12 63) (zF0 12 543) rfl rfl rfl rfl (two_of HT_.out (by kernel_rfl)) (by decide) (by decide) (fun K hK => ?_) (fun K hK => ?_)
        ·skip
         refine goes_ Try.func36 (by kernel_rfl) rfl #[.agg #[.slice Ao20 x329000_1.length co20],.agg #[.int .i64 ((rd_T55 l1 x7_1).f0),.string ((rd_T55 l1 x7_1).f1),.string ((rd_T55 l1 x7_1).f2),.string ((rd_T55 l1 x7_1).f3)]] (by rfl) rfl rfl zM0 ?_
         with_reducible refine (spec_DoAct.calls k1 _ _ x329000_1 ((rd_T55 l1 x7_1).f0) ((rd_T55 l1 x7_1).f1) ((rd_T55 l1 x7_1).f2) ((rd_T55 l1 x7_1).f3) t330 true _ ?side1 ?side2 A18.out).mono ?_
         (case side1 => repeat (first | exact (Kd.R_reads' HO_329000.out).2.2 | (with_reducible refine Kd.C_alloc ?_ _) | (with_reducible refine Kd.C_drewN ?_ _) | (with_reducible refine Kd.C_drew ?_)))
         (case side2 => exact (Kd.R_reads' HO_329000.out).2.1)
         rintro e w22 ⟨v331,rfl,ho0,hb⟩
         refine ⟨_,rfl,?_⟩
         have HO332:=Aside0.mk (Kd.R_lower (Kd.R_new' ho0 (Kd.R_lt (zR0 HO_329000.out))) (zZ0 HB.out))
         replace HO_329000:=Aside0.mk (Kd.R_elder' (zR0 HO_329000.out) (Kd.R_base ho0) hb)
         replace BK320:=zb0 BK320 hb
         replace BK321:=zb0 BK321 hb
         replace BK328:=zb0 BK328 hb
         replace HB:=zs0 HB hb
         (try clear hb)
         (try clear hb2)
         (try clear hk)
         (try clear hi)
         (try clear ho0)
         refine hK.out _ _ ⟨(blk_cell BK328.out 0).trans rfl,(zx0 HB hw329_0 :),(zx0 HB hw329_1 :),(zx0 HB hw329_2 :),(zx0 HB hw329_3 :)⟩ (fun hHeld => ?_)
         clear hK K
         refine norm_ (a':=?_) ?_ ?_;rotate_left
         ·show Act.put _ (some 27) _ = _;simp only [Act.put,qA0,qB0,qC0,i64_w,i32_w];rfl
         refine zp0 6 21 12 127 HT_ ?_
         refine zp0 7 28 12 255 HT_ ?_
         refine zp0 8 29 12 511 HT_ ?_
         refine one_ (i:=9) (N:=some 8) (zF0 12 1023) rfl rfl (one_of HT_.out (by kernel_rfl)) (by decide) (fun K hK => ?_)
         refine box_step ?hg (N:=8) ?hd (cs:=#[.slice none 0 0]) (t:=30) ?hr ?_;(case hd => rfl);(case hg => rfl);(case hr => first | (go_simp;done) | (go_simp;rfl))
         intro gb334 hg w23 hbox hb
         replace HO_329000:=Aside0.mk (Kd.R_below (zR0 HO_329000.out) hb)
         replace HO332:=Aside0.mk (Kd.R_below (zR0 HO332.out) hb)
         have BK334:=Aside0.mk hbox
         have GW334:=zz0 hg HB
         have GE334:=zz0 hg HB
         replace HB:=zs0 HB hb
         have NB320_334:=zl0 hg BK320
         have NB334_320:=zg0 hg BK320
         replace BK320:=zb0 BK320 hb
         have NB321_334:=zl0 hg BK321
         have NB334_321:=zg0 hg BK321
         replace BK321:=zb0 BK321 hb
         have NB328_334:=zl0 hg BK328
         have NB334_328:=zg0 hg BK328
         replace BK328:=zb0 BK328 hb
         clear hb hbox hg
         refine hK.out _ _ ⟨(blk_cell BK328.out 0).trans rfl,(zx0 HB hw329_0 :),(zx0 HB hw329_1 :),(zx0 HB hw329_2 :),(zx0 HB hw329_3 :)⟩ (fun hHeld => ?_)
         clear hK K
         refine norm_ (a':=?_) ?_ ?_;rotate_left
         ·show Act.put _ (some 8) _ = _;simp only [Act.put,qA0,qB0,qC0,i64_w,i32_w];rfl
         exact norm_ (by simp only [putAll,Act.put,qA0,qB0,qC0]) (hCont (v331,gb334) _ ⟨hHeld,(by refine zV0 ?_;exact Kd.R_mono HO332.out (fun _ hk => hk.2)),(by refine zV0 ?_;exact Kd.R_mono HO_329000.out (fun _ hk => hk.2)),(zK0 BK320.out),(zK0 BK321.out),(zK0 BK328.out),(zK0 BK334.out),GW334.out,GE334.out,NB320_334.out,NB334_320.out,NB321_334.out,NB334_321.out,NB328_334.out,NB334_328.out,(zY0 HB.out)⟩)
        ·skip
         refine box_step ?hg (N:=8) ?hd (cs:=#[.slice none 0 0]) (t:=30) ?hr ?_;(case hd => rfl);(case hg => rfl);(case hr => first | (go_simp;done) | (go_simp;rfl))
         intro gb334 hg w22 hbox hb
         replace HO_329000:=Aside0.mk (Kd.R_below (zR0 HO_329000.out) hb)
         have BK334:=Aside0.mk hbox
         have GW334:=zz0 hg HB
         have GE334:=zz0 hg HB
         replace HB:=zs0 HB hb
         have NB320_334:=zl0 hg BK320
         have NB334_320:=zg0 hg BK320
         replace BK320:=zb0 BK320 hb
         have NB321_334:=zl0 hg BK321
         have NB334_321:=zg0 hg BK321
         replace BK321:=zb0 BK321 hb
         have NB328_334:=zl0 hg BK328
         have NB334_328:=zg0 hg BK328
         replace BK328:=zb0 BK328 hb
         clear hb hbox hg
         refine hK.out _ _ ⟨(blk_cell BK328.out 0).trans rfl,(zx0 HB hw329_0 :),(zx0 HB hw329_1 :),(zx0 HB hw329_2 :),(zx0 HB hw329_3 :)⟩ (fun hHeld => ?_)
         clear hK K
         refine norm_ (a':=?_) ?_ ?_;rotate_left
         ·show Act.put _ (some 8) _ = _;simp only [Act.put,qA0,qB0,qC0,i64_w,i32_w];rfl
         refine one_ (i:=5) (N:=some 27) (zF0 12 575) rfl rfl (one_of HT_.out (by kernel_rfl)) (by decide) (fun K hK => ?_)
         refine goes_ Try.func36 (by kernel_rfl) rfl #[.agg #[.slice Ao20 x329000_1.length co20],.agg #[.int .i64 ((rd_T55 l1 x7_1).f0),.string ((rd_T55 l1 x7_1).f1),.string ((rd_T55 l1 x7_1).f2),.string ((rd_T55 l1 x7_1).f3)]] (by rfl) rfl rfl zM0 ?_
         with_reducible refine (spec_DoAct.calls k1 _ _ x329000_1 ((rd_T55 l1 x7_1).f0) ((rd_T55 l1 x7_1).f1) ((rd_T55 l1 x7_1).f2) ((rd_T55 l1 x7_1).f3) t330 true _ ?side1 ?side2 A18.out).mono ?_
         (case side1 => repeat (first | exact (Kd.R_reads' HO_329000.out).2.2 | (with_reducible refine Kd.C_alloc ?_ _) | (with_reducible refine Kd.C_drewN ?_ _) | (with_reducible refine Kd.C_drew ?_)))
         (case side2 => exact (Kd.R_reads' HO_329000.out).2.1)
         rintro e w23 ⟨v331,rfl,ho0,hb⟩
         refine ⟨_,rfl,?_⟩
         have HO332:=Aside0.mk (Kd.R_lower (Kd.R_new' ho0 (Kd.R_lt (zR0 HO_329000.out))) (zZ0 HB.out))
         replace HO_329000:=Aside0.mk (Kd.R_elder' (zR0 HO_329000.out) (Kd.R_base ho0) hb)
         replace BK320:=zb0 BK320 hb
         replace BK321:=zb0 BK321 hb
         replace BK328:=zb0 BK328 hb
         replace BK334:=zb0 BK334 hb
         replace HB:=zs0 HB hb
         (try clear hb)
         (try clear hb2)
         (try clear hk)
         (try clear hi)
         (try clear ho0)
         refine hK.out _ _ ⟨(blk_cell BK328.out 0).trans rfl,(zx0 HB hw329_0 :),(zx0 HB hw329_1 :),(zx0 HB hw329_2 :),(zx0 HB hw329_3 :)⟩ (fun hHeld => ?_)
         clear hK K
         refine norm_ (a':=?_) ?_ ?_;rotate_left
         ·show Act.put _ (some 27) _ = _;simp only [Act.put,qA0,qB0,qC0,i64_w,i32_w];rfl
         refine zp0 6 21 12 639 HT_ ?_
         refine zp0 7 28 12 767 HT_ ?_
         refine zp0 8 29 12 1023 HT_ ?_
         exact norm_ (by simp only [putAll,Act.put,qA0,qB0,qC0]) (hCont (v331,gb334) _ ⟨hHeld,(by refine zV0 ?_;exact Kd.R_mono HO332.out (fun _ hk => hk.2)),(by refine zV0 ?_;exact Kd.R_mono HO_329000.out (fun _ hk => hk.2)),(zK0 BK320.out),(zK0 BK321.out),(zK0 BK328.out),(zK0 BK334.out),GW334.out,GE334.out,NB320_334.out,NB334_320.out,NB321_334.out,NB334_321.out,NB328_334.out,NB334_328.out,(zY0 HB.out)⟩)
       rintro ⟨v331,gb334⟩ w24 ⟨hS_,h0_,h1_,h2_,h3_,h4_,h5_,h6_,h7_,h8_,h9_,h10_,h11_,h12_,h13_,h14_⟩
       have n0_ : Aside0 (Kd.R k45 45 w24 w.heap.size (fun k_ => some k_ ≠ (.slice Ao20 x329000_1.length co20 : Value).ownBlock) v331 t330):=⟨h0_⟩
       have n1_ : Aside0 (Kd.R k45 45 w24 w.heap.size (fun k_ => some k_ ≠ (v331 : Value).ownBlock) (.slice Ao20 x329000_1.length co20) x329000_1):=⟨h1_⟩
       have n2_ : Aside0 (w24.heap[gb320]? = some (.cells #[.slice A0_0 l0_0.length c0_0] 30 (0,0))):=⟨h2_⟩
       have n3_ : Aside0 (w24.heap[gb321]? = some (.cells #[.slice none 0 0] 30 (0,0))):=⟨h3_⟩
       have n4_ : Aside0 (w24.heap[gb328]? = some (.cells #[.slice Ao20 x329000_1.length co20] 30 (0,0))):=⟨h4_⟩
       have n5_ : Aside0 (w24.heap[gb334]? = some (.cells #[.slice none 0 0] 30 (0,0))):=⟨h5_⟩
       have n6_ : Aside0 (w.heap.size ≤ gb334):=⟨h6_⟩
       have n7_ : Aside0 (w.heap.size ≤ gb334):=⟨h7_⟩
       have n8_ : Aside0 (gb320 ≠ gb334):=⟨h8_⟩
       have n9_ : Aside0 (gb334 ≠ gb320):=⟨h9_⟩
       have n10_ : Aside0 (gb321 ≠ gb334):=⟨h10_⟩
       have n11_ : Aside0 (gb334 ≠ gb321):=⟨h11_⟩
       have n12_ : Aside0 (gb328 ≠ gb334):=⟨h12_⟩
       have n13_ : Aside0 (gb334 ≠ gb328):=⟨h13_⟩
       have n14_ : Aside0 (Below w.heap.size w w24):=⟨h14_⟩
       clear HO_329000 BK320 BK321 BK328 HB
       clear h0_ h1_ h2_ h3_ h4_ h5_ h6_ h7_ h8_ h9_ h10_ h11_ h12_ h13_ h14_
       have HO332:=n0_
       have HO_329000:=n1_
       have BK320:=n2_
       have BK321:=n3_
       have BK328:=n4_
       have BK334:=n5_
       have GW334:=n6_
       have GE334:=n7_
       have NB320_334:=n8_
       have NB334_320:=n9_
       have NB321_334:=n10_
       have NB334_321:=n11_
       have NB328_334:=n12_
       have NB334_328:=n13_
       have HB:=n14_
       clear n0_ n1_ n2_ n3_ n4_ n5_ n6_ n7_ n8_ n9_ n10_ n11_ n12_ n13_ n14_
       have hHeld : w24.cell? ⟨gb328,0,none⟩ = some (.slice Ao20 x329000_1.length co20) ∧ w24.cell? (ad329.add ((x7_1).toNat * 4)) = some (.int .i64 ((rd_T55 l1 x7_1).f0)) ∧ w24.cell? ⟨(ad329.add ((x7_1).toNat * 4)).block,(ad329.add ((x7_1).toNat * 4)).off + 1,none⟩ = some (.string ((rd_T55 l1 x7_1).f1)) ∧ w24.cell? ⟨(ad329.add ((x7_1).toNat * 4)).block,(ad329.add ((x7_1).toNat * 4)).off + 2,none⟩ = some (.string ((rd_T55 l1 x7_1).f2)) ∧ w24.cell? ⟨(ad329.add ((x7_1).toNat * 4)).block,(ad329.add ((x7_1).toNat * 4)).off + 3,none⟩ = some (.string ((rd_T55 l1 x7_1).f3)):=hS_
       obtain ⟨Ao25,co25,eo25⟩:=Kd.R_slice HO332.out
       (first | subst eo25 | (injection eo25 with f1_ f2_ f3_;have f4_:=f1_.symm;have f5_:=f3_.symm;clear f1_ f2_ f3_;subst f4_;subst f5_))
       refine norm_ (a':=?_) ?_ ?_;rotate_left
       ·simp only [putAll,Act.put,qA0,qB0,qC0]
        rfl
       refine one_ (i:=10) (N:=none) (zF0 12 2047) rfl rfl (one_of HT_.out (by kernel_rfl)) (by decide) (fun K hK => ?_)
       have hs26 : w24.cell? ⟨gb334,0,none⟩ = some (.slice none 0 0):=(blk_cell BK334.out 0).trans rfl
       have hfs26:=blk_frozen BK334.out 0
       have hns26_0:=NB320_334.out
       have hns26_1:=NB321_334.out
       have hns26_2:=NB328_334.out
       have hms26_0:=NB334_320.out
       have hms26_1:=NB334_321.out
       have hms26_2:=NB334_328.out
       refine skip_ (w1:=?_) (by rfl) rfl ?_ ?_;rotate_left
       ·go_simp
        rfl
       refine hK.out _ _ ⟨((cell_far (p:=⟨gb334,_,none⟩) NB328_334.out _).trans (hHeld.1)),((cell_far (p:=⟨gb334,_,none⟩) (by first | exact Nat.ne_of_lt (Nat.lt_of_lt_of_le (by have:=World.block_lt_of_cell? _ _ hw329_0;first | rwa [add_block] at this | exact this) GW334.out) | (rw [add_block];exact Nat.ne_of_lt (Nat.lt_of_lt_of_le (by have:=World.block_lt_of_cell? _ _ hw329_0;first | rwa [add_block] at this | exact this) GW334.out)) | (show (Addr.add _ _).block ≠ _;rw [add_block];exact Nat.ne_of_lt (Nat.lt_of_lt_of_le (by have:=World.block_lt_of_cell? _ _ hw329_0;first | rwa [add_block] at this | exact this) GW334.out)) | (dsimp only;exact Nat.ne_of_lt (Nat.lt_of_lt_of_le (by have:=World.block_lt_of_cell? _ _ hw329_0;first | rwa [add_block] at this | exact this) GW334.out))) _).trans (hHeld.2.1)),((cell_far (p:=⟨gb334,_,none⟩) (by first | exact Nat.ne_of_lt (Nat.lt_of_lt_of_le (by have:=World.block_lt_of_cell? _ _ hw329_1;first | rwa [add_block] at this | exact this) GW334.out) | (rw [add_block];exact Nat.ne_of_lt (Nat.lt_of_lt_of_le (by have:=World.block_lt_of_cell? _ _ hw329_1;first | rwa [add_block] at this | exact this) GW334.out)) | (show (Addr.add _ _).block ≠ _;rw [add_block];exact Nat.ne_of_lt (Nat.lt_of_lt_of_le (by have:=World.block_lt_of_cell? _ _ hw329_1;first | rwa [add_block] at this | exact this) GW334.out)) | (dsimp only;exact Nat.ne_of_lt (Nat.lt_of_lt_of_le (by have:=World.block_lt_of_cell? _ _ hw329_1;first | rwa [add_block] at this | exact this) GW334.out))) _).trans (hHeld.2.2.1)),((cell_far (p:=⟨gb334,_,none⟩) (by first | exact Nat.ne_of_lt (Nat.lt_of_lt_of_le (by have:=World.block_lt_of_cell? _ _ hw329_2;first | rwa [add_block] at this | exact this) GW334.out) | (rw [add_block];exact Nat.ne_of_lt (Nat.lt_of_lt_of_le (by have:=World.block_lt_of_cell? _ _ hw329_2;first | rwa [add_block] at this | exact this) GW334.out)) | (show (Addr.add _ _).block ≠ _;rw [add_block];exact Nat.ne_of_lt (Nat.lt_of_lt_of_le (by have:=World.block_lt_of_cell? _ _ hw329_2;first | rwa [add_block] at this | exact this) GW334.out)) | (dsimp only;exact Nat.ne_of_lt (Nat.lt_of_lt_of_le (by have:=World.block_lt_of_cell? _ _ hw329_2;first | rwa [add_block] at this | exact this) GW334.out))) _).trans (hHeld.2.2.2.1)),((cell_far (p:=⟨gb334,_,none⟩) (by first | exact Nat.ne_of_lt (Nat.lt_of_lt_of_le (by have:=World.block_lt_of_cell? _ _ hw329_3;first | rwa [add_block] at this | exact this) GW334.out) | (rw [add_block];exact Nat.ne_of_lt (Nat.lt_of_lt_of_le (by have:=World.block_lt_of_cell? _ _ hw329_3;first | rwa [add_block] at this | exact this) GW334.out)) | (show (Addr.add _ _).block ≠ _;rw [add_block];exact Nat.ne_of_lt (Nat.lt_of_lt_of_le (by have:=World.block_lt_of_cell? _ _ hw329_3;first | rwa [add_block] at this | exact this) GW334.out)) | (dsimp only;exact Nat.ne_of_lt (Nat.lt_of_lt_of_le (by have:=World.block_lt_of_cell? _ _ hw329_3;first | rwa [add_block] at this | exact this) GW334.out))) _).trans (hHeld.2.2.2.2))⟩ (fun hHeld => ?_)
       clear hK K
       refine zp0 11 9 12 4095 HT_ ?_
       refine done_ (done_of HT_.out (by kernel_rfl)) ?_
       obtain ⟨_,_⟩:=zn0 NB334_320
       obtain ⟨_,_⟩:=zn0 NB334_321
       obtain ⟨_,_⟩:=zn0 NB334_328
       have hcz30_0:=zc00 BK334
       have hfz30_0:=blk_frozen BK334.out 0
       obtain ⟨_,_⟩:=zn0 NB328_320
       obtain ⟨_,_⟩:=zn0 NB328_321
       have hcz33_0:=zc00 BK328
       have hfz33_0:=blk_frozen BK328.out 0
       try go_wp2
       go_roundg k1
       case measure => have:=HK1.out;omega
       case rel => exact ⟨(wrap64 (x7_1 + 1)),(t330),(.slice Ao25 t330.length co25),zE0,H',⟨by have:=HK1.out;omega⟩,⟨by refine zV0 ?_;exact Kd.R_mono (Kd.R_far (p:=⟨gb328,0,none⟩) (Kd.R_far (p:=⟨gb334,0,none⟩) (Kd.R_types (Kd.R_types HO332.out BK334.out (by decide)) BK328.out (by decide)) (fun _ hk => hk.1.2) (.slice Ao25 t330.length co25)) (fun _ hk => hk.2) (.slice Ao25 t330.length co25)) (fun _ hk => trivial)⟩,⟨zK0 BK320.out⟩,⟨zK0 BK321.out⟩,⟨by refine zT0 ?_;refine blk_put (cs:=#[.slice Ao20 x329000_1.length co20]) ?_ 0 _ rfl;exact zK0 BK328.out⟩,⟨zY0 HB.out⟩⟩
      ·replace c19:=Bool.eq_false_iff.mpr c19
       subst c19
       have H1 : (some (x329000_1,x7_1)) = some (r1,r2):=by rw [if_neg (show ¬ (false = true) by decide)] at H;exact H
       clear H
       have H:=H1
       clear H1
       simp only [Option.some.injEq,Prod.mk.injEq] at H
       obtain ⟨rfl,rfl⟩:=H
       obtain ⟨Ao34,co34,eo34⟩:=Kd.R_slice HO_329000.out
       subst eo34
       try go_wp2
       replace HO_329000:=Aside0.mk (Kd.R_drew HO_329000.out)
       replace BK320:=Aside0.mk (blk_drew BK320.out)
       replace BK321:=Aside0.mk (blk_drew BK321.out)
       replace BK328:=Aside0.mk (blk_drew BK328.out)
       replace HB:=Aside0.mk (below_drew1 HB.out)
       have p329 : 0 ≤ (x7_1 : Int):=zD0
       have q329 : x7_1 < (l1.length : Int):=zD0
       obtain ⟨ad329,e329,hx329_0,hx329_1,hx329_2,hx329_3⟩:=at_T55 HR1.out x7_1 p329 q329
       have hw329_3:=hx329_3
       have hw329_2:=hx329_2
       have hw329_1:=hx329_1
       have hw329_0:=hx329_0
       cases e329
       replace hx329_0:=zx0 HB hx329_0
       replace hx329_1:=zx0 HB hx329_1
       replace hx329_2:=zx0 HB hx329_2
       replace hx329_3:=zx0 HB hx329_3
       replace p329:=eq_true p329
       replace q329:=eq_true q329
       refine start_ (n:=12) (S:=fun w' => w'.cell? ⟨gb328,0,none⟩ = some (.slice Ao34 x329000_1.length co34) ∧ w'.cell? (ad329.add ((x7_1).toNat * 4)) = some (.int .i64 ((rd_T55 l1 x7_1).f0)) ∧ w'.cell? ⟨(ad329.add ((x7_1).toNat * 4)).block,(ad329.add ((x7_1).toNat * 4)).off + 1,none⟩ = some (.string ((rd_T55 l1 x7_1).f1)) ∧ w'.cell? ⟨(ad329.add ((x7_1).toNat * 4)).block,(ad329.add ((x7_1).toNat * 4)).off + 2,none⟩ = some (.string ((rd_T55 l1 x7_1).f2)) ∧ w'.cell? ⟨(ad329.add ((x7_1).toNat * 4)).block,(ad329.add ((x7_1).toNat * 4)).off + 3,none⟩ = some (.string ((rd_T55 l1 x7_1).f3))) (ds:=[]) (zF0 12 0) (by kernel_rfl) rfl rfl ⟨(blk_cell BK328.out 0).trans rfl,(zx0 HB hw329_0 :),(zx0 HB hw329_1 :),(zx0 HB hw329_2 :),(zx0 HB hw329_3 :)⟩ (fun hHeld => ?_);refine with_tabW spec_DoActs.tab5 spec_DoActs.bits5 (fun HT_ HW_ => ?_)
       generalize wr.drew = w35 at HO_329000 BK320 BK321 BK328 HB hx329_0 hx329_1 hx329_2 hx329_3 hHeld ⊢
       refine zp0 1 23 12 2 HT_ ?_
       refine zp0 2 24 12 6 HT_ ?_
       refine zp0 3 25 12 14 HT_ ?_
       refine take_ (i:=0) (N:=some 22) (v:=?_) (a':=?_) (zF0 12 15) rfl rfl (take_ofW HT_.out HW_.out (by kernel_rfl)) (fun _ _ _ h => h) (Or.inl ⟨by rfl,?_⟩) hHeld ?_ ?_;rotate_left
       ·rintro w' ⟨s0,s1,s2,s3,s4⟩
        go_simp
        with_reducible rfl
       rotate_left
       ·simp only [Act.put,qA0,qB0,qC0,i64_w,i32_w];rfl
       refine take_ (i:=4) (N:=some 26) (v:=?_) (a':=?_) (zF0 12 31) rfl rfl (take_ofW HT_.out HW_.out (by kernel_rfl)) (fun _ _ _ h => h) (Or.inl ⟨by rfl,?_⟩) hHeld ?_ ?_;rotate_left
       ·rintro w' ⟨s0,s1,s2,s3,s4⟩
        go_simp
        with_reducible rfl
       rotate_left
       ·simp only [Act.put,qA0,qB0,qC0,i64_w,i32_w];rfl
       refine join_ (σ:=Value × Nat) 2 (zF0 12 1023) (fun s_ => [(27,.tuple #[.agg #[s_.1],.bool false]),(8,.pointer (some ⟨s_.2,0,none⟩)),(21,.tuple #[.agg #[s_.1],.bool false]),(28,.agg #[s_.1]),(29,.bool false)]) (fun s_ w' => (w'.cell? ⟨gb328,0,none⟩ = some (.slice Ao34 x329000_1.length co34) ∧ w'.cell? (ad329.add ((x7_1).toNat * 4)) = some (.int .i64 ((rd_T55 l1 x7_1).f0)) ∧ w'.cell? ⟨(ad329.add ((x7_1).toNat * 4)).block,(ad329.add ((x7_1).toNat * 4)).off + 1,none⟩ = some (.string ((rd_T55 l1 x7_1).f1)) ∧ w'.cell? ⟨(ad329.add ((x7_1).toNat * 4)).block,(ad329.add ((x7_1).toNat * 4)).off + 2,none⟩ = some (.string ((rd_T55 l1 x7_1).f2)) ∧ w'.cell? ⟨(ad329.add ((x7_1).toNat * 4)).block,(ad329.add ((x7_1).toNat * 4)).off + 3,none⟩ = some (.string ((rd_T55 l1 x7_1).f3))) ∧ (Kd.R k45 45 w' w.heap.size (fun k_ => some k_ ≠ (.slice Ao34 x329000_1.length co34 : Value).ownBlock) s_.1 t330) ∧ (Kd.R k45 45 w' w.heap.size (fun k_ => some k_ ≠ (s_.1 : Value).ownBlock) (.slice Ao34 x329000_1.length co34) x329000_1) ∧ (w'.heap[gb320]? = some (.cells #[.slice A0_0 l0_0.length c0_0] 30 (0,0))) ∧ (w'.heap[gb321]? = some (.cells #[.slice none 0 0] 30 (0,0))) ∧ (w'.heap[gb328]? = some (.cells #[.slice Ao34 x329000_1.length co34] 30 (0,0))) ∧ (w'.heap[s_.2]? = some (.cells #[.slice none 0 0] 30 (0,0))) ∧ (w.heap.size ≤ s_.2) ∧ (w.heap.size ≤ s_.2) ∧ (gb320 ≠ s_.2) ∧ (s_.2 ≠ gb320) ∧ (gb321 ≠ s_.2) ∧ (s_.2 ≠ gb321) ∧ (gb328 ≠ s_.2) ∧ (s_.2 ≠ gb328) ∧ (Below w.heap.size w w')) ?_ ?_
       rotate_left
       ·intro hCont
        refine two_ (i:=5) (j:=9) (Ni:=some 27) (Nj:=some 8) (zF0 12 63) (zF0 12 543) rfl rfl rfl rfl (two_of HT_.out (by kernel_rfl)) (by decide) (by decide) (fun K hK => ?_) (fun K hK => ?_)
        ·skip
         refine goes_ Try.func36 (by kernel_rfl) rfl #[.agg #[.slice Ao34 x329000_1.length co34],.agg #[.int .i64 ((rd_T55 l1 x7_1).f0),.string ((rd_T55 l1 x7_1).f1),.string ((rd_T55 l1 x7_1).f2),.string ((rd_T55 l1 x7_1).f3)]] (by rfl) rfl rfl zM0 ?_
         with_reducible refine (spec_DoAct.calls k1 _ _ x329000_1 ((rd_T55 l1 x7_1).f0) ((rd_T55 l1 x7_1).f1) ((rd_T55 l1 x7_1).f2) ((rd_T55 l1 x7_1).f3) t330 false _ ?side1 ?side2 A18.out).mono ?_
         (case side1 => repeat (first | exact (Kd.R_reads' HO_329000.out).2.2 | (with_reducible refine Kd.C_alloc ?_ _) | (with_reducible refine Kd.C_drewN ?_ _) | (with_reducible refine Kd.C_drew ?_)))
         (case side2 => exact (Kd.R_reads' HO_329000.out).2.1)
         rintro e w36 ⟨v331,rfl,ho0,hb⟩
         refine ⟨_,rfl,?_⟩
         have HO332:=Aside0.mk (Kd.R_lower (Kd.R_new' ho0 (Kd.R_lt (zR0 HO_329000.out))) (zZ0 HB.out))
         replace HO_329000:=Aside0.mk (Kd.R_elder' (zR0 HO_329000.out) (Kd.R_base ho0) hb)
         replace BK320:=zb0 BK320 hb
         replace BK321:=zb0 BK321 hb
         replace BK328:=zb0 BK328 hb
         replace HB:=zs0 HB hb
         (try clear hb)
         (try clear hb2)
         (try clear hk)
         (try clear hi)
         (try clear ho0)
         refine hK.out _ _ ⟨(blk_cell BK328.out 0).trans rfl,(zx0 HB hw329_0 :),(zx0 HB hw329_1 :),(zx0 HB hw329_2 :),(zx0 HB hw329_3 :)⟩ (fun hHeld => ?_)
         clear hK K
         refine norm_ (a':=?_) ?_ ?_;rotate_left
         ·show Act.put _ (some 27) _ = _;simp only [Act.put,qA0,qB0,qC0,i64_w,i32_w];rfl
         refine zp0 6 21 12 127 HT_ ?_
         refine zp0 7 28 12 255 HT_ ?_
         refine zp0 8 29 12 511 HT_ ?_
         refine one_ (i:=9) (N:=some 8) (zF0 12 1023) rfl rfl (one_of HT_.out (by kernel_rfl)) (by decide) (fun K hK => ?_)
         refine box_step ?hg (N:=8) ?hd (cs:=#[.slice none 0 0]) (t:=30) ?hr ?_;(case hd => rfl);(case hg => rfl);(case hr => first | (go_simp;done) | (go_simp;rfl))
         intro gb334 hg w37 hbox hb
         replace HO_329000:=Aside0.mk (Kd.R_below (zR0 HO_329000.out) hb)
         replace HO332:=Aside0.mk (Kd.R_below (zR0 HO332.out) hb)
         have BK334:=Aside0.mk hbox
         have GW334:=zz0 hg HB
         have GE334:=zz0 hg HB
         replace HB:=zs0 HB hb
         have NB320_334:=zl0 hg BK320
         have NB334_320:=zg0 hg BK320
         replace BK320:=zb0 BK320 hb
         have NB321_334:=zl0 hg BK321
         have NB334_321:=zg0 hg BK321
         replace BK321:=zb0 BK321 hb
         have NB328_334:=zl0 hg BK328
         have NB334_328:=zg0 hg BK328
         replace BK328:=zb0 BK328 hb
         clear hb hbox hg
         refine hK.out _ _ ⟨(blk_cell BK328.out 0).trans rfl,(zx0 HB hw329_0 :),(zx0 HB hw329_1 :),(zx0 HB hw329_2 :),(zx0 HB hw329_3 :)⟩ (fun hHeld => ?_)
         clear hK K
         refine norm_ (a':=?_) ?_ ?_;rotate_left
         ·show Act.put _ (some 8) _ = _;simp only [Act.put,qA0,qB0,qC0,i64_w,i32_w];rfl
         exact norm_ (by simp only [putAll,Act.put,qA0,qB0,qC0]) (hCont (v331,gb334) _ ⟨hHeld,(by refine zV0 ?_;exact Kd.R_mono HO332.out (fun _ hk => hk.2)),(by refine zV0 ?_;exact Kd.R_mono HO_329000.out (fun _ hk => hk.2)),(zK0 BK320.out),(zK0 BK321.out),(zK0 BK328.out),(zK0 BK334.out),GW334.out,GE334.out,NB320_334.out,NB334_320.out,NB321_334.out,NB334_321.out,NB328_334.out,NB334_328.out,(zY0 HB.out)⟩)
        ·skip
         refine box_step ?hg (N:=8) ?hd (cs:=#[.slice none 0 0]) (t:=30) ?hr ?_;(case hd => rfl);(case hg => rfl);(case hr => first | (go_simp;done) | (go_simp;rfl))
         intro gb334 hg w36 hbox hb
         replace HO_329000:=Aside0.mk (Kd.R_below (zR0 HO_329000.out) hb)
         have BK334:=Aside0.mk hbox
         have GW334:=zz0 hg HB
         have GE334:=zz0 hg HB
         replace HB:=zs0 HB hb
         have NB320_334:=zl0 hg BK320
         have NB334_320:=zg0 hg BK320
         replace BK320:=zb0 BK320 hb
         have NB321_334:=zl0 hg BK321
         have NB334_321:=zg0 hg BK321
         replace BK321:=zb0 BK321 hb
         have NB328_334:=zl0 hg BK328
         have NB334_328:=zg0 hg BK328
         replace BK328:=zb0 BK328 hb
         clear hb hbox hg
         refine hK.out _ _ ⟨(blk_cell BK328.out 0).trans rfl,(zx0 HB hw329_0 :),(zx0 HB hw329_1 :),(zx0 HB hw329_2 :),(zx0 HB hw329_3 :)⟩ (fun hHeld => ?_)
         clear hK K
         refine norm_ (a':=?_) ?_ ?_;rotate_left
         ·show Act.put _ (some 8) _ = _;simp only [Act.put,qA0,qB0,qC0,i64_w,i32_w];rfl
         refine one_ (i:=5) (N:=some 27) (zF0 12 575) rfl rfl (one_of HT_.out (by kernel_rfl)) (by decide) (fun K hK => ?_)
         refine goes_ Try.func36 (by kernel_rfl) rfl #[.agg #[.slice Ao34 x329000_1.length co34],.agg #[.int .i64 ((rd_T55 l1 x7_1).f0),.string ((rd_T55 l1 x7_1).f1),.string ((rd_T55 l1 x7_1).f2),.string ((rd_T55 l1 x7_1).f3)]] (by rfl) rfl rfl zM0 ?_
         with_reducible refine (spec_DoAct.calls k1 _ _ x329000_1 ((rd_T55 l1 x7_1).f0) ((rd_T55 l1 x7_1).f1) ((rd_T55 l1 x7_1).f2) ((rd_T55 l1 x7_1).f3) t330 false _ ?side1 ?side2 A18.out).mono ?_
         (case side1 => repeat (first | exact (Kd.R_reads' HO_329000.out).2.2 | (with_reducible refine Kd.C_alloc ?_ _) | (with_reducible refine Kd.C_drewN ?_ _) | (with_reducible refine Kd.C_drew ?_)))
         (case side2 => exact (Kd.R_reads' HO_329000.out).2.1)
         rintro e w37 ⟨v331,rfl,ho0,hb⟩
         refine ⟨_,rfl,?_⟩
         have HO332:=Aside0.mk (Kd.R_lower (Kd.R_new' ho0 (Kd.R_lt (zR0 HO_329000.out))) (zZ0 HB.out))
         replace HO_329000:=Aside0.mk (Kd.R_elder' (zR0 HO_329000.out) (Kd.R_base ho0) hb)
         replace BK320:=zb0 BK320 hb
         replace BK321:=zb0 BK321 hb
         replace BK328:=zb0 BK328 hb
         replace BK334:=zb0 BK334 hb
         replace HB:=zs0 HB hb
         (try clear hb)
         (try clear hb2)
         (try clear hk)
         (try clear hi)
         (try clear ho0)
         refine hK.out _ _ ⟨(blk_cell BK328.out 0).trans rfl,(zx0 HB hw329_0 :),(zx0 HB hw329_1 :),(zx0 HB hw329_2 :),(zx0 HB hw329_3 :)⟩ (fun hHeld => ?_)
         clear hK K
         refine norm_ (a':=?_) ?_ ?_;rotate_left
         ·show Act.put _ (some 27) _ = _;simp only [Act.put,qA0,qB0,qC0,i64_w,i32_w];rfl
         refine zp0 6 21 12 639 HT_ ?_
         refine zp0 7 28 12 767 HT_ ?_
         refine zp0 8 29 12 1023 HT_ ?_
         exact norm_ (by simp only [putAll,Act.put,qA0,qB0,qC0]) (hCont (v331,gb334) _ ⟨hHeld,(by refine zV0 ?_;exact Kd.R_mono HO332.out (fun _ hk => hk.2)),(by refine zV0 ?_;exact Kd.R_mono HO_329000.out (fun _ hk => hk.2)),(zK0 BK320.out),(zK0 BK321.out),(zK0 BK328.out),(zK0 BK334.out),GW334.out,GE334.out,NB320_334.out,NB334_320.out,NB321_334.out,NB334_321.out,NB328_334.out,NB334_328.out,(zY0 HB.out)⟩)
       rintro ⟨v331,gb334⟩ w38 ⟨hS_,h0_,h1_,h2_,h3_,h4_,h5_,h6_,h7_,h8_,h9_,h10_,h11_,h12_,h13_,h14_⟩
       have n0_ : Aside0 (Kd.R k45 45 w38 w.heap.size (fun k_ => some k_ ≠ (.slice Ao34 x329000_1.length co34 : Value).ownBlock) v331 t330):=⟨h0_⟩
       have n1_ : Aside0 (Kd.R k45 45 w38 w.heap.size (fun k_ => some k_ ≠ (v331 : Value).ownBlock) (.slice Ao34 x329000_1.length co34) x329000_1):=⟨h1_⟩
       have n2_ : Aside0 (w38.heap[gb320]? = some (.cells #[.slice A0_0 l0_0.length c0_0] 30 (0,0))):=⟨h2_⟩
       have n3_ : Aside0 (w38.heap[gb321]? = some (.cells #[.slice none 0 0] 30 (0,0))):=⟨h3_⟩
       have n4_ : Aside0 (w38.heap[gb328]? = some (.cells #[.slice Ao34 x329000_1.length co34] 30 (0,0))):=⟨h4_⟩
       have n5_ : Aside0 (w38.heap[gb334]? = some (.cells #[.slice none 0 0] 30 (0,0))):=⟨h5_⟩
       have n6_ : Aside0 (w.heap.size ≤ gb334):=⟨h6_⟩
       have n7_ : Aside0 (w.heap.size ≤ gb334):=⟨h7_⟩
       have n8_ : Aside0 (gb320 ≠ gb334):=⟨h8_⟩
       have n9_ : Aside0 (gb334 ≠ gb320):=⟨h9_⟩
       have n10_ : Aside0 (gb321 ≠ gb334):=⟨h10_⟩
       have n11_ : Aside0 (gb334 ≠ gb321):=⟨h11_⟩
       have n12_ : Aside0 (gb328 ≠ gb334):=⟨h12_⟩
       have n13_ : Aside0 (gb334 ≠ gb328):=⟨h13_⟩
       have n14_ : Aside0 (Below w.heap.size w w38):=⟨h14_⟩
       clear HO_329000 BK320 BK321 BK328 HB
       clear h0_ h1_ h2_ h3_ h4_ h5_ h6_ h7_ h8_ h9_ h10_ h11_ h12_ h13_ h14_
       have HO332:=n0_
       have HO_329000:=n1_
       have BK320:=n2_
       have BK321:=n3_
       have BK328:=n4_
       have BK334:=n5_
       have GW334:=n6_
       have GE334:=n7_
       have NB320_334:=n8_
       have NB334_320:=n9_
       have NB321_334:=n10_
       have NB334_321:=n11_
       have NB328_334:=n12_
       have NB334_328:=n13_
       have HB:=n14_
       clear n0_ n1_ n2_ n3_ n4_ n5_ n6_ n7_ n8_ n9_ n10_ n11_ n12_ n13_ n14_
       have hHeld : w38.cell? ⟨gb328,0,none⟩ = some (.slice Ao34 x329000_1.length co34) ∧ w38.cell? (ad329.add ((x7_1).toNat * 4)) = some (.int .i64 ((rd_T55 l1 x7_1).f0)) ∧ w38.cell? ⟨(ad329.add ((x7_1).toNat * 4)).block,(ad329.add ((x7_1).toNat * 4)).off + 1,none⟩ = some (.string ((rd_T55 l1 x7_1).f1)) ∧ w38.cell? ⟨(ad329.add ((x7_1).toNat * 4)).block,(ad329.add ((x7_1).toNat * 4)).off + 2,none⟩ = some (.string ((rd_T55 l1 x7_1).f2)) ∧ w38.cell? ⟨(ad329.add ((x7_1).toNat * 4)).block,(ad329.add ((x7_1).toNat * 4)).off + 3,none⟩ = some (.string ((rd_T55 l1 x7_1).f3)):=hS_
       obtain ⟨Ao39,co39,eo39⟩:=Kd.R_slice HO332.out
       (first | subst eo39 | (injection eo39 with f1_ f2_ f3_;have f4_:=f1_.symm;have f5_:=f3_.symm;clear f1_ f2_ f3_;subst f4_;subst f5_))
       refine norm_ (a':=?_) ?_ ?_;rotate_left
       ·simp only [putAll,Act.put,qA0,qB0,qC0]
        rfl
       refine one_ (i:=10) (N:=none) (zF0 12 2047) rfl rfl (one_of HT_.out (by kernel_rfl)) (by decide) (fun K hK => ?_)
       have hs40 : w38.cell? ⟨gb334,0,none⟩ = some (.slice none 0 0):=(blk_cell BK334.out 0).trans rfl
       have hfs40:=blk_frozen BK334.out 0
       have hns40_0:=NB320_334.out
       have hns40_1:=NB321_334.out
       have hns40_2:=NB328_334.out
       have hms40_0:=NB334_320.out
       have hms40_1:=NB334_321.out
       have hms40_2:=NB334_328.out
       refine skip_ (w1:=?_) (by rfl) rfl ?_ ?_;rotate_left
       ·go_simp
        rfl
       refine hK.out _ _ ⟨((cell_far (p:=⟨gb334,_,none⟩) NB328_334.out _).trans (hHeld.1)),((cell_far (p:=⟨gb334,_,none⟩) (by first | exact Nat.ne_of_lt (Nat.lt_of_lt_of_le (by have:=World.block_lt_of_cell? _ _ hw329_0;first | rwa [add_block] at this | exact this) GW334.out) | (rw [add_block];exact Nat.ne_of_lt (Nat.lt_of_lt_of_le (by have:=World.block_lt_of_cell? _ _ hw329_0;first | rwa [add_block] at this | exact this) GW334.out)) | (show (Addr.add _ _).block ≠ _;rw [add_block];exact Nat.ne_of_lt (Nat.lt_of_lt_of_le (by have:=World.block_lt_of_cell? _ _ hw329_0;first | rwa [add_block] at this | exact this) GW334.out)) | (dsimp only;exact Nat.ne_of_lt (Nat.lt_of_lt_of_le (by have:=World.block_lt_of_cell? _ _ hw329_0;first | rwa [add_block] at this | exact this) GW334.out))) _).trans (hHeld.2.1)),((cell_far (p:=⟨gb334,_,none⟩) (by first | exact Nat.ne_of_lt (Nat.lt_of_lt_of_le (by have:=World.block_lt_of_cell? _ _ hw329_1;first | rwa [add_block] at this | exact this) GW334.out) | (rw [add_block];exact Nat.ne_of_lt (Nat.lt_of_lt_of_le (by have:=World.block_lt_of_cell? _ _ hw329_1;first | rwa [add_block] at this | exact this) GW334.out)) | (show (Addr.add _ _).block ≠ _;rw [add_block];exact Nat.ne_of_lt (Nat.lt_of_lt_of_le (by have:=World.block_lt_of_cell? _ _ hw329_1;first | rwa [add_block] at this | exact this) GW334.out)) | (dsimp only;exact Nat.ne_of_lt (Nat.lt_of_lt_of_le (by have:=World.block_lt_of_cell? _ _ hw329_1;first | rwa [add_block] at this | exact this) GW334.out))) _).trans (hHeld.2.2.1)),((cell_far (p:=⟨gb334,_,none⟩) (by first | exact Nat.ne_of_lt (Nat.lt_of_lt_of_le (by have:=World.block_lt_of_cell? _ _ hw329_2;first | rwa [add_block] at this | exact this) GW334.out) | (rw [add_block];exact Nat.ne_of_lt (Nat.lt_of_lt_of_le (by have:=World.block_lt_of_cell? _ _ hw329_2;first | rwa [add_block] at this | exact this) GW334.out)) | (show (Addr.add _ _).block ≠ _;rw [add_block];exact Nat.ne_of_lt (Nat.lt_of_lt_of_le (by have:=World.block_lt_of_cell? _ _ hw329_2;first | rwa [add_block] at this | exact this) GW334.out)) | (dsimp only;exact Nat.ne_of_lt (Nat.lt_of_lt_of_le (by have:=World.block_lt_of_cell? _ _ hw329_2;first | rwa [add_block] at this | exact this) GW334.out))) _).trans (hHeld.2.2.2.1)),((cell_far (p:=⟨gb334,_,none⟩) (by first | exact Nat.ne_of_lt (Nat.lt_of_lt_of_le (by have:=World.block_lt_of_cell? _ _ hw329_3;first | rwa [add_block] at this | exact this) GW334.out) | (rw [add_block];exact Nat.ne_of_lt (Nat.lt_of_lt_of_le (by have:=World.block_lt_of_cell? _ _ hw329_3;first | rwa [add_block] at this | exact this) GW334.out)) | (show (Addr.add _ _).block ≠ _;rw [add_block];exact Nat.ne_of_lt (Nat.lt_of_lt_of_le (by have:=World.block_lt_of_cell? _ _ hw329_3;first | rwa [add_block] at this | exact this) GW334.out)) | (dsimp only;exact Nat.ne_of_lt (Nat.lt_of_lt_of_le (by have:=World.block_lt_of_cell? _ _ hw329_3;first | rwa [add_block] at this | exact this) GW334.out))) _).trans (hHeld.2.2.2.2))⟩ (fun hHeld => ?_)
       clear hK K
       refine zp0 11 9 12 4095 HT_ ?_
       refine done_ (done_of HT_.out (by kernel_rfl)) ?_
       obtain ⟨_,_⟩:=zn0 NB328_320
       obtain ⟨_,_⟩:=zn0 NB328_321
       obtain ⟨_,_⟩:=zn0 NB328_334
       have hcz44_0:=zc00 BK328
       have hfz44_0:=blk_frozen BK328.out 0
       obtain ⟨_,_⟩:=zn0 NB321_320
       obtain ⟨_,_⟩:=zn0 NB321_334
       have hcz47_0:=zc00 BK321
       have hfz47_0:=blk_frozen BK321.out 0
       try go_wp2
       refine bodyPost_ret (results_ct rfl _ _ gb321 30 #[.slice Ao34 x329000_1.length co34] (0,0) _ rfl (by refine zT0 ?_;refine blk_put (cs:=#[.slice none 0 0]) ?_ 0 _ rfl;exact zK0 BK321.out) Try.underlying30 rfl (by kernel_rfl)) rfl ?_
       exact ⟨_,zW0,by refine zV0 ?_;exact Kd.R_mono (Kd.R_far (p:=⟨gb321,0,none⟩) (Kd.R_far (p:=⟨gb334,0,none⟩) (Kd.R_types (Kd.R_types HO_329000.out BK334.out (by decide)) BK321.out (by decide)) (fun _ hk => hk.1.2) (.slice Ao39 t330.length co39)) (fun _ hk => hk.2) (.slice Ao34 x329000_1.length co34)) (fun _ hk => trivial),(zY0 HB.out)⟩
     ·rw [if_neg c17] at H
      exact absurd H (by simp)
    ·rw [if_neg c16] at H
     have c16b0 : decide (x7_1 < (l1.length : Int)) = false:=decide_eq_false c16
     clear c16
     simp only [Option.some.injEq,Prod.mk.injEq] at H
     obtain ⟨rfl,rfl⟩:=H
     obtain ⟨_,_⟩:=zn0 NB328_320
     obtain ⟨_,_⟩:=zn0 NB328_321
     have hcz50_0 : wr.cell? ⟨gb328,0,none⟩ = some (u329000):=(blk_cell BK328.out 0).trans rfl
     have hfz50_0:=blk_frozen BK328.out 0
     obtain ⟨Ao51,co51,eo51⟩:=Kd.R_slice HO_329000.out
     subst eo51
     obtain ⟨_,_⟩:=zn0 NB321_320
     have hcz53_0 : wr.cell? ⟨gb321,0,none⟩ = some (.slice none 0 0):=(blk_cell BK321.out 0).trans rfl
     have hfz53_0:=blk_frozen BK321.out 0
     go_wp2
     refine bodyPost_ret (results_ct rfl _ _ gb321 30 #[.slice Ao51 x329000_1.length co51] (0,0) _ rfl (by refine zT0 ?_;refine blk_put (cs:=#[.slice none 0 0]) ?_ 0 _ rfl;exact zK0 BK321.out) Try.underlying30 rfl (by kernel_rfl)) rfl ?_
     exact ⟨_,zW0,by refine zV0 ?_;exact Kd.R_mono (Kd.R_far (p:=⟨gb321,0,none⟩) (Kd.R_types HO_329000.out BK321.out (by decide)) (fun _ hk => hk.2) (.slice Ao51 x329000_1.length co51)) (fun _ hk => trivial),(zY0 HB.out)⟩
 ·rw [if_neg c3] at H
  exact absurd H (by simp)

end Go.Proofs.Ytgfacdhkamphiaa.PFnExactCutActs
