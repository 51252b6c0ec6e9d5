/- Walks, turned from a print. -/
import Derived.Test.YtgfacdhkamphiaaOFnActsx0
namespace Go.Proofs.Ytgfacdhkamphiaa.PFnActs
open Go.RowKit Go.Proofs.YtgfacdhkamphiaaW.PrintWords Go.Proofs.YtgfacdhkamphiaaW.PrintLast Go.Proofs.YtgfacdhkamphiaaW.PrintMore
attribute [local go_sem] max2_int min2_int max_two min_two max_three min_three max_four min_four
set_option linter.unusedVariables false
set_option linter.unusedSimpArgs false

/-! ### spec_l03Without: function 82 -/
def spec_l03Without.l0 : Nat → ByteArray → Int → List (S45) → List (S45) → Option ((List (S45)))
 | 0,_,_,_,_ => none
 | k + 1,x1,x6,x146000,x148000 => if x6 < (x146000.length : Int) then (if 0 ≤ x6 then (if ((rd_T45 x146000 x6).f0).toList = x1.toList then (spec_l03Without.l0 k x1 (wrap64 (x6 + 1)) x146000 x148000) else (if x148000.length < 3518437208883 then (spec_l03Without.l0 k x1 (wrap64 (x6 + 1)) x146000 (x148000 ++ [(⟨(rd_T45 x146000 x6).f0,(rd_T45 x146000 x6).f1,(rd_T45 x146000 x6).f2⟩ : S45)])) else (none))) else (none)) else (some x148000)
def spec_l03Without.f (k : Nat) (l0_0 : List (S45)) (a1 : ByteArray) : Option ((List (S45))):=spec_l03Without.l0 k a1 0 l0_0 ([] : List (S45))
theorem spec_l03Without.mono_l : ∀ k,(∀ y0 y1 y2 y3,LeO (spec_l03Without.l0 k y0 y1 y2 y3) (spec_l03Without.l0 (k + 1) y0 y1 y2 y3))
 | 0 => fun _ _ _ _ r h => by simp [spec_l03Without.l0] at h
 | k + 1 => by
  have ih0:=spec_l03Without.mono_l k
  ·intro y0 y1 y2 y3
   unfold spec_l03Without.l0
   repeat' first
  | (with_reducible exact ih0 _ _ _ _)
  | (with_reducible exact LeO.refl _)
  | (with_reducible exact LeO.none _)
  | (with_reducible refine LeO.ite ?_ ?_)
  | (with_reducible refine LeO.bind ?_ (fun _ => ?_))
theorem spec_l03Without.mono : ∀ a0 a1 k,LeO (spec_l03Without.f k a0 a1) (spec_l03Without.f (k + 1) a0 a1):=by
 intro a0 a1 k
 have ih0:=spec_l03Without.mono_l k
 unfold spec_l03Without.f
 repeat' first
  | (with_reducible exact ih0 _ _ _ _)
  | (with_reducible exact LeO.refl _)
  | (with_reducible exact LeO.none _)
  | (with_reducible refine LeO.ite ?_ ?_)
  | (with_reducible refine LeO.bind ?_ (fun _ => ?_))
def spec_l03Without.T6 : Bool × List (List Nat × List Nat):=(true,[([],[]),([0],[0]),([],[]),([2],[2]),([],[]),([3,4],[3,4]),([5],[5]),([6],[6]),([1,7],[1,7]),([0,1,2,3,4,5,6,7,8],[]),([9,8,8,0,1,2,3,4,5,6,7,8],[8,9])])
def spec_l03Without.B6 : List Nat:=[0,1,0,4,0,28,60,124,255,511,1023]
theorem spec_l03Without.tab6 : rtab .any (opsOf Try.f82 6) = spec_l03Without.T6:=by kernel_rfl
theorem spec_l03Without.bits6 : waitsOk spec_l03Without.T6.2 spec_l03Without.B6 = true:=by kernel_rfl
set_option maxHeartbeats 8000000 in
set_option maxRecDepth 100000 in
theorem spec_l03Without.calls (k : Nat) (A0_0 : Option Addr) (c0_0 : Nat) (l0_0 : List (S45)) (a1 : ByteArray) (r : List (S45)) (w : World) (hr0_0 : Kd.C k45 w A0_0 l0_0.length l0_0) (hc0_0 : l0_0.length ≤ c0_0) (h : spec_l03Without.f k l0_0 a1 = some r) :
  Calls Try.prog 82 #[.agg #[.slice A0_0 l0_0.length c0_0],.string a1] w fun e w' => ∃ v0_ : Value,e = .returned (.agg #[v0_]) ∧ Kd.R k45 45 w' w.heap.size (fun _ => True) v0_ r ∧ Below w.heap.size w w':=by
 have hu30:=Try.underlying30
 have hu45:=Try.underlying45
 have HR0_0:=Aside0.mk hr0_0
 have HC0_0:=Aside0.mk hc0_0
 clear hr0_0 hc0_0
 have HB:=Aside0.mk (Below.refl w.heap.size w)
 have H : (spec_l03Without.l0 k a1 0 l0_0 ([] : List (S45))) = some r:=h
 clear h
 have H':=Aside0.mk H
 clear H
 go_enter Try.func82,Try.ntmps82
 go_wp2_with (first | ((with_reducible refine gate_dst (N:=2) rfl ?_);refine zy0 (cs:=#[.slice A0_0 l0_0.length c0_0]) (t:=30) ?_;intro gb145 hg w3 hbox hb;have BK145:=Aside0.mk hbox;have GW145:=zz0 hg HB;have GE145:=zz0 hg HB;replace HB:=zs0 HB hb;clear hb hbox hg) | ((with_reducible refine gate_dst (N:=4) rfl ?_);refine zy0 (cs:=#[.slice none 0 0]) (t:=30) ?_;intro gb146 hg w4 hbox hb;have BK146:=Aside0.mk hbox;have GW146:=zz0 hg HB;have GE146:=zz0 hg HB;replace HB:=zs0 HB hb;have NB145_146:=zl0 hg BK145;have NB146_145:=zg0 hg BK145;replace BK145:=zb0 BK145 hb;clear hb hbox hg) | ((with_reducible refine gate_dst (N:=5) rfl ?_);refine zy0 (cs:=#[.slice none 0 0]) (t:=30) ?_;intro gb147 hg w5 hbox hb;have BK147:=Aside0.mk hbox;have GW147:=zz0 hg HB;have GE147:=zz0 hg HB;replace HB:=zs0 HB hb;have NB145_147:=zl0 hg BK145;have NB147_145:=zg0 hg BK145;replace BK145:=zb0 BK145 hb;have NB146_147:=zl0 hg BK146;have NB147_146:=zg0 hg BK146;replace BK146:=zb0 BK146 hb;clear hb hbox hg;obtain ⟨_,_⟩:=zn0 NB147_145;obtain ⟨_,_⟩:=zn0 NB147_146;obtain ⟨hcz8_0,hfz8_0⟩:=zd01 BK147))
 go_loopg [6] k (fun kq v6 w' => ∃ (x6_1 : Int) (x148000_1 : List (S45)) (u148000 : Value),v6 = .int .i64 x6_1 ∧ Aside0 (spec_l03Without.l0 kq a1 x6_1 l0_0 x148000_1 = some r) ∧ Aside0 (kq ≤ k) ∧ Aside0 (Kd.R k45 45 w' w.heap.size (fun _ => True) u148000 x148000_1) ∧ Aside0 (w'.heap[gb145]? = some (.cells #[(.slice A0_0 l0_0.length c0_0)] 30 (0,0))) ∧ Aside0 (w'.heap[gb146]? = some (.cells #[(.slice none 0 0)] 30 (0,0))) ∧ Aside0 (w'.heap[gb147]? = some (.cells #[u148000] 30 (0,0))) ∧ Aside0 (Below w.heap.size w w'))
 case atStart => exact ⟨(0),(([] : List (S45))),(.slice none 0 0),zE0,H',⟨Nat.le_refl _⟩,⟨by first | exact Kd.R_nil _ _ _ _ _ | exact Kd.N_nil _ _ _ _ _ | exact Kd.V_nil _ _ _ _ _ | exact Kd.Q_nil _ _ _ _ _ | exact Kd.S_nil _ _ _ _ _⟩,⟨zK0 BK145.out⟩,⟨zK0 BK146.out⟩,⟨by refine zT0 ?_;refine blk_put (cs:=#[.slice none 0 0]) ?_ 0 _ rfl;exact zK0 BK147.out⟩,⟨zY0 HB.out⟩⟩
 case round =>
  clear H'
  try clear hcz8_0
  try clear hfz8_0
  obtain ⟨x6_1,x148000_1,u148000,rfl,HA,HK1,HO_148000,BK145,BK146,BK147,HB⟩:=hrel
  cases gk with
  | zero => exact absurd HA.out (by simp [spec_l03Without.l0])
  | succ k1 =>
   have H:=HA.out
   clear HA
   simp only [spec_l03Without.l0] at H
   by_cases c9 : x6_1 < (l0_0.length : Int)
   ·rw [if_pos c9] at H
    have c9b0 : decide (x6_1 < (l0_0.length : Int)) = true:=decide_eq_true c9
    clear c9
    by_cases c10 : 0 ≤ x6_1
    ·rw [if_pos c10] at H
     have c10b0 : decide (0 ≤ x6_1) = true:=decide_eq_true c10
     clear c10
     by_cases c11 : ((rd_T45 l0_0 x6_1).f0).toList = a1.toList
     ·rw [if_pos c11] at H
      have c11b0 : (((rd_T45 l0_0 x6_1).f0).toList == a1.toList) = true:=beq_iff_eq.mpr c11
      have c11b1 : (((rd_T45 l0_0 x6_1).f0).toList != a1.toList) = false:=bne_eq_false_iff_eq.mpr c11
      clear c11
      have H':=Aside0.mk H
      clear H
      obtain ⟨_,_⟩:=zn0 NB145_146
      obtain ⟨_,_⟩:=zn0 NB145_147
      have hcz14_0 : wr.cell? ⟨gb145,0,none⟩ = some (.slice A0_0 l0_0.length c0_0):=zc00 BK145
      have hfz14_0:=blk_frozen BK145.out 0
      have p148 : 0 ≤ (x6_1 : Int):=zD0
      have q148 : x6_1 < (l0_0.length : Int):=zD0
      obtain ⟨ad148,e148,hx148_0,hx148_1,hx148_2⟩:=at_T45 HR0_0.out x6_1 p148 q148
      cases e148
      replace hx148_0:=zx0 HB hx148_0
      replace hx148_1:=zx0 HB hx148_1
      replace hx148_2:=zx0 HB hx148_2
      replace p148:=eq_true p148
      replace q148:=eq_true q148
      go_wp2
      go_roundg k1
      case measure => have:=HK1.out;omega
      case rel => exact ⟨(wrap64 (x6_1 + 1)),(x148000_1),(u148000),zE0,H',⟨by have:=HK1.out;omega⟩,⟨zR0 HO_148000.out⟩,⟨zK0 BK145.out⟩,⟨zK0 BK146.out⟩,⟨zK0 BK147.out⟩,⟨zY0 HB.out⟩⟩
     ·rw [if_neg c11] at H
      have c11b0 : (((rd_T45 l0_0 x6_1).f0).toList == a1.toList) = false:=beq_eq_false_iff_ne.mpr c11
      have c11b1 : (((rd_T45 l0_0 x6_1).f0).toList != a1.toList) = true:=bne_iff_ne.mpr c11
      by_cases c15 : x148000_1.length < 3518437208883
      ·rw [if_pos c15] at H
       have LMc15:=Aside0.mk c15
       clear c15
       obtain ⟨y150,hy150⟩ : ∃ y_ : List (S45),y_ = (x148000_1 ++ [(⟨(rd_T45 l0_0 x6_1).f0,(rd_T45 l0_0 x6_1).f1,(rd_T45 l0_0 x6_1).f2⟩ : S45)]):=⟨_,rfl⟩
       replace H : (spec_l03Without.l0 k1 a1 (wrap64 (x6_1 + 1)) l0_0 y150) = some r:=by first | (rw [hy150];with_reducible exact H) | (have H2_:=(Option.bind_some _ _).symm.trans H;rw [hy150];with_reducible exact H2_) | (have H2_:=(Option.bind_some _ _).symm.trans H;with_reducible exact H2_) | with_reducible exact H | (rw [hy150];exact H) | exact H
       have Ny150:=Aside0.mk hy150
       clear hy150
       have H':=Aside0.mk H
       clear H
       obtain ⟨_,_⟩:=zn0 NB145_146
       obtain ⟨_,_⟩:=zn0 NB145_147
       have hcz18_0 : wr.cell? ⟨gb145,0,none⟩ = some (.slice A0_0 l0_0.length c0_0):=zc00 BK145
       have hfz18_0:=blk_frozen BK145.out 0
       have p148 : 0 ≤ (x6_1 : Int):=zD0
       have q148 : x6_1 < (l0_0.length : Int):=zD0
       obtain ⟨ad148,e148,hx148_0,hx148_1,hx148_2⟩:=at_T45 HR0_0.out x6_1 p148 q148
       cases e148
       replace hx148_0:=zx0 HB hx148_0
       replace hx148_1:=zx0 HB hx148_1
       replace hx148_2:=zx0 HB hx148_2
       replace p148:=eq_true p148
       replace q148:=eq_true q148
       try go_wp2
       replace HO_148000:=Aside0.mk (Kd.R_drew HO_148000.out)
       replace BK145:=Aside0.mk (blk_drew BK145.out)
       replace BK146:=Aside0.mk (blk_drew BK146.out)
       replace BK147:=Aside0.mk (blk_drew BK147.out)
       replace HB:=Aside0.mk (below_drew1 HB.out)
       have p149 : 0 ≤ (x6_1 : Int):=zD0
       have q149 : x6_1 < (l0_0.length : Int):=zD0
       obtain ⟨ad149,e149,hx149_0,hx149_1,hx149_2⟩:=at_T45 HR0_0.out x6_1 p149 q149
       have hw149_2:=hx149_2
       have hw149_1:=hx149_1
       have hw149_0:=hx149_0
       obtain rfl : ad148 = ad149:=(by injection e149)
       replace hx149_0:=zx0 HB hx149_0
       replace hx149_1:=zx0 HB hx149_1
       replace hx149_2:=zx0 HB hx149_2
       replace p149:=eq_true p149
       replace q149:=eq_true q149
       refine start_ (n:=11) (S:=fun w' => w'.cell? ⟨gb147,0,none⟩ = some (u148000) ∧ w'.cell? ⟨gb145,0,none⟩ = some (.slice (some ad148) l0_0.length c0_0) ∧ w'.cell? (ad148.add ((x6_1).toNat * 3)) = some (.string ((rd_T45 l0_0 x6_1).f0)) ∧ w'.cell? ⟨(ad148.add ((x6_1).toNat * 3)).block,(ad148.add ((x6_1).toNat * 3)).off + 1,none⟩ = some (.string ((rd_T45 l0_0 x6_1).f1)) ∧ w'.cell? ⟨(ad148.add ((x6_1).toNat * 3)).block,(ad148.add ((x6_1).toNat * 3)).off + 2,none⟩ = some (.int .i64 ((rd_T45 l0_0 x6_1).f2))) (ds:=[10]) (zF0 11 0) (by kernel_rfl) rfl rfl ⟨zc00 BK147,zc00 BK145,(zx0 HB hw149_0 :),(zx0 HB hw149_1 :),(zx0 HB hw149_2 :)⟩ (fun hHeld => ?_);refine with_tabW spec_l03Without.tab6 spec_l03Without.bits6 (fun HT_ HW_ => ?_)
       generalize wr.drew = w19 at HO_148000 BK145 BK146 BK147 HB hx149_0 hx149_1 hx149_2 hHeld ⊢
       refine zp0 0 23 11 1 HT_ ?_
       refine zp0 2 25 11 5 HT_ ?_
       refine zp0 4 27 11 21 HT_ ?_
       refine zt0 1 24 11 23 HT_ HW_ hHeld ?_
       refine zt0 3 26 11 31 HT_ HW_ hHeld ?_
       refine zp0 5 28 11 63 HT_ ?_
       refine zt0 6 29 11 127 HT_ HW_ hHeld ?_
       refine one_ (i:=7) (N:=some 30) (zF0 11 255) rfl rfl (one_of HT_.out (by kernel_rfl)) (by decide) (fun K hK => ?_)
       refine value_ (w1:=?_) (v:=?_) (by rfl) rfl ?_ ?_
       rotate_left 2
       ·go_simp
        constructor
        ·rfl
        ·rfl
       refine hK.out _ _ ⟨(blk_cell (blk_alloc BK147.out _) 0).trans rfl,(blk_cell (blk_alloc BK145.out _) 0).trans rfl,(World.cell?_alloc_lt _ _ _ (World.block_lt_of_cell? _ _ ((zx0 HB hw149_0 :)))).trans ((zx0 HB hw149_0 :)),(World.cell?_alloc_lt _ _ _ (World.block_lt_of_cell? _ _ ((zx0 HB hw149_1 :)))).trans ((zx0 HB hw149_1 :)),(World.cell?_alloc_lt _ _ _ (World.block_lt_of_cell? _ _ ((zx0 HB hw149_2 :)))).trans ((zx0 HB hw149_2 :))⟩ (fun hHeld => ?_)
       clear hK K
       refine norm_ (a':=?_) ?_ ?_;rotate_left
       ·show Act.put _ (some 30) _ = _;simp only [Act.put,qA0,qB0,qC0,i64_w,i32_w];rfl
       refine one_ (i:=8) (N:=some 31) (zF0 11 511) rfl rfl (one_of HT_.out (by kernel_rfl)) (by decide) (fun K hK => ?_)
       refine Kd.R_append_step k45 (w0:=w) w.heap.size (by rfl) (.tmp 24) (.tmp 30) 28 45 (.agg #[(.string ⟨#[]⟩),(.string ⟨#[]⟩),(.int .i64 0)]) 40 rfl Try.underlying28 info45 rfl (by decide) (by omega) u148000 x148000_1 (⟨(rd_T45 l0_0 x6_1).f0,(rd_T45 l0_0 x6_1).f1,(rd_T45 l0_0 x6_1).f2⟩ : S45) [.string ((rd_T45 l0_0 x6_1).f0),.string ((rd_T45 l0_0 x6_1).f1),.int .i64 ((rd_T45 l0_0 x6_1).f2)] (fun _ => True) (fun _ => False) rfl rfl ?aP (fun _ hk => hk.elim) ?aF ?aO ?aB ?aS ?aL ?_
       (case aP => exact k45_mkM _ _ _ (⟨(rd_T45 l0_0 x6_1).f0,(rd_T45 l0_0 x6_1).f1,(rd_T45 l0_0 x6_1).f2⟩ : S45))
       (case aB => exact (zY0 HB.out))
       (case aF => exact (fun _ _ => trivial))
       (case aO => exact (zR0 HO_148000.out))
       (case aS => exact (zZ0 HB.out))
       (case aL => have:=LMc15.out;omega)
       intro v151 w20 ho hb hg hat
       rw [← Ny150.out] at ho
       replace BK145:=Aside0.mk (blk_grown (g:=gb145) (o:=.cells #[.slice (some ad148) l0_0.length c0_0] 30 (0,0)) (zK0 BK145.out) hg (Kd.R_ne HO_148000.out BK145.out (by decide)))
       replace BK146:=Aside0.mk (blk_grown (g:=gb146) (o:=.cells #[.slice none 0 0] 30 (0,0)) (zK0 BK146.out) hg (Kd.R_ne HO_148000.out BK146.out (by decide)))
       replace BK147:=Aside0.mk (blk_grown (g:=gb147) (o:=.cells #[u148000] 30 (0,0)) (zK0 BK147.out) hg (Kd.R_ne HO_148000.out BK147.out (by decide)))
       replace HB:=Aside0.mk hb
       have HO152:=Aside0.mk ho
       clear HO_148000
       clear ho hb hg hat
       obtain ⟨Ao21,co21,eo21⟩:=Kd.R_slice HO152.out
       (first | subst eo21 | (injection eo21 with f1_ f2_ f3_;have f4_:=f1_.symm;have f5_:=f3_.symm;clear f1_ f2_ f3_;subst f4_;subst f5_))
       refine hK.out _ _ ⟨zc00 BK147,zc00 BK145,(zx0 HB hw149_0 :),(zx0 HB hw149_1 :),(zx0 HB hw149_2 :)⟩ (fun hHeld => ?_)
       clear hK K
       refine norm_ (a':=?_) ?_ ?_;rotate_left
       ·show Act.put _ (some 31) _ = _;simp only [Act.put,qA0,qB0,qC0,i64_w,i32_w];rfl
       refine zp0 9 32 11 1023 HT_ ?_
       refine last_ (i:=10) (N:=none) (zF0 11 2047) rfl rfl (one_of HT_.out (by kernel_rfl)) (by decide) (fun K hK => ?_)
       have hs22 : w20.cell? ⟨gb147,0,none⟩ = some (u148000):=zc00 BK147
       have hfs22:=blk_frozen BK147.out 0
       have hns22_0:=NB145_147.out
       have hns22_1:=NB146_147.out
       have hms22_0:=NB147_145.out
       have hms22_1:=NB147_146.out
       refine skip_ (w1:=?_) (by rfl) rfl ?_ ?_;rotate_left
       ·go_simp
        rfl
       refine hK.out _ _ ?_
       clear hK K
       refine done_ (done_of HT_.out (by kernel_rfl)) ?_
       try go_wp2
       go_roundg k1
       case measure => have:=HK1.out;omega
       case rel => exact ⟨(wrap64 (x6_1 + 1)),(y150),(.slice Ao21 y150.length co21),zE0,H',⟨by have:=HK1.out;omega⟩,⟨by refine zV0 ?_;exact Kd.R_mono (Kd.R_far (p:=⟨gb147,0,none⟩) (Kd.R_types HO152.out BK147.out (by decide)) (fun _ hk => hk.2) (.slice Ao21 y150.length co21)) (fun _ hk => trivial)⟩,⟨zK0 BK145.out⟩,⟨zK0 BK146.out⟩,⟨by refine zT0 ?_;refine blk_put (cs:=#[u148000]) ?_ 0 _ rfl;exact zK0 BK147.out⟩,⟨zY0 HB.out⟩⟩
      ·rw [if_neg c15] at H
       exact absurd H (by simp)
    ·rw [if_neg c10] at H
     exact absurd H (by simp)
   ·rw [if_neg c9] at H
    have c9b0 : decide (x6_1 < (l0_0.length : Int)) = false:=decide_eq_false c9
    clear c9
    obtain rfl:=Option.some.inj H
    obtain ⟨_,_⟩:=zn0 NB145_146
    obtain ⟨_,_⟩:=zn0 NB145_147
    have hcz25_0 : wr.cell? ⟨gb145,0,none⟩ = some (.slice A0_0 l0_0.length c0_0):=zc00 BK145
    have hfz25_0:=blk_frozen BK145.out 0
    obtain ⟨_,_⟩:=zn0 NB147_146
    have hcz27_0 : wr.cell? ⟨gb147,0,none⟩ = some (u148000):=zc00 BK147
    have hfz27_0:=blk_frozen BK147.out 0
    obtain ⟨Ao28,co28,eo28⟩:=Kd.R_slice HO_148000.out
    subst eo28
    have hcz29_0 : wr.cell? ⟨gb146,0,none⟩ = some (.slice none 0 0):=zc00 BK146
    have hfz29_0:=blk_frozen BK146.out 0
    go_wp2
    refine bodyPost_ret (results_cell_row rfl _ _ gb146 30 #[.slice Ao28 x148000_1.length co28] (0,0) _ rfl (by refine zT0 ?_;refine blk_put (cs:=#[.slice none 0 0]) ?_ 0 _ rfl;exact zK0 BK146.out) Try.underlying30 rfl (by kernel_rfl)) rfl ?_
    exact ⟨_,zW0,by refine zV0 ?_;exact Kd.R_mono (Kd.R_far (p:=⟨gb146,0,none⟩) (Kd.R_types HO_148000.out BK146.out (by decide)) (fun _ hk => hk.2) (.slice Ao28 x148000_1.length co28)) (fun _ hk => trivial),(zY0 HB.out)⟩

end Go.Proofs.Ytgfacdhkamphiaa.PFnActs
