/- Walks, turned from a print. -/
import Derived.Test.YtgfacdhkamphiaaOFnActsx0
import Derived.Test.YtgfacdhkamphiaaOFnActsx10
namespace Go.Proofs.Ytgfacdhkamphiaa.PFnActs
open Go.RowKit Go.Proofs.YtgfacdhkamphiaaW.PrintWords Go.Proofs.YtgfacdhkamphiaaW.PrintLast Go.Proofs.YtgfacdhkamphiaaW.PrintMore
attribute [local go_sem] max2_int min2_int max_two min_two max_three min_three max_four min_four
set_option linter.unusedVariables false
set_option linter.unusedSimpArgs false

/-! ### spec_DoActs: function 40 -/
def spec_DoActs.l0 : Nat → List (S55) → Int → List (S45) → Option ((List (S45)) × Int)
 | 0,_,_,_ => none
 | k + 1,x1,x7,x191000 => if x7 < (x1.length : Int) then (if 0 ≤ x7 then ((spec_DoAct.f k x191000 ((rd_T55 x1 x7).f0) ((rd_T55 x1 x7).f1) ((rd_T55 x1 x7).f2) ((rd_T55 x1 x7).f3)).bind fun bt192 => (if bt192.2 = true then (spec_DoActs.l0 k x1 (wrap64 (x7 + 1)) bt192.1) else (some (x191000,x7)))) else (none)) else (some (x191000,(x1.length : Int)))
def spec_DoActs.f (k : Nat) (l0_0 : List (S45)) (l1 : List (S55)) : Option ((List (S45)) × Int):=(some (([] : List (S45)) : List (S45))).bind fun y184 => (if y184.length + l0_0.length < 3518437208883 then (spec_DoActs.l0 k l1 0 (y184 ++ l0_0)) else (none))
theorem spec_DoActs.mono_l : ∀ k,(∀ y0 y1 y2,LeO (spec_DoActs.l0 k y0 y1 y2) (spec_DoActs.l0 (k + 1) y0 y1 y2))
 | 0 => fun _ _ _ r h => by simp [spec_DoActs.l0] at h
 | k + 1 => by
  have ih0:=spec_DoActs.mono_l k
  ·intro y0 y1 y2
   unfold spec_DoActs.l0
   repeat' first
  | (with_reducible exact ih0 _ _ _)
  | (with_reducible exact spec_DoAct.mono _ _ _ _ _ _)
  | (with_reducible exact LeO.refl _)
  | (with_reducible exact LeO.none _)
  | (with_reducible refine LeO.ite ?_ ?_)
  | (with_reducible refine LeO.bind ?_ (fun _ => ?_))
theorem spec_DoActs.mono : ∀ a0 a1 k,LeO (spec_DoActs.f k a0 a1) (spec_DoActs.f (k + 1) a0 a1):=by
 intro a0 a1 k
 have ih0:=spec_DoActs.mono_l k
 unfold spec_DoActs.f
 repeat' first
  | (with_reducible exact ih0 _ _ _)
  | (with_reducible exact spec_DoAct.mono _ _ _ _ _ _)
  | (with_reducible exact LeO.refl _)
  | (with_reducible exact LeO.none _)
  | (with_reducible refine LeO.ite ?_ ?_)
  | (with_reducible refine LeO.bind ?_ (fun _ => ?_))
def spec_DoActs.T5 : Bool × List (List Nat × List Nat):=(true,[([],[]),([],[]),([],[]),([1,2],[1,2]),([3],[3]),([0,4],[0,4]),([5],[5]),([6],[6]),([6],[6]),([],[]),([9,7,5,0,1,2,3,4,5,6,7,9],[7,9]),([8,10,0,1,2,3,4,5,6,7,8,9,10],[8])])
def spec_DoActs.B5 : List Nat:=[0,0,0,6,14,31,63,127,127,0,767,2047]
theorem spec_DoActs.tab5 : rtab .any (opsOf Try.f40 5) = spec_DoActs.T5:=by kernel_rfl
theorem spec_DoActs.bits5 : waitsOk spec_DoActs.T5.2 spec_DoActs.B5 = true:=by kernel_rfl
set_option maxHeartbeats 8000000 in
set_option maxRecDepth 100000 in
theorem spec_DoActs.calls (k : Nat) (A0_0 : Option Addr) (c0_0 : Nat) (l0_0 : List (S45)) (A1 : Option Addr) (c1 : Nat) (l1 : List (S55)) (r1 : List (S45)) (r2 : Int) (w : World) (hr0_0 : Kd.C k45 w A0_0 l0_0.length l0_0) (hc0_0 : l0_0.length ≤ c0_0) (hr1 : Kd.C k55 w A1 l1.length l1) (hc1 : l1.length ≤ c1) (h : spec_DoActs.f k l0_0 l1 = some (r1,r2)) :
  Calls Try.prog 40 #[.agg #[.slice A0_0 l0_0.length c0_0],.slice A1 l1.length c1] w fun e w' => ∃ v0_ : Value,e = .returned (.tuple #[.agg #[v0_],.int .i64 r2]) ∧ Kd.R k45 45 w' w.heap.size (fun _ => True) v0_ r1 ∧ Below w.heap.size w w':=by
 have hu30:=Try.underlying30
 have hu55:=Try.underlying55
 have HR0_0:=Aside0.mk hr0_0
 have HC0_0:=Aside0.mk hc0_0
 clear hr0_0 hc0_0
 have HR1:=Aside0.mk hr1
 have HC1:=Aside0.mk hc1
 clear hr1 hc1
 have HB:=Aside0.mk (Below.refl w.heap.size w)
 have H : ((some (([] : List (S45)) : List (S45))).bind fun y184 => (if y184.length + l0_0.length < 3518437208883 then (spec_DoActs.l0 k l1 0 (y184 ++ l0_0)) else (none))) = some (r1,r2):=h
 clear h
 obtain ⟨y184,hy184⟩ : ∃ y_ : List (S45),y_ = (([] : List (S45))):=⟨_,rfl⟩
 replace H : (if y184.length + l0_0.length < 3518437208883 then (spec_DoActs.l0 k l1 0 (y184 ++ l0_0)) else (none)) = some (r1,r2):=by first | (rw [hy184];with_reducible exact H) | (have H2_:=(Option.bind_some _ _).symm.trans H;rw [hy184];with_reducible exact H2_) | (have H2_:=(Option.bind_some _ _).symm.trans H;with_reducible exact H2_) | with_reducible exact H | (rw [hy184];exact H) | exact H
 have Ny184:=Aside0.mk hy184
 clear hy184
 by_cases c3 : y184.length + l0_0.length < 3518437208883
 ·rw [if_pos c3] at H
  have LMc3:=Aside0.mk c3
  clear c3
  obtain ⟨y187,hy187⟩ : ∃ y_ : List (S45),y_ = (y184 ++ l0_0):=⟨_,rfl⟩
  replace H : (spec_DoActs.l0 k l1 0 y187) = some (r1,r2):=by first | (rw [hy187];with_reducible exact H) | (have H2_:=(Option.bind_some _ _).symm.trans H;rw [hy187];with_reducible exact H2_) | (have H2_:=(Option.bind_some _ _).symm.trans H;with_reducible exact H2_) | with_reducible exact H | (rw [hy187];exact H) | exact H
  have Ny187:=Aside0.mk hy187
  clear hy187
  have H':=Aside0.mk H
  clear H
  go_enter Try.func40,Try.ntmps40
  go_wp2_with (first | ((with_reducible refine gate_dst (N:=2) rfl ?_);refine zy0 (cs:=#[.slice A0_0 l0_0.length c0_0]) (t:=30) ?_;intro gb182 hg w4 hbox hb;have BK182:=Aside0.mk hbox;have GW182:=zz0 hg HB;have GE182:=zz0 hg HB;replace HB:=zs0 HB hb;clear hb hbox hg) | ((with_reducible refine gate_dst (N:=4) rfl ?_);refine zy0 (cs:=#[.slice none 0 0]) (t:=30) ?_;intro gb183 hg w5 hbox hb;have BK183:=Aside0.mk hbox;have GW183:=zz0 hg HB;have GE183:=zz0 hg HB;replace HB:=zs0 HB hb;have NB182_183:=zl0 hg BK182;have NB183_182:=zg0 hg BK182;replace BK182:=zb0 BK182 hb;clear hb hbox hg) | ((with_reducible refine gate_dst (N:=10) rfl ?_);refine Kd.R_lit k45 _ 45 ?hg (N:=10) ?hd (xs:=([] : List (S45))) (inner:=[]) (ok:=fun _ => True) (okp:=fun _ => True) ?hr ?hp (fun _ hk => hk) trivial (Below.refl _ _) (Nat.le_refl _) (by simp) ?_;(case hd => rfl);(case hg => rfl);(case hr => first | (go_simp;done) | (go_simp;rfl));(case hp => exact (Reps.none _ _));intro v185 w6 ho7 hb hg_ hnew_;clear hg_ hnew_;(first | rw [← Ny184.out] at ho7 | (simp only [Int.reduceToNat] at ho7;rw [← Ny184.out] at ho7));have HO186:=Aside0.mk (Kd.R_lower ho7 (zZ0 HB.out));replace BK182:=zb0 BK182 hb;replace BK183:=zb0 BK183 hb;replace HB:=zs0 HB hb;clear hb ho7;obtain ⟨_,_⟩:=zn0 NB182_183;obtain ⟨hcz9_0,hfz9_0⟩:=zd01 BK182) | ((with_reducible refine gate_builtin (b:=.append) (xs:=#[.tmp 10,.tmp 12]) rfl ?_);at_builtin;refine Kd.R_append_rows k45 (w0:=w) w.heap.size rfl (.tmp 10) (.tmp 12) 28 45 (.agg #[(.string ⟨#[]⟩),(.string ⟨#[]⟩),(.int .i64 0)]) 40 rfl Try.underlying28 info45 rfl (by decide) (by omega) v185 y184 l0_0 _ _ _ (fun _ => True) (fun _ => False) rfl rfl ?aO ?aR (fun _ _ h => h) (fun _ h => h.elim) ?aF ?aB ?aS ?aL ?_;(case aR => exact zA0 ((Kd.C_below HR0_0.out HB.out)));(case aB => exact (zY0 HB.out));(case aF => exact (fun _ _ => trivial));(case aO => exact (zR0 HO186.out));(case aS => exact (zZ0 HB.out));(case aL => have:=LMc3.out;omega);intro v188 w10 ho hb hg hat;rw [← Ny187.out] at ho;replace BK182:=Aside0.mk (blk_grown (g:=gb182) (o:=.cells #[.slice A0_0 l0_0.length c0_0] 30 (0,0)) (zK0 BK182.out) hg (Kd.R_ne HO186.out BK182.out (by decide)));replace BK183:=Aside0.mk (blk_grown (g:=gb183) (o:=.cells #[.slice none 0 0] 30 (0,0)) (zK0 BK183.out) hg (Kd.R_ne HO186.out BK183.out (by decide)));replace HB:=Aside0.mk hb;have HO189:=Aside0.mk ho;clear HO186;clear ho hb hg hat;obtain ⟨Ao11,co11,eo11⟩:=Kd.R_slice HO189.out;subst eo11) | ((with_reducible refine gate_dst (N:=6) rfl ?_);refine zy0 (cs:=#[.slice none 0 0]) (t:=30) ?_;intro gb190 hg w12 hbox hb;replace HO189:=Aside0.mk (Kd.R_below (zR0 HO189.out) hb);have BK190:=Aside0.mk hbox;have GW190:=zz0 hg HB;have GE190:=zz0 hg HB;replace HB:=zs0 HB hb;have NB182_190:=zl0 hg BK182;have NB190_182:=zg0 hg BK182;replace BK182:=zb0 BK182 hb;have NB183_190:=zl0 hg BK183;have NB190_183:=zg0 hg BK183;replace BK183:=zb0 BK183 hb;clear hb hbox hg;obtain ⟨_,_⟩:=zn0 NB190_182;obtain ⟨_,_⟩:=zn0 NB190_183;obtain ⟨hcz15_0,hfz15_0⟩:=zd01 BK190))
  go_loopg [7] k (fun kq v7 w' => ∃ (x7_1 : Int) (x191000_1 : List (S45)) (u191000 : Value),v7 = .int .i64 x7_1 ∧ Aside0 (spec_DoActs.l0 kq l1 x7_1 x191000_1 = some (r1,r2)) ∧ Aside0 (kq ≤ k) ∧ Aside0 (Kd.R k45 45 w' w.heap.size (fun _ => True) u191000 x191000_1) ∧ Aside0 (w'.heap[gb182]? = some (.cells #[(.slice A0_0 l0_0.length c0_0)] 30 (0,0))) ∧ Aside0 (w'.heap[gb183]? = some (.cells #[(.slice none 0 0)] 30 (0,0))) ∧ Aside0 (w'.heap[gb190]? = some (.cells #[u191000] 30 (0,0))) ∧ Aside0 (Below w.heap.size w w'))
  case atStart => exact ⟨(0),(y187),(.slice Ao11 y187.length co11),zE0,H',⟨Nat.le_refl _⟩,⟨by refine zV0 ?_;exact Kd.R_mono (Kd.R_far (p:=⟨gb190,0,none⟩) (Kd.R_types HO189.out BK190.out (by decide)) (fun _ hk => hk.2) (.slice Ao11 y187.length co11)) (fun _ hk => trivial)⟩,⟨zK0 BK182.out⟩,⟨zK0 BK183.out⟩,⟨by refine zT0 ?_;refine blk_put (cs:=#[.slice none 0 0]) ?_ 0 _ rfl;exact zK0 BK190.out⟩,⟨zY0 HB.out⟩⟩
  case round =>
   clear H'
   try clear c3
   try clear hcz15_0
   try clear hcz9_0
   try clear hfz15_0
   try clear hfz9_0
   obtain ⟨x7_1,x191000_1,u191000,rfl,HA,HK1,HO_191000,BK182,BK183,BK190,HB⟩:=hrel
   cases gk with
   | zero => exact absurd HA.out (by simp [spec_DoActs.l0])
   | succ k1 =>
    have H:=HA.out
    clear HA
    simp only [spec_DoActs.l0] at H
    by_cases c16 : x7_1 < (l1.length : Int)
    ·rw [if_pos c16] at H
     have c16b0 : decide (x7_1 < (l1.length : Int)) = true:=decide_eq_true c16
     clear c16
     by_cases c17 : 0 ≤ x7_1
     ·rw [if_pos c17] at H
      have c17b0 : decide (0 ≤ x7_1) = true:=decide_eq_true c17
      clear c17
      obtain ⟨⟨t192,t195⟩,A18,H⟩:=bX0 H
      dsimp only at H
      by_cases c19 : t195 = true
      ·subst c19
       rw [if_pos rfl] at H
       have H':=Aside0.mk H
       clear H
       obtain ⟨Ao20,co20,eo20⟩:=Kd.R_slice HO_191000.out
       subst eo20
       try go_wp2
       replace HO_191000:=Aside0.mk (Kd.R_drew HO_191000.out)
       replace BK182:=Aside0.mk (blk_drew BK182.out)
       replace BK183:=Aside0.mk (blk_drew BK183.out)
       replace BK190:=Aside0.mk (blk_drew BK190.out)
       replace HB:=Aside0.mk (below_drew1 HB.out)
       have p191 : 0 ≤ (x7_1 : Int):=zD0
       have q191 : x7_1 < (l1.length : Int):=zD0
       obtain ⟨ad191,e191,hx191_0,hx191_1,hx191_2,hx191_3⟩:=at_T55 HR1.out x7_1 p191 q191
       have hw191_3:=hx191_3
       have hw191_2:=hx191_2
       have hw191_1:=hx191_1
       have hw191_0:=hx191_0
       cases e191
       replace hx191_0:=zx0 HB hx191_0
       replace hx191_1:=zx0 HB hx191_1
       replace hx191_2:=zx0 HB hx191_2
       replace hx191_3:=zx0 HB hx191_3
       replace p191:=eq_true p191
       replace q191:=eq_true q191
       refine start_ (n:=12) (S:=fun w' => w'.cell? ⟨gb190,0,none⟩ = some (.slice Ao20 x191000_1.length co20) ∧ w'.cell? (ad191.add ((x7_1).toNat * 4)) = some (.int .i64 ((rd_T55 l1 x7_1).f0)) ∧ w'.cell? ⟨(ad191.add ((x7_1).toNat * 4)).block,(ad191.add ((x7_1).toNat * 4)).off + 1,none⟩ = some (.string ((rd_T55 l1 x7_1).f1)) ∧ w'.cell? ⟨(ad191.add ((x7_1).toNat * 4)).block,(ad191.add ((x7_1).toNat * 4)).off + 2,none⟩ = some (.string ((rd_T55 l1 x7_1).f2)) ∧ w'.cell? ⟨(ad191.add ((x7_1).toNat * 4)).block,(ad191.add ((x7_1).toNat * 4)).off + 3,none⟩ = some (.string ((rd_T55 l1 x7_1).f3))) (ds:=[]) (zF0 12 0) (by kernel_rfl) rfl rfl ⟨zc00 BK190,(zx0 HB hw191_0 :),(zx0 HB hw191_1 :),(zx0 HB hw191_2 :),(zx0 HB hw191_3 :)⟩ (fun hHeld => ?_);refine with_tabW spec_DoActs.tab5 spec_DoActs.bits5 (fun HT_ HW_ => ?_)
       generalize wr.drew = w21 at HO_191000 BK182 BK183 BK190 HB hx191_0 hx191_1 hx191_2 hx191_3 hHeld ⊢
       refine zp0 1 23 12 2 HT_ ?_
       refine zp0 2 24 12 6 HT_ ?_
       refine zp0 3 25 12 14 HT_ ?_
       refine zt0 0 22 12 15 HT_ HW_ hHeld ?_
       refine zt0 4 26 12 31 HT_ HW_ hHeld ?_
       refine join_ (σ:=Value × Nat) 2 (zF0 12 1023) (fun s_ => [(27,.tuple #[.agg #[s_.1],.bool true]),(8,.pointer (some ⟨s_.2,0,none⟩)),(21,.tuple #[.agg #[s_.1],.bool true]),(28,.agg #[s_.1]),(29,.bool true)]) (fun s_ w' => (w'.cell? ⟨gb190,0,none⟩ = some (.slice Ao20 x191000_1.length co20) ∧ w'.cell? (ad191.add ((x7_1).toNat * 4)) = some (.int .i64 ((rd_T55 l1 x7_1).f0)) ∧ w'.cell? ⟨(ad191.add ((x7_1).toNat * 4)).block,(ad191.add ((x7_1).toNat * 4)).off + 1,none⟩ = some (.string ((rd_T55 l1 x7_1).f1)) ∧ w'.cell? ⟨(ad191.add ((x7_1).toNat * 4)).block,(ad191.add ((x7_1).toNat * 4)).off + 2,none⟩ = some (.string ((rd_T55 l1 x7_1).f2)) ∧ w'.cell? ⟨(ad191.add ((x7_1).toNat * 4)).block,(ad191.add ((x7_1).toNat * 4)).off + 3,none⟩ = some (.string ((rd_T55 l1 x7_1).f3))) ∧ (Kd.R k45 45 w' w.heap.size (fun k_ => some k_ ≠ (.slice Ao20 x191000_1.length co20 : Value).ownBlock) s_.1 t192) ∧ (Kd.R k45 45 w' w.heap.size (fun k_ => some k_ ≠ (s_.1 : Value).ownBlock) (.slice Ao20 x191000_1.length co20) x191000_1) ∧ (w'.heap[gb182]? = some (.cells #[.slice A0_0 l0_0.length c0_0] 30 (0,0))) ∧ (w'.heap[gb183]? = some (.cells #[.slice none 0 0] 30 (0,0))) ∧ (w'.heap[gb190]? = some (.cells #[.slice Ao20 x191000_1.length co20] 30 (0,0))) ∧ (w'.heap[s_.2]? = some (.cells #[.slice none 0 0] 30 (0,0))) ∧ (w.heap.size ≤ s_.2) ∧ (w.heap.size ≤ s_.2) ∧ (gb182 ≠ s_.2) ∧ (s_.2 ≠ gb182) ∧ (gb183 ≠ s_.2) ∧ (s_.2 ≠ gb183) ∧ (gb190 ≠ s_.2) ∧ (s_.2 ≠ gb190) ∧ (Below w.heap.size w w')) ?_ ?_
       rotate_left
       ·intro hCont
        refine two_ (i:=5) (j:=9) (Ni:=some 27) (Nj:=some 8) (zF0 12 63) (zF0 12 543) rfl rfl rfl rfl (two_of HT_.out (by kernel_rfl)) (by decide) (by decide) (fun K hK => ?_) (fun K hK => ?_)
        ·skip
         refine goes_ Try.func36 (by kernel_rfl) rfl #[.agg #[.slice Ao20 x191000_1.length co20],.agg #[.int .i64 ((rd_T55 l1 x7_1).f0),.string ((rd_T55 l1 x7_1).f1),.string ((rd_T55 l1 x7_1).f2),.string ((rd_T55 l1 x7_1).f3)]] (by rfl) rfl rfl zM0 ?_
         with_reducible refine (spec_DoAct.calls k1 _ _ x191000_1 ((rd_T55 l1 x7_1).f0) ((rd_T55 l1 x7_1).f1) ((rd_T55 l1 x7_1).f2) ((rd_T55 l1 x7_1).f3) t192 true _ ?side1 ?side2 A18.out).mono ?_
         (case side1 => exact zA0 ((Kd.R_reads' HO_191000.out).2.2))
         (case side2 => exact (Kd.R_reads' HO_191000.out).2.1)
         rintro e w22 ⟨v193,rfl,ho0,hb⟩
         refine ⟨_,rfl,?_⟩
         have HO194:=Aside0.mk (Kd.R_lower (Kd.R_new' ho0 (Kd.R_lt (zR0 HO_191000.out))) (zZ0 HB.out))
         replace HO_191000:=Aside0.mk (Kd.R_elder' (zR0 HO_191000.out) (Kd.R_base ho0) hb)
         replace BK182:=zb0 BK182 hb
         replace BK183:=zb0 BK183 hb
         replace BK190:=zb0 BK190 hb
         replace HB:=zs0 HB hb
         (try clear hb)
         (try clear hb2)
         (try clear hk)
         (try clear hi)
         (try clear ho0)
         refine hK.out _ _ ⟨zc00 BK190,(zx0 HB hw191_0 :),(zx0 HB hw191_1 :),(zx0 HB hw191_2 :),(zx0 HB hw191_3 :)⟩ (fun hHeld => ?_)
         clear hK K
         refine norm_ (a':=?_) ?_ ?_;rotate_left
         ·show Act.put _ (some 27) _ = _;simp only [Act.put,qA0,qB0,qC0,i64_w,i32_w];rfl
         refine zp0 6 21 12 127 HT_ ?_
         refine zp0 7 28 12 255 HT_ ?_
         refine zp0 8 29 12 511 HT_ ?_
         refine one_ (i:=9) (N:=some 8) (zF0 12 1023) rfl rfl (one_of HT_.out (by kernel_rfl)) (by decide) (fun K hK => ?_)
         refine box_step ?hg (N:=8) ?hd (cs:=#[.slice none 0 0]) (t:=30) ?hr ?_;(case hd => rfl);(case hg => rfl);(case hr => first | (go_simp;done) | (go_simp;rfl))
         intro gb196 hg w23 hbox hb
         replace HO_191000:=Aside0.mk (Kd.R_below (zR0 HO_191000.out) hb)
         replace HO194:=Aside0.mk (Kd.R_below (zR0 HO194.out) hb)
         have BK196:=Aside0.mk hbox
         have GW196:=zz0 hg HB
         have GE196:=zz0 hg HB
         replace HB:=zs0 HB hb
         have NB182_196:=zl0 hg BK182
         have NB196_182:=zg0 hg BK182
         replace BK182:=zb0 BK182 hb
         have NB183_196:=zl0 hg BK183
         have NB196_183:=zg0 hg BK183
         replace BK183:=zb0 BK183 hb
         have NB190_196:=zl0 hg BK190
         have NB196_190:=zg0 hg BK190
         replace BK190:=zb0 BK190 hb
         clear hb hbox hg
         refine hK.out _ _ ⟨zc00 BK190,(zx0 HB hw191_0 :),(zx0 HB hw191_1 :),(zx0 HB hw191_2 :),(zx0 HB hw191_3 :)⟩ (fun hHeld => ?_)
         clear hK K
         refine norm_ (a':=?_) ?_ ?_;rotate_left
         ·show Act.put _ (some 8) _ = _;simp only [Act.put,qA0,qB0,qC0,i64_w,i32_w];rfl
         exact norm_ (by simp only [putAll,Act.put,qA0,qB0,qC0]) (hCont (v193,gb196) _ ⟨hHeld,(by refine zV0 ?_;exact Kd.R_mono HO194.out (fun _ hk => hk.2)),(by refine zV0 ?_;exact Kd.R_mono HO_191000.out (fun _ hk => hk.2)),(zK0 BK182.out),(zK0 BK183.out),(zK0 BK190.out),(zK0 BK196.out),GW196.out,GE196.out,NB182_196.out,NB196_182.out,NB183_196.out,NB196_183.out,NB190_196.out,NB196_190.out,(zY0 HB.out)⟩)
        ·skip
         refine box_step ?hg (N:=8) ?hd (cs:=#[.slice none 0 0]) (t:=30) ?hr ?_;(case hd => rfl);(case hg => rfl);(case hr => first | (go_simp;done) | (go_simp;rfl))
         intro gb196 hg w22 hbox hb
         replace HO_191000:=Aside0.mk (Kd.R_below (zR0 HO_191000.out) hb)
         have BK196:=Aside0.mk hbox
         have GW196:=zz0 hg HB
         have GE196:=zz0 hg HB
         replace HB:=zs0 HB hb
         have NB182_196:=zl0 hg BK182
         have NB196_182:=zg0 hg BK182
         replace BK182:=zb0 BK182 hb
         have NB183_196:=zl0 hg BK183
         have NB196_183:=zg0 hg BK183
         replace BK183:=zb0 BK183 hb
         have NB190_196:=zl0 hg BK190
         have NB196_190:=zg0 hg BK190
         replace BK190:=zb0 BK190 hb
         clear hb hbox hg
         refine hK.out _ _ ⟨zc00 BK190,(zx0 HB hw191_0 :),(zx0 HB hw191_1 :),(zx0 HB hw191_2 :),(zx0 HB hw191_3 :)⟩ (fun hHeld => ?_)
         clear hK K
         refine norm_ (a':=?_) ?_ ?_;rotate_left
         ·show Act.put _ (some 8) _ = _;simp only [Act.put,qA0,qB0,qC0,i64_w,i32_w];rfl
         refine one_ (i:=5) (N:=some 27) (zF0 12 575) rfl rfl (one_of HT_.out (by kernel_rfl)) (by decide) (fun K hK => ?_)
         refine goes_ Try.func36 (by kernel_rfl) rfl #[.agg #[.slice Ao20 x191000_1.length co20],.agg #[.int .i64 ((rd_T55 l1 x7_1).f0),.string ((rd_T55 l1 x7_1).f1),.string ((rd_T55 l1 x7_1).f2),.string ((rd_T55 l1 x7_1).f3)]] (by rfl) rfl rfl zM0 ?_
         with_reducible refine (spec_DoAct.calls k1 _ _ x191000_1 ((rd_T55 l1 x7_1).f0) ((rd_T55 l1 x7_1).f1) ((rd_T55 l1 x7_1).f2) ((rd_T55 l1 x7_1).f3) t192 true _ ?side1 ?side2 A18.out).mono ?_
         (case side1 => exact zA0 ((Kd.R_reads' HO_191000.out).2.2))
         (case side2 => exact (Kd.R_reads' HO_191000.out).2.1)
         rintro e w23 ⟨v193,rfl,ho0,hb⟩
         refine ⟨_,rfl,?_⟩
         have HO194:=Aside0.mk (Kd.R_lower (Kd.R_new' ho0 (Kd.R_lt (zR0 HO_191000.out))) (zZ0 HB.out))
         replace HO_191000:=Aside0.mk (Kd.R_elder' (zR0 HO_191000.out) (Kd.R_base ho0) hb)
         replace BK182:=zb0 BK182 hb
         replace BK183:=zb0 BK183 hb
         replace BK190:=zb0 BK190 hb
         replace BK196:=zb0 BK196 hb
         replace HB:=zs0 HB hb
         (try clear hb)
         (try clear hb2)
         (try clear hk)
         (try clear hi)
         (try clear ho0)
         refine hK.out _ _ ⟨zc00 BK190,(zx0 HB hw191_0 :),(zx0 HB hw191_1 :),(zx0 HB hw191_2 :),(zx0 HB hw191_3 :)⟩ (fun hHeld => ?_)
         clear hK K
         refine norm_ (a':=?_) ?_ ?_;rotate_left
         ·show Act.put _ (some 27) _ = _;simp only [Act.put,qA0,qB0,qC0,i64_w,i32_w];rfl
         refine zp0 6 21 12 639 HT_ ?_
         refine zp0 7 28 12 767 HT_ ?_
         refine zp0 8 29 12 1023 HT_ ?_
         exact norm_ (by simp only [putAll,Act.put,qA0,qB0,qC0]) (hCont (v193,gb196) _ ⟨hHeld,(by refine zV0 ?_;exact Kd.R_mono HO194.out (fun _ hk => hk.2)),(by refine zV0 ?_;exact Kd.R_mono HO_191000.out (fun _ hk => hk.2)),(zK0 BK182.out),(zK0 BK183.out),(zK0 BK190.out),(zK0 BK196.out),GW196.out,GE196.out,NB182_196.out,NB196_182.out,NB183_196.out,NB196_183.out,NB190_196.out,NB196_190.out,(zY0 HB.out)⟩)
       rintro ⟨v193,gb196⟩ w24 ⟨hS_,h0_,h1_,h2_,h3_,h4_,h5_,h6_,h7_,h8_,h9_,h10_,h11_,h12_,h13_,h14_⟩
       have n0_ : Aside0 (Kd.R k45 45 w24 w.heap.size (fun k_ => some k_ ≠ (.slice Ao20 x191000_1.length co20 : Value).ownBlock) v193 t192):=⟨h0_⟩
       have n1_ : Aside0 (Kd.R k45 45 w24 w.heap.size (fun k_ => some k_ ≠ (v193 : Value).ownBlock) (.slice Ao20 x191000_1.length co20) x191000_1):=⟨h1_⟩
       have n2_ : Aside0 (w24.heap[gb182]? = some (.cells #[.slice A0_0 l0_0.length c0_0] 30 (0,0))):=⟨h2_⟩
       have n3_ : Aside0 (w24.heap[gb183]? = some (.cells #[.slice none 0 0] 30 (0,0))):=⟨h3_⟩
       have n4_ : Aside0 (w24.heap[gb190]? = some (.cells #[.slice Ao20 x191000_1.length co20] 30 (0,0))):=⟨h4_⟩
       have n5_ : Aside0 (w24.heap[gb196]? = some (.cells #[.slice none 0 0] 30 (0,0))):=⟨h5_⟩
       have n6_ : Aside0 (w.heap.size ≤ gb196):=⟨h6_⟩
       have n7_ : Aside0 (w.heap.size ≤ gb196):=⟨h7_⟩
       have n8_ : Aside0 (gb182 ≠ gb196):=⟨h8_⟩
       have n9_ : Aside0 (gb196 ≠ gb182):=⟨h9_⟩
       have n10_ : Aside0 (gb183 ≠ gb196):=⟨h10_⟩
       have n11_ : Aside0 (gb196 ≠ gb183):=⟨h11_⟩
       have n12_ : Aside0 (gb190 ≠ gb196):=⟨h12_⟩
       have n13_ : Aside0 (gb196 ≠ gb190):=⟨h13_⟩
       have n14_ : Aside0 (Below w.heap.size w w24):=⟨h14_⟩
       clear HO_191000 BK182 BK183 BK190 HB
       clear h0_ h1_ h2_ h3_ h4_ h5_ h6_ h7_ h8_ h9_ h10_ h11_ h12_ h13_ h14_
       have HO194:=n0_
       have HO_191000:=n1_
       have BK182:=n2_
       have BK183:=n3_
       have BK190:=n4_
       have BK196:=n5_
       have GW196:=n6_
       have GE196:=n7_
       have NB182_196:=n8_
       have NB196_182:=n9_
       have NB183_196:=n10_
       have NB196_183:=n11_
       have NB190_196:=n12_
       have NB196_190:=n13_
       have HB:=n14_
       clear n0_ n1_ n2_ n3_ n4_ n5_ n6_ n7_ n8_ n9_ n10_ n11_ n12_ n13_ n14_
       have hHeld : w24.cell? ⟨gb190,0,none⟩ = some (.slice Ao20 x191000_1.length co20) ∧ w24.cell? (ad191.add ((x7_1).toNat * 4)) = some (.int .i64 ((rd_T55 l1 x7_1).f0)) ∧ w24.cell? ⟨(ad191.add ((x7_1).toNat * 4)).block,(ad191.add ((x7_1).toNat * 4)).off + 1,none⟩ = some (.string ((rd_T55 l1 x7_1).f1)) ∧ w24.cell? ⟨(ad191.add ((x7_1).toNat * 4)).block,(ad191.add ((x7_1).toNat * 4)).off + 2,none⟩ = some (.string ((rd_T55 l1 x7_1).f2)) ∧ w24.cell? ⟨(ad191.add ((x7_1).toNat * 4)).block,(ad191.add ((x7_1).toNat * 4)).off + 3,none⟩ = some (.string ((rd_T55 l1 x7_1).f3)):=hS_
       obtain ⟨Ao25,co25,eo25⟩:=Kd.R_slice HO194.out
       (first | subst eo25 | (injection eo25 with f1_ f2_ f3_;have f4_:=f1_.symm;have f5_:=f3_.symm;clear f1_ f2_ f3_;subst f4_;subst f5_))
       refine norm_ (a':=?_) ?_ ?_;rotate_left
       ·simp only [putAll,Act.put,qA0,qB0,qC0]
        rfl
       refine one_ (i:=10) (N:=none) (zF0 12 2047) rfl rfl (one_of HT_.out (by kernel_rfl)) (by decide) (fun K hK => ?_)
       have hs26 : w24.cell? ⟨gb196,0,none⟩ = some (.slice none 0 0):=zc00 BK196
       have hfs26:=blk_frozen BK196.out 0
       have hns26_0:=NB182_196.out
       have hns26_1:=NB183_196.out
       have hns26_2:=NB190_196.out
       have hms26_0:=NB196_182.out
       have hms26_1:=NB196_183.out
       have hms26_2:=NB196_190.out
       refine skip_ (w1:=?_) (by rfl) rfl ?_ ?_;rotate_left
       ·go_simp
        rfl
       refine hK.out _ _ ⟨((cell_far (p:=⟨gb196,_,none⟩) NB190_196.out _).trans (hHeld.1)),((cell_far (p:=⟨gb196,_,none⟩) (by first | exact Nat.ne_of_lt (Nat.lt_of_lt_of_le (by have:=World.block_lt_of_cell? _ _ hw191_0;first | rwa [add_block] at this | exact this) GW196.out) | (rw [add_block];exact Nat.ne_of_lt (Nat.lt_of_lt_of_le (by have:=World.block_lt_of_cell? _ _ hw191_0;first | rwa [add_block] at this | exact this) GW196.out)) | (show (Addr.add _ _).block ≠ _;rw [add_block];exact Nat.ne_of_lt (Nat.lt_of_lt_of_le (by have:=World.block_lt_of_cell? _ _ hw191_0;first | rwa [add_block] at this | exact this) GW196.out)) | (dsimp only;exact Nat.ne_of_lt (Nat.lt_of_lt_of_le (by have:=World.block_lt_of_cell? _ _ hw191_0;first | rwa [add_block] at this | exact this) GW196.out))) _).trans (hHeld.2.1)),((cell_far (p:=⟨gb196,_,none⟩) (by first | exact Nat.ne_of_lt (Nat.lt_of_lt_of_le (by have:=World.block_lt_of_cell? _ _ hw191_1;first | rwa [add_block] at this | exact this) GW196.out) | (rw [add_block];exact Nat.ne_of_lt (Nat.lt_of_lt_of_le (by have:=World.block_lt_of_cell? _ _ hw191_1;first | rwa [add_block] at this | exact this) GW196.out)) | (show (Addr.add _ _).block ≠ _;rw [add_block];exact Nat.ne_of_lt (Nat.lt_of_lt_of_le (by have:=World.block_lt_of_cell? _ _ hw191_1;first | rwa [add_block] at this | exact this) GW196.out)) | (dsimp only;exact Nat.ne_of_lt (Nat.lt_of_lt_of_le (by have:=World.block_lt_of_cell? _ _ hw191_1;first | rwa [add_block] at this | exact this) GW196.out))) _).trans (hHeld.2.2.1)),((cell_far (p:=⟨gb196,_,none⟩) (by first | exact Nat.ne_of_lt (Nat.lt_of_lt_of_le (by have:=World.block_lt_of_cell? _ _ hw191_2;first | rwa [add_block] at this | exact this) GW196.out) | (rw [add_block];exact Nat.ne_of_lt (Nat.lt_of_lt_of_le (by have:=World.block_lt_of_cell? _ _ hw191_2;first | rwa [add_block] at this | exact this) GW196.out)) | (show (Addr.add _ _).block ≠ _;rw [add_block];exact Nat.ne_of_lt (Nat.lt_of_lt_of_le (by have:=World.block_lt_of_cell? _ _ hw191_2;first | rwa [add_block] at this | exact this) GW196.out)) | (dsimp only;exact Nat.ne_of_lt (Nat.lt_of_lt_of_le (by have:=World.block_lt_of_cell? _ _ hw191_2;first | rwa [add_block] at this | exact this) GW196.out))) _).trans (hHeld.2.2.2.1)),((cell_far (p:=⟨gb196,_,none⟩) (by first | exact Nat.ne_of_lt (Nat.lt_of_lt_of_le (by have:=World.block_lt_of_cell? _ _ hw191_3;first | rwa [add_block] at this | exact this) GW196.out) | (rw [add_block];exact Nat.ne_of_lt (Nat.lt_of_lt_of_le (by have:=World.block_lt_of_cell? _ _ hw191_3;first | rwa [add_block] at this | exact this) GW196.out)) | (show (Addr.add _ _).block ≠ _;rw [add_block];exact Nat.ne_of_lt (Nat.lt_of_lt_of_le (by have:=World.block_lt_of_cell? _ _ hw191_3;first | rwa [add_block] at this | exact this) GW196.out)) | (dsimp only;exact Nat.ne_of_lt (Nat.lt_of_lt_of_le (by have:=World.block_lt_of_cell? _ _ hw191_3;first | rwa [add_block] at this | exact this) GW196.out))) _).trans (hHeld.2.2.2.2))⟩ (fun hHeld => ?_)
       clear hK K
       refine zp0 11 9 12 4095 HT_ ?_
       refine done_ (done_of HT_.out (by kernel_rfl)) ?_
       obtain ⟨_,_⟩:=zn0 NB196_182
       obtain ⟨_,_⟩:=zn0 NB196_183
       obtain ⟨_,_⟩:=zn0 NB196_190
       obtain ⟨_,_⟩:=zd01 BK196
       obtain ⟨_,_⟩:=zn0 NB190_182
       obtain ⟨_,_⟩:=zn0 NB190_183
       obtain ⟨_,_⟩:=zd01 BK190
       try go_wp2
       go_roundg k1
       case measure => have:=HK1.out;omega
       case rel => exact ⟨(wrap64 (x7_1 + 1)),(t192),(.slice Ao25 t192.length co25),zE0,H',⟨by have:=HK1.out;omega⟩,⟨by refine zV0 ?_;exact Kd.R_mono (Kd.R_far (p:=⟨gb190,0,none⟩) (Kd.R_far (p:=⟨gb196,0,none⟩) (Kd.R_types (Kd.R_types HO194.out BK196.out (by decide)) BK190.out (by decide)) (fun _ hk => hk.1.2) (.slice Ao25 t192.length co25)) (fun _ hk => hk.2) (.slice Ao25 t192.length co25)) (fun _ hk => trivial)⟩,⟨zK0 BK182.out⟩,⟨zK0 BK183.out⟩,⟨by refine zT0 ?_;refine blk_put (cs:=#[.slice Ao20 x191000_1.length co20]) ?_ 0 _ rfl;exact zK0 BK190.out⟩,⟨zY0 HB.out⟩⟩
      ·replace c19:=Bool.eq_false_iff.mpr c19
       subst c19
       rw [if_neg (show ¬ (false = true) by decide)] at H
       simp only [Option.some.injEq,Prod.mk.injEq] at H
       obtain ⟨rfl,rfl⟩:=H
       obtain ⟨Ao34,co34,eo34⟩:=Kd.R_slice HO_191000.out
       subst eo34
       try go_wp2
       replace HO_191000:=Aside0.mk (Kd.R_drew HO_191000.out)
       replace BK182:=Aside0.mk (blk_drew BK182.out)
       replace BK183:=Aside0.mk (blk_drew BK183.out)
       replace BK190:=Aside0.mk (blk_drew BK190.out)
       replace HB:=Aside0.mk (below_drew1 HB.out)
       have p191 : 0 ≤ (x7_1 : Int):=zD0
       have q191 : x7_1 < (l1.length : Int):=zD0
       obtain ⟨ad191,e191,hx191_0,hx191_1,hx191_2,hx191_3⟩:=at_T55 HR1.out x7_1 p191 q191
       have hw191_3:=hx191_3
       have hw191_2:=hx191_2
       have hw191_1:=hx191_1
       have hw191_0:=hx191_0
       cases e191
       replace hx191_0:=zx0 HB hx191_0
       replace hx191_1:=zx0 HB hx191_1
       replace hx191_2:=zx0 HB hx191_2
       replace hx191_3:=zx0 HB hx191_3
       replace p191:=eq_true p191
       replace q191:=eq_true q191
       refine start_ (n:=12) (S:=fun w' => w'.cell? ⟨gb190,0,none⟩ = some (.slice Ao34 x191000_1.length co34) ∧ w'.cell? (ad191.add ((x7_1).toNat * 4)) = some (.int .i64 ((rd_T55 l1 x7_1).f0)) ∧ w'.cell? ⟨(ad191.add ((x7_1).toNat * 4)).block,(ad191.add ((x7_1).toNat * 4)).off + 1,none⟩ = some (.string ((rd_T55 l1 x7_1).f1)) ∧ w'.cell? ⟨(ad191.add ((x7_1).toNat * 4)).block,(ad191.add ((x7_1).toNat * 4)).off + 2,none⟩ = some (.string ((rd_T55 l1 x7_1).f2)) ∧ w'.cell? ⟨(ad191.add ((x7_1).toNat * 4)).block,(ad191.add ((x7_1).toNat * 4)).off + 3,none⟩ = some (.string ((rd_T55 l1 x7_1).f3))) (ds:=[]) (zF0 12 0) (by kernel_rfl) rfl rfl ⟨zc00 BK190,(zx0 HB hw191_0 :),(zx0 HB hw191_1 :),(zx0 HB hw191_2 :),(zx0 HB hw191_3 :)⟩ (fun hHeld => ?_);refine with_tabW spec_DoActs.tab5 spec_DoActs.bits5 (fun HT_ HW_ => ?_)
       generalize wr.drew = w35 at HO_191000 BK182 BK183 BK190 HB hx191_0 hx191_1 hx191_2 hx191_3 hHeld ⊢
       refine zp0 1 23 12 2 HT_ ?_
       refine zp0 2 24 12 6 HT_ ?_
       refine zp0 3 25 12 14 HT_ ?_
       refine zt0 0 22 12 15 HT_ HW_ hHeld ?_
       refine zt0 4 26 12 31 HT_ HW_ hHeld ?_
       refine join_ (σ:=Value × Nat) 2 (zF0 12 1023) (fun s_ => [(27,.tuple #[.agg #[s_.1],.bool false]),(8,.pointer (some ⟨s_.2,0,none⟩)),(21,.tuple #[.agg #[s_.1],.bool false]),(28,.agg #[s_.1]),(29,.bool false)]) (fun s_ w' => (w'.cell? ⟨gb190,0,none⟩ = some (.slice Ao34 x191000_1.length co34) ∧ w'.cell? (ad191.add ((x7_1).toNat * 4)) = some (.int .i64 ((rd_T55 l1 x7_1).f0)) ∧ w'.cell? ⟨(ad191.add ((x7_1).toNat * 4)).block,(ad191.add ((x7_1).toNat * 4)).off + 1,none⟩ = some (.string ((rd_T55 l1 x7_1).f1)) ∧ w'.cell? ⟨(ad191.add ((x7_1).toNat * 4)).block,(ad191.add ((x7_1).toNat * 4)).off + 2,none⟩ = some (.string ((rd_T55 l1 x7_1).f2)) ∧ w'.cell? ⟨(ad191.add ((x7_1).toNat * 4)).block,(ad191.add ((x7_1).toNat * 4)).off + 3,none⟩ = some (.string ((rd_T55 l1 x7_1).f3))) ∧ (Kd.R k45 45 w' w.heap.size (fun k_ => some k_ ≠ (.slice Ao34 x191000_1.length co34 : Value).ownBlock) s_.1 t192) ∧ (Kd.R k45 45 w' w.heap.size (fun k_ => some k_ ≠ (s_.1 : Value).ownBlock) (.slice Ao34 x191000_1.length co34) x191000_1) ∧ (w'.heap[gb182]? = some (.cells #[.slice A0_0 l0_0.length c0_0] 30 (0,0))) ∧ (w'.heap[gb183]? = some (.cells #[.slice none 0 0] 30 (0,0))) ∧ (w'.heap[gb190]? = some (.cells #[.slice Ao34 x191000_1.length co34] 30 (0,0))) ∧ (w'.heap[s_.2]? = some (.cells #[.slice none 0 0] 30 (0,0))) ∧ (w.heap.size ≤ s_.2) ∧ (w.heap.size ≤ s_.2) ∧ (gb182 ≠ s_.2) ∧ (s_.2 ≠ gb182) ∧ (gb183 ≠ s_.2) ∧ (s_.2 ≠ gb183) ∧ (gb190 ≠ s_.2) ∧ (s_.2 ≠ gb190) ∧ (Below w.heap.size w w')) ?_ ?_
       rotate_left
       ·intro hCont
        refine two_ (i:=5) (j:=9) (Ni:=some 27) (Nj:=some 8) (zF0 12 63) (zF0 12 543) rfl rfl rfl rfl (two_of HT_.out (by kernel_rfl)) (by decide) (by decide) (fun K hK => ?_) (fun K hK => ?_)
        ·skip
         refine goes_ Try.func36 (by kernel_rfl) rfl #[.agg #[.slice Ao34 x191000_1.length co34],.agg #[.int .i64 ((rd_T55 l1 x7_1).f0),.string ((rd_T55 l1 x7_1).f1),.string ((rd_T55 l1 x7_1).f2),.string ((rd_T55 l1 x7_1).f3)]] (by rfl) rfl rfl zM0 ?_
         with_reducible refine (spec_DoAct.calls k1 _ _ x191000_1 ((rd_T55 l1 x7_1).f0) ((rd_T55 l1 x7_1).f1) ((rd_T55 l1 x7_1).f2) ((rd_T55 l1 x7_1).f3) t192 false _ ?side1 ?side2 A18.out).mono ?_
         (case side1 => exact zA0 ((Kd.R_reads' HO_191000.out).2.2))
         (case side2 => exact (Kd.R_reads' HO_191000.out).2.1)
         rintro e w36 ⟨v193,rfl,ho0,hb⟩
         refine ⟨_,rfl,?_⟩
         have HO194:=Aside0.mk (Kd.R_lower (Kd.R_new' ho0 (Kd.R_lt (zR0 HO_191000.out))) (zZ0 HB.out))
         replace HO_191000:=Aside0.mk (Kd.R_elder' (zR0 HO_191000.out) (Kd.R_base ho0) hb)
         replace BK182:=zb0 BK182 hb
         replace BK183:=zb0 BK183 hb
         replace BK190:=zb0 BK190 hb
         replace HB:=zs0 HB hb
         (try clear hb)
         (try clear hb2)
         (try clear hk)
         (try clear hi)
         (try clear ho0)
         refine hK.out _ _ ⟨zc00 BK190,(zx0 HB hw191_0 :),(zx0 HB hw191_1 :),(zx0 HB hw191_2 :),(zx0 HB hw191_3 :)⟩ (fun hHeld => ?_)
         clear hK K
         refine norm_ (a':=?_) ?_ ?_;rotate_left
         ·show Act.put _ (some 27) _ = _;simp only [Act.put,qA0,qB0,qC0,i64_w,i32_w];rfl
         refine zp0 6 21 12 127 HT_ ?_
         refine zp0 7 28 12 255 HT_ ?_
         refine zp0 8 29 12 511 HT_ ?_
         refine one_ (i:=9) (N:=some 8) (zF0 12 1023) rfl rfl (one_of HT_.out (by kernel_rfl)) (by decide) (fun K hK => ?_)
         refine box_step ?hg (N:=8) ?hd (cs:=#[.slice none 0 0]) (t:=30) ?hr ?_;(case hd => rfl);(case hg => rfl);(case hr => first | (go_simp;done) | (go_simp;rfl))
         intro gb196 hg w37 hbox hb
         replace HO_191000:=Aside0.mk (Kd.R_below (zR0 HO_191000.out) hb)
         replace HO194:=Aside0.mk (Kd.R_below (zR0 HO194.out) hb)
         have BK196:=Aside0.mk hbox
         have GW196:=zz0 hg HB
         have GE196:=zz0 hg HB
         replace HB:=zs0 HB hb
         have NB182_196:=zl0 hg BK182
         have NB196_182:=zg0 hg BK182
         replace BK182:=zb0 BK182 hb
         have NB183_196:=zl0 hg BK183
         have NB196_183:=zg0 hg BK183
         replace BK183:=zb0 BK183 hb
         have NB190_196:=zl0 hg BK190
         have NB196_190:=zg0 hg BK190
         replace BK190:=zb0 BK190 hb
         clear hb hbox hg
         refine hK.out _ _ ⟨zc00 BK190,(zx0 HB hw191_0 :),(zx0 HB hw191_1 :),(zx0 HB hw191_2 :),(zx0 HB hw191_3 :)⟩ (fun hHeld => ?_)
         clear hK K
         refine norm_ (a':=?_) ?_ ?_;rotate_left
         ·show Act.put _ (some 8) _ = _;simp only [Act.put,qA0,qB0,qC0,i64_w,i32_w];rfl
         exact norm_ (by simp only [putAll,Act.put,qA0,qB0,qC0]) (hCont (v193,gb196) _ ⟨hHeld,(by refine zV0 ?_;exact Kd.R_mono HO194.out (fun _ hk => hk.2)),(by refine zV0 ?_;exact Kd.R_mono HO_191000.out (fun _ hk => hk.2)),(zK0 BK182.out),(zK0 BK183.out),(zK0 BK190.out),(zK0 BK196.out),GW196.out,GE196.out,NB182_196.out,NB196_182.out,NB183_196.out,NB196_183.out,NB190_196.out,NB196_190.out,(zY0 HB.out)⟩)
        ·skip
         refine box_step ?hg (N:=8) ?hd (cs:=#[.slice none 0 0]) (t:=30) ?hr ?_;(case hd => rfl);(case hg => rfl);(case hr => first | (go_simp;done) | (go_simp;rfl))
         intro gb196 hg w36 hbox hb
         replace HO_191000:=Aside0.mk (Kd.R_below (zR0 HO_191000.out) hb)
         have BK196:=Aside0.mk hbox
         have GW196:=zz0 hg HB
         have GE196:=zz0 hg HB
         replace HB:=zs0 HB hb
         have NB182_196:=zl0 hg BK182
         have NB196_182:=zg0 hg BK182
         replace BK182:=zb0 BK182 hb
         have NB183_196:=zl0 hg BK183
         have NB196_183:=zg0 hg BK183
         replace BK183:=zb0 BK183 hb
         have NB190_196:=zl0 hg BK190
         have NB196_190:=zg0 hg BK190
         replace BK190:=zb0 BK190 hb
         clear hb hbox hg
         refine hK.out _ _ ⟨zc00 BK190,(zx0 HB hw191_0 :),(zx0 HB hw191_1 :),(zx0 HB hw191_2 :),(zx0 HB hw191_3 :)⟩ (fun hHeld => ?_)
         clear hK K
         refine norm_ (a':=?_) ?_ ?_;rotate_left
         ·show Act.put _ (some 8) _ = _;simp only [Act.put,qA0,qB0,qC0,i64_w,i32_w];rfl
         refine one_ (i:=5) (N:=some 27) (zF0 12 575) rfl rfl (one_of HT_.out (by kernel_rfl)) (by decide) (fun K hK => ?_)
         refine goes_ Try.func36 (by kernel_rfl) rfl #[.agg #[.slice Ao34 x191000_1.length co34],.agg #[.int .i64 ((rd_T55 l1 x7_1).f0),.string ((rd_T55 l1 x7_1).f1),.string ((rd_T55 l1 x7_1).f2),.string ((rd_T55 l1 x7_1).f3)]] (by rfl) rfl rfl zM0 ?_
         with_reducible refine (spec_DoAct.calls k1 _ _ x191000_1 ((rd_T55 l1 x7_1).f0) ((rd_T55 l1 x7_1).f1) ((rd_T55 l1 x7_1).f2) ((rd_T55 l1 x7_1).f3) t192 false _ ?side1 ?side2 A18.out).mono ?_
         (case side1 => exact zA0 ((Kd.R_reads' HO_191000.out).2.2))
         (case side2 => exact (Kd.R_reads' HO_191000.out).2.1)
         rintro e w37 ⟨v193,rfl,ho0,hb⟩
         refine ⟨_,rfl,?_⟩
         have HO194:=Aside0.mk (Kd.R_lower (Kd.R_new' ho0 (Kd.R_lt (zR0 HO_191000.out))) (zZ0 HB.out))
         replace HO_191000:=Aside0.mk (Kd.R_elder' (zR0 HO_191000.out) (Kd.R_base ho0) hb)
         replace BK182:=zb0 BK182 hb
         replace BK183:=zb0 BK183 hb
         replace BK190:=zb0 BK190 hb
         replace BK196:=zb0 BK196 hb
         replace HB:=zs0 HB hb
         (try clear hb)
         (try clear hb2)
         (try clear hk)
         (try clear hi)
         (try clear ho0)
         refine hK.out _ _ ⟨zc00 BK190,(zx0 HB hw191_0 :),(zx0 HB hw191_1 :),(zx0 HB hw191_2 :),(zx0 HB hw191_3 :)⟩ (fun hHeld => ?_)
         clear hK K
         refine norm_ (a':=?_) ?_ ?_;rotate_left
         ·show Act.put _ (some 27) _ = _;simp only [Act.put,qA0,qB0,qC0,i64_w,i32_w];rfl
         refine zp0 6 21 12 639 HT_ ?_
         refine zp0 7 28 12 767 HT_ ?_
         refine zp0 8 29 12 1023 HT_ ?_
         exact norm_ (by simp only [putAll,Act.put,qA0,qB0,qC0]) (hCont (v193,gb196) _ ⟨hHeld,(by refine zV0 ?_;exact Kd.R_mono HO194.out (fun _ hk => hk.2)),(by refine zV0 ?_;exact Kd.R_mono HO_191000.out (fun _ hk => hk.2)),(zK0 BK182.out),(zK0 BK183.out),(zK0 BK190.out),(zK0 BK196.out),GW196.out,GE196.out,NB182_196.out,NB196_182.out,NB183_196.out,NB196_183.out,NB190_196.out,NB196_190.out,(zY0 HB.out)⟩)
       rintro ⟨v193,gb196⟩ w38 ⟨hS_,h0_,h1_,h2_,h3_,h4_,h5_,h6_,h7_,h8_,h9_,h10_,h11_,h12_,h13_,h14_⟩
       have n0_ : Aside0 (Kd.R k45 45 w38 w.heap.size (fun k_ => some k_ ≠ (.slice Ao34 x191000_1.length co34 : Value).ownBlock) v193 t192):=⟨h0_⟩
       have n1_ : Aside0 (Kd.R k45 45 w38 w.heap.size (fun k_ => some k_ ≠ (v193 : Value).ownBlock) (.slice Ao34 x191000_1.length co34) x191000_1):=⟨h1_⟩
       have n2_ : Aside0 (w38.heap[gb182]? = some (.cells #[.slice A0_0 l0_0.length c0_0] 30 (0,0))):=⟨h2_⟩
       have n3_ : Aside0 (w38.heap[gb183]? = some (.cells #[.slice none 0 0] 30 (0,0))):=⟨h3_⟩
       have n4_ : Aside0 (w38.heap[gb190]? = some (.cells #[.slice Ao34 x191000_1.length co34] 30 (0,0))):=⟨h4_⟩
       have n5_ : Aside0 (w38.heap[gb196]? = some (.cells #[.slice none 0 0] 30 (0,0))):=⟨h5_⟩
       have n6_ : Aside0 (w.heap.size ≤ gb196):=⟨h6_⟩
       have n7_ : Aside0 (w.heap.size ≤ gb196):=⟨h7_⟩
       have n8_ : Aside0 (gb182 ≠ gb196):=⟨h8_⟩
       have n9_ : Aside0 (gb196 ≠ gb182):=⟨h9_⟩
       have n10_ : Aside0 (gb183 ≠ gb196):=⟨h10_⟩
       have n11_ : Aside0 (gb196 ≠ gb183):=⟨h11_⟩
       have n12_ : Aside0 (gb190 ≠ gb196):=⟨h12_⟩
       have n13_ : Aside0 (gb196 ≠ gb190):=⟨h13_⟩
       have n14_ : Aside0 (Below w.heap.size w w38):=⟨h14_⟩
       clear HO_191000 BK182 BK183 BK190 HB
       clear h0_ h1_ h2_ h3_ h4_ h5_ h6_ h7_ h8_ h9_ h10_ h11_ h12_ h13_ h14_
       have HO194:=n0_
       have HO_191000:=n1_
       have BK182:=n2_
       have BK183:=n3_
       have BK190:=n4_
       have BK196:=n5_
       have GW196:=n6_
       have GE196:=n7_
       have NB182_196:=n8_
       have NB196_182:=n9_
       have NB183_196:=n10_
       have NB196_183:=n11_
       have NB190_196:=n12_
       have NB196_190:=n13_
       have HB:=n14_
       clear n0_ n1_ n2_ n3_ n4_ n5_ n6_ n7_ n8_ n9_ n10_ n11_ n12_ n13_ n14_
       have hHeld : w38.cell? ⟨gb190,0,none⟩ = some (.slice Ao34 x191000_1.length co34) ∧ w38.cell? (ad191.add ((x7_1).toNat * 4)) = some (.int .i64 ((rd_T55 l1 x7_1).f0)) ∧ w38.cell? ⟨(ad191.add ((x7_1).toNat * 4)).block,(ad191.add ((x7_1).toNat * 4)).off + 1,none⟩ = some (.string ((rd_T55 l1 x7_1).f1)) ∧ w38.cell? ⟨(ad191.add ((x7_1).toNat * 4)).block,(ad191.add ((x7_1).toNat * 4)).off + 2,none⟩ = some (.string ((rd_T55 l1 x7_1).f2)) ∧ w38.cell? ⟨(ad191.add ((x7_1).toNat * 4)).block,(ad191.add ((x7_1).toNat * 4)).off + 3,none⟩ = some (.string ((rd_T55 l1 x7_1).f3)):=hS_
       obtain ⟨Ao39,co39,eo39⟩:=Kd.R_slice HO194.out
       (first | subst eo39 | (injection eo39 with f1_ f2_ f3_;have f4_:=f1_.symm;have f5_:=f3_.symm;clear f1_ f2_ f3_;subst f4_;subst f5_))
       refine norm_ (a':=?_) ?_ ?_;rotate_left
       ·simp only [putAll,Act.put,qA0,qB0,qC0]
        rfl
       refine one_ (i:=10) (N:=none) (zF0 12 2047) rfl rfl (one_of HT_.out (by kernel_rfl)) (by decide) (fun K hK => ?_)
       have hs40 : w38.cell? ⟨gb196,0,none⟩ = some (.slice none 0 0):=zc00 BK196
       have hfs40:=blk_frozen BK196.out 0
       have hns40_0:=NB182_196.out
       have hns40_1:=NB183_196.out
       have hns40_2:=NB190_196.out
       have hms40_0:=NB196_182.out
       have hms40_1:=NB196_183.out
       have hms40_2:=NB196_190.out
       refine skip_ (w1:=?_) (by rfl) rfl ?_ ?_;rotate_left
       ·go_simp
        rfl
       refine hK.out _ _ ⟨((cell_far (p:=⟨gb196,_,none⟩) NB190_196.out _).trans (hHeld.1)),((cell_far (p:=⟨gb196,_,none⟩) (by first | exact Nat.ne_of_lt (Nat.lt_of_lt_of_le (by have:=World.block_lt_of_cell? _ _ hw191_0;first | rwa [add_block] at this | exact this) GW196.out) | (rw [add_block];exact Nat.ne_of_lt (Nat.lt_of_lt_of_le (by have:=World.block_lt_of_cell? _ _ hw191_0;first | rwa [add_block] at this | exact this) GW196.out)) | (show (Addr.add _ _).block ≠ _;rw [add_block];exact Nat.ne_of_lt (Nat.lt_of_lt_of_le (by have:=World.block_lt_of_cell? _ _ hw191_0;first | rwa [add_block] at this | exact this) GW196.out)) | (dsimp only;exact Nat.ne_of_lt (Nat.lt_of_lt_of_le (by have:=World.block_lt_of_cell? _ _ hw191_0;first | rwa [add_block] at this | exact this) GW196.out))) _).trans (hHeld.2.1)),((cell_far (p:=⟨gb196,_,none⟩) (by first | exact Nat.ne_of_lt (Nat.lt_of_lt_of_le (by have:=World.block_lt_of_cell? _ _ hw191_1;first | rwa [add_block] at this | exact this) GW196.out) | (rw [add_block];exact Nat.ne_of_lt (Nat.lt_of_lt_of_le (by have:=World.block_lt_of_cell? _ _ hw191_1;first | rwa [add_block] at this | exact this) GW196.out)) | (show (Addr.add _ _).block ≠ _;rw [add_block];exact Nat.ne_of_lt (Nat.lt_of_lt_of_le (by have:=World.block_lt_of_cell? _ _ hw191_1;first | rwa [add_block] at this | exact this) GW196.out)) | (dsimp only;exact Nat.ne_of_lt (Nat.lt_of_lt_of_le (by have:=World.block_lt_of_cell? _ _ hw191_1;first | rwa [add_block] at this | exact this) GW196.out))) _).trans (hHeld.2.2.1)),((cell_far (p:=⟨gb196,_,none⟩) (by first | exact Nat.ne_of_lt (Nat.lt_of_lt_of_le (by have:=World.block_lt_of_cell? _ _ hw191_2;first | rwa [add_block] at this | exact this) GW196.out) | (rw [add_block];exact Nat.ne_of_lt (Nat.lt_of_lt_of_le (by have:=World.block_lt_of_cell? _ _ hw191_2;first | rwa [add_block] at this | exact this) GW196.out)) | (show (Addr.add _ _).block ≠ _;rw [add_block];exact Nat.ne_of_lt (Nat.lt_of_lt_of_le (by have:=World.block_lt_of_cell? _ _ hw191_2;first | rwa [add_block] at this | exact this) GW196.out)) | (dsimp only;exact Nat.ne_of_lt (Nat.lt_of_lt_of_le (by have:=World.block_lt_of_cell? _ _ hw191_2;first | rwa [add_block] at this | exact this) GW196.out))) _).trans (hHeld.2.2.2.1)),((cell_far (p:=⟨gb196,_,none⟩) (by first | exact Nat.ne_of_lt (Nat.lt_of_lt_of_le (by have:=World.block_lt_of_cell? _ _ hw191_3;first | rwa [add_block] at this | exact this) GW196.out) | (rw [add_block];exact Nat.ne_of_lt (Nat.lt_of_lt_of_le (by have:=World.block_lt_of_cell? _ _ hw191_3;first | rwa [add_block] at this | exact this) GW196.out)) | (show (Addr.add _ _).block ≠ _;rw [add_block];exact Nat.ne_of_lt (Nat.lt_of_lt_of_le (by have:=World.block_lt_of_cell? _ _ hw191_3;first | rwa [add_block] at this | exact this) GW196.out)) | (dsimp only;exact Nat.ne_of_lt (Nat.lt_of_lt_of_le (by have:=World.block_lt_of_cell? _ _ hw191_3;first | rwa [add_block] at this | exact this) GW196.out))) _).trans (hHeld.2.2.2.2))⟩ (fun hHeld => ?_)
       clear hK K
       refine zp0 11 9 12 4095 HT_ ?_
       refine done_ (done_of HT_.out (by kernel_rfl)) ?_
       obtain ⟨_,_⟩:=zn0 NB190_182
       obtain ⟨_,_⟩:=zn0 NB190_183
       obtain ⟨_,_⟩:=zn0 NB190_196
       obtain ⟨_,_⟩:=zd01 BK190
       obtain ⟨_,_⟩:=zn0 NB183_182
       obtain ⟨_,_⟩:=zn0 NB183_196
       obtain ⟨_,_⟩:=zd01 BK183
       try go_wp2
       refine bodyPost_ret (results_ct rfl _ _ gb183 30 #[.slice Ao34 x191000_1.length co34] (0,0) _ rfl (by refine zT0 ?_;refine blk_put (cs:=#[.slice none 0 0]) ?_ 0 _ rfl;exact zK0 BK183.out) Try.underlying30 rfl (by kernel_rfl)) rfl ?_
       exact ⟨_,zW0,by refine zV0 ?_;exact Kd.R_mono (Kd.R_far (p:=⟨gb183,0,none⟩) (Kd.R_far (p:=⟨gb196,0,none⟩) (Kd.R_types (Kd.R_types HO_191000.out BK196.out (by decide)) BK183.out (by decide)) (fun _ hk => hk.1.2) (.slice Ao39 t192.length co39)) (fun _ hk => hk.2) (.slice Ao34 x191000_1.length co34)) (fun _ hk => trivial),(zY0 HB.out)⟩
     ·rw [if_neg c17] at H
      exact absurd H (by simp)
    ·rw [if_neg c16] at H
     have c16b0 : decide (x7_1 < (l1.length : Int)) = false:=decide_eq_false c16
     clear c16
     simp only [Option.some.injEq,Prod.mk.injEq] at H
     obtain ⟨rfl,rfl⟩:=H
     obtain ⟨_,_⟩:=zn0 NB190_182
     obtain ⟨_,_⟩:=zn0 NB190_183
     have hcz50_0 : wr.cell? ⟨gb190,0,none⟩ = some (u191000):=zc00 BK190
     have hfz50_0:=blk_frozen BK190.out 0
     obtain ⟨Ao51,co51,eo51⟩:=Kd.R_slice HO_191000.out
     subst eo51
     obtain ⟨_,_⟩:=zn0 NB183_182
     have hcz53_0 : wr.cell? ⟨gb183,0,none⟩ = some (.slice none 0 0):=zc00 BK183
     have hfz53_0:=blk_frozen BK183.out 0
     go_wp2
     refine bodyPost_ret (results_ct rfl _ _ gb183 30 #[.slice Ao51 x191000_1.length co51] (0,0) _ rfl (by refine zT0 ?_;refine blk_put (cs:=#[.slice none 0 0]) ?_ 0 _ rfl;exact zK0 BK183.out) Try.underlying30 rfl (by kernel_rfl)) rfl ?_
     exact ⟨_,zW0,by refine zV0 ?_;exact Kd.R_mono (Kd.R_far (p:=⟨gb183,0,none⟩) (Kd.R_types HO_191000.out BK183.out (by decide)) (fun _ hk => hk.2) (.slice Ao51 x191000_1.length co51)) (fun _ hk => trivial),(zY0 HB.out)⟩
 ·rw [if_neg c3] at H
  exact absurd H (by simp)

end Go.Proofs.Ytgfacdhkamphiaa.PFnActs
