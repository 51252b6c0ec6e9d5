/- Walks of functions that the law FnExactCutActs reaches, turned by this session from a print of which a part did not build; what was changed is listed in wip/patches of the proofs' repo. -/
import Derived.Test.YtgfacdhkamphiaaOFnExactCutActsx0
import Derived.Test.YtgfacdhkamphiaaOFnExactCutActsx7
import Derived.Test.YtgfacdhkamphiaaOFnExactCutActsx8
namespace Go.Proofs.Ytgfacdhkamphiaa.PFnExactCutActs
open Go.RowKit Go.Proofs.YtgfacdhkamphiaaW.PrintWords Go.Proofs.YtgfacdhkamphiaaW.PrintLast Go.Proofs.YtgfacdhkamphiaaW.PrintMore
attribute [local go_sem] max2_int min2_int max_two min_two max_three min_three max_four min_four   -- for this text's walks alone
set_option linter.unusedVariables false
set_option linter.unusedSimpArgs false

/-! ### impl_DoActs: function 42 -/
def impl_DoActs.l0 : Nat → List (S55) → List (S55) → Int → Int → List (S45) → Option ((List (S45)) × Int)
 | 0,_,_,_,_,_ => none
 | k + 1,x1,x13,x14,x15,x215000 => if x15 < x14 then (if 0 ≤ x15 then (if x15 < (x13.length : Int) then ((impl_DoAct.f k x215000 ((rd_T55 x13 x15).f0) ((rd_T55 x13 x15).f1) ((rd_T55 x13 x15).f2) ((rd_T55 x13 x15).f3)).bind fun bt217 => (if bt217.2 = true then (impl_DoActs.l0 k x1 x13 x14 (wrap64 (x15 + 1)) bt217.1) else (some (x215000,x15)))) else (none)) else (none)) else (some (x215000,(x1.length : Int)))
def impl_DoActs.f (k : Nat) (l0_0 : List (S45)) (l1 : List (S55)) : Option ((List (S45)) × Int):=(impl_copyDisk.f l0_0).bind fun t211 => (impl_DoActs.l0 k l1 l1 (l1.length : Int) 0 t211)
theorem impl_DoActs.mono_l : ∀ k,(∀ y0 y1 y2 y3 y4,LeO (impl_DoActs.l0 k y0 y1 y2 y3 y4) (impl_DoActs.l0 (k + 1) y0 y1 y2 y3 y4))
 | 0 => fun _ _ _ _ _ r h => by simp [impl_DoActs.l0] at h
 | k + 1 => by
  have ih0:=impl_DoActs.mono_l k
  ·intro y0 y1 y2 y3 y4
   unfold impl_DoActs.l0
   repeat' first
   | (with_reducible exact ih0 _ _ _ _ _)
   | (with_reducible exact impl_DoAct.mono _ _ _ _ _ _)
   | (with_reducible exact LeO.refl _)
   | (with_reducible exact LeO.none _)
   | (with_reducible refine LeO.ite ?_ ?_)
   | (with_reducible refine LeO.bind ?_ (fun _ => ?_))
   | exact ih0 _ _ _ _ _
   | exact impl_DoAct.mono _ _ _ _ _ _
   | exact LeO.none _
   | refine LeO.ite ?_ ?_
   | refine LeO.bind ?_ (fun _ => ?_)
theorem impl_DoActs.mono : ∀ a0 a1 k,LeO (impl_DoActs.f k a0 a1) (impl_DoActs.f (k + 1) a0 a1):=by
 intro a0 a1 k
 have ih0:=impl_DoActs.mono_l k
 unfold impl_DoActs.f
 repeat' first
   | (with_reducible exact ih0 _ _ _ _ _)
   | (with_reducible exact impl_DoAct.mono _ _ _ _ _ _)
   | (with_reducible exact LeO.refl _)
   | (with_reducible exact LeO.none _)
   | (with_reducible refine LeO.ite ?_ ?_)
   | (with_reducible refine LeO.bind ?_ (fun _ => ?_))
   | exact ih0 _ _ _ _ _
   | exact impl_DoAct.mono _ _ _ _ _ _
   | exact LeO.none _
   | refine LeO.ite ?_ ?_
   | refine LeO.bind ?_ (fun _ => ?_)
set_option maxHeartbeats 8000000 in
set_option maxRecDepth 100000 in
theorem impl_DoActs.calls (k : Nat) (A0_0 : Option Addr) (c0_0 : Nat) (l0_0 : List (S45)) (A1 : Option Addr) (c1 : Nat) (l1 : List (S55)) (r1 : List (S45)) (r2 : Int) (w : World) (hr0_0 : Kd.C k45 w A0_0 l0_0.length l0_0) (hc0_0 : l0_0.length ≤ c0_0) (hr1 : Kd.C k55 w A1 l1.length l1) (hc1 : l1.length ≤ c1) (h : impl_DoActs.f k l0_0 l1 = some (r1,r2)) :
  Calls Try.prog 42 #[.agg #[.slice A0_0 l0_0.length c0_0],.slice A1 l1.length c1] w fun e w' => ∃ v0_ : Value,e = .returned (.tuple #[.agg #[v0_],.int .i64 r2]) ∧ Kd.R k45 45 w' w.heap.size (fun _ => True) v0_ r1 ∧ Below w.heap.size w w':=by
 have hu30:=Try.underlying30
 have hu55:=Try.underlying55
 have HR0_0:=Aside0.mk hr0_0
 have HC0_0:=Aside0.mk hc0_0
 clear hr0_0 hc0_0
 have HR1:=Aside0.mk hr1
 have HC1:=Aside0.mk hc1
 clear hr1 hc1
 have HB:=Aside0.mk (Below.refl w.heap.size w)
 have H : ((impl_copyDisk.f l0_0).bind fun t211 => (impl_DoActs.l0 k l1 l1 (l1.length : Int) 0 t211)) = some (r1,r2):=h
 clear h
 replace H:=Option.bind_eq_some_iff.mp H
 obtain ⟨t211,A30,H⟩:=H
 replace H : (impl_DoActs.l0 k l1 l1 (l1.length : Int) 0 t211) = some (r1,r2):=H
 have A3:=Aside0.mk A30
 clear A30
 have H':=Aside0.mk H
 clear H
 go_enter Try.func42,Try.ntmps42
 go_wp2_with (first | ((with_reducible refine gate_dst (N:=2) rfl ?_);refine box_event ?hg (N:=2) ?hd (cs:=#[.slice A0_0 l0_0.length c0_0]) (t:=30) ?hr ?_;(case hd => rfl);(case hg => rfl);(case hr => first | (go_simp;done) | (go_simp;rfl));intro gb209 hg w4 hbox hb;have BK209:=Aside0.mk hbox;have GW209:=zz0 hg HB;have GE209:=zz0 hg HB;replace HB:=zs0 HB hb;clear hb hbox hg) | ((with_reducible refine gate_dst (N:=4) rfl ?_);refine box_event ?hg (N:=4) ?hd (cs:=#[.slice none 0 0]) (t:=30) ?hr ?_;(case hd => rfl);(case hg => rfl);(case hr => first | (go_simp;done) | (go_simp;rfl));intro gb210 hg w5 hbox hb;have BK210:=Aside0.mk hbox;have GW210:=zz0 hg HB;have GE210:=zz0 hg HB;replace HB:=zs0 HB hb;have NB209_210:=zl0 hg BK209;have NB210_209:=zg0 hg BK209;replace BK209:=zb0 BK209 hb;clear hb hbox hg;obtain ⟨_,_⟩:=zn0 NB209_210;have hcz7_0:=zc00 BK209;have hfz7_0:=blk_frozen BK209.out 0) | ((with_reducible refine gate_callee (f:=77) rfl ?_);refine goesL_ (some 12) rfl rfl Try.func77 (by kernel_rfl) rfl #[.agg #[.slice A0_0 l0_0.length c0_0]] rfl zM0 ?_;(with_reducible refine (impl_copyDisk.calls _ _ l0_0 t211 _ ?side1 ?side2 A3.out).mono ?_);(case side1 => exact zA0 (Kd.C_below HR0_0.out HB.out));(case side2 => exact HC0_0.out);rintro e w8 ⟨v212,rfl,ho0,hb⟩;refine ⟨_,rfl,?_⟩;have HO213:=Aside0.mk (Kd.R_lower ho0 (zZ0 HB.out));replace BK209:=zb0 BK209 hb;replace BK210:=zb0 BK210 hb;replace HB:=zs0 HB hb;(try clear hb);(try clear ho0)) | ((with_reducible refine gate_dst (N:=6) rfl ?_);refine box_event ?hg (N:=6) ?hd (cs:=#[.slice none 0 0]) (t:=30) ?hr ?_;(case hd => rfl);(case hg => rfl);(case hr => first | (go_simp;done) | (go_simp;rfl));intro gb214 hg w9 hbox hb;replace HO213:=Aside0.mk (Kd.R_below (zR0 HO213.out) hb);have BK214:=Aside0.mk hbox;have GW214:=zz0 hg HB;have GE214:=zz0 hg HB;replace HB:=zs0 HB hb;have NB209_214:=zl0 hg BK209;have NB214_209:=zg0 hg BK209;replace BK209:=zb0 BK209 hb;have NB210_214:=zl0 hg BK210;have NB214_210:=zg0 hg BK210;replace BK210:=zb0 BK210 hb;clear hb hbox hg;obtain ⟨Ao10,co10,eo10⟩:=Kd.R_slice HO213.out;subst eo10;obtain ⟨_,_⟩:=zn0 NB214_209;obtain ⟨_,_⟩:=zn0 NB214_210;have hcz13_0:=zc00 BK214;have hfz13_0:=blk_frozen BK214.out 0))
 go_loopg [15] k (fun kq v15 w' => ∃ (x15_1 : Int) (x215000_1 : List (S45)) (u215000 : Value),v15 = .int .i64 x15_1 ∧ Aside0 (impl_DoActs.l0 kq l1 l1 (l1.length : Int) x15_1 x215000_1 = some (r1,r2)) ∧ Aside0 (kq ≤ k) ∧ Aside0 (Kd.R k45 45 w' w.heap.size (fun _ => True) u215000 x215000_1) ∧ Aside0 (w'.heap[gb209]? = some (.cells #[(.slice A0_0 l0_0.length c0_0)] 30 (0,0))) ∧ Aside0 (w'.heap[gb210]? = some (.cells #[(.slice none 0 0)] 30 (0,0))) ∧ Aside0 (w'.heap[gb214]? = some (.cells #[u215000] 30 (0,0))) ∧ Aside0 (Below w.heap.size w w'))
 case atStart => exact ⟨(0),(t211),(.slice Ao10 t211.length co10),zE0,H',⟨Nat.le_refl _⟩,⟨by refine zV0 ?_;exact Kd.R_mono (Kd.R_far (p:=⟨gb214,0,none⟩) (Kd.R_types HO213.out BK214.out (by decide)) (fun _ hk => hk.2) (.slice Ao10 t211.length co10)) (fun _ hk => trivial)⟩,⟨zK0 BK209.out⟩,⟨zK0 BK210.out⟩,⟨by refine zT0 ?_;refine blk_put (cs:=#[.slice none 0 0]) ?_ 0 _ rfl;exact zK0 BK214.out⟩,⟨zY0 HB.out⟩⟩
 case round =>
  clear H'
  try clear hcz13_0
  try clear hcz7_0
  try clear hfz13_0
  try clear hfz7_0
  obtain ⟨x15_1,x215000_1,u215000,rfl,HA,HK1,HO_215000,BK209,BK210,BK214,HB⟩:=hrel
  cases gk with
  | zero => exact absurd HA.out (by simp [impl_DoActs.l0])
  | succ k1 =>
   have H:=HA.out
   clear HA
   simp only [impl_DoActs.l0] at H
   by_cases c14 : x15_1 < (l1.length : Int)
   ·rw [if_pos c14] at H
    have c14b0 : decide (x15_1 < (l1.length : Int)) = true:=decide_eq_true c14
    clear c14
    by_cases c15 : 0 ≤ x15_1
    ·rw [if_pos c15] at H
     have c15b0 : decide (0 ≤ x15_1) = true:=decide_eq_true c15
     clear c15
     by_cases c16 : x15_1 < (l1.length : Int)
     ·rw [if_pos c16] at H
      have c16b0 : decide (x15_1 < (l1.length : Int)) = true:=decide_eq_true c16
      clear c16
      replace H:=Option.bind_eq_some_iff.mp H
      obtain ⟨⟨t217,t220⟩,A170,H⟩:=H
      replace H : (if t220 = true then (impl_DoActs.l0 k1 l1 l1 (l1.length : Int) (wrap64 (x15_1 + 1)) t217) else (some (x215000_1,x15_1))) = some (r1,r2):=H
      have A17:=Aside0.mk A170
      clear A170
      by_cases c18 : t220 = true
      ·subst c18
       have H1 : (impl_DoActs.l0 k1 l1 l1 (l1.length : Int) (wrap64 (x15_1 + 1)) t217) = some (r1,r2):=by rw [if_pos rfl] at H;exact H
       clear H
       have H:=H1
       clear H1
       have H':=Aside0.mk H
       clear H
       have p215 : 0 ≤ (x15_1 : Int):=zD0
       have q215 : x15_1 < (l1.length : Int):=zD0
       obtain ⟨ad215,e215,hx215_0,hx215_1,hx215_2,hx215_3⟩:=at_T55 HR1.out x15_1 p215 q215
       cases e215
       replace hx215_0:=zx0 HB hx215_0
       replace hx215_1:=zx0 HB hx215_1
       replace hx215_2:=zx0 HB hx215_2
       replace hx215_3:=zx0 HB hx215_3
       replace p215:=eq_true p215
       replace q215:=eq_true q215
       go_wp2_with (first | ((with_reducible refine gate_dst (N:=8) rfl ?_);refine box_event ?hg (N:=8) ?hd (cs:=#[.int .i64 0,.string (⟨#[]⟩ : ByteArray),.string (⟨#[]⟩ : ByteArray),.string (⟨#[]⟩ : ByteArray)]) (t:=55) ?hr ?_;(case hd => rfl);(case hg => rfl);(case hr => first | (go_simp;done) | (go_simp;rfl));intro gb216 hg w19 hbox hb;replace HO_215000:=Aside0.mk (Kd.R_below (zR0 HO_215000.out) hb);have BK216:=Aside0.mk hbox;have GW216:=zz0 hg HB;have GE216:=zz0 hg HB;replace HB:=zs0 HB hb;have NB209_216:=zl0 hg BK209;have NB216_209:=zg0 hg BK209;replace BK209:=zb0 BK209 hb;have NB210_216:=zl0 hg BK210;have NB216_210:=zg0 hg BK210;replace BK210:=zb0 BK210 hb;have NB214_216:=zl0 hg BK214;have NB216_214:=zg0 hg BK214;replace BK214:=zb0 BK214 hb;clear hb hbox hg;obtain ⟨_,_⟩:=zn0 NB216_209;obtain ⟨_,_⟩:=zn0 NB216_210;obtain ⟨_,_⟩:=zn0 NB216_214;have hcz23_0:=zc00 BK216;have hcz23_1:=zc01 BK216;have hcz23_2:=zc02 BK216;have hcz23_3:=zc03 BK216;have hfz23_0:=blk_frozen BK216.out 0;have hfz23_1:=blk_frozen BK216.out 1;have hfz23_2:=blk_frozen BK216.out 2;have hfz23_3:=blk_frozen BK216.out 3;obtain ⟨_,_⟩:=zn0 NB214_209;obtain ⟨_,_⟩:=zn0 NB214_210;have hcz26_0:=zc00 BK214;have hfz26_0:=blk_frozen BK214.out 0;obtain ⟨Ao27,co27,eo27⟩:=Kd.R_slice HO_215000.out;subst eo27) | ((with_reducible refine gate_callee (f:=38) rfl ?_);refine goesL_ (some 23) rfl rfl Try.func38 (by kernel_rfl) rfl #[.agg #[.slice Ao27 x215000_1.length co27],.agg #[.int .i64 ((rd_T55 l1 x15_1).f0),.string ((rd_T55 l1 x15_1).f1),.string ((rd_T55 l1 x15_1).f2),.string ((rd_T55 l1 x15_1).f3)]] rfl zM0 ?_;(with_reducible refine (impl_DoAct.calls k1 _ _ x215000_1 ((rd_T55 l1 x15_1).f0) ((rd_T55 l1 x15_1).f1) ((rd_T55 l1 x15_1).f2) ((rd_T55 l1 x15_1).f3) t217 true _ ?side1 ?side2 A17.out).mono ?_);(case side1 => refine (Kd.R_reads' (e:=45) (base:=w.heap.size) (ok:=fun k_ => True) (n:=x215000_1.length) (c:=co27) ?_).2.2;exact (by refine zV0 ?_;exact (Kd.R_mono (Kd.R_far (p:=⟨gb216,3,none⟩) (Kd.R_far (p:=⟨gb216,2,none⟩) (Kd.R_far (p:=⟨gb216,1,none⟩) (Kd.R_far (p:=⟨gb216,0,none⟩) (Kd.R_types HO_215000.out BK216.out (by decide)) (fun _ hk => hk.2) (.int .i64 ((rd_T55 l1 x15_1).f0))) (fun _ hk => hk.2) (.string ((rd_T55 l1 x15_1).f1))) (fun _ hk => hk.2) (.string ((rd_T55 l1 x15_1).f2))) (fun _ hk => hk.2) (.string ((rd_T55 l1 x15_1).f3))) (fun _ h_ => h_.1))));(case side2 => exact (Kd.R_reads' HO_215000.out).2.1);rintro e w28 ⟨v218,rfl,ho0,hb⟩;refine ⟨_,rfl,?_⟩;have HO219:=Aside0.mk (Kd.R_lower (Kd.R_new' ho0 (Kd.R_lt (by refine zV0 ?_;exact (Kd.R_mono (Kd.R_far (p:=⟨gb216,3,none⟩) (Kd.R_far (p:=⟨gb216,2,none⟩) (Kd.R_far (p:=⟨gb216,1,none⟩) (Kd.R_far (p:=⟨gb216,0,none⟩) (Kd.R_types HO_215000.out BK216.out (by decide)) (fun _ hk => hk.2) (.int .i64 ((rd_T55 l1 x15_1).f0))) (fun _ hk => hk.2) (.string ((rd_T55 l1 x15_1).f1))) (fun _ hk => hk.2) (.string ((rd_T55 l1 x15_1).f2))) (fun _ hk => hk.2) (.string ((rd_T55 l1 x15_1).f3))) (fun _ h_ => h_.1))))) (zZ0 HB.out));replace HO_215000:=Aside0.mk (Kd.R_elder' (by refine zV0 ?_;exact (Kd.R_mono (Kd.R_far (p:=⟨gb216,3,none⟩) (Kd.R_far (p:=⟨gb216,2,none⟩) (Kd.R_far (p:=⟨gb216,1,none⟩) (Kd.R_far (p:=⟨gb216,0,none⟩) (Kd.R_types HO_215000.out BK216.out (by decide)) (fun _ hk => hk.2) (.int .i64 ((rd_T55 l1 x15_1).f0))) (fun _ hk => hk.2) (.string ((rd_T55 l1 x15_1).f1))) (fun _ hk => hk.2) (.string ((rd_T55 l1 x15_1).f2))) (fun _ hk => hk.2) (.string ((rd_T55 l1 x15_1).f3))) (fun _ h_ => h_.1))) (Kd.R_base ho0) hb);replace BK209:=zb0 BK209 hb;replace BK210:=zb0 BK210 hb;replace BK214:=zb0 BK214 hb;replace BK216:=Aside0.mk (blk_below (g:=gb216) (o:=.cells #[.int .i64 ((rd_T55 l1 x15_1).f0),.string ((rd_T55 l1 x15_1).f1),.string ((rd_T55 l1 x15_1).f2),.string ((rd_T55 l1 x15_1).f3)] 55 (0,0)) (by refine zT0 ?_;refine blk_put (cs:=#[.int .i64 ((rd_T55 l1 x15_1).f0),.string ((rd_T55 l1 x15_1).f1),.string ((rd_T55 l1 x15_1).f2),.string (⟨#[]⟩ : ByteArray)]) ?_ 3 _ rfl;refine zT0 ?_;refine blk_put (cs:=#[.int .i64 ((rd_T55 l1 x15_1).f0),.string ((rd_T55 l1 x15_1).f1),.string (⟨#[]⟩ : ByteArray),.string (⟨#[]⟩ : ByteArray)]) ?_ 2 _ rfl;refine zT0 ?_;refine blk_put (cs:=#[.int .i64 ((rd_T55 l1 x15_1).f0),.string (⟨#[]⟩ : ByteArray),.string (⟨#[]⟩ : ByteArray),.string (⟨#[]⟩ : ByteArray)]) ?_ 1 _ rfl;refine zT0 ?_;refine blk_put (cs:=#[.int .i64 0,.string (⟨#[]⟩ : ByteArray),.string (⟨#[]⟩ : ByteArray),.string (⟨#[]⟩ : ByteArray)]) ?_ 0 _ rfl;exact zK0 BK216.out) hb);replace HB:=zs0 HB hb;(try clear hb);(try clear hk);(try clear ho0)) | ((with_reducible refine gate_dst (N:=9) rfl ?_);refine box_event ?hg (N:=9) ?hd (cs:=#[.slice none 0 0]) (t:=30) ?hr ?_;(case hd => rfl);(case hg => rfl);(case hr => first | (go_simp;done) | (go_simp;rfl));intro gb221 hg w29 hbox hb;replace HO_215000:=Aside0.mk (Kd.R_below (zR0 HO_215000.out) hb);replace HO219:=Aside0.mk (Kd.R_below (zR0 HO219.out) hb);have BK221:=Aside0.mk hbox;have GW221:=zz0 hg HB;have GE221:=zz0 hg HB;replace HB:=zs0 HB hb;have NB209_221:=zl0 hg BK209;have NB221_209:=zg0 hg BK209;replace BK209:=zb0 BK209 hb;have NB210_221:=zl0 hg BK210;have NB221_210:=zg0 hg BK210;replace BK210:=zb0 BK210 hb;have NB214_221:=zl0 hg BK214;have NB221_214:=zg0 hg BK214;replace BK214:=zb0 BK214 hb;have NB216_221:=zl0 hg BK216;have NB221_216:=zg0 hg BK216;replace BK216:=zb0 BK216 hb;clear hb hbox hg;obtain ⟨Ao30,co30,eo30⟩:=Kd.R_slice HO219.out;subst eo30;obtain ⟨_,_⟩:=zn0 NB221_209;obtain ⟨_,_⟩:=zn0 NB221_210;obtain ⟨_,_⟩:=zn0 NB221_214;obtain ⟨_,_⟩:=zn0 NB221_216;have hcz35_0:=zc00 BK221;have hfz35_0:=blk_frozen BK221.out 0;have hcz36_0:=zc00 BK214;have hfz36_0:=blk_frozen BK214.out 0))
       go_roundg k1
       case measure => have:=HK1.out;omega
       case rel => exact ⟨(wrap64 (x15_1 + 1)),(t217),(.slice Ao30 t217.length co30),zE0,H',⟨by have:=HK1.out;omega⟩,⟨by refine zV0 ?_;exact Kd.R_mono (Kd.R_far (p:=⟨gb214,0,none⟩) (Kd.R_far (p:=⟨gb221,0,none⟩) (Kd.R_types (Kd.R_types HO219.out BK221.out (by decide)) BK214.out (by decide)) (fun _ hk => hk.1.2) (.slice Ao30 t217.length co30)) (fun _ hk => hk.2) (.slice Ao30 t217.length co30)) (fun _ hk => trivial)⟩,⟨zK0 BK209.out⟩,⟨zK0 BK210.out⟩,⟨by refine zT0 ?_;refine blk_put (cs:=#[.slice Ao27 x215000_1.length co27]) ?_ 0 _ rfl;exact zK0 BK214.out⟩,⟨zY0 HB.out⟩⟩
      ·replace c18:=Bool.eq_false_iff.mpr c18
       subst c18
       have H1 : (some (x215000_1,x15_1)) = some (r1,r2):=by rw [if_neg (show ¬ (false = true) by decide)] at H;exact H
       clear H
       have H:=H1
       clear H1
       simp only [Option.some.injEq,Prod.mk.injEq] at H
       obtain ⟨rfl,rfl⟩:=H
       have p215 : 0 ≤ (x15_1 : Int):=zD0
       have q215 : x15_1 < (l1.length : Int):=zD0
       obtain ⟨ad215,e215,hx215_0,hx215_1,hx215_2,hx215_3⟩:=at_T55 HR1.out x15_1 p215 q215
       cases e215
       replace hx215_0:=zx0 HB hx215_0
       replace hx215_1:=zx0 HB hx215_1
       replace hx215_2:=zx0 HB hx215_2
       replace hx215_3:=zx0 HB hx215_3
       replace p215:=eq_true p215
       replace q215:=eq_true q215
       go_wp2_with (first | ((with_reducible refine gate_dst (N:=8) rfl ?_);refine box_event ?hg (N:=8) ?hd (cs:=#[.int .i64 0,.string (⟨#[]⟩ : ByteArray),.string (⟨#[]⟩ : ByteArray),.string (⟨#[]⟩ : ByteArray)]) (t:=55) ?hr ?_;(case hd => rfl);(case hg => rfl);(case hr => first | (go_simp;done) | (go_simp;rfl));intro gb216 hg w37 hbox hb;replace HO_215000:=Aside0.mk (Kd.R_below (zR0 HO_215000.out) hb);have BK216:=Aside0.mk hbox;have GW216:=zz0 hg HB;have GE216:=zz0 hg HB;replace HB:=zs0 HB hb;have NB209_216:=zl0 hg BK209;have NB216_209:=zg0 hg BK209;replace BK209:=zb0 BK209 hb;have NB210_216:=zl0 hg BK210;have NB216_210:=zg0 hg BK210;replace BK210:=zb0 BK210 hb;have NB214_216:=zl0 hg BK214;have NB216_214:=zg0 hg BK214;replace BK214:=zb0 BK214 hb;clear hb hbox hg;obtain ⟨_,_⟩:=zn0 NB216_209;obtain ⟨_,_⟩:=zn0 NB216_210;obtain ⟨_,_⟩:=zn0 NB216_214;have hcz41_0:=zc00 BK216;have hcz41_1:=zc01 BK216;have hcz41_2:=zc02 BK216;have hcz41_3:=zc03 BK216;have hfz41_0:=blk_frozen BK216.out 0;have hfz41_1:=blk_frozen BK216.out 1;have hfz41_2:=blk_frozen BK216.out 2;have hfz41_3:=blk_frozen BK216.out 3;obtain ⟨_,_⟩:=zn0 NB214_209;obtain ⟨_,_⟩:=zn0 NB214_210;have hcz44_0:=zc00 BK214;have hfz44_0:=blk_frozen BK214.out 0;obtain ⟨Ao45,co45,eo45⟩:=Kd.R_slice HO_215000.out;subst eo45) | ((with_reducible refine gate_callee (f:=38) rfl ?_);refine goesL_ (some 23) rfl rfl Try.func38 (by kernel_rfl) rfl #[.agg #[.slice Ao45 x215000_1.length co45],.agg #[.int .i64 ((rd_T55 l1 x15_1).f0),.string ((rd_T55 l1 x15_1).f1),.string ((rd_T55 l1 x15_1).f2),.string ((rd_T55 l1 x15_1).f3)]] rfl zM0 ?_;(with_reducible refine (impl_DoAct.calls k1 _ _ x215000_1 ((rd_T55 l1 x15_1).f0) ((rd_T55 l1 x15_1).f1) ((rd_T55 l1 x15_1).f2) ((rd_T55 l1 x15_1).f3) t217 false _ ?side1 ?side2 A17.out).mono ?_);(case side1 => refine (Kd.R_reads' (e:=45) (base:=w.heap.size) (ok:=fun k_ => True) (n:=x215000_1.length) (c:=co45) ?_).2.2;exact (by refine zV0 ?_;exact (Kd.R_mono (Kd.R_far (p:=⟨gb216,3,none⟩) (Kd.R_far (p:=⟨gb216,2,none⟩) (Kd.R_far (p:=⟨gb216,1,none⟩) (Kd.R_far (p:=⟨gb216,0,none⟩) (Kd.R_types HO_215000.out BK216.out (by decide)) (fun _ hk => hk.2) (.int .i64 ((rd_T55 l1 x15_1).f0))) (fun _ hk => hk.2) (.string ((rd_T55 l1 x15_1).f1))) (fun _ hk => hk.2) (.string ((rd_T55 l1 x15_1).f2))) (fun _ hk => hk.2) (.string ((rd_T55 l1 x15_1).f3))) (fun _ h_ => h_.1))));(case side2 => exact (Kd.R_reads' HO_215000.out).2.1);rintro e w46 ⟨v218,rfl,ho0,hb⟩;refine ⟨_,rfl,?_⟩;have HO219:=Aside0.mk (Kd.R_lower (Kd.R_new' ho0 (Kd.R_lt (by refine zV0 ?_;exact (Kd.R_mono (Kd.R_far (p:=⟨gb216,3,none⟩) (Kd.R_far (p:=⟨gb216,2,none⟩) (Kd.R_far (p:=⟨gb216,1,none⟩) (Kd.R_far (p:=⟨gb216,0,none⟩) (Kd.R_types HO_215000.out BK216.out (by decide)) (fun _ hk => hk.2) (.int .i64 ((rd_T55 l1 x15_1).f0))) (fun _ hk => hk.2) (.string ((rd_T55 l1 x15_1).f1))) (fun _ hk => hk.2) (.string ((rd_T55 l1 x15_1).f2))) (fun _ hk => hk.2) (.string ((rd_T55 l1 x15_1).f3))) (fun _ h_ => h_.1))))) (zZ0 HB.out));replace HO_215000:=Aside0.mk (Kd.R_elder' (by refine zV0 ?_;exact (Kd.R_mono (Kd.R_far (p:=⟨gb216,3,none⟩) (Kd.R_far (p:=⟨gb216,2,none⟩) (Kd.R_far (p:=⟨gb216,1,none⟩) (Kd.R_far (p:=⟨gb216,0,none⟩) (Kd.R_types HO_215000.out BK216.out (by decide)) (fun _ hk => hk.2) (.int .i64 ((rd_T55 l1 x15_1).f0))) (fun _ hk => hk.2) (.string ((rd_T55 l1 x15_1).f1))) (fun _ hk => hk.2) (.string ((rd_T55 l1 x15_1).f2))) (fun _ hk => hk.2) (.string ((rd_T55 l1 x15_1).f3))) (fun _ h_ => h_.1))) (Kd.R_base ho0) hb);replace BK209:=zb0 BK209 hb;replace BK210:=zb0 BK210 hb;replace BK214:=zb0 BK214 hb;replace BK216:=Aside0.mk (blk_below (g:=gb216) (o:=.cells #[.int .i64 ((rd_T55 l1 x15_1).f0),.string ((rd_T55 l1 x15_1).f1),.string ((rd_T55 l1 x15_1).f2),.string ((rd_T55 l1 x15_1).f3)] 55 (0,0)) (by refine zT0 ?_;refine blk_put (cs:=#[.int .i64 ((rd_T55 l1 x15_1).f0),.string ((rd_T55 l1 x15_1).f1),.string ((rd_T55 l1 x15_1).f2),.string (⟨#[]⟩ : ByteArray)]) ?_ 3 _ rfl;refine zT0 ?_;refine blk_put (cs:=#[.int .i64 ((rd_T55 l1 x15_1).f0),.string ((rd_T55 l1 x15_1).f1),.string (⟨#[]⟩ : ByteArray),.string (⟨#[]⟩ : ByteArray)]) ?_ 2 _ rfl;refine zT0 ?_;refine blk_put (cs:=#[.int .i64 ((rd_T55 l1 x15_1).f0),.string (⟨#[]⟩ : ByteArray),.string (⟨#[]⟩ : ByteArray),.string (⟨#[]⟩ : ByteArray)]) ?_ 1 _ rfl;refine zT0 ?_;refine blk_put (cs:=#[.int .i64 0,.string (⟨#[]⟩ : ByteArray),.string (⟨#[]⟩ : ByteArray),.string (⟨#[]⟩ : ByteArray)]) ?_ 0 _ rfl;exact zK0 BK216.out) hb);replace HB:=zs0 HB hb;(try clear hb);(try clear hk);(try clear ho0)) | ((with_reducible refine gate_dst (N:=9) rfl ?_);refine box_event ?hg (N:=9) ?hd (cs:=#[.slice none 0 0]) (t:=30) ?hr ?_;(case hd => rfl);(case hg => rfl);(case hr => first | (go_simp;done) | (go_simp;rfl));intro gb221 hg w47 hbox hb;replace HO_215000:=Aside0.mk (Kd.R_below (zR0 HO_215000.out) hb);replace HO219:=Aside0.mk (Kd.R_below (zR0 HO219.out) hb);have BK221:=Aside0.mk hbox;have GW221:=zz0 hg HB;have GE221:=zz0 hg HB;replace HB:=zs0 HB hb;have NB209_221:=zl0 hg BK209;have NB221_209:=zg0 hg BK209;replace BK209:=zb0 BK209 hb;have NB210_221:=zl0 hg BK210;have NB221_210:=zg0 hg BK210;replace BK210:=zb0 BK210 hb;have NB214_221:=zl0 hg BK214;have NB221_214:=zg0 hg BK214;replace BK214:=zb0 BK214 hb;have NB216_221:=zl0 hg BK216;have NB221_216:=zg0 hg BK216;replace BK216:=zb0 BK216 hb;clear hb hbox hg;obtain ⟨Ao48,co48,eo48⟩:=Kd.R_slice HO219.out;subst eo48;obtain ⟨_,_⟩:=zn0 NB221_209;obtain ⟨_,_⟩:=zn0 NB221_210;obtain ⟨_,_⟩:=zn0 NB221_214;obtain ⟨_,_⟩:=zn0 NB221_216;have hcz53_0:=zc00 BK221;have hfz53_0:=blk_frozen BK221.out 0;have hcz54_0:=zc00 BK214;have hfz54_0:=blk_frozen BK214.out 0;obtain ⟨_,_⟩:=zn0 NB210_209;have hcz56_0:=zc00 BK210;have hfz56_0:=blk_frozen BK210.out 0))
       refine bodyPost_ret (results_ct rfl _ _ gb210 30 #[.slice Ao45 x215000_1.length co45] (0,0) _ rfl (by refine zT0 ?_;refine blk_put (cs:=#[.slice none 0 0]) ?_ 0 _ rfl;exact zK0 BK210.out) Try.underlying30 rfl (by kernel_rfl)) rfl ?_
       exact ⟨_,zW0,by refine zV0 ?_;exact Kd.R_mono (Kd.R_far (p:=⟨gb210,0,none⟩) (Kd.R_far (p:=⟨gb221,0,none⟩) (Kd.R_types (Kd.R_types HO_215000.out BK221.out (by decide)) BK210.out (by decide)) (fun _ hk => hk.1.2) (.slice Ao48 t217.length co48)) (fun _ hk => hk.2) (.slice Ao45 x215000_1.length co45)) (fun _ hk => trivial),(zY0 HB.out)⟩
     ·rw [if_neg c16] at H
      exact absurd H (by simp)
    ·rw [if_neg c15] at H
     exact absurd H (by simp)
   ·rw [if_neg c14] at H
    have c14b0 : decide (x15_1 < (l1.length : Int)) = false:=decide_eq_false c14
    clear c14
    simp only [Option.some.injEq,Prod.mk.injEq] at H
    obtain ⟨rfl,rfl⟩:=H
    obtain ⟨_,_⟩:=zn0 NB214_209
    obtain ⟨_,_⟩:=zn0 NB214_210
    have hcz59_0 : wr.cell? ⟨gb214,0,none⟩ = some (u215000):=(blk_cell BK214.out 0).trans rfl
    have hfz59_0:=blk_frozen BK214.out 0
    obtain ⟨Ao60,co60,eo60⟩:=Kd.R_slice HO_215000.out
    subst eo60
    obtain ⟨_,_⟩:=zn0 NB210_209
    have hcz62_0 : wr.cell? ⟨gb210,0,none⟩ = some (.slice none 0 0):=(blk_cell BK210.out 0).trans rfl
    have hfz62_0:=blk_frozen BK210.out 0
    go_wp2
    refine bodyPost_ret (results_ct rfl _ _ gb210 30 #[.slice Ao60 x215000_1.length co60] (0,0) _ rfl (by refine zT0 ?_;refine blk_put (cs:=#[.slice none 0 0]) ?_ 0 _ rfl;exact zK0 BK210.out) Try.underlying30 rfl (by kernel_rfl)) rfl ?_
    exact ⟨_,zW0,by refine zV0 ?_;exact Kd.R_mono (Kd.R_far (p:=⟨gb210,0,none⟩) (Kd.R_types HO_215000.out BK210.out (by decide)) (fun _ hk => hk.2) (.slice Ao60 x215000_1.length co60)) (fun _ hk => trivial),(zY0 HB.out)⟩

end Go.Proofs.Ytgfacdhkamphiaa.PFnExactCutActs
