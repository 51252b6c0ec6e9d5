/- Walks, turned from a print. -/
import Derived.Test.YtgfacdhkamphiaaOFnActsx0
import Derived.Test.YtgfacdhkamphiaaOFnActsx4
import Derived.Test.YtgfacdhkamphiaaOFnActsx5
namespace Go.Proofs.Ytgfacdhkamphiaa.PFnActs
open Go.RowKit Go.Proofs.YtgfacdhkamphiaaW.PrintWords Go.Proofs.YtgfacdhkamphiaaW.PrintLast Go.Proofs.YtgfacdhkamphiaaW.PrintMore
attribute [local go_sem] max2_int min2_int max_two min_two max_three min_three max_four min_four
set_option linter.unusedVariables false
set_option linter.unusedSimpArgs false

/-! ### impl_DoActs: function 42 -/
def impl_DoActs.l0 : Nat → List (S55) → List (S55) → Int → Int → List (S45) → Option ((List (S45)) × Int)
 | 0,_,_,_,_,_ => none
 | k + 1,x1,x13,x14,x15,x203000 => if x15 < x14 then (if 0 ≤ x15 then (if x15 < (x13.length : Int) then ((impl_DoAct.f k x203000 ((rd_T55 x13 x15).f0) ((rd_T55 x13 x15).f1) ((rd_T55 x13 x15).f2) ((rd_T55 x13 x15).f3)).bind fun bt205 => (if bt205.2 = true then (impl_DoActs.l0 k x1 x13 x14 (wrap64 (x15 + 1)) bt205.1) else (some (x203000,x15)))) else (none)) else (none)) else (some (x203000,(x1.length : Int)))
def impl_DoActs.f (k : Nat) (l0_0 : List (S45)) (l1 : List (S55)) : Option ((List (S45)) × Int):=(impl_copyDisk.f l0_0).bind fun t199 => (impl_DoActs.l0 k l1 l1 (l1.length : Int) 0 t199)
theorem impl_DoActs.mono_l : ∀ k,(∀ y0 y1 y2 y3 y4,LeO (impl_DoActs.l0 k y0 y1 y2 y3 y4) (impl_DoActs.l0 (k + 1) y0 y1 y2 y3 y4))
 | 0 => fun _ _ _ _ _ r h => by simp [impl_DoActs.l0] at h
 | k + 1 => by
  have ih0:=impl_DoActs.mono_l k
  ·intro y0 y1 y2 y3 y4
   unfold impl_DoActs.l0
   repeat' first
  | (with_reducible exact ih0 _ _ _ _ _)
  | (with_reducible exact impl_DoAct.mono _ _ _ _ _ _)
  | (with_reducible exact LeO.refl _)
  | (with_reducible exact LeO.none _)
  | (with_reducible refine LeO.ite ?_ ?_)
  | (with_reducible refine LeO.bind ?_ (fun _ => ?_))
theorem impl_DoActs.mono : ∀ a0 a1 k,LeO (impl_DoActs.f k a0 a1) (impl_DoActs.f (k + 1) a0 a1):=by
 intro a0 a1 k
 have ih0:=impl_DoActs.mono_l k
 unfold impl_DoActs.f
 repeat' first
  | (with_reducible exact ih0 _ _ _ _ _)
  | (with_reducible exact impl_DoAct.mono _ _ _ _ _ _)
  | (with_reducible exact LeO.refl _)
  | (with_reducible exact LeO.none _)
  | (with_reducible refine LeO.ite ?_ ?_)
  | (with_reducible refine LeO.bind ?_ (fun _ => ?_))
set_option maxHeartbeats 8000000 in
set_option maxRecDepth 100000 in
theorem impl_DoActs.calls (k : Nat) (A0_0 : Option Addr) (c0_0 : Nat) (l0_0 : List (S45)) (A1 : Option Addr) (c1 : Nat) (l1 : List (S55)) (r1 : List (S45)) (r2 : Int) (w : World) (hr0_0 : Kd.C k45 w A0_0 l0_0.length l0_0) (hc0_0 : l0_0.length ≤ c0_0) (hr1 : Kd.C k55 w A1 l1.length l1) (hc1 : l1.length ≤ c1) (h : impl_DoActs.f k l0_0 l1 = some (r1,r2)) :
  Calls Try.prog 42 #[.agg #[.slice A0_0 l0_0.length c0_0],.slice A1 l1.length c1] w fun e w' => ∃ v0_ : Value,e = .returned (.tuple #[.agg #[v0_],.int .i64 r2]) ∧ Kd.R k45 45 w' w.heap.size (fun _ => True) v0_ r1 ∧ Below w.heap.size w w':=by
 have hu30:=Try.underlying30
 have hu55:=Try.underlying55
 have HR0_0:=Aside0.mk hr0_0
 have HC0_0:=Aside0.mk hc0_0
 clear hr0_0 hc0_0
 have HR1:=Aside0.mk hr1
 have HC1:=Aside0.mk hc1
 clear hr1 hc1
 have HB:=Aside0.mk (Below.refl w.heap.size w)
 have H : ((impl_copyDisk.f l0_0).bind fun t199 => (impl_DoActs.l0 k l1 l1 (l1.length : Int) 0 t199)) = some (r1,r2):=h
 clear h
 obtain ⟨t199,A3,H⟩:=bX0 H
 have H':=Aside0.mk H
 clear H
 go_enter Try.func42,Try.ntmps42
 go_wp2_with (first | ((with_reducible refine gate_dst (N:=2) rfl ?_);refine zy0 (cs:=#[.slice A0_0 l0_0.length c0_0]) (t:=30) ?_;intro gb197 hg w4 hbox hb;have BK197:=Aside0.mk hbox;have GW197:=zz0 hg HB;have GE197:=zz0 hg HB;replace HB:=zs0 HB hb;clear hb hbox hg) | ((with_reducible refine gate_dst (N:=4) rfl ?_);refine zy0 (cs:=#[.slice none 0 0]) (t:=30) ?_;intro gb198 hg w5 hbox hb;have BK198:=Aside0.mk hbox;have GW198:=zz0 hg HB;have GE198:=zz0 hg HB;replace HB:=zs0 HB hb;have NB197_198:=zl0 hg BK197;have NB198_197:=zg0 hg BK197;replace BK197:=zb0 BK197 hb;clear hb hbox hg;obtain ⟨_,_⟩:=zn0 NB197_198;obtain ⟨hcz7_0,hfz7_0⟩:=zd01 BK197) | ((with_reducible refine gate_callee (f:=77) rfl ?_);refine goesL_ (some 12) rfl rfl Try.func77 (by kernel_rfl) rfl #[.agg #[.slice A0_0 l0_0.length c0_0]] rfl zM0 ?_;(with_reducible refine (impl_copyDisk.calls _ _ l0_0 t199 _ ?side1 ?side2 A3.out).mono ?_);(case side1 => exact zA0 ((Kd.C_below HR0_0.out HB.out)));(case side2 => exact HC0_0.out);rintro e w8 ⟨v200,rfl,ho0,hb⟩;refine ⟨_,rfl,?_⟩;have HO201:=Aside0.mk (Kd.R_lower ho0 (zZ0 HB.out));replace BK197:=zb0 BK197 hb;replace BK198:=zb0 BK198 hb;replace HB:=zs0 HB hb;(try clear hb);(try clear ho0)) | ((with_reducible refine gate_dst (N:=6) rfl ?_);refine zy0 (cs:=#[.slice none 0 0]) (t:=30) ?_;intro gb202 hg w9 hbox hb;replace HO201:=Aside0.mk (Kd.R_below (zR0 HO201.out) hb);have BK202:=Aside0.mk hbox;have GW202:=zz0 hg HB;have GE202:=zz0 hg HB;replace HB:=zs0 HB hb;have NB197_202:=zl0 hg BK197;have NB202_197:=zg0 hg BK197;replace BK197:=zb0 BK197 hb;have NB198_202:=zl0 hg BK198;have NB202_198:=zg0 hg BK198;replace BK198:=zb0 BK198 hb;clear hb hbox hg;obtain ⟨Ao10,co10,eo10⟩:=Kd.R_slice HO201.out;subst eo10;obtain ⟨_,_⟩:=zn0 NB202_197;obtain ⟨_,_⟩:=zn0 NB202_198;obtain ⟨hcz13_0,hfz13_0⟩:=zd01 BK202))
 go_loopg [15] k (fun kq v15 w' => ∃ (x15_1 : Int) (x203000_1 : List (S45)) (u203000 : Value),v15 = .int .i64 x15_1 ∧ Aside0 (impl_DoActs.l0 kq l1 l1 (l1.length : Int) x15_1 x203000_1 = some (r1,r2)) ∧ Aside0 (kq ≤ k) ∧ Aside0 (Kd.R k45 45 w' w.heap.size (fun _ => True) u203000 x203000_1) ∧ Aside0 (w'.heap[gb197]? = some (.cells #[(.slice A0_0 l0_0.length c0_0)] 30 (0,0))) ∧ Aside0 (w'.heap[gb198]? = some (.cells #[(.slice none 0 0)] 30 (0,0))) ∧ Aside0 (w'.heap[gb202]? = some (.cells #[u203000] 30 (0,0))) ∧ Aside0 (Below w.heap.size w w'))
 case atStart => exact ⟨(0),(t199),(.slice Ao10 t199.length co10),zE0,H',⟨Nat.le_refl _⟩,⟨by refine zV0 ?_;exact Kd.R_mono (Kd.R_far (p:=⟨gb202,0,none⟩) (Kd.R_types HO201.out BK202.out (by decide)) (fun _ hk => hk.2) (.slice Ao10 t199.length co10)) (fun _ hk => trivial)⟩,⟨zK0 BK197.out⟩,⟨zK0 BK198.out⟩,⟨by refine zT0 ?_;refine blk_put (cs:=#[.slice none 0 0]) ?_ 0 _ rfl;exact zK0 BK202.out⟩,⟨zY0 HB.out⟩⟩
 case round =>
  clear H'
  try clear hcz13_0
  try clear hcz7_0
  try clear hfz13_0
  try clear hfz7_0
  obtain ⟨x15_1,x203000_1,u203000,rfl,HA,HK1,HO_203000,BK197,BK198,BK202,HB⟩:=hrel
  cases gk with
  | zero => exact absurd HA.out (by simp [impl_DoActs.l0])
  | succ k1 =>
   have H:=HA.out
   clear HA
   simp only [impl_DoActs.l0] at H
   by_cases c14 : x15_1 < (l1.length : Int)
   ·rw [if_pos c14] at H
    have c14b0 : decide (x15_1 < (l1.length : Int)) = true:=decide_eq_true c14
    clear c14
    by_cases c15 : 0 ≤ x15_1
    ·rw [if_pos c15] at H
     have c15b0 : decide (0 ≤ x15_1) = true:=decide_eq_true c15
     clear c15
     by_cases c16 : x15_1 < (l1.length : Int)
     ·rw [if_pos c16] at H
      have c16b0 : decide (x15_1 < (l1.length : Int)) = true:=decide_eq_true c16
      clear c16
      obtain ⟨⟨t205,t208⟩,A17,H⟩:=bX0 H
      dsimp only at H
      by_cases c18 : t208 = true
      ·subst c18
       rw [if_pos rfl] at H
       have H':=Aside0.mk H
       clear H
       have p203 : 0 ≤ (x15_1 : Int):=zD0
       have q203 : x15_1 < (l1.length : Int):=zD0
       obtain ⟨ad203,e203,hx203_0,hx203_1,hx203_2,hx203_3⟩:=at_T55 HR1.out x15_1 p203 q203
       cases e203
       replace hx203_0:=zx0 HB hx203_0
       replace hx203_1:=zx0 HB hx203_1
       replace hx203_2:=zx0 HB hx203_2
       replace hx203_3:=zx0 HB hx203_3
       replace p203:=eq_true p203
       replace q203:=eq_true q203
       go_wp2_with (first | ((with_reducible refine gate_dst (N:=8) rfl ?_);refine zy0 (cs:=#[.int .i64 0,.string (⟨#[]⟩ : ByteArray),.string (⟨#[]⟩ : ByteArray),.string (⟨#[]⟩ : ByteArray)]) (t:=55) ?_;intro gb204 hg w19 hbox hb;replace HO_203000:=Aside0.mk (Kd.R_below (zR0 HO_203000.out) hb);have BK204:=Aside0.mk hbox;have GW204:=zz0 hg HB;have GE204:=zz0 hg HB;replace HB:=zs0 HB hb;have NB197_204:=zl0 hg BK197;have NB204_197:=zg0 hg BK197;replace BK197:=zb0 BK197 hb;have NB198_204:=zl0 hg BK198;have NB204_198:=zg0 hg BK198;replace BK198:=zb0 BK198 hb;have NB202_204:=zl0 hg BK202;have NB204_202:=zg0 hg BK202;replace BK202:=zb0 BK202 hb;clear hb hbox hg;obtain ⟨_,_⟩:=zn0 NB204_197;obtain ⟨_,_⟩:=zn0 NB204_198;obtain ⟨_,_⟩:=zn0 NB204_202;obtain ⟨_,_,_,_,_,_,_,_⟩:=zd04 BK204;obtain ⟨_,_⟩:=zn0 NB202_197;obtain ⟨_,_⟩:=zn0 NB202_198;obtain ⟨_,_⟩:=zd01 BK202;obtain ⟨Ao27,co27,eo27⟩:=Kd.R_slice HO_203000.out;subst eo27) | ((with_reducible refine gate_callee (f:=38) rfl ?_);refine goesL_ (some 23) rfl rfl Try.func38 (by kernel_rfl) rfl #[.agg #[.slice Ao27 x203000_1.length co27],.agg #[.int .i64 ((rd_T55 l1 x15_1).f0),.string ((rd_T55 l1 x15_1).f1),.string ((rd_T55 l1 x15_1).f2),.string ((rd_T55 l1 x15_1).f3)]] rfl zM0 ?_;(with_reducible refine (impl_DoAct.calls k1 _ _ x203000_1 ((rd_T55 l1 x15_1).f0) ((rd_T55 l1 x15_1).f1) ((rd_T55 l1 x15_1).f2) ((rd_T55 l1 x15_1).f3) t205 true _ ?side1 ?side2 A17.out).mono ?_);(case side1 => refine (Kd.R_reads' (e:=45) (base:=w.heap.size) (ok:=fun k_ => True) (n:=x203000_1.length) (c:=co27) ?_).2.2;exact (by refine zV0 ?_;exact (Kd.R_mono (Kd.R_far (p:=⟨gb204,3,none⟩) (Kd.R_far (p:=⟨gb204,2,none⟩) (Kd.R_far (p:=⟨gb204,1,none⟩) (Kd.R_far (p:=⟨gb204,0,none⟩) (Kd.R_types HO_203000.out BK204.out (by decide)) (fun _ hk => hk.2) (.int .i64 ((rd_T55 l1 x15_1).f0))) (fun _ hk => hk.2) (.string ((rd_T55 l1 x15_1).f1))) (fun _ hk => hk.2) (.string ((rd_T55 l1 x15_1).f2))) (fun _ hk => hk.2) (.string ((rd_T55 l1 x15_1).f3))) (fun _ h_ => h_.1))));(case side2 => exact (Kd.R_reads' HO_203000.out).2.1);rintro e w28 ⟨v206,rfl,ho0,hb⟩;refine ⟨_,rfl,?_⟩;have HO207:=Aside0.mk (Kd.R_lower (Kd.R_new' ho0 (Kd.R_lt (by refine zV0 ?_;exact (Kd.R_mono (Kd.R_far (p:=⟨gb204,3,none⟩) (Kd.R_far (p:=⟨gb204,2,none⟩) (Kd.R_far (p:=⟨gb204,1,none⟩) (Kd.R_far (p:=⟨gb204,0,none⟩) (Kd.R_types HO_203000.out BK204.out (by decide)) (fun _ hk => hk.2) (.int .i64 ((rd_T55 l1 x15_1).f0))) (fun _ hk => hk.2) (.string ((rd_T55 l1 x15_1).f1))) (fun _ hk => hk.2) (.string ((rd_T55 l1 x15_1).f2))) (fun _ hk => hk.2) (.string ((rd_T55 l1 x15_1).f3))) (fun _ h_ => h_.1))))) (zZ0 HB.out));replace HO_203000:=Aside0.mk (Kd.R_elder' (by refine zV0 ?_;exact (Kd.R_mono (Kd.R_far (p:=⟨gb204,3,none⟩) (Kd.R_far (p:=⟨gb204,2,none⟩) (Kd.R_far (p:=⟨gb204,1,none⟩) (Kd.R_far (p:=⟨gb204,0,none⟩) (Kd.R_types HO_203000.out BK204.out (by decide)) (fun _ hk => hk.2) (.int .i64 ((rd_T55 l1 x15_1).f0))) (fun _ hk => hk.2) (.string ((rd_T55 l1 x15_1).f1))) (fun _ hk => hk.2) (.string ((rd_T55 l1 x15_1).f2))) (fun _ hk => hk.2) (.string ((rd_T55 l1 x15_1).f3))) (fun _ h_ => h_.1))) (Kd.R_base ho0) hb);replace BK197:=zb0 BK197 hb;replace BK198:=zb0 BK198 hb;replace BK202:=zb0 BK202 hb;replace BK204:=Aside0.mk (blk_below (g:=gb204) (o:=.cells #[.int .i64 ((rd_T55 l1 x15_1).f0),.string ((rd_T55 l1 x15_1).f1),.string ((rd_T55 l1 x15_1).f2),.string ((rd_T55 l1 x15_1).f3)] 55 (0,0)) (by refine zT0 ?_;refine blk_put (cs:=#[.int .i64 ((rd_T55 l1 x15_1).f0),.string ((rd_T55 l1 x15_1).f1),.string ((rd_T55 l1 x15_1).f2),.string (⟨#[]⟩ : ByteArray)]) ?_ 3 _ rfl;refine zT0 ?_;refine blk_put (cs:=#[.int .i64 ((rd_T55 l1 x15_1).f0),.string ((rd_T55 l1 x15_1).f1),.string (⟨#[]⟩ : ByteArray),.string (⟨#[]⟩ : ByteArray)]) ?_ 2 _ rfl;refine zT0 ?_;refine blk_put (cs:=#[.int .i64 ((rd_T55 l1 x15_1).f0),.string (⟨#[]⟩ : ByteArray),.string (⟨#[]⟩ : ByteArray),.string (⟨#[]⟩ : ByteArray)]) ?_ 1 _ rfl;refine zT0 ?_;refine blk_put (cs:=#[.int .i64 0,.string (⟨#[]⟩ : ByteArray),.string (⟨#[]⟩ : ByteArray),.string (⟨#[]⟩ : ByteArray)]) ?_ 0 _ rfl;exact zK0 BK204.out) hb);replace HB:=zs0 HB hb;(try clear hb);(try clear hk);(try clear ho0)) | ((with_reducible refine gate_dst (N:=9) rfl ?_);refine zy0 (cs:=#[.slice none 0 0]) (t:=30) ?_;intro gb209 hg w29 hbox hb;replace HO_203000:=Aside0.mk (Kd.R_below (zR0 HO_203000.out) hb);replace HO207:=Aside0.mk (Kd.R_below (zR0 HO207.out) hb);have BK209:=Aside0.mk hbox;have GW209:=zz0 hg HB;have GE209:=zz0 hg HB;replace HB:=zs0 HB hb;have NB197_209:=zl0 hg BK197;have NB209_197:=zg0 hg BK197;replace BK197:=zb0 BK197 hb;have NB198_209:=zl0 hg BK198;have NB209_198:=zg0 hg BK198;replace BK198:=zb0 BK198 hb;have NB202_209:=zl0 hg BK202;have NB209_202:=zg0 hg BK202;replace BK202:=zb0 BK202 hb;have NB204_209:=zl0 hg BK204;have NB209_204:=zg0 hg BK204;replace BK204:=zb0 BK204 hb;clear hb hbox hg;obtain ⟨Ao30,co30,eo30⟩:=Kd.R_slice HO207.out;subst eo30;obtain ⟨_,_⟩:=zn0 NB209_197;obtain ⟨_,_⟩:=zn0 NB209_198;obtain ⟨_,_⟩:=zn0 NB209_202;obtain ⟨_,_⟩:=zn0 NB209_204;obtain ⟨_,_⟩:=zd01 BK209;obtain ⟨_,_⟩:=zd01 BK202))
       go_roundg k1
       case measure => have:=HK1.out;omega
       case rel => exact ⟨(wrap64 (x15_1 + 1)),(t205),(.slice Ao30 t205.length co30),zE0,H',⟨by have:=HK1.out;omega⟩,⟨by refine zV0 ?_;exact Kd.R_mono (Kd.R_far (p:=⟨gb202,0,none⟩) (Kd.R_far (p:=⟨gb209,0,none⟩) (Kd.R_types (Kd.R_types HO207.out BK209.out (by decide)) BK202.out (by decide)) (fun _ hk => hk.1.2) (.slice Ao30 t205.length co30)) (fun _ hk => hk.2) (.slice Ao30 t205.length co30)) (fun _ hk => trivial)⟩,⟨zK0 BK197.out⟩,⟨zK0 BK198.out⟩,⟨by refine zT0 ?_;refine blk_put (cs:=#[.slice Ao27 x203000_1.length co27]) ?_ 0 _ rfl;exact zK0 BK202.out⟩,⟨zY0 HB.out⟩⟩
      ·replace c18:=Bool.eq_false_iff.mpr c18
       subst c18
       rw [if_neg (show ¬ (false = true) by decide)] at H
       simp only [Option.some.injEq,Prod.mk.injEq] at H
       obtain ⟨rfl,rfl⟩:=H
       have p203 : 0 ≤ (x15_1 : Int):=zD0
       have q203 : x15_1 < (l1.length : Int):=zD0
       obtain ⟨ad203,e203,hx203_0,hx203_1,hx203_2,hx203_3⟩:=at_T55 HR1.out x15_1 p203 q203
       cases e203
       replace hx203_0:=zx0 HB hx203_0
       replace hx203_1:=zx0 HB hx203_1
       replace hx203_2:=zx0 HB hx203_2
       replace hx203_3:=zx0 HB hx203_3
       replace p203:=eq_true p203
       replace q203:=eq_true q203
       go_wp2_with (first | ((with_reducible refine gate_dst (N:=8) rfl ?_);refine zy0 (cs:=#[.int .i64 0,.string (⟨#[]⟩ : ByteArray),.string (⟨#[]⟩ : ByteArray),.string (⟨#[]⟩ : ByteArray)]) (t:=55) ?_;intro gb204 hg w37 hbox hb;replace HO_203000:=Aside0.mk (Kd.R_below (zR0 HO_203000.out) hb);have BK204:=Aside0.mk hbox;have GW204:=zz0 hg HB;have GE204:=zz0 hg HB;replace HB:=zs0 HB hb;have NB197_204:=zl0 hg BK197;have NB204_197:=zg0 hg BK197;replace BK197:=zb0 BK197 hb;have NB198_204:=zl0 hg BK198;have NB204_198:=zg0 hg BK198;replace BK198:=zb0 BK198 hb;have NB202_204:=zl0 hg BK202;have NB204_202:=zg0 hg BK202;replace BK202:=zb0 BK202 hb;clear hb hbox hg;obtain ⟨_,_⟩:=zn0 NB204_197;obtain ⟨_,_⟩:=zn0 NB204_198;obtain ⟨_,_⟩:=zn0 NB204_202;obtain ⟨_,_,_,_,_,_,_,_⟩:=zd04 BK204;obtain ⟨_,_⟩:=zn0 NB202_197;obtain ⟨_,_⟩:=zn0 NB202_198;obtain ⟨_,_⟩:=zd01 BK202;obtain ⟨Ao45,co45,eo45⟩:=Kd.R_slice HO_203000.out;subst eo45) | ((with_reducible refine gate_callee (f:=38) rfl ?_);refine goesL_ (some 23) rfl rfl Try.func38 (by kernel_rfl) rfl #[.agg #[.slice Ao45 x203000_1.length co45],.agg #[.int .i64 ((rd_T55 l1 x15_1).f0),.string ((rd_T55 l1 x15_1).f1),.string ((rd_T55 l1 x15_1).f2),.string ((rd_T55 l1 x15_1).f3)]] rfl zM0 ?_;(with_reducible refine (impl_DoAct.calls k1 _ _ x203000_1 ((rd_T55 l1 x15_1).f0) ((rd_T55 l1 x15_1).f1) ((rd_T55 l1 x15_1).f2) ((rd_T55 l1 x15_1).f3) t205 false _ ?side1 ?side2 A17.out).mono ?_);(case side1 => refine (Kd.R_reads' (e:=45) (base:=w.heap.size) (ok:=fun k_ => True) (n:=x203000_1.length) (c:=co45) ?_).2.2;exact (by refine zV0 ?_;exact (Kd.R_mono (Kd.R_far (p:=⟨gb204,3,none⟩) (Kd.R_far (p:=⟨gb204,2,none⟩) (Kd.R_far (p:=⟨gb204,1,none⟩) (Kd.R_far (p:=⟨gb204,0,none⟩) (Kd.R_types HO_203000.out BK204.out (by decide)) (fun _ hk => hk.2) (.int .i64 ((rd_T55 l1 x15_1).f0))) (fun _ hk => hk.2) (.string ((rd_T55 l1 x15_1).f1))) (fun _ hk => hk.2) (.string ((rd_T55 l1 x15_1).f2))) (fun _ hk => hk.2) (.string ((rd_T55 l1 x15_1).f3))) (fun _ h_ => h_.1))));(case side2 => exact (Kd.R_reads' HO_203000.out).2.1);rintro e w46 ⟨v206,rfl,ho0,hb⟩;refine ⟨_,rfl,?_⟩;have HO207:=Aside0.mk (Kd.R_lower (Kd.R_new' ho0 (Kd.R_lt (by refine zV0 ?_;exact (Kd.R_mono (Kd.R_far (p:=⟨gb204,3,none⟩) (Kd.R_far (p:=⟨gb204,2,none⟩) (Kd.R_far (p:=⟨gb204,1,none⟩) (Kd.R_far (p:=⟨gb204,0,none⟩) (Kd.R_types HO_203000.out BK204.out (by decide)) (fun _ hk => hk.2) (.int .i64 ((rd_T55 l1 x15_1).f0))) (fun _ hk => hk.2) (.string ((rd_T55 l1 x15_1).f1))) (fun _ hk => hk.2) (.string ((rd_T55 l1 x15_1).f2))) (fun _ hk => hk.2) (.string ((rd_T55 l1 x15_1).f3))) (fun _ h_ => h_.1))))) (zZ0 HB.out));replace HO_203000:=Aside0.mk (Kd.R_elder' (by refine zV0 ?_;exact (Kd.R_mono (Kd.R_far (p:=⟨gb204,3,none⟩) (Kd.R_far (p:=⟨gb204,2,none⟩) (Kd.R_far (p:=⟨gb204,1,none⟩) (Kd.R_far (p:=⟨gb204,0,none⟩) (Kd.R_types HO_203000.out BK204.out (by decide)) (fun _ hk => hk.2) (.int .i64 ((rd_T55 l1 x15_1).f0))) (fun _ hk => hk.2) (.string ((rd_T55 l1 x15_1).f1))) (fun _ hk => hk.2) (.string ((rd_T55 l1 x15_1).f2))) (fun _ hk => hk.2) (.string ((rd_T55 l1 x15_1).f3))) (fun _ h_ => h_.1))) (Kd.R_base ho0) hb);replace BK197:=zb0 BK197 hb;replace BK198:=zb0 BK198 hb;replace BK202:=zb0 BK202 hb;replace BK204:=Aside0.mk (blk_below (g:=gb204) (o:=.cells #[.int .i64 ((rd_T55 l1 x15_1).f0),.string ((rd_T55 l1 x15_1).f1),.string ((rd_T55 l1 x15_1).f2),.string ((rd_T55 l1 x15_1).f3)] 55 (0,0)) (by refine zT0 ?_;refine blk_put (cs:=#[.int .i64 ((rd_T55 l1 x15_1).f0),.string ((rd_T55 l1 x15_1).f1),.string ((rd_T55 l1 x15_1).f2),.string (⟨#[]⟩ : ByteArray)]) ?_ 3 _ rfl;refine zT0 ?_;refine blk_put (cs:=#[.int .i64 ((rd_T55 l1 x15_1).f0),.string ((rd_T55 l1 x15_1).f1),.string (⟨#[]⟩ : ByteArray),.string (⟨#[]⟩ : ByteArray)]) ?_ 2 _ rfl;refine zT0 ?_;refine blk_put (cs:=#[.int .i64 ((rd_T55 l1 x15_1).f0),.string (⟨#[]⟩ : ByteArray),.string (⟨#[]⟩ : ByteArray),.string (⟨#[]⟩ : ByteArray)]) ?_ 1 _ rfl;refine zT0 ?_;refine blk_put (cs:=#[.int .i64 0,.string (⟨#[]⟩ : ByteArray),.string (⟨#[]⟩ : ByteArray),.string (⟨#[]⟩ : ByteArray)]) ?_ 0 _ rfl;exact zK0 BK204.out) hb);replace HB:=zs0 HB hb;(try clear hb);(try clear hk);(try clear ho0)) | ((with_reducible refine gate_dst (N:=9) rfl ?_);refine zy0 (cs:=#[.slice none 0 0]) (t:=30) ?_;intro gb209 hg w47 hbox hb;replace HO_203000:=Aside0.mk (Kd.R_below (zR0 HO_203000.out) hb);replace HO207:=Aside0.mk (Kd.R_below (zR0 HO207.out) hb);have BK209:=Aside0.mk hbox;have GW209:=zz0 hg HB;have GE209:=zz0 hg HB;replace HB:=zs0 HB hb;have NB197_209:=zl0 hg BK197;have NB209_197:=zg0 hg BK197;replace BK197:=zb0 BK197 hb;have NB198_209:=zl0 hg BK198;have NB209_198:=zg0 hg BK198;replace BK198:=zb0 BK198 hb;have NB202_209:=zl0 hg BK202;have NB209_202:=zg0 hg BK202;replace BK202:=zb0 BK202 hb;have NB204_209:=zl0 hg BK204;have NB209_204:=zg0 hg BK204;replace BK204:=zb0 BK204 hb;clear hb hbox hg;obtain ⟨Ao48,co48,eo48⟩:=Kd.R_slice HO207.out;subst eo48;obtain ⟨_,_⟩:=zn0 NB209_197;obtain ⟨_,_⟩:=zn0 NB209_198;obtain ⟨_,_⟩:=zn0 NB209_202;obtain ⟨_,_⟩:=zn0 NB209_204;obtain ⟨_,_⟩:=zd01 BK209;obtain ⟨_,_⟩:=zd01 BK202;obtain ⟨_,_⟩:=zn0 NB198_197;obtain ⟨_,_⟩:=zd01 BK198))
       refine bodyPost_ret (results_ct rfl _ _ gb198 30 #[.slice Ao45 x203000_1.length co45] (0,0) _ rfl (by refine zT0 ?_;refine blk_put (cs:=#[.slice none 0 0]) ?_ 0 _ rfl;exact zK0 BK198.out) Try.underlying30 rfl (by kernel_rfl)) rfl ?_
       exact ⟨_,zW0,by refine zV0 ?_;exact Kd.R_mono (Kd.R_far (p:=⟨gb198,0,none⟩) (Kd.R_far (p:=⟨gb209,0,none⟩) (Kd.R_types (Kd.R_types HO_203000.out BK209.out (by decide)) BK198.out (by decide)) (fun _ hk => hk.1.2) (.slice Ao48 t205.length co48)) (fun _ hk => hk.2) (.slice Ao45 x203000_1.length co45)) (fun _ hk => trivial),(zY0 HB.out)⟩
     ·rw [if_neg c16] at H
      exact absurd H (by simp)
    ·rw [if_neg c15] at H
     exact absurd H (by simp)
   ·rw [if_neg c14] at H
    have c14b0 : decide (x15_1 < (l1.length : Int)) = false:=decide_eq_false c14
    clear c14
    simp only [Option.some.injEq,Prod.mk.injEq] at H
    obtain ⟨rfl,rfl⟩:=H
    obtain ⟨_,_⟩:=zn0 NB202_197
    obtain ⟨_,_⟩:=zn0 NB202_198
    have hcz59_0 : wr.cell? ⟨gb202,0,none⟩ = some (u203000):=zc00 BK202
    have hfz59_0:=blk_frozen BK202.out 0
    obtain ⟨Ao60,co60,eo60⟩:=Kd.R_slice HO_203000.out
    subst eo60
    obtain ⟨_,_⟩:=zn0 NB198_197
    have hcz62_0 : wr.cell? ⟨gb198,0,none⟩ = some (.slice none 0 0):=zc00 BK198
    have hfz62_0:=blk_frozen BK198.out 0
    go_wp2
    refine bodyPost_ret (results_ct rfl _ _ gb198 30 #[.slice Ao60 x203000_1.length co60] (0,0) _ rfl (by refine zT0 ?_;refine blk_put (cs:=#[.slice none 0 0]) ?_ 0 _ rfl;exact zK0 BK198.out) Try.underlying30 rfl (by kernel_rfl)) rfl ?_
    exact ⟨_,zW0,by refine zV0 ?_;exact Kd.R_mono (Kd.R_far (p:=⟨gb198,0,none⟩) (Kd.R_types HO_203000.out BK198.out (by decide)) (fun _ hk => hk.2) (.slice Ao60 x203000_1.length co60)) (fun _ hk => trivial),(zY0 HB.out)⟩

/-- A state of type 139 at block g of W; what its slices lead to came in by w0. -/
def IsS139 (w0 W : World) (g : Nat) (f0 : List Int) (f1 : Int) (f2 : Int) : Prop:=∃ A0 c0,W.heap[g]? = some (.cells #[.slice A0 f0.length c0,.int .i64 f1,.int .i64 f2] 139 (0,0)) ∧ w0.heap.size ≤ g ∧ Kd.C (Kd.int .u8) w0 A0 f0.length f0
theorem IsS139.grown {w0 W : World} {g : Nat} {f0 : List Int} {f1 : Int} {f2 : Int} {W1 : World} {row : Option Nat} (h : IsS139 w0 W g f0 f1 f2) (hw : W.grownBy W1 row) (hne : some g ≠ row) : IsS139 w0 W1 g f0 f1 f2:=by
 obtain ⟨A0,c0,hb,hg,hr0⟩:=h
 exact ⟨A0,c0,blk_grown hb hw hne,hg,hr0⟩
theorem IsS139.own_neN {w0 W : World} {g : Nat} {f0 : List Int} {f1 : Int} {f2 : Int} {α : Type} {d : Kd α} {e : Nat} {base : Nat} {ok : Nat → Prop} {v : Value} {xs : List α} (h : IsS139 w0 W g f0 f1 f2) (ho : Kd.N d e W base ok v xs) (ht : e ≠ 139) : some g ≠ v.ownBlock:=by
 obtain ⟨A0,c0,hb,hg,hr0⟩:=h
 exact Kd.N_ne ho hb ht
theorem IsS139.fresh {w0 W : World} {g : Nat} {f0 : List Int} {f1 : Int} {f2 : Int} (h : IsS139 w0 W g f0 f1 f2) : ∀ k,W.heap.size ≤ k → k ≠ g:=by
 obtain ⟨A0,c0,hb,hg,hr0⟩:=h
 exact Kd.freshB hb
theorem IsS139.kept {w0 W : World} {g : Nat} {f0 : List Int} {f1 : Int} {f2 : Int} {W1 : World} {S : Nat → Prop} (h : IsS139 w0 W g f0 f1 f2) (hk : Kept W W1 S) (hne : ¬ S g) : IsS139 w0 W1 g f0 f1 f2:=by
 obtain ⟨A0,c0,hb,hg,hr0⟩:=h
 exact ⟨A0,c0,blk_kept hb hk hne,hg,hr0⟩
theorem IsS139.below {w0 W : World} {g : Nat} {f0 : List Int} {f1 : Int} {f2 : Int} {W1 : World} (h : IsS139 w0 W g f0 f1 f2) (hw : Below W.heap.size W W1) : IsS139 w0 W1 g f0 f1 f2:=h.grown (grown_of_below hw none) (by simp)
theorem IsS139.alloc {w0 W : World} {g : Nat} {f0 : List Int} {f1 : Int} {f2 : Int} (h : IsS139 w0 W g f0 f1 f2) (o : Obj) : IsS139 w0 (W.alloc o) g f0 f1 f2:=h.below (below_alloc (Below.refl _ _) o)
theorem IsS139.drewN {w0 W : World} {g : Nat} {f0 : List Int} {f1 : Int} {f2 : Int} (h : IsS139 w0 W g f0 f1 f2) (m : Nat) : IsS139 w0 (W.drewN m) g f0 f1 f2:=h
theorem IsS139.drew {w0 W : World} {g : Nat} {f0 : List Int} {f1 : Int} {f2 : Int} (h : IsS139 w0 W g f0 f1 f2) : IsS139 w0 W.drew g f0 f1 f2:=h
theorem IsS139.at_ {w0 W : World} {g : Nat} {f0 : List Int} {f1 : Int} {f2 : Int} {w' : World} {m : Nat} (hq : W.drewN m = w') (h : IsS139 w0 W g f0 f1 f2) : IsS139 w0 w' g f0 f1 f2:=by subst hq;exact IsS139.drewN h m
theorem IsS139.apart {w0 W : World} {g : Nat} {f0 : List Int} {f1 : Int} {f2 : Int} {α : Type} {d : Kd α} {e : Nat} {base : Nat} {ok : Nat → Prop} {v : Value} {xs : List α} (h : IsS139 w0 W g f0 f1 f2) (ho : d.R e W base ok v xs) (ht : ∀ q,q ∈ e :: d.E → q ≠ 139) : d.R e W base (fun k => ok k ∧ k ≠ g) v xs:=by
 obtain ⟨A0,c0,hb,hg,hr0⟩:=h
 exact Kd.R_types ho hb ht
theorem IsS139.own_ne {w0 W : World} {g : Nat} {f0 : List Int} {f1 : Int} {f2 : Int} {α : Type} {d : Kd α} {e : Nat} {base : Nat} {ok : Nat → Prop} {v : Value} {xs : List α} (h : IsS139 w0 W g f0 f1 f2) (ho : d.R e W base ok v xs) (ht : e ≠ 139) : some g ≠ v.ownBlock:=by
 obtain ⟨A0,c0,hb,hg,hr0⟩:=h
 exact Kd.R_ne ho hb ht
theorem IsS139.apartQ {w0 W : World} {g : Nat} {f0 : List Int} {f1 : Int} {f2 : Int} {α : Type} {d : Kd α} {e : Nat} {base : Nat} {ok : Nat → Prop} {v : Value} {xs : List α} (h : IsS139 w0 W g f0 f1 f2) (ho : d.Q e W base ok v xs) (ht : ∀ q,q ∈ e :: d.E → q ≠ 139) : d.Q e W base (fun k => ok k ∧ k ≠ g) v xs:=by
 obtain ⟨A0,c0,hb,hg,hr0⟩:=h
 exact Kd.Q_types ho hb ht
theorem IsS139.own_neQ {w0 W : World} {g : Nat} {f0 : List Int} {f1 : Int} {f2 : Int} {α : Type} {d : Kd α} {e : Nat} {base : Nat} {ok : Nat → Prop} {v : Value} {xs : List α} (h : IsS139 w0 W g f0 f1 f2) (ho : d.Q e W base ok v xs) (ht : e ≠ 139) : some g ≠ v.ownBlock:=by
 obtain ⟨A0,c0,hb,hg,hr0⟩:=h
 exact Kd.Q_ne ho hb ht
theorem IsS139.apartS {w0 W : World} {g : Nat} {f0 : List Int} {f1 : Int} {f2 : Int} {α : Type} {d : Kd α} {e : Nat} {base : Nat} {ok : Nat → Prop} {v : Value} {xs : List α} (h : IsS139 w0 W g f0 f1 f2) (ho : d.S e W base ok v xs) (ht : ∀ q,q ∈ e :: d.E → q ≠ 139) : d.S e W base (fun k => ok k ∧ k ≠ g) v xs:=by
 obtain ⟨A0,c0,hb,hg,hr0⟩:=h
 exact Kd.S_types ho hb ht
theorem IsS139.own_neS {w0 W : World} {g : Nat} {f0 : List Int} {f1 : Int} {f2 : Int} {α : Type} {d : Kd α} {e : Nat} {base : Nat} {ok : Nat → Prop} {v : Value} {xs : List α} (h : IsS139 w0 W g f0 f1 f2) (ho : d.S e W base ok v xs) (ht : e ≠ 139) : some g ≠ v.ownBlock:=by
 obtain ⟨A0,c0,hb,hg,hr0⟩:=h
 exact Kd.S_ne ho hb ht
theorem IsS139.lt {w0 W : World} {g : Nat} {f0 : List Int} {f1 : Int} {f2 : Int} (h : IsS139 w0 W g f0 f1 f2) : g < W.heap.size:=by
 obtain ⟨A0,c0,hb,hg,hr0⟩:=h
 exact blk_lt hb
theorem IsS139.ge {w0 W : World} {g : Nat} {f0 : List Int} {f1 : Int} {f2 : Int} (h : IsS139 w0 W g f0 f1 f2) : w0.heap.size ≤ g:=by
 obtain ⟨A0,c0,hb,hg,hr0⟩:=h
 exact hg
theorem IsS139.ne_blk {w0 W : World} {g : Nat} {f0 : List Int} {f1 : Int} {f2 : Int} {a : Nat} {cs : Array Value} {t : TypeId} {fr : Nat × Nat} (h : IsS139 w0 W g f0 f1 f2) (hb2 : W.heap[a]? = some (.cells cs t fr)) (ht : t ≠ 139) : g ≠ a:=by
 obtain ⟨A0,c0,hb,hg,hr0⟩:=h
 rintro rfl
 rw [hb] at hb2
 injection hb2 with hb2
 injection hb2 with _ ht2
 exact ht ht2.symm
theorem IsS139.far {w0 W : World} {g : Nat} {f0 : List Int} {f1 : Int} {f2 : Int} {p : Addr} (h : IsS139 w0 W g f0 f1 f2) (hne : g ≠ p.block) (u : Value) : IsS139 w0 (W.setCell p u) g f0 f1 f2:=by
 obtain ⟨A0,c0,hb,hg,hr0⟩:=h
 exact ⟨A0,c0,blk_far hb hne u,hg,hr0⟩
theorem cellS139_0 {W : World} {g : Nat} {A0 : Option Addr} {c0 : Nat} {f0 : List Int} {f1 : Int} {f2 : Int} (h : W.heap[g]? = some (.cells #[.slice A0 f0.length c0,.int .i64 f1,.int .i64 f2] 139 (0,0))) : W.cell? ⟨g,0,none⟩ = some (.slice A0 f0.length c0):=(blk_cell h 0).trans rfl
theorem cellS139_1 {W : World} {g : Nat} {A0 : Option Addr} {c0 : Nat} {f0 : List Int} {f1 : Int} {f2 : Int} (h : W.heap[g]? = some (.cells #[.slice A0 f0.length c0,.int .i64 f1,.int .i64 f2] 139 (0,0))) : W.cell? ⟨g,1,none⟩ = some (.int .i64 f1):=(blk_cell h 1).trans rfl
theorem IsS139.set_1 {w0 W : World} {g : Nat} {f0 : List Int} {f1 : Int} {f2 : Int} (h : IsS139 w0 W g f0 f1 f2) (x : Int) : IsS139 w0 (W.setCell ⟨g,1,none⟩ (.int .i64 x)) g f0 x f2:=by
 obtain ⟨A0,c0,hb,hg,hr0⟩:=h
 exact ⟨A0,c0,by simpa using blk_set hb 1 (.int .i64 x),hg,hr0⟩
theorem cellS139_2 {W : World} {g : Nat} {A0 : Option Addr} {c0 : Nat} {f0 : List Int} {f1 : Int} {f2 : Int} (h : W.heap[g]? = some (.cells #[.slice A0 f0.length c0,.int .i64 f1,.int .i64 f2] 139 (0,0))) : W.cell? ⟨g,2,none⟩ = some (.int .i64 f2):=(blk_cell h 2).trans rfl
theorem IsS139.set_2 {w0 W : World} {g : Nat} {f0 : List Int} {f1 : Int} {f2 : Int} (h : IsS139 w0 W g f0 f1 f2) (x : Int) : IsS139 w0 (W.setCell ⟨g,2,none⟩ (.int .i64 x)) g f0 f1 x:=by
 obtain ⟨A0,c0,hb,hg,hr0⟩:=h
 exact ⟨A0,c0,by simpa using blk_set hb 2 (.int .i64 x),hg,hr0⟩
theorem IsS139.new (w0 W : World) (A0 : Option Addr) (c0 : Nat) (f0 : List Int) (f1 : Int) (f2 : Int) (hB : Below w0.heap.size w0 W) (hr0 : Kd.C (Kd.int .u8) w0 A0 f0.length f0) : IsS139 w0 (W.alloc (.cells #[.slice A0 f0.length c0,.int .i64 f1,.int .i64 f2] 139)) W.heap.size f0 f1 f2:=⟨A0,c0,by simpa using heap_alloc_new W _,hB.size,hr0⟩
theorem zi0 {w0 W W1 : World} {g : Nat} {a a1 : List Int} {b b1 c c1 : Int} (h : Aside0 (IsS139 w0 W g a b c)) (f : IsS139 w0 W g a b c → IsS139 w0 W1 g a1 b1 c1 := by intro h_; repeat (first | (with_reducible first | exact h_ | apply IsS139.alloc | apply IsS139.drewN | apply IsS139.drew | apply IsS139.set_1 | apply IsS139.set_2 | refine IsS139.far ?_ (Aside0.out (by clear h_; assumption)) _) | exact h_)) : IsS139 w0 W1 g a1 b1 c1 := f h.out
theorem zj0 {B : Nat} {w W W1 : World} {r : Prop} (h : Aside0 (Below B w W)) (h2 : Aside0 r) (f : r → Below B w W → Below B w W1 := by intro k_ h_; repeat (first | (with_reducible first | exact h_ | apply below_alloc | apply pw_below_drewN | apply below_drew1 | refine below_set ?_ (IsS139.ge k_) | refine below_set ?_ (Aside0.out (by clear h_ k_; assumption))) | exact h_)) : Below B w W1 := f h2.out h.out

/-! ### spec_l01New: function 71 -/
def spec_l01New.l0 : Nat → List Int → Int → Int → Option (List Int × Int × Int)
 | 0,_,_,_ => none
 | k + 1,x0,x3,x4 => if x4 < (x0.length : Int) then (if x4 < 4000 then (if 0 ≤ x4 then (spec_l01New.l0 k x0 (Go.bits .and .i64 (wrap64 ((wrap64 ((wrap64 (x3 * 131)) + (wrap64 (rd x0 x4)))) + 7)) 1073741823) (wrap64 (x4 + 1))) else (none)) else (some (x0,0,x3))) else (some (x0,0,x3))
def spec_l01New.f (k : Nat) (l0 : List Int) : Option (List Int × Int × Int):=spec_l01New.l0 k l0 (wrap64 (12701 + (l0.length : Int))) 0
theorem spec_l01New.mono_l : ∀ k,(∀ y0 y1 y2,LeO (spec_l01New.l0 k y0 y1 y2) (spec_l01New.l0 (k + 1) y0 y1 y2))
 | 0 => fun _ _ _ r h => by simp [spec_l01New.l0] at h
 | k + 1 => by
  have ih0:=spec_l01New.mono_l k
  ·intro y0 y1 y2
   unfold spec_l01New.l0
   repeat' first
  | (with_reducible exact ih0 _ _ _)
  | (with_reducible exact LeO.refl _)
  | (with_reducible exact LeO.none _)
  | (with_reducible refine LeO.ite ?_ ?_)
  | (with_reducible refine LeO.bind ?_ (fun _ => ?_))
theorem spec_l01New.mono : ∀ a0 k,LeO (spec_l01New.f k a0) (spec_l01New.f (k + 1) a0):=by
 intro a0 k
 have ih0:=spec_l01New.mono_l k
 unfold spec_l01New.f
 repeat' first
  | (with_reducible exact ih0 _ _ _)
  | (with_reducible exact LeO.refl _)
  | (with_reducible exact LeO.none _)
  | (with_reducible refine LeO.ite ?_ ?_)
  | (with_reducible refine LeO.bind ?_ (fun _ => ?_))
set_option maxHeartbeats 8000000 in
set_option maxRecDepth 100000 in
theorem spec_l01New.calls (k : Nat) (A0 : Option Addr) (c0 : Nat) (l0 : List Int) (r1 : List Int) (r2 : Int) (r3 : Int) (w0 w : World) (hB : Below w0.heap.size w0 w) (hr0 : Kd.C (Kd.int .u8) w0 A0 l0.length l0) (hc0 : l0.length ≤ c0) (h : spec_l01New.f k l0 = some (r1,r2,r3)) :
  Calls Try.prog 71 #[.slice A0 l0.length c0] w fun e w' => ∃ g_ : Nat,e = .returned (.pointer (some ⟨g_,0,none⟩)) ∧ IsS139 w0 w' g_ r1 r2 r3 ∧ Below w0.heap.size w0 w' ∧ Below w.heap.size w w':=by
 have hu139:=Try.underlying139
 have HR0:=Aside0.mk hr0
 have HC0:=Aside0.mk hc0
 clear hr0 hc0
 have HBW:=Aside0.mk (Below.refl w.heap.size w)
 have HW0:=Aside0.mk hB.size
 have HB:=Aside0.mk hB
 clear hB
 have H : (spec_l01New.l0 k l0 (wrap64 (12701 + (l0.length : Int))) 0) = some (r1,r2,r3):=h
 clear h
 have H':=Aside0.mk H
 clear H
 go_enter Try.func71,Try.ntmps71
 go_wp2
 go_loopg [3,4] k (fun kq v3 v4 w' => ∃ (x3_1 : Int) (x4_1 : Int),v3 = .int .i64 x3_1 ∧ v4 = .int .i64 x4_1 ∧ Aside0 (spec_l01New.l0 kq l0 x3_1 x4_1 = some (r1,r2,r3)) ∧ Aside0 (kq ≤ k) ∧ Aside0 (Below w0.heap.size w0 w') ∧ Aside0 (Below w.heap.size w w'))
 case atStart => exact ⟨(wrap64 (12701 + (l0.length : Int))),(0),zE0,zE0,H',⟨Nat.le_refl _⟩,⟨zY0 HB.out⟩,⟨by repeat (first | exact HBW.out | apply below_alloc | apply pw_below_drewN | apply below_drew1)⟩⟩
 case round =>
  clear H'
  obtain ⟨x3_1,x4_1,rfl,rfl,HA,HK1,HB,HBW⟩:=hrel
  cases gk with
  | zero => exact absurd HA.out (by simp [spec_l01New.l0])
  | succ k1 =>
   have H:=HA.out
   clear HA
   simp only [spec_l01New.l0] at H
   by_cases c2 : x4_1 < (l0.length : Int)
   ·rw [if_pos c2] at H
    have c2b0 : decide (x4_1 < (l0.length : Int)) = true:=decide_eq_true c2
    clear c2
    by_cases c3 : x4_1 < 4000
    ·rw [if_pos c3] at H
     have c3b0 : decide (x4_1 < 4000) = true:=decide_eq_true c3
     clear c3
     by_cases c4 : 0 ≤ x4_1
     ·rw [if_pos c4] at H
      have c4b0 : decide (0 ≤ x4_1) = true:=decide_eq_true c4
      clear c4
      have H':=Aside0.mk H
      clear H
      have p210 : 0 ≤ (x4_1 : Int):=zD0
      have q210 : x4_1 < (l0.length : Int):=zD0
      obtain ⟨ad210,e210,hx210_0⟩:=Kd.at_int HR0.out x4_1 p210 q210
      cases e210
      replace hx210_0:=pw_cell_below HB.out hx210_0
      replace p210:=eq_true p210
      replace q210:=eq_true q210
      go_wp2
      go_roundg k1
      case measure => have:=HK1.out;omega
      case rel => exact ⟨(Go.bits .and .i64 (wrap64 ((wrap64 ((wrap64 (x3_1 * 131)) + (wrap64 (rd l0 x4_1)))) + 7)) 1073741823),(wrap64 (x4_1 + 1)),zE0,zE0,H',⟨by have:=HK1.out;omega⟩,⟨zY0 HB.out⟩,⟨by repeat (first | exact HBW.out | apply below_alloc | apply pw_below_drewN | apply below_drew1)⟩⟩
     ·rw [if_neg c4] at H
      exact absurd H (by simp)
    ·rw [if_neg c3] at H
     have c3b0 : decide (x4_1 < 4000) = false:=decide_eq_false c3
     clear c3
     simp only [Option.some.injEq,Prod.mk.injEq] at H
     obtain ⟨rfl,rfl,rfl⟩:=H
     go_wp2_with (first | ((with_reducible refine gate_dst (N:=31) rfl ?_);refine zy0 (cs:=#[.slice A0 l0.length c0,.int .i64 0,.int .i64 x3_1]) (t:=139) ?_;intro gb211 hg w5 hbox hb;replace HB:=zs0 HB hb;have BK211:=Aside0.mk hbox;have GW211:=Aside0.mk ((by rw [hg];exact (below_size (by repeat (first | (with_reducible first | exact HBW.out | apply below_alloc | apply pw_below_drewN | apply below_drew1) | exact HBW.out))) : w.heap.size ≤ gb211));have GE211:=Aside0.mk ((Nat.le_trans HW0.out (by rw [hg];exact (below_size (by repeat (first | (with_reducible first | exact HBW.out | apply below_alloc | apply pw_below_drewN | apply below_drew1) | exact HBW.out))) : w.heap.size ≤ gb211) : w0.heap.size ≤ gb211));replace HBW:=Aside0.mk (below_step HBW.out hb);clear hb hbox hg))
     go_ret
     exact ⟨_,rfl,(show IsS139 w0 _ gb211 l0 0 x3_1 from ⟨_,_,by exact zK0 BK211.out,GE211.out,HR0.out⟩),(zY0 HB.out),by repeat (first | (with_reducible first | exact HBW.out | apply below_alloc | apply pw_below_drewN | apply below_drew1 | refine below_set ?_ GW211.out) | exact HBW.out)⟩
   ·rw [if_neg c2] at H
    have c2b0 : decide (x4_1 < (l0.length : Int)) = false:=decide_eq_false c2
    clear c2
    simp only [Option.some.injEq,Prod.mk.injEq] at H
    obtain ⟨rfl,rfl,rfl⟩:=H
    go_wp2_with (first | ((with_reducible refine gate_dst (N:=31) rfl ?_);refine zy0 (cs:=#[.slice A0 l0.length c0,.int .i64 0,.int .i64 x3_1]) (t:=139) ?_;intro gb212 hg w6 hbox hb;replace HB:=zs0 HB hb;have BK212:=Aside0.mk hbox;have GW212:=Aside0.mk ((by rw [hg];exact (below_size (by repeat (first | (with_reducible first | exact HBW.out | apply below_alloc | apply pw_below_drewN | apply below_drew1) | exact HBW.out))) : w.heap.size ≤ gb212));have GE212:=Aside0.mk ((Nat.le_trans HW0.out (by rw [hg];exact (below_size (by repeat (first | (with_reducible first | exact HBW.out | apply below_alloc | apply pw_below_drewN | apply below_drew1) | exact HBW.out))) : w.heap.size ≤ gb212) : w0.heap.size ≤ gb212));replace HBW:=Aside0.mk (below_step HBW.out hb);clear hb hbox hg))
    go_ret
    exact ⟨_,rfl,(show IsS139 w0 _ gb212 l0 0 x3_1 from ⟨_,_,by exact zK0 BK212.out,GE212.out,HR0.out⟩),(zY0 HB.out),by repeat (first | (with_reducible first | exact HBW.out | apply below_alloc | apply pw_below_drewN | apply below_drew1 | refine below_set ?_ GW212.out) | exact HBW.out)⟩

/-! ### spec_l01Byte: function 76 -/
def spec_l01Byte.f (s0_0 : List Int) (s0_1 : Int) (s0_2 : Int) : Option (Int × Int × Int):=if s0_1 < (s0_0.length : Int) then (if 0 ≤ s0_1 then (some (Go.bits .and .i64 (wrap64 ((Go.bits .and .i64 (Go.bits .xor .i64 ((wrap64 ((wrap64 (s0_2 * 6364136223846793005)) + 1442695040888963407)) / 8589934592) ((wrap64 ((wrap64 (s0_2 * 6364136223846793005)) + 1442695040888963407)) / 35184372088832)) 255) + (wrap64 (rd s0_0 s0_1)))) 255,wrap64 (s0_1 + 1),wrap64 ((wrap64 (s0_2 * 6364136223846793005)) + 1442695040888963407))) else (none)) else (some (Go.bits .and .i64 (Go.bits .xor .i64 ((wrap64 ((wrap64 (s0_2 * 6364136223846793005)) + 1442695040888963407)) / 8589934592) ((wrap64 ((wrap64 (s0_2 * 6364136223846793005)) + 1442695040888963407)) / 35184372088832)) 255,s0_1,wrap64 ((wrap64 (s0_2 * 6364136223846793005)) + 1442695040888963407)))
set_option maxHeartbeats 8000000 in
set_option maxRecDepth 100000 in
theorem spec_l01Byte.calls (g : Nat) (s0_0 : List Int) (s0_1 : Int) (s0_2 : Int) (r1 : Int) (r2 : Int) (r3 : Int) (w0 w : World) (hI : IsS139 w0 w g s0_0 s0_1 s0_2) (hB : Below w0.heap.size w0 w) (h : spec_l01Byte.f s0_0 s0_1 s0_2 = some (r1,r2,r3)) :
  Calls Try.prog 76 #[.pointer (some ⟨g,0,none⟩)] w fun e w' => e = .returned (.int .i64 r1) ∧ IsS139 w0 w' g s0_0 r2 r3 ∧ Below w0.heap.size w0 w' ∧ KeepBut w w' g none:=by
 have HI0:=Aside0.mk hI
 have HK:=Aside0.mk (KeepBut.refl w g none)
 have HL:=Aside0.mk hB.size
 clear hI
 have HW0:=Aside0.mk hB.size
 have HB:=Aside0.mk hB
 clear hB
 have H : (if s0_1 < (s0_0.length : Int) then (if 0 ≤ s0_1 then (some (Go.bits .and .i64 (wrap64 ((Go.bits .and .i64 (Go.bits .xor .i64 ((wrap64 ((wrap64 (s0_2 * 6364136223846793005)) + 1442695040888963407)) / 8589934592) ((wrap64 ((wrap64 (s0_2 * 6364136223846793005)) + 1442695040888963407)) / 35184372088832)) 255) + (wrap64 (rd s0_0 s0_1)))) 255,wrap64 (s0_1 + 1),wrap64 ((wrap64 (s0_2 * 6364136223846793005)) + 1442695040888963407))) else (none)) else (some (Go.bits .and .i64 (Go.bits .xor .i64 ((wrap64 ((wrap64 (s0_2 * 6364136223846793005)) + 1442695040888963407)) / 8589934592) ((wrap64 ((wrap64 (s0_2 * 6364136223846793005)) + 1442695040888963407)) / 35184372088832)) 255,s0_1,wrap64 ((wrap64 (s0_2 * 6364136223846793005)) + 1442695040888963407)))) = some (r1,r2,r3):=h
 clear h
 by_cases c2 : s0_1 < (s0_0.length : Int)
 ·rw [if_pos c2] at H
  have c2b0 : decide (s0_1 < (s0_0.length : Int)) = true:=decide_eq_true c2
  clear c2
  by_cases c3 : 0 ≤ s0_1
  ·rw [if_pos c3] at H
   have c3b0 : decide (0 ≤ s0_1) = true:=decide_eq_true c3
   clear c3
   simp only [Option.some.injEq,Prod.mk.injEq] at H
   obtain ⟨rfl,rfl,rfl⟩:=H
   obtain ⟨ASz4_0,cSz4_0,HGz4,hgz4,HSz4_0⟩:=HI0.out
   have hcz4_0:=cellS139_0 HGz4
   have hcz4_1:=cellS139_1 HGz4
   have hcz4_2:=cellS139_2 HGz4
   have hfz4_1:=blk_frozen HGz4 1
   have hfz4_2:=blk_frozen HGz4 2
   clear HGz4 hgz4
   have p213 : 0 ≤ (s0_1 : Int):=zD0
   have q213 : s0_1 < (s0_0.length : Int):=zD0
   obtain ⟨ad213,e213,hx213_0⟩:=Kd.at_int HSz4_0 s0_1 p213 q213
   cases e213
   have hn213_0 : ad213.block ≠ g:=Nat.ne_of_lt (Nat.lt_of_lt_of_le (by have:=World.block_lt_of_cell? _ _ hx213_0;first | rwa [add_block] at this | exact this) (IsS139.ge HI0.out))
   replace hx213_0:=pw_cell_below HB.out hx213_0
   replace hx213_0:=(cell_far (p:=⟨g,2,none⟩) (by first | (rw [add_block];exact hn213_0) | (show (Addr.add _ _).block ≠ _;rw [add_block];exact hn213_0) | exact hn213_0) (.int .i64 (wrap64 ((wrap64 (s0_2 * 6364136223846793005)) + 1442695040888963407)))).trans hx213_0
   (try have hy213_0:=fun (n_ : Nat) => (show (((w.drewN n_).setCell ⟨g,2,none⟩ (.int .i64 (wrap64 ((wrap64 (s0_2 * 6364136223846793005)) + 1442695040888963407))))).cell? _ = some _ from hx213_0))
   clear hn213_0
   replace p213:=eq_true p213
   replace q213:=eq_true q213
   go_enter Try.func76,Try.ntmps76
   go_wp2
   repeat (go_quiet (fail);try go_wp2)
   go_ret
   exact ⟨zW0,by repeat (first | (with_reducible first | exact HI0.out | apply IsS139.alloc | apply IsS139.drewN | apply IsS139.drew | apply IsS139.set_1 | apply IsS139.set_2) | exact HI0.out),zj0 HB HI0,zk0 HK⟩
  ·rw [if_neg c3] at H
   exact absurd H (by simp)
 ·rw [if_neg c2] at H
  have c2b0 : decide (s0_1 < (s0_0.length : Int)) = false:=decide_eq_false c2
  clear c2
  simp only [Option.some.injEq,Prod.mk.injEq] at H
  obtain ⟨rfl,rfl,rfl⟩:=H
  obtain ⟨ASz5_0,cSz5_0,HGz5,hgz5,HSz5_0⟩:=HI0.out
  have hcz5_0:=cellS139_0 HGz5
  have hcz5_1:=cellS139_1 HGz5
  have hcz5_2:=cellS139_2 HGz5
  have hfz5_1:=blk_frozen HGz5 1
  have hfz5_2:=blk_frozen HGz5 2
  clear HGz5 hgz5
  go_enter Try.func76,Try.ntmps76
  go_wp2
  repeat (go_quiet (fail);try go_wp2)
  go_ret
  exact ⟨zW0,by repeat (first | (with_reducible first | exact HI0.out | apply IsS139.alloc | apply IsS139.drewN | apply IsS139.drew | apply IsS139.set_1 | apply IsS139.set_2) | exact HI0.out),zj0 HB HI0,zk0 HK⟩

/-! ### spec_l01Below: function 72 -/
def spec_l01Below.f (s0_0 : List Int) (s0_1 : Int) (s0_2 : Int) (a1 : Int) : Option (Int × Int × Int):=if a1 ≤ 0 then (some (0,s0_1,s0_2)) else (if a1 ≤ 256 then ((spec_l01Byte.f s0_0 s0_1 s0_2).bind fun bt214 => (if a1 = 0 then (none) else (some (Int.tmod bt214.1 a1,bt214.2.1,bt214.2.2)))) else ((spec_l01Byte.f s0_0 s0_1 s0_2).bind fun bt217 => ((spec_l01Byte.f s0_0 bt217.2.1 bt217.2.2).bind fun bt220 => ((spec_l01Byte.f s0_0 bt220.2.1 bt220.2.2).bind fun bt223 => ((spec_l01Byte.f s0_0 bt223.2.1 bt223.2.2).bind fun bt226 => (if a1 = 0 then (none) else (some (Int.tmod (wrap64 ((wrap64 ((wrap64 ((wrap64 (bt217.1 * 16777216)) + (wrap64 (bt220.1 * 65536)))) + (wrap64 (bt223.1 * 256)))) + bt226.1)) a1,bt226.2.1,bt226.2.2))))))))
set_option maxHeartbeats 8000000 in
set_option maxRecDepth 100000 in
theorem spec_l01Below.calls (g : Nat) (s0_0 : List Int) (s0_1 : Int) (s0_2 : Int) (a1 : Int) (r1 : Int) (r2 : Int) (r3 : Int) (w0 w : World) (hI : IsS139 w0 w g s0_0 s0_1 s0_2) (hB : Below w0.heap.size w0 w) (h : spec_l01Below.f s0_0 s0_1 s0_2 a1 = some (r1,r2,r3)) :
  Calls Try.prog 72 #[.pointer (some ⟨g,0,none⟩),.int .i64 a1] w fun e w' => e = .returned (.int .i64 r1) ∧ IsS139 w0 w' g s0_0 r2 r3 ∧ Below w0.heap.size w0 w' ∧ KeepBut w w' g none:=by
 have HI0:=Aside0.mk hI
 have HK:=Aside0.mk (KeepBut.refl w g none)
 have HL:=Aside0.mk hB.size
 clear hI
 have HW0:=Aside0.mk hB.size
 have HB:=Aside0.mk hB
 clear hB
 have H : (if a1 ≤ 0 then (some (0,s0_1,s0_2)) else (if a1 ≤ 256 then ((spec_l01Byte.f s0_0 s0_1 s0_2).bind fun bt214 => (if a1 = 0 then (none) else (some (Int.tmod bt214.1 a1,bt214.2.1,bt214.2.2)))) else ((spec_l01Byte.f s0_0 s0_1 s0_2).bind fun bt217 => ((spec_l01Byte.f s0_0 bt217.2.1 bt217.2.2).bind fun bt220 => ((spec_l01Byte.f s0_0 bt220.2.1 bt220.2.2).bind fun bt223 => ((spec_l01Byte.f s0_0 bt223.2.1 bt223.2.2).bind fun bt226 => (if a1 = 0 then (none) else (some (Int.tmod (wrap64 ((wrap64 ((wrap64 ((wrap64 (bt217.1 * 16777216)) + (wrap64 (bt220.1 * 65536)))) + (wrap64 (bt223.1 * 256)))) + bt226.1)) a1,bt226.2.1,bt226.2.2))))))))) = some (r1,r2,r3):=h
 clear h
 by_cases c3 : a1 ≤ 0
 ·rw [if_pos c3] at H
  have c3b0 : decide (a1 ≤ 0) = true:=decide_eq_true c3
  clear c3
  simp only [Option.some.injEq,Prod.mk.injEq] at H
  obtain ⟨rfl,rfl,rfl⟩:=H
  go_enter Try.func72,Try.ntmps72
  go_wp2
  go_ret
  exact ⟨zW0,by repeat (first | (with_reducible first | exact HI0.out | apply IsS139.alloc | apply IsS139.drewN | apply IsS139.drew | apply IsS139.set_1 | apply IsS139.set_2) | exact HI0.out),zj0 HB HI0,zk0 HK⟩
 ·rw [if_neg c3] at H
  have c3b0 : decide (a1 ≤ 0) = false:=decide_eq_false c3
  clear c3
  by_cases c4 : a1 ≤ 256
  ·rw [if_pos c4] at H
   have c4b0 : decide (a1 ≤ 256) = true:=decide_eq_true c4
   clear c4
   obtain ⟨⟨t214,t215,t216⟩,A5,H⟩:=bX0 H
   dsimp only at H
   by_cases c6 : a1 = 0
   ·rw [if_pos c6] at H
    exact absurd H (by simp)
   ·rw [if_neg c6] at H
    have c6b0 : (a1 == 0) = false:=beq_eq_false_iff_ne.mpr c6
    have c6b1 : (a1 != 0) = true:=bne_iff_ne.mpr c6
    simp only [Option.some.injEq,Prod.mk.injEq] at H
    obtain ⟨rfl,rfl,rfl⟩:=H
    go_enter Try.func72,Try.ntmps72
    go_wp2_with (first | ((with_reducible refine gate_callee (f:=76) rfl ?_);refine goesL_ (some 14) rfl rfl Try.func76 (by kernel_rfl) rfl #[.pointer (some ⟨g,0,none⟩)] rfl zM0 ?_;(with_reducible refine (spec_l01Byte.calls g s0_0 s0_1 s0_2 t214 t215 t216 w0 _ ?side1 ?side2 A5.out).mono ?_);(case side1 => repeat (first | (with_reducible first | exact HI0.out | apply IsS139.alloc | apply IsS139.drewN | apply IsS139.drew | apply IsS139.set_1 | apply IsS139.set_2) | exact HI0.out));(case side2 => exact zj0 HB HI0);rintro e w7 ⟨rfl,hi,hb,hk⟩;refine ⟨_,rfl,?_⟩;replace HK:=zm0 HK hk;replace HB:=Aside0.mk hb;replace HI0:=Aside0.mk hi;(try clear hb);(try clear hk);(try clear hi)))
    go_ret
    exact ⟨zW0,by repeat (first | (with_reducible first | exact HI0.out | apply IsS139.alloc | apply IsS139.drewN | apply IsS139.drew | apply IsS139.set_1 | apply IsS139.set_2) | exact HI0.out),zj0 HB HI0,zk0 HK⟩
  ·rw [if_neg c4] at H
   have c4b0 : decide (a1 ≤ 256) = false:=decide_eq_false c4
   clear c4
   obtain ⟨⟨t217,t218,t219⟩,A8,H⟩:=bX0 H
   dsimp only at H
   obtain ⟨⟨t220,t221,t222⟩,A9,H⟩:=bX0 H
   dsimp only at H
   obtain ⟨⟨t223,t224,t225⟩,A10,H⟩:=bX0 H
   dsimp only at H
   obtain ⟨⟨t226,t227,t228⟩,A11,H⟩:=bX0 H
   dsimp only at H
   by_cases c12 : a1 = 0
   ·rw [if_pos c12] at H
    exact absurd H (by simp)
   ·rw [if_neg c12] at H
    have c12b0 : (a1 == 0) = false:=beq_eq_false_iff_ne.mpr c12
    have c12b1 : (a1 != 0) = true:=bne_iff_ne.mpr c12
    simp only [Option.some.injEq,Prod.mk.injEq] at H
    obtain ⟨rfl,rfl,rfl⟩:=H
    go_enter Try.func72,Try.ntmps72
    go_wp2_with (first | ((with_reducible refine gate_callee (f:=76) rfl ?_);refine goesL_ (some 18) rfl rfl Try.func76 (by kernel_rfl) rfl #[.pointer (some ⟨g,0,none⟩)] rfl zM0 ?_;(with_reducible refine (spec_l01Byte.calls g s0_0 s0_1 s0_2 t217 t218 t219 w0 _ ?side1 ?side2 A8.out).mono ?_);(case side1 => repeat (first | (with_reducible first | exact HI0.out | apply IsS139.alloc | apply IsS139.drewN | apply IsS139.drew | apply IsS139.set_1 | apply IsS139.set_2) | exact HI0.out));(case side2 => exact zj0 HB HI0);rintro e w13 ⟨rfl,hi,hb,hk⟩;refine ⟨_,rfl,?_⟩;replace HK:=zm0 HK hk;replace HB:=Aside0.mk hb;replace HI0:=Aside0.mk hi;(try clear hb);(try clear hk);(try clear hi)) | ((with_reducible refine gate_callee (f:=76) rfl ?_);refine goesL_ (some 20) rfl rfl Try.func76 (by kernel_rfl) rfl #[.pointer (some ⟨g,0,none⟩)] rfl zM0 ?_;(with_reducible refine (spec_l01Byte.calls g s0_0 t218 t219 t220 t221 t222 w0 _ ?side1 ?side2 A9.out).mono ?_);(case side1 => repeat (first | (with_reducible first | exact HI0.out | apply IsS139.alloc | apply IsS139.drewN | apply IsS139.drew | apply IsS139.set_1 | apply IsS139.set_2) | exact HI0.out));(case side2 => exact zj0 HB HI0);rintro e w14 ⟨rfl,hi,hb,hk⟩;refine ⟨_,rfl,?_⟩;replace HK:=zm0 HK hk;replace HB:=Aside0.mk hb;replace HI0:=Aside0.mk hi;(try clear hb);(try clear hk);(try clear hi)) | ((with_reducible refine gate_callee (f:=76) rfl ?_);refine goesL_ (some 22) rfl rfl Try.func76 (by kernel_rfl) rfl #[.pointer (some ⟨g,0,none⟩)] rfl zM0 ?_;(with_reducible refine (spec_l01Byte.calls g s0_0 t221 t222 t223 t224 t225 w0 _ ?side1 ?side2 A10.out).mono ?_);(case side1 => repeat (first | (with_reducible first | exact HI0.out | apply IsS139.alloc | apply IsS139.drewN | apply IsS139.drew | apply IsS139.set_1 | apply IsS139.set_2) | exact HI0.out));(case side2 => exact zj0 HB HI0);rintro e w15 ⟨rfl,hi,hb,hk⟩;refine ⟨_,rfl,?_⟩;replace HK:=zm0 HK hk;replace HB:=Aside0.mk hb;replace HI0:=Aside0.mk hi;(try clear hb);(try clear hk);(try clear hi)) | ((with_reducible refine gate_callee (f:=76) rfl ?_);refine goesL_ (some 24) rfl rfl Try.func76 (by kernel_rfl) rfl #[.pointer (some ⟨g,0,none⟩)] rfl zM0 ?_;(with_reducible refine (spec_l01Byte.calls g s0_0 t224 t225 t226 t227 t228 w0 _ ?side1 ?side2 A11.out).mono ?_);(case side1 => repeat (first | (with_reducible first | exact HI0.out | apply IsS139.alloc | apply IsS139.drewN | apply IsS139.drew | apply IsS139.set_1 | apply IsS139.set_2) | exact HI0.out));(case side2 => exact zj0 HB HI0);rintro e w16 ⟨rfl,hi,hb,hk⟩;refine ⟨_,rfl,?_⟩;replace HK:=zm0 HK hk;replace HB:=Aside0.mk hb;replace HI0:=Aside0.mk hi;(try clear hb);(try clear hk);(try clear hi)))
    go_ret
    exact ⟨zW0,by repeat (first | (with_reducible first | exact HI0.out | apply IsS139.alloc | apply IsS139.drewN | apply IsS139.drew | apply IsS139.set_1 | apply IsS139.set_2) | exact HI0.out),zj0 HB HI0,zk0 HK⟩

/-! ### spec_l01Text: function 73 -/
mutual
def spec_l01Text.j0 : Nat → Int → List Int → Int → Int → Option (ByteArray × Int × Int)
 | 0,_,_,_,_ => none
 | k + 1,x1,x1000,x1001,x1002 => spec_l01Text.l0 k x1 (([] : List Int)) 0 x1000 x1001 x1002
def spec_l01Text.l0 : Nat → Int → List Int → Int → List Int → Int → Int → Option (ByteArray × Int × Int)
 | 0,_,_,_,_,_,_ => none
 | k + 1,x1,x5,x6,x1000,x1001,x1002 => if x6 < x1 then ((spec_l01Byte.f x1000 x1001 x1002).bind fun bt232 => (if x5.length < 140737488355328 then (spec_l01Text.l0 k x1 (x5 ++ [(bt232.1) % 256]) (wrap64 (x6 + 1)) x1000 bt232.2.1 bt232.2.2) else (none))) else (some (strOfNums x5,x1001,x1002))
end
def spec_l01Text.f (k : Nat) (s0_0 : List Int) (s0_1 : Int) (s0_2 : Int) (a1 : Int) : Option (ByteArray × Int × Int):=if a1 > 5000 then (spec_l01Text.j0 k 5000 s0_0 s0_1 s0_2) else (spec_l01Text.j0 k a1 s0_0 s0_1 s0_2)
theorem spec_l01Text.mono_l : ∀ k,(∀ y0 y1 y2 y3,LeO (spec_l01Text.j0 k y0 y1 y2 y3) (spec_l01Text.j0 (k + 1) y0 y1 y2 y3)) ∧ (∀ y0 y1 y2 y3 y4 y5,LeO (spec_l01Text.l0 k y0 y1 y2 y3 y4 y5) (spec_l01Text.l0 (k + 1) y0 y1 y2 y3 y4 y5))
 | 0 => ⟨fun _ _ _ _ r h => by simp [spec_l01Text.j0] at h,fun _ _ _ _ _ _ r h => by simp [spec_l01Text.l0] at h⟩
 | k + 1 => by
  obtain ⟨ih0,ih1⟩:=spec_l01Text.mono_l k
  refine ⟨?_,?_⟩
  intro y0 y1 y2 y3;unfold spec_l01Text.j0;rotate_left
  intro y0 y1 y2 y3 y4 y5;unfold spec_l01Text.l0;rotate_left
  all_goals repeat' first
  | (with_reducible exact ih0 _ _ _ _)
  | (with_reducible exact ih1 _ _ _ _ _ _)
  | (with_reducible exact LeO.refl _)
  | (with_reducible exact LeO.none _)
  | (with_reducible refine LeO.ite ?_ ?_)
  | (with_reducible refine LeO.bind ?_ (fun _ => ?_))
theorem spec_l01Text.mono : ∀ a0 a1 a2 a3 k,LeO (spec_l01Text.f k a0 a1 a2 a3) (spec_l01Text.f (k + 1) a0 a1 a2 a3):=by
 intro a0 a1 a2 a3 k
 obtain ⟨ih0,ih1⟩:=spec_l01Text.mono_l k
 unfold spec_l01Text.f
 repeat' first
  | (with_reducible exact ih0 _ _ _ _)
  | (with_reducible exact ih1 _ _ _ _ _ _)
  | (with_reducible exact LeO.refl _)
  | (with_reducible exact LeO.none _)
  | (with_reducible refine LeO.ite ?_ ?_)
  | (with_reducible refine LeO.bind ?_ (fun _ => ?_))
set_option maxHeartbeats 8000000 in
set_option maxRecDepth 100000 in
theorem spec_l01Text.calls (k : Nat) (g : Nat) (s0_0 : List Int) (s0_1 : Int) (s0_2 : Int) (a1 : Int) (r1 : ByteArray) (r2 : Int) (r3 : Int) (w0 w : World) (hI : IsS139 w0 w g s0_0 s0_1 s0_2) (hB : Below w0.heap.size w0 w) (h : spec_l01Text.f k s0_0 s0_1 s0_2 a1 = some (r1,r2,r3)) :
  Calls Try.prog 73 #[.pointer (some ⟨g,0,none⟩),.int .i64 a1] w fun e w' => e = .returned (.string r1) ∧ IsS139 w0 w' g s0_0 r2 r3 ∧ Below w0.heap.size w0 w' ∧ KeepBut w w' g none:=by
 have HI0:=Aside0.mk hI
 have HK:=Aside0.mk (KeepBut.refl w g none)
 have HL:=Aside0.mk hB.size
 clear hI
 have HW0:=Aside0.mk hB.size
 have HB:=Aside0.mk hB
 clear hB
 have H : (if a1 > 5000 then (spec_l01Text.j0 k 5000 s0_0 s0_1 s0_2) else (spec_l01Text.j0 k a1 s0_0 s0_1 s0_2)) = some (r1,r2,r3):=h
 clear h
 have HC3:=Aside0.mk H
 clear H
 go_enter Try.func73,Try.ntmps73
 go_upto_if 8 with (fail)
 go_cut [1] (fun v1 wc => ∃ (kq : Nat) (x1_2 : Int),v1 = .int .i64 x1_2 ∧ Aside0 (spec_l01Text.j0 kq x1_2 s0_0 s0_1 s0_2 = some (r1,r2,r3)) ∧ Aside0 (kq ≤ k) ∧ Aside0 (IsS139 w0 wc g s0_0 s0_1 s0_2) ∧ Aside0 (KeepBut w wc g none) ∧ Aside0 (Below w0.heap.size w0 wc))
 case first =>
  have H:=HC3.out
  clear HC3
  by_cases c4 : a1 > 5000
  ·rw [if_pos c4] at H
   have c4b0 : decide (5000 < a1) = true:=decide_eq_true c4
   clear c4
   (first | rw [c4b0] | (simp only [i64_w,i32_w];rw [c4b0]) | skip)
   have H':=Aside0.mk H
   clear H
   go_wp2
   go_meet
   case rel => exact ⟨_,(5000),zE0,H',⟨by first | omega | exact Nat.le_refl _⟩,⟨by repeat (first | (with_reducible first | exact HI0.out | apply IsS139.alloc | apply IsS139.drewN | apply IsS139.drew | apply IsS139.set_1 | apply IsS139.set_2) | exact HI0.out)⟩,⟨zk0 HK⟩,⟨zj0 HB HI0⟩⟩
  ·rw [if_neg c4] at H
   have c4b0 : decide (5000 < a1) = false:=decide_eq_false c4
   clear c4
   (first | rw [c4b0] | (simp only [i64_w,i32_w];rw [c4b0]) | skip)
   have H':=Aside0.mk H
   clear H
   go_wp2
   go_meet
   case rel => exact ⟨_,(a1),zE0,H',⟨by first | omega | exact Nat.le_refl _⟩,⟨by repeat (first | (with_reducible first | exact HI0.out | apply IsS139.alloc | apply IsS139.drewN | apply IsS139.drew | apply IsS139.set_1 | apply IsS139.set_2) | exact HI0.out)⟩,⟨zk0 HK⟩,⟨zj0 HB HI0⟩⟩
 case rest =>
  clear HC3
  obtain ⟨kq,x1_2,rfl,HA,HJ2,HI0,HK,HB⟩:=hcut
  cases kq with
  | zero => exact absurd HA.out (by simp [spec_l01Text.j0])
  | succ kj2 =>
   have H:=HA.out
   clear HA
   simp only [spec_l01Text.j0] at H
   obtain ⟨y229,hy229⟩ : ∃ y_ : List Int,y_ = (([] : List Int)):=⟨_,rfl⟩
   replace H : (spec_l01Text.l0 kj2 x1_2 y229 0 s0_0 s0_1 s0_2) = some (r1,r2,r3):=by first | (rw [hy229];with_reducible exact H) | (have H2_:=(Option.bind_some _ _).symm.trans H;rw [hy229];with_reducible exact H2_) | (have H2_:=(Option.bind_some _ _).symm.trans H;with_reducible exact H2_) | with_reducible exact H | (rw [hy229];exact H) | exact H
   have Ny229:=Aside0.mk hy229
   clear hy229
   have H':=Aside0.mk H
   clear H
   go_wp2_with (first | ((with_reducible refine gate_dst (N:=9) rfl ?_);refine Kd.R_lit (Kd.int .u8) _ 5 ?hg (N:=9) ?hd (xs:=([] : List Int)) (inner:=[]) (ok:=fun _ => True) (okp:=fun _ => True) ?hr ?hp (fun _ hk => hk) trivial (Below.refl _ _) (Nat.le_refl _) (by simp) ?_;(case hd => rfl);(case hg => rfl);(case hr => first | (go_simp;done) | (go_simp;rfl));(case hp => exact (Reps.none _ _));intro v230 w5 ho6 hb hg_ hnew_;clear hg_ hnew_;(first | rw [← Ny229.out] at ho6 | (simp only [Int.reduceToNat] at ho6;rw [← Ny229.out] at ho6));have HO231:=Aside0.mk (Kd.R_lower ho6 (keep_size (w:=w) (g:=g) (row:=none) (zk0 HK)));replace HK:=Aside0.mk (KeepBut.trans (zk0 HK) (KeepBut.of_below hb g none) (.inl rfl));replace HB:=Aside0.mk (below_step (zj0 HB HI0) hb);replace HI0:=Aside0.mk (IsS139.below (by repeat (first | (with_reducible first | exact HI0.out | apply IsS139.alloc | apply IsS139.drewN | apply IsS139.drew | apply IsS139.set_1 | apply IsS139.set_2) | exact HI0.out)) hb);clear hb ho6))
   go_loopg [5,6] kj2 (fun kq v5 v6 w' => ∃ (x5_2 : List Int) (x6_2 : Int) (x1001_2 : Int) (x1002_2 : Int),v6 = .int .i64 x6_2 ∧ Aside0 (spec_l01Text.l0 kq x1_2 x5_2 x6_2 s0_0 x1001_2 x1002_2 = some (r1,r2,r3)) ∧ Aside0 (kq ≤ kj2) ∧ Aside0 (Kd.R (Kd.int .u8) 5 w' w.heap.size (fun _ => True) v5 x5_2) ∧ Aside0 (IsS139 w0 w' g s0_0 x1001_2 x1002_2) ∧ Aside0 (KeepBut w w' g none) ∧ Aside0 (Below w0.heap.size w0 w'))
   case atStart => exact ⟨(y229),(0),(s0_1),(s0_2),zE0,H',⟨Nat.le_refl _⟩,⟨zR0 HO231.out⟩,⟨by repeat (first | (with_reducible first | exact HI0.out | apply IsS139.alloc | apply IsS139.drewN | apply IsS139.drew | apply IsS139.set_1 | apply IsS139.set_2) | exact HI0.out)⟩,⟨zk0 HK⟩,⟨zj0 HB HI0⟩⟩
   case round =>
    clear H'
    obtain ⟨x5_2,x6_2,x1001_2,x1002_2,rfl,HA,HK2,HO_5,HI0,HK,HB⟩:=hrel
    cases gk with
    | zero => exact absurd HA.out (by simp [spec_l01Text.l0])
    | succ k2 =>
     have H:=HA.out
     clear HA
     simp only [spec_l01Text.l0] at H
     by_cases c7 : x6_2 < x1_2
     ·rw [if_pos c7] at H
      have c7b0 : decide (x6_2 < x1_2) = true:=decide_eq_true c7
      clear c7
      obtain ⟨⟨t232,t233,t234⟩,A8,H⟩:=bX0 H
      dsimp only at H
      by_cases c9 : x5_2.length < 140737488355328
      ·rw [if_pos c9] at H
       have LMc9:=Aside0.mk c9
       clear c9
       obtain ⟨y235,hy235⟩ : ∃ y_ : List Int,y_ = (x5_2 ++ [(t232) % 256]):=⟨_,rfl⟩
       replace H : (spec_l01Text.l0 k2 x1_2 y235 (wrap64 (x6_2 + 1)) s0_0 t233 t234) = some (r1,r2,r3):=by first | (rw [hy235];with_reducible exact H) | (have H2_:=(Option.bind_some _ _).symm.trans H;rw [hy235];with_reducible exact H2_) | (have H2_:=(Option.bind_some _ _).symm.trans H;with_reducible exact H2_) | with_reducible exact H | (rw [hy235];exact H) | exact H
       have Ny235:=Aside0.mk hy235
       clear hy235
       have H':=Aside0.mk H
       clear H
       go_wp2_with (first | ((with_reducible refine gate_callee (f:=76) rfl ?_);refine goesL_ (some 17) rfl rfl Try.func76 (by kernel_rfl) rfl #[.pointer (some ⟨g,0,none⟩)] rfl zM0 ?_;(with_reducible refine (spec_l01Byte.calls g s0_0 x1001_2 x1002_2 t232 t233 t234 w0 _ ?side1 ?side2 A8.out).mono ?_);(case side1 => repeat (first | (with_reducible first | exact HI0.out | apply IsS139.alloc | apply IsS139.drewN | apply IsS139.drew | apply IsS139.set_1 | apply IsS139.set_2) | exact HI0.out));(case side2 => exact zj0 HB HI0);rintro e w10 ⟨rfl,hi,hb,hk⟩;refine ⟨_,rfl,?_⟩;replace HO_5:=Aside0.mk (Kd.R_mono (Kd.R_keep (IsS139.apart (show IsS139 w0 _ g s0_0 x1001_2 x1002_2 from by repeat (first | (with_reducible first | exact HI0.out | apply IsS139.alloc | apply IsS139.drewN | apply IsS139.drew | apply IsS139.set_1 | apply IsS139.set_2) | exact HI0.out)) (zR0 HO_5.out) (by decide)) hk (fun _ h => h.2)) (fun _ h => h.1));replace HK:=zm0 HK hk;replace HB:=Aside0.mk hb;replace HI0:=Aside0.mk hi;(try clear hb);(try clear hk);(try clear hi)) | ((with_reducible refine gate_builtin (b:=.append) (xs:=#[.tmp 15,.tmp 19]) rfl ?_);at_builtin;refine Kd.R_append (Kd.int .u8) w.heap.size rfl (.tmp 15) (.tmp 19) 36 5 (.int .u8 0) 1 rfl Try.underlying36 info5 rfl (by decide) (by omega) u5 x5_2 ((t232) % 256) [.int .u8 ((t232) % 256)] (fun _ => True) (fun _ => False) rfl rfl ?aP (fun _ hk => hk.elim) ?aF ?aO (Below.refl _ _) ?aS ?aL ?_;(case aP => exact rfl);(case aF => exact (fun _ _ => trivial));(case aO => exact (zR0 HO_5.out));(case aS => exact (keep_size (w:=w) (g:=g) (row:=none) (zk0 HK)));(case aL => have:=LMc9.out;omega);intro v236 w11 ho hb hg hat;rw [← Ny235.out] at ho;replace HB:=Aside0.mk (below_weaken (zj0 HB HI0) HL.out hb);replace HI0:=Aside0.mk (IsS139.grown (by repeat (first | (with_reducible first | exact HI0.out | apply IsS139.alloc | apply IsS139.drewN | apply IsS139.drew | apply IsS139.set_1 | apply IsS139.set_2) | exact HI0.out)) hg (IsS139.own_ne HI0.out HO_5.out (by decide)));replace HK:=Aside0.mk (KeepBut.trans (zk0 HK) (KeepBut.of_grown hg g) (Kd.R_base2 HO_5.out));have HO237:=Aside0.mk ho;clear HO_5;clear ho hb hg hat))
       go_roundg k2
       case measure => have:=HJ2.out;have:=HK2.out;omega
       case rel => exact ⟨(y235),(wrap64 (x6_2 + 1)),(t233),(t234),zE0,H',⟨by have:=HJ2.out;have:=HK2.out;omega⟩,⟨zR0 HO237.out⟩,⟨by repeat (first | (with_reducible first | exact HI0.out | apply IsS139.alloc | apply IsS139.drewN | apply IsS139.drew | apply IsS139.set_1 | apply IsS139.set_2) | exact HI0.out)⟩,⟨zk0 HK⟩,⟨zj0 HB HI0⟩⟩
      ·rw [if_neg c9] at H
       exact absurd H (by simp)
     ·rw [if_neg c7] at H
      have c7b0 : decide (x6_2 < x1_2) = false:=decide_eq_false c7
      clear c7
      simp only [Option.some.injEq,Prod.mk.injEq] at H
      obtain ⟨rfl,rfl,rfl⟩:=H
      have hcv12:=own_string (P:=Try.prog) Try.underlying36 Try.underlying5 Try.underlying9 (Kd.own_of_R HO_5.out)
      go_wp2
      go_ret
      exact ⟨zW0,by repeat (first | (with_reducible first | exact HI0.out | apply IsS139.alloc | apply IsS139.drewN | apply IsS139.drew | apply IsS139.set_1 | apply IsS139.set_2) | exact HI0.out),zj0 HB HI0,zk0 HK⟩

/-! ### spec_l01Pick: function 113 -/
def spec_l01Pick.f (s0_0 : List Int) (s0_1 : Int) (s0_2 : Int) (l1 : List ByteArray) : Option (ByteArray × Int × Int):=(spec_l01Below.f s0_0 s0_1 s0_2 (l1.length : Int)).bind fun bt238 => (if 0 ≤ bt238.1 then (if bt238.1 < (l1.length : Int) then (some (rdOf ByteArray.empty l1 bt238.1,bt238.2.1,bt238.2.2)) else (none)) else (none))
set_option maxHeartbeats 8000000 in
set_option maxRecDepth 100000 in
theorem spec_l01Pick.calls (g : Nat) (s0_0 : List Int) (s0_1 : Int) (s0_2 : Int) (A1 : Option Addr) (c1 : Nat) (l1 : List ByteArray) (r1 : ByteArray) (r2 : Int) (r3 : Int) (w0 w : World) (hI : IsS139 w0 w g s0_0 s0_1 s0_2) (hB : Below w0.heap.size w0 w) (hr1 : Kd.C Kd.string w A1 l1.length l1) (hc1 : l1.length ≤ c1) (hf1 : ∀ ad,A1 = some ad → 0 < l1.length → ad.block ≠ g) (h : spec_l01Pick.f s0_0 s0_1 s0_2 l1 = some (r1,r2,r3)) :
  Calls Try.prog 113 #[.pointer (some ⟨g,0,none⟩),.slice A1 l1.length c1] w fun e w' => e = .returned (.string r1) ∧ IsS139 w0 w' g s0_0 r2 r3 ∧ Below w0.heap.size w0 w' ∧ KeepBut w w' g none:=by
 have HR1:=Aside0.mk hr1
 have HC1:=Aside0.mk hc1
 clear hr1 hc1
 have HI0:=Aside0.mk hI
 have HK:=Aside0.mk (KeepBut.refl w g none)
 have HL:=Aside0.mk hB.size
 clear hI
 have HW0:=Aside0.mk hB.size
 have HB:=Aside0.mk hB
 clear hB
 have H : ((spec_l01Below.f s0_0 s0_1 s0_2 (l1.length : Int)).bind fun bt238 => (if 0 ≤ bt238.1 then (if bt238.1 < (l1.length : Int) then (some (rdOf ByteArray.empty l1 bt238.1,bt238.2.1,bt238.2.2)) else (none)) else (none))) = some (r1,r2,r3):=h
 clear h
 obtain ⟨⟨t238,t239,t240⟩,A3,H⟩:=bX0 H
 dsimp only at H
 by_cases c4 : 0 ≤ t238
 ·rw [if_pos c4] at H
  have c4b0 : decide (0 ≤ t238) = true:=decide_eq_true c4
  clear c4
  by_cases c5 : t238 < (l1.length : Int)
  ·rw [if_pos c5] at H
   have c5b0 : decide (t238 < (l1.length : Int)) = true:=decide_eq_true c5
   clear c5
   simp only [Option.some.injEq,Prod.mk.injEq] at H
   obtain ⟨rfl,rfl,rfl⟩:=H
   go_enter Try.func113,Try.ntmps113
   go_wp2_with (first | ((with_reducible refine gate_callee (f:=72) rfl ?_);refine goesL_ (some 9) rfl rfl Try.func72 (by kernel_rfl) rfl #[.pointer (some ⟨g,0,none⟩),.int .i64 (l1.length : Int)] rfl zM0 ?_;(with_reducible refine (spec_l01Below.calls g s0_0 s0_1 s0_2 (l1.length : Int) t238 t239 t240 w0 _ ?side1 ?side2 A3.out).mono ?_);(case side1 => repeat (first | (with_reducible first | exact HI0.out | apply IsS139.alloc | apply IsS139.drewN | apply IsS139.drew | apply IsS139.set_1 | apply IsS139.set_2) | exact HI0.out));(case side2 => exact zj0 HB HI0);rintro e w6 ⟨rfl,hi,hb,hk⟩;refine ⟨_,rfl,?_⟩;replace HK:=zm0 HK hk;replace HB:=Aside0.mk hb;replace HI0:=Aside0.mk hi;(try clear hb);(try clear hk);(try clear hi);have p241 : 0 ≤ (t238 : Int):=zD0;have q241 : t238 < (l1.length : Int):=zD0;obtain ⟨ad241,e241,hx241_0⟩:=Kd.at_string HR1.out t238 p241 q241;cases e241;replace hx241_0:=keep_cell HK.out hx241_0 (by first | (rw [add_block];exact hf1 _ rfl (by omega)) | exact hf1 _ rfl (by omega) | exact hf1 ad241 rfl (by omega));replace p241:=eq_true p241;replace q241:=eq_true q241))
   go_ret
   exact ⟨zW0,by repeat (first | (with_reducible first | exact HI0.out | apply IsS139.alloc | apply IsS139.drewN | apply IsS139.drew | apply IsS139.set_1 | apply IsS139.set_2) | exact HI0.out),zj0 HB HI0,zk0 HK⟩
  ·rw [if_neg c5] at H
   exact absurd H (by simp)
 ·rw [if_neg c4] at H
  exact absurd H (by simp)

/-! ### spec_l03Named: function 75 -/
def spec_l03Named.f (s0_0 : List Int) (s0_1 : Int) (s0_2 : Int) : Option (ByteArray × Int × Int):=(spec_l01Pick.f s0_0 s0_1 s0_2 (([(⟨#[97]⟩ : ByteArray),(⟨#[98]⟩ : ByteArray),(⟨#[99]⟩ : ByteArray),(⟨#[98,48]⟩ : ByteArray),(⟨#[98,49]⟩ : ByteArray),(⟨#[98,50]⟩ : ByteArray),(⟨#[109,43]⟩ : ByteArray),(⟨#[120]⟩ : ByteArray)] : List ByteArray))).bind fun bt245 => (some (bt245.1,bt245.2.1,bt245.2.2))
set_option maxHeartbeats 8000000 in
set_option maxRecDepth 100000 in
theorem spec_l03Named.calls (g : Nat) (s0_0 : List Int) (s0_1 : Int) (s0_2 : Int) (r1 : ByteArray) (r2 : Int) (r3 : Int) (w0 w : World) (hI : IsS139 w0 w g s0_0 s0_1 s0_2) (hB : Below w0.heap.size w0 w) (h : spec_l03Named.f s0_0 s0_1 s0_2 = some (r1,r2,r3)) :
  Calls Try.prog 75 #[.pointer (some ⟨g,0,none⟩)] w fun e w' => e = .returned (.string r1) ∧ IsS139 w0 w' g s0_0 r2 r3 ∧ Below w0.heap.size w0 w' ∧ KeepBut w w' g none:=by
 have HI0:=Aside0.mk hI
 have HK:=Aside0.mk (KeepBut.refl w g none)
 have HL:=Aside0.mk hB.size
 clear hI
 have HW0:=Aside0.mk hB.size
 have HB:=Aside0.mk hB
 clear hB
 have H : ((spec_l01Pick.f s0_0 s0_1 s0_2 (([(⟨#[97]⟩ : ByteArray),(⟨#[98]⟩ : ByteArray),(⟨#[99]⟩ : ByteArray),(⟨#[98,48]⟩ : ByteArray),(⟨#[98,49]⟩ : ByteArray),(⟨#[98,50]⟩ : ByteArray),(⟨#[109,43]⟩ : ByteArray),(⟨#[120]⟩ : ByteArray)] : List ByteArray))).bind fun bt245 => (some (bt245.1,bt245.2.1,bt245.2.2))) = some (r1,r2,r3):=h
 clear h
 obtain ⟨y242,hy242⟩ : ∃ y_ : List ByteArray,y_ = (([(⟨#[97]⟩ : ByteArray),(⟨#[98]⟩ : ByteArray),(⟨#[99]⟩ : ByteArray),(⟨#[98,48]⟩ : ByteArray),(⟨#[98,49]⟩ : ByteArray),(⟨#[98,50]⟩ : ByteArray),(⟨#[109,43]⟩ : ByteArray),(⟨#[120]⟩ : ByteArray)] : List ByteArray)):=⟨_,rfl⟩
 replace H : ((spec_l01Pick.f s0_0 s0_1 s0_2 y242).bind fun bt245 => (some (bt245.1,bt245.2.1,bt245.2.2))) = some (r1,r2,r3):=by first | (rw [hy242];with_reducible exact H) | (have H2_:=(Option.bind_some _ _).symm.trans H;rw [hy242];with_reducible exact H2_) | (have H2_:=(Option.bind_some _ _).symm.trans H;with_reducible exact H2_) | with_reducible exact H | (rw [hy242];exact H) | exact H
 have Ny242:=Aside0.mk hy242
 clear hy242
 obtain ⟨⟨t245,t246,t247⟩,A2,H⟩:=bX0 H
 dsimp only at H
 simp only [Option.some.injEq,Prod.mk.injEq] at H
 obtain ⟨rfl,rfl,rfl⟩:=H
 go_enter Try.func75,Try.ntmps75
 go_wp2_with (first | ((with_reducible refine gate_dst (N:=4) rfl ?_);refine Kd.R_lit Kd.string _ 9 ?hg (N:=4) ?hd (xs:=([(⟨#[97]⟩ : ByteArray),(⟨#[98]⟩ : ByteArray),(⟨#[99]⟩ : ByteArray),(⟨#[98,48]⟩ : ByteArray),(⟨#[98,49]⟩ : ByteArray),(⟨#[98,50]⟩ : ByteArray),(⟨#[109,43]⟩ : ByteArray),(⟨#[120]⟩ : ByteArray)] : List ByteArray)) (inner:=[.string (⟨#[97]⟩ : ByteArray),.string (⟨#[98]⟩ : ByteArray),.string (⟨#[99]⟩ : ByteArray),.string (⟨#[98,48]⟩ : ByteArray),.string (⟨#[98,49]⟩ : ByteArray),.string (⟨#[98,50]⟩ : ByteArray),.string (⟨#[109,43]⟩ : ByteArray),.string (⟨#[120]⟩ : ByteArray)]) (ok:=fun _ => True) (okp:=fun _ => True) ?hr ?hp (fun _ hk => hk) trivial (Below.refl _ _) (Nat.le_refl _) (by simp) ?_;(case hd => rfl);(case hg => rfl);(case hr => first | (go_simp;done) | (go_simp;rfl));(case hp => exact (Reps.one (show Kd.M Kd.string _ _ _ (⟨#[97]⟩ : ByteArray) [.string (⟨#[97]⟩ : ByteArray)] from rfl) (Reps.one (show Kd.M Kd.string _ _ _ (⟨#[98]⟩ : ByteArray) [.string (⟨#[98]⟩ : ByteArray)] from rfl) (Reps.one (show Kd.M Kd.string _ _ _ (⟨#[99]⟩ : ByteArray) [.string (⟨#[99]⟩ : ByteArray)] from rfl) (Reps.one (show Kd.M Kd.string _ _ _ (⟨#[98,48]⟩ : ByteArray) [.string (⟨#[98,48]⟩ : ByteArray)] from rfl) (Reps.one (show Kd.M Kd.string _ _ _ (⟨#[98,49]⟩ : ByteArray) [.string (⟨#[98,49]⟩ : ByteArray)] from rfl) (Reps.one (show Kd.M Kd.string _ _ _ (⟨#[98,50]⟩ : ByteArray) [.string (⟨#[98,50]⟩ : ByteArray)] from rfl) (Reps.one (show Kd.M Kd.string _ _ _ (⟨#[109,43]⟩ : ByteArray) [.string (⟨#[109,43]⟩ : ByteArray)] from rfl) (Reps.one (show Kd.M Kd.string _ _ _ (⟨#[120]⟩ : ByteArray) [.string (⟨#[120]⟩ : ByteArray)] from rfl) (Reps.none _ _))))))))));intro v243 w3 ho4 hb hg_ hnew_;clear hg_ hnew_;(first | rw [← Ny242.out] at ho4 | (simp only [Int.reduceToNat] at ho4;rw [← Ny242.out] at ho4));have HO244:=Aside0.mk (Kd.R_lower ho4 (keep_size (w:=w) (g:=g) (row:=none) (zk0 HK)));replace HK:=Aside0.mk (KeepBut.trans (zk0 HK) (KeepBut.of_below hb g none) (.inl rfl));replace HB:=Aside0.mk (below_step (zj0 HB HI0) hb);replace HI0:=Aside0.mk (IsS139.below (by repeat (first | (with_reducible first | exact HI0.out | apply IsS139.alloc | apply IsS139.drewN | apply IsS139.drew | apply IsS139.set_1 | apply IsS139.set_2) | exact HI0.out)) hb);clear hb ho4;obtain ⟨Ao5,co5,eo5⟩:=Kd.R_slice HO244.out;subst eo5) | ((with_reducible refine gate_callee (f:=113) rfl ?_);refine goesL_ (some 5) rfl rfl Try.func113 (by kernel_rfl) rfl #[.pointer (some ⟨g,0,none⟩),.slice Ao5 y242.length co5] rfl zM0 ?_;(with_reducible refine (spec_l01Pick.calls g s0_0 s0_1 s0_2 _ _ y242 t245 t246 t247 w0 _ ?side1 ?side2 ?side3 ?side4 ?side5 A2.out).mono ?_);(case side1 => repeat (first | (with_reducible first | exact HI0.out | apply IsS139.alloc | apply IsS139.drewN | apply IsS139.drew | apply IsS139.set_1 | apply IsS139.set_2) | exact HI0.out));(case side2 => exact zj0 HB HI0);(case side3 => exact zA0 ((Kd.R_reads' HO244.out).2.2));(case side4 => exact (Kd.R_reads' HO244.out).2.1);(case side5 => exact far_slice (IsS139.own_ne HI0.out HO244.out (by decide)));rintro e w6 ⟨rfl,hi,hb,hk⟩;refine ⟨_,rfl,?_⟩;replace HO244:=Aside0.mk (Kd.R_mono (Kd.R_keep (IsS139.apart (show IsS139 w0 _ g s0_0 s0_1 s0_2 from by repeat (first | (with_reducible first | exact HI0.out | apply IsS139.alloc | apply IsS139.drewN | apply IsS139.drew | apply IsS139.set_1 | apply IsS139.set_2) | exact HI0.out)) (zR0 HO244.out) (by decide)) hk (fun _ h => h.2)) (fun _ h => h.1));replace HK:=zm0 HK hk;replace HB:=Aside0.mk hb;replace HI0:=Aside0.mk hi;(try clear hb);(try clear hk);(try clear hi)))
 go_ret
 exact ⟨zW0,by repeat (first | (with_reducible first | exact HI0.out | apply IsS139.alloc | apply IsS139.drewN | apply IsS139.drew | apply IsS139.set_1 | apply IsS139.set_2) | exact HI0.out),zj0 HB HI0,zk0 HK⟩

/-! ### spec_l01PickInt: function 116 -/
def spec_l01PickInt.f (s0_0 : List Int) (s0_1 : Int) (s0_2 : Int) (l1 : List Int) : Option (Int × Int × Int):=(spec_l01Below.f s0_0 s0_1 s0_2 (l1.length : Int)).bind fun bt248 => (if 0 ≤ bt248.1 then (if bt248.1 < (l1.length : Int) then (some (rd l1 bt248.1,bt248.2.1,bt248.2.2)) else (none)) else (none))
set_option maxHeartbeats 8000000 in
set_option maxRecDepth 100000 in
theorem spec_l01PickInt.calls (g : Nat) (s0_0 : List Int) (s0_1 : Int) (s0_2 : Int) (A1 : Option Addr) (c1 : Nat) (l1 : List Int) (r1 : Int) (r2 : Int) (r3 : Int) (w0 w : World) (hI : IsS139 w0 w g s0_0 s0_1 s0_2) (hB : Below w0.heap.size w0 w) (hr1 : Kd.C (Kd.int .i64) w A1 l1.length l1) (hc1 : l1.length ≤ c1) (hf1 : ∀ ad,A1 = some ad → 0 < l1.length → ad.block ≠ g) (h : spec_l01PickInt.f s0_0 s0_1 s0_2 l1 = some (r1,r2,r3)) :
  Calls Try.prog 116 #[.pointer (some ⟨g,0,none⟩),.slice A1 l1.length c1] w fun e w' => e = .returned (.int .i64 r1) ∧ IsS139 w0 w' g s0_0 r2 r3 ∧ Below w0.heap.size w0 w' ∧ KeepBut w w' g none:=by
 have HR1:=Aside0.mk hr1
 have HC1:=Aside0.mk hc1
 clear hr1 hc1
 have HI0:=Aside0.mk hI
 have HK:=Aside0.mk (KeepBut.refl w g none)
 have HL:=Aside0.mk hB.size
 clear hI
 have HW0:=Aside0.mk hB.size
 have HB:=Aside0.mk hB
 clear hB
 have H : ((spec_l01Below.f s0_0 s0_1 s0_2 (l1.length : Int)).bind fun bt248 => (if 0 ≤ bt248.1 then (if bt248.1 < (l1.length : Int) then (some (rd l1 bt248.1,bt248.2.1,bt248.2.2)) else (none)) else (none))) = some (r1,r2,r3):=h
 clear h
 obtain ⟨⟨t248,t249,t250⟩,A3,H⟩:=bX0 H
 dsimp only at H
 by_cases c4 : 0 ≤ t248
 ·rw [if_pos c4] at H
  have c4b0 : decide (0 ≤ t248) = true:=decide_eq_true c4
  clear c4
  by_cases c5 : t248 < (l1.length : Int)
  ·rw [if_pos c5] at H
   have c5b0 : decide (t248 < (l1.length : Int)) = true:=decide_eq_true c5
   clear c5
   simp only [Option.some.injEq,Prod.mk.injEq] at H
   obtain ⟨rfl,rfl,rfl⟩:=H
   go_enter Try.func116,Try.ntmps116
   go_wp2_with (first | ((with_reducible refine gate_callee (f:=72) rfl ?_);refine goesL_ (some 9) rfl rfl Try.func72 (by kernel_rfl) rfl #[.pointer (some ⟨g,0,none⟩),.int .i64 (l1.length : Int)] rfl zM0 ?_;(with_reducible refine (spec_l01Below.calls g s0_0 s0_1 s0_2 (l1.length : Int) t248 t249 t250 w0 _ ?side1 ?side2 A3.out).mono ?_);(case side1 => repeat (first | (with_reducible first | exact HI0.out | apply IsS139.alloc | apply IsS139.drewN | apply IsS139.drew | apply IsS139.set_1 | apply IsS139.set_2) | exact HI0.out));(case side2 => exact zj0 HB HI0);rintro e w6 ⟨rfl,hi,hb,hk⟩;refine ⟨_,rfl,?_⟩;replace HK:=zm0 HK hk;replace HB:=Aside0.mk hb;replace HI0:=Aside0.mk hi;(try clear hb);(try clear hk);(try clear hi);have p251 : 0 ≤ (t248 : Int):=zD0;have q251 : t248 < (l1.length : Int):=zD0;obtain ⟨ad251,e251,hx251_0⟩:=Kd.at_int HR1.out t248 p251 q251;cases e251;replace hx251_0:=keep_cell HK.out hx251_0 (by first | (rw [add_block];exact hf1 _ rfl (by omega)) | exact hf1 _ rfl (by omega) | exact hf1 ad251 rfl (by omega));replace p251:=eq_true p251;replace q251:=eq_true q251))
   go_ret
   exact ⟨zW0,by repeat (first | (with_reducible first | exact HI0.out | apply IsS139.alloc | apply IsS139.drewN | apply IsS139.drew | apply IsS139.set_1 | apply IsS139.set_2) | exact HI0.out),zj0 HB HI0,zk0 HK⟩
  ·rw [if_neg c5] at H
   exact absurd H (by simp)
 ·rw [if_neg c4] at H
  exact absurd H (by simp)

/-! ### spec_l01Figure: function 126 -/
def spec_l01Figure.f (a0 : Int) : Option (Int):=if a0 < 10 then (some ((wrap64 (48 + a0)) % 256)) else (some ((wrap64 ((wrap64 (97 + a0)) - 10)) % 256))
set_option maxHeartbeats 8000000 in
set_option maxRecDepth 100000 in
theorem spec_l01Figure.calls (a0 : Int) (r : Int) (w : World) (h : spec_l01Figure.f a0 = some r) :
  Calls Try.prog 126 #[.int .i64 a0] w fun e w' => e = .returned (.int .u8 r) ∧ Drawn0 w w':=by
 have H : (if a0 < 10 then (some ((wrap64 (48 + a0)) % 256)) else (some ((wrap64 ((wrap64 (97 + a0)) - 10)) % 256))) = some r:=h
 clear h
 by_cases c2 : a0 < 10
 ·rw [if_pos c2] at H
  have c2b0 : decide (a0 < 10) = true:=decide_eq_true c2
  clear c2
  obtain rfl:=Option.some.inj H
  go_enter Try.func126,Try.ntmps126
  go_wp2
  go_ret
  exact ⟨by first | rfl | (simp;done) | (simp [*];done),by repeat (first | exact Drawn0.refl _ | apply Drawn0.step)⟩
 ·rw [if_neg c2] at H
  have c2b0 : decide (a0 < 10) = false:=decide_eq_false c2
  clear c2
  obtain rfl:=Option.some.inj H
  go_enter Try.func126,Try.ntmps126
  go_wp2
  go_ret
  exact ⟨by first | rfl | (simp;done) | (simp [*];done),by repeat (first | exact Drawn0.refl _ | apply Drawn0.step)⟩

end Go.Proofs.Ytgfacdhkamphiaa.PFnActs
