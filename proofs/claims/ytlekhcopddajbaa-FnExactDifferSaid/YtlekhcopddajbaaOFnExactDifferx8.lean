/- Walks of functions that the law FnExactDiffer reaches, turned by this session from a print of which a part did not build; what was changed is listed in wip/patches of the proofs' repo. -/
import Derived.Test.YtlekhcopddajbaaOFnExactDifferx0
namespace Go.Proofs.Ytlekhcopddajbaa.PFnExactDiffer
open Go.RowKit Go.Proofs.YtlekhcopddajbaaW.PrintWords Go.Proofs.YtlekhcopddajbaaW.PrintLast Go.Proofs.YtlekhcopddajbaaW.PrintMore
attribute [local go_sem] max2_int min2_int max_two min_two max_three min_three max_four min_four   -- for this text's walks alone
set_option linter.unusedVariables false
set_option linter.unusedSimpArgs false

/-! ### laws_toStringS: function 48 -/
def laws_toStringS.l0 : Nat → List ByteArray → List ByteArray → Int → Option (List ByteArray)
 | 0,_,_,_ => none
 | k + 1,x0,x3,x4 => if x4 < (x0.length : Int) then (if 0 ≤ x4 then (if x4 < (x3.length : Int) then (laws_toStringS.l0 k x0 (x3.set (x4 : Int).toNat (rdOf ByteArray.empty x0 x4)) (wrap64 (x4 + 1))) else (none)) else (none)) else (some x3)
def laws_toStringS.f (k : Nat) (l0 : List ByteArray) : Option (List ByteArray):=if 0 ≤ (l0.length : Int) then (if ((l0.length : Int) : Int).toNat ≤ 17592186044416 then (laws_toStringS.l0 k l0 (List.replicate ((l0.length : Int) : Int).toNat (⟨#[]⟩ : ByteArray)) 0) else (none)) else (none)
theorem laws_toStringS.mono_l : ∀ k,(∀ y0 y1 y2,LeO (laws_toStringS.l0 k y0 y1 y2) (laws_toStringS.l0 (k + 1) y0 y1 y2))
 | 0 => fun _ _ _ r h => by simp [laws_toStringS.l0] at h
 | k + 1 => by
  have ih0:=laws_toStringS.mono_l k
  ·intro y0 y1 y2
   unfold laws_toStringS.l0
   repeat' first
   | (with_reducible exact ih0 _ _ _)
   | (with_reducible exact LeO.refl _)
   | (with_reducible exact LeO.none _)
   | (with_reducible refine LeO.ite ?_ ?_)
   | (with_reducible refine LeO.bind ?_ (fun _ => ?_))
   | exact ih0 _ _ _
   | exact LeO.none _
   | refine LeO.ite ?_ ?_
   | refine LeO.bind ?_ (fun _ => ?_)
theorem laws_toStringS.mono : ∀ a0 k,LeO (laws_toStringS.f k a0) (laws_toStringS.f (k + 1) a0):=by
 intro a0 k
 have ih0:=laws_toStringS.mono_l k
 unfold laws_toStringS.f
 repeat' first
   | (with_reducible exact ih0 _ _ _)
   | (with_reducible exact LeO.refl _)
   | (with_reducible exact LeO.none _)
   | (with_reducible refine LeO.ite ?_ ?_)
   | (with_reducible refine LeO.bind ?_ (fun _ => ?_))
   | exact ih0 _ _ _
   | exact LeO.none _
   | refine LeO.ite ?_ ?_
   | refine LeO.bind ?_ (fun _ => ?_)
set_option maxHeartbeats 8000000 in
set_option maxRecDepth 100000 in
theorem laws_toStringS.calls (k : Nat) (A0 : Option Addr) (c0 : Nat) (l0 : List ByteArray) (r : List ByteArray) (w : World) (hr0 : Kd.C Kd.string w A0 l0.length l0) (hc0 : l0.length ≤ c0) (h : laws_toStringS.f k l0 = some r) :
  Calls Try.prog 48 #[.slice A0 l0.length c0] w fun e w' => ∃ v0_ : Value,e = .returned (v0_) ∧ Kd.R Kd.string 9 w' w.heap.size (fun _ => True) v0_ r ∧ Below w.heap.size w w':=by
 have HR0:=Aside0.mk hr0
 have HC0:=Aside0.mk hc0
 clear hr0 hc0
 have HB:=Aside0.mk (Below.refl w.heap.size w)
 have H : (if 0 ≤ (l0.length : Int) then (if ((l0.length : Int) : Int).toNat ≤ 17592186044416 then (laws_toStringS.l0 k l0 (List.replicate ((l0.length : Int) : Int).toNat (⟨#[]⟩ : ByteArray)) 0) else (none)) else (none)) = some r:=h
 clear h
 by_cases c2 : 0 ≤ (l0.length : Int)
 ·rw [if_pos c2] at H
  have c2b0:=eq_true c2
  have c2b1 : decide (0 ≤ (l0.length : Int)) = true:=decide_eq_true c2
  clear c2
  by_cases c3 : ((l0.length : Int) : Int).toNat ≤ 17592186044416
  ·rw [if_pos c3] at H
   have c3b0:=eq_true c3
   have c3b1 : decide (((l0.length : Int) : Int).toNat ≤ 17592186044416) = true:=decide_eq_true c3
   clear c3
   obtain ⟨y183,hy183⟩ : ∃ y_ : List ByteArray,y_ = (List.replicate ((l0.length : Int) : Int).toNat (⟨#[]⟩ : ByteArray)):=⟨_,rfl⟩
   replace H : (laws_toStringS.l0 k l0 y183 0) = some r:=by first | (rw [hy183];with_reducible exact H) | (have H2_:=(Option.bind_some _ _).symm.trans H;rw [hy183];with_reducible exact H2_) | (have H2_:=(Option.bind_some _ _).symm.trans H;with_reducible exact H2_) | with_reducible exact H | (rw [hy183];exact H) | exact H
   have Ny183:=Aside0.mk hy183
   clear hy183
   have H':=Aside0.mk H
   clear H
   go_enter Try.func48,Try.ntmps48
   go_wp2_with (first | ((with_reducible refine gate_dst (N:=7) rfl ?_);refine Kd.R_make Kd.string _ 9 rfl (N:=7) rfl 34 _ _ rfl (l0.length : Int) rfl rfl Try.underlying34 (.string ⟨#[]⟩) 16 info9 rfl (by decide) (by omega) (⟨#[]⟩ : ByteArray) (ok:=fun _ => True) (okp:=fun _ => True) rfl (fun _ hk => hk) trivial (of_decide_eq_true (by first | (with_reducible assumption) | assumption)) (Nat.le_trans (Nat.mul_le_mul_right _ (of_decide_eq_true (by first | (with_reducible assumption) | assumption) : (l0.length : Int).toNat ≤ 17592186044416)) (by omega)) (Below.refl _ _) (Nat.le_refl _) ?_;intro v184 w4 ho5 hb hg_ hnew_;clear hg_ hnew_;(first | rw [← Ny183.out] at ho5 | (simp only [Int.reduceToNat] at ho5;rw [← Ny183.out] at ho5));have n0_:=Aside0.mk (Kd.R_lower ho5 (zZ0 HB.out));have n1_:=Aside0.mk (zS0 HB.out hb);clear HB;have HO185:=n0_;have HB:=n1_;clear n0_ n1_;clear hb ho5))
   go_loopg [4] k (fun kq v4 w' => ∃ (x3_1 : List ByteArray) (x4_1 : Int),v4 = .int .i64 x4_1 ∧ Aside0 (laws_toStringS.l0 kq l0 x3_1 x4_1 = some r) ∧ Aside0 (kq ≤ k) ∧ Aside0 (Kd.R Kd.string 9 w' w.heap.size (fun _ => True) v184 x3_1) ∧ Aside0 (Below w.heap.size w w'))
   case atStart => exact ⟨(y183),(0),(by first | rfl | (simp;done) | (simp [*];done)),H',⟨Nat.le_refl _⟩,⟨by (with_reducible repeat (first | apply Kd.R_alloc | apply Kd.R_drewN | apply Kd.R_drew));exact HO185.out⟩,⟨by repeat (first | (with_reducible first | exact HB.out | apply below_alloc | apply pw_below_drewN | apply below_drew1) | exact HB.out)⟩⟩
   case round =>
    clear H'
    try clear c2
    try clear c2b0
    try clear c2b1
    try clear p2
    try clear c3
    try clear c3b0
    try clear c3b1
    try clear c4
    obtain ⟨x3_1,x4_1,rfl,HA,HK1,HO_3,HB⟩:=hrel
    cases gk with
    | zero => exact absurd HA.out (by simp [laws_toStringS.l0])
    | succ k1 =>
     have H:=HA.out
     clear HA
     simp only [laws_toStringS.l0] at H
     by_cases c6 : x4_1 < (l0.length : Int)
     ·rw [if_pos c6] at H
      have c6b0 : decide (x4_1 < (l0.length : Int)) = true:=decide_eq_true c6
      clear c6
      by_cases c7 : 0 ≤ x4_1
      ·rw [if_pos c7] at H
       have c7b0 : decide (0 ≤ x4_1) = true:=decide_eq_true c7
       clear c7
       by_cases c8 : x4_1 < (x3_1.length : Int)
       ·rw [if_pos c8] at H
        have c8b0 : decide (x4_1 < (x3_1.length : Int)) = true:=decide_eq_true c8
        clear c8
        obtain ⟨y187,hy187⟩ : ∃ y_ : List ByteArray,y_ = (x3_1.set (x4_1 : Int).toNat (rdOf ByteArray.empty l0 x4_1)):=⟨_,rfl⟩
        replace H : (laws_toStringS.l0 k1 l0 y187 (wrap64 (x4_1 + 1))) = some r:=by first | (rw [hy187];with_reducible exact H) | (have H2_:=(Option.bind_some _ _).symm.trans H;rw [hy187];with_reducible exact H2_) | (have H2_:=(Option.bind_some _ _).symm.trans H;with_reducible exact H2_) | with_reducible exact H | (rw [hy187];exact H) | exact H
        have Ny187:=Aside0.mk hy187
        clear hy187
        have H':=Aside0.mk H
        clear H
        have p186 : 0 ≤ (x4_1 : Int):=of_decide_eq_true (by first | (with_reducible assumption) | assumption)
        have q186 : x4_1 < (l0.length : Int):=of_decide_eq_true (by first | (with_reducible assumption) | assumption)
        obtain ⟨ad186,e186,hx186_0⟩:=Kd.at_string HR0.out x4_1 p186 q186
        cases e186
        replace hx186_0:=(HB.out.cell (World.block_lt_of_cell? w _ hx186_0)).trans hx186_0
        replace p186:=eq_true p186
        replace q186:=eq_true q186
        have p9 : 0 ≤ (x4_1 : Int):=of_decide_eq_true (by first | (with_reducible assumption) | assumption)
        have q9 : (x4_1 : Int) < ((x3_1.length : Int) : Int):=of_decide_eq_true (by first | (with_reducible assumption) | assumption)
        obtain ⟨go9,co9,eo9,gb9,gl9,cl9,HG9⟩:=Kd.R_form HO_3.out (by omega)
        (first | cases eo9 | (injection eo9 with ea_ en_ ec_;(first | subst ea_ | (injection ea_ with ea_;subst ea_));subst ec_;clear en_))
        have GB9:=Aside0.mk gb9
        have GG9:=Aside0.mk HG9
        clear gb9 gl9 HG9
        obtain ⟨hx9_0,hf9_0⟩:=Kd.R_celln (⟨#[]⟩ : ByteArray) HO_3.out (x4_1 : Int) p9 q9
        replace p9:=eq_true p9
        replace q9:=eq_true q9
        have HP10:=Kd.R_putg HO_3.out (x4_1 : Int) (rdOf ByteArray.empty l0 x4_1)
        go_wp2_with (first | ((with_reducible refine gate_store (t:=9) (p:=20) rfl ?_);refine store_event (t:=9) (p:=20) (v:=?vo_w11) (w1:=(wr.setCell ⟨go9,(x4_1 : Int).toNat,none⟩ (.string (rdOf ByteArray.empty l0 x4_1)))) ?hg ?ho ?hn ?hr ?_;(case ho => rfl);(case hg => rfl);(case hn => rfl);(case hr => first | (go_simp;done) | (go_simp;rfl));intro w11 hw;have hg : wr.grownBy w11 (some go9):=(by rw [hw];exact HP10.2);have hp_ : Kd.R Kd.string 9 w11 w.heap.size (fun _ => True) (.slice (some ⟨go9,0,none⟩) x3_1.length co9) y187:=(by rw [hw,Ny187.out];exact HP10.1);clear HP10;have n0_:=Aside0.mk (hp_);have n1_:=Aside0.mk ((by rw [hw];exact below_set (HB.out) GB9.out : Below w.heap.size w w11));clear HO_3;clear HB;have HO_3:=n0_;have HB:=n1_;clear n0_ n1_;clear hg hw hp_))
        go_roundg k1
        case measure => have:=HK1.out;omega
        case rel => exact ⟨(y187),(wrap64 (x4_1 + 1)),(by first | rfl | (simp;done) | (simp [*];done)),H',⟨by have:=HK1.out;omega⟩,⟨by (with_reducible repeat (first | apply Kd.R_alloc | apply Kd.R_drewN | apply Kd.R_drew));exact HO_3.out⟩,⟨by repeat (first | (with_reducible first | exact HB.out | apply below_alloc | apply pw_below_drewN | apply below_drew1) | exact HB.out)⟩⟩
       ·rw [if_neg c8] at H
        exact absurd H (by simp)
      ·rw [if_neg c7] at H
       exact absurd H (by simp)
     ·rw [if_neg c6] at H
      have c6b0 : decide (x4_1 < (l0.length : Int)) = false:=decide_eq_false c6
      clear c6
      obtain rfl:=Option.some.inj H
      go_wp2
      go_ret
      exact ⟨_,by first | rfl | (simp [errW_none,errW_some] <;> rfl) | (simp [*,errW_none,errW_some] <;> rfl),by (with_reducible repeat (first | apply Kd.R_alloc | apply Kd.R_drewN | apply Kd.R_drew));exact HO_3.out,by repeat (first | (with_reducible first | exact HB.out | apply below_alloc | apply pw_below_drewN | apply below_drew1) | exact HB.out)⟩
  ·rw [if_neg c3] at H
   exact absurd H (by simp)
 ·rw [if_neg c2] at H
  exact absurd H (by simp)

/-! ### laws_toVal: function 34 -/
def laws_toVal.f (k : Nat) (a0_0 : Int) (a0_1 : Int) (a0_2 : ByteArray) (l0_3 : List ByteArray) : Option (Int × Int × ByteArray × List ByteArray):=(laws_toStringS.f k l0_3).bind fun t191 => (some (a0_0,a0_1,a0_2,t191))
theorem laws_toVal.mono : ∀ a0 a1 a2 a3 k,LeO (laws_toVal.f k a0 a1 a2 a3) (laws_toVal.f (k + 1) a0 a1 a2 a3):=by
 intro a0 a1 a2 a3 k
 unfold laws_toVal.f
 repeat' first
   | (with_reducible exact laws_toStringS.mono _ _)
   | (with_reducible exact LeO.refl _)
   | (with_reducible exact LeO.none _)
   | (with_reducible refine LeO.ite ?_ ?_)
   | (with_reducible refine LeO.bind ?_ (fun _ => ?_))
   | exact laws_toStringS.mono _ _
   | exact LeO.none _
   | refine LeO.ite ?_ ?_
   | refine LeO.bind ?_ (fun _ => ?_)
set_option maxHeartbeats 8000000 in
set_option maxRecDepth 100000 in
theorem laws_toVal.calls (k : Nat) (a0_0 : Int) (a0_1 : Int) (a0_2 : ByteArray) (A0_3 : Option Addr) (c0_3 : Nat) (l0_3 : List ByteArray) (r1 : Int) (r2 : Int) (r3 : ByteArray) (r4 : List ByteArray) (w : World) (hr0_3 : Kd.C Kd.string w A0_3 l0_3.length l0_3) (hc0_3 : l0_3.length ≤ c0_3) (h : laws_toVal.f k a0_0 a0_1 a0_2 l0_3 = some (r1,r2,r3,r4)) :
  Calls Try.prog 34 #[.agg #[.int .i64 a0_0,.int .i64 a0_1,.string a0_2,.slice A0_3 l0_3.length c0_3]] w fun e w' => ∃ v3_ : Value,e = .returned (.agg #[.int .i64 r1,.int .i64 r2,.string r3,v3_]) ∧ Kd.R Kd.string 9 w' w.heap.size (fun _ => True) v3_ r4 ∧ Below w.heap.size w w':=by
 have hu36:=Try.underlying36
 have hu40:=Try.underlying40
 have HR0_3:=Aside0.mk hr0_3
 have HC0_3:=Aside0.mk hc0_3
 clear hr0_3 hc0_3
 have HB:=Aside0.mk (Below.refl w.heap.size w)
 have H : ((laws_toStringS.f k l0_3).bind fun t191 => (some (a0_0,a0_1,a0_2,t191))) = some (r1,r2,r3,r4):=h
 clear h
 replace H:=Option.bind_eq_some_iff.mp H
 obtain ⟨t191,A20,H⟩:=H
 replace H : (some (a0_0,a0_1,a0_2,t191)) = some (r1,r2,r3,r4):=H
 have A2:=Aside0.mk A20
 clear A20
 simp only [Option.some.injEq,Prod.mk.injEq] at H
 obtain ⟨rfl,rfl,rfl,rfl⟩:=H
 go_enter Try.func34,Try.ntmps34
 go_wp2_with (first | ((with_reducible refine gate_dst (N:=1) rfl ?_);refine box_event ?hg (N:=1) ?hd (cs:=#[.int .i64 a0_0,.int .i64 a0_1,.string a0_2,.slice A0_3 l0_3.length c0_3]) (t:=36) ?hr ?_;(case hd => rfl);(case hg => rfl);(case hr => first | (go_simp;done) | (go_simp;rfl));intro gb188 hg w3 hbox hb;have n0_:=Aside0.mk (zS0 HB.out hb);have n1_:=Aside0.mk (hbox);have n2_:=Aside0.mk ((by rw [hg];exact (zZ0 HB.out) : w.heap.size ≤ gb188));have n3_:=Aside0.mk ((by rw [hg];exact (zZ0 HB.out) : w.heap.size ≤ gb188));clear HB;have HB:=n0_;have BK188:=n1_;have GW188:=n2_;have GE188:=n3_;clear n0_ n1_ n2_ n3_;clear hb hbox hg) | ((with_reducible refine gate_dst (N:=2) rfl ?_);refine box_event ?hg (N:=2) ?hd (cs:=#[.int .i64 0,.int .i64 0,.string (⟨#[]⟩ : ByteArray),.slice none 0 0]) (t:=40) ?hr ?_;(case hd => rfl);(case hg => rfl);(case hr => first | (go_simp;done) | (go_simp;rfl));intro gb189 hg w4 hbox hb;have n0_:=Aside0.mk (zB0 BK188.out hb);have n1_:=Aside0.mk (zS0 HB.out hb);have n2_:=Aside0.mk (hbox);have n3_:=Aside0.mk ((by rw [hg];exact (zZ0 HB.out) : w.heap.size ≤ gb189));have n4_:=Aside0.mk ((by rw [hg];exact (zZ0 HB.out) : w.heap.size ≤ gb189));have n5_:=Aside0.mk ((zL0 hg BK188.out : gb188 ≠ gb189));have n6_:=Aside0.mk ((zG0 hg BK188.out : gb189 ≠ gb188));clear BK188;clear HB;have BK188:=n0_;have HB:=n1_;have BK189:=n2_;have GW189:=n3_;have GE189:=n4_;have NB188_189:=n5_;have NB189_188:=n6_;clear n0_ n1_ n2_ n3_ n4_ n5_ n6_;clear hb hbox hg) | ((with_reducible refine gate_dst (N:=3) rfl ?_);refine box_event ?hg (N:=3) ?hd (cs:=#[.int .i64 0,.int .i64 0,.string (⟨#[]⟩ : ByteArray),.slice none 0 0]) (t:=40) ?hr ?_;(case hd => rfl);(case hg => rfl);(case hr => first | (go_simp;done) | (go_simp;rfl));intro gb190 hg w5 hbox hb;have n0_:=Aside0.mk (zB0 BK188.out hb);have n1_:=Aside0.mk (zB0 BK189.out hb);have n2_:=Aside0.mk (zS0 HB.out hb);have n3_:=Aside0.mk (hbox);have n4_:=Aside0.mk ((by rw [hg];exact (zZ0 HB.out) : w.heap.size ≤ gb190));have n5_:=Aside0.mk ((by rw [hg];exact (zZ0 HB.out) : w.heap.size ≤ gb190));have n6_:=Aside0.mk ((zL0 hg BK188.out : gb188 ≠ gb190));have n7_:=Aside0.mk ((zG0 hg BK188.out : gb190 ≠ gb188));have n8_:=Aside0.mk ((zL0 hg BK189.out : gb189 ≠ gb190));have n9_:=Aside0.mk ((zG0 hg BK189.out : gb190 ≠ gb189));clear BK188;clear BK189;clear HB;have BK188:=n0_;have BK189:=n1_;have HB:=n2_;have BK190:=n3_;have GW190:=n4_;have GE190:=n5_;have NB188_190:=n6_;have NB190_188:=n7_;have NB189_190:=n8_;have NB190_189:=n9_;clear n0_ n1_ n2_ n3_ n4_ n5_ n6_ n7_ n8_ n9_;clear hb hbox hg;have hnb6:=NB188_189.out;have hnc6:=NB189_188.out;have hnb7:=NB188_190.out;have hnc7:=NB190_188.out;have hcz8_0 : w5.cell? ⟨gb188,0,none⟩ = some (.int .i64 a0_0):=(blk_cell BK188.out 0).trans rfl;have hcz8_1 : w5.cell? ⟨gb188,1,none⟩ = some (.int .i64 a0_1):=(blk_cell BK188.out 1).trans rfl;have hcz8_2 : w5.cell? ⟨gb188,2,none⟩ = some (.string a0_2):=(blk_cell BK188.out 2).trans rfl;have hcz8_3 : w5.cell? ⟨gb188,3,none⟩ = some (.slice A0_3 l0_3.length c0_3):=(blk_cell BK188.out 3).trans rfl;have hfz8_0:=blk_frozen BK188.out 0;have hfz8_1:=blk_frozen BK188.out 1;have hfz8_2:=blk_frozen BK188.out 2;have hfz8_3:=blk_frozen BK188.out 3;have hnb9:=NB190_189.out;have hnc9:=NB189_190.out;have hcz10_0 : w5.cell? ⟨gb190,0,none⟩ = some (.int .i64 0):=(blk_cell BK190.out 0).trans rfl;have hcz10_1 : w5.cell? ⟨gb190,1,none⟩ = some (.int .i64 0):=(blk_cell BK190.out 1).trans rfl;have hcz10_2 : w5.cell? ⟨gb190,2,none⟩ = some (.string (⟨#[]⟩ : ByteArray)):=(blk_cell BK190.out 2).trans rfl;have hcz10_3 : w5.cell? ⟨gb190,3,none⟩ = some (.slice none 0 0):=(blk_cell BK190.out 3).trans rfl;have hfz10_0:=blk_frozen BK190.out 0;have hfz10_1:=blk_frozen BK190.out 1;have hfz10_2:=blk_frozen BK190.out 2;have hfz10_3:=blk_frozen BK190.out 3) | ((with_reducible refine gate_callee (f:=48) rfl ?_);refine goesL_ (some 15) rfl rfl Try.func48 (by kernel_rfl) rfl #[.slice A0_3 l0_3.length c0_3] rfl zM0 ?_;(with_reducible refine (laws_toStringS.calls k _ _ l0_3 t191 _ ?side1 ?side2 A2.out).mono ?_);(case side1 => exact Kd.C_below HR0_3.out (by repeat (first | (with_reducible first | exact HB.out | apply below_alloc | apply pw_below_drewN | apply below_drew1 | refine below_set ?_ GE188.out | refine below_set ?_ GE189.out | refine below_set ?_ GE190.out) | exact HB.out)));(case side2 => exact HC0_3.out);rintro e w11 ⟨v192,rfl,ho0,hb⟩;refine ⟨_,rfl,?_⟩;have n0_:=Aside0.mk (Kd.R_lower ho0 (zZ0 HB.out));have n1_:=Aside0.mk (blk_below (g:=gb188) (o:=.cells #[.int .i64 a0_0,.int .i64 a0_1,.string a0_2,.slice A0_3 l0_3.length c0_3] 36 (0,0)) (by (with_reducible repeat (first | refine blk_drewN ?_ _ | refine blk_drew ?_ | refine blk_alloc ?_ _));refine blk_far ?_ NB188_190.out _;(with_reducible repeat (first | refine blk_drewN ?_ _ | refine blk_drew ?_ | refine blk_alloc ?_ _));refine blk_far ?_ NB188_190.out _;(with_reducible repeat (first | refine blk_drewN ?_ _ | refine blk_drew ?_ | refine blk_alloc ?_ _));refine blk_far ?_ NB188_190.out _;(with_reducible repeat (first | refine blk_drewN ?_ _ | refine blk_drew ?_ | refine blk_alloc ?_ _));exact BK188.out) hb);have n2_:=Aside0.mk (blk_below (g:=gb189) (o:=.cells #[.int .i64 0,.int .i64 0,.string (⟨#[]⟩ : ByteArray),.slice none 0 0] 40 (0,0)) (by (with_reducible repeat (first | refine blk_drewN ?_ _ | refine blk_drew ?_ | refine blk_alloc ?_ _));refine blk_far ?_ NB189_190.out _;(with_reducible repeat (first | refine blk_drewN ?_ _ | refine blk_drew ?_ | refine blk_alloc ?_ _));refine blk_far ?_ NB189_190.out _;(with_reducible repeat (first | refine blk_drewN ?_ _ | refine blk_drew ?_ | refine blk_alloc ?_ _));refine blk_far ?_ NB189_190.out _;(with_reducible repeat (first | refine blk_drewN ?_ _ | refine blk_drew ?_ | refine blk_alloc ?_ _));exact BK189.out) hb);have n3_:=Aside0.mk (blk_below (g:=gb190) (o:=.cells #[.int .i64 a0_0,.int .i64 a0_1,.string a0_2,.slice none 0 0] 40 (0,0)) (by (with_reducible repeat (first | refine blk_drewN ?_ _ | refine blk_drew ?_ | refine blk_alloc ?_ _));refine blk_put (cs:=#[.int .i64 a0_0,.int .i64 a0_1,.string (⟨#[]⟩ : ByteArray),.slice none 0 0]) ?_ 2 _ rfl;(with_reducible repeat (first | refine blk_drewN ?_ _ | refine blk_drew ?_ | refine blk_alloc ?_ _));refine blk_put (cs:=#[.int .i64 a0_0,.int .i64 0,.string (⟨#[]⟩ : ByteArray),.slice none 0 0]) ?_ 1 _ rfl;(with_reducible repeat (first | refine blk_drewN ?_ _ | refine blk_drew ?_ | refine blk_alloc ?_ _));refine blk_put (cs:=#[.int .i64 0,.int .i64 0,.string (⟨#[]⟩ : ByteArray),.slice none 0 0]) ?_ 0 _ rfl;(with_reducible repeat (first | refine blk_drewN ?_ _ | refine blk_drew ?_ | refine blk_alloc ?_ _));exact BK190.out) hb);have n4_:=Aside0.mk (zS0 HB.out hb);clear BK188;clear BK189;clear BK190;clear HB;have HO193:=n0_;have BK188:=n1_;have BK189:=n2_;have BK190:=n3_;have HB:=n4_;clear n0_ n1_ n2_ n3_ n4_;(try clear hb);(try clear hb2);(try clear hk);(try clear hi);(try clear ho0);obtain ⟨Ao12,co12,eo12⟩:=Kd.R_slice HO193.out;subst eo12;have hcz13_0 : w11.cell? ⟨gb190,0,none⟩ = some (.int .i64 a0_0):=(blk_cell BK190.out 0).trans rfl;have hcz13_1 : w11.cell? ⟨gb190,1,none⟩ = some (.int .i64 a0_1):=(blk_cell BK190.out 1).trans rfl;have hcz13_2 : w11.cell? ⟨gb190,2,none⟩ = some (.string a0_2):=(blk_cell BK190.out 2).trans rfl;have hcz13_3 : w11.cell? ⟨gb190,3,none⟩ = some (.slice none 0 0):=(blk_cell BK190.out 3).trans rfl;have hfz13_0:=blk_frozen BK190.out 0;have hfz13_1:=blk_frozen BK190.out 1;have hfz13_2:=blk_frozen BK190.out 2;have hfz13_3:=blk_frozen BK190.out 3;have hcz14_0 : w11.cell? ⟨gb189,0,none⟩ = some (.int .i64 0):=(blk_cell BK189.out 0).trans rfl;have hcz14_1 : w11.cell? ⟨gb189,1,none⟩ = some (.int .i64 0):=(blk_cell BK189.out 1).trans rfl;have hcz14_2 : w11.cell? ⟨gb189,2,none⟩ = some (.string (⟨#[]⟩ : ByteArray)):=(blk_cell BK189.out 2).trans rfl;have hcz14_3 : w11.cell? ⟨gb189,3,none⟩ = some (.slice none 0 0):=(blk_cell BK189.out 3).trans rfl;have hfz14_0:=blk_frozen BK189.out 0;have hfz14_1:=blk_frozen BK189.out 1;have hfz14_2:=blk_frozen BK189.out 2;have hfz14_3:=blk_frozen BK189.out 3))
 refine bodyPost_ret (results_cell_row rfl _ _ gb189 40 #[.int .i64 a0_0,.int .i64 a0_1,.string a0_2,.slice Ao12 t191.length co12] (0,0) _ rfl (by (with_reducible repeat (first | refine blk_drewN ?_ _ | refine blk_drew ?_ | refine blk_alloc ?_ _));refine blk_put (cs:=#[.int .i64 a0_0,.int .i64 a0_1,.string a0_2,.slice none 0 0]) ?_ 3 _ rfl;(with_reducible repeat (first | refine blk_drewN ?_ _ | refine blk_drew ?_ | refine blk_alloc ?_ _));refine blk_put (cs:=#[.int .i64 a0_0,.int .i64 a0_1,.string (⟨#[]⟩ : ByteArray),.slice none 0 0]) ?_ 2 _ rfl;(with_reducible repeat (first | refine blk_drewN ?_ _ | refine blk_drew ?_ | refine blk_alloc ?_ _));refine blk_put (cs:=#[.int .i64 a0_0,.int .i64 0,.string (⟨#[]⟩ : ByteArray),.slice none 0 0]) ?_ 1 _ rfl;(with_reducible repeat (first | refine blk_drewN ?_ _ | refine blk_drew ?_ | refine blk_alloc ?_ _));refine blk_put (cs:=#[.int .i64 0,.int .i64 0,.string (⟨#[]⟩ : ByteArray),.slice none 0 0]) ?_ 0 _ rfl;(with_reducible repeat (first | refine blk_drewN ?_ _ | refine blk_drew ?_ | refine blk_alloc ?_ _));refine blk_far ?_ NB189_190.out _;(with_reducible repeat (first | refine blk_drewN ?_ _ | refine blk_drew ?_ | refine blk_alloc ?_ _));exact BK189.out) Try.underlying40 rfl (by kernel_rfl)) rfl ?_
 exact ⟨_,by first | rfl | (simp [errW_none,errW_some] <;> rfl) | (simp [*,errW_none,errW_some] <;> rfl),by (with_reducible repeat (first | apply Kd.R_alloc | apply Kd.R_drewN | apply Kd.R_drew));exact Kd.R_mono (Kd.R_far (p:=⟨gb189,3,none⟩) (Kd.R_far (p:=⟨gb189,2,none⟩) (Kd.R_far (p:=⟨gb189,1,none⟩) (Kd.R_far (p:=⟨gb189,0,none⟩) (Kd.R_far (p:=⟨gb190,3,none⟩) (Kd.R_types (Kd.R_types HO193.out BK190.out (by decide)) BK189.out (by decide)) (fun _ hk => hk.1.2) (.slice Ao12 t191.length co12)) (fun _ hk => hk.2) (.int .i64 a0_0)) (fun _ hk => hk.2) (.int .i64 a0_1)) (fun _ hk => hk.2) (.string a0_2)) (fun _ hk => hk.2) (.slice Ao12 t191.length co12)) (fun _ hk => trivial),by repeat (first | (with_reducible first | exact HB.out | apply below_alloc | apply pw_below_drewN | apply below_drew1 | refine below_set ?_ GE188.out | refine below_set ?_ GE189.out | refine below_set ?_ GE190.out) | exact HB.out)⟩

/-! ### laws_toEntry: function 17 -/
def laws_toEntry.f (k : Nat) (a0_0 : ByteArray) (a0_1 : Int) (a0_2 : Int) (a0_3 : ByteArray) (l0_4 : List ByteArray) : Option (ByteArray × Int × Int × ByteArray × List ByteArray):=(laws_toVal.f k a0_1 a0_2 a0_3 l0_4).bind fun bt197 => (some (a0_0,bt197.1,bt197.2.1,bt197.2.2.1,bt197.2.2.2))
theorem laws_toEntry.mono : ∀ a0 a1 a2 a3 a4 k,LeO (laws_toEntry.f k a0 a1 a2 a3 a4) (laws_toEntry.f (k + 1) a0 a1 a2 a3 a4):=by
 intro a0 a1 a2 a3 a4 k
 unfold laws_toEntry.f
 repeat' first
   | (with_reducible exact laws_toVal.mono _ _ _ _ _)
   | (with_reducible exact LeO.refl _)
   | (with_reducible exact LeO.none _)
   | (with_reducible refine LeO.ite ?_ ?_)
   | (with_reducible refine LeO.bind ?_ (fun _ => ?_))
   | exact laws_toVal.mono _ _ _ _ _
   | exact LeO.none _
   | refine LeO.ite ?_ ?_
   | refine LeO.bind ?_ (fun _ => ?_)
set_option maxHeartbeats 8000000 in
set_option maxRecDepth 100000 in
theorem laws_toEntry.calls (k : Nat) (a0_0 : ByteArray) (a0_1 : Int) (a0_2 : Int) (a0_3 : ByteArray) (A0_4 : Option Addr) (c0_4 : Nat) (l0_4 : List ByteArray) (r1 : ByteArray) (r2 : Int) (r3 : Int) (r4 : ByteArray) (r5 : List ByteArray) (w : World) (hr0_4 : Kd.C Kd.string w A0_4 l0_4.length l0_4) (hc0_4 : l0_4.length ≤ c0_4) (h : laws_toEntry.f k a0_0 a0_1 a0_2 a0_3 l0_4 = some (r1,r2,r3,r4,r5)) :
  Calls Try.prog 17 #[.agg #[.string a0_0,.int .i64 a0_1,.int .i64 a0_2,.string a0_3,.slice A0_4 l0_4.length c0_4]] w fun e w' => ∃ v4_ : Value,e = .returned (.agg #[.string r1,.int .i64 r2,.int .i64 r3,.string r4,v4_]) ∧ Kd.R Kd.string 9 w' w.heap.size (fun _ => True) v4_ r5 ∧ Below w.heap.size w w':=by
 have hu38:=Try.underlying38
 have hu42:=Try.underlying42
 have hu36:=Try.underlying36
 have hu40:=Try.underlying40
 have HR0_4:=Aside0.mk hr0_4
 have HC0_4:=Aside0.mk hc0_4
 clear hr0_4 hc0_4
 have HB:=Aside0.mk (Below.refl w.heap.size w)
 have H : ((laws_toVal.f k a0_1 a0_2 a0_3 l0_4).bind fun bt197 => (some (a0_0,bt197.1,bt197.2.1,bt197.2.2.1,bt197.2.2.2))) = some (r1,r2,r3,r4,r5):=h
 clear h
 replace H:=Option.bind_eq_some_iff.mp H
 obtain ⟨⟨t197,t198,t199,t200⟩,A20,H⟩:=H
 replace H : (some (a0_0,t197,t198,t199,t200)) = some (r1,r2,r3,r4,r5):=H
 have A2:=Aside0.mk A20
 clear A20
 simp only [Option.some.injEq,Prod.mk.injEq] at H
 obtain ⟨rfl,rfl,rfl,rfl,rfl⟩:=H
 go_enter Try.func17,Try.ntmps17
 go_wp2_with (first | ((with_reducible refine gate_dst (N:=1) rfl ?_);refine box_event ?hg (N:=1) ?hd (cs:=#[.string a0_0,.int .i64 a0_1,.int .i64 a0_2,.string a0_3,.slice A0_4 l0_4.length c0_4]) (t:=38) ?hr ?_;(case hd => rfl);(case hg => rfl);(case hr => first | (go_simp;done) | (go_simp;rfl));intro gb194 hg w3 hbox hb;have n0_:=Aside0.mk (zS0 HB.out hb);have n1_:=Aside0.mk (hbox);have n2_:=Aside0.mk ((by rw [hg];exact (zZ0 HB.out) : w.heap.size ≤ gb194));have n3_:=Aside0.mk ((by rw [hg];exact (zZ0 HB.out) : w.heap.size ≤ gb194));clear HB;have HB:=n0_;have BK194:=n1_;have GW194:=n2_;have GE194:=n3_;clear n0_ n1_ n2_ n3_;clear hb hbox hg) | ((with_reducible refine gate_dst (N:=2) rfl ?_);refine box_event ?hg (N:=2) ?hd (cs:=#[.string (⟨#[]⟩ : ByteArray),.int .i64 0,.int .i64 0,.string (⟨#[]⟩ : ByteArray),.slice none 0 0]) (t:=42) ?hr ?_;(case hd => rfl);(case hg => rfl);(case hr => first | (go_simp;done) | (go_simp;rfl));intro gb195 hg w4 hbox hb;have n0_:=Aside0.mk (zB0 BK194.out hb);have n1_:=Aside0.mk (zS0 HB.out hb);have n2_:=Aside0.mk (hbox);have n3_:=Aside0.mk ((by rw [hg];exact (zZ0 HB.out) : w.heap.size ≤ gb195));have n4_:=Aside0.mk ((by rw [hg];exact (zZ0 HB.out) : w.heap.size ≤ gb195));have n5_:=Aside0.mk ((zL0 hg BK194.out : gb194 ≠ gb195));have n6_:=Aside0.mk ((zG0 hg BK194.out : gb195 ≠ gb194));clear BK194;clear HB;have BK194:=n0_;have HB:=n1_;have BK195:=n2_;have GW195:=n3_;have GE195:=n4_;have NB194_195:=n5_;have NB195_194:=n6_;clear n0_ n1_ n2_ n3_ n4_ n5_ n6_;clear hb hbox hg) | ((with_reducible refine gate_dst (N:=3) rfl ?_);refine box_event ?hg (N:=3) ?hd (cs:=#[.string (⟨#[]⟩ : ByteArray),.int .i64 0,.int .i64 0,.string (⟨#[]⟩ : ByteArray),.slice none 0 0]) (t:=42) ?hr ?_;(case hd => rfl);(case hg => rfl);(case hr => first | (go_simp;done) | (go_simp;rfl));intro gb196 hg w5 hbox hb;have n0_:=Aside0.mk (zB0 BK194.out hb);have n1_:=Aside0.mk (zB0 BK195.out hb);have n2_:=Aside0.mk (zS0 HB.out hb);have n3_:=Aside0.mk (hbox);have n4_:=Aside0.mk ((by rw [hg];exact (zZ0 HB.out) : w.heap.size ≤ gb196));have n5_:=Aside0.mk ((by rw [hg];exact (zZ0 HB.out) : w.heap.size ≤ gb196));have n6_:=Aside0.mk ((zL0 hg BK194.out : gb194 ≠ gb196));have n7_:=Aside0.mk ((zG0 hg BK194.out : gb196 ≠ gb194));have n8_:=Aside0.mk ((zL0 hg BK195.out : gb195 ≠ gb196));have n9_:=Aside0.mk ((zG0 hg BK195.out : gb196 ≠ gb195));clear BK194;clear BK195;clear HB;have BK194:=n0_;have BK195:=n1_;have HB:=n2_;have BK196:=n3_;have GW196:=n4_;have GE196:=n5_;have NB194_196:=n6_;have NB196_194:=n7_;have NB195_196:=n8_;have NB196_195:=n9_;clear n0_ n1_ n2_ n3_ n4_ n5_ n6_ n7_ n8_ n9_;clear hb hbox hg;have hnb6:=NB194_195.out;have hnc6:=NB195_194.out;have hnb7:=NB194_196.out;have hnc7:=NB196_194.out;have hcz8_0 : w5.cell? ⟨gb194,0,none⟩ = some (.string a0_0):=(blk_cell BK194.out 0).trans rfl;have hcz8_1 : w5.cell? ⟨gb194,1,none⟩ = some (.int .i64 a0_1):=(blk_cell BK194.out 1).trans rfl;have hcz8_2 : w5.cell? ⟨gb194,2,none⟩ = some (.int .i64 a0_2):=(blk_cell BK194.out 2).trans rfl;have hcz8_3 : w5.cell? ⟨gb194,3,none⟩ = some (.string a0_3):=(blk_cell BK194.out 3).trans rfl;have hcz8_4 : w5.cell? ⟨gb194,4,none⟩ = some (.slice A0_4 l0_4.length c0_4):=(blk_cell BK194.out 4).trans rfl;have hfz8_0:=blk_frozen BK194.out 0;have hfz8_1:=blk_frozen BK194.out 1;have hfz8_2:=blk_frozen BK194.out 2;have hfz8_3:=blk_frozen BK194.out 3;have hfz8_4:=blk_frozen BK194.out 4;have hnb9:=NB196_195.out;have hnc9:=NB195_196.out;have hcz10_0 : w5.cell? ⟨gb196,0,none⟩ = some (.string (⟨#[]⟩ : ByteArray)):=(blk_cell BK196.out 0).trans rfl;have hcz10_1 : w5.cell? ⟨gb196,1,none⟩ = some (.int .i64 0):=(blk_cell BK196.out 1).trans rfl;have hcz10_2 : w5.cell? ⟨gb196,2,none⟩ = some (.int .i64 0):=(blk_cell BK196.out 2).trans rfl;have hcz10_3 : w5.cell? ⟨gb196,3,none⟩ = some (.string (⟨#[]⟩ : ByteArray)):=(blk_cell BK196.out 3).trans rfl;have hcz10_4 : w5.cell? ⟨gb196,4,none⟩ = some (.slice none 0 0):=(blk_cell BK196.out 4).trans rfl;have hfz10_0:=blk_frozen BK196.out 0;have hfz10_1:=blk_frozen BK196.out 1;have hfz10_2:=blk_frozen BK196.out 2;have hfz10_3:=blk_frozen BK196.out 3;have hfz10_4:=blk_frozen BK196.out 4) | ((with_reducible refine gate_callee (f:=34) rfl ?_);refine goesL_ (some 9) rfl rfl Try.func34 (by kernel_rfl) rfl #[.agg #[.int .i64 a0_1,.int .i64 a0_2,.string a0_3,.slice A0_4 l0_4.length c0_4]] rfl zM0 ?_;(with_reducible refine (laws_toVal.calls k a0_1 a0_2 a0_3 _ _ l0_4 t197 t198 t199 t200 _ ?side1 ?side2 A2.out).mono ?_);(case side1 => exact Kd.C_below HR0_4.out (by repeat (first | (with_reducible first | exact HB.out | apply below_alloc | apply pw_below_drewN | apply below_drew1 | refine below_set ?_ GE194.out | refine below_set ?_ GE195.out | refine below_set ?_ GE196.out) | exact HB.out)));(case side2 => exact HC0_4.out);rintro e w11 ⟨v201,rfl,ho0,hb⟩;refine ⟨_,rfl,?_⟩;have n0_:=Aside0.mk (Kd.R_lower ho0 (zZ0 HB.out));have n1_:=Aside0.mk (blk_below (g:=gb194) (o:=.cells #[.string a0_0,.int .i64 a0_1,.int .i64 a0_2,.string a0_3,.slice A0_4 l0_4.length c0_4] 38 (0,0)) (by (with_reducible repeat (first | refine blk_drewN ?_ _ | refine blk_drew ?_ | refine blk_alloc ?_ _));refine blk_far ?_ NB194_196.out _;(with_reducible repeat (first | refine blk_drewN ?_ _ | refine blk_drew ?_ | refine blk_alloc ?_ _));exact BK194.out) hb);have n2_:=Aside0.mk (blk_below (g:=gb195) (o:=.cells #[.string (⟨#[]⟩ : ByteArray),.int .i64 0,.int .i64 0,.string (⟨#[]⟩ : ByteArray),.slice none 0 0] 42 (0,0)) (by (with_reducible repeat (first | refine blk_drewN ?_ _ | refine blk_drew ?_ | refine blk_alloc ?_ _));refine blk_far ?_ NB195_196.out _;(with_reducible repeat (first | refine blk_drewN ?_ _ | refine blk_drew ?_ | refine blk_alloc ?_ _));exact BK195.out) hb);have n3_:=Aside0.mk (blk_below (g:=gb196) (o:=.cells #[.string a0_0,.int .i64 0,.int .i64 0,.string (⟨#[]⟩ : ByteArray),.slice none 0 0] 42 (0,0)) (by (with_reducible repeat (first | refine blk_drewN ?_ _ | refine blk_drew ?_ | refine blk_alloc ?_ _));refine blk_put (cs:=#[.string (⟨#[]⟩ : ByteArray),.int .i64 0,.int .i64 0,.string (⟨#[]⟩ : ByteArray),.slice none 0 0]) ?_ 0 _ rfl;(with_reducible repeat (first | refine blk_drewN ?_ _ | refine blk_drew ?_ | refine blk_alloc ?_ _));exact BK196.out) hb);have n4_:=Aside0.mk (zS0 HB.out hb);clear BK194;clear BK195;clear BK196;clear HB;have HO202:=n0_;have BK194:=n1_;have BK195:=n2_;have BK196:=n3_;have HB:=n4_;clear n0_ n1_ n2_ n3_ n4_;(try clear hb);(try clear hb2);(try clear hk);(try clear hi);(try clear ho0);have hcz12_0 : w11.cell? ⟨gb196,0,none⟩ = some (.string a0_0):=(blk_cell BK196.out 0).trans rfl;have hcz12_1 : w11.cell? ⟨gb196,1,none⟩ = some (.int .i64 0):=(blk_cell BK196.out 1).trans rfl;have hcz12_2 : w11.cell? ⟨gb196,2,none⟩ = some (.int .i64 0):=(blk_cell BK196.out 2).trans rfl;have hcz12_3 : w11.cell? ⟨gb196,3,none⟩ = some (.string (⟨#[]⟩ : ByteArray)):=(blk_cell BK196.out 3).trans rfl;have hcz12_4 : w11.cell? ⟨gb196,4,none⟩ = some (.slice none 0 0):=(blk_cell BK196.out 4).trans rfl;have hfz12_0:=blk_frozen BK196.out 0;have hfz12_1:=blk_frozen BK196.out 1;have hfz12_2:=blk_frozen BK196.out 2;have hfz12_3:=blk_frozen BK196.out 3;have hfz12_4:=blk_frozen BK196.out 4;obtain ⟨Ao13,co13,eo13⟩:=Kd.R_slice HO202.out;subst eo13;have hcz14_0 : w11.cell? ⟨gb195,0,none⟩ = some (.string (⟨#[]⟩ : ByteArray)):=(blk_cell BK195.out 0).trans rfl;have hcz14_1 : w11.cell? ⟨gb195,1,none⟩ = some (.int .i64 0):=(blk_cell BK195.out 1).trans rfl;have hcz14_2 : w11.cell? ⟨gb195,2,none⟩ = some (.int .i64 0):=(blk_cell BK195.out 2).trans rfl;have hcz14_3 : w11.cell? ⟨gb195,3,none⟩ = some (.string (⟨#[]⟩ : ByteArray)):=(blk_cell BK195.out 3).trans rfl;have hcz14_4 : w11.cell? ⟨gb195,4,none⟩ = some (.slice none 0 0):=(blk_cell BK195.out 4).trans rfl;have hfz14_0:=blk_frozen BK195.out 0;have hfz14_1:=blk_frozen BK195.out 1;have hfz14_2:=blk_frozen BK195.out 2;have hfz14_3:=blk_frozen BK195.out 3;have hfz14_4:=blk_frozen BK195.out 4))
 refine bodyPost_ret (results_cell_row rfl _ _ gb195 42 #[.string a0_0,.int .i64 t197,.int .i64 t198,.string t199,.slice Ao13 t200.length co13] (0,0) _ rfl (by (with_reducible repeat (first | refine blk_drewN ?_ _ | refine blk_drew ?_ | refine blk_alloc ?_ _));refine blk_put (cs:=#[.string a0_0,.int .i64 t197,.int .i64 t198,.string t199,.slice none 0 0]) ?_ 4 _ rfl;(with_reducible repeat (first | refine blk_drewN ?_ _ | refine blk_drew ?_ | refine blk_alloc ?_ _));refine blk_put (cs:=#[.string a0_0,.int .i64 t197,.int .i64 t198,.string (⟨#[]⟩ : ByteArray),.slice none 0 0]) ?_ 3 _ rfl;(with_reducible repeat (first | refine blk_drewN ?_ _ | refine blk_drew ?_ | refine blk_alloc ?_ _));refine blk_put (cs:=#[.string a0_0,.int .i64 t197,.int .i64 0,.string (⟨#[]⟩ : ByteArray),.slice none 0 0]) ?_ 2 _ rfl;(with_reducible repeat (first | refine blk_drewN ?_ _ | refine blk_drew ?_ | refine blk_alloc ?_ _));refine blk_put (cs:=#[.string a0_0,.int .i64 0,.int .i64 0,.string (⟨#[]⟩ : ByteArray),.slice none 0 0]) ?_ 1 _ rfl;(with_reducible repeat (first | refine blk_drewN ?_ _ | refine blk_drew ?_ | refine blk_alloc ?_ _));refine blk_put (cs:=#[.string (⟨#[]⟩ : ByteArray),.int .i64 0,.int .i64 0,.string (⟨#[]⟩ : ByteArray),.slice none 0 0]) ?_ 0 _ rfl;(with_reducible repeat (first | refine blk_drewN ?_ _ | refine blk_drew ?_ | refine blk_alloc ?_ _));refine blk_far ?_ NB195_196.out _;(with_reducible repeat (first | refine blk_drewN ?_ _ | refine blk_drew ?_ | refine blk_alloc ?_ _));refine blk_far ?_ NB195_196.out _;(with_reducible repeat (first | refine blk_drewN ?_ _ | refine blk_drew ?_ | refine blk_alloc ?_ _));refine blk_far ?_ NB195_196.out _;(with_reducible repeat (first | refine blk_drewN ?_ _ | refine blk_drew ?_ | refine blk_alloc ?_ _));refine blk_far ?_ NB195_196.out _;(with_reducible repeat (first | refine blk_drewN ?_ _ | refine blk_drew ?_ | refine blk_alloc ?_ _));exact BK195.out) Try.underlying42 rfl (by kernel_rfl)) rfl ?_
 exact ⟨_,by first | rfl | (simp [errW_none,errW_some] <;> rfl) | (simp [*,errW_none,errW_some] <;> rfl),by (with_reducible repeat (first | apply Kd.R_alloc | apply Kd.R_drewN | apply Kd.R_drew));exact Kd.R_mono (Kd.R_far (p:=⟨gb195,4,none⟩) (Kd.R_far (p:=⟨gb195,3,none⟩) (Kd.R_far (p:=⟨gb195,2,none⟩) (Kd.R_far (p:=⟨gb195,1,none⟩) (Kd.R_far (p:=⟨gb195,0,none⟩) (Kd.R_far (p:=⟨gb196,4,none⟩) (Kd.R_far (p:=⟨gb196,3,none⟩) (Kd.R_far (p:=⟨gb196,2,none⟩) (Kd.R_far (p:=⟨gb196,1,none⟩) (Kd.R_types (Kd.R_types HO202.out BK196.out (by decide)) BK195.out (by decide)) (fun _ hk => hk.1.2) (.int .i64 t197)) (fun _ hk => hk.1.2) (.int .i64 t198)) (fun _ hk => hk.1.2) (.string t199)) (fun _ hk => hk.1.2) (.slice Ao13 t200.length co13)) (fun _ hk => hk.2) (.string a0_0)) (fun _ hk => hk.2) (.int .i64 t197)) (fun _ hk => hk.2) (.int .i64 t198)) (fun _ hk => hk.2) (.string t199)) (fun _ hk => hk.2) (.slice Ao13 t200.length co13)) (fun _ hk => trivial),by repeat (first | (with_reducible first | exact HB.out | apply below_alloc | apply pw_below_drewN | apply below_drew1 | refine below_set ?_ GE194.out | refine below_set ?_ GE195.out | refine below_set ?_ GE196.out) | exact HB.out)⟩

/-! ### laws_toEntryS: function 6 -/
def laws_toEntryS.l0 : Nat → List (S38) → List (S42) → Int → Option ((List (S42)))
 | 0,_,_,_ => none
 | k + 1,x0,x3,x4 => if x4 < (x0.length : Int) then (if 0 ≤ x4 then ((laws_toEntry.f k ((rd_T38 x0 x4).f0) ((rd_T38 x0 x4).f1.f0) ((rd_T38 x0 x4).f1.f1) ((rd_T38 x0 x4).f1.f2) ((rd_T38 x0 x4).f1.f3)).bind fun bt207 => (if x4 < (x3.length : Int) then (laws_toEntryS.l0 k x0 (x3.set (x4 : Int).toNat (⟨bt207.1,(⟨bt207.2.1,bt207.2.2.1,bt207.2.2.2.1,bt207.2.2.2.2⟩ : S40)⟩ : S42)) (wrap64 (x4 + 1))) else (none))) else (none)) else (some x3)
def laws_toEntryS.f (k : Nat) (l0 : List (S38)) : Option ((List (S42))):=if 0 ≤ (l0.length : Int) then (if ((l0.length : Int) : Int).toNat ≤ 3909374676536 then (laws_toEntryS.l0 k l0 (List.replicate ((l0.length : Int) : Int).toNat z42) 0) else (none)) else (none)
theorem laws_toEntryS.mono_l : ∀ k,(∀ y0 y1 y2,LeO (laws_toEntryS.l0 k y0 y1 y2) (laws_toEntryS.l0 (k + 1) y0 y1 y2))
 | 0 => fun _ _ _ r h => by simp [laws_toEntryS.l0] at h
 | k + 1 => by
  have ih0:=laws_toEntryS.mono_l k
  ·intro y0 y1 y2
   unfold laws_toEntryS.l0
   repeat' first
   | (with_reducible exact ih0 _ _ _)
   | (with_reducible exact laws_toEntry.mono _ _ _ _ _ _)
   | (with_reducible exact LeO.refl _)
   | (with_reducible exact LeO.none _)
   | (with_reducible refine LeO.ite ?_ ?_)
   | (with_reducible refine LeO.bind ?_ (fun _ => ?_))
   | exact ih0 _ _ _
   | exact laws_toEntry.mono _ _ _ _ _ _
   | exact LeO.none _
   | refine LeO.ite ?_ ?_
   | refine LeO.bind ?_ (fun _ => ?_)
theorem laws_toEntryS.mono : ∀ a0 k,LeO (laws_toEntryS.f k a0) (laws_toEntryS.f (k + 1) a0):=by
 intro a0 k
 have ih0:=laws_toEntryS.mono_l k
 unfold laws_toEntryS.f
 repeat' first
   | (with_reducible exact ih0 _ _ _)
   | (with_reducible exact laws_toEntry.mono _ _ _ _ _ _)
   | (with_reducible exact LeO.refl _)
   | (with_reducible exact LeO.none _)
   | (with_reducible refine LeO.ite ?_ ?_)
   | (with_reducible refine LeO.bind ?_ (fun _ => ?_))
   | exact ih0 _ _ _
   | exact laws_toEntry.mono _ _ _ _ _ _
   | exact LeO.none _
   | refine LeO.ite ?_ ?_
   | refine LeO.bind ?_ (fun _ => ?_)
set_option maxHeartbeats 8000000 in
set_option maxRecDepth 100000 in
theorem laws_toEntryS.calls (k : Nat) (A0 : Option Addr) (c0 : Nat) (l0 : List (S38)) (r : List (S42)) (w : World) (hr0 : Kd.C k38 w A0 l0.length l0) (hc0 : l0.length ≤ c0) (h : laws_toEntryS.f k l0 = some r) :
  Calls Try.prog 6 #[.slice A0 l0.length c0] w fun e w' => ∃ v0_ : Value,e = .returned (v0_) ∧ Kd.S k42 42 w' w.heap.size (fun _ => True) v0_ r ∧ Below w.heap.size w w':=by
 have hu38:=Try.underlying38
 have hu42:=Try.underlying42
 have HR0:=Aside0.mk hr0
 have HC0:=Aside0.mk hc0
 clear hr0 hc0
 have HB:=Aside0.mk (Below.refl w.heap.size w)
 have H : (if 0 ≤ (l0.length : Int) then (if ((l0.length : Int) : Int).toNat ≤ 3909374676536 then (laws_toEntryS.l0 k l0 (List.replicate ((l0.length : Int) : Int).toNat z42) 0) else (none)) else (none)) = some r:=h
 clear h
 by_cases c2 : 0 ≤ (l0.length : Int)
 ·rw [if_pos c2] at H
  have c2b0:=eq_true c2
  have c2b1 : decide (0 ≤ (l0.length : Int)) = true:=decide_eq_true c2
  clear c2
  by_cases c3 : ((l0.length : Int) : Int).toNat ≤ 3909374676536
  ·rw [if_pos c3] at H
   have c3b0:=eq_true c3
   have c3b1 : decide (((l0.length : Int) : Int).toNat ≤ 3909374676536) = true:=decide_eq_true c3
   clear c3
   obtain ⟨y203,hy203⟩ : ∃ y_ : List (S42),y_ = (List.replicate ((l0.length : Int) : Int).toNat z42):=⟨_,rfl⟩
   replace H : (laws_toEntryS.l0 k l0 y203 0) = some r:=by first | (rw [hy203];with_reducible exact H) | (have H2_:=(Option.bind_some _ _).symm.trans H;rw [hy203];with_reducible exact H2_) | (have H2_:=(Option.bind_some _ _).symm.trans H;with_reducible exact H2_) | with_reducible exact H | (rw [hy203];exact H) | exact H
   have Ny203:=Aside0.mk hy203
   clear hy203
   have H':=Aside0.mk H
   clear H
   go_enter Try.func6,Try.ntmps6
   go_wp2_with (first | ((with_reducible refine gate_dst (N:=7) rfl ?_);refine Kd.S_make k42 _ 42 rfl (N:=7) rfl 26 _ _ rfl (l0.length : Int) rfl rfl Try.underlying26 (.agg #[(.string ⟨#[]⟩),(.int .i64 0),(.int .i64 0),(.string ⟨#[]⟩),(.slice none 0 0)]) 72 info42 rfl (by decide) (by omega) z42 (ok:=fun _ => True) (okp:=fun _ => True) (k42_mkM _ _ _ z42 (Kd.R_nil _ _ _ _ _)) (fun _ hk => hk) trivial (of_decide_eq_true (by first | (with_reducible assumption) | assumption)) (Nat.le_trans (Nat.mul_le_mul_right _ (of_decide_eq_true (by first | (with_reducible assumption) | assumption) : (l0.length : Int).toNat ≤ 3909374676536)) (by omega)) (Below.refl _ _) (Nat.le_refl _) ?_;intro v204 w4 ho5 hb hg_ hnew_;clear hg_ hnew_;(first | rw [← Ny203.out] at ho5 | (simp only [Int.reduceToNat] at ho5;rw [← Ny203.out] at ho5));have n0_:=Aside0.mk (Kd.S_lower ho5 (zZ0 HB.out));have n1_:=Aside0.mk (zS0 HB.out hb);clear HB;have HO205:=n0_;have HB:=n1_;clear n0_ n1_;clear hb ho5))
   go_loopg [4] k (fun kq v4 w' => ∃ (x3_1 : List (S42)) (x4_1 : Int),v4 = .int .i64 x4_1 ∧ Aside0 (laws_toEntryS.l0 kq l0 x3_1 x4_1 = some r) ∧ Aside0 (kq ≤ k) ∧ Aside0 (Kd.S k42 42 w' w.heap.size (fun _ => True) v204 x3_1) ∧ Aside0 (Below w.heap.size w w'))
   case atStart => exact ⟨(y203),(0),(by first | rfl | (simp;done) | (simp [*];done)),H',⟨Nat.le_refl _⟩,⟨by (with_reducible repeat (first | apply Kd.S_alloc | apply Kd.S_drewN | apply Kd.S_drew));exact HO205.out⟩,⟨by repeat (first | (with_reducible first | exact HB.out | apply below_alloc | apply pw_below_drewN | apply below_drew1) | exact HB.out)⟩⟩
   case round =>
    clear H'
    try clear c2
    try clear c2b0
    try clear c2b1
    try clear p2
    try clear c3
    try clear c3b0
    try clear c3b1
    obtain ⟨x3_1,x4_1,rfl,HA,HK1,HO_3,HB⟩:=hrel
    cases gk with
    | zero => exact absurd HA.out (by simp [laws_toEntryS.l0])
    | succ k1 =>
     have H:=HA.out
     clear HA
     simp only [laws_toEntryS.l0] at H
     by_cases c6 : x4_1 < (l0.length : Int)
     ·rw [if_pos c6] at H
      have c6b0 : decide (x4_1 < (l0.length : Int)) = true:=decide_eq_true c6
      clear c6
      by_cases c7 : 0 ≤ x4_1
      ·rw [if_pos c7] at H
       have c7b0 : decide (0 ≤ x4_1) = true:=decide_eq_true c7
       clear c7
       replace H:=Option.bind_eq_some_iff.mp H
       obtain ⟨⟨t207,t208,t209,t210,t211⟩,A80,H⟩:=H
       replace H : (if x4_1 < (x3_1.length : Int) then (laws_toEntryS.l0 k1 l0 (x3_1.set (x4_1 : Int).toNat (⟨t207,(⟨t208,t209,t210,t211⟩ : S40)⟩ : S42)) (wrap64 (x4_1 + 1))) else (none)) = some r:=H
       have A8:=Aside0.mk A80
       clear A80
       by_cases c9 : x4_1 < (x3_1.length : Int)
       ·rw [if_pos c9] at H
        have c9b0 : decide (x4_1 < (x3_1.length : Int)) = true:=decide_eq_true c9
        clear c9
        obtain ⟨y214,hy214⟩ : ∃ y_ : List (S42),y_ = (x3_1.set (x4_1 : Int).toNat (⟨t207,(⟨t208,t209,t210,t211⟩ : S40)⟩ : S42)):=⟨_,rfl⟩
        replace H : (laws_toEntryS.l0 k1 l0 y214 (wrap64 (x4_1 + 1))) = some r:=by first | (rw [hy214];with_reducible exact H) | (have H2_:=(Option.bind_some _ _).symm.trans H;rw [hy214];with_reducible exact H2_) | (have H2_:=(Option.bind_some _ _).symm.trans H;with_reducible exact H2_) | with_reducible exact H | (rw [hy214];exact H) | exact H
        have Ny214:=Aside0.mk hy214
        clear hy214
        have H':=Aside0.mk H
        clear H
        have p206 : 0 ≤ (x4_1 : Int):=of_decide_eq_true (by first | (with_reducible assumption) | assumption)
        have q206 : x4_1 < (l0.length : Int):=of_decide_eq_true (by first | (with_reducible assumption) | assumption)
        obtain ⟨ad206,A206_4,c206_4,e206,hx206_0,hx206_1,hx206_2,hx206_3,hx206_4,hl206_4,hi206_4⟩:=at_T38 HR0.out x4_1 p206 q206
        cases e206
        replace hx206_0:=(HB.out.cell (World.block_lt_of_cell? w _ hx206_0)).trans hx206_0
        replace hx206_1:=(HB.out.cell (World.block_lt_of_cell? w _ hx206_1)).trans hx206_1
        replace hx206_2:=(HB.out.cell (World.block_lt_of_cell? w _ hx206_2)).trans hx206_2
        replace hx206_3:=(HB.out.cell (World.block_lt_of_cell? w _ hx206_3)).trans hx206_3
        replace hx206_4:=(HB.out.cell (World.block_lt_of_cell? w _ hx206_4)).trans hx206_4
        have HR206_4:=Aside0.mk hi206_4
        have HC206_4:=Aside0.mk hl206_4
        clear hi206_4 hl206_4
        replace p206:=eq_true p206
        replace q206:=eq_true q206
        go_wp2_with (first | ((with_reducible refine gate_callee (f:=17) rfl ?_);refine goesL_ (some 20) rfl rfl Try.func17 (by kernel_rfl) rfl #[.agg #[.string ((rd_T38 l0 x4_1).f0),.int .i64 ((rd_T38 l0 x4_1).f1.f0),.int .i64 ((rd_T38 l0 x4_1).f1.f1),.string ((rd_T38 l0 x4_1).f1.f2),.slice A206_4 ((rd_T38 l0 x4_1).f1.f3).length c206_4]] rfl zM0 ?_;(with_reducible refine (laws_toEntry.calls k1 ((rd_T38 l0 x4_1).f0) ((rd_T38 l0 x4_1).f1.f0) ((rd_T38 l0 x4_1).f1.f1) ((rd_T38 l0 x4_1).f1.f2) _ _ ((rd_T38 l0 x4_1).f1.f3) t207 t208 t209 t210 t211 _ ?side1 ?side2 A8.out).mono ?_);(case side1 => repeat (first | exact (Kd.C_below HR206_4.out HB.out) | (with_reducible refine Kd.C_alloc ?_ _) | (with_reducible refine Kd.C_drewN ?_ _) | (with_reducible refine Kd.C_drew ?_)));(case side2 => exact HC206_4.out);rintro e w11 ⟨v212,rfl,ho0,hb⟩;refine ⟨_,rfl,?_⟩;obtain ⟨Aq_,cq_,eq_⟩:=Kd.R_slice ho0;have hst_ : ∀ (a_ : Addr) (m_ : Mode) (W_ : World),(store a_ v212 m_).run Try.prog W_ = stored Try.prog W_ a_ v212 m_:=(fun a_ m_ W_ => by rw [eq_];exact run_store_slice _ _ _ _ _ _ _);clear eq_;have n0_:=Aside0.mk (Kd.S_elder' (by (with_reducible repeat (first | apply Kd.S_alloc | apply Kd.S_drewN | apply Kd.S_drew));exact HO_3.out) (Kd.R_base ho0) hb);have n1_:=Aside0.mk (Kd.R_lower ho0 (zZ0 HB.out));have n2_:=Aside0.mk (zS0 HB.out hb);clear HO_3;clear HB;have HO_3:=n0_;have HO213:=n1_;have HB:=n2_;clear n0_ n1_ n2_;(try clear hb);(try clear hb2);(try clear hk);(try clear hi);(try clear ho0);have p10 : 0 ≤ (x4_1 : Int):=of_decide_eq_true (by first | (with_reducible assumption) | assumption);have q10 : (x4_1 : Int) < ((x3_1.length : Int) : Int):=of_decide_eq_true (by first | (with_reducible assumption) | assumption);obtain ⟨go10,co10,eo10,gb10,gl10,cl10,HG10⟩:=Kd.S_form HO_3.out (by omega);(first | cases eo10 | (injection eo10 with ea_ en_ ec_;(first | subst ea_ | (injection ea_ with ea_;subst ea_));subst ec_;clear en_));have GB10:=Aside0.mk gb10;have GG10:=Aside0.mk HG10;clear gb10 gl10 HG10;obtain ⟨_,ce10,hcl10,hM10,hcc10,hfr10,_,_⟩:=Kd.S_elem HO_3.out z42 (x4_1 : Int) p10 q10;obtain ⟨ve10_4,rfl,ge10_4⟩:=k42_openM hM10;have hx10_0 : w11.cell? ⟨go10,(x4_1 : Int).toNat * 5,none⟩ = some (.string ((rd_T42 x3_1 x4_1).f0)):=hcc10 0 _ rfl;have hx10_1 : w11.cell? ⟨go10,(x4_1 : Int).toNat * 5 + 1,none⟩ = some (.int .i64 ((rd_T42 x3_1 x4_1).f1.f0)):=hcc10 1 _ rfl;have hx10_2 : w11.cell? ⟨go10,(x4_1 : Int).toNat * 5 + 2,none⟩ = some (.int .i64 ((rd_T42 x3_1 x4_1).f1.f1)):=hcc10 2 _ rfl;have hx10_3 : w11.cell? ⟨go10,(x4_1 : Int).toNat * 5 + 3,none⟩ = some (.string ((rd_T42 x3_1 x4_1).f1.f2)):=hcc10 3 _ rfl;have hx10_4 : w11.cell? ⟨go10,(x4_1 : Int).toNat * 5 + 4,none⟩ = some (ve10_4):=hcc10 4 _ rfl;have hf10_0 : w11.frozen? ⟨go10,(x4_1 : Int).toNat * 5,none⟩ = false:=hfr10 0;have hf10_1 : w11.frozen? ⟨go10,(x4_1 : Int).toNat * 5 + 1,none⟩ = false:=hfr10 1;have hf10_2 : w11.frozen? ⟨go10,(x4_1 : Int).toNat * 5 + 2,none⟩ = false:=hfr10 2;have hf10_3 : w11.frozen? ⟨go10,(x4_1 : Int).toNat * 5 + 3,none⟩ = false:=hfr10 3;have hf10_4 : w11.frozen? ⟨go10,(x4_1 : Int).toNat * 5 + 4,none⟩ = false:=hfr10 4;clear hcl10 hcc10 hfr10 hM10;replace p10:=eq_true p10;replace q10:=eq_true q10;have n_:=Aside0.mk (Kd.S_mono (ok':=(fun k_ => some k_ ≠ (v212 : Value).ownBlock)) HO_3.out (fun k_ hk => hk.2));clear HO_3;have HO_3:=n_;clear n_;have HX12:=Aside0.mk (show Kd.S k42 42 w11 w.heap.size (fun k_ => ((fun _ => True)) k_ ∧ ¬ ((fun k_ => some k_ = (v212 : Value).ownBlock)) k_) (.slice (some ⟨go10,0,none⟩) x3_1.length co10) x3_1 from (by (with_reducible repeat (first | apply Kd.S_alloc | apply Kd.S_drewN | apply Kd.S_drew));exact Kd.S_mono HO_3.out (fun k_ hk => ⟨trivial,fun e_ => hk e_⟩)));obtain ⟨oki12,ce12,hcl12,hM12,hcc12,hfr12,hoki12,hH12⟩:=Kd.S_elem HX12.out z42 (x4_1 : Int) (of_decide_eq_true (by first | (with_reducible assumption) | assumption)) (by have h_ : (x4_1 : Int) < ((x3_1.length : Int) : Int):=of_decide_eq_true (by first | (with_reducible assumption) | assumption);first | exact h_ | (have e_:=(Kd.S_reads' HO_3.out).1;omega) | simpa using h_);obtain ⟨ve12_4,rfl,ge12_4⟩:=k42_openM hM12;have HP12:=Kd.S_seg hH12 (of_decide_eq_true (by first | (with_reducible assumption) | assumption)) (by have h_ : (x4_1 : Int) < ((x3_1.length : Int) : Int):=of_decide_eq_true (by first | (with_reducible assumption) | assumption);first | exact h_ | (have e_:=(Kd.S_reads' HO_3.out).1;omega) | simpa using h_) (seg:=[.string t207,.int .i64 t208,.int .i64 t209,.string t210,v212]) (j:=0) (show 5 ≤ 5 from by decide) (x':=(⟨t207,(⟨t208,t209,t210,t211⟩ : S40)⟩ : S42)) (k42_mkM _ _ _ (⟨t207,(⟨t208,t209,t210,t211⟩ : S40)⟩ : S42) (Kd.R_mono (Kd.R_tight rfl (Kd.R_mono (ok':=fun k_ => ((fun _ => True)) k_ ∧ k_ ≠ go10) (Kd.R_apart' (HO213.out) (Kd.S_typed HO_3.out) (by decide)) (fun k_ hk => ⟨trivial,fun e_ => (hk.2) (by rw [e_];rfl)⟩))) (fun _ h_ => Or.inr (h_)))) (fun _ hk => hk) (fun k_ hk_ => ((Kd.R_mono (ok':=fun k_ => ((fun _ => True)) k_ ∧ k_ ≠ go10) (Kd.R_apart' (HO213.out) (Kd.S_typed HO_3.out) (by decide)) (fun k_ hk => ⟨trivial,fun e_ => (hk.2) (by rw [e_];rfl)⟩))).1 k_ hk_.symm);have hx12_0:=hcc12 0 _ rfl;(try simp only [show (k42).sz = 5 from rfl,Nat.mul_one,Nat.add_zero] at hx12_0);have hf12_0:=hfr12 0;(try simp only [show (k42).sz = 5 from rfl,Nat.mul_one,Nat.add_zero] at hf12_0);have hx12_1:=hcc12 1 _ rfl;(try simp only [show (k42).sz = 5 from rfl,Nat.mul_one,Nat.add_zero] at hx12_1);have hf12_1:=hfr12 1;(try simp only [show (k42).sz = 5 from rfl,Nat.mul_one,Nat.add_zero] at hf12_1);have hx12_2:=hcc12 2 _ rfl;(try simp only [show (k42).sz = 5 from rfl,Nat.mul_one,Nat.add_zero] at hx12_2);have hf12_2:=hfr12 2;(try simp only [show (k42).sz = 5 from rfl,Nat.mul_one,Nat.add_zero] at hf12_2);have hx12_3:=hcc12 3 _ rfl;(try simp only [show (k42).sz = 5 from rfl,Nat.mul_one,Nat.add_zero] at hx12_3);have hf12_3:=hfr12 3;(try simp only [show (k42).sz = 5 from rfl,Nat.mul_one,Nat.add_zero] at hf12_3);have hx12_4:=hcc12 4 _ rfl;(try simp only [show (k42).sz = 5 from rfl,Nat.mul_one,Nat.add_zero] at hx12_4);have hf12_4:=hfr12 4;(try simp only [show (k42).sz = 5 from rfl,Nat.mul_one,Nat.add_zero] at hf12_4);clear hcl12 hcc12 hfr12 hM12 hoki12 hH12) | ((with_reducible refine gate_store (t:=42) (p:=21) rfl ?_);refine store_event (t:=42) (p:=21) (v:=?vo_w13) (w1:=(((((w11.setCell ⟨go10,(x4_1 : Int).toNat * 5,none⟩ (.string t207)).setCell ⟨go10,(x4_1 : Int).toNat * 5 + 1,none⟩ (.int .i64 t208)).setCell ⟨go10,(x4_1 : Int).toNat * 5 + 2,none⟩ (.int .i64 t209)).setCell ⟨go10,(x4_1 : Int).toNat * 5 + 3,none⟩ (.string t210)).setCell ⟨go10,(x4_1 : Int).toNat * 5 + 4,none⟩ (v212))) ?hg ?ho ?hn ?hr ?_;(case ho => rfl);(case hg => rfl);(case hn => rfl);(case hr => first | (go_simp;done) | (go_simp;rfl));intro w13 hw;have hg : w11.grownBy w13 (some go10):=(by rw [hw];exact HP12.2);have hp_ : Kd.S k42 42 w13 w.heap.size (fun _ => True) (.slice (some ⟨go10,0,none⟩) x3_1.length co10) y214:=(by rw [hw,Ny214.out];exact HP12.1);clear HP12;have n0_:=Aside0.mk (hp_);have n1_:=Aside0.mk ((by rw [hw];exact below_set (below_set (below_set (below_set (below_set (HB.out) GB10.out) GB10.out) GB10.out) GB10.out) GB10.out : Below w.heap.size w w13));clear HO_3;clear HB;clear HO213;have HO_3:=n0_;have HB:=n1_;clear n0_ n1_;clear hg hw hp_))
        go_roundg k1
        case measure => have:=HK1.out;omega
        case rel => exact ⟨(y214),(wrap64 (x4_1 + 1)),(by first | rfl | (simp;done) | (simp [*];done)),H',⟨by have:=HK1.out;omega⟩,⟨by (with_reducible repeat (first | apply Kd.S_alloc | apply Kd.S_drewN | apply Kd.S_drew));exact HO_3.out⟩,⟨by repeat (first | (with_reducible first | exact HB.out | apply below_alloc | apply pw_below_drewN | apply below_drew1) | exact HB.out)⟩⟩
       ·rw [if_neg c9] at H
        exact absurd H (by simp)
      ·rw [if_neg c7] at H
       exact absurd H (by simp)
     ·rw [if_neg c6] at H
      have c6b0 : decide (x4_1 < (l0.length : Int)) = false:=decide_eq_false c6
      clear c6
      obtain rfl:=Option.some.inj H
      go_wp2
      go_ret
      exact ⟨_,by first | rfl | (simp [errW_none,errW_some] <;> rfl) | (simp [*,errW_none,errW_some] <;> rfl),by (with_reducible repeat (first | apply Kd.S_alloc | apply Kd.S_drewN | apply Kd.S_drew));exact HO_3.out,by repeat (first | (with_reducible first | exact HB.out | apply below_alloc | apply pw_below_drewN | apply below_drew1) | exact HB.out)⟩
  ·rw [if_neg c3] at H
   exact absurd H (by simp)
 ·rw [if_neg c2] at H
  exact absurd H (by simp)

/-! ### impl_within: function 49 -/
def impl_within.f (a0 : Int) (a1 : Int) (a2 : Int) : Option (Bool):=if a0 ≥ a1 then (some (decide (a0 ≤ a2))) else (some false)
set_option maxHeartbeats 8000000 in
set_option maxRecDepth 100000 in
theorem impl_within.calls (a0 : Int) (a1 : Int) (a2 : Int) (r : Bool) (w : World) (h : impl_within.f a0 a1 a2 = some r) :
  Calls Try.prog 49 #[.int .i64 a0,.int .i64 a1,.int .i64 a2] w fun e w' => e = .returned (.bool r) ∧ Drawn0 w w':=by
 have H : (if a0 ≥ a1 then (some (decide (a0 ≤ a2))) else (some false)) = some r:=h
 clear h
 by_cases c4 : a0 ≥ a1
 ·rw [if_pos c4] at H
  have c4b0 : decide (a1 ≤ a0) = true:=decide_eq_true c4
  clear c4
  obtain rfl:=Option.some.inj H
  go_enter Try.func49,Try.ntmps49
  go_wp2
  go_ret
  exact ⟨by first | rfl | (simp;done) | (simp [*];done),by repeat (first | exact Drawn0.refl _ | apply Drawn0.step)⟩
 ·rw [if_neg c4] at H
  have c4b0 : decide (a1 ≤ a0) = false:=decide_eq_false c4
  clear c4
  obtain rfl:=Option.some.inj H
  go_enter Try.func49,Try.ntmps49
  go_wp2
  go_ret
  exact ⟨by first | rfl | (simp;done) | (simp [*];done),by repeat (first | exact Drawn0.refl _ | apply Drawn0.step)⟩

/-! ### impl_keyOk: function 35 -/
def impl_keyOk.f (a0 : ByteArray) : Option (Bool):=(impl_within.f (a0.size : Int) 1 20).bind fun t215 => (some t215)
set_option maxHeartbeats 8000000 in
set_option maxRecDepth 100000 in
theorem impl_keyOk.calls (a0 : ByteArray) (r : Bool) (w : World) (h : impl_keyOk.f a0 = some r) :
  Calls Try.prog 35 #[.string a0] w fun e w' => e = .returned (.bool r) ∧ Drawn0 w w':=by
 have H : ((impl_within.f (a0.size : Int) 1 20).bind fun t215 => (some t215)) = some r:=h
 clear h
 replace H:=Option.bind_eq_some_iff.mp H
 obtain ⟨t215,A20,H⟩:=H
 replace H : (some t215) = some r:=H
 have A2:=Aside0.mk A20
 clear A20
 obtain rfl:=Option.some.inj H
 go_enter Try.func35,Try.ntmps35
 go_wp2_with (first | ((with_reducible refine gate_callee (f:=49) rfl ?_);refine goesL_ (some 5) rfl rfl Try.func49 (by kernel_rfl) rfl #[.int .i64 (a0.size : Int),.int .i64 1,.int .i64 20] rfl zM0 ?_;(with_reducible refine (impl_within.calls (a0.size : Int) 1 20 t215 _ A2.out).mono ?_);rintro e w' ⟨rfl,⟨nd,rfl⟩⟩;refine ⟨_,rfl,?_⟩))
 go_ret
 exact ⟨by first | rfl | (simp;done) | (simp [*];done),by repeat (first | exact Drawn0.refl _ | apply Drawn0.step)⟩

/-! ### impl_itemsOk: function 50 -/
mutual
def impl_itemsOk.j0 : Nat → List ByteArray → Int → Option (Bool)
 | 0,_,_ => none
 | k + 1,x1,x5 => impl_itemsOk.l0 k x1 x5 x1 (x1.length : Int) 0
def impl_itemsOk.l0 : Nat → List ByteArray → Int → List ByteArray → Int → Int → Option (Bool)
 | 0,_,_,_,_,_ => none
 | k + 1,x1,x5,x17,x18,x19 => if x19 < x18 then (if 0 ≤ x19 then (if x19 < (x17.length : Int) then (if ((rdOf ByteArray.empty x17 x19).size : Int) > 60 then (some false) else (if x5 > 0 then (if x5 = 0 then (none) else (if (Int.tmod x19 x5) = 0 then (if x19 ≥ x5 then (if 0 ≤ (wrap64 (x19 - x5)) then (if (wrap64 (x19 - x5)) < (x1.length : Int) then (if ((Op.bytesLess ((rdOf ByteArray.empty x1 (wrap64 (x19 - x5))).toList) ((rdOf ByteArray.empty x17 x19).toList)) = true) then (impl_itemsOk.l0 k x1 x5 x17 x18 (wrap64 (x19 + 1))) else (some false)) else (none)) else (none)) else (impl_itemsOk.l0 k x1 x5 x17 x18 (wrap64 (x19 + 1)))) else (impl_itemsOk.l0 k x1 x5 x17 x18 (wrap64 (x19 + 1))))) else (impl_itemsOk.l0 k x1 x5 x17 x18 (wrap64 (x19 + 1))))) else (none)) else (none)) else ((impl_within.f (x1.length : Int) 1 24).bind fun t218 => (some t218))
end
def impl_itemsOk.f (k : Nat) (a0 : Int) (l1 : List ByteArray) : Option (Bool):=if a0 = 2 then (impl_itemsOk.j0 k l1 0) else (if a0 = 3 then (if ((l1.length : Int) % 2) = 0 then (impl_itemsOk.j0 k l1 2) else (some false)) else (impl_itemsOk.j0 k l1 1))
theorem impl_itemsOk.mono_l : ∀ k,(∀ y0 y1,LeO (impl_itemsOk.j0 k y0 y1) (impl_itemsOk.j0 (k + 1) y0 y1)) ∧ (∀ y0 y1 y2 y3 y4,LeO (impl_itemsOk.l0 k y0 y1 y2 y3 y4) (impl_itemsOk.l0 (k + 1) y0 y1 y2 y3 y4))
 | 0 => ⟨fun _ _ r h => by simp [impl_itemsOk.j0] at h,fun _ _ _ _ _ r h => by simp [impl_itemsOk.l0] at h⟩
 | k + 1 => by
  obtain ⟨ih0,ih1⟩:=impl_itemsOk.mono_l k
  refine ⟨?_,?_⟩
  ·intro y0 y1
   unfold impl_itemsOk.j0
   repeat' first
   | (with_reducible exact ih0 _ _)
   | (with_reducible exact ih1 _ _ _ _ _)
   | (with_reducible exact LeO.refl _)
   | (with_reducible exact LeO.none _)
   | (with_reducible refine LeO.ite ?_ ?_)
   | (with_reducible refine LeO.bind ?_ (fun _ => ?_))
   | exact ih0 _ _
   | exact ih1 _ _ _ _ _
   | exact LeO.none _
   | refine LeO.ite ?_ ?_
   | refine LeO.bind ?_ (fun _ => ?_)
  ·intro y0 y1 y2 y3 y4
   unfold impl_itemsOk.l0
   repeat' first
   | (with_reducible exact ih0 _ _)
   | (with_reducible exact ih1 _ _ _ _ _)
   | (with_reducible exact LeO.refl _)
   | (with_reducible exact LeO.none _)
   | (with_reducible refine LeO.ite ?_ ?_)
   | (with_reducible refine LeO.bind ?_ (fun _ => ?_))
   | exact ih0 _ _
   | exact ih1 _ _ _ _ _
   | exact LeO.none _
   | refine LeO.ite ?_ ?_
   | refine LeO.bind ?_ (fun _ => ?_)
theorem impl_itemsOk.mono : ∀ a0 a1 k,LeO (impl_itemsOk.f k a0 a1) (impl_itemsOk.f (k + 1) a0 a1):=by
 intro a0 a1 k
 obtain ⟨ih0,ih1⟩:=impl_itemsOk.mono_l k
 unfold impl_itemsOk.f
 repeat' first
   | (with_reducible exact ih0 _ _)
   | (with_reducible exact ih1 _ _ _ _ _)
   | (with_reducible exact LeO.refl _)
   | (with_reducible exact LeO.none _)
   | (with_reducible refine LeO.ite ?_ ?_)
   | (with_reducible refine LeO.bind ?_ (fun _ => ?_))
   | exact ih0 _ _
   | exact ih1 _ _ _ _ _
   | exact LeO.none _
   | refine LeO.ite ?_ ?_
   | refine LeO.bind ?_ (fun _ => ?_)
set_option maxHeartbeats 8000000 in
set_option maxRecDepth 100000 in
theorem impl_itemsOk.calls (k : Nat) (a0 : Int) (A1 : Option Addr) (c1 : Nat) (l1 : List ByteArray) (r : Bool) (w : World) (hr1 : Kd.C Kd.string w A1 l1.length l1) (hc1 : l1.length ≤ c1) (h : impl_itemsOk.f k a0 l1 = some r) :
  Calls Try.prog 50 #[.int .i64 a0,.slice A1 l1.length c1] w fun e w' => e = .returned (.bool r) ∧ Drawn0 w w':=by
 have HR1:=Aside0.mk hr1
 have HC1:=Aside0.mk hc1
 clear hr1 hc1
 have H : (if a0 = 2 then (impl_itemsOk.j0 k l1 0) else (if a0 = 3 then (if ((l1.length : Int) % 2) = 0 then (impl_itemsOk.j0 k l1 2) else (some false)) else (impl_itemsOk.j0 k l1 1))) = some r:=h
 clear h
 have HC3:=Aside0.mk H
 clear H
 go_enter Try.func50,Try.ntmps50
 go_upto_block 0 with (fail)
 go_cut [5] (fun v5 wc => ∃ (kq : Nat) (x5_2 : Int),v5 = .int .i64 x5_2 ∧ Aside0 (impl_itemsOk.j0 kq l1 x5_2 = some r) ∧ Aside0 (kq ≤ k) ∧ Drawn0 w wc)
 case first =>
  have H:=HC3.out
  clear HC3
  by_cases c4 : a0 = 2
  ·rw [if_pos c4] at H
   have c4b0 : (a0 == 2) = true:=beq_iff_eq.mpr c4
   have c4b1 : (a0 != 2) = false:=bne_eq_false_iff_eq.mpr c4
   clear c4
   (first | rw [c4b0] | (simp only [i64_w,i32_w];rw [c4b0]) | skip)
   have H':=Aside0.mk H
   clear H
   go_wp2
   go_meet
   case rel => exact ⟨_,(0),(by first | rfl | (simp;done) | (simp [*];done)),H',⟨by first | omega | exact Nat.le_refl _⟩,by repeat (first | exact Drawn0.refl _ | apply Drawn0.step)⟩
  ·rw [if_neg c4] at H
   have c4b0 : (a0 == 2) = false:=beq_eq_false_iff_ne.mpr c4
   have c4b1 : (a0 != 2) = true:=bne_iff_ne.mpr c4
   (first | rw [c4b0] | (simp only [i64_w,i32_w];rw [c4b0]) | skip)
   by_cases c5 : a0 = 3
   ·rw [if_pos c5] at H
    have c5b0 : (a0 == 3) = true:=beq_iff_eq.mpr c5
    have c5b1 : (a0 != 3) = false:=bne_eq_false_iff_eq.mpr c5
    clear c5
    by_cases c6 : ((l1.length : Int) % 2) = 0
    ·rw [if_pos c6] at H
     have c6b0 : (((l1.length : Int) % 2) == 0) = true:=beq_iff_eq.mpr c6
     have c6b1 : (((l1.length : Int) % 2) != 0) = false:=bne_eq_false_iff_eq.mpr c6
     clear c6
     have H':=Aside0.mk H
     clear H
     go_wp2
     go_meet
     case rel => exact ⟨_,(2),(by first | rfl | (simp;done) | (simp [*];done)),H',⟨by first | omega | exact Nat.le_refl _⟩,by repeat (first | exact Drawn0.refl _ | apply Drawn0.step)⟩
    ·rw [if_neg c6] at H
     have c6b0 : (((l1.length : Int) % 2) == 0) = false:=beq_eq_false_iff_ne.mpr c6
     have c6b1 : (((l1.length : Int) % 2) != 0) = true:=bne_iff_ne.mpr c6
     obtain rfl:=Option.some.inj H
     go_wp2
     go_ret
     exact ⟨by first | rfl | (simp;done) | (simp [*];done),by repeat (first | exact Drawn0.refl _ | apply Drawn0.step)⟩
   ·rw [if_neg c5] at H
    have c5b0 : (a0 == 3) = false:=beq_eq_false_iff_ne.mpr c5
    have c5b1 : (a0 != 3) = true:=bne_iff_ne.mpr c5
    have H':=Aside0.mk H
    clear H
    go_wp2
    go_meet
    case rel => exact ⟨_,(1),(by first | rfl | (simp;done) | (simp [*];done)),H',⟨by first | omega | exact Nat.le_refl _⟩,by repeat (first | exact Drawn0.refl _ | apply Drawn0.step)⟩
 case rest =>
  clear HC3
  try clear c1
  try clear p2
  try clear c4
  try clear c4b0
  try clear c4b1
  try clear c5
  try clear c5b0
  try clear c5b1
  try clear c6
  try clear c6b0
  try clear c6b1
  obtain ⟨kq,x5_2,rfl,HA,HJ2,⟨mc2,rfl⟩⟩:=hcut
  cases kq with
  | zero => exact absurd HA.out (by simp [impl_itemsOk.j0])
  | succ kj2 =>
   have H:=HA.out
   clear HA
   simp only [impl_itemsOk.j0] at H
   have H':=Aside0.mk H
   clear H
   go_wp2
   go_loopg [19] kj2 (fun kq v19 w' => ∃ (x19_2 : Int),v19 = .int .i64 x19_2 ∧ Aside0 (impl_itemsOk.l0 kq l1 x5_2 l1 (l1.length : Int) x19_2 = some r) ∧ Aside0 (kq ≤ kj2) ∧ Drawn0 w w')
   case atStart => exact ⟨(0),(by first | rfl | (simp;done) | (simp [*];done)),H',⟨Nat.le_refl _⟩,by repeat (first | exact Drawn0.refl _ | apply Drawn0.step)⟩
   case round =>
    clear H'
    try clear c1
    try clear c2
    try clear p2
    try clear c4
    try clear c4b0
    try clear c4b1
    try clear c5
    try clear c5b0
    try clear c5b1
    try clear c6
    try clear c6b0
    try clear c6b1
    try clear p2
    obtain ⟨x19_2,rfl,HA,HK2,⟨m2,rfl⟩⟩:=hrel
    cases gk with
    | zero => exact absurd HA.out (by simp [impl_itemsOk.l0])
    | succ k2 =>
     have H:=HA.out
     clear HA
     simp only [impl_itemsOk.l0] at H
     by_cases c7 : x19_2 < (l1.length : Int)
     ·rw [if_pos c7] at H
      have c7b0 : decide (x19_2 < (l1.length : Int)) = true:=decide_eq_true c7
      clear c7
      by_cases c8 : 0 ≤ x19_2
      ·rw [if_pos c8] at H
       have c8b0 : decide (0 ≤ x19_2) = true:=decide_eq_true c8
       clear c8
       by_cases c9 : x19_2 < (l1.length : Int)
       ·rw [if_pos c9] at H
        have c9b0 : decide (x19_2 < (l1.length : Int)) = true:=decide_eq_true c9
        clear c9
        by_cases c10 : ((rdOf ByteArray.empty l1 x19_2).size : Int) > 60
        ·rw [if_pos c10] at H
         have c10b0 : decide (60 < ((rdOf ByteArray.empty l1 x19_2).size : Int)) = true:=decide_eq_true c10
         have c10b1 : decide (60 < (rdOf ByteArray.empty l1 x19_2).size) = true:=decide_eq_true (by omega)
         clear c10
         obtain rfl:=Option.some.inj H
         have p216 : 0 ≤ (x19_2 : Int):=of_decide_eq_true (by first | (with_reducible assumption) | assumption)
         have q216 : x19_2 < (l1.length : Int):=of_decide_eq_true (by first | (with_reducible assumption) | assumption)
         obtain ⟨ad216,e216,hx216_0⟩:=Kd.at_string HR1.out x19_2 p216 q216
         cases e216
         replace p216:=eq_true p216
         replace q216:=eq_true q216
         go_wp2
         go_ret
         exact ⟨by first | rfl | (simp;done) | (simp [*];done),by repeat (first | exact Drawn0.refl _ | apply Drawn0.step)⟩
        ·rw [if_neg c10] at H
         have c10b0 : decide (60 < ((rdOf ByteArray.empty l1 x19_2).size : Int)) = false:=decide_eq_false c10
         have c10b1 : decide (60 < (rdOf ByteArray.empty l1 x19_2).size) = false:=decide_eq_false (by omega)
         clear c10
         by_cases c11 : x5_2 > 0
         ·rw [if_pos c11] at H
          have c11b0 : decide (0 < x5_2) = true:=decide_eq_true c11
          clear c11
          by_cases c12 : x5_2 = 0
          ·rw [if_pos c12] at H
           exact absurd H (by simp)
          ·rw [if_neg c12] at H
           have c12b0 : (x5_2 == 0) = false:=beq_eq_false_iff_ne.mpr c12
           have c12b1 : (x5_2 != 0) = true:=bne_iff_ne.mpr c12
           by_cases c13 : (Int.tmod x19_2 x5_2) = 0
           ·rw [if_pos c13] at H
            have c13b0 : ((Int.tmod x19_2 x5_2) == 0) = true:=beq_iff_eq.mpr c13
            have c13b1 : ((Int.tmod x19_2 x5_2) != 0) = false:=bne_eq_false_iff_eq.mpr c13
            clear c13
            by_cases c14 : x19_2 ≥ x5_2
            ·rw [if_pos c14] at H
             have c14b0 : decide (x5_2 ≤ x19_2) = true:=decide_eq_true c14
             clear c14
             obtain ⟨ji15,hji15⟩ : ∃ j_ : Int,(wrap64 (x19_2 - x5_2)) = j_:=⟨_,rfl⟩
             replace H : (if 0 ≤ (ji15) then (if (ji15) < (l1.length : Int) then (if ((Op.bytesLess ((rdOf ByteArray.empty l1 (ji15)).toList) ((rdOf ByteArray.empty l1 x19_2).toList)) = true) then (impl_itemsOk.l0 k2 l1 x5_2 l1 (l1.length : Int) (wrap64 (x19_2 + 1))) else (some false)) else (none)) else (none)) = some r:=by first | (rw [hji15] at H;exact H) | (simp only [hji15] at H ⊢;exact H)
             have hji15w : (IntKind.i64.wrap (x19_2 - x5_2)) = ji15:=(i64_w _).trans hji15
             by_cases c16 : 0 ≤ (ji15)
             ·rw [if_pos c16] at H
              have c16b0 : decide (0 ≤ (ji15)) = true:=decide_eq_true c16
              clear c16
              by_cases c17 : (ji15) < (l1.length : Int)
              ·rw [if_pos c17] at H
               have c17b0 : decide ((ji15) < (l1.length : Int)) = true:=decide_eq_true c17
               clear c17
               by_cases c18 : ((Op.bytesLess ((rdOf ByteArray.empty l1 (ji15)).toList) ((rdOf ByteArray.empty l1 x19_2).toList)) = true)
               ·rw [if_pos c18] at H
                have c18b0 : (Op.bytesLess ((rdOf ByteArray.empty l1 (ji15)).toList) ((rdOf ByteArray.empty l1 x19_2).toList)) = true:=c18
                clear c18
                have H':=Aside0.mk H
                clear H
                have p216 : 0 ≤ (x19_2 : Int):=of_decide_eq_true (by first | (with_reducible assumption) | assumption)
                have q216 : x19_2 < (l1.length : Int):=of_decide_eq_true (by first | (with_reducible assumption) | assumption)
                obtain ⟨ad216,e216,hx216_0⟩:=Kd.at_string HR1.out x19_2 p216 q216
                cases e216
                replace p216:=eq_true p216
                replace q216:=eq_true q216
                have p217 : 0 ≤ ((ji15) : Int):=of_decide_eq_true (by first | (with_reducible assumption) | assumption)
                have q217 : (ji15) < (l1.length : Int):=of_decide_eq_true (by first | (with_reducible assumption) | assumption)
                obtain ⟨ad217,e217,hx217_0⟩:=Kd.at_string HR1.out (ji15) p217 q217
                obtain rfl : ad216 = ad217:=(by injection e217)
                replace p217:=eq_true p217
                replace q217:=eq_true q217
                go_wp2
                go_roundg k2
                case measure => have:=HJ2.out;have:=HK2.out;omega
                case rel => exact ⟨(wrap64 (x19_2 + 1)),(by first | rfl | (simp;done) | (simp [*];done)),H',⟨by have:=HJ2.out;have:=HK2.out;omega⟩,by repeat (first | exact Drawn0.refl _ | apply Drawn0.step)⟩
               ·rw [if_neg c18] at H
                have c18b0 : (Op.bytesLess ((rdOf ByteArray.empty l1 (ji15)).toList) ((rdOf ByteArray.empty l1 x19_2).toList)) = false:=by simpa using c18
                clear c18
                obtain rfl:=Option.some.inj H
                have p216 : 0 ≤ (x19_2 : Int):=of_decide_eq_true (by first | (with_reducible assumption) | assumption)
                have q216 : x19_2 < (l1.length : Int):=of_decide_eq_true (by first | (with_reducible assumption) | assumption)
                obtain ⟨ad216,e216,hx216_0⟩:=Kd.at_string HR1.out x19_2 p216 q216
                cases e216
                replace p216:=eq_true p216
                replace q216:=eq_true q216
                have p217 : 0 ≤ ((ji15) : Int):=of_decide_eq_true (by first | (with_reducible assumption) | assumption)
                have q217 : (ji15) < (l1.length : Int):=of_decide_eq_true (by first | (with_reducible assumption) | assumption)
                obtain ⟨ad217,e217,hx217_0⟩:=Kd.at_string HR1.out (ji15) p217 q217
                obtain rfl : ad216 = ad217:=(by injection e217)
                replace p217:=eq_true p217
                replace q217:=eq_true q217
                go_wp2
                go_ret
                exact ⟨by first | rfl | (simp;done) | (simp only [← hji15] <;> (first | rfl | simp)) | (simp [*];done),by repeat (first | exact Drawn0.refl _ | apply Drawn0.step)⟩
              ·rw [if_neg c17] at H
               exact absurd H (by simp)
             ·rw [if_neg c16] at H
              exact absurd H (by simp)
            ·rw [if_neg c14] at H
             have c14b0 : decide (x5_2 ≤ x19_2) = false:=decide_eq_false c14
             clear c14
             have H':=Aside0.mk H
             clear H
             have p216 : 0 ≤ (x19_2 : Int):=of_decide_eq_true (by first | (with_reducible assumption) | assumption)
             have q216 : x19_2 < (l1.length : Int):=of_decide_eq_true (by first | (with_reducible assumption) | assumption)
             obtain ⟨ad216,e216,hx216_0⟩:=Kd.at_string HR1.out x19_2 p216 q216
             cases e216
             replace p216:=eq_true p216
             replace q216:=eq_true q216
             go_wp2
             go_roundg k2
             case measure => have:=HJ2.out;have:=HK2.out;omega
             case rel => exact ⟨(wrap64 (x19_2 + 1)),(by first | rfl | (simp;done) | (simp [*];done)),H',⟨by have:=HJ2.out;have:=HK2.out;omega⟩,by repeat (first | exact Drawn0.refl _ | apply Drawn0.step)⟩
           ·rw [if_neg c13] at H
            have c13b0 : ((Int.tmod x19_2 x5_2) == 0) = false:=beq_eq_false_iff_ne.mpr c13
            have c13b1 : ((Int.tmod x19_2 x5_2) != 0) = true:=bne_iff_ne.mpr c13
            have H':=Aside0.mk H
            clear H
            have p216 : 0 ≤ (x19_2 : Int):=of_decide_eq_true (by first | (with_reducible assumption) | assumption)
            have q216 : x19_2 < (l1.length : Int):=of_decide_eq_true (by first | (with_reducible assumption) | assumption)
            obtain ⟨ad216,e216,hx216_0⟩:=Kd.at_string HR1.out x19_2 p216 q216
            cases e216
            replace p216:=eq_true p216
            replace q216:=eq_true q216
            go_wp2
            go_roundg k2
            case measure => have:=HJ2.out;have:=HK2.out;omega
            case rel => exact ⟨(wrap64 (x19_2 + 1)),(by first | rfl | (simp;done) | (simp [*];done)),H',⟨by have:=HJ2.out;have:=HK2.out;omega⟩,by repeat (first | exact Drawn0.refl _ | apply Drawn0.step)⟩
         ·rw [if_neg c11] at H
          have c11b0 : decide (0 < x5_2) = false:=decide_eq_false c11
          clear c11
          have H':=Aside0.mk H
          clear H
          have p216 : 0 ≤ (x19_2 : Int):=of_decide_eq_true (by first | (with_reducible assumption) | assumption)
          have q216 : x19_2 < (l1.length : Int):=of_decide_eq_true (by first | (with_reducible assumption) | assumption)
          obtain ⟨ad216,e216,hx216_0⟩:=Kd.at_string HR1.out x19_2 p216 q216
          cases e216
          replace p216:=eq_true p216
          replace q216:=eq_true q216
          go_wp2
          go_roundg k2
          case measure => have:=HJ2.out;have:=HK2.out;omega
          case rel => exact ⟨(wrap64 (x19_2 + 1)),(by first | rfl | (simp;done) | (simp [*];done)),H',⟨by have:=HJ2.out;have:=HK2.out;omega⟩,by repeat (first | exact Drawn0.refl _ | apply Drawn0.step)⟩
       ·rw [if_neg c9] at H
        exact absurd H (by simp)
      ·rw [if_neg c8] at H
       exact absurd H (by simp)
     ·rw [if_neg c7] at H
      have c7b0 : decide (x19_2 < (l1.length : Int)) = false:=decide_eq_false c7
      clear c7
      replace H:=Option.bind_eq_some_iff.mp H
      obtain ⟨t218,A190,H⟩:=H
      replace H : (some t218) = some r:=H
      have A19:=Aside0.mk A190
      clear A190
      obtain rfl:=Option.some.inj H
      go_wp2_with (first | ((with_reducible refine gate_callee (f:=49) rfl ?_);refine goesL_ (some 55) rfl rfl Try.func49 (by kernel_rfl) rfl #[.int .i64 (l1.length : Int),.int .i64 1,.int .i64 24] rfl zM0 ?_;(with_reducible refine (impl_within.calls (l1.length : Int) 1 24 t218 _ A19.out).mono ?_);rintro e w' ⟨rfl,⟨nd,rfl⟩⟩;refine ⟨_,rfl,?_⟩))
      go_ret
      exact ⟨by first | rfl | (simp;done) | (simp [*];done),by repeat (first | exact Drawn0.refl _ | apply Drawn0.step)⟩

end Go.Proofs.Ytlekhcopddajbaa.PFnExactDiffer
