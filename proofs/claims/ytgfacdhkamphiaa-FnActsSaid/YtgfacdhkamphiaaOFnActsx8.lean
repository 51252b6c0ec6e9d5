/- Walks, turned from a print. -/
import Derived.Test.YtgfacdhkamphiaaOFnActsx0
namespace Go.Proofs.Ytgfacdhkamphiaa.PFnActs
open Go.RowKit Go.Proofs.YtgfacdhkamphiaaW.PrintWords Go.Proofs.YtgfacdhkamphiaaW.PrintLast Go.Proofs.YtgfacdhkamphiaaW.PrintMore
attribute [local go_sem] max2_int min2_int max_two min_two max_three min_three max_four min_four
set_option linter.unusedVariables false
set_option linter.unusedSimpArgs false

/-! ### spec_l03Put: function 74 -/
mutual
def spec_l03Put.l0 : Nat → Int → List (S45) → ByteArray → ByteArray → Int → List (S45) → Option ((List (S45)))
 | 0,_,_,_,_,_,_ => none
 | k + 1,x6,x129000,x130000,x130001,x130002,x132000 => if x6 < (x129000.length : Int) then (if 0 ≤ x6 then (if (Op.bytesLess (((rd_T45 x129000 x6).f0).toList) x130000.toList) = true then (if x132000.length < 3518437208883 then (spec_l03Put.l0 k (wrap64 (x6 + 1)) x129000 x130000 x130001 x130002 (x132000 ++ [(⟨(rd_T45 x129000 x6).f0,(rd_T45 x129000 x6).f1,(rd_T45 x129000 x6).f2⟩ : S45)])) else (none)) else (spec_l03Put.l0 k (wrap64 (x6 + 1)) x129000 x130000 x130001 x130002 x132000)) else (none)) else (if x132000.length < 3518437208883 then (spec_l03Put.l1 k 0 x129000 x130000 x130001 x130002 (x132000 ++ [(⟨x130000,x130001,x130002⟩ : S45)])) else (none))
def spec_l03Put.l1 : Nat → Int → List (S45) → ByteArray → ByteArray → Int → List (S45) → Option ((List (S45)))
 | 0,_,_,_,_,_,_ => none
 | k + 1,x7,x129000,x130000,x130001,x130002,x132000 => if x7 < (x129000.length : Int) then (if 0 ≤ x7 then (if (Op.bytesLess x130000.toList (((rd_T45 x129000 x7).f0).toList)) = true then (if x132000.length < 3518437208883 then (spec_l03Put.l1 k (wrap64 (x7 + 1)) x129000 x130000 x130001 x130002 (x132000 ++ [(⟨(rd_T45 x129000 x7).f0,(rd_T45 x129000 x7).f1,(rd_T45 x129000 x7).f2⟩ : S45)])) else (none)) else (spec_l03Put.l1 k (wrap64 (x7 + 1)) x129000 x130000 x130001 x130002 x132000)) else (none)) else (some x132000)
end
def spec_l03Put.f (k : Nat) (l0_0 : List (S45)) (a1_0 : ByteArray) (a1_1 : ByteArray) (a1_2 : Int) : Option ((List (S45))):=spec_l03Put.l0 k 0 l0_0 a1_0 a1_1 a1_2 ([] : List (S45))
theorem spec_l03Put.mono_l : ∀ k,(∀ y0 y1 y2 y3 y4 y5,LeO (spec_l03Put.l0 k y0 y1 y2 y3 y4 y5) (spec_l03Put.l0 (k + 1) y0 y1 y2 y3 y4 y5)) ∧ (∀ y0 y1 y2 y3 y4 y5,LeO (spec_l03Put.l1 k y0 y1 y2 y3 y4 y5) (spec_l03Put.l1 (k + 1) y0 y1 y2 y3 y4 y5))
 | 0 => ⟨fun _ _ _ _ _ _ r h => by simp [spec_l03Put.l0] at h,fun _ _ _ _ _ _ r h => by simp [spec_l03Put.l1] at h⟩
 | k + 1 => by
  obtain ⟨ih0,ih1⟩:=spec_l03Put.mono_l k
  refine ⟨?_,?_⟩
  intro y0 y1 y2 y3 y4 y5;unfold spec_l03Put.l0;rotate_left
  intro y0 y1 y2 y3 y4 y5;unfold spec_l03Put.l1;rotate_left
  all_goals repeat' first
  | (with_reducible exact ih0 _ _ _ _ _ _)
  | (with_reducible exact ih1 _ _ _ _ _ _)
  | (with_reducible exact LeO.refl _)
  | (with_reducible exact LeO.none _)
  | (with_reducible refine LeO.ite ?_ ?_)
  | (with_reducible refine LeO.bind ?_ (fun _ => ?_))
theorem spec_l03Put.mono : ∀ a0 a1 a2 a3 k,LeO (spec_l03Put.f k a0 a1 a2 a3) (spec_l03Put.f (k + 1) a0 a1 a2 a3):=by
 intro a0 a1 a2 a3 k
 obtain ⟨ih0,ih1⟩:=spec_l03Put.mono_l k
 unfold spec_l03Put.f
 repeat' first
  | (with_reducible exact ih0 _ _ _ _ _ _)
  | (with_reducible exact ih1 _ _ _ _ _ _)
  | (with_reducible exact LeO.refl _)
  | (with_reducible exact LeO.none _)
  | (with_reducible refine LeO.ite ?_ ?_)
  | (with_reducible refine LeO.bind ?_ (fun _ => ?_))
def spec_l03Put.T5 : Bool × List (List Nat × List Nat):=(true,[([],[]),([0],[0]),([],[]),([1,2],[1,2]),([3],[3]),([4],[4]),([],[]),([6],[6]),([5,7],[5,7])])
def spec_l03Put.B5 : List Nat:=[0,1,0,7,15,31,0,64,255]
theorem spec_l03Put.tab5 : rtab .any (opsOf Try.f74 5) = spec_l03Put.T5:=by kernel_rfl
theorem spec_l03Put.bits5 : waitsOk spec_l03Put.T5.2 spec_l03Put.B5 = true:=by kernel_rfl
def spec_l03Put.T6 : Bool × List (List Nat × List Nat):=(true,[([],[]),([0],[0]),([],[]),([2],[2]),([],[]),([3,4],[3,4]),([5],[5]),([6],[6]),([1,7],[1,7]),([0,1,2,3,4,5,6,7,8],[]),([9,8,8,0,1,2,3,4,5,6,7,8],[8,9])])
def spec_l03Put.B6 : List Nat:=[0,1,0,4,0,28,60,124,255,511,1023]
theorem spec_l03Put.tab6 : rtab .any (opsOf Try.f74 6) = spec_l03Put.T6:=by kernel_rfl
theorem spec_l03Put.bits6 : waitsOk spec_l03Put.T6.2 spec_l03Put.B6 = true:=by kernel_rfl
def spec_l03Put.T11 : Bool × List (List Nat × List Nat):=(true,[([],[]),([0],[0]),([],[]),([1,2],[1,2]),([3],[3]),([4],[4]),([],[]),([6],[6]),([5,7],[5,7])])
def spec_l03Put.B11 : List Nat:=[0,1,0,7,15,31,0,64,255]
theorem spec_l03Put.tab11 : rtab .any (opsOf Try.f74 11) = spec_l03Put.T11:=by kernel_rfl
theorem spec_l03Put.bits11 : waitsOk spec_l03Put.T11.2 spec_l03Put.B11 = true:=by kernel_rfl
def spec_l03Put.T12 : Bool × List (List Nat × List Nat):=(true,[([],[]),([0],[0]),([],[]),([2],[2]),([],[]),([3,4],[3,4]),([5],[5]),([6],[6]),([1,7],[1,7]),([0,1,2,3,4,5,6,7,8],[]),([9,8,8,0,1,2,3,4,5,6,7,8],[8,9])])
def spec_l03Put.B12 : List Nat:=[0,1,0,4,0,28,60,124,255,511,1023]
theorem spec_l03Put.tab12 : rtab .any (opsOf Try.f74 12) = spec_l03Put.T12:=by kernel_rfl
theorem spec_l03Put.bits12 : waitsOk spec_l03Put.T12.2 spec_l03Put.B12 = true:=by kernel_rfl
set_option maxHeartbeats 8000000 in
set_option maxRecDepth 100000 in
theorem spec_l03Put.calls (k : Nat) (A0_0 : Option Addr) (c0_0 : Nat) (l0_0 : List (S45)) (a1_0 : ByteArray) (a1_1 : ByteArray) (a1_2 : Int) (r : List (S45)) (w : World) (hr0_0 : Kd.C k45 w A0_0 l0_0.length l0_0) (hc0_0 : l0_0.length ≤ c0_0) (h : spec_l03Put.f k l0_0 a1_0 a1_1 a1_2 = some r) :
  Calls Try.prog 74 #[.agg #[.slice A0_0 l0_0.length c0_0],.agg #[.string a1_0,.string a1_1,.int .i64 a1_2]] w fun e w' => ∃ v0_ : Value,e = .returned (.agg #[v0_]) ∧ Kd.R k45 45 w' w.heap.size (fun _ => True) v0_ r ∧ Below w.heap.size w w':=by
 have hu30:=Try.underlying30
 have hu45:=Try.underlying45
 have HR0_0:=Aside0.mk hr0_0
 have HC0_0:=Aside0.mk hc0_0
 clear hr0_0 hc0_0
 have HB:=Aside0.mk (Below.refl w.heap.size w)
 have H : (spec_l03Put.l0 k 0 l0_0 a1_0 a1_1 a1_2 ([] : List (S45))) = some r:=h
 clear h
 have H':=Aside0.mk H
 clear H
 go_enter Try.func74,Try.ntmps74
 go_wp2_with (first | ((with_reducible refine gate_dst (N:=2) rfl ?_);refine zy0 (cs:=#[.slice A0_0 l0_0.length c0_0]) (t:=30) ?_;intro gb128 hg w3 hbox hb;have BK128:=Aside0.mk hbox;have GW128:=zz0 hg HB;have GE128:=zz0 hg HB;replace HB:=zs0 HB hb;clear hb hbox hg) | ((with_reducible refine gate_dst (N:=3) rfl ?_);refine zy0 (cs:=#[.string a1_0,.string a1_1,.int .i64 a1_2]) (t:=45) ?_;intro gb129 hg w4 hbox hb;have BK129:=Aside0.mk hbox;have GW129:=zz0 hg HB;have GE129:=zz0 hg HB;replace HB:=zs0 HB hb;have NB128_129:=zl0 hg BK128;have NB129_128:=zg0 hg BK128;replace BK128:=zb0 BK128 hb;clear hb hbox hg) | ((with_reducible refine gate_dst (N:=4) rfl ?_);refine zy0 (cs:=#[.slice none 0 0]) (t:=30) ?_;intro gb130 hg w5 hbox hb;have BK130:=Aside0.mk hbox;have GW130:=zz0 hg HB;have GE130:=zz0 hg HB;replace HB:=zs0 HB hb;have NB128_130:=zl0 hg BK128;have NB130_128:=zg0 hg BK128;replace BK128:=zb0 BK128 hb;have NB129_130:=zl0 hg BK129;have NB130_129:=zg0 hg BK129;replace BK129:=zb0 BK129 hb;clear hb hbox hg) | ((with_reducible refine gate_dst (N:=5) rfl ?_);refine zy0 (cs:=#[.slice none 0 0]) (t:=30) ?_;intro gb131 hg w6 hbox hb;have BK131:=Aside0.mk hbox;have GW131:=zz0 hg HB;have GE131:=zz0 hg HB;replace HB:=zs0 HB hb;have NB128_131:=zl0 hg BK128;have NB131_128:=zg0 hg BK128;replace BK128:=zb0 BK128 hb;have NB129_131:=zl0 hg BK129;have NB131_129:=zg0 hg BK129;replace BK129:=zb0 BK129 hb;have NB130_131:=zl0 hg BK130;have NB131_130:=zg0 hg BK130;replace BK130:=zb0 BK130 hb;clear hb hbox hg;obtain ⟨_,_⟩:=zn0 NB131_128;obtain ⟨_,_⟩:=zn0 NB131_129;obtain ⟨_,_⟩:=zn0 NB131_130;obtain ⟨hcz10_0,hfz10_0⟩:=zd01 BK131))
 go_loopg [6] k (fun kq v6 w' => ∃ (x6_1 : Int) (x132000_1 : List (S45)) (u132000 : Value),v6 = .int .i64 x6_1 ∧ Aside0 (spec_l03Put.l0 kq x6_1 l0_0 a1_0 a1_1 a1_2 x132000_1 = some r) ∧ Aside0 (kq ≤ k) ∧ Aside0 (Kd.R k45 45 w' w.heap.size (fun k_ => k_ ≠ gb129) u132000 x132000_1) ∧ Aside0 (w'.heap[gb128]? = some (.cells #[(.slice A0_0 l0_0.length c0_0)] 30 (0,0))) ∧ Aside0 (w'.heap[gb129]? = some (.cells #[.string a1_0,.string a1_1,.int .i64 a1_2] 45 (0,0))) ∧ Aside0 (w'.heap[gb130]? = some (.cells #[(.slice none 0 0)] 30 (0,0))) ∧ Aside0 (w'.heap[gb131]? = some (.cells #[u132000] 30 (0,0))) ∧ Aside0 (Below w.heap.size w w'))
 case atStart => exact ⟨(0),(([] : List (S45))),(.slice none 0 0),zE0,H',⟨Nat.le_refl _⟩,⟨by first | exact Kd.R_nil _ _ _ _ _ | exact Kd.N_nil _ _ _ _ _ | exact Kd.V_nil _ _ _ _ _ | exact Kd.Q_nil _ _ _ _ _ | exact Kd.S_nil _ _ _ _ _⟩,⟨zK0 BK128.out⟩,⟨zK0 BK129.out⟩,⟨zK0 BK130.out⟩,⟨by refine zT0 ?_;refine blk_put (cs:=#[.slice none 0 0]) ?_ 0 _ rfl;exact zK0 BK131.out⟩,⟨zY0 HB.out⟩⟩
 case round =>
  clear H'
  try clear hcz10_0
  try clear hfz10_0
  obtain ⟨x6_1,x132000_1,u132000,rfl,HA,HK1,HO_132000,BK128,BK129,BK130,BK131,HB⟩:=hrel
  cases gk with
  | zero => exact absurd HA.out (by simp [spec_l03Put.l0])
  | succ k1 =>
   have H:=HA.out
   clear HA
   simp only [spec_l03Put.l0] at H
   by_cases c11 : x6_1 < (l0_0.length : Int)
   ·rw [if_pos c11] at H
    have c11b0 : decide (x6_1 < (l0_0.length : Int)) = true:=decide_eq_true c11
    clear c11
    by_cases c12 : 0 ≤ x6_1
    ·rw [if_pos c12] at H
     have c12b0 : decide (0 ≤ x6_1) = true:=decide_eq_true c12
     clear c12
     by_cases c13 : (Op.bytesLess (((rd_T45 l0_0 x6_1).f0).toList) a1_0.toList) = true
     ·rw [if_pos c13] at H
      have c13b0 : (Op.bytesLess (((rd_T45 l0_0 x6_1).f0).toList) a1_0.toList) = true:=c13
      clear c13
      by_cases c14 : x132000_1.length < 3518437208883
      ·rw [if_pos c14] at H
       have LMc14:=Aside0.mk c14
       clear c14
       obtain ⟨y134,hy134⟩ : ∃ y_ : List (S45),y_ = (x132000_1 ++ [(⟨(rd_T45 l0_0 x6_1).f0,(rd_T45 l0_0 x6_1).f1,(rd_T45 l0_0 x6_1).f2⟩ : S45)]):=⟨_,rfl⟩
       replace H : (spec_l03Put.l0 k1 (wrap64 (x6_1 + 1)) l0_0 a1_0 a1_1 a1_2 y134) = some r:=by first | (rw [hy134];with_reducible exact H) | (have H2_:=(Option.bind_some _ _).symm.trans H;rw [hy134];with_reducible exact H2_) | (have H2_:=(Option.bind_some _ _).symm.trans H;with_reducible exact H2_) | with_reducible exact H | (rw [hy134];exact H) | exact H
       have Ny134:=Aside0.mk hy134
       clear hy134
       have H':=Aside0.mk H
       clear H
       obtain ⟨_,_⟩:=zn0 NB128_129
       obtain ⟨_,_⟩:=zn0 NB128_130
       obtain ⟨_,_⟩:=zn0 NB128_131
       have hcz18_0 : wr.cell? ⟨gb128,0,none⟩ = some (.slice A0_0 l0_0.length c0_0):=zc00 BK128
       have hfz18_0:=blk_frozen BK128.out 0
       try go_wp2
       replace HO_132000:=Aside0.mk (Kd.R_drew HO_132000.out)
       replace BK128:=Aside0.mk (blk_drew BK128.out)
       replace BK129:=Aside0.mk (blk_drew BK129.out)
       replace BK130:=Aside0.mk (blk_drew BK130.out)
       replace BK131:=Aside0.mk (blk_drew BK131.out)
       replace HB:=Aside0.mk (below_drew1 HB.out)
       have p132 : 0 ≤ (x6_1 : Int):=zD0
       have q132 : x6_1 < (l0_0.length : Int):=zD0
       obtain ⟨ad132,e132,hx132_0,hx132_1,hx132_2⟩:=at_T45 HR0_0.out x6_1 p132 q132
       have hw132_2:=hx132_2
       have hw132_1:=hx132_1
       have hw132_0:=hx132_0
       cases e132
       replace hx132_0:=zx0 HB hx132_0
       replace hx132_1:=zx0 HB hx132_1
       replace hx132_2:=zx0 HB hx132_2
       replace p132:=eq_true p132
       replace q132:=eq_true q132
       refine start_ (n:=9) (S:=fun w' => w'.cell? ⟨gb128,0,none⟩ = some (.slice (some ad132) l0_0.length c0_0) ∧ w'.cell? ⟨gb129,0,none⟩ = some (.string a1_0) ∧ w'.cell? ⟨gb129,1,none⟩ = some (.string a1_1) ∧ w'.cell? ⟨gb129,2,none⟩ = some (.int .i64 a1_2) ∧ w'.cell? (ad132.add ((x6_1).toNat * 3)) = some (.string ((rd_T45 l0_0 x6_1).f0)) ∧ w'.cell? ⟨(ad132.add ((x6_1).toNat * 3)).block,(ad132.add ((x6_1).toNat * 3)).off + 1,none⟩ = some (.string ((rd_T45 l0_0 x6_1).f1)) ∧ w'.cell? ⟨(ad132.add ((x6_1).toNat * 3)).block,(ad132.add ((x6_1).toNat * 3)).off + 2,none⟩ = some (.int .i64 ((rd_T45 l0_0 x6_1).f2))) (ds:=[]) (zF0 9 0) (by kernel_rfl) rfl rfl ⟨zc00 BK128,zc00 BK129,zc01 BK129,zc02 BK129,(zx0 HB hw132_0 :),(zx0 HB hw132_1 :),(zx0 HB hw132_2 :)⟩ (fun hHeld => ?_);refine with_tabW spec_l03Put.tab5 spec_l03Put.bits5 (fun HT_ HW_ => ?_)
       generalize wr.drew = w19 at HO_132000 BK128 BK129 BK130 BK131 HB hx132_0 hx132_1 hx132_2 hHeld ⊢
       refine zp0 0 16 9 1 HT_ ?_
       refine zp0 2 18 9 5 HT_ ?_
       refine zp0 6 22 9 69 HT_ ?_
       refine zt0 1 17 9 71 HT_ HW_ hHeld ?_
       refine zp0 3 19 9 79 HT_ ?_
       refine zp0 4 20 9 95 HT_ ?_
       refine zt0 5 21 9 127 HT_ HW_ hHeld ?_
       refine zt0 7 23 9 255 HT_ HW_ hHeld ?_
       refine zp0 8 24 9 511 HT_ ?_
       refine done_ (done_of HT_.out (by kernel_rfl)) ?_
       try go_wp2
       replace HO_132000:=Aside0.mk (Kd.R_drew HO_132000.out)
       replace BK128:=Aside0.mk (blk_drew BK128.out)
       replace BK129:=Aside0.mk (blk_drew BK129.out)
       replace BK130:=Aside0.mk (blk_drew BK130.out)
       replace BK131:=Aside0.mk (blk_drew BK131.out)
       replace HB:=Aside0.mk (below_drew1 HB.out)
       have p133 : 0 ≤ (x6_1 : Int):=zD0
       have q133 : x6_1 < (l0_0.length : Int):=zD0
       obtain ⟨ad133,e133,hx133_0,hx133_1,hx133_2⟩:=at_T45 HR0_0.out x6_1 p133 q133
       have hw133_2:=hx133_2
       have hw133_1:=hx133_1
       have hw133_0:=hx133_0
       obtain rfl : ad132 = ad133:=(by injection e133)
       replace hx133_0:=zx0 HB hx133_0
       replace hx133_1:=zx0 HB hx133_1
       replace hx133_2:=zx0 HB hx133_2
       replace p133:=eq_true p133
       replace q133:=eq_true q133
       refine start_ (n:=11) (S:=fun w' => w'.cell? ⟨gb131,0,none⟩ = some (u132000) ∧ w'.cell? ⟨gb128,0,none⟩ = some (.slice (some ad132) l0_0.length c0_0) ∧ w'.cell? (ad132.add ((x6_1).toNat * 3)) = some (.string ((rd_T45 l0_0 x6_1).f0)) ∧ w'.cell? ⟨(ad132.add ((x6_1).toNat * 3)).block,(ad132.add ((x6_1).toNat * 3)).off + 1,none⟩ = some (.string ((rd_T45 l0_0 x6_1).f1)) ∧ w'.cell? ⟨(ad132.add ((x6_1).toNat * 3)).block,(ad132.add ((x6_1).toNat * 3)).off + 2,none⟩ = some (.int .i64 ((rd_T45 l0_0 x6_1).f2))) (ds:=[10]) (zF0 11 0) (by kernel_rfl) rfl rfl ⟨zc00 BK131,zc00 BK128,(zx0 HB hw133_0 :),(zx0 HB hw133_1 :),(zx0 HB hw133_2 :)⟩ (fun hHeld => ?_);refine with_tabW spec_l03Put.tab6 spec_l03Put.bits6 (fun HT_ HW_ => ?_)
       generalize w19.drew = w20 at HO_132000 BK128 BK129 BK130 BK131 HB hx133_0 hx133_1 hx133_2 hHeld ⊢
       refine zp0 0 25 11 1 HT_ ?_
       refine zp0 2 27 11 5 HT_ ?_
       refine zp0 4 29 11 21 HT_ ?_
       refine zt0 1 26 11 23 HT_ HW_ hHeld ?_
       refine zt0 3 28 11 31 HT_ HW_ hHeld ?_
       refine zp0 5 30 11 63 HT_ ?_
       refine zt0 6 31 11 127 HT_ HW_ hHeld ?_
       refine one_ (i:=7) (N:=some 32) (zF0 11 255) rfl rfl (one_of HT_.out (by kernel_rfl)) (by decide) (fun K hK => ?_)
       refine value_ (w1:=?_) (v:=?_) (by rfl) rfl ?_ ?_
       rotate_left 2
       ·go_simp
        constructor
        ·rfl
        ·rfl
       refine hK.out _ _ ⟨(blk_cell (blk_alloc BK131.out _) 0).trans rfl,(blk_cell (blk_alloc BK128.out _) 0).trans rfl,(World.cell?_alloc_lt _ _ _ (World.block_lt_of_cell? _ _ ((zx0 HB hw133_0 :)))).trans ((zx0 HB hw133_0 :)),(World.cell?_alloc_lt _ _ _ (World.block_lt_of_cell? _ _ ((zx0 HB hw133_1 :)))).trans ((zx0 HB hw133_1 :)),(World.cell?_alloc_lt _ _ _ (World.block_lt_of_cell? _ _ ((zx0 HB hw133_2 :)))).trans ((zx0 HB hw133_2 :))⟩ (fun hHeld => ?_)
       clear hK K
       refine norm_ (a':=?_) ?_ ?_;rotate_left
       ·show Act.put _ (some 32) _ = _;simp only [Act.put,qA0,qB0,qC0,i64_w,i32_w];rfl
       refine one_ (i:=8) (N:=some 33) (zF0 11 511) rfl rfl (one_of HT_.out (by kernel_rfl)) (by decide) (fun K hK => ?_)
       refine Kd.R_append_step k45 (w0:=w) w.heap.size (by rfl) (.tmp 26) (.tmp 32) 28 45 (.agg #[(.string ⟨#[]⟩),(.string ⟨#[]⟩),(.int .i64 0)]) 40 rfl Try.underlying28 info45 rfl (by decide) (by omega) u132000 x132000_1 (⟨(rd_T45 l0_0 x6_1).f0,(rd_T45 l0_0 x6_1).f1,(rd_T45 l0_0 x6_1).f2⟩ : S45) [.string ((rd_T45 l0_0 x6_1).f0),.string ((rd_T45 l0_0 x6_1).f1),.int .i64 ((rd_T45 l0_0 x6_1).f2)] (fun k_ => k_ ≠ gb129) (fun _ => False) rfl rfl ?aP (fun _ hk => hk.elim) ?aF ?aO ?aB ?aS ?aL ?_
       (case aP => exact k45_mkM _ _ _ (⟨(rd_T45 l0_0 x6_1).f0,(rd_T45 l0_0 x6_1).f1,(rd_T45 l0_0 x6_1).f2⟩ : S45))
       (case aB => exact (zY0 HB.out))
       (case aF => exact (fun k_ hk => Kd.freshB (g:=gb129) (o:=.cells #[.string a1_0,.string a1_1,.int .i64 a1_2] 45 (0,0)) (zK0 BK129.out) k_ hk))
       (case aO => exact (zR0 HO_132000.out))
       (case aS => exact (zZ0 HB.out))
       (case aL => have:=LMc14.out;omega)
       intro v135 w21 ho hb hg hat
       rw [← Ny134.out] at ho
       replace BK128:=Aside0.mk (blk_grown (g:=gb128) (o:=.cells #[.slice (some ad132) l0_0.length c0_0] 30 (0,0)) (zK0 BK128.out) hg (Kd.R_ne HO_132000.out BK128.out (by decide)))
       replace BK129:=Aside0.mk (blk_grown (g:=gb129) (o:=.cells #[.string a1_0,.string a1_1,.int .i64 a1_2] 45 (0,0)) (zK0 BK129.out) hg (Kd.R_away HO_132000.out (fun _ hk => hk)))
       replace BK130:=Aside0.mk (blk_grown (g:=gb130) (o:=.cells #[.slice none 0 0] 30 (0,0)) (zK0 BK130.out) hg (Kd.R_ne HO_132000.out BK130.out (by decide)))
       replace BK131:=Aside0.mk (blk_grown (g:=gb131) (o:=.cells #[u132000] 30 (0,0)) (zK0 BK131.out) hg (Kd.R_ne HO_132000.out BK131.out (by decide)))
       replace HB:=Aside0.mk hb
       have HO136:=Aside0.mk ho
       clear HO_132000
       clear ho hb hg hat
       obtain ⟨Ao22,co22,eo22⟩:=Kd.R_slice HO136.out
       (first | subst eo22 | (injection eo22 with f1_ f2_ f3_;have f4_:=f1_.symm;have f5_:=f3_.symm;clear f1_ f2_ f3_;subst f4_;subst f5_))
       refine hK.out _ _ ⟨zc00 BK131,zc00 BK128,(zx0 HB hw133_0 :),(zx0 HB hw133_1 :),(zx0 HB hw133_2 :)⟩ (fun hHeld => ?_)
       clear hK K
       refine norm_ (a':=?_) ?_ ?_;rotate_left
       ·show Act.put _ (some 33) _ = _;simp only [Act.put,qA0,qB0,qC0,i64_w,i32_w];rfl
       refine zp0 9 34 11 1023 HT_ ?_
       refine last_ (i:=10) (N:=none) (zF0 11 2047) rfl rfl (one_of HT_.out (by kernel_rfl)) (by decide) (fun K hK => ?_)
       have hs23 : w21.cell? ⟨gb131,0,none⟩ = some (u132000):=zc00 BK131
       have hfs23:=blk_frozen BK131.out 0
       have hns23_0:=NB128_131.out
       have hns23_1:=NB129_131.out
       have hns23_2:=NB130_131.out
       have hms23_0:=NB131_128.out
       have hms23_1:=NB131_129.out
       have hms23_2:=NB131_130.out
       refine skip_ (w1:=?_) (by rfl) rfl ?_ ?_;rotate_left
       ·go_simp
        rfl
       refine hK.out _ _ ?_
       clear hK K
       refine done_ (done_of HT_.out (by kernel_rfl)) ?_
       try go_wp2
       go_roundg k1
       case measure => have:=HK1.out;omega
       case rel => exact ⟨(wrap64 (x6_1 + 1)),(y134),(.slice Ao22 y134.length co22),zE0,H',⟨by have:=HK1.out;omega⟩,⟨by refine zV0 ?_;exact Kd.R_set HO136.out BK131.out (by decide) 0 _⟩,⟨zK0 BK128.out⟩,⟨zK0 BK129.out⟩,⟨zK0 BK130.out⟩,⟨by refine zT0 ?_;refine blk_put (cs:=#[u132000]) ?_ 0 _ rfl;exact zK0 BK131.out⟩,⟨zY0 HB.out⟩⟩
      ·rw [if_neg c14] at H
       exact absurd H (by simp)
     ·rw [if_neg c13] at H
      have c13b0 : (Op.bytesLess (((rd_T45 l0_0 x6_1).f0).toList) a1_0.toList) = false:=by simpa using c13
      clear c13
      have H':=Aside0.mk H
      clear H
      obtain ⟨_,_⟩:=zn0 NB128_129
      obtain ⟨_,_⟩:=zn0 NB128_130
      obtain ⟨_,_⟩:=zn0 NB128_131
      have hcz27_0 : wr.cell? ⟨gb128,0,none⟩ = some (.slice A0_0 l0_0.length c0_0):=zc00 BK128
      have hfz27_0:=blk_frozen BK128.out 0
      try go_wp2
      replace HO_132000:=Aside0.mk (Kd.R_drew HO_132000.out)
      replace BK128:=Aside0.mk (blk_drew BK128.out)
      replace BK129:=Aside0.mk (blk_drew BK129.out)
      replace BK130:=Aside0.mk (blk_drew BK130.out)
      replace BK131:=Aside0.mk (blk_drew BK131.out)
      replace HB:=Aside0.mk (below_drew1 HB.out)
      have p132 : 0 ≤ (x6_1 : Int):=zD0
      have q132 : x6_1 < (l0_0.length : Int):=zD0
      obtain ⟨ad132,e132,hx132_0,hx132_1,hx132_2⟩:=at_T45 HR0_0.out x6_1 p132 q132
      have hw132_2:=hx132_2
      have hw132_1:=hx132_1
      have hw132_0:=hx132_0
      cases e132
      replace hx132_0:=zx0 HB hx132_0
      replace hx132_1:=zx0 HB hx132_1
      replace hx132_2:=zx0 HB hx132_2
      replace p132:=eq_true p132
      replace q132:=eq_true q132
      refine start_ (n:=9) (S:=fun w' => w'.cell? ⟨gb128,0,none⟩ = some (.slice (some ad132) l0_0.length c0_0) ∧ w'.cell? ⟨gb129,0,none⟩ = some (.string a1_0) ∧ w'.cell? ⟨gb129,1,none⟩ = some (.string a1_1) ∧ w'.cell? ⟨gb129,2,none⟩ = some (.int .i64 a1_2) ∧ w'.cell? (ad132.add ((x6_1).toNat * 3)) = some (.string ((rd_T45 l0_0 x6_1).f0)) ∧ w'.cell? ⟨(ad132.add ((x6_1).toNat * 3)).block,(ad132.add ((x6_1).toNat * 3)).off + 1,none⟩ = some (.string ((rd_T45 l0_0 x6_1).f1)) ∧ w'.cell? ⟨(ad132.add ((x6_1).toNat * 3)).block,(ad132.add ((x6_1).toNat * 3)).off + 2,none⟩ = some (.int .i64 ((rd_T45 l0_0 x6_1).f2))) (ds:=[]) (zF0 9 0) (by kernel_rfl) rfl rfl ⟨zc00 BK128,zc00 BK129,zc01 BK129,zc02 BK129,(zx0 HB hw132_0 :),(zx0 HB hw132_1 :),(zx0 HB hw132_2 :)⟩ (fun hHeld => ?_);refine with_tabW spec_l03Put.tab5 spec_l03Put.bits5 (fun HT_ HW_ => ?_)
      generalize wr.drew = w28 at HO_132000 BK128 BK129 BK130 BK131 HB hx132_0 hx132_1 hx132_2 hHeld ⊢
      refine zp0 0 16 9 1 HT_ ?_
      refine zp0 2 18 9 5 HT_ ?_
      refine zp0 6 22 9 69 HT_ ?_
      refine zt0 1 17 9 71 HT_ HW_ hHeld ?_
      refine zp0 3 19 9 79 HT_ ?_
      refine zp0 4 20 9 95 HT_ ?_
      refine zt0 5 21 9 127 HT_ HW_ hHeld ?_
      refine zt0 7 23 9 255 HT_ HW_ hHeld ?_
      refine zp0 8 24 9 511 HT_ ?_
      refine done_ (done_of HT_.out (by kernel_rfl)) ?_
      try go_wp2
      go_roundg k1
      case measure => have:=HK1.out;omega
      case rel => exact ⟨(wrap64 (x6_1 + 1)),(x132000_1),(u132000),zE0,H',⟨by have:=HK1.out;omega⟩,⟨zR0 HO_132000.out⟩,⟨zK0 BK128.out⟩,⟨zK0 BK129.out⟩,⟨zK0 BK130.out⟩,⟨zK0 BK131.out⟩,⟨zY0 HB.out⟩⟩
    ·rw [if_neg c12] at H
     exact absurd H (by simp)
   ·rw [if_neg c11] at H
    have c11b0 : decide (x6_1 < (l0_0.length : Int)) = false:=decide_eq_false c11
    clear c11
    by_cases c29 : x132000_1.length < 3518437208883
    ·rw [if_pos c29] at H
     have LMc29:=Aside0.mk c29
     clear c29
     obtain ⟨y137,hy137⟩ : ∃ y_ : List (S45),y_ = (x132000_1 ++ [(⟨a1_0,a1_1,a1_2⟩ : S45)]):=⟨_,rfl⟩
     replace H : (spec_l03Put.l1 k1 0 l0_0 a1_0 a1_1 a1_2 y137) = some r:=by first | (rw [hy137];with_reducible exact H) | (have H2_:=(Option.bind_some _ _).symm.trans H;rw [hy137];with_reducible exact H2_) | (have H2_:=(Option.bind_some _ _).symm.trans H;with_reducible exact H2_) | with_reducible exact H | (rw [hy137];exact H) | exact H
     have Ny137:=Aside0.mk hy137
     clear hy137
     have H':=Aside0.mk H
     clear H
     obtain ⟨_,_⟩:=zn0 NB128_129
     obtain ⟨_,_⟩:=zn0 NB128_130
     obtain ⟨_,_⟩:=zn0 NB128_131
     have hcz33_0 : wr.cell? ⟨gb128,0,none⟩ = some (.slice A0_0 l0_0.length c0_0):=zc00 BK128
     have hfz33_0:=blk_frozen BK128.out 0
     obtain ⟨_,_⟩:=zn0 NB131_129
     obtain ⟨_,_⟩:=zn0 NB131_130
     have hcz36_0 : wr.cell? ⟨gb131,0,none⟩ = some (u132000):=zc00 BK131
     have hfz36_0:=blk_frozen BK131.out 0
     obtain ⟨_,_⟩:=zn0 NB129_130
     have hcz38_0 : wr.cell? ⟨gb129,0,none⟩ = some (.string a1_0):=zc00 BK129
     have hcz38_1 : wr.cell? ⟨gb129,1,none⟩ = some (.string a1_1):=zc01 BK129
     have hcz38_2 : wr.cell? ⟨gb129,2,none⟩ = some (.int .i64 a1_2):=zc02 BK129
     have hfz38_0:=blk_frozen BK129.out 0
     have hfz38_1:=blk_frozen BK129.out 1
     have hfz38_2:=blk_frozen BK129.out 2
     go_wp2_with (first | ((with_reducible refine gate_builtin (b:=.append) (xs:=#[.tmp 36,.tmp 38]) rfl ?_);at_builtin;refine Kd.R_append k45 (w0:=w) w.heap.size rfl (.tmp 36) (.tmp 38) 28 45 (.agg #[(.string ⟨#[]⟩),(.string ⟨#[]⟩),(.int .i64 0)]) 40 rfl Try.underlying28 info45 rfl (by decide) (by omega) u132000 x132000_1 (⟨a1_0,a1_1,a1_2⟩ : S45) [.string a1_0,.string a1_1,.int .i64 a1_2] (fun k_ => k_ ≠ gb129) (fun _ => False) rfl rfl ?aP (fun _ hk => hk.elim) ?aF ?aO ?aB ?aS ?aL ?_;(case aP => exact k45_mkM _ _ _ (⟨a1_0,a1_1,a1_2⟩ : S45));(case aB => exact (zY0 HB.out));(case aF => exact (fun k_ hk => Kd.freshB (g:=gb129) (o:=.cells #[.string a1_0,.string a1_1,.int .i64 a1_2] 45 (0,0)) (zK0 BK129.out) k_ hk));(case aO => exact (zR0 HO_132000.out));(case aS => exact (zZ0 HB.out));(case aL => have:=LMc29.out;omega);intro v138 w39 ho hb hg hat;rw [← Ny137.out] at ho;replace BK128:=Aside0.mk (blk_grown (g:=gb128) (o:=.cells #[.slice A0_0 l0_0.length c0_0] 30 (0,0)) (zK0 BK128.out) hg (Kd.R_ne HO_132000.out BK128.out (by decide)));replace BK129:=Aside0.mk (blk_grown (g:=gb129) (o:=.cells #[.string a1_0,.string a1_1,.int .i64 a1_2] 45 (0,0)) (zK0 BK129.out) hg (Kd.R_away HO_132000.out (fun _ hk => hk)));replace BK130:=Aside0.mk (blk_grown (g:=gb130) (o:=.cells #[.slice none 0 0] 30 (0,0)) (zK0 BK130.out) hg (Kd.R_ne HO_132000.out BK130.out (by decide)));replace BK131:=Aside0.mk (blk_grown (g:=gb131) (o:=.cells #[u132000] 30 (0,0)) (zK0 BK131.out) hg (Kd.R_ne HO_132000.out BK131.out (by decide)));replace HB:=Aside0.mk hb;have HO139:=Aside0.mk ho;clear HO_132000;clear ho hb hg hat;obtain ⟨Ao40,co40,eo40⟩:=Kd.R_slice HO139.out;subst eo40;obtain ⟨hcz41_0,hfz41_0⟩:=zd01 BK131))
     go_loopg [7] k1 (fun kq v7 w' => ∃ (x7_2 : Int) (x132000_2 : List (S45)) (u132000 : Value),v7 = .int .i64 x7_2 ∧ Aside0 (spec_l03Put.l1 kq x7_2 l0_0 a1_0 a1_1 a1_2 x132000_2 = some r) ∧ Aside0 (kq ≤ k1) ∧ Aside0 (Kd.R k45 45 w' w.heap.size (fun k_ => k_ ≠ gb129) u132000 x132000_2) ∧ Aside0 (w'.heap[gb128]? = some (.cells #[(.slice A0_0 l0_0.length c0_0)] 30 (0,0))) ∧ Aside0 (w'.heap[gb129]? = some (.cells #[.string a1_0,.string a1_1,.int .i64 a1_2] 45 (0,0))) ∧ Aside0 (w'.heap[gb130]? = some (.cells #[(.slice none 0 0)] 30 (0,0))) ∧ Aside0 (w'.heap[gb131]? = some (.cells #[u132000] 30 (0,0))) ∧ Aside0 (Below w.heap.size w w'))
     case atStart => exact ⟨(0),(y137),(.slice Ao40 y137.length co40),zE0,H',⟨Nat.le_refl _⟩,⟨by refine zV0 ?_;exact Kd.R_set HO139.out BK131.out (by decide) 0 _⟩,⟨zK0 BK128.out⟩,⟨zK0 BK129.out⟩,⟨zK0 BK130.out⟩,⟨by refine zT0 ?_;refine blk_put (cs:=#[u132000]) ?_ 0 _ rfl;exact zK0 BK131.out⟩,⟨zY0 HB.out⟩⟩
     case round =>
      clear H'
      try clear c11
      try clear c11b0
      try clear c29
      try clear hcz10_0
      try clear hcz33_0
      try clear hcz36_0
      try clear hcz38_0
      try clear hcz38_1
      try clear hcz38_2
      try clear hcz41_0
      try clear hfz10_0
      try clear hfz33_0
      try clear hfz36_0
      try clear hfz38_0
      try clear hfz38_1
      try clear hfz38_2
      try clear hfz41_0
      obtain ⟨x7_2,x132000_2,u132000,rfl,HA,HK2,HO_132000,BK128,BK129,BK130,BK131,HB⟩:=hrel
      cases gk with
      | zero => exact absurd HA.out (by simp [spec_l03Put.l1])
      | succ k2 =>
       have H:=HA.out
       clear HA
       simp only [spec_l03Put.l1] at H
       by_cases c42 : x7_2 < (l0_0.length : Int)
       ·rw [if_pos c42] at H
        have c42b0 : decide (x7_2 < (l0_0.length : Int)) = true:=decide_eq_true c42
        clear c42
        by_cases c43 : 0 ≤ x7_2
        ·rw [if_pos c43] at H
         have c43b0 : decide (0 ≤ x7_2) = true:=decide_eq_true c43
         clear c43
         by_cases c44 : (Op.bytesLess a1_0.toList (((rd_T45 l0_0 x7_2).f0).toList)) = true
         ·rw [if_pos c44] at H
          have c44b0 : (Op.bytesLess a1_0.toList (((rd_T45 l0_0 x7_2).f0).toList)) = true:=c44
          have c44g:=(less_gt (((rd_T45 l0_0 x7_2).f0).toList) a1_0.toList).symm.trans c44b0
          have c44p:=((Bool.and_eq_true _ _).mp c44g).1
          have c44q:=((Bool.and_eq_true _ _).mp c44g).2
          clear c44
          by_cases c45 : x132000_2.length < 3518437208883
          ·rw [if_pos c45] at H
           have LMc45:=Aside0.mk c45
           clear c45
           obtain ⟨y142,hy142⟩ : ∃ y_ : List (S45),y_ = (x132000_2 ++ [(⟨(rd_T45 l0_0 x7_2).f0,(rd_T45 l0_0 x7_2).f1,(rd_T45 l0_0 x7_2).f2⟩ : S45)]):=⟨_,rfl⟩
           replace H : (spec_l03Put.l1 k2 (wrap64 (x7_2 + 1)) l0_0 a1_0 a1_1 a1_2 y142) = some r:=by first | (rw [hy142];with_reducible exact H) | (have H2_:=(Option.bind_some _ _).symm.trans H;rw [hy142];with_reducible exact H2_) | (have H2_:=(Option.bind_some _ _).symm.trans H;with_reducible exact H2_) | with_reducible exact H | (rw [hy142];exact H) | exact H
           have Ny142:=Aside0.mk hy142
           clear hy142
           have H':=Aside0.mk H
           clear H
           obtain ⟨_,_⟩:=zn0 NB128_129
           obtain ⟨_,_⟩:=zn0 NB128_130
           obtain ⟨_,_⟩:=zn0 NB128_131
           have hcz49_0 : wr.cell? ⟨gb128,0,none⟩ = some (.slice A0_0 l0_0.length c0_0):=zc00 BK128
           have hfz49_0:=blk_frozen BK128.out 0
           try go_wp2
           replace HO_132000:=Aside0.mk (Kd.R_drew HO_132000.out)
           replace BK128:=Aside0.mk (blk_drew BK128.out)
           replace BK129:=Aside0.mk (blk_drew BK129.out)
           replace BK130:=Aside0.mk (blk_drew BK130.out)
           replace BK131:=Aside0.mk (blk_drew BK131.out)
           replace HB:=Aside0.mk (below_drew1 HB.out)
           have p140 : 0 ≤ (x7_2 : Int):=zD0
           have q140 : x7_2 < (l0_0.length : Int):=zD0
           obtain ⟨ad140,e140,hx140_0,hx140_1,hx140_2⟩:=at_T45 HR0_0.out x7_2 p140 q140
           have hw140_2:=hx140_2
           have hw140_1:=hx140_1
           have hw140_0:=hx140_0
           cases e140
           replace hx140_0:=zx0 HB hx140_0
           replace hx140_1:=zx0 HB hx140_1
           replace hx140_2:=zx0 HB hx140_2
           replace p140:=eq_true p140
           replace q140:=eq_true q140
           refine start_ (n:=9) (S:=fun w' => w'.cell? ⟨gb128,0,none⟩ = some (.slice (some ad140) l0_0.length c0_0) ∧ w'.cell? ⟨gb129,0,none⟩ = some (.string a1_0) ∧ w'.cell? ⟨gb129,1,none⟩ = some (.string a1_1) ∧ w'.cell? ⟨gb129,2,none⟩ = some (.int .i64 a1_2) ∧ w'.cell? (ad140.add ((x7_2).toNat * 3)) = some (.string ((rd_T45 l0_0 x7_2).f0)) ∧ w'.cell? ⟨(ad140.add ((x7_2).toNat * 3)).block,(ad140.add ((x7_2).toNat * 3)).off + 1,none⟩ = some (.string ((rd_T45 l0_0 x7_2).f1)) ∧ w'.cell? ⟨(ad140.add ((x7_2).toNat * 3)).block,(ad140.add ((x7_2).toNat * 3)).off + 2,none⟩ = some (.int .i64 ((rd_T45 l0_0 x7_2).f2))) (ds:=[]) (zF0 9 0) (by kernel_rfl) rfl rfl ⟨zc00 BK128,zc00 BK129,zc01 BK129,zc02 BK129,(zx0 HB hw140_0 :),(zx0 HB hw140_1 :),(zx0 HB hw140_2 :)⟩ (fun hHeld => ?_);refine with_tabW spec_l03Put.tab11 spec_l03Put.bits11 (fun HT_ HW_ => ?_)
           generalize wr.drew = w50 at HO_132000 BK128 BK129 BK130 BK131 HB hx140_0 hx140_1 hx140_2 hHeld ⊢
           refine zp0 0 48 9 1 HT_ ?_
           refine zp0 2 50 9 5 HT_ ?_
           refine zp0 6 54 9 69 HT_ ?_
           refine zt0 1 49 9 71 HT_ HW_ hHeld ?_
           refine zp0 3 51 9 79 HT_ ?_
           refine zp0 4 52 9 95 HT_ ?_
           refine zt0 5 53 9 127 HT_ HW_ hHeld ?_
           refine zt0 7 55 9 255 HT_ HW_ hHeld ?_
           refine zp0 8 56 9 511 HT_ ?_
           refine done_ (done_of HT_.out (by kernel_rfl)) ?_
           try go_wp2
           replace HO_132000:=Aside0.mk (Kd.R_drew HO_132000.out)
           replace BK128:=Aside0.mk (blk_drew BK128.out)
           replace BK129:=Aside0.mk (blk_drew BK129.out)
           replace BK130:=Aside0.mk (blk_drew BK130.out)
           replace BK131:=Aside0.mk (blk_drew BK131.out)
           replace HB:=Aside0.mk (below_drew1 HB.out)
           have p141 : 0 ≤ (x7_2 : Int):=zD0
           have q141 : x7_2 < (l0_0.length : Int):=zD0
           obtain ⟨ad141,e141,hx141_0,hx141_1,hx141_2⟩:=at_T45 HR0_0.out x7_2 p141 q141
           have hw141_2:=hx141_2
           have hw141_1:=hx141_1
           have hw141_0:=hx141_0
           obtain rfl : ad140 = ad141:=(by injection e141)
           replace hx141_0:=zx0 HB hx141_0
           replace hx141_1:=zx0 HB hx141_1
           replace hx141_2:=zx0 HB hx141_2
           replace p141:=eq_true p141
           replace q141:=eq_true q141
           refine start_ (n:=11) (S:=fun w' => w'.cell? ⟨gb131,0,none⟩ = some (u132000) ∧ w'.cell? ⟨gb128,0,none⟩ = some (.slice (some ad140) l0_0.length c0_0) ∧ w'.cell? (ad140.add ((x7_2).toNat * 3)) = some (.string ((rd_T45 l0_0 x7_2).f0)) ∧ w'.cell? ⟨(ad140.add ((x7_2).toNat * 3)).block,(ad140.add ((x7_2).toNat * 3)).off + 1,none⟩ = some (.string ((rd_T45 l0_0 x7_2).f1)) ∧ w'.cell? ⟨(ad140.add ((x7_2).toNat * 3)).block,(ad140.add ((x7_2).toNat * 3)).off + 2,none⟩ = some (.int .i64 ((rd_T45 l0_0 x7_2).f2))) (ds:=[10]) (zF0 11 0) (by kernel_rfl) rfl rfl ⟨zc00 BK131,zc00 BK128,(zx0 HB hw141_0 :),(zx0 HB hw141_1 :),(zx0 HB hw141_2 :)⟩ (fun hHeld => ?_);refine with_tabW spec_l03Put.tab12 spec_l03Put.bits12 (fun HT_ HW_ => ?_)
           generalize w50.drew = w51 at HO_132000 BK128 BK129 BK130 BK131 HB hx141_0 hx141_1 hx141_2 hHeld ⊢
           refine zp0 0 57 11 1 HT_ ?_
           refine zp0 2 59 11 5 HT_ ?_
           refine zp0 4 61 11 21 HT_ ?_
           refine zt0 1 58 11 23 HT_ HW_ hHeld ?_
           refine zt0 3 60 11 31 HT_ HW_ hHeld ?_
           refine zp0 5 62 11 63 HT_ ?_
           refine zt0 6 63 11 127 HT_ HW_ hHeld ?_
           refine one_ (i:=7) (N:=some 64) (zF0 11 255) rfl rfl (one_of HT_.out (by kernel_rfl)) (by decide) (fun K hK => ?_)
           refine value_ (w1:=?_) (v:=?_) (by rfl) rfl ?_ ?_
           rotate_left 2
           ·go_simp
            constructor
            ·rfl
            ·rfl
           refine hK.out _ _ ⟨(blk_cell (blk_alloc BK131.out _) 0).trans rfl,(blk_cell (blk_alloc BK128.out _) 0).trans rfl,(World.cell?_alloc_lt _ _ _ (World.block_lt_of_cell? _ _ ((zx0 HB hw141_0 :)))).trans ((zx0 HB hw141_0 :)),(World.cell?_alloc_lt _ _ _ (World.block_lt_of_cell? _ _ ((zx0 HB hw141_1 :)))).trans ((zx0 HB hw141_1 :)),(World.cell?_alloc_lt _ _ _ (World.block_lt_of_cell? _ _ ((zx0 HB hw141_2 :)))).trans ((zx0 HB hw141_2 :))⟩ (fun hHeld => ?_)
           clear hK K
           refine norm_ (a':=?_) ?_ ?_;rotate_left
           ·show Act.put _ (some 64) _ = _;simp only [Act.put,qA0,qB0,qC0,i64_w,i32_w];rfl
           refine one_ (i:=8) (N:=some 65) (zF0 11 511) rfl rfl (one_of HT_.out (by kernel_rfl)) (by decide) (fun K hK => ?_)
           refine Kd.R_append_step k45 (w0:=w) w.heap.size (by rfl) (.tmp 58) (.tmp 64) 28 45 (.agg #[(.string ⟨#[]⟩),(.string ⟨#[]⟩),(.int .i64 0)]) 40 rfl Try.underlying28 info45 rfl (by decide) (by omega) u132000 x132000_2 (⟨(rd_T45 l0_0 x7_2).f0,(rd_T45 l0_0 x7_2).f1,(rd_T45 l0_0 x7_2).f2⟩ : S45) [.string ((rd_T45 l0_0 x7_2).f0),.string ((rd_T45 l0_0 x7_2).f1),.int .i64 ((rd_T45 l0_0 x7_2).f2)] (fun k_ => k_ ≠ gb129) (fun _ => False) rfl rfl ?aP (fun _ hk => hk.elim) ?aF ?aO ?aB ?aS ?aL ?_
           (case aP => exact k45_mkM _ _ _ (⟨(rd_T45 l0_0 x7_2).f0,(rd_T45 l0_0 x7_2).f1,(rd_T45 l0_0 x7_2).f2⟩ : S45))
           (case aB => exact (zY0 HB.out))
           (case aF => exact (fun k_ hk => Kd.freshB (g:=gb129) (o:=.cells #[.string a1_0,.string a1_1,.int .i64 a1_2] 45 (0,0)) (zK0 BK129.out) k_ hk))
           (case aO => exact (zR0 HO_132000.out))
           (case aS => exact (zZ0 HB.out))
           (case aL => have:=LMc45.out;omega)
           intro v143 w52 ho hb hg hat
           rw [← Ny142.out] at ho
           replace BK128:=Aside0.mk (blk_grown (g:=gb128) (o:=.cells #[.slice (some ad140) l0_0.length c0_0] 30 (0,0)) (zK0 BK128.out) hg (Kd.R_ne HO_132000.out BK128.out (by decide)))
           replace BK129:=Aside0.mk (blk_grown (g:=gb129) (o:=.cells #[.string a1_0,.string a1_1,.int .i64 a1_2] 45 (0,0)) (zK0 BK129.out) hg (Kd.R_away HO_132000.out (fun _ hk => hk)))
           replace BK130:=Aside0.mk (blk_grown (g:=gb130) (o:=.cells #[.slice none 0 0] 30 (0,0)) (zK0 BK130.out) hg (Kd.R_ne HO_132000.out BK130.out (by decide)))
           replace BK131:=Aside0.mk (blk_grown (g:=gb131) (o:=.cells #[u132000] 30 (0,0)) (zK0 BK131.out) hg (Kd.R_ne HO_132000.out BK131.out (by decide)))
           replace HB:=Aside0.mk hb
           have HO144:=Aside0.mk ho
           clear HO_132000
           clear ho hb hg hat
           obtain ⟨Ao53,co53,eo53⟩:=Kd.R_slice HO144.out
           (first | subst eo53 | (injection eo53 with f1_ f2_ f3_;have f4_:=f1_.symm;have f5_:=f3_.symm;clear f1_ f2_ f3_;subst f4_;subst f5_))
           refine hK.out _ _ ⟨zc00 BK131,zc00 BK128,(zx0 HB hw141_0 :),(zx0 HB hw141_1 :),(zx0 HB hw141_2 :)⟩ (fun hHeld => ?_)
           clear hK K
           refine norm_ (a':=?_) ?_ ?_;rotate_left
           ·show Act.put _ (some 65) _ = _;simp only [Act.put,qA0,qB0,qC0,i64_w,i32_w];rfl
           refine zp0 9 66 11 1023 HT_ ?_
           refine last_ (i:=10) (N:=none) (zF0 11 2047) rfl rfl (one_of HT_.out (by kernel_rfl)) (by decide) (fun K hK => ?_)
           have hs54 : w52.cell? ⟨gb131,0,none⟩ = some (u132000):=zc00 BK131
           have hfs54:=blk_frozen BK131.out 0
           have hns54_0:=NB128_131.out
           have hns54_1:=NB129_131.out
           have hns54_2:=NB130_131.out
           have hms54_0:=NB131_128.out
           have hms54_1:=NB131_129.out
           have hms54_2:=NB131_130.out
           refine skip_ (w1:=?_) (by rfl) rfl ?_ ?_;rotate_left
           ·go_simp
            rfl
           refine hK.out _ _ ?_
           clear hK K
           refine done_ (done_of HT_.out (by kernel_rfl)) ?_
           try go_wp2
           go_roundg k2
           case measure => have:=HK1.out;have:=HK2.out;omega
           case rel => exact ⟨(wrap64 (x7_2 + 1)),(y142),(.slice Ao53 y142.length co53),zE0,H',⟨by have:=HK1.out;have:=HK2.out;omega⟩,⟨by refine zV0 ?_;exact Kd.R_set HO144.out BK131.out (by decide) 0 _⟩,⟨zK0 BK128.out⟩,⟨zK0 BK129.out⟩,⟨zK0 BK130.out⟩,⟨by refine zT0 ?_;refine blk_put (cs:=#[u132000]) ?_ 0 _ rfl;exact zK0 BK131.out⟩,⟨zY0 HB.out⟩⟩
          ·rw [if_neg c45] at H
           exact absurd H (by simp)
         ·rw [if_neg c44] at H
          have c44b0 : (Op.bytesLess a1_0.toList (((rd_T45 l0_0 x7_2).f0).toList)) = false:=by simpa using c44
          have c44g:=(less_gt (((rd_T45 l0_0 x7_2).f0).toList) a1_0.toList).symm.trans c44b0
          clear c44
          have H':=Aside0.mk H
          clear H
          obtain ⟨_,_⟩:=zn0 NB128_129
          obtain ⟨_,_⟩:=zn0 NB128_130
          obtain ⟨_,_⟩:=zn0 NB128_131
          have hcz58_0 : wr.cell? ⟨gb128,0,none⟩ = some (.slice A0_0 l0_0.length c0_0):=zc00 BK128
          have hfz58_0:=blk_frozen BK128.out 0
          try go_wp2
          replace HO_132000:=Aside0.mk (Kd.R_drew HO_132000.out)
          replace BK128:=Aside0.mk (blk_drew BK128.out)
          replace BK129:=Aside0.mk (blk_drew BK129.out)
          replace BK130:=Aside0.mk (blk_drew BK130.out)
          replace BK131:=Aside0.mk (blk_drew BK131.out)
          replace HB:=Aside0.mk (below_drew1 HB.out)
          have p140 : 0 ≤ (x7_2 : Int):=zD0
          have q140 : x7_2 < (l0_0.length : Int):=zD0
          obtain ⟨ad140,e140,hx140_0,hx140_1,hx140_2⟩:=at_T45 HR0_0.out x7_2 p140 q140
          have hw140_2:=hx140_2
          have hw140_1:=hx140_1
          have hw140_0:=hx140_0
          cases e140
          replace hx140_0:=zx0 HB hx140_0
          replace hx140_1:=zx0 HB hx140_1
          replace hx140_2:=zx0 HB hx140_2
          replace p140:=eq_true p140
          replace q140:=eq_true q140
          refine start_ (n:=9) (S:=fun w' => w'.cell? ⟨gb128,0,none⟩ = some (.slice (some ad140) l0_0.length c0_0) ∧ w'.cell? ⟨gb129,0,none⟩ = some (.string a1_0) ∧ w'.cell? ⟨gb129,1,none⟩ = some (.string a1_1) ∧ w'.cell? ⟨gb129,2,none⟩ = some (.int .i64 a1_2) ∧ w'.cell? (ad140.add ((x7_2).toNat * 3)) = some (.string ((rd_T45 l0_0 x7_2).f0)) ∧ w'.cell? ⟨(ad140.add ((x7_2).toNat * 3)).block,(ad140.add ((x7_2).toNat * 3)).off + 1,none⟩ = some (.string ((rd_T45 l0_0 x7_2).f1)) ∧ w'.cell? ⟨(ad140.add ((x7_2).toNat * 3)).block,(ad140.add ((x7_2).toNat * 3)).off + 2,none⟩ = some (.int .i64 ((rd_T45 l0_0 x7_2).f2))) (ds:=[]) (zF0 9 0) (by kernel_rfl) rfl rfl ⟨zc00 BK128,zc00 BK129,zc01 BK129,zc02 BK129,(zx0 HB hw140_0 :),(zx0 HB hw140_1 :),(zx0 HB hw140_2 :)⟩ (fun hHeld => ?_);refine with_tabW spec_l03Put.tab11 spec_l03Put.bits11 (fun HT_ HW_ => ?_)
          generalize wr.drew = w59 at HO_132000 BK128 BK129 BK130 BK131 HB hx140_0 hx140_1 hx140_2 hHeld ⊢
          refine zp0 0 48 9 1 HT_ ?_
          refine zp0 2 50 9 5 HT_ ?_
          refine zp0 6 54 9 69 HT_ ?_
          refine zt0 1 49 9 71 HT_ HW_ hHeld ?_
          refine zp0 3 51 9 79 HT_ ?_
          refine zp0 4 52 9 95 HT_ ?_
          refine zt0 5 53 9 127 HT_ HW_ hHeld ?_
          refine zt0 7 55 9 255 HT_ HW_ hHeld ?_
          refine zp0 8 56 9 511 HT_ ?_
          refine done_ (done_of HT_.out (by kernel_rfl)) ?_
          try go_wp2
          go_roundg k2
          case measure => have:=HK1.out;have:=HK2.out;omega
          case rel => exact ⟨(wrap64 (x7_2 + 1)),(x132000_2),(u132000),zE0,H',⟨by have:=HK1.out;have:=HK2.out;omega⟩,⟨zR0 HO_132000.out⟩,⟨zK0 BK128.out⟩,⟨zK0 BK129.out⟩,⟨zK0 BK130.out⟩,⟨zK0 BK131.out⟩,⟨zY0 HB.out⟩⟩
        ·rw [if_neg c43] at H
         exact absurd H (by simp)
       ·rw [if_neg c42] at H
        have c42b0 : decide (x7_2 < (l0_0.length : Int)) = false:=decide_eq_false c42
        clear c42
        obtain rfl:=Option.some.inj H
        obtain ⟨_,_⟩:=zn0 NB128_129
        obtain ⟨_,_⟩:=zn0 NB128_130
        obtain ⟨_,_⟩:=zn0 NB128_131
        have hcz63_0 : wr.cell? ⟨gb128,0,none⟩ = some (.slice A0_0 l0_0.length c0_0):=zc00 BK128
        have hfz63_0:=blk_frozen BK128.out 0
        obtain ⟨_,_⟩:=zn0 NB131_129
        obtain ⟨_,_⟩:=zn0 NB131_130
        have hcz66_0 : wr.cell? ⟨gb131,0,none⟩ = some (u132000):=zc00 BK131
        have hfz66_0:=blk_frozen BK131.out 0
        obtain ⟨Ao67,co67,eo67⟩:=Kd.R_slice HO_132000.out
        subst eo67
        obtain ⟨_,_⟩:=zn0 NB130_129
        have hcz69_0 : wr.cell? ⟨gb130,0,none⟩ = some (.slice none 0 0):=zc00 BK130
        have hfz69_0:=blk_frozen BK130.out 0
        go_wp2
        refine bodyPost_ret (results_cell_row rfl _ _ gb130 30 #[.slice Ao67 x132000_2.length co67] (0,0) _ rfl (by refine zT0 ?_;refine blk_put (cs:=#[.slice none 0 0]) ?_ 0 _ rfl;exact zK0 BK130.out) Try.underlying30 rfl (by kernel_rfl)) rfl ?_
        exact ⟨_,zW0,by refine zV0 ?_;exact Kd.R_mono (Kd.R_far (p:=⟨gb130,0,none⟩) (Kd.R_types HO_132000.out BK130.out (by decide)) (fun _ hk => hk.2) (.slice Ao67 x132000_2.length co67)) (fun _ hk => trivial),(zY0 HB.out)⟩
    ·rw [if_neg c29] at H
     exact absurd H (by simp)

end Go.Proofs.Ytgfacdhkamphiaa.PFnActs
