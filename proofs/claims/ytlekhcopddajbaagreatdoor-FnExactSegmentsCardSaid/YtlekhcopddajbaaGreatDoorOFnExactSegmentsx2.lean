/- Walks, turned from a print. -/
import Derived.Test.YtlekhcopddajbaaGreatDoorOFnExactSegmentsx0
import Derived.Test.YtlekhcopddajbaaGreatDoorOFnExactSegmentsx1
namespace Go.Proofs.YtlekhcopddajbaaGreatDoor.PFnExactSegments
open Go.RowKit Go.Proofs.YtlekhcopddajbaaGreatDoorW.PrintWords Go.Proofs.YtlekhcopddajbaaGreatDoorW.PrintLast Go.Proofs.YtlekhcopddajbaaGreatDoorW.PrintMore
attribute [local go_sem] max2_int min2_int max_two min_two max_three min_three max_four min_four
set_option linter.unusedVariables false
set_option linter.unusedSimpArgs false

/-! ### spec_DiskOk: function 14 -/
def spec_DiskOk.l0 : Nat → Int → List (S46) → Option (Bool)
 | 0,_,_ => none
 | k + 1,x3,x108000 => if x3 < (x108000.length : Int) then (if 0 ≤ x3 then ((spec_l03Name.f ((rd_T46 x108000 x3).f0)).bind fun t110 => (if t110 = true then (if (((rd_T46 x108000 x3).f1).size : Int) > 20000 then (some false) else ((spec_l01In.f ((rd_T46 x108000 x3).f2) 0 (((rd_T46 x108000 x3).f1).size : Int)).bind fun t111 => (if t111 = true then (if x3 > 0 then (if 0 ≤ (wrap64 (x3 - 1)) then (if (wrap64 (x3 - 1)) < (x108000.length : Int) then (if ((Op.bytesLess (((rd_T46 x108000 (wrap64 (x3 - 1))).f0).toList) (((rd_T46 x108000 x3).f0).toList)) = true) then (spec_DiskOk.l0 k (wrap64 (x3 + 1)) x108000) else (some false)) else (none)) else (none)) else (spec_DiskOk.l0 k (wrap64 (x3 + 1)) x108000)) else (some false)))) else (some false))) else (none)) else (some true)
def spec_DiskOk.f (k : Nat) (l0_0 : List (S46)) : Option (Bool):=if (l0_0.length : Int) > 30 then (some false) else (spec_DiskOk.l0 k 0 l0_0)
theorem spec_DiskOk.mono_l : ∀ k,(∀ y0 y1,LeO (spec_DiskOk.l0 k y0 y1) (spec_DiskOk.l0 (k + 1) y0 y1))
 | 0 => fun _ _ r h => by simp [spec_DiskOk.l0] at h
 | k + 1 => by
  have ih0:=spec_DiskOk.mono_l k
  ·intro y0 y1
   unfold spec_DiskOk.l0
   repeat' first
  | (with_reducible exact ih0 _ _)
  | (with_reducible exact LeO.refl _)
  | (with_reducible exact LeO.none _)
  | (with_reducible refine LeO.ite ?_ ?_)
  | (with_reducible refine LeO.bind ?_ (fun _ => ?_))
theorem spec_DiskOk.mono : ∀ a0 k,LeO (spec_DiskOk.f k a0) (spec_DiskOk.f (k + 1) a0):=by
 intro a0 k
 have ih0:=spec_DiskOk.mono_l k
 unfold spec_DiskOk.f
 repeat' first
  | (with_reducible exact ih0 _ _)
  | (with_reducible exact LeO.refl _)
  | (with_reducible exact LeO.none _)
  | (with_reducible refine LeO.ite ?_ ?_)
  | (with_reducible refine LeO.bind ?_ (fun _ => ?_))
def spec_DiskOk.T7 : Bool × List (List Nat × List Nat):=(true,[([],[]),([0],[0]),([1],[1]),([2],[2]),([3,2],[3]),([4],[4]),([5,4],[4,5]),([6,4],[4,6]),([7,4],[4,7]),([4,8],[4,8]),([9,4],[9]),([10],[10]),([11,10],[10,11]),([10],[10]),([13,10],[10,13]),([14,10],[10,14]),([12,15,10,10],[10,12,15]),([16,10],[10,16]),([10,17],[10,17]),([18,16],[18]),([19],[19]),([20,19],[19,20]),([21,19,19],[19,21]),([22],[22]),([23,22],[22,23]),([22],[22]),([25,22],[22,25]),([24,26,22],[22,24,26]),([27,22],[22,27]),([28,22],[22,28]),([22],[22]),([30,22],[22,30]),([29,31,22],[22,29,31]),([22,32,19],[19,22,32]),([19,33],[19,33])])
def spec_DiskOk.B7 : List Nat:=[0,1,3,7,15,31,63,127,255,511,1023,2047,4095,2047,10239,26623,65535,131071,262143,524287,1048575,2097151,4194303,8388607,16777215,8388607,41943039,134217727,268435455,536870911,8388607,1082130431,4294967295,8589934591,17179869183]
theorem spec_DiskOk.tab7 : rtab .any (opsOf Tryz.f14 7) = spec_DiskOk.T7:=by kernel_rfl
theorem spec_DiskOk.bits7 : waitsOk spec_DiskOk.T7.2 spec_DiskOk.B7 = true:=by kernel_rfl
set_option maxHeartbeats 8000000 in
set_option maxRecDepth 100000 in
theorem spec_DiskOk.calls (k : Nat) (A0_0 : Option Addr) (c0_0 : Nat) (l0_0 : List (S46)) (r : Bool) (w : World) (hr0_0 : Kd.C k46 w A0_0 l0_0.length l0_0) (hc0_0 : l0_0.length ≤ c0_0) (h : spec_DiskOk.f k l0_0 = some r) :
  Calls Tryz.prog 14 #[.agg #[.slice A0_0 l0_0.length c0_0]] w fun e w' => e = .returned (.bool r) ∧ Below w.heap.size w w':=by
 have hu31:=Tryz.underlying31
 have hu46:=Tryz.underlying46
 have HR0_0:=Aside0.mk hr0_0
 have HC0_0:=Aside0.mk hc0_0
 clear hr0_0 hc0_0
 have HB:=Aside0.mk (Below.refl w.heap.size w)
 have H : (if (l0_0.length : Int) > 30 then (some false) else (spec_DiskOk.l0 k 0 l0_0)) = some r:=h
 clear h
 by_cases c2 : (l0_0.length : Int) > 30
 ·rw [if_pos c2] at H
  have c2b0 : decide (30 < (l0_0.length : Int)) = true:=decide_eq_true c2
  have c2b1 : decide (30 < l0_0.length) = true:=decide_eq_true (by omega)
  clear c2
  obtain rfl:=Option.some.inj H
  go_enter Tryz.func14,Tryz.ntmps14
  go_wp2_with (first | ((with_reducible refine gate_dst (N:=1) rfl ?_);(try (refine gate_guard (by rfl) ?_;dsimp only));refine zy0 (cs:=#[.slice A0_0 l0_0.length c0_0]) (t:=31) ?_;intro gb107 hg w3 hbox hb;have BK107:=Aside0.mk hbox;have GW107:=zz0 hg HB;have GE107:=zz0 hg HB;replace HB:=zs0 HB hb;clear hb hbox hg;obtain ⟨_,_⟩:=zd01 BK107))
  go_ret
  exact ⟨zW0,(zY0 HB.out)⟩
 ·rw [if_neg c2] at H
  have c2b0 : decide (30 < (l0_0.length : Int)) = false:=decide_eq_false c2
  have c2b1 : decide (30 < l0_0.length) = false:=decide_eq_false (by omega)
  clear c2
  have H':=Aside0.mk H
  clear H
  go_enter Tryz.func14,Tryz.ntmps14
  go_wp2_with (first | ((with_reducible refine gate_dst (N:=1) rfl ?_);(try (refine gate_guard (by rfl) ?_;dsimp only));refine zy0 (cs:=#[.slice A0_0 l0_0.length c0_0]) (t:=31) ?_;intro gb107 hg w5 hbox hb;have BK107:=Aside0.mk hbox;have GW107:=zz0 hg HB;have GE107:=zz0 hg HB;replace HB:=zs0 HB hb;clear hb hbox hg;obtain ⟨hcz6_0,hfz6_0⟩:=zd01 BK107))
  go_loopg [3] k (fun kq v3 w' => ∃ (x3_1 : Int),v3 = .int .i64 x3_1 ∧ Aside0 (spec_DiskOk.l0 kq x3_1 l0_0 = some r) ∧ Aside0 (kq ≤ k) ∧ Aside0 (w'.heap[gb107]? = some (.cells #[(.slice A0_0 l0_0.length c0_0)] 31 (0,0))) ∧ Aside0 (Below w.heap.size w w'))
  case atStart => exact ⟨(0),zE0,H',⟨Nat.le_refl _⟩,⟨zK0 BK107.out⟩,⟨zY0 HB.out⟩⟩
  case round =>
   clear H'
   try clear c2
   try clear c2b0
   try clear c2b1
   try clear hcz6_0
   try clear hfz6_0
   obtain ⟨x3_1,rfl,HA,HK1,BK107,HB⟩:=hrel
   cases gk with
   | zero => exact absurd HA.out (by simp [spec_DiskOk.l0])
   | succ k1 =>
    have H:=HA.out
    clear HA
    simp only [spec_DiskOk.l0] at H
    by_cases c7 : x3_1 < (l0_0.length : Int)
    ·rw [if_pos c7] at H
     have c7b0 : decide (x3_1 < (l0_0.length : Int)) = true:=decide_eq_true c7
     clear c7
     by_cases c8 : 0 ≤ x3_1
     ·rw [if_pos c8] at H
      have c8b0 : decide (0 ≤ x3_1) = true:=decide_eq_true c8
      clear c8
      obtain ⟨t110,A9,H⟩:=bX0 H
      by_cases c10 : t110 = true
      ·subst c10
       rw [if_pos rfl] at H
       by_cases c11 : (((rd_T46 l0_0 x3_1).f1).size : Int) > 20000
       ·rw [if_pos c11] at H
        have c11b0 : decide (20000 < (((rd_T46 l0_0 x3_1).f1).size : Int)) = true:=decide_eq_true c11
        have c11b1 : decide (20000 < ((rd_T46 l0_0 x3_1).f1).size) = true:=decide_eq_true (by omega)
        clear c11
        obtain rfl:=Option.some.inj H
        have hcz12_0 : wr.cell? ⟨gb107,0,none⟩ = some (.slice A0_0 l0_0.length c0_0):=zc00 BK107
        have hfz12_0:=blk_frozen BK107.out 0
        have p108 : 0 ≤ (x3_1 : Int):=zD0
        have q108 : x3_1 < (l0_0.length : Int):=zD0
        obtain ⟨ad108,e108,hx108_0,hx108_1,hx108_2⟩:=at_T46 HR0_0.out x3_1 p108 q108
        cases e108
        replace hx108_0:=zx0 HB hx108_0
        replace hx108_1:=zx0 HB hx108_1
        replace hx108_2:=zx0 HB hx108_2
        replace p108:=eq_true p108
        replace q108:=eq_true q108
        try go_wp2_with (first | ((with_reducible refine gate_dst (N:=4) rfl ?_);(try (refine gate_guard (by rfl) ?_;dsimp only));refine zy0 (cs:=#[.string (⟨#[]⟩ : ByteArray),.string (⟨#[]⟩ : ByteArray),.int .i64 0]) (t:=46) ?_;intro gb109 hg w13 hbox hb;have BK109:=Aside0.mk hbox;have GW109:=zz0 hg HB;have GE109:=zz0 hg HB;replace HB:=zs0 HB hb;have NB107_109:=zl0 hg BK107;have NB109_107:=zg0 hg BK107;replace BK107:=zb0 BK107 hb;clear hb hbox hg;obtain ⟨_,_⟩:=zn0 NB109_107;obtain ⟨_,_,_,_,_,_⟩:=zd03 BK109))
        have n0_ : Aside0 ((((w13.setCell ⟨gb109,0,none⟩ (.string ((rd_T46 l0_0 x3_1).f0))).setCell ⟨gb109,1,none⟩ (.string ((rd_T46 l0_0 x3_1).f1))).setCell ⟨gb109,2,none⟩ (.int .i64 ((rd_T46 l0_0 x3_1).f2))).heap[gb107]? = some (.cells #[.slice (some ad108) l0_0.length c0_0] 31 (0,0))):=⟨zK0 BK107.out⟩
        have n1_ : Aside0 ((((w13.setCell ⟨gb109,0,none⟩ (.string ((rd_T46 l0_0 x3_1).f0))).setCell ⟨gb109,1,none⟩ (.string ((rd_T46 l0_0 x3_1).f1))).setCell ⟨gb109,2,none⟩ (.int .i64 ((rd_T46 l0_0 x3_1).f2))).heap[gb109]? = some (.cells #[.string ((rd_T46 l0_0 x3_1).f0),.string ((rd_T46 l0_0 x3_1).f1),.int .i64 ((rd_T46 l0_0 x3_1).f2)] 46 (0,0))):=⟨by refine zT0 ?_;refine blk_put (cs:=#[.string ((rd_T46 l0_0 x3_1).f0),.string ((rd_T46 l0_0 x3_1).f1),.int .i64 0]) ?_ 2 _ rfl;refine zT0 ?_;refine blk_put (cs:=#[.string ((rd_T46 l0_0 x3_1).f0),.string (⟨#[]⟩ : ByteArray),.int .i64 0]) ?_ 1 _ rfl;refine zT0 ?_;refine blk_put (cs:=#[.string (⟨#[]⟩ : ByteArray),.string (⟨#[]⟩ : ByteArray),.int .i64 0]) ?_ 0 _ rfl;exact zK0 BK109.out⟩
        have n2_ : Aside0 (Below w.heap.size w (((w13.setCell ⟨gb109,0,none⟩ (.string ((rd_T46 l0_0 x3_1).f0))).setCell ⟨gb109,1,none⟩ (.string ((rd_T46 l0_0 x3_1).f1))).setCell ⟨gb109,2,none⟩ (.int .i64 ((rd_T46 l0_0 x3_1).f2)))):=⟨zY0 HB.out⟩
        (try clear BK107)
        (try clear BK109)
        (try clear HB)
        generalize (((w13.setCell ⟨gb109,0,none⟩ (.string ((rd_T46 l0_0 x3_1).f0))).setCell ⟨gb109,1,none⟩ (.string ((rd_T46 l0_0 x3_1).f1))).setCell ⟨gb109,2,none⟩ (.int .i64 ((rd_T46 l0_0 x3_1).f2))) = w16 at n0_ n1_ n2_ ⊢
        have BK107:=n0_
        have BK109:=n1_
        have HB:=n2_
        clear n0_ n1_ n2_
        replace BK107:=Aside0.mk (blk_drew BK107.out)
        replace BK109:=Aside0.mk (blk_drew BK109.out)
        replace HB:=Aside0.mk (below_drew1 HB.out)
        refine start_ (n:=35) (S:=fun w' => w'.cell? ⟨gb109,0,none⟩ = some (.string ((rd_T46 l0_0 x3_1).f0)) ∧ w'.cell? ⟨gb109,1,none⟩ = some (.string ((rd_T46 l0_0 x3_1).f1)) ∧ w'.cell? ⟨gb109,2,none⟩ = some (.int .i64 ((rd_T46 l0_0 x3_1).f2))) (ds:=[]) (zF0 35 0) (by kernel_rfl) rfl rfl ⟨zc00 BK109,zc01 BK109,zc02 BK109⟩ (fun hHeld => ?_);refine with_tabW spec_DiskOk.tab7 spec_DiskOk.bits7 (fun HT_ HW_ => ?_)
        generalize w16.drew = w17 at BK107 BK109 HB hHeld ⊢
        refine zp0 0 21 35 1 HT_ ?_
        refine zt0 1 22 35 3 HT_ HW_ hHeld ?_
        refine one_ (i:=2) (N:=some 23) (zF0 35 7) rfl rfl (one_of HT_.out (by kernel_rfl)) (by decide) (fun K hK => ?_)
        refine goes_ Tryz.func30 (by kernel_rfl) rfl #[.string ((rd_T46 l0_0 x3_1).f0)] (by rfl) rfl rfl zM0 ?_
        with_reducible refine (spec_l03Name.calls ((rd_T46 l0_0 x3_1).f0) true _ A9.out).mono ?_
        rintro e w' ⟨rfl,⟨nd,rfl⟩⟩
        refine ⟨_,rfl,?_⟩
        refine hK.out _ _ ⟨zc00 BK109,zc01 BK109,zc02 BK109⟩ (fun hHeld => ?_)
        clear hK K
        refine norm_ (a':=?_) ?_ ?_;rotate_left
        ·show Act.put _ (some 23) _ = _;simp only [Act.put,qA0,qB0,qC0,i64_w,i32_w];rfl
        refine zp0 3 24 35 15 HT_ ?_
        refine zp0 4 25 35 31 HT_ ?_
        refine zp0 5 26 35 63 HT_ ?_
        refine zt0 6 27 35 127 HT_ HW_ hHeld ?_
        refine zp0 7 28 35 255 HT_ ?_
        refine zp0 8 29 35 511 HT_ ?_
        refine zp0 9 30 35 1023 HT_ ?_
        refine zp0 10 31 35 2047 HT_ ?_
        refine zq0 11 32 35 4095 HT_ ?_
        refine zq0 12 33 35 8191 HT_ ?_
        refine zq0 13 34 35 16383 HT_ ?_
        refine zq0 14 35 35 32767 HT_ ?_
        refine zq0 15 36 35 65535 HT_ ?_
        refine zq0 16 37 35 131071 HT_ ?_
        refine zq0 17 38 35 262143 HT_ ?_
        refine zp0 18 39 35 524287 HT_ ?_
        refine zp0 19 40 35 1048575 HT_ ?_
        refine zq0 20 41 35 2097151 HT_ ?_
        refine zq0 21 42 35 4194303 HT_ ?_
        refine zq0 22 43 35 8388607 HT_ ?_
        refine zq0 23 44 35 16777215 HT_ ?_
        refine zq0 24 45 35 33554431 HT_ ?_
        refine zq0 25 46 35 67108863 HT_ ?_
        refine zq0 26 47 35 134217727 HT_ ?_
        refine zq0 27 48 35 268435455 HT_ ?_
        refine zq0 28 49 35 536870911 HT_ ?_
        refine zq0 29 50 35 1073741823 HT_ ?_
        refine zq0 30 51 35 2147483647 HT_ ?_
        refine zq0 31 52 35 4294967295 HT_ ?_
        refine zq0 32 53 35 8589934591 HT_ ?_
        refine zq0 33 54 35 17179869183 HT_ ?_
        refine zp0 34 55 35 34359738367 HT_ ?_
        refine done_ (done_of HT_.out (by kernel_rfl)) ?_
        try go_wp2
        go_ret
        exact ⟨zW0,(zY0 HB.out)⟩
       ·rw [if_neg c11] at H
        have c11b0 : decide (20000 < (((rd_T46 l0_0 x3_1).f1).size : Int)) = false:=decide_eq_false c11
        have c11b1 : decide (20000 < ((rd_T46 l0_0 x3_1).f1).size) = false:=decide_eq_false (by omega)
        clear c11
        obtain ⟨t111,A18,H⟩:=bX0 H
        by_cases c19 : t111 = true
        ·subst c19
         rw [if_pos rfl] at H
         by_cases c20 : x3_1 > 0
         ·rw [if_pos c20] at H
          have c20b0 : decide (0 < x3_1) = true:=decide_eq_true c20
          clear c20
          obtain ⟨ji21,hji21⟩ : ∃ j_ : Int,(wrap64 (x3_1 - 1)) = j_:=⟨_,rfl⟩
          replace H : (if 0 ≤ (ji21) then (if (ji21) < (l0_0.length : Int) then (if ((Op.bytesLess (((rd_T46 l0_0 (ji21)).f0).toList) (((rd_T46 l0_0 x3_1).f0).toList)) = true) then (spec_DiskOk.l0 k1 (wrap64 (x3_1 + 1)) l0_0) else (some false)) else (none)) else (none)) = some r:=by first | (rw [hji21] at H;exact H) | (simp only [hji21] at H ⊢;exact H)
          (try rw [hji21] at A9)
          (try rw [hji21] at A18)
          have hji21w : (IntKind.i64.wrap (x3_1 - 1)) = ji21:=(i64_w _).trans hji21
          by_cases c22 : 0 ≤ (ji21)
          ·rw [if_pos c22] at H
           have c22b0 : decide (0 ≤ (ji21)) = true:=decide_eq_true c22
           clear c22
           by_cases c23 : (ji21) < (l0_0.length : Int)
           ·rw [if_pos c23] at H
            have c23b0 : decide ((ji21) < (l0_0.length : Int)) = true:=decide_eq_true c23
            clear c23
            by_cases c24 : ((Op.bytesLess (((rd_T46 l0_0 (ji21)).f0).toList) (((rd_T46 l0_0 x3_1).f0).toList)) = true)
            ·rw [if_pos c24] at H
             have c24b0 : (Op.bytesLess (((rd_T46 l0_0 (ji21)).f0).toList) (((rd_T46 l0_0 x3_1).f0).toList)) = true:=c24
             clear c24
             have H':=Aside0.mk H
             clear H
             have hcz25_0 : wr.cell? ⟨gb107,0,none⟩ = some (.slice A0_0 l0_0.length c0_0):=zc00 BK107
             have hfz25_0:=blk_frozen BK107.out 0
             have p108 : 0 ≤ (x3_1 : Int):=zD0
             have q108 : x3_1 < (l0_0.length : Int):=zD0
             obtain ⟨ad108,e108,hx108_0,hx108_1,hx108_2⟩:=at_T46 HR0_0.out x3_1 p108 q108
             cases e108
             replace hx108_0:=zx0 HB hx108_0
             replace hx108_1:=zx0 HB hx108_1
             replace hx108_2:=zx0 HB hx108_2
             replace p108:=eq_true p108
             replace q108:=eq_true q108
             try go_wp2_with (first | ((with_reducible refine gate_dst (N:=4) rfl ?_);(try (refine gate_guard (by rfl) ?_;dsimp only));refine zy0 (cs:=#[.string (⟨#[]⟩ : ByteArray),.string (⟨#[]⟩ : ByteArray),.int .i64 0]) (t:=46) ?_;intro gb109 hg w26 hbox hb;have BK109:=Aside0.mk hbox;have GW109:=zz0 hg HB;have GE109:=zz0 hg HB;replace HB:=zs0 HB hb;have NB107_109:=zl0 hg BK107;have NB109_107:=zg0 hg BK107;replace BK107:=zb0 BK107 hb;clear hb hbox hg;obtain ⟨_,_⟩:=zn0 NB109_107;obtain ⟨_,_,_,_,_,_⟩:=zd03 BK109))
             have n0_ : Aside0 ((((w26.setCell ⟨gb109,0,none⟩ (.string ((rd_T46 l0_0 x3_1).f0))).setCell ⟨gb109,1,none⟩ (.string ((rd_T46 l0_0 x3_1).f1))).setCell ⟨gb109,2,none⟩ (.int .i64 ((rd_T46 l0_0 x3_1).f2))).heap[gb107]? = some (.cells #[.slice (some ad108) l0_0.length c0_0] 31 (0,0))):=⟨zK0 BK107.out⟩
             have n1_ : Aside0 ((((w26.setCell ⟨gb109,0,none⟩ (.string ((rd_T46 l0_0 x3_1).f0))).setCell ⟨gb109,1,none⟩ (.string ((rd_T46 l0_0 x3_1).f1))).setCell ⟨gb109,2,none⟩ (.int .i64 ((rd_T46 l0_0 x3_1).f2))).heap[gb109]? = some (.cells #[.string ((rd_T46 l0_0 x3_1).f0),.string ((rd_T46 l0_0 x3_1).f1),.int .i64 ((rd_T46 l0_0 x3_1).f2)] 46 (0,0))):=⟨by refine zT0 ?_;refine blk_put (cs:=#[.string ((rd_T46 l0_0 x3_1).f0),.string ((rd_T46 l0_0 x3_1).f1),.int .i64 0]) ?_ 2 _ rfl;refine zT0 ?_;refine blk_put (cs:=#[.string ((rd_T46 l0_0 x3_1).f0),.string (⟨#[]⟩ : ByteArray),.int .i64 0]) ?_ 1 _ rfl;refine zT0 ?_;refine blk_put (cs:=#[.string (⟨#[]⟩ : ByteArray),.string (⟨#[]⟩ : ByteArray),.int .i64 0]) ?_ 0 _ rfl;exact zK0 BK109.out⟩
             have n2_ : Aside0 (Below w.heap.size w (((w26.setCell ⟨gb109,0,none⟩ (.string ((rd_T46 l0_0 x3_1).f0))).setCell ⟨gb109,1,none⟩ (.string ((rd_T46 l0_0 x3_1).f1))).setCell ⟨gb109,2,none⟩ (.int .i64 ((rd_T46 l0_0 x3_1).f2)))):=⟨zY0 HB.out⟩
             (try clear BK107)
             (try clear BK109)
             (try clear HB)
             generalize (((w26.setCell ⟨gb109,0,none⟩ (.string ((rd_T46 l0_0 x3_1).f0))).setCell ⟨gb109,1,none⟩ (.string ((rd_T46 l0_0 x3_1).f1))).setCell ⟨gb109,2,none⟩ (.int .i64 ((rd_T46 l0_0 x3_1).f2))) = w29 at n0_ n1_ n2_ ⊢
             have BK107:=n0_
             have BK109:=n1_
             have HB:=n2_
             clear n0_ n1_ n2_
             replace BK107:=Aside0.mk (blk_drew BK107.out)
             replace BK109:=Aside0.mk (blk_drew BK109.out)
             replace HB:=Aside0.mk (below_drew1 HB.out)
             have p112 : 0 ≤ ((ji21) : Int):=zD0
             have q112 : (ji21) < (l0_0.length : Int):=zD0
             obtain ⟨ad112,e112,hx112_0,hx112_1,hx112_2⟩:=at_T46 HR0_0.out (ji21) p112 q112
             have hw112_2:=hx112_2
             have hw112_1:=hx112_1
             have hw112_0:=hx112_0
             obtain rfl : ad108 = ad112:=(by injection e112)
             replace hx112_0:=zx0 HB hx112_0
             replace hx112_1:=zx0 HB hx112_1
             replace hx112_2:=zx0 HB hx112_2
             replace p112:=eq_true p112
             replace q112:=eq_true q112
             refine start_ (n:=35) (S:=fun w' => w'.cell? ⟨gb109,0,none⟩ = some (.string ((rd_T46 l0_0 x3_1).f0)) ∧ w'.cell? ⟨gb109,1,none⟩ = some (.string ((rd_T46 l0_0 x3_1).f1)) ∧ w'.cell? ⟨gb109,2,none⟩ = some (.int .i64 ((rd_T46 l0_0 x3_1).f2)) ∧ w'.cell? ⟨gb107,0,none⟩ = some (.slice (some ad108) l0_0.length c0_0) ∧ w'.cell? (ad108.add (((ji21)).toNat * 3)) = some (.string ((rd_T46 l0_0 (ji21)).f0)) ∧ w'.cell? ⟨(ad108.add (((ji21)).toNat * 3)).block,(ad108.add (((ji21)).toNat * 3)).off + 1,none⟩ = some (.string ((rd_T46 l0_0 (ji21)).f1)) ∧ w'.cell? ⟨(ad108.add (((ji21)).toNat * 3)).block,(ad108.add (((ji21)).toNat * 3)).off + 2,none⟩ = some (.int .i64 ((rd_T46 l0_0 (ji21)).f2))) (ds:=[]) (zF0 35 0) (by kernel_rfl) rfl rfl ⟨zc00 BK109,zc01 BK109,zc02 BK109,zc00 BK107,(zx0 HB hw112_0 :),(zx0 HB hw112_1 :),(zx0 HB hw112_2 :)⟩ (fun hHeld => ?_);refine with_tabW spec_DiskOk.tab7 spec_DiskOk.bits7 (fun HT_ HW_ => ?_)
             generalize w29.drew = w30 at BK107 BK109 HB hx112_0 hx112_1 hx112_2 hHeld ⊢
             refine zp0 0 21 35 1 HT_ ?_
             refine zt0 1 22 35 3 HT_ HW_ hHeld ?_
             refine one_ (i:=2) (N:=some 23) (zF0 35 7) rfl rfl (one_of HT_.out (by kernel_rfl)) (by decide) (fun K hK => ?_)
             refine goes_ Tryz.func30 (by kernel_rfl) rfl #[.string ((rd_T46 l0_0 x3_1).f0)] (by rfl) rfl rfl zM0 ?_
             with_reducible refine (spec_l03Name.calls ((rd_T46 l0_0 x3_1).f0) true _ A9.out).mono ?_
             rintro e w' ⟨rfl,⟨nd,rfl⟩⟩
             refine ⟨_,rfl,?_⟩
             refine hK.out _ _ ⟨zc00 BK109,zc01 BK109,zc02 BK109,zc00 BK107,(zx0 HB hw112_0 :),(zx0 HB hw112_1 :),(zx0 HB hw112_2 :)⟩ (fun hHeld => ?_)
             clear hK K
             refine norm_ (a':=?_) ?_ ?_;rotate_left
             ·show Act.put _ (some 23) _ = _;simp only [Act.put,qA0,qB0,qC0,i64_w,i32_w];rfl
             refine zp0 3 24 35 15 HT_ ?_
             refine zp0 4 25 35 31 HT_ ?_
             refine zp0 5 26 35 63 HT_ ?_
             refine zt0 6 27 35 127 HT_ HW_ hHeld ?_
             refine zp0 7 28 35 255 HT_ ?_
             refine zp0 8 29 35 511 HT_ ?_
             refine zp0 9 30 35 1023 HT_ ?_
             refine zp0 10 31 35 2047 HT_ ?_
             refine zp0 11 32 35 4095 HT_ ?_
             refine zp0 13 34 35 12287 HT_ ?_
             refine zt0 12 33 35 16383 HT_ HW_ hHeld ?_
             refine zt0 14 35 35 32767 HT_ HW_ hHeld ?_
             refine zp0 15 36 35 65535 HT_ ?_
             refine one_ (i:=16) (N:=some 37) (zF0 35 131071) rfl rfl (one_of HT_.out (by kernel_rfl)) (by decide) (fun K hK => ?_)
             refine goes_ Tryz.func31 (by kernel_rfl) rfl #[.int .i64 ((rd_T46 l0_0 x3_1).f2),.int .i64 0,.int .i64 (((rd_T46 l0_0 x3_1).f1).size : Int)] (by rfl) rfl rfl zM0 ?_
             with_reducible refine (spec_l01In.calls ((rd_T46 l0_0 x3_1).f2) 0 (((rd_T46 l0_0 x3_1).f1).size : Int) true _ A18.out).mono ?_
             rintro e w' ⟨rfl,⟨nd,rfl⟩⟩
             refine ⟨_,rfl,?_⟩
             refine hK.out _ _ ⟨zc00 BK109,zc01 BK109,zc02 BK109,zc00 BK107,(zx0 HB hw112_0 :),(zx0 HB hw112_1 :),(zx0 HB hw112_2 :)⟩ (fun hHeld => ?_)
             clear hK K
             refine norm_ (a':=?_) ?_ ?_;rotate_left
             ·show Act.put _ (some 37) _ = _;simp only [Act.put,qA0,qB0,qC0,i64_w,i32_w];rfl
             refine zp0 17 38 35 262143 HT_ ?_
             refine zp0 18 39 35 524287 HT_ ?_
             refine zp0 19 40 35 1048575 HT_ ?_
             refine zp0 20 41 35 2097151 HT_ ?_
             refine zp0 21 42 35 4194303 HT_ ?_
             refine zp0 22 43 35 8388607 HT_ ?_
             refine zp0 23 44 35 16777215 HT_ ?_
             refine zp0 25 46 35 50331647 HT_ ?_
             refine zp0 26 47 35 117440511 HT_ ?_
             refine zp0 30 51 35 1191182335 HT_ ?_
             refine zt0 24 45 35 1207959551 HT_ HW_ hHeld ?_
             refine zp0 27 48 35 1342177279 HT_ ?_
             refine zp0 28 49 35 1610612735 HT_ ?_
             refine zt0 29 50 35 2147483647 HT_ HW_ hHeld ?_
             refine zt0 31 52 35 4294967295 HT_ HW_ hHeld ?_
             refine zp0 32 53 35 8589934591 HT_ ?_
             refine zp0 33 54 35 17179869183 HT_ ?_
             refine zp0 34 55 35 34359738367 HT_ ?_
             refine done_ (done_of HT_.out (by kernel_rfl)) ?_
             try go_wp2
             go_roundg k1
             case measure => have:=HK1.out;omega
             case rel => exact ⟨(wrap64 (x3_1 + 1)),zE0,H',⟨by have:=HK1.out;omega⟩,⟨zK0 BK107.out⟩,⟨zY0 HB.out⟩⟩
            ·rw [if_neg c24] at H
             have c24b0 : (Op.bytesLess (((rd_T46 l0_0 (ji21)).f0).toList) (((rd_T46 l0_0 x3_1).f0).toList)) = false:=by simpa using c24
             clear c24
             obtain rfl:=Option.some.inj H
             have hcz31_0 : wr.cell? ⟨gb107,0,none⟩ = some (.slice A0_0 l0_0.length c0_0):=zc00 BK107
             have hfz31_0:=blk_frozen BK107.out 0
             have p108 : 0 ≤ (x3_1 : Int):=zD0
             have q108 : x3_1 < (l0_0.length : Int):=zD0
             obtain ⟨ad108,e108,hx108_0,hx108_1,hx108_2⟩:=at_T46 HR0_0.out x3_1 p108 q108
             cases e108
             replace hx108_0:=zx0 HB hx108_0
             replace hx108_1:=zx0 HB hx108_1
             replace hx108_2:=zx0 HB hx108_2
             replace p108:=eq_true p108
             replace q108:=eq_true q108
             try go_wp2_with (first | ((with_reducible refine gate_dst (N:=4) rfl ?_);(try (refine gate_guard (by rfl) ?_;dsimp only));refine zy0 (cs:=#[.string (⟨#[]⟩ : ByteArray),.string (⟨#[]⟩ : ByteArray),.int .i64 0]) (t:=46) ?_;intro gb109 hg w32 hbox hb;have BK109:=Aside0.mk hbox;have GW109:=zz0 hg HB;have GE109:=zz0 hg HB;replace HB:=zs0 HB hb;have NB107_109:=zl0 hg BK107;have NB109_107:=zg0 hg BK107;replace BK107:=zb0 BK107 hb;clear hb hbox hg;obtain ⟨_,_⟩:=zn0 NB109_107;obtain ⟨_,_,_,_,_,_⟩:=zd03 BK109))
             have n0_ : Aside0 ((((w32.setCell ⟨gb109,0,none⟩ (.string ((rd_T46 l0_0 x3_1).f0))).setCell ⟨gb109,1,none⟩ (.string ((rd_T46 l0_0 x3_1).f1))).setCell ⟨gb109,2,none⟩ (.int .i64 ((rd_T46 l0_0 x3_1).f2))).heap[gb107]? = some (.cells #[.slice (some ad108) l0_0.length c0_0] 31 (0,0))):=⟨zK0 BK107.out⟩
             have n1_ : Aside0 ((((w32.setCell ⟨gb109,0,none⟩ (.string ((rd_T46 l0_0 x3_1).f0))).setCell ⟨gb109,1,none⟩ (.string ((rd_T46 l0_0 x3_1).f1))).setCell ⟨gb109,2,none⟩ (.int .i64 ((rd_T46 l0_0 x3_1).f2))).heap[gb109]? = some (.cells #[.string ((rd_T46 l0_0 x3_1).f0),.string ((rd_T46 l0_0 x3_1).f1),.int .i64 ((rd_T46 l0_0 x3_1).f2)] 46 (0,0))):=⟨by refine zT0 ?_;refine blk_put (cs:=#[.string ((rd_T46 l0_0 x3_1).f0),.string ((rd_T46 l0_0 x3_1).f1),.int .i64 0]) ?_ 2 _ rfl;refine zT0 ?_;refine blk_put (cs:=#[.string ((rd_T46 l0_0 x3_1).f0),.string (⟨#[]⟩ : ByteArray),.int .i64 0]) ?_ 1 _ rfl;refine zT0 ?_;refine blk_put (cs:=#[.string (⟨#[]⟩ : ByteArray),.string (⟨#[]⟩ : ByteArray),.int .i64 0]) ?_ 0 _ rfl;exact zK0 BK109.out⟩
             have n2_ : Aside0 (Below w.heap.size w (((w32.setCell ⟨gb109,0,none⟩ (.string ((rd_T46 l0_0 x3_1).f0))).setCell ⟨gb109,1,none⟩ (.string ((rd_T46 l0_0 x3_1).f1))).setCell ⟨gb109,2,none⟩ (.int .i64 ((rd_T46 l0_0 x3_1).f2)))):=⟨zY0 HB.out⟩
             (try clear BK107)
             (try clear BK109)
             (try clear HB)
             generalize (((w32.setCell ⟨gb109,0,none⟩ (.string ((rd_T46 l0_0 x3_1).f0))).setCell ⟨gb109,1,none⟩ (.string ((rd_T46 l0_0 x3_1).f1))).setCell ⟨gb109,2,none⟩ (.int .i64 ((rd_T46 l0_0 x3_1).f2))) = w35 at n0_ n1_ n2_ ⊢
             have BK107:=n0_
             have BK109:=n1_
             have HB:=n2_
             clear n0_ n1_ n2_
             replace BK107:=Aside0.mk (blk_drew BK107.out)
             replace BK109:=Aside0.mk (blk_drew BK109.out)
             replace HB:=Aside0.mk (below_drew1 HB.out)
             have p112 : 0 ≤ ((ji21) : Int):=zD0
             have q112 : (ji21) < (l0_0.length : Int):=zD0
             obtain ⟨ad112,e112,hx112_0,hx112_1,hx112_2⟩:=at_T46 HR0_0.out (ji21) p112 q112
             have hw112_2:=hx112_2
             have hw112_1:=hx112_1
             have hw112_0:=hx112_0
             obtain rfl : ad108 = ad112:=(by injection e112)
             replace hx112_0:=zx0 HB hx112_0
             replace hx112_1:=zx0 HB hx112_1
             replace hx112_2:=zx0 HB hx112_2
             replace p112:=eq_true p112
             replace q112:=eq_true q112
             refine start_ (n:=35) (S:=fun w' => w'.cell? ⟨gb109,0,none⟩ = some (.string ((rd_T46 l0_0 x3_1).f0)) ∧ w'.cell? ⟨gb109,1,none⟩ = some (.string ((rd_T46 l0_0 x3_1).f1)) ∧ w'.cell? ⟨gb109,2,none⟩ = some (.int .i64 ((rd_T46 l0_0 x3_1).f2)) ∧ w'.cell? ⟨gb107,0,none⟩ = some (.slice (some ad108) l0_0.length c0_0) ∧ w'.cell? (ad108.add (((ji21)).toNat * 3)) = some (.string ((rd_T46 l0_0 (ji21)).f0)) ∧ w'.cell? ⟨(ad108.add (((ji21)).toNat * 3)).block,(ad108.add (((ji21)).toNat * 3)).off + 1,none⟩ = some (.string ((rd_T46 l0_0 (ji21)).f1)) ∧ w'.cell? ⟨(ad108.add (((ji21)).toNat * 3)).block,(ad108.add (((ji21)).toNat * 3)).off + 2,none⟩ = some (.int .i64 ((rd_T46 l0_0 (ji21)).f2))) (ds:=[]) (zF0 35 0) (by kernel_rfl) rfl rfl ⟨zc00 BK109,zc01 BK109,zc02 BK109,zc00 BK107,(zx0 HB hw112_0 :),(zx0 HB hw112_1 :),(zx0 HB hw112_2 :)⟩ (fun hHeld => ?_);refine with_tabW spec_DiskOk.tab7 spec_DiskOk.bits7 (fun HT_ HW_ => ?_)
             generalize w35.drew = w36 at BK107 BK109 HB hx112_0 hx112_1 hx112_2 hHeld ⊢
             refine zp0 0 21 35 1 HT_ ?_
             refine zt0 1 22 35 3 HT_ HW_ hHeld ?_
             refine one_ (i:=2) (N:=some 23) (zF0 35 7) rfl rfl (one_of HT_.out (by kernel_rfl)) (by decide) (fun K hK => ?_)
             refine goes_ Tryz.func30 (by kernel_rfl) rfl #[.string ((rd_T46 l0_0 x3_1).f0)] (by rfl) rfl rfl zM0 ?_
             with_reducible refine (spec_l03Name.calls ((rd_T46 l0_0 x3_1).f0) true _ A9.out).mono ?_
             rintro e w' ⟨rfl,⟨nd,rfl⟩⟩
             refine ⟨_,rfl,?_⟩
             refine hK.out _ _ ⟨zc00 BK109,zc01 BK109,zc02 BK109,zc00 BK107,(zx0 HB hw112_0 :),(zx0 HB hw112_1 :),(zx0 HB hw112_2 :)⟩ (fun hHeld => ?_)
             clear hK K
             refine norm_ (a':=?_) ?_ ?_;rotate_left
             ·show Act.put _ (some 23) _ = _;simp only [Act.put,qA0,qB0,qC0,i64_w,i32_w];rfl
             refine zp0 3 24 35 15 HT_ ?_
             refine zp0 4 25 35 31 HT_ ?_
             refine zp0 5 26 35 63 HT_ ?_
             refine zt0 6 27 35 127 HT_ HW_ hHeld ?_
             refine zp0 7 28 35 255 HT_ ?_
             refine zp0 8 29 35 511 HT_ ?_
             refine zp0 9 30 35 1023 HT_ ?_
             refine zp0 10 31 35 2047 HT_ ?_
             refine zp0 11 32 35 4095 HT_ ?_
             refine zp0 13 34 35 12287 HT_ ?_
             refine zt0 12 33 35 16383 HT_ HW_ hHeld ?_
             refine zt0 14 35 35 32767 HT_ HW_ hHeld ?_
             refine zp0 15 36 35 65535 HT_ ?_
             refine one_ (i:=16) (N:=some 37) (zF0 35 131071) rfl rfl (one_of HT_.out (by kernel_rfl)) (by decide) (fun K hK => ?_)
             refine goes_ Tryz.func31 (by kernel_rfl) rfl #[.int .i64 ((rd_T46 l0_0 x3_1).f2),.int .i64 0,.int .i64 (((rd_T46 l0_0 x3_1).f1).size : Int)] (by rfl) rfl rfl zM0 ?_
             with_reducible refine (spec_l01In.calls ((rd_T46 l0_0 x3_1).f2) 0 (((rd_T46 l0_0 x3_1).f1).size : Int) true _ A18.out).mono ?_
             rintro e w' ⟨rfl,⟨nd,rfl⟩⟩
             refine ⟨_,rfl,?_⟩
             refine hK.out _ _ ⟨zc00 BK109,zc01 BK109,zc02 BK109,zc00 BK107,(zx0 HB hw112_0 :),(zx0 HB hw112_1 :),(zx0 HB hw112_2 :)⟩ (fun hHeld => ?_)
             clear hK K
             refine norm_ (a':=?_) ?_ ?_;rotate_left
             ·show Act.put _ (some 37) _ = _;simp only [Act.put,qA0,qB0,qC0,i64_w,i32_w];rfl
             refine zp0 17 38 35 262143 HT_ ?_
             refine zp0 18 39 35 524287 HT_ ?_
             refine zp0 19 40 35 1048575 HT_ ?_
             refine zp0 20 41 35 2097151 HT_ ?_
             refine zp0 21 42 35 4194303 HT_ ?_
             refine zp0 22 43 35 8388607 HT_ ?_
             refine zp0 23 44 35 16777215 HT_ ?_
             refine zp0 25 46 35 50331647 HT_ ?_
             refine zp0 26 47 35 117440511 HT_ ?_
             refine zp0 30 51 35 1191182335 HT_ ?_
             refine zt0 24 45 35 1207959551 HT_ HW_ hHeld ?_
             refine zp0 27 48 35 1342177279 HT_ ?_
             refine zp0 28 49 35 1610612735 HT_ ?_
             refine zt0 29 50 35 2147483647 HT_ HW_ hHeld ?_
             refine zt0 31 52 35 4294967295 HT_ HW_ hHeld ?_
             refine zp0 32 53 35 8589934591 HT_ ?_
             refine zp0 33 54 35 17179869183 HT_ ?_
             refine zp0 34 55 35 34359738367 HT_ ?_
             refine done_ (done_of HT_.out (by kernel_rfl)) ?_
             try go_wp2
             go_ret
             exact ⟨by first | rfl | (simp [errW_none,errW_some] <;> rfl) | (simp only [← hji21];first | rfl | (simp [errW_none,errW_some] <;> rfl)) | (simp [*,errW_none,errW_some] <;> rfl),(zY0 HB.out)⟩
           ·rw [if_neg c23] at H
            exact absurd H (by simp)
          ·rw [if_neg c22] at H
           exact absurd H (by simp)
         ·rw [if_neg c20] at H
          have c20b0 : decide (0 < x3_1) = false:=decide_eq_false c20
          clear c20
          have H':=Aside0.mk H
          clear H
          have hcz37_0 : wr.cell? ⟨gb107,0,none⟩ = some (.slice A0_0 l0_0.length c0_0):=zc00 BK107
          have hfz37_0:=blk_frozen BK107.out 0
          have p108 : 0 ≤ (x3_1 : Int):=zD0
          have q108 : x3_1 < (l0_0.length : Int):=zD0
          obtain ⟨ad108,e108,hx108_0,hx108_1,hx108_2⟩:=at_T46 HR0_0.out x3_1 p108 q108
          cases e108
          replace hx108_0:=zx0 HB hx108_0
          replace hx108_1:=zx0 HB hx108_1
          replace hx108_2:=zx0 HB hx108_2
          replace p108:=eq_true p108
          replace q108:=eq_true q108
          try go_wp2_with (first | ((with_reducible refine gate_dst (N:=4) rfl ?_);(try (refine gate_guard (by rfl) ?_;dsimp only));refine zy0 (cs:=#[.string (⟨#[]⟩ : ByteArray),.string (⟨#[]⟩ : ByteArray),.int .i64 0]) (t:=46) ?_;intro gb109 hg w38 hbox hb;have BK109:=Aside0.mk hbox;have GW109:=zz0 hg HB;have GE109:=zz0 hg HB;replace HB:=zs0 HB hb;have NB107_109:=zl0 hg BK107;have NB109_107:=zg0 hg BK107;replace BK107:=zb0 BK107 hb;clear hb hbox hg;obtain ⟨_,_⟩:=zn0 NB109_107;obtain ⟨_,_,_,_,_,_⟩:=zd03 BK109))
          have n0_ : Aside0 ((((w38.setCell ⟨gb109,0,none⟩ (.string ((rd_T46 l0_0 x3_1).f0))).setCell ⟨gb109,1,none⟩ (.string ((rd_T46 l0_0 x3_1).f1))).setCell ⟨gb109,2,none⟩ (.int .i64 ((rd_T46 l0_0 x3_1).f2))).heap[gb107]? = some (.cells #[.slice (some ad108) l0_0.length c0_0] 31 (0,0))):=⟨zK0 BK107.out⟩
          have n1_ : Aside0 ((((w38.setCell ⟨gb109,0,none⟩ (.string ((rd_T46 l0_0 x3_1).f0))).setCell ⟨gb109,1,none⟩ (.string ((rd_T46 l0_0 x3_1).f1))).setCell ⟨gb109,2,none⟩ (.int .i64 ((rd_T46 l0_0 x3_1).f2))).heap[gb109]? = some (.cells #[.string ((rd_T46 l0_0 x3_1).f0),.string ((rd_T46 l0_0 x3_1).f1),.int .i64 ((rd_T46 l0_0 x3_1).f2)] 46 (0,0))):=⟨by refine zT0 ?_;refine blk_put (cs:=#[.string ((rd_T46 l0_0 x3_1).f0),.string ((rd_T46 l0_0 x3_1).f1),.int .i64 0]) ?_ 2 _ rfl;refine zT0 ?_;refine blk_put (cs:=#[.string ((rd_T46 l0_0 x3_1).f0),.string (⟨#[]⟩ : ByteArray),.int .i64 0]) ?_ 1 _ rfl;refine zT0 ?_;refine blk_put (cs:=#[.string (⟨#[]⟩ : ByteArray),.string (⟨#[]⟩ : ByteArray),.int .i64 0]) ?_ 0 _ rfl;exact zK0 BK109.out⟩
          have n2_ : Aside0 (Below w.heap.size w (((w38.setCell ⟨gb109,0,none⟩ (.string ((rd_T46 l0_0 x3_1).f0))).setCell ⟨gb109,1,none⟩ (.string ((rd_T46 l0_0 x3_1).f1))).setCell ⟨gb109,2,none⟩ (.int .i64 ((rd_T46 l0_0 x3_1).f2)))):=⟨zY0 HB.out⟩
          (try clear BK107)
          (try clear BK109)
          (try clear HB)
          generalize (((w38.setCell ⟨gb109,0,none⟩ (.string ((rd_T46 l0_0 x3_1).f0))).setCell ⟨gb109,1,none⟩ (.string ((rd_T46 l0_0 x3_1).f1))).setCell ⟨gb109,2,none⟩ (.int .i64 ((rd_T46 l0_0 x3_1).f2))) = w41 at n0_ n1_ n2_ ⊢
          have BK107:=n0_
          have BK109:=n1_
          have HB:=n2_
          clear n0_ n1_ n2_
          replace BK107:=Aside0.mk (blk_drew BK107.out)
          replace BK109:=Aside0.mk (blk_drew BK109.out)
          replace HB:=Aside0.mk (below_drew1 HB.out)
          refine start_ (n:=35) (S:=fun w' => w'.cell? ⟨gb109,0,none⟩ = some (.string ((rd_T46 l0_0 x3_1).f0)) ∧ w'.cell? ⟨gb109,1,none⟩ = some (.string ((rd_T46 l0_0 x3_1).f1)) ∧ w'.cell? ⟨gb109,2,none⟩ = some (.int .i64 ((rd_T46 l0_0 x3_1).f2))) (ds:=[]) (zF0 35 0) (by kernel_rfl) rfl rfl ⟨zc00 BK109,zc01 BK109,zc02 BK109⟩ (fun hHeld => ?_);refine with_tabW spec_DiskOk.tab7 spec_DiskOk.bits7 (fun HT_ HW_ => ?_)
          generalize w41.drew = w42 at BK107 BK109 HB hHeld ⊢
          refine zp0 0 21 35 1 HT_ ?_
          refine zt0 1 22 35 3 HT_ HW_ hHeld ?_
          refine one_ (i:=2) (N:=some 23) (zF0 35 7) rfl rfl (one_of HT_.out (by kernel_rfl)) (by decide) (fun K hK => ?_)
          refine goes_ Tryz.func30 (by kernel_rfl) rfl #[.string ((rd_T46 l0_0 x3_1).f0)] (by rfl) rfl rfl zM0 ?_
          with_reducible refine (spec_l03Name.calls ((rd_T46 l0_0 x3_1).f0) true _ A9.out).mono ?_
          rintro e w' ⟨rfl,⟨nd,rfl⟩⟩
          refine ⟨_,rfl,?_⟩
          refine hK.out _ _ ⟨zc00 BK109,zc01 BK109,zc02 BK109⟩ (fun hHeld => ?_)
          clear hK K
          refine norm_ (a':=?_) ?_ ?_;rotate_left
          ·show Act.put _ (some 23) _ = _;simp only [Act.put,qA0,qB0,qC0,i64_w,i32_w];rfl
          refine zp0 3 24 35 15 HT_ ?_
          refine zp0 4 25 35 31 HT_ ?_
          refine zp0 5 26 35 63 HT_ ?_
          refine zt0 6 27 35 127 HT_ HW_ hHeld ?_
          refine zp0 7 28 35 255 HT_ ?_
          refine zp0 8 29 35 511 HT_ ?_
          refine zp0 9 30 35 1023 HT_ ?_
          refine zp0 10 31 35 2047 HT_ ?_
          refine zp0 11 32 35 4095 HT_ ?_
          refine zp0 13 34 35 12287 HT_ ?_
          refine zt0 12 33 35 16383 HT_ HW_ hHeld ?_
          refine zt0 14 35 35 32767 HT_ HW_ hHeld ?_
          refine zp0 15 36 35 65535 HT_ ?_
          refine one_ (i:=16) (N:=some 37) (zF0 35 131071) rfl rfl (one_of HT_.out (by kernel_rfl)) (by decide) (fun K hK => ?_)
          refine goes_ Tryz.func31 (by kernel_rfl) rfl #[.int .i64 ((rd_T46 l0_0 x3_1).f2),.int .i64 0,.int .i64 (((rd_T46 l0_0 x3_1).f1).size : Int)] (by rfl) rfl rfl zM0 ?_
          with_reducible refine (spec_l01In.calls ((rd_T46 l0_0 x3_1).f2) 0 (((rd_T46 l0_0 x3_1).f1).size : Int) true _ A18.out).mono ?_
          rintro e w' ⟨rfl,⟨nd,rfl⟩⟩
          refine ⟨_,rfl,?_⟩
          refine hK.out _ _ ⟨zc00 BK109,zc01 BK109,zc02 BK109⟩ (fun hHeld => ?_)
          clear hK K
          refine norm_ (a':=?_) ?_ ?_;rotate_left
          ·show Act.put _ (some 37) _ = _;simp only [Act.put,qA0,qB0,qC0,i64_w,i32_w];rfl
          refine zp0 17 38 35 262143 HT_ ?_
          refine zp0 18 39 35 524287 HT_ ?_
          refine zp0 19 40 35 1048575 HT_ ?_
          refine zp0 20 41 35 2097151 HT_ ?_
          refine zp0 21 42 35 4194303 HT_ ?_
          refine zp0 22 43 35 8388607 HT_ ?_
          refine zq0 23 44 35 16777215 HT_ ?_
          refine zq0 24 45 35 33554431 HT_ ?_
          refine zq0 25 46 35 67108863 HT_ ?_
          refine zq0 26 47 35 134217727 HT_ ?_
          refine zq0 27 48 35 268435455 HT_ ?_
          refine zq0 28 49 35 536870911 HT_ ?_
          refine zq0 29 50 35 1073741823 HT_ ?_
          refine zq0 30 51 35 2147483647 HT_ ?_
          refine zq0 31 52 35 4294967295 HT_ ?_
          refine zq0 32 53 35 8589934591 HT_ ?_
          refine zp0 33 54 35 17179869183 HT_ ?_
          refine zp0 34 55 35 34359738367 HT_ ?_
          refine done_ (done_of HT_.out (by kernel_rfl)) ?_
          try go_wp2
          go_roundg k1
          case measure => have:=HK1.out;omega
          case rel => exact ⟨(wrap64 (x3_1 + 1)),zE0,H',⟨by have:=HK1.out;omega⟩,⟨zK0 BK107.out⟩,⟨zY0 HB.out⟩⟩
        ·replace c19:=Bool.eq_false_iff.mpr c19
         subst c19
         rw [if_neg (show ¬ (false = true) by decide)] at H
         obtain rfl:=Option.some.inj H
         have hcz43_0 : wr.cell? ⟨gb107,0,none⟩ = some (.slice A0_0 l0_0.length c0_0):=zc00 BK107
         have hfz43_0:=blk_frozen BK107.out 0
         have p108 : 0 ≤ (x3_1 : Int):=zD0
         have q108 : x3_1 < (l0_0.length : Int):=zD0
         obtain ⟨ad108,e108,hx108_0,hx108_1,hx108_2⟩:=at_T46 HR0_0.out x3_1 p108 q108
         cases e108
         replace hx108_0:=zx0 HB hx108_0
         replace hx108_1:=zx0 HB hx108_1
         replace hx108_2:=zx0 HB hx108_2
         replace p108:=eq_true p108
         replace q108:=eq_true q108
         try go_wp2_with (first | ((with_reducible refine gate_dst (N:=4) rfl ?_);(try (refine gate_guard (by rfl) ?_;dsimp only));refine zy0 (cs:=#[.string (⟨#[]⟩ : ByteArray),.string (⟨#[]⟩ : ByteArray),.int .i64 0]) (t:=46) ?_;intro gb109 hg w44 hbox hb;have BK109:=Aside0.mk hbox;have GW109:=zz0 hg HB;have GE109:=zz0 hg HB;replace HB:=zs0 HB hb;have NB107_109:=zl0 hg BK107;have NB109_107:=zg0 hg BK107;replace BK107:=zb0 BK107 hb;clear hb hbox hg;obtain ⟨_,_⟩:=zn0 NB109_107;obtain ⟨_,_,_,_,_,_⟩:=zd03 BK109))
         have n0_ : Aside0 ((((w44.setCell ⟨gb109,0,none⟩ (.string ((rd_T46 l0_0 x3_1).f0))).setCell ⟨gb109,1,none⟩ (.string ((rd_T46 l0_0 x3_1).f1))).setCell ⟨gb109,2,none⟩ (.int .i64 ((rd_T46 l0_0 x3_1).f2))).heap[gb107]? = some (.cells #[.slice (some ad108) l0_0.length c0_0] 31 (0,0))):=⟨zK0 BK107.out⟩
         have n1_ : Aside0 ((((w44.setCell ⟨gb109,0,none⟩ (.string ((rd_T46 l0_0 x3_1).f0))).setCell ⟨gb109,1,none⟩ (.string ((rd_T46 l0_0 x3_1).f1))).setCell ⟨gb109,2,none⟩ (.int .i64 ((rd_T46 l0_0 x3_1).f2))).heap[gb109]? = some (.cells #[.string ((rd_T46 l0_0 x3_1).f0),.string ((rd_T46 l0_0 x3_1).f1),.int .i64 ((rd_T46 l0_0 x3_1).f2)] 46 (0,0))):=⟨by refine zT0 ?_;refine blk_put (cs:=#[.string ((rd_T46 l0_0 x3_1).f0),.string ((rd_T46 l0_0 x3_1).f1),.int .i64 0]) ?_ 2 _ rfl;refine zT0 ?_;refine blk_put (cs:=#[.string ((rd_T46 l0_0 x3_1).f0),.string (⟨#[]⟩ : ByteArray),.int .i64 0]) ?_ 1 _ rfl;refine zT0 ?_;refine blk_put (cs:=#[.string (⟨#[]⟩ : ByteArray),.string (⟨#[]⟩ : ByteArray),.int .i64 0]) ?_ 0 _ rfl;exact zK0 BK109.out⟩
         have n2_ : Aside0 (Below w.heap.size w (((w44.setCell ⟨gb109,0,none⟩ (.string ((rd_T46 l0_0 x3_1).f0))).setCell ⟨gb109,1,none⟩ (.string ((rd_T46 l0_0 x3_1).f1))).setCell ⟨gb109,2,none⟩ (.int .i64 ((rd_T46 l0_0 x3_1).f2)))):=⟨zY0 HB.out⟩
         (try clear BK107)
         (try clear BK109)
         (try clear HB)
         generalize (((w44.setCell ⟨gb109,0,none⟩ (.string ((rd_T46 l0_0 x3_1).f0))).setCell ⟨gb109,1,none⟩ (.string ((rd_T46 l0_0 x3_1).f1))).setCell ⟨gb109,2,none⟩ (.int .i64 ((rd_T46 l0_0 x3_1).f2))) = w47 at n0_ n1_ n2_ ⊢
         have BK107:=n0_
         have BK109:=n1_
         have HB:=n2_
         clear n0_ n1_ n2_
         replace BK107:=Aside0.mk (blk_drew BK107.out)
         replace BK109:=Aside0.mk (blk_drew BK109.out)
         replace HB:=Aside0.mk (below_drew1 HB.out)
         refine start_ (n:=35) (S:=fun w' => w'.cell? ⟨gb109,0,none⟩ = some (.string ((rd_T46 l0_0 x3_1).f0)) ∧ w'.cell? ⟨gb109,1,none⟩ = some (.string ((rd_T46 l0_0 x3_1).f1)) ∧ w'.cell? ⟨gb109,2,none⟩ = some (.int .i64 ((rd_T46 l0_0 x3_1).f2))) (ds:=[]) (zF0 35 0) (by kernel_rfl) rfl rfl ⟨zc00 BK109,zc01 BK109,zc02 BK109⟩ (fun hHeld => ?_);refine with_tabW spec_DiskOk.tab7 spec_DiskOk.bits7 (fun HT_ HW_ => ?_)
         generalize w47.drew = w48 at BK107 BK109 HB hHeld ⊢
         refine zp0 0 21 35 1 HT_ ?_
         refine zt0 1 22 35 3 HT_ HW_ hHeld ?_
         refine one_ (i:=2) (N:=some 23) (zF0 35 7) rfl rfl (one_of HT_.out (by kernel_rfl)) (by decide) (fun K hK => ?_)
         refine goes_ Tryz.func30 (by kernel_rfl) rfl #[.string ((rd_T46 l0_0 x3_1).f0)] (by rfl) rfl rfl zM0 ?_
         with_reducible refine (spec_l03Name.calls ((rd_T46 l0_0 x3_1).f0) true _ A9.out).mono ?_
         rintro e w' ⟨rfl,⟨nd,rfl⟩⟩
         refine ⟨_,rfl,?_⟩
         refine hK.out _ _ ⟨zc00 BK109,zc01 BK109,zc02 BK109⟩ (fun hHeld => ?_)
         clear hK K
         refine norm_ (a':=?_) ?_ ?_;rotate_left
         ·show Act.put _ (some 23) _ = _;simp only [Act.put,qA0,qB0,qC0,i64_w,i32_w];rfl
         refine zp0 3 24 35 15 HT_ ?_
         refine zp0 4 25 35 31 HT_ ?_
         refine zp0 5 26 35 63 HT_ ?_
         refine zt0 6 27 35 127 HT_ HW_ hHeld ?_
         refine zp0 7 28 35 255 HT_ ?_
         refine zp0 8 29 35 511 HT_ ?_
         refine zp0 9 30 35 1023 HT_ ?_
         refine zp0 10 31 35 2047 HT_ ?_
         refine zp0 11 32 35 4095 HT_ ?_
         refine zp0 13 34 35 12287 HT_ ?_
         refine zt0 12 33 35 16383 HT_ HW_ hHeld ?_
         refine zt0 14 35 35 32767 HT_ HW_ hHeld ?_
         refine zp0 15 36 35 65535 HT_ ?_
         refine one_ (i:=16) (N:=some 37) (zF0 35 131071) rfl rfl (one_of HT_.out (by kernel_rfl)) (by decide) (fun K hK => ?_)
         refine goes_ Tryz.func31 (by kernel_rfl) rfl #[.int .i64 ((rd_T46 l0_0 x3_1).f2),.int .i64 0,.int .i64 (((rd_T46 l0_0 x3_1).f1).size : Int)] (by rfl) rfl rfl zM0 ?_
         with_reducible refine (spec_l01In.calls ((rd_T46 l0_0 x3_1).f2) 0 (((rd_T46 l0_0 x3_1).f1).size : Int) false _ A18.out).mono ?_
         rintro e w' ⟨rfl,⟨nd,rfl⟩⟩
         refine ⟨_,rfl,?_⟩
         refine hK.out _ _ ⟨zc00 BK109,zc01 BK109,zc02 BK109⟩ (fun hHeld => ?_)
         clear hK K
         refine norm_ (a':=?_) ?_ ?_;rotate_left
         ·show Act.put _ (some 37) _ = _;simp only [Act.put,qA0,qB0,qC0,i64_w,i32_w];rfl
         refine zp0 17 38 35 262143 HT_ ?_
         refine zp0 18 39 35 524287 HT_ ?_
         refine zp0 19 40 35 1048575 HT_ ?_
         refine zq0 20 41 35 2097151 HT_ ?_
         refine zq0 21 42 35 4194303 HT_ ?_
         refine zq0 22 43 35 8388607 HT_ ?_
         refine zq0 23 44 35 16777215 HT_ ?_
         refine zq0 24 45 35 33554431 HT_ ?_
         refine zq0 25 46 35 67108863 HT_ ?_
         refine zq0 26 47 35 134217727 HT_ ?_
         refine zq0 27 48 35 268435455 HT_ ?_
         refine zq0 28 49 35 536870911 HT_ ?_
         refine zq0 29 50 35 1073741823 HT_ ?_
         refine zq0 30 51 35 2147483647 HT_ ?_
         refine zq0 31 52 35 4294967295 HT_ ?_
         refine zq0 32 53 35 8589934591 HT_ ?_
         refine zq0 33 54 35 17179869183 HT_ ?_
         refine zp0 34 55 35 34359738367 HT_ ?_
         refine done_ (done_of HT_.out (by kernel_rfl)) ?_
         try go_wp2
         go_ret
         exact ⟨zW0,(zY0 HB.out)⟩
      ·replace c10:=Bool.eq_false_iff.mpr c10
       subst c10
       rw [if_neg (show ¬ (false = true) by decide)] at H
       obtain rfl:=Option.some.inj H
       have hcz49_0 : wr.cell? ⟨gb107,0,none⟩ = some (.slice A0_0 l0_0.length c0_0):=zc00 BK107
       have hfz49_0:=blk_frozen BK107.out 0
       have p108 : 0 ≤ (x3_1 : Int):=zD0
       have q108 : x3_1 < (l0_0.length : Int):=zD0
       obtain ⟨ad108,e108,hx108_0,hx108_1,hx108_2⟩:=at_T46 HR0_0.out x3_1 p108 q108
       cases e108
       replace hx108_0:=zx0 HB hx108_0
       replace hx108_1:=zx0 HB hx108_1
       replace hx108_2:=zx0 HB hx108_2
       replace p108:=eq_true p108
       replace q108:=eq_true q108
       try go_wp2_with (first | ((with_reducible refine gate_dst (N:=4) rfl ?_);(try (refine gate_guard (by rfl) ?_;dsimp only));refine zy0 (cs:=#[.string (⟨#[]⟩ : ByteArray),.string (⟨#[]⟩ : ByteArray),.int .i64 0]) (t:=46) ?_;intro gb109 hg w50 hbox hb;have BK109:=Aside0.mk hbox;have GW109:=zz0 hg HB;have GE109:=zz0 hg HB;replace HB:=zs0 HB hb;have NB107_109:=zl0 hg BK107;have NB109_107:=zg0 hg BK107;replace BK107:=zb0 BK107 hb;clear hb hbox hg;obtain ⟨_,_⟩:=zn0 NB109_107;obtain ⟨_,_,_,_,_,_⟩:=zd03 BK109))
       have n0_ : Aside0 ((((w50.setCell ⟨gb109,0,none⟩ (.string ((rd_T46 l0_0 x3_1).f0))).setCell ⟨gb109,1,none⟩ (.string ((rd_T46 l0_0 x3_1).f1))).setCell ⟨gb109,2,none⟩ (.int .i64 ((rd_T46 l0_0 x3_1).f2))).heap[gb107]? = some (.cells #[.slice (some ad108) l0_0.length c0_0] 31 (0,0))):=⟨zK0 BK107.out⟩
       have n1_ : Aside0 ((((w50.setCell ⟨gb109,0,none⟩ (.string ((rd_T46 l0_0 x3_1).f0))).setCell ⟨gb109,1,none⟩ (.string ((rd_T46 l0_0 x3_1).f1))).setCell ⟨gb109,2,none⟩ (.int .i64 ((rd_T46 l0_0 x3_1).f2))).heap[gb109]? = some (.cells #[.string ((rd_T46 l0_0 x3_1).f0),.string ((rd_T46 l0_0 x3_1).f1),.int .i64 ((rd_T46 l0_0 x3_1).f2)] 46 (0,0))):=⟨by refine zT0 ?_;refine blk_put (cs:=#[.string ((rd_T46 l0_0 x3_1).f0),.string ((rd_T46 l0_0 x3_1).f1),.int .i64 0]) ?_ 2 _ rfl;refine zT0 ?_;refine blk_put (cs:=#[.string ((rd_T46 l0_0 x3_1).f0),.string (⟨#[]⟩ : ByteArray),.int .i64 0]) ?_ 1 _ rfl;refine zT0 ?_;refine blk_put (cs:=#[.string (⟨#[]⟩ : ByteArray),.string (⟨#[]⟩ : ByteArray),.int .i64 0]) ?_ 0 _ rfl;exact zK0 BK109.out⟩
       have n2_ : Aside0 (Below w.heap.size w (((w50.setCell ⟨gb109,0,none⟩ (.string ((rd_T46 l0_0 x3_1).f0))).setCell ⟨gb109,1,none⟩ (.string ((rd_T46 l0_0 x3_1).f1))).setCell ⟨gb109,2,none⟩ (.int .i64 ((rd_T46 l0_0 x3_1).f2)))):=⟨zY0 HB.out⟩
       (try clear BK107)
       (try clear BK109)
       (try clear HB)
       generalize (((w50.setCell ⟨gb109,0,none⟩ (.string ((rd_T46 l0_0 x3_1).f0))).setCell ⟨gb109,1,none⟩ (.string ((rd_T46 l0_0 x3_1).f1))).setCell ⟨gb109,2,none⟩ (.int .i64 ((rd_T46 l0_0 x3_1).f2))) = w53 at n0_ n1_ n2_ ⊢
       have BK107:=n0_
       have BK109:=n1_
       have HB:=n2_
       clear n0_ n1_ n2_
       replace BK107:=Aside0.mk (blk_drew BK107.out)
       replace BK109:=Aside0.mk (blk_drew BK109.out)
       replace HB:=Aside0.mk (below_drew1 HB.out)
       refine start_ (n:=35) (S:=fun w' => w'.cell? ⟨gb109,0,none⟩ = some (.string ((rd_T46 l0_0 x3_1).f0)) ∧ w'.cell? ⟨gb109,1,none⟩ = some (.string ((rd_T46 l0_0 x3_1).f1)) ∧ w'.cell? ⟨gb109,2,none⟩ = some (.int .i64 ((rd_T46 l0_0 x3_1).f2))) (ds:=[]) (zF0 35 0) (by kernel_rfl) rfl rfl ⟨zc00 BK109,zc01 BK109,zc02 BK109⟩ (fun hHeld => ?_);refine with_tabW spec_DiskOk.tab7 spec_DiskOk.bits7 (fun HT_ HW_ => ?_)
       generalize w53.drew = w54 at BK107 BK109 HB hHeld ⊢
       refine zp0 0 21 35 1 HT_ ?_
       refine zt0 1 22 35 3 HT_ HW_ hHeld ?_
       refine one_ (i:=2) (N:=some 23) (zF0 35 7) rfl rfl (one_of HT_.out (by kernel_rfl)) (by decide) (fun K hK => ?_)
       refine goes_ Tryz.func30 (by kernel_rfl) rfl #[.string ((rd_T46 l0_0 x3_1).f0)] (by rfl) rfl rfl zM0 ?_
       with_reducible refine (spec_l03Name.calls ((rd_T46 l0_0 x3_1).f0) false _ A9.out).mono ?_
       rintro e w' ⟨rfl,⟨nd,rfl⟩⟩
       refine ⟨_,rfl,?_⟩
       refine hK.out _ _ ⟨zc00 BK109,zc01 BK109,zc02 BK109⟩ (fun hHeld => ?_)
       clear hK K
       refine norm_ (a':=?_) ?_ ?_;rotate_left
       ·show Act.put _ (some 23) _ = _;simp only [Act.put,qA0,qB0,qC0,i64_w,i32_w];rfl
       refine zp0 3 24 35 15 HT_ ?_
       refine zp0 4 25 35 31 HT_ ?_
       refine zq0 5 26 35 63 HT_ ?_
       refine zq0 6 27 35 127 HT_ ?_
       refine zq0 7 28 35 255 HT_ ?_
       refine zq0 8 29 35 511 HT_ ?_
       refine zp0 9 30 35 1023 HT_ ?_
       refine zp0 10 31 35 2047 HT_ ?_
       refine zq0 11 32 35 4095 HT_ ?_
       refine zq0 12 33 35 8191 HT_ ?_
       refine zq0 13 34 35 16383 HT_ ?_
       refine zq0 14 35 35 32767 HT_ ?_
       refine zq0 15 36 35 65535 HT_ ?_
       refine zq0 16 37 35 131071 HT_ ?_
       refine zq0 17 38 35 262143 HT_ ?_
       refine zp0 18 39 35 524287 HT_ ?_
       refine zp0 19 40 35 1048575 HT_ ?_
       refine zq0 20 41 35 2097151 HT_ ?_
       refine zq0 21 42 35 4194303 HT_ ?_
       refine zq0 22 43 35 8388607 HT_ ?_
       refine zq0 23 44 35 16777215 HT_ ?_
       refine zq0 24 45 35 33554431 HT_ ?_
       refine zq0 25 46 35 67108863 HT_ ?_
       refine zq0 26 47 35 134217727 HT_ ?_
       refine zq0 27 48 35 268435455 HT_ ?_
       refine zq0 28 49 35 536870911 HT_ ?_
       refine zq0 29 50 35 1073741823 HT_ ?_
       refine zq0 30 51 35 2147483647 HT_ ?_
       refine zq0 31 52 35 4294967295 HT_ ?_
       refine zq0 32 53 35 8589934591 HT_ ?_
       refine zq0 33 54 35 17179869183 HT_ ?_
       refine zp0 34 55 35 34359738367 HT_ ?_
       refine done_ (done_of HT_.out (by kernel_rfl)) ?_
       try go_wp2
       go_ret
       exact ⟨zW0,(zY0 HB.out)⟩
     ·rw [if_neg c8] at H
      exact absurd H (by simp)
    ·rw [if_neg c7] at H
     have c7b0 : decide (x3_1 < (l0_0.length : Int)) = false:=decide_eq_false c7
     clear c7
     obtain rfl:=Option.some.inj H
     have hcz55_0 : wr.cell? ⟨gb107,0,none⟩ = some (.slice A0_0 l0_0.length c0_0):=zc00 BK107
     have hfz55_0:=blk_frozen BK107.out 0
     go_wp2
     go_ret
     exact ⟨zW0,(zY0 HB.out)⟩

end Go.Proofs.YtlekhcopddajbaaGreatDoor.PFnExactSegments
