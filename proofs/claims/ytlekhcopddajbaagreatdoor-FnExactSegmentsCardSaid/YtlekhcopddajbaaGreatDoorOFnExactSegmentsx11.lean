/- Walks, turned from a print. -/
import Derived.Test.YtlekhcopddajbaaGreatDoorOFnExactSegmentsx0
import Derived.Test.YtlekhcopddajbaaGreatDoorOFnExactSegmentsx10
namespace Go.Proofs.YtlekhcopddajbaaGreatDoor.PFnExactSegments
open Go.RowKit Go.Proofs.YtlekhcopddajbaaGreatDoorW.PrintWords Go.Proofs.YtlekhcopddajbaaGreatDoorW.PrintLast Go.Proofs.YtlekhcopddajbaaGreatDoorW.PrintMore
attribute [local go_sem] max2_int min2_int max_two min_two max_three min_three max_four min_four
set_option linter.unusedVariables false
set_option linter.unusedSimpArgs false

/-! ### impl_DiskOk: function 19 -/
def impl_DiskOk.l0 : Nat → List (S46) → Int → Int → List (S46) → Option (Bool)
 | 0,_,_,_,_ => none
 | k + 1,x6,x7,x8,x319000 => if x8 < x7 then (if 0 ≤ x8 then (if x8 < (x6.length : Int) then ((impl_within.f (((rd_T46 x6 x8).f0).size : Int) 1 8).bind fun t321 => (if t321 = true then (if (((rd_T46 x6 x8).f1).size : Int) > 20000 then (some false) else ((impl_within.f ((rd_T46 x6 x8).f2) 0 (((rd_T46 x6 x8).f1).size : Int)).bind fun t322 => (if t322 = true then (if x8 > 0 then (if 0 ≤ (wrap64 (x8 - 1)) then (if (wrap64 (x8 - 1)) < (x319000.length : Int) then (if ((Op.bytesLess (((rd_T46 x319000 (wrap64 (x8 - 1))).f0).toList) (((rd_T46 x6 x8).f0).toList)) = true) then (impl_DiskOk.l0 k x6 x7 (wrap64 (x8 + 1)) x319000) else (some false)) else (none)) else (none)) else (impl_DiskOk.l0 k x6 x7 (wrap64 (x8 + 1)) x319000)) else (some false)))) else (some false))) else (none)) else (none)) else (some (decide ((x319000.length : Int) ≤ 30)))
def impl_DiskOk.f (k : Nat) (l0_0 : List (S46)) : Option (Bool):=impl_DiskOk.l0 k l0_0 (l0_0.length : Int) 0 l0_0
theorem impl_DiskOk.mono_l : ∀ k,(∀ y0 y1 y2 y3,LeO (impl_DiskOk.l0 k y0 y1 y2 y3) (impl_DiskOk.l0 (k + 1) y0 y1 y2 y3))
 | 0 => fun _ _ _ _ r h => by simp [impl_DiskOk.l0] at h
 | k + 1 => by
  have ih0:=impl_DiskOk.mono_l k
  ·intro y0 y1 y2 y3
   unfold impl_DiskOk.l0
   repeat' first
  | (with_reducible exact ih0 _ _ _ _)
  | (with_reducible exact LeO.refl _)
  | (with_reducible exact LeO.none _)
  | (with_reducible refine LeO.ite ?_ ?_)
  | (with_reducible refine LeO.bind ?_ (fun _ => ?_))
theorem impl_DiskOk.mono : ∀ a0 k,LeO (impl_DiskOk.f k a0) (impl_DiskOk.f (k + 1) a0):=by
 intro a0 k
 have ih0:=impl_DiskOk.mono_l k
 unfold impl_DiskOk.f
 repeat' first
  | (with_reducible exact ih0 _ _ _ _)
  | (with_reducible exact LeO.refl _)
  | (with_reducible exact LeO.none _)
  | (with_reducible refine LeO.ite ?_ ?_)
  | (with_reducible refine LeO.bind ?_ (fun _ => ?_))
def impl_DiskOk.T4 : Bool × List (List Nat × List Nat):=(true,[([],[]),([0],[0]),([1],[1]),([2],[2]),([3],[3]),([4,3],[4]),([5],[5]),([6,5],[5,6]),([7,5],[5,7]),([8,5],[5,8]),([5,9],[5,9]),([10,5],[10]),([11],[11]),([12,11],[11,12]),([11],[11]),([14,11],[11,14]),([15,11],[11,15]),([13,16,11,11],[11,13,16]),([17,11],[11,17]),([11,18],[11,18]),([19,17],[19]),([20],[20]),([21,20],[20,21]),([22,20,20],[20,22]),([23],[23]),([24,23],[23,24]),([23],[23]),([26,23],[23,26]),([25,27,23],[23,25,27]),([28,23],[23,28]),([29,23],[23,29]),([23],[23]),([31,23],[23,31]),([30,32,23],[23,30,32]),([23,33,20],[20,23,33]),([20,34],[20,34])])
def impl_DiskOk.B4 : List Nat:=[0,1,3,7,15,31,63,127,255,511,1023,2047,4095,8191,4095,20479,53247,131071,262143,524287,1048575,2097151,4194303,8388607,16777215,33554431,16777215,83886079,268435455,536870911,1073741823,16777215,2164260863,8589934591,17179869183,34359738367]
theorem impl_DiskOk.tab4 : rtab .any (opsOf Tryz.f19 4) = impl_DiskOk.T4:=by kernel_rfl
theorem impl_DiskOk.bits4 : waitsOk impl_DiskOk.T4.2 impl_DiskOk.B4 = true:=by kernel_rfl
set_option maxHeartbeats 8000000 in
set_option maxRecDepth 100000 in
theorem impl_DiskOk.calls (k : Nat) (A0_0 : Option Addr) (c0_0 : Nat) (l0_0 : List (S46)) (r : Bool) (w : World) (hr0_0 : Kd.C k46 w A0_0 l0_0.length l0_0) (hc0_0 : l0_0.length ≤ c0_0) (h : impl_DiskOk.f k l0_0 = some r) :
  Calls Tryz.prog 19 #[.agg #[.slice A0_0 l0_0.length c0_0]] w fun e w' => e = .returned (.bool r) ∧ Below w.heap.size w w':=by
 have hu31:=Tryz.underlying31
 have hu46:=Tryz.underlying46
 have HR0_0:=Aside0.mk hr0_0
 have HC0_0:=Aside0.mk hc0_0
 clear hr0_0 hc0_0
 have HB:=Aside0.mk (Below.refl w.heap.size w)
 have H : (impl_DiskOk.l0 k l0_0 (l0_0.length : Int) 0 l0_0) = some r:=h
 clear h
 have H':=Aside0.mk H
 clear H
 go_enter Tryz.func19,Tryz.ntmps19
 go_wp2_with (first | ((with_reducible refine gate_dst (N:=1) rfl ?_);(try (refine gate_guard (by rfl) ?_;dsimp only));refine zy0 (cs:=#[.slice A0_0 l0_0.length c0_0]) (t:=31) ?_;intro gb318 hg w2 hbox hb;have BK318:=Aside0.mk hbox;have GW318:=zz0 hg HB;have GE318:=zz0 hg HB;replace HB:=zs0 HB hb;clear hb hbox hg;obtain ⟨hcz3_0,hfz3_0⟩:=zd01 BK318))
 go_loopg [8] k (fun kq v8 w' => ∃ (x8_1 : Int),v8 = .int .i64 x8_1 ∧ Aside0 (impl_DiskOk.l0 kq l0_0 (l0_0.length : Int) x8_1 l0_0 = some r) ∧ Aside0 (kq ≤ k) ∧ Aside0 (w'.heap[gb318]? = some (.cells #[(.slice A0_0 l0_0.length c0_0)] 31 (0,0))) ∧ Aside0 (Below w.heap.size w w'))
 case atStart => exact ⟨(0),zE0,H',⟨Nat.le_refl _⟩,⟨zK0 BK318.out⟩,⟨zY0 HB.out⟩⟩
 case round =>
  clear H'
  try clear hcz3_0
  try clear hfz3_0
  obtain ⟨x8_1,rfl,HA,HK1,BK318,HB⟩:=hrel
  cases gk with
  | zero => exact absurd HA.out (by simp [impl_DiskOk.l0])
  | succ k1 =>
   have H:=HA.out
   clear HA
   simp only [impl_DiskOk.l0] at H
   by_cases c4 : x8_1 < (l0_0.length : Int)
   ·rw [if_pos c4] at H
    have c4b0 : decide (x8_1 < (l0_0.length : Int)) = true:=decide_eq_true c4
    clear c4
    by_cases c5 : 0 ≤ x8_1
    ·rw [if_pos c5] at H
     have c5b0 : decide (0 ≤ x8_1) = true:=decide_eq_true c5
     clear c5
     by_cases c6 : x8_1 < (l0_0.length : Int)
     ·rw [if_pos c6] at H
      have c6b0 : decide (x8_1 < (l0_0.length : Int)) = true:=decide_eq_true c6
      clear c6
      obtain ⟨t321,A7,H⟩:=bX0 H
      by_cases c8 : t321 = true
      ·subst c8
       rw [if_pos rfl] at H
       by_cases c9 : (((rd_T46 l0_0 x8_1).f1).size : Int) > 20000
       ·rw [if_pos c9] at H
        have c9b0 : decide (20000 < (((rd_T46 l0_0 x8_1).f1).size : Int)) = true:=decide_eq_true c9
        have c9b1 : decide (20000 < ((rd_T46 l0_0 x8_1).f1).size) = true:=decide_eq_true (by omega)
        clear c9
        obtain rfl:=Option.some.inj H
        have p319 : 0 ≤ (x8_1 : Int):=zD0
        have q319 : x8_1 < (l0_0.length : Int):=zD0
        obtain ⟨ad319,e319,hx319_0,hx319_1,hx319_2⟩:=at_T46 HR0_0.out x8_1 p319 q319
        cases e319
        replace hx319_0:=zx0 HB hx319_0
        replace hx319_1:=zx0 HB hx319_1
        replace hx319_2:=zx0 HB hx319_2
        replace p319:=eq_true p319
        replace q319:=eq_true q319
        try go_wp2_with (first | ((with_reducible refine gate_dst (N:=4) rfl ?_);(try (refine gate_guard (by rfl) ?_;dsimp only));refine zy0 (cs:=#[.string (⟨#[]⟩ : ByteArray),.string (⟨#[]⟩ : ByteArray),.int .i64 0]) (t:=46) ?_;intro gb320 hg w10 hbox hb;have BK320:=Aside0.mk hbox;have GW320:=zz0 hg HB;have GE320:=zz0 hg HB;replace HB:=zs0 HB hb;have NB318_320:=zl0 hg BK318;have NB320_318:=zg0 hg BK318;replace BK318:=zb0 BK318 hb;clear hb hbox hg;obtain ⟨_,_⟩:=zn0 NB320_318;obtain ⟨_,_,_,_,_,_⟩:=zd03 BK320))
        have n0_ : Aside0 ((((w10.setCell ⟨gb320,0,none⟩ (.string ((rd_T46 l0_0 x8_1).f0))).setCell ⟨gb320,1,none⟩ (.string ((rd_T46 l0_0 x8_1).f1))).setCell ⟨gb320,2,none⟩ (.int .i64 ((rd_T46 l0_0 x8_1).f2))).heap[gb318]? = some (.cells #[.slice (some ad319) l0_0.length c0_0] 31 (0,0))):=⟨zK0 BK318.out⟩
        have n1_ : Aside0 ((((w10.setCell ⟨gb320,0,none⟩ (.string ((rd_T46 l0_0 x8_1).f0))).setCell ⟨gb320,1,none⟩ (.string ((rd_T46 l0_0 x8_1).f1))).setCell ⟨gb320,2,none⟩ (.int .i64 ((rd_T46 l0_0 x8_1).f2))).heap[gb320]? = some (.cells #[.string ((rd_T46 l0_0 x8_1).f0),.string ((rd_T46 l0_0 x8_1).f1),.int .i64 ((rd_T46 l0_0 x8_1).f2)] 46 (0,0))):=⟨by refine zT0 ?_;refine blk_put (cs:=#[.string ((rd_T46 l0_0 x8_1).f0),.string ((rd_T46 l0_0 x8_1).f1),.int .i64 0]) ?_ 2 _ rfl;refine zT0 ?_;refine blk_put (cs:=#[.string ((rd_T46 l0_0 x8_1).f0),.string (⟨#[]⟩ : ByteArray),.int .i64 0]) ?_ 1 _ rfl;refine zT0 ?_;refine blk_put (cs:=#[.string (⟨#[]⟩ : ByteArray),.string (⟨#[]⟩ : ByteArray),.int .i64 0]) ?_ 0 _ rfl;exact zK0 BK320.out⟩
        have n2_ : Aside0 (Below w.heap.size w (((w10.setCell ⟨gb320,0,none⟩ (.string ((rd_T46 l0_0 x8_1).f0))).setCell ⟨gb320,1,none⟩ (.string ((rd_T46 l0_0 x8_1).f1))).setCell ⟨gb320,2,none⟩ (.int .i64 ((rd_T46 l0_0 x8_1).f2)))):=⟨zY0 HB.out⟩
        (try clear BK318)
        (try clear BK320)
        (try clear HB)
        generalize (((w10.setCell ⟨gb320,0,none⟩ (.string ((rd_T46 l0_0 x8_1).f0))).setCell ⟨gb320,1,none⟩ (.string ((rd_T46 l0_0 x8_1).f1))).setCell ⟨gb320,2,none⟩ (.int .i64 ((rd_T46 l0_0 x8_1).f2))) = w13 at n0_ n1_ n2_ ⊢
        have BK318:=n0_
        have BK320:=n1_
        have HB:=n2_
        clear n0_ n1_ n2_
        replace BK318:=Aside0.mk (blk_drew BK318.out)
        replace BK320:=Aside0.mk (blk_drew BK320.out)
        replace HB:=Aside0.mk (below_drew1 HB.out)
        refine start_ (n:=36) (S:=fun w' => w'.cell? ⟨gb320,0,none⟩ = some (.string ((rd_T46 l0_0 x8_1).f0)) ∧ w'.cell? ⟨gb320,1,none⟩ = some (.string ((rd_T46 l0_0 x8_1).f1)) ∧ w'.cell? ⟨gb320,2,none⟩ = some (.int .i64 ((rd_T46 l0_0 x8_1).f2))) (ds:=[]) (zF0 36 0) (by kernel_rfl) rfl rfl ⟨zc00 BK320,zc01 BK320,zc02 BK320⟩ (fun hHeld => ?_);refine with_tabW impl_DiskOk.tab4 impl_DiskOk.bits4 (fun HT_ HW_ => ?_)
        generalize w13.drew = w14 at BK318 BK320 HB hHeld ⊢
        refine zp0 0 13 36 1 HT_ ?_
        refine zt0 1 14 36 3 HT_ HW_ hHeld ?_
        refine zp0 2 15 36 7 HT_ ?_
        refine one_ (i:=3) (N:=some 16) (zF0 36 15) rfl rfl (one_of HT_.out (by kernel_rfl)) (by decide) (fun K hK => ?_)
        refine goes_ Tryz.func38 (by kernel_rfl) rfl #[.int .i64 (((rd_T46 l0_0 x8_1).f0).size : Int),.int .i64 1,.int .i64 8] (by rfl) rfl rfl zM0 ?_
        with_reducible refine (impl_within.calls (((rd_T46 l0_0 x8_1).f0).size : Int) 1 8 true _ A7.out).mono ?_
        rintro e w' ⟨rfl,⟨nd,rfl⟩⟩
        refine ⟨_,rfl,?_⟩
        refine hK.out _ _ ⟨zc00 BK320,zc01 BK320,zc02 BK320⟩ (fun hHeld => ?_)
        clear hK K
        refine norm_ (a':=?_) ?_ ?_;rotate_left
        ·show Act.put _ (some 16) _ = _;simp only [Act.put,qA0,qB0,qC0,i64_w,i32_w];rfl
        refine zp0 4 17 36 31 HT_ ?_
        refine zp0 5 18 36 63 HT_ ?_
        refine zp0 6 19 36 127 HT_ ?_
        refine zt0 7 20 36 255 HT_ HW_ hHeld ?_
        refine zp0 8 21 36 511 HT_ ?_
        refine zp0 9 22 36 1023 HT_ ?_
        refine zp0 10 23 36 2047 HT_ ?_
        refine zp0 11 24 36 4095 HT_ ?_
        refine zq0 12 25 36 8191 HT_ ?_
        refine zq0 13 26 36 16383 HT_ ?_
        refine zq0 14 27 36 32767 HT_ ?_
        refine zq0 15 28 36 65535 HT_ ?_
        refine zq0 16 29 36 131071 HT_ ?_
        refine zq0 17 30 36 262143 HT_ ?_
        refine zq0 18 31 36 524287 HT_ ?_
        refine zp0 19 32 36 1048575 HT_ ?_
        refine zp0 20 33 36 2097151 HT_ ?_
        refine zq0 21 34 36 4194303 HT_ ?_
        refine zq0 22 35 36 8388607 HT_ ?_
        refine zq0 23 36 36 16777215 HT_ ?_
        refine zq0 24 37 36 33554431 HT_ ?_
        refine zq0 25 38 36 67108863 HT_ ?_
        refine zq0 26 39 36 134217727 HT_ ?_
        refine zq0 27 40 36 268435455 HT_ ?_
        refine zq0 28 41 36 536870911 HT_ ?_
        refine zq0 29 42 36 1073741823 HT_ ?_
        refine zq0 30 43 36 2147483647 HT_ ?_
        refine zq0 31 44 36 4294967295 HT_ ?_
        refine zq0 32 45 36 8589934591 HT_ ?_
        refine zq0 33 46 36 17179869183 HT_ ?_
        refine zq0 34 47 36 34359738367 HT_ ?_
        refine zp0 35 48 36 68719476735 HT_ ?_
        refine done_ (done_of HT_.out (by kernel_rfl)) ?_
        try go_wp2
        go_ret
        exact ⟨zW0,(zY0 HB.out)⟩
       ·rw [if_neg c9] at H
        have c9b0 : decide (20000 < (((rd_T46 l0_0 x8_1).f1).size : Int)) = false:=decide_eq_false c9
        have c9b1 : decide (20000 < ((rd_T46 l0_0 x8_1).f1).size) = false:=decide_eq_false (by omega)
        clear c9
        obtain ⟨t322,A15,H⟩:=bX0 H
        by_cases c16 : t322 = true
        ·subst c16
         rw [if_pos rfl] at H
         by_cases c17 : x8_1 > 0
         ·rw [if_pos c17] at H
          have c17b0 : decide (0 < x8_1) = true:=decide_eq_true c17
          clear c17
          obtain ⟨ji18,hji18⟩ : ∃ j_ : Int,(wrap64 (x8_1 - 1)) = j_:=⟨_,rfl⟩
          replace H : (if 0 ≤ (ji18) then (if (ji18) < (l0_0.length : Int) then (if ((Op.bytesLess (((rd_T46 l0_0 (ji18)).f0).toList) (((rd_T46 l0_0 x8_1).f0).toList)) = true) then (impl_DiskOk.l0 k1 l0_0 (l0_0.length : Int) (wrap64 (x8_1 + 1)) l0_0) else (some false)) else (none)) else (none)) = some r:=by first | (rw [hji18] at H;exact H) | (simp only [hji18] at H ⊢;exact H)
          (try rw [hji18] at A7)
          (try rw [hji18] at A15)
          have hji18w : (IntKind.i64.wrap (x8_1 - 1)) = ji18:=(i64_w _).trans hji18
          by_cases c19 : 0 ≤ (ji18)
          ·rw [if_pos c19] at H
           have c19b0 : decide (0 ≤ (ji18)) = true:=decide_eq_true c19
           clear c19
           by_cases c20 : (ji18) < (l0_0.length : Int)
           ·rw [if_pos c20] at H
            have c20b0 : decide ((ji18) < (l0_0.length : Int)) = true:=decide_eq_true c20
            clear c20
            by_cases c21 : ((Op.bytesLess (((rd_T46 l0_0 (ji18)).f0).toList) (((rd_T46 l0_0 x8_1).f0).toList)) = true)
            ·rw [if_pos c21] at H
             have c21b0 : (Op.bytesLess (((rd_T46 l0_0 (ji18)).f0).toList) (((rd_T46 l0_0 x8_1).f0).toList)) = true:=c21
             clear c21
             have H':=Aside0.mk H
             clear H
             have p319 : 0 ≤ (x8_1 : Int):=zD0
             have q319 : x8_1 < (l0_0.length : Int):=zD0
             obtain ⟨ad319,e319,hx319_0,hx319_1,hx319_2⟩:=at_T46 HR0_0.out x8_1 p319 q319
             cases e319
             replace hx319_0:=zx0 HB hx319_0
             replace hx319_1:=zx0 HB hx319_1
             replace hx319_2:=zx0 HB hx319_2
             replace p319:=eq_true p319
             replace q319:=eq_true q319
             try go_wp2_with (first | ((with_reducible refine gate_dst (N:=4) rfl ?_);(try (refine gate_guard (by rfl) ?_;dsimp only));refine zy0 (cs:=#[.string (⟨#[]⟩ : ByteArray),.string (⟨#[]⟩ : ByteArray),.int .i64 0]) (t:=46) ?_;intro gb320 hg w22 hbox hb;have BK320:=Aside0.mk hbox;have GW320:=zz0 hg HB;have GE320:=zz0 hg HB;replace HB:=zs0 HB hb;have NB318_320:=zl0 hg BK318;have NB320_318:=zg0 hg BK318;replace BK318:=zb0 BK318 hb;clear hb hbox hg;obtain ⟨_,_⟩:=zn0 NB320_318;obtain ⟨_,_,_,_,_,_⟩:=zd03 BK320))
             have n0_ : Aside0 ((((w22.setCell ⟨gb320,0,none⟩ (.string ((rd_T46 l0_0 x8_1).f0))).setCell ⟨gb320,1,none⟩ (.string ((rd_T46 l0_0 x8_1).f1))).setCell ⟨gb320,2,none⟩ (.int .i64 ((rd_T46 l0_0 x8_1).f2))).heap[gb318]? = some (.cells #[.slice (some ad319) l0_0.length c0_0] 31 (0,0))):=⟨zK0 BK318.out⟩
             have n1_ : Aside0 ((((w22.setCell ⟨gb320,0,none⟩ (.string ((rd_T46 l0_0 x8_1).f0))).setCell ⟨gb320,1,none⟩ (.string ((rd_T46 l0_0 x8_1).f1))).setCell ⟨gb320,2,none⟩ (.int .i64 ((rd_T46 l0_0 x8_1).f2))).heap[gb320]? = some (.cells #[.string ((rd_T46 l0_0 x8_1).f0),.string ((rd_T46 l0_0 x8_1).f1),.int .i64 ((rd_T46 l0_0 x8_1).f2)] 46 (0,0))):=⟨by refine zT0 ?_;refine blk_put (cs:=#[.string ((rd_T46 l0_0 x8_1).f0),.string ((rd_T46 l0_0 x8_1).f1),.int .i64 0]) ?_ 2 _ rfl;refine zT0 ?_;refine blk_put (cs:=#[.string ((rd_T46 l0_0 x8_1).f0),.string (⟨#[]⟩ : ByteArray),.int .i64 0]) ?_ 1 _ rfl;refine zT0 ?_;refine blk_put (cs:=#[.string (⟨#[]⟩ : ByteArray),.string (⟨#[]⟩ : ByteArray),.int .i64 0]) ?_ 0 _ rfl;exact zK0 BK320.out⟩
             have n2_ : Aside0 (Below w.heap.size w (((w22.setCell ⟨gb320,0,none⟩ (.string ((rd_T46 l0_0 x8_1).f0))).setCell ⟨gb320,1,none⟩ (.string ((rd_T46 l0_0 x8_1).f1))).setCell ⟨gb320,2,none⟩ (.int .i64 ((rd_T46 l0_0 x8_1).f2)))):=⟨zY0 HB.out⟩
             (try clear BK318)
             (try clear BK320)
             (try clear HB)
             generalize (((w22.setCell ⟨gb320,0,none⟩ (.string ((rd_T46 l0_0 x8_1).f0))).setCell ⟨gb320,1,none⟩ (.string ((rd_T46 l0_0 x8_1).f1))).setCell ⟨gb320,2,none⟩ (.int .i64 ((rd_T46 l0_0 x8_1).f2))) = w25 at n0_ n1_ n2_ ⊢
             have BK318:=n0_
             have BK320:=n1_
             have HB:=n2_
             clear n0_ n1_ n2_
             replace BK318:=Aside0.mk (blk_drew BK318.out)
             replace BK320:=Aside0.mk (blk_drew BK320.out)
             replace HB:=Aside0.mk (below_drew1 HB.out)
             have p323 : 0 ≤ ((ji18) : Int):=zD0
             have q323 : (ji18) < (l0_0.length : Int):=zD0
             obtain ⟨ad323,e323,hx323_0,hx323_1,hx323_2⟩:=at_T46 HR0_0.out (ji18) p323 q323
             have hw323_2:=hx323_2
             have hw323_1:=hx323_1
             have hw323_0:=hx323_0
             obtain rfl : ad319 = ad323:=(by injection e323)
             replace hx323_0:=zx0 HB hx323_0
             replace hx323_1:=zx0 HB hx323_1
             replace hx323_2:=zx0 HB hx323_2
             replace p323:=eq_true p323
             replace q323:=eq_true q323
             refine start_ (n:=36) (S:=fun w' => w'.cell? ⟨gb320,0,none⟩ = some (.string ((rd_T46 l0_0 x8_1).f0)) ∧ w'.cell? ⟨gb320,1,none⟩ = some (.string ((rd_T46 l0_0 x8_1).f1)) ∧ w'.cell? ⟨gb320,2,none⟩ = some (.int .i64 ((rd_T46 l0_0 x8_1).f2)) ∧ w'.cell? ⟨gb318,0,none⟩ = some (.slice (some ad319) l0_0.length c0_0) ∧ w'.cell? (ad319.add (((ji18)).toNat * 3)) = some (.string ((rd_T46 l0_0 (ji18)).f0)) ∧ w'.cell? ⟨(ad319.add (((ji18)).toNat * 3)).block,(ad319.add (((ji18)).toNat * 3)).off + 1,none⟩ = some (.string ((rd_T46 l0_0 (ji18)).f1)) ∧ w'.cell? ⟨(ad319.add (((ji18)).toNat * 3)).block,(ad319.add (((ji18)).toNat * 3)).off + 2,none⟩ = some (.int .i64 ((rd_T46 l0_0 (ji18)).f2))) (ds:=[]) (zF0 36 0) (by kernel_rfl) rfl rfl ⟨zc00 BK320,zc01 BK320,zc02 BK320,zc00 BK318,(zx0 HB hw323_0 :),(zx0 HB hw323_1 :),(zx0 HB hw323_2 :)⟩ (fun hHeld => ?_);refine with_tabW impl_DiskOk.tab4 impl_DiskOk.bits4 (fun HT_ HW_ => ?_)
             generalize w25.drew = w26 at BK318 BK320 HB hx323_0 hx323_1 hx323_2 hHeld ⊢
             refine zp0 0 13 36 1 HT_ ?_
             refine zt0 1 14 36 3 HT_ HW_ hHeld ?_
             refine zp0 2 15 36 7 HT_ ?_
             refine one_ (i:=3) (N:=some 16) (zF0 36 15) rfl rfl (one_of HT_.out (by kernel_rfl)) (by decide) (fun K hK => ?_)
             refine goes_ Tryz.func38 (by kernel_rfl) rfl #[.int .i64 (((rd_T46 l0_0 x8_1).f0).size : Int),.int .i64 1,.int .i64 8] (by rfl) rfl rfl zM0 ?_
             with_reducible refine (impl_within.calls (((rd_T46 l0_0 x8_1).f0).size : Int) 1 8 true _ A7.out).mono ?_
             rintro e w' ⟨rfl,⟨nd,rfl⟩⟩
             refine ⟨_,rfl,?_⟩
             refine hK.out _ _ ⟨zc00 BK320,zc01 BK320,zc02 BK320,zc00 BK318,(zx0 HB hw323_0 :),(zx0 HB hw323_1 :),(zx0 HB hw323_2 :)⟩ (fun hHeld => ?_)
             clear hK K
             refine norm_ (a':=?_) ?_ ?_;rotate_left
             ·show Act.put _ (some 16) _ = _;simp only [Act.put,qA0,qB0,qC0,i64_w,i32_w];rfl
             refine zp0 4 17 36 31 HT_ ?_
             refine zp0 5 18 36 63 HT_ ?_
             refine zp0 6 19 36 127 HT_ ?_
             refine zt0 7 20 36 255 HT_ HW_ hHeld ?_
             refine zp0 8 21 36 511 HT_ ?_
             refine zp0 9 22 36 1023 HT_ ?_
             refine zp0 10 23 36 2047 HT_ ?_
             refine zp0 11 24 36 4095 HT_ ?_
             refine zp0 12 25 36 8191 HT_ ?_
             refine zp0 14 27 36 24575 HT_ ?_
             refine zt0 13 26 36 32767 HT_ HW_ hHeld ?_
             refine zt0 15 28 36 65535 HT_ HW_ hHeld ?_
             refine zp0 16 29 36 131071 HT_ ?_
             refine one_ (i:=17) (N:=some 30) (zF0 36 262143) rfl rfl (one_of HT_.out (by kernel_rfl)) (by decide) (fun K hK => ?_)
             refine goes_ Tryz.func38 (by kernel_rfl) rfl #[.int .i64 ((rd_T46 l0_0 x8_1).f2),.int .i64 0,.int .i64 (((rd_T46 l0_0 x8_1).f1).size : Int)] (by rfl) rfl rfl zM0 ?_
             with_reducible refine (impl_within.calls ((rd_T46 l0_0 x8_1).f2) 0 (((rd_T46 l0_0 x8_1).f1).size : Int) true _ A15.out).mono ?_
             rintro e w' ⟨rfl,⟨nd,rfl⟩⟩
             refine ⟨_,rfl,?_⟩
             refine hK.out _ _ ⟨zc00 BK320,zc01 BK320,zc02 BK320,zc00 BK318,(zx0 HB hw323_0 :),(zx0 HB hw323_1 :),(zx0 HB hw323_2 :)⟩ (fun hHeld => ?_)
             clear hK K
             refine norm_ (a':=?_) ?_ ?_;rotate_left
             ·show Act.put _ (some 30) _ = _;simp only [Act.put,qA0,qB0,qC0,i64_w,i32_w];rfl
             refine zp0 18 31 36 524287 HT_ ?_
             refine zp0 19 32 36 1048575 HT_ ?_
             refine zp0 20 33 36 2097151 HT_ ?_
             refine zp0 21 34 36 4194303 HT_ ?_
             refine zp0 22 35 36 8388607 HT_ ?_
             refine zp0 23 36 36 16777215 HT_ ?_
             refine zp0 24 37 36 33554431 HT_ ?_
             refine zp0 26 39 36 100663295 HT_ ?_
             refine zp0 27 40 36 234881023 HT_ ?_
             refine zp0 31 44 36 2382364671 HT_ ?_
             refine zt0 25 38 36 2415919103 HT_ HW_ hHeld ?_
             refine zp0 28 41 36 2684354559 HT_ ?_
             refine zp0 29 42 36 3221225471 HT_ ?_
             refine zt0 30 43 36 4294967295 HT_ HW_ hHeld ?_
             refine zt0 32 45 36 8589934591 HT_ HW_ hHeld ?_
             refine zp0 33 46 36 17179869183 HT_ ?_
             refine zp0 34 47 36 34359738367 HT_ ?_
             refine zp0 35 48 36 68719476735 HT_ ?_
             refine done_ (done_of HT_.out (by kernel_rfl)) ?_
             try go_wp2
             go_roundg k1
             case measure => have:=HK1.out;omega
             case rel => exact ⟨(wrap64 (x8_1 + 1)),zE0,H',⟨by have:=HK1.out;omega⟩,⟨zK0 BK318.out⟩,⟨zY0 HB.out⟩⟩
            ·rw [if_neg c21] at H
             have c21b0 : (Op.bytesLess (((rd_T46 l0_0 (ji18)).f0).toList) (((rd_T46 l0_0 x8_1).f0).toList)) = false:=by simpa using c21
             clear c21
             obtain rfl:=Option.some.inj H
             have p319 : 0 ≤ (x8_1 : Int):=zD0
             have q319 : x8_1 < (l0_0.length : Int):=zD0
             obtain ⟨ad319,e319,hx319_0,hx319_1,hx319_2⟩:=at_T46 HR0_0.out x8_1 p319 q319
             cases e319
             replace hx319_0:=zx0 HB hx319_0
             replace hx319_1:=zx0 HB hx319_1
             replace hx319_2:=zx0 HB hx319_2
             replace p319:=eq_true p319
             replace q319:=eq_true q319
             try go_wp2_with (first | ((with_reducible refine gate_dst (N:=4) rfl ?_);(try (refine gate_guard (by rfl) ?_;dsimp only));refine zy0 (cs:=#[.string (⟨#[]⟩ : ByteArray),.string (⟨#[]⟩ : ByteArray),.int .i64 0]) (t:=46) ?_;intro gb320 hg w27 hbox hb;have BK320:=Aside0.mk hbox;have GW320:=zz0 hg HB;have GE320:=zz0 hg HB;replace HB:=zs0 HB hb;have NB318_320:=zl0 hg BK318;have NB320_318:=zg0 hg BK318;replace BK318:=zb0 BK318 hb;clear hb hbox hg;obtain ⟨_,_⟩:=zn0 NB320_318;obtain ⟨_,_,_,_,_,_⟩:=zd03 BK320))
             have n0_ : Aside0 ((((w27.setCell ⟨gb320,0,none⟩ (.string ((rd_T46 l0_0 x8_1).f0))).setCell ⟨gb320,1,none⟩ (.string ((rd_T46 l0_0 x8_1).f1))).setCell ⟨gb320,2,none⟩ (.int .i64 ((rd_T46 l0_0 x8_1).f2))).heap[gb318]? = some (.cells #[.slice (some ad319) l0_0.length c0_0] 31 (0,0))):=⟨zK0 BK318.out⟩
             have n1_ : Aside0 ((((w27.setCell ⟨gb320,0,none⟩ (.string ((rd_T46 l0_0 x8_1).f0))).setCell ⟨gb320,1,none⟩ (.string ((rd_T46 l0_0 x8_1).f1))).setCell ⟨gb320,2,none⟩ (.int .i64 ((rd_T46 l0_0 x8_1).f2))).heap[gb320]? = some (.cells #[.string ((rd_T46 l0_0 x8_1).f0),.string ((rd_T46 l0_0 x8_1).f1),.int .i64 ((rd_T46 l0_0 x8_1).f2)] 46 (0,0))):=⟨by refine zT0 ?_;refine blk_put (cs:=#[.string ((rd_T46 l0_0 x8_1).f0),.string ((rd_T46 l0_0 x8_1).f1),.int .i64 0]) ?_ 2 _ rfl;refine zT0 ?_;refine blk_put (cs:=#[.string ((rd_T46 l0_0 x8_1).f0),.string (⟨#[]⟩ : ByteArray),.int .i64 0]) ?_ 1 _ rfl;refine zT0 ?_;refine blk_put (cs:=#[.string (⟨#[]⟩ : ByteArray),.string (⟨#[]⟩ : ByteArray),.int .i64 0]) ?_ 0 _ rfl;exact zK0 BK320.out⟩
             have n2_ : Aside0 (Below w.heap.size w (((w27.setCell ⟨gb320,0,none⟩ (.string ((rd_T46 l0_0 x8_1).f0))).setCell ⟨gb320,1,none⟩ (.string ((rd_T46 l0_0 x8_1).f1))).setCell ⟨gb320,2,none⟩ (.int .i64 ((rd_T46 l0_0 x8_1).f2)))):=⟨zY0 HB.out⟩
             (try clear BK318)
             (try clear BK320)
             (try clear HB)
             generalize (((w27.setCell ⟨gb320,0,none⟩ (.string ((rd_T46 l0_0 x8_1).f0))).setCell ⟨gb320,1,none⟩ (.string ((rd_T46 l0_0 x8_1).f1))).setCell ⟨gb320,2,none⟩ (.int .i64 ((rd_T46 l0_0 x8_1).f2))) = w30 at n0_ n1_ n2_ ⊢
             have BK318:=n0_
             have BK320:=n1_
             have HB:=n2_
             clear n0_ n1_ n2_
             replace BK318:=Aside0.mk (blk_drew BK318.out)
             replace BK320:=Aside0.mk (blk_drew BK320.out)
             replace HB:=Aside0.mk (below_drew1 HB.out)
             have p323 : 0 ≤ ((ji18) : Int):=zD0
             have q323 : (ji18) < (l0_0.length : Int):=zD0
             obtain ⟨ad323,e323,hx323_0,hx323_1,hx323_2⟩:=at_T46 HR0_0.out (ji18) p323 q323
             have hw323_2:=hx323_2
             have hw323_1:=hx323_1
             have hw323_0:=hx323_0
             obtain rfl : ad319 = ad323:=(by injection e323)
             replace hx323_0:=zx0 HB hx323_0
             replace hx323_1:=zx0 HB hx323_1
             replace hx323_2:=zx0 HB hx323_2
             replace p323:=eq_true p323
             replace q323:=eq_true q323
             refine start_ (n:=36) (S:=fun w' => w'.cell? ⟨gb320,0,none⟩ = some (.string ((rd_T46 l0_0 x8_1).f0)) ∧ w'.cell? ⟨gb320,1,none⟩ = some (.string ((rd_T46 l0_0 x8_1).f1)) ∧ w'.cell? ⟨gb320,2,none⟩ = some (.int .i64 ((rd_T46 l0_0 x8_1).f2)) ∧ w'.cell? ⟨gb318,0,none⟩ = some (.slice (some ad319) l0_0.length c0_0) ∧ w'.cell? (ad319.add (((ji18)).toNat * 3)) = some (.string ((rd_T46 l0_0 (ji18)).f0)) ∧ w'.cell? ⟨(ad319.add (((ji18)).toNat * 3)).block,(ad319.add (((ji18)).toNat * 3)).off + 1,none⟩ = some (.string ((rd_T46 l0_0 (ji18)).f1)) ∧ w'.cell? ⟨(ad319.add (((ji18)).toNat * 3)).block,(ad319.add (((ji18)).toNat * 3)).off + 2,none⟩ = some (.int .i64 ((rd_T46 l0_0 (ji18)).f2))) (ds:=[]) (zF0 36 0) (by kernel_rfl) rfl rfl ⟨zc00 BK320,zc01 BK320,zc02 BK320,zc00 BK318,(zx0 HB hw323_0 :),(zx0 HB hw323_1 :),(zx0 HB hw323_2 :)⟩ (fun hHeld => ?_);refine with_tabW impl_DiskOk.tab4 impl_DiskOk.bits4 (fun HT_ HW_ => ?_)
             generalize w30.drew = w31 at BK318 BK320 HB hx323_0 hx323_1 hx323_2 hHeld ⊢
             refine zp0 0 13 36 1 HT_ ?_
             refine zt0 1 14 36 3 HT_ HW_ hHeld ?_
             refine zp0 2 15 36 7 HT_ ?_
             refine one_ (i:=3) (N:=some 16) (zF0 36 15) rfl rfl (one_of HT_.out (by kernel_rfl)) (by decide) (fun K hK => ?_)
             refine goes_ Tryz.func38 (by kernel_rfl) rfl #[.int .i64 (((rd_T46 l0_0 x8_1).f0).size : Int),.int .i64 1,.int .i64 8] (by rfl) rfl rfl zM0 ?_
             with_reducible refine (impl_within.calls (((rd_T46 l0_0 x8_1).f0).size : Int) 1 8 true _ A7.out).mono ?_
             rintro e w' ⟨rfl,⟨nd,rfl⟩⟩
             refine ⟨_,rfl,?_⟩
             refine hK.out _ _ ⟨zc00 BK320,zc01 BK320,zc02 BK320,zc00 BK318,(zx0 HB hw323_0 :),(zx0 HB hw323_1 :),(zx0 HB hw323_2 :)⟩ (fun hHeld => ?_)
             clear hK K
             refine norm_ (a':=?_) ?_ ?_;rotate_left
             ·show Act.put _ (some 16) _ = _;simp only [Act.put,qA0,qB0,qC0,i64_w,i32_w];rfl
             refine zp0 4 17 36 31 HT_ ?_
             refine zp0 5 18 36 63 HT_ ?_
             refine zp0 6 19 36 127 HT_ ?_
             refine zt0 7 20 36 255 HT_ HW_ hHeld ?_
             refine zp0 8 21 36 511 HT_ ?_
             refine zp0 9 22 36 1023 HT_ ?_
             refine zp0 10 23 36 2047 HT_ ?_
             refine zp0 11 24 36 4095 HT_ ?_
             refine zp0 12 25 36 8191 HT_ ?_
             refine zp0 14 27 36 24575 HT_ ?_
             refine zt0 13 26 36 32767 HT_ HW_ hHeld ?_
             refine zt0 15 28 36 65535 HT_ HW_ hHeld ?_
             refine zp0 16 29 36 131071 HT_ ?_
             refine one_ (i:=17) (N:=some 30) (zF0 36 262143) rfl rfl (one_of HT_.out (by kernel_rfl)) (by decide) (fun K hK => ?_)
             refine goes_ Tryz.func38 (by kernel_rfl) rfl #[.int .i64 ((rd_T46 l0_0 x8_1).f2),.int .i64 0,.int .i64 (((rd_T46 l0_0 x8_1).f1).size : Int)] (by rfl) rfl rfl zM0 ?_
             with_reducible refine (impl_within.calls ((rd_T46 l0_0 x8_1).f2) 0 (((rd_T46 l0_0 x8_1).f1).size : Int) true _ A15.out).mono ?_
             rintro e w' ⟨rfl,⟨nd,rfl⟩⟩
             refine ⟨_,rfl,?_⟩
             refine hK.out _ _ ⟨zc00 BK320,zc01 BK320,zc02 BK320,zc00 BK318,(zx0 HB hw323_0 :),(zx0 HB hw323_1 :),(zx0 HB hw323_2 :)⟩ (fun hHeld => ?_)
             clear hK K
             refine norm_ (a':=?_) ?_ ?_;rotate_left
             ·show Act.put _ (some 30) _ = _;simp only [Act.put,qA0,qB0,qC0,i64_w,i32_w];rfl
             refine zp0 18 31 36 524287 HT_ ?_
             refine zp0 19 32 36 1048575 HT_ ?_
             refine zp0 20 33 36 2097151 HT_ ?_
             refine zp0 21 34 36 4194303 HT_ ?_
             refine zp0 22 35 36 8388607 HT_ ?_
             refine zp0 23 36 36 16777215 HT_ ?_
             refine zp0 24 37 36 33554431 HT_ ?_
             refine zp0 26 39 36 100663295 HT_ ?_
             refine zp0 27 40 36 234881023 HT_ ?_
             refine zp0 31 44 36 2382364671 HT_ ?_
             refine zt0 25 38 36 2415919103 HT_ HW_ hHeld ?_
             refine zp0 28 41 36 2684354559 HT_ ?_
             refine zp0 29 42 36 3221225471 HT_ ?_
             refine zt0 30 43 36 4294967295 HT_ HW_ hHeld ?_
             refine zt0 32 45 36 8589934591 HT_ HW_ hHeld ?_
             refine zp0 33 46 36 17179869183 HT_ ?_
             refine zp0 34 47 36 34359738367 HT_ ?_
             refine zp0 35 48 36 68719476735 HT_ ?_
             refine done_ (done_of HT_.out (by kernel_rfl)) ?_
             try go_wp2
             go_ret
             exact ⟨by first | rfl | (simp [errW_none,errW_some] <;> rfl) | (simp only [← hji18];first | rfl | (simp [errW_none,errW_some] <;> rfl)) | (simp [*,errW_none,errW_some] <;> rfl),(zY0 HB.out)⟩
           ·rw [if_neg c20] at H
            exact absurd H (by simp)
          ·rw [if_neg c19] at H
           exact absurd H (by simp)
         ·rw [if_neg c17] at H
          have c17b0 : decide (0 < x8_1) = false:=decide_eq_false c17
          clear c17
          have H':=Aside0.mk H
          clear H
          have p319 : 0 ≤ (x8_1 : Int):=zD0
          have q319 : x8_1 < (l0_0.length : Int):=zD0
          obtain ⟨ad319,e319,hx319_0,hx319_1,hx319_2⟩:=at_T46 HR0_0.out x8_1 p319 q319
          cases e319
          replace hx319_0:=zx0 HB hx319_0
          replace hx319_1:=zx0 HB hx319_1
          replace hx319_2:=zx0 HB hx319_2
          replace p319:=eq_true p319
          replace q319:=eq_true q319
          try go_wp2_with (first | ((with_reducible refine gate_dst (N:=4) rfl ?_);(try (refine gate_guard (by rfl) ?_;dsimp only));refine zy0 (cs:=#[.string (⟨#[]⟩ : ByteArray),.string (⟨#[]⟩ : ByteArray),.int .i64 0]) (t:=46) ?_;intro gb320 hg w32 hbox hb;have BK320:=Aside0.mk hbox;have GW320:=zz0 hg HB;have GE320:=zz0 hg HB;replace HB:=zs0 HB hb;have NB318_320:=zl0 hg BK318;have NB320_318:=zg0 hg BK318;replace BK318:=zb0 BK318 hb;clear hb hbox hg;obtain ⟨_,_⟩:=zn0 NB320_318;obtain ⟨_,_,_,_,_,_⟩:=zd03 BK320))
          have n0_ : Aside0 ((((w32.setCell ⟨gb320,0,none⟩ (.string ((rd_T46 l0_0 x8_1).f0))).setCell ⟨gb320,1,none⟩ (.string ((rd_T46 l0_0 x8_1).f1))).setCell ⟨gb320,2,none⟩ (.int .i64 ((rd_T46 l0_0 x8_1).f2))).heap[gb318]? = some (.cells #[.slice (some ad319) l0_0.length c0_0] 31 (0,0))):=⟨zK0 BK318.out⟩
          have n1_ : Aside0 ((((w32.setCell ⟨gb320,0,none⟩ (.string ((rd_T46 l0_0 x8_1).f0))).setCell ⟨gb320,1,none⟩ (.string ((rd_T46 l0_0 x8_1).f1))).setCell ⟨gb320,2,none⟩ (.int .i64 ((rd_T46 l0_0 x8_1).f2))).heap[gb320]? = some (.cells #[.string ((rd_T46 l0_0 x8_1).f0),.string ((rd_T46 l0_0 x8_1).f1),.int .i64 ((rd_T46 l0_0 x8_1).f2)] 46 (0,0))):=⟨by refine zT0 ?_;refine blk_put (cs:=#[.string ((rd_T46 l0_0 x8_1).f0),.string ((rd_T46 l0_0 x8_1).f1),.int .i64 0]) ?_ 2 _ rfl;refine zT0 ?_;refine blk_put (cs:=#[.string ((rd_T46 l0_0 x8_1).f0),.string (⟨#[]⟩ : ByteArray),.int .i64 0]) ?_ 1 _ rfl;refine zT0 ?_;refine blk_put (cs:=#[.string (⟨#[]⟩ : ByteArray),.string (⟨#[]⟩ : ByteArray),.int .i64 0]) ?_ 0 _ rfl;exact zK0 BK320.out⟩
          have n2_ : Aside0 (Below w.heap.size w (((w32.setCell ⟨gb320,0,none⟩ (.string ((rd_T46 l0_0 x8_1).f0))).setCell ⟨gb320,1,none⟩ (.string ((rd_T46 l0_0 x8_1).f1))).setCell ⟨gb320,2,none⟩ (.int .i64 ((rd_T46 l0_0 x8_1).f2)))):=⟨zY0 HB.out⟩
          (try clear BK318)
          (try clear BK320)
          (try clear HB)
          generalize (((w32.setCell ⟨gb320,0,none⟩ (.string ((rd_T46 l0_0 x8_1).f0))).setCell ⟨gb320,1,none⟩ (.string ((rd_T46 l0_0 x8_1).f1))).setCell ⟨gb320,2,none⟩ (.int .i64 ((rd_T46 l0_0 x8_1).f2))) = w35 at n0_ n1_ n2_ ⊢
          have BK318:=n0_
          have BK320:=n1_
          have HB:=n2_
          clear n0_ n1_ n2_
          replace BK318:=Aside0.mk (blk_drew BK318.out)
          replace BK320:=Aside0.mk (blk_drew BK320.out)
          replace HB:=Aside0.mk (below_drew1 HB.out)
          refine start_ (n:=36) (S:=fun w' => w'.cell? ⟨gb320,0,none⟩ = some (.string ((rd_T46 l0_0 x8_1).f0)) ∧ w'.cell? ⟨gb320,1,none⟩ = some (.string ((rd_T46 l0_0 x8_1).f1)) ∧ w'.cell? ⟨gb320,2,none⟩ = some (.int .i64 ((rd_T46 l0_0 x8_1).f2))) (ds:=[]) (zF0 36 0) (by kernel_rfl) rfl rfl ⟨zc00 BK320,zc01 BK320,zc02 BK320⟩ (fun hHeld => ?_);refine with_tabW impl_DiskOk.tab4 impl_DiskOk.bits4 (fun HT_ HW_ => ?_)
          generalize w35.drew = w36 at BK318 BK320 HB hHeld ⊢
          refine zp0 0 13 36 1 HT_ ?_
          refine zt0 1 14 36 3 HT_ HW_ hHeld ?_
          refine zp0 2 15 36 7 HT_ ?_
          refine one_ (i:=3) (N:=some 16) (zF0 36 15) rfl rfl (one_of HT_.out (by kernel_rfl)) (by decide) (fun K hK => ?_)
          refine goes_ Tryz.func38 (by kernel_rfl) rfl #[.int .i64 (((rd_T46 l0_0 x8_1).f0).size : Int),.int .i64 1,.int .i64 8] (by rfl) rfl rfl zM0 ?_
          with_reducible refine (impl_within.calls (((rd_T46 l0_0 x8_1).f0).size : Int) 1 8 true _ A7.out).mono ?_
          rintro e w' ⟨rfl,⟨nd,rfl⟩⟩
          refine ⟨_,rfl,?_⟩
          refine hK.out _ _ ⟨zc00 BK320,zc01 BK320,zc02 BK320⟩ (fun hHeld => ?_)
          clear hK K
          refine norm_ (a':=?_) ?_ ?_;rotate_left
          ·show Act.put _ (some 16) _ = _;simp only [Act.put,qA0,qB0,qC0,i64_w,i32_w];rfl
          refine zp0 4 17 36 31 HT_ ?_
          refine zp0 5 18 36 63 HT_ ?_
          refine zp0 6 19 36 127 HT_ ?_
          refine zt0 7 20 36 255 HT_ HW_ hHeld ?_
          refine zp0 8 21 36 511 HT_ ?_
          refine zp0 9 22 36 1023 HT_ ?_
          refine zp0 10 23 36 2047 HT_ ?_
          refine zp0 11 24 36 4095 HT_ ?_
          refine zp0 12 25 36 8191 HT_ ?_
          refine zp0 14 27 36 24575 HT_ ?_
          refine zt0 13 26 36 32767 HT_ HW_ hHeld ?_
          refine zt0 15 28 36 65535 HT_ HW_ hHeld ?_
          refine zp0 16 29 36 131071 HT_ ?_
          refine one_ (i:=17) (N:=some 30) (zF0 36 262143) rfl rfl (one_of HT_.out (by kernel_rfl)) (by decide) (fun K hK => ?_)
          refine goes_ Tryz.func38 (by kernel_rfl) rfl #[.int .i64 ((rd_T46 l0_0 x8_1).f2),.int .i64 0,.int .i64 (((rd_T46 l0_0 x8_1).f1).size : Int)] (by rfl) rfl rfl zM0 ?_
          with_reducible refine (impl_within.calls ((rd_T46 l0_0 x8_1).f2) 0 (((rd_T46 l0_0 x8_1).f1).size : Int) true _ A15.out).mono ?_
          rintro e w' ⟨rfl,⟨nd,rfl⟩⟩
          refine ⟨_,rfl,?_⟩
          refine hK.out _ _ ⟨zc00 BK320,zc01 BK320,zc02 BK320⟩ (fun hHeld => ?_)
          clear hK K
          refine norm_ (a':=?_) ?_ ?_;rotate_left
          ·show Act.put _ (some 30) _ = _;simp only [Act.put,qA0,qB0,qC0,i64_w,i32_w];rfl
          refine zp0 18 31 36 524287 HT_ ?_
          refine zp0 19 32 36 1048575 HT_ ?_
          refine zp0 20 33 36 2097151 HT_ ?_
          refine zp0 21 34 36 4194303 HT_ ?_
          refine zp0 22 35 36 8388607 HT_ ?_
          refine zp0 23 36 36 16777215 HT_ ?_
          refine zq0 24 37 36 33554431 HT_ ?_
          refine zq0 25 38 36 67108863 HT_ ?_
          refine zq0 26 39 36 134217727 HT_ ?_
          refine zq0 27 40 36 268435455 HT_ ?_
          refine zq0 28 41 36 536870911 HT_ ?_
          refine zq0 29 42 36 1073741823 HT_ ?_
          refine zq0 30 43 36 2147483647 HT_ ?_
          refine zq0 31 44 36 4294967295 HT_ ?_
          refine zq0 32 45 36 8589934591 HT_ ?_
          refine zq0 33 46 36 17179869183 HT_ ?_
          refine zp0 34 47 36 34359738367 HT_ ?_
          refine zp0 35 48 36 68719476735 HT_ ?_
          refine done_ (done_of HT_.out (by kernel_rfl)) ?_
          try go_wp2
          go_roundg k1
          case measure => have:=HK1.out;omega
          case rel => exact ⟨(wrap64 (x8_1 + 1)),zE0,H',⟨by have:=HK1.out;omega⟩,⟨zK0 BK318.out⟩,⟨zY0 HB.out⟩⟩
        ·replace c16:=Bool.eq_false_iff.mpr c16
         subst c16
         rw [if_neg (show ¬ (false = true) by decide)] at H
         obtain rfl:=Option.some.inj H
         have p319 : 0 ≤ (x8_1 : Int):=zD0
         have q319 : x8_1 < (l0_0.length : Int):=zD0
         obtain ⟨ad319,e319,hx319_0,hx319_1,hx319_2⟩:=at_T46 HR0_0.out x8_1 p319 q319
         cases e319
         replace hx319_0:=zx0 HB hx319_0
         replace hx319_1:=zx0 HB hx319_1
         replace hx319_2:=zx0 HB hx319_2
         replace p319:=eq_true p319
         replace q319:=eq_true q319
         try go_wp2_with (first | ((with_reducible refine gate_dst (N:=4) rfl ?_);(try (refine gate_guard (by rfl) ?_;dsimp only));refine zy0 (cs:=#[.string (⟨#[]⟩ : ByteArray),.string (⟨#[]⟩ : ByteArray),.int .i64 0]) (t:=46) ?_;intro gb320 hg w37 hbox hb;have BK320:=Aside0.mk hbox;have GW320:=zz0 hg HB;have GE320:=zz0 hg HB;replace HB:=zs0 HB hb;have NB318_320:=zl0 hg BK318;have NB320_318:=zg0 hg BK318;replace BK318:=zb0 BK318 hb;clear hb hbox hg;obtain ⟨_,_⟩:=zn0 NB320_318;obtain ⟨_,_,_,_,_,_⟩:=zd03 BK320))
         have n0_ : Aside0 ((((w37.setCell ⟨gb320,0,none⟩ (.string ((rd_T46 l0_0 x8_1).f0))).setCell ⟨gb320,1,none⟩ (.string ((rd_T46 l0_0 x8_1).f1))).setCell ⟨gb320,2,none⟩ (.int .i64 ((rd_T46 l0_0 x8_1).f2))).heap[gb318]? = some (.cells #[.slice (some ad319) l0_0.length c0_0] 31 (0,0))):=⟨zK0 BK318.out⟩
         have n1_ : Aside0 ((((w37.setCell ⟨gb320,0,none⟩ (.string ((rd_T46 l0_0 x8_1).f0))).setCell ⟨gb320,1,none⟩ (.string ((rd_T46 l0_0 x8_1).f1))).setCell ⟨gb320,2,none⟩ (.int .i64 ((rd_T46 l0_0 x8_1).f2))).heap[gb320]? = some (.cells #[.string ((rd_T46 l0_0 x8_1).f0),.string ((rd_T46 l0_0 x8_1).f1),.int .i64 ((rd_T46 l0_0 x8_1).f2)] 46 (0,0))):=⟨by refine zT0 ?_;refine blk_put (cs:=#[.string ((rd_T46 l0_0 x8_1).f0),.string ((rd_T46 l0_0 x8_1).f1),.int .i64 0]) ?_ 2 _ rfl;refine zT0 ?_;refine blk_put (cs:=#[.string ((rd_T46 l0_0 x8_1).f0),.string (⟨#[]⟩ : ByteArray),.int .i64 0]) ?_ 1 _ rfl;refine zT0 ?_;refine blk_put (cs:=#[.string (⟨#[]⟩ : ByteArray),.string (⟨#[]⟩ : ByteArray),.int .i64 0]) ?_ 0 _ rfl;exact zK0 BK320.out⟩
         have n2_ : Aside0 (Below w.heap.size w (((w37.setCell ⟨gb320,0,none⟩ (.string ((rd_T46 l0_0 x8_1).f0))).setCell ⟨gb320,1,none⟩ (.string ((rd_T46 l0_0 x8_1).f1))).setCell ⟨gb320,2,none⟩ (.int .i64 ((rd_T46 l0_0 x8_1).f2)))):=⟨zY0 HB.out⟩
         (try clear BK318)
         (try clear BK320)
         (try clear HB)
         generalize (((w37.setCell ⟨gb320,0,none⟩ (.string ((rd_T46 l0_0 x8_1).f0))).setCell ⟨gb320,1,none⟩ (.string ((rd_T46 l0_0 x8_1).f1))).setCell ⟨gb320,2,none⟩ (.int .i64 ((rd_T46 l0_0 x8_1).f2))) = w40 at n0_ n1_ n2_ ⊢
         have BK318:=n0_
         have BK320:=n1_
         have HB:=n2_
         clear n0_ n1_ n2_
         replace BK318:=Aside0.mk (blk_drew BK318.out)
         replace BK320:=Aside0.mk (blk_drew BK320.out)
         replace HB:=Aside0.mk (below_drew1 HB.out)
         refine start_ (n:=36) (S:=fun w' => w'.cell? ⟨gb320,0,none⟩ = some (.string ((rd_T46 l0_0 x8_1).f0)) ∧ w'.cell? ⟨gb320,1,none⟩ = some (.string ((rd_T46 l0_0 x8_1).f1)) ∧ w'.cell? ⟨gb320,2,none⟩ = some (.int .i64 ((rd_T46 l0_0 x8_1).f2))) (ds:=[]) (zF0 36 0) (by kernel_rfl) rfl rfl ⟨zc00 BK320,zc01 BK320,zc02 BK320⟩ (fun hHeld => ?_);refine with_tabW impl_DiskOk.tab4 impl_DiskOk.bits4 (fun HT_ HW_ => ?_)
         generalize w40.drew = w41 at BK318 BK320 HB hHeld ⊢
         refine zp0 0 13 36 1 HT_ ?_
         refine zt0 1 14 36 3 HT_ HW_ hHeld ?_
         refine zp0 2 15 36 7 HT_ ?_
         refine one_ (i:=3) (N:=some 16) (zF0 36 15) rfl rfl (one_of HT_.out (by kernel_rfl)) (by decide) (fun K hK => ?_)
         refine goes_ Tryz.func38 (by kernel_rfl) rfl #[.int .i64 (((rd_T46 l0_0 x8_1).f0).size : Int),.int .i64 1,.int .i64 8] (by rfl) rfl rfl zM0 ?_
         with_reducible refine (impl_within.calls (((rd_T46 l0_0 x8_1).f0).size : Int) 1 8 true _ A7.out).mono ?_
         rintro e w' ⟨rfl,⟨nd,rfl⟩⟩
         refine ⟨_,rfl,?_⟩
         refine hK.out _ _ ⟨zc00 BK320,zc01 BK320,zc02 BK320⟩ (fun hHeld => ?_)
         clear hK K
         refine norm_ (a':=?_) ?_ ?_;rotate_left
         ·show Act.put _ (some 16) _ = _;simp only [Act.put,qA0,qB0,qC0,i64_w,i32_w];rfl
         refine zp0 4 17 36 31 HT_ ?_
         refine zp0 5 18 36 63 HT_ ?_
         refine zp0 6 19 36 127 HT_ ?_
         refine zt0 7 20 36 255 HT_ HW_ hHeld ?_
         refine zp0 8 21 36 511 HT_ ?_
         refine zp0 9 22 36 1023 HT_ ?_
         refine zp0 10 23 36 2047 HT_ ?_
         refine zp0 11 24 36 4095 HT_ ?_
         refine zp0 12 25 36 8191 HT_ ?_
         refine zp0 14 27 36 24575 HT_ ?_
         refine zt0 13 26 36 32767 HT_ HW_ hHeld ?_
         refine zt0 15 28 36 65535 HT_ HW_ hHeld ?_
         refine zp0 16 29 36 131071 HT_ ?_
         refine one_ (i:=17) (N:=some 30) (zF0 36 262143) rfl rfl (one_of HT_.out (by kernel_rfl)) (by decide) (fun K hK => ?_)
         refine goes_ Tryz.func38 (by kernel_rfl) rfl #[.int .i64 ((rd_T46 l0_0 x8_1).f2),.int .i64 0,.int .i64 (((rd_T46 l0_0 x8_1).f1).size : Int)] (by rfl) rfl rfl zM0 ?_
         with_reducible refine (impl_within.calls ((rd_T46 l0_0 x8_1).f2) 0 (((rd_T46 l0_0 x8_1).f1).size : Int) false _ A15.out).mono ?_
         rintro e w' ⟨rfl,⟨nd,rfl⟩⟩
         refine ⟨_,rfl,?_⟩
         refine hK.out _ _ ⟨zc00 BK320,zc01 BK320,zc02 BK320⟩ (fun hHeld => ?_)
         clear hK K
         refine norm_ (a':=?_) ?_ ?_;rotate_left
         ·show Act.put _ (some 30) _ = _;simp only [Act.put,qA0,qB0,qC0,i64_w,i32_w];rfl
         refine zp0 18 31 36 524287 HT_ ?_
         refine zp0 19 32 36 1048575 HT_ ?_
         refine zp0 20 33 36 2097151 HT_ ?_
         refine zq0 21 34 36 4194303 HT_ ?_
         refine zq0 22 35 36 8388607 HT_ ?_
         refine zq0 23 36 36 16777215 HT_ ?_
         refine zq0 24 37 36 33554431 HT_ ?_
         refine zq0 25 38 36 67108863 HT_ ?_
         refine zq0 26 39 36 134217727 HT_ ?_
         refine zq0 27 40 36 268435455 HT_ ?_
         refine zq0 28 41 36 536870911 HT_ ?_
         refine zq0 29 42 36 1073741823 HT_ ?_
         refine zq0 30 43 36 2147483647 HT_ ?_
         refine zq0 31 44 36 4294967295 HT_ ?_
         refine zq0 32 45 36 8589934591 HT_ ?_
         refine zq0 33 46 36 17179869183 HT_ ?_
         refine zq0 34 47 36 34359738367 HT_ ?_
         refine zp0 35 48 36 68719476735 HT_ ?_
         refine done_ (done_of HT_.out (by kernel_rfl)) ?_
         try go_wp2
         go_ret
         exact ⟨zW0,(zY0 HB.out)⟩
      ·replace c8:=Bool.eq_false_iff.mpr c8
       subst c8
       rw [if_neg (show ¬ (false = true) by decide)] at H
       obtain rfl:=Option.some.inj H
       have p319 : 0 ≤ (x8_1 : Int):=zD0
       have q319 : x8_1 < (l0_0.length : Int):=zD0
       obtain ⟨ad319,e319,hx319_0,hx319_1,hx319_2⟩:=at_T46 HR0_0.out x8_1 p319 q319
       cases e319
       replace hx319_0:=zx0 HB hx319_0
       replace hx319_1:=zx0 HB hx319_1
       replace hx319_2:=zx0 HB hx319_2
       replace p319:=eq_true p319
       replace q319:=eq_true q319
       try go_wp2_with (first | ((with_reducible refine gate_dst (N:=4) rfl ?_);(try (refine gate_guard (by rfl) ?_;dsimp only));refine zy0 (cs:=#[.string (⟨#[]⟩ : ByteArray),.string (⟨#[]⟩ : ByteArray),.int .i64 0]) (t:=46) ?_;intro gb320 hg w42 hbox hb;have BK320:=Aside0.mk hbox;have GW320:=zz0 hg HB;have GE320:=zz0 hg HB;replace HB:=zs0 HB hb;have NB318_320:=zl0 hg BK318;have NB320_318:=zg0 hg BK318;replace BK318:=zb0 BK318 hb;clear hb hbox hg;obtain ⟨_,_⟩:=zn0 NB320_318;obtain ⟨_,_,_,_,_,_⟩:=zd03 BK320))
       have n0_ : Aside0 ((((w42.setCell ⟨gb320,0,none⟩ (.string ((rd_T46 l0_0 x8_1).f0))).setCell ⟨gb320,1,none⟩ (.string ((rd_T46 l0_0 x8_1).f1))).setCell ⟨gb320,2,none⟩ (.int .i64 ((rd_T46 l0_0 x8_1).f2))).heap[gb318]? = some (.cells #[.slice (some ad319) l0_0.length c0_0] 31 (0,0))):=⟨zK0 BK318.out⟩
       have n1_ : Aside0 ((((w42.setCell ⟨gb320,0,none⟩ (.string ((rd_T46 l0_0 x8_1).f0))).setCell ⟨gb320,1,none⟩ (.string ((rd_T46 l0_0 x8_1).f1))).setCell ⟨gb320,2,none⟩ (.int .i64 ((rd_T46 l0_0 x8_1).f2))).heap[gb320]? = some (.cells #[.string ((rd_T46 l0_0 x8_1).f0),.string ((rd_T46 l0_0 x8_1).f1),.int .i64 ((rd_T46 l0_0 x8_1).f2)] 46 (0,0))):=⟨by refine zT0 ?_;refine blk_put (cs:=#[.string ((rd_T46 l0_0 x8_1).f0),.string ((rd_T46 l0_0 x8_1).f1),.int .i64 0]) ?_ 2 _ rfl;refine zT0 ?_;refine blk_put (cs:=#[.string ((rd_T46 l0_0 x8_1).f0),.string (⟨#[]⟩ : ByteArray),.int .i64 0]) ?_ 1 _ rfl;refine zT0 ?_;refine blk_put (cs:=#[.string (⟨#[]⟩ : ByteArray),.string (⟨#[]⟩ : ByteArray),.int .i64 0]) ?_ 0 _ rfl;exact zK0 BK320.out⟩
       have n2_ : Aside0 (Below w.heap.size w (((w42.setCell ⟨gb320,0,none⟩ (.string ((rd_T46 l0_0 x8_1).f0))).setCell ⟨gb320,1,none⟩ (.string ((rd_T46 l0_0 x8_1).f1))).setCell ⟨gb320,2,none⟩ (.int .i64 ((rd_T46 l0_0 x8_1).f2)))):=⟨zY0 HB.out⟩
       (try clear BK318)
       (try clear BK320)
       (try clear HB)
       generalize (((w42.setCell ⟨gb320,0,none⟩ (.string ((rd_T46 l0_0 x8_1).f0))).setCell ⟨gb320,1,none⟩ (.string ((rd_T46 l0_0 x8_1).f1))).setCell ⟨gb320,2,none⟩ (.int .i64 ((rd_T46 l0_0 x8_1).f2))) = w45 at n0_ n1_ n2_ ⊢
       have BK318:=n0_
       have BK320:=n1_
       have HB:=n2_
       clear n0_ n1_ n2_
       replace BK318:=Aside0.mk (blk_drew BK318.out)
       replace BK320:=Aside0.mk (blk_drew BK320.out)
       replace HB:=Aside0.mk (below_drew1 HB.out)
       refine start_ (n:=36) (S:=fun w' => w'.cell? ⟨gb320,0,none⟩ = some (.string ((rd_T46 l0_0 x8_1).f0)) ∧ w'.cell? ⟨gb320,1,none⟩ = some (.string ((rd_T46 l0_0 x8_1).f1)) ∧ w'.cell? ⟨gb320,2,none⟩ = some (.int .i64 ((rd_T46 l0_0 x8_1).f2))) (ds:=[]) (zF0 36 0) (by kernel_rfl) rfl rfl ⟨zc00 BK320,zc01 BK320,zc02 BK320⟩ (fun hHeld => ?_);refine with_tabW impl_DiskOk.tab4 impl_DiskOk.bits4 (fun HT_ HW_ => ?_)
       generalize w45.drew = w46 at BK318 BK320 HB hHeld ⊢
       refine zp0 0 13 36 1 HT_ ?_
       refine zt0 1 14 36 3 HT_ HW_ hHeld ?_
       refine zp0 2 15 36 7 HT_ ?_
       refine one_ (i:=3) (N:=some 16) (zF0 36 15) rfl rfl (one_of HT_.out (by kernel_rfl)) (by decide) (fun K hK => ?_)
       refine goes_ Tryz.func38 (by kernel_rfl) rfl #[.int .i64 (((rd_T46 l0_0 x8_1).f0).size : Int),.int .i64 1,.int .i64 8] (by rfl) rfl rfl zM0 ?_
       with_reducible refine (impl_within.calls (((rd_T46 l0_0 x8_1).f0).size : Int) 1 8 false _ A7.out).mono ?_
       rintro e w' ⟨rfl,⟨nd,rfl⟩⟩
       refine ⟨_,rfl,?_⟩
       refine hK.out _ _ ⟨zc00 BK320,zc01 BK320,zc02 BK320⟩ (fun hHeld => ?_)
       clear hK K
       refine norm_ (a':=?_) ?_ ?_;rotate_left
       ·show Act.put _ (some 16) _ = _;simp only [Act.put,qA0,qB0,qC0,i64_w,i32_w];rfl
       refine zp0 4 17 36 31 HT_ ?_
       refine zp0 5 18 36 63 HT_ ?_
       refine zq0 6 19 36 127 HT_ ?_
       refine zq0 7 20 36 255 HT_ ?_
       refine zq0 8 21 36 511 HT_ ?_
       refine zq0 9 22 36 1023 HT_ ?_
       refine zp0 10 23 36 2047 HT_ ?_
       refine zp0 11 24 36 4095 HT_ ?_
       refine zq0 12 25 36 8191 HT_ ?_
       refine zq0 13 26 36 16383 HT_ ?_
       refine zq0 14 27 36 32767 HT_ ?_
       refine zq0 15 28 36 65535 HT_ ?_
       refine zq0 16 29 36 131071 HT_ ?_
       refine zq0 17 30 36 262143 HT_ ?_
       refine zq0 18 31 36 524287 HT_ ?_
       refine zp0 19 32 36 1048575 HT_ ?_
       refine zp0 20 33 36 2097151 HT_ ?_
       refine zq0 21 34 36 4194303 HT_ ?_
       refine zq0 22 35 36 8388607 HT_ ?_
       refine zq0 23 36 36 16777215 HT_ ?_
       refine zq0 24 37 36 33554431 HT_ ?_
       refine zq0 25 38 36 67108863 HT_ ?_
       refine zq0 26 39 36 134217727 HT_ ?_
       refine zq0 27 40 36 268435455 HT_ ?_
       refine zq0 28 41 36 536870911 HT_ ?_
       refine zq0 29 42 36 1073741823 HT_ ?_
       refine zq0 30 43 36 2147483647 HT_ ?_
       refine zq0 31 44 36 4294967295 HT_ ?_
       refine zq0 32 45 36 8589934591 HT_ ?_
       refine zq0 33 46 36 17179869183 HT_ ?_
       refine zq0 34 47 36 34359738367 HT_ ?_
       refine zp0 35 48 36 68719476735 HT_ ?_
       refine done_ (done_of HT_.out (by kernel_rfl)) ?_
       try go_wp2
       go_ret
       exact ⟨zW0,(zY0 HB.out)⟩
     ·rw [if_neg c6] at H
      exact absurd H (by simp)
    ·rw [if_neg c5] at H
     exact absurd H (by simp)
   ·rw [if_neg c4] at H
    have c4b0 : decide (x8_1 < (l0_0.length : Int)) = false:=decide_eq_false c4
    clear c4
    obtain rfl:=Option.some.inj H
    have hcz47_0 : wr.cell? ⟨gb318,0,none⟩ = some (.slice A0_0 l0_0.length c0_0):=zc00 BK318
    have hfz47_0:=blk_frozen BK318.out 0
    go_wp2
    go_ret
    exact ⟨zW0,(zY0 HB.out)⟩

end Go.Proofs.YtlekhcopddajbaaGreatDoor.PFnExactSegments
