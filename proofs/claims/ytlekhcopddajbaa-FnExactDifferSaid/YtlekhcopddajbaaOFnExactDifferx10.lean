/- Walks of functions that the law FnExactDiffer reaches, turned by this session from a print of which a part did not build; what was changed is listed in wip/patches of the proofs' repo. -/
import Derived.Test.YtlekhcopddajbaaOFnExactDifferx0
import Derived.Test.YtlekhcopddajbaaOFnExactDifferx8
import Derived.Test.YtlekhcopddajbaaOFnExactDifferx9
namespace Go.Proofs.Ytlekhcopddajbaa.PFnExactDiffer
open Go.RowKit Go.Proofs.YtlekhcopddajbaaW.PrintWords Go.Proofs.YtlekhcopddajbaaW.PrintLast Go.Proofs.YtlekhcopddajbaaW.PrintMore
attribute [local go_sem] max2_int min2_int max_two min_two max_three min_three max_four min_four   -- for this text's walks alone
set_option linter.unusedVariables false
set_option linter.unusedSimpArgs false

/-! ### impl_TableOk: function 18 -/
def impl_TableOk.l0 : Nat → List (S42) → List (S42) → Int → Int → Option (Bool)
 | 0,_,_,_,_ => none
 | k + 1,x0,x5,x6,x7 => if x7 < x6 then (if 0 ≤ x7 then (if x7 < (x5.length : Int) then ((impl_keyOk.f ((rd_T42 x5 x7).f0)).bind fun t226 => (if t226 = true then ((impl_ValOk.f k ((rd_T42 x5 x7).f1.f0) ((rd_T42 x5 x7).f1.f1) ((rd_T42 x5 x7).f1.f2) ((rd_T42 x5 x7).f1.f3)).bind fun t227 => (if t227 = true then (if x7 > 0 then (if 0 ≤ (wrap64 (x7 - 1)) then (if (wrap64 (x7 - 1)) < (x0.length : Int) then (if ((Op.bytesLess (((rd_T42 x0 (wrap64 (x7 - 1))).f0).toList) (((rd_T42 x5 x7).f0).toList)) = true) then (impl_TableOk.l0 k x0 x5 x6 (wrap64 (x7 + 1))) else (some false)) else (none)) else (none)) else (impl_TableOk.l0 k x0 x5 x6 (wrap64 (x7 + 1)))) else (some false))) else (some false))) else (none)) else (none)) else (some (decide ((x0.length : Int) ≤ 20)))
def impl_TableOk.f (k : Nat) (l0 : List (S42)) : Option (Bool):=impl_TableOk.l0 k l0 l0 (l0.length : Int) 0
theorem impl_TableOk.mono_l : ∀ k,(∀ y0 y1 y2 y3,LeO (impl_TableOk.l0 k y0 y1 y2 y3) (impl_TableOk.l0 (k + 1) y0 y1 y2 y3))
 | 0 => fun _ _ _ _ r h => by simp [impl_TableOk.l0] at h
 | k + 1 => by
  have ih0:=impl_TableOk.mono_l k
  ·intro y0 y1 y2 y3
   unfold impl_TableOk.l0
   repeat' first
   | (with_reducible exact ih0 _ _ _ _)
   | (with_reducible exact impl_ValOk.mono _ _ _ _ _)
   | (with_reducible exact LeO.refl _)
   | (with_reducible exact LeO.none _)
   | (with_reducible refine LeO.ite ?_ ?_)
   | (with_reducible refine LeO.bind ?_ (fun _ => ?_))
   | exact ih0 _ _ _ _
   | exact impl_ValOk.mono _ _ _ _ _
   | exact LeO.none _
   | refine LeO.ite ?_ ?_
   | refine LeO.bind ?_ (fun _ => ?_)
theorem impl_TableOk.mono : ∀ a0 k,LeO (impl_TableOk.f k a0) (impl_TableOk.f (k + 1) a0):=by
 intro a0 k
 have ih0:=impl_TableOk.mono_l k
 unfold impl_TableOk.f
 repeat' first
   | (with_reducible exact ih0 _ _ _ _)
   | (with_reducible exact impl_ValOk.mono _ _ _ _ _)
   | (with_reducible exact LeO.refl _)
   | (with_reducible exact LeO.none _)
   | (with_reducible refine LeO.ite ?_ ?_)
   | (with_reducible refine LeO.bind ?_ (fun _ => ?_))
   | exact ih0 _ _ _ _
   | exact impl_ValOk.mono _ _ _ _ _
   | exact LeO.none _
   | refine LeO.ite ?_ ?_
   | refine LeO.bind ?_ (fun _ => ?_)
def impl_TableOk.T4 : Bool × List (List Nat × List Nat):=(true,[([],[]),([0],[0]),([1],[1]),([2],[2]),([3,2],[3]),([4],[4]),([5,4],[4,5]),([6,4,4],[4,6]),([7,4],[4,7]),([4,8],[4,8]),([9,7],[9]),([10],[10]),([11,10],[10,11]),([12,10,10],[10,12]),([13],[13]),([13],[13]),([15,13],[13,15]),([14,16,13],[13,14,16]),([17,13],[13,17]),([18,13],[13,18]),([13],[13]),([20,13],[13,20]),([19,21,13],[13,19,21]),([13,22,10],[10,13,22]),([10,23],[10,23])])
def impl_TableOk.B4 : List Nat:=[0,1,3,7,15,31,63,127,255,511,1023,2047,4095,8191,16383,16383,49151,131071,262143,524287,16383,1064959,4194303,8388607,16777215]
theorem impl_TableOk.tab4 : rtab .any (opsOf Try.f18 4) = impl_TableOk.T4:=by kernel_rfl
theorem impl_TableOk.bits4 : waitsOk impl_TableOk.T4.2 impl_TableOk.B4 = true:=by kernel_rfl
set_option maxHeartbeats 8000000 in
set_option maxRecDepth 100000 in
theorem impl_TableOk.calls (k : Nat) (A0 : Option Addr) (c0 : Nat) (l0 : List (S42)) (r : Bool) (w : World) (hr0 : Kd.C k42 w A0 l0.length l0) (hc0 : l0.length ≤ c0) (h : impl_TableOk.f k l0 = some r) :
  Calls Try.prog 18 #[.slice A0 l0.length c0] w fun e w' => e = .returned (.bool r) ∧ Below w.heap.size w w':=by
 have hu42:=Try.underlying42
 have hu40:=Try.underlying40
 have HR0:=Aside0.mk hr0
 have HC0:=Aside0.mk hc0
 clear hr0 hc0
 have HB:=Aside0.mk (Below.refl w.heap.size w)
 have H : (impl_TableOk.l0 k l0 l0 (l0.length : Int) 0) = some r:=h
 clear h
 have H':=Aside0.mk H
 clear H
 go_enter Try.func18,Try.ntmps18
 go_wp2
 go_loopg [7] k (fun kq v7 w' => ∃ (x7_1 : Int),v7 = .int .i64 x7_1 ∧ Aside0 (impl_TableOk.l0 kq l0 l0 (l0.length : Int) x7_1 = some r) ∧ Aside0 (kq ≤ k) ∧ Aside0 (Below w.heap.size w w'))
 case atStart => exact ⟨(0),(by first | rfl | (simp;done) | (simp [*];done)),H',⟨Nat.le_refl _⟩,⟨by repeat (first | (with_reducible first | exact HB.out | apply below_alloc | apply pw_below_drewN | apply below_drew1) | exact HB.out)⟩⟩
 case round =>
  clear H'
  try clear c1
  obtain ⟨x7_1,rfl,HA,HK1,HB⟩:=hrel
  cases gk with
  | zero => exact absurd HA.out (by simp [impl_TableOk.l0])
  | succ k1 =>
   have H:=HA.out
   clear HA
   simp only [impl_TableOk.l0] at H
   by_cases c2 : x7_1 < (l0.length : Int)
   ·rw [if_pos c2] at H
    have c2b0 : decide (x7_1 < (l0.length : Int)) = true:=decide_eq_true c2
    clear c2
    by_cases c3 : 0 ≤ x7_1
    ·rw [if_pos c3] at H
     have c3b0 : decide (0 ≤ x7_1) = true:=decide_eq_true c3
     clear c3
     by_cases c4 : x7_1 < (l0.length : Int)
     ·rw [if_pos c4] at H
      have c4b0 : decide (x7_1 < (l0.length : Int)) = true:=decide_eq_true c4
      clear c4
      replace H:=Option.bind_eq_some_iff.mp H
      obtain ⟨t226,A50,H⟩:=H
      replace H : (if t226 = true then ((impl_ValOk.f k1 ((rd_T42 l0 x7_1).f1.f0) ((rd_T42 l0 x7_1).f1.f1) ((rd_T42 l0 x7_1).f1.f2) ((rd_T42 l0 x7_1).f1.f3)).bind fun t227 => (if t227 = true then (if x7_1 > 0 then (if 0 ≤ (wrap64 (x7_1 - 1)) then (if (wrap64 (x7_1 - 1)) < (l0.length : Int) then (if ((Op.bytesLess (((rd_T42 l0 (wrap64 (x7_1 - 1))).f0).toList) (((rd_T42 l0 x7_1).f0).toList)) = true) then (impl_TableOk.l0 k1 l0 l0 (l0.length : Int) (wrap64 (x7_1 + 1))) else (some false)) else (none)) else (none)) else (impl_TableOk.l0 k1 l0 l0 (l0.length : Int) (wrap64 (x7_1 + 1)))) else (some false))) else (some false)) = some r:=H
      have A5:=Aside0.mk A50
      clear A50
      by_cases c6 : t226 = true
      ·subst c6
       have H1 : ((impl_ValOk.f k1 ((rd_T42 l0 x7_1).f1.f0) ((rd_T42 l0 x7_1).f1.f1) ((rd_T42 l0 x7_1).f1.f2) ((rd_T42 l0 x7_1).f1.f3)).bind fun t227 => (if t227 = true then (if x7_1 > 0 then (if 0 ≤ (wrap64 (x7_1 - 1)) then (if (wrap64 (x7_1 - 1)) < (l0.length : Int) then (if ((Op.bytesLess (((rd_T42 l0 (wrap64 (x7_1 - 1))).f0).toList) (((rd_T42 l0 x7_1).f0).toList)) = true) then (impl_TableOk.l0 k1 l0 l0 (l0.length : Int) (wrap64 (x7_1 + 1))) else (some false)) else (none)) else (none)) else (impl_TableOk.l0 k1 l0 l0 (l0.length : Int) (wrap64 (x7_1 + 1)))) else (some false))) = some r:=by rw [if_pos rfl] at H;exact H
       clear H
       have H:=H1
       clear H1
       replace H:=Option.bind_eq_some_iff.mp H
       obtain ⟨t227,A70,H⟩:=H
       replace H : (if t227 = true then (if x7_1 > 0 then (if 0 ≤ (wrap64 (x7_1 - 1)) then (if (wrap64 (x7_1 - 1)) < (l0.length : Int) then (if ((Op.bytesLess (((rd_T42 l0 (wrap64 (x7_1 - 1))).f0).toList) (((rd_T42 l0 x7_1).f0).toList)) = true) then (impl_TableOk.l0 k1 l0 l0 (l0.length : Int) (wrap64 (x7_1 + 1))) else (some false)) else (none)) else (none)) else (impl_TableOk.l0 k1 l0 l0 (l0.length : Int) (wrap64 (x7_1 + 1)))) else (some false)) = some r:=H
       have A7:=Aside0.mk A70
       clear A70
       by_cases c8 : t227 = true
       ·subst c8
        have H1 : (if x7_1 > 0 then (if 0 ≤ (wrap64 (x7_1 - 1)) then (if (wrap64 (x7_1 - 1)) < (l0.length : Int) then (if ((Op.bytesLess (((rd_T42 l0 (wrap64 (x7_1 - 1))).f0).toList) (((rd_T42 l0 x7_1).f0).toList)) = true) then (impl_TableOk.l0 k1 l0 l0 (l0.length : Int) (wrap64 (x7_1 + 1))) else (some false)) else (none)) else (none)) else (impl_TableOk.l0 k1 l0 l0 (l0.length : Int) (wrap64 (x7_1 + 1)))) = some r:=by rw [if_pos rfl] at H;exact H
        clear H
        have H:=H1
        clear H1
        by_cases c9 : x7_1 > 0
        ·rw [if_pos c9] at H
         have c9b0 : decide (0 < x7_1) = true:=decide_eq_true c9
         clear c9
         obtain ⟨ji10,hji10⟩ : ∃ j_ : Int,(wrap64 (x7_1 - 1)) = j_:=⟨_,rfl⟩
         replace H : (if 0 ≤ (ji10) then (if (ji10) < (l0.length : Int) then (if ((Op.bytesLess (((rd_T42 l0 (ji10)).f0).toList) (((rd_T42 l0 x7_1).f0).toList)) = true) then (impl_TableOk.l0 k1 l0 l0 (l0.length : Int) (wrap64 (x7_1 + 1))) else (some false)) else (none)) else (none)) = some r:=by first | (rw [hji10] at H;exact H) | (simp only [hji10] at H ⊢;exact H)
         (try rw [hji10] at A5)
         (try rw [hji10] at A7)
         have hji10w : (IntKind.i64.wrap (x7_1 - 1)) = ji10:=(i64_w _).trans hji10
         by_cases c11 : 0 ≤ (ji10)
         ·rw [if_pos c11] at H
          have c11b0 : decide (0 ≤ (ji10)) = true:=decide_eq_true c11
          clear c11
          by_cases c12 : (ji10) < (l0.length : Int)
          ·rw [if_pos c12] at H
           have c12b0 : decide ((ji10) < (l0.length : Int)) = true:=decide_eq_true c12
           clear c12
           by_cases c13 : ((Op.bytesLess (((rd_T42 l0 (ji10)).f0).toList) (((rd_T42 l0 x7_1).f0).toList)) = true)
           ·rw [if_pos c13] at H
            have c13b0 : (Op.bytesLess (((rd_T42 l0 (ji10)).f0).toList) (((rd_T42 l0 x7_1).f0).toList)) = true:=c13
            clear c13
            have H':=Aside0.mk H
            clear H
            have p224 : 0 ≤ (x7_1 : Int):=of_decide_eq_true (by first | (with_reducible assumption) | assumption)
            have q224 : x7_1 < (l0.length : Int):=of_decide_eq_true (by first | (with_reducible assumption) | assumption)
            obtain ⟨ad224,A224_4,c224_4,e224,hx224_0,hx224_1,hx224_2,hx224_3,hx224_4,hl224_4,hi224_4⟩:=at_T42 HR0.out x7_1 p224 q224
            cases e224
            replace hx224_0:=(HB.out.cell (World.block_lt_of_cell? w _ hx224_0)).trans hx224_0
            replace hx224_1:=(HB.out.cell (World.block_lt_of_cell? w _ hx224_1)).trans hx224_1
            replace hx224_2:=(HB.out.cell (World.block_lt_of_cell? w _ hx224_2)).trans hx224_2
            replace hx224_3:=(HB.out.cell (World.block_lt_of_cell? w _ hx224_3)).trans hx224_3
            replace hx224_4:=(HB.out.cell (World.block_lt_of_cell? w _ hx224_4)).trans hx224_4
            have HR224_4:=Aside0.mk hi224_4
            have HC224_4:=Aside0.mk hl224_4
            clear hi224_4 hl224_4
            replace p224:=eq_true p224
            replace q224:=eq_true q224
            try go_wp2_with (first | ((with_reducible refine gate_dst (N:=4) rfl ?_);refine box_event ?hg (N:=4) ?hd (cs:=#[.string (⟨#[]⟩ : ByteArray),.int .i64 0,.int .i64 0,.string (⟨#[]⟩ : ByteArray),.slice none 0 0]) (t:=42) ?hr ?_;(case hd => rfl);(case hg => rfl);(case hr => first | (go_simp;done) | (go_simp;rfl));intro gb225 hg w14 hbox hb;have n0_:=Aside0.mk (zS0 HB.out hb);have n1_:=Aside0.mk (hbox);have n2_:=Aside0.mk ((by rw [hg];exact (zZ0 HB.out) : w.heap.size ≤ gb225));have n3_:=Aside0.mk ((by rw [hg];exact (zZ0 HB.out) : w.heap.size ≤ gb225));clear HB;have HB:=n0_;have BK225:=n1_;have GW225:=n2_;have GE225:=n3_;clear n0_ n1_ n2_ n3_;clear hb hbox hg;have hcz15_0 : w14.cell? ⟨gb225,0,none⟩ = some (.string (⟨#[]⟩ : ByteArray)):=(blk_cell BK225.out 0).trans rfl;have hcz15_1 : w14.cell? ⟨gb225,1,none⟩ = some (.int .i64 0):=(blk_cell BK225.out 1).trans rfl;have hcz15_2 : w14.cell? ⟨gb225,2,none⟩ = some (.int .i64 0):=(blk_cell BK225.out 2).trans rfl;have hcz15_3 : w14.cell? ⟨gb225,3,none⟩ = some (.string (⟨#[]⟩ : ByteArray)):=(blk_cell BK225.out 3).trans rfl;have hcz15_4 : w14.cell? ⟨gb225,4,none⟩ = some (.slice none 0 0):=(blk_cell BK225.out 4).trans rfl;have hfz15_0:=blk_frozen BK225.out 0;have hfz15_1:=blk_frozen BK225.out 1;have hfz15_2:=blk_frozen BK225.out 2;have hfz15_3:=blk_frozen BK225.out 3;have hfz15_4:=blk_frozen BK225.out 4))
            have n0_ : Aside0 ((((((w14.setCell ⟨gb225,0,none⟩ (.string ((rd_T42 l0 x7_1).f0))).setCell ⟨gb225,1,none⟩ (.int .i64 ((rd_T42 l0 x7_1).f1.f0))).setCell ⟨gb225,2,none⟩ (.int .i64 ((rd_T42 l0 x7_1).f1.f1))).setCell ⟨gb225,3,none⟩ (.string ((rd_T42 l0 x7_1).f1.f2))).setCell ⟨gb225,4,none⟩ (.slice A224_4 ((rd_T42 l0 x7_1).f1.f3).length c224_4)).heap[gb225]? = some (.cells #[.string ((rd_T42 l0 x7_1).f0),.int .i64 ((rd_T42 l0 x7_1).f1.f0),.int .i64 ((rd_T42 l0 x7_1).f1.f1),.string ((rd_T42 l0 x7_1).f1.f2),.slice A224_4 ((rd_T42 l0 x7_1).f1.f3).length c224_4] 42 (0,0))):=⟨by (with_reducible repeat (first | refine blk_drewN ?_ _ | refine blk_drew ?_ | refine blk_alloc ?_ _));refine blk_put (cs:=#[.string ((rd_T42 l0 x7_1).f0),.int .i64 ((rd_T42 l0 x7_1).f1.f0),.int .i64 ((rd_T42 l0 x7_1).f1.f1),.string ((rd_T42 l0 x7_1).f1.f2),.slice none 0 0]) ?_ 4 _ rfl;(with_reducible repeat (first | refine blk_drewN ?_ _ | refine blk_drew ?_ | refine blk_alloc ?_ _));refine blk_put (cs:=#[.string ((rd_T42 l0 x7_1).f0),.int .i64 ((rd_T42 l0 x7_1).f1.f0),.int .i64 ((rd_T42 l0 x7_1).f1.f1),.string (⟨#[]⟩ : ByteArray),.slice none 0 0]) ?_ 3 _ rfl;(with_reducible repeat (first | refine blk_drewN ?_ _ | refine blk_drew ?_ | refine blk_alloc ?_ _));refine blk_put (cs:=#[.string ((rd_T42 l0 x7_1).f0),.int .i64 ((rd_T42 l0 x7_1).f1.f0),.int .i64 0,.string (⟨#[]⟩ : ByteArray),.slice none 0 0]) ?_ 2 _ rfl;(with_reducible repeat (first | refine blk_drewN ?_ _ | refine blk_drew ?_ | refine blk_alloc ?_ _));refine blk_put (cs:=#[.string ((rd_T42 l0 x7_1).f0),.int .i64 0,.int .i64 0,.string (⟨#[]⟩ : ByteArray),.slice none 0 0]) ?_ 1 _ rfl;(with_reducible repeat (first | refine blk_drewN ?_ _ | refine blk_drew ?_ | refine blk_alloc ?_ _));refine blk_put (cs:=#[.string (⟨#[]⟩ : ByteArray),.int .i64 0,.int .i64 0,.string (⟨#[]⟩ : ByteArray),.slice none 0 0]) ?_ 0 _ rfl;(with_reducible repeat (first | refine blk_drewN ?_ _ | refine blk_drew ?_ | refine blk_alloc ?_ _));exact BK225.out⟩
            have n1_ : Aside0 (Below w.heap.size w (((((w14.setCell ⟨gb225,0,none⟩ (.string ((rd_T42 l0 x7_1).f0))).setCell ⟨gb225,1,none⟩ (.int .i64 ((rd_T42 l0 x7_1).f1.f0))).setCell ⟨gb225,2,none⟩ (.int .i64 ((rd_T42 l0 x7_1).f1.f1))).setCell ⟨gb225,3,none⟩ (.string ((rd_T42 l0 x7_1).f1.f2))).setCell ⟨gb225,4,none⟩ (.slice A224_4 ((rd_T42 l0 x7_1).f1.f3).length c224_4))):=⟨by repeat (first | (with_reducible first | exact HB.out | apply below_alloc | apply pw_below_drewN | apply below_drew1 | refine below_set ?_ GE225.out) | exact HB.out)⟩
            (try clear BK225)
            (try clear HB)
            generalize (((((w14.setCell ⟨gb225,0,none⟩ (.string ((rd_T42 l0 x7_1).f0))).setCell ⟨gb225,1,none⟩ (.int .i64 ((rd_T42 l0 x7_1).f1.f0))).setCell ⟨gb225,2,none⟩ (.int .i64 ((rd_T42 l0 x7_1).f1.f1))).setCell ⟨gb225,3,none⟩ (.string ((rd_T42 l0 x7_1).f1.f2))).setCell ⟨gb225,4,none⟩ (.slice A224_4 ((rd_T42 l0 x7_1).f1.f3).length c224_4)) = w16 at n0_ n1_ ⊢
            have BK225:=n0_
            have HB:=n1_
            clear n0_ n1_
            have n0_:=Aside0.mk (blk_drew BK225.out)
            have n1_:=Aside0.mk (below_drew1 HB.out)
            clear BK225
            clear HB
            have BK225:=n0_
            have HB:=n1_
            clear n0_ n1_
            have p228 : 0 ≤ ((ji10) : Int):=of_decide_eq_true (by first | (with_reducible assumption) | assumption)
            have q228 : (ji10) < (l0.length : Int):=of_decide_eq_true (by first | (with_reducible assumption) | assumption)
            obtain ⟨ad228,A228_4,c228_4,e228,hx228_0,hx228_1,hx228_2,hx228_3,hx228_4,hl228_4,hi228_4⟩:=at_T42 HR0.out (ji10) p228 q228
            have hw228_4:=hx228_4
            have hw228_3:=hx228_3
            have hw228_2:=hx228_2
            have hw228_1:=hx228_1
            have hw228_0:=hx228_0
            obtain rfl : ad224 = ad228:=(by injection e228)
            replace hx228_0:=(HB.out.cell (World.block_lt_of_cell? w _ hx228_0)).trans hx228_0
            replace hx228_1:=(HB.out.cell (World.block_lt_of_cell? w _ hx228_1)).trans hx228_1
            replace hx228_2:=(HB.out.cell (World.block_lt_of_cell? w _ hx228_2)).trans hx228_2
            replace hx228_3:=(HB.out.cell (World.block_lt_of_cell? w _ hx228_3)).trans hx228_3
            replace hx228_4:=(HB.out.cell (World.block_lt_of_cell? w _ hx228_4)).trans hx228_4
            have HR228_4:=Aside0.mk hi228_4
            have HC228_4:=Aside0.mk hl228_4
            clear hi228_4 hl228_4
            replace p228:=eq_true p228
            replace q228:=eq_true q228
            refine start_ (n:=25) (S:=fun w' => w'.cell? ⟨gb225,0,none⟩ = some (.string ((rd_T42 l0 x7_1).f0)) ∧ w'.cell? ⟨gb225,1,none⟩ = some (.int .i64 ((rd_T42 l0 x7_1).f1.f0)) ∧ w'.cell? ⟨gb225,2,none⟩ = some (.int .i64 ((rd_T42 l0 x7_1).f1.f1)) ∧ w'.cell? ⟨gb225,3,none⟩ = some (.string ((rd_T42 l0 x7_1).f1.f2)) ∧ w'.cell? ⟨gb225,4,none⟩ = some (.slice A224_4 ((rd_T42 l0 x7_1).f1.f3).length c224_4) ∧ w'.cell? (ad224.add (((ji10)).toNat * 5)) = some (.string ((rd_T42 l0 (ji10)).f0)) ∧ w'.cell? ⟨(ad224.add (((ji10)).toNat * 5)).block,(ad224.add (((ji10)).toNat * 5)).off + 1,none⟩ = some (.int .i64 ((rd_T42 l0 (ji10)).f1.f0)) ∧ w'.cell? ⟨(ad224.add (((ji10)).toNat * 5)).block,(ad224.add (((ji10)).toNat * 5)).off + 2,none⟩ = some (.int .i64 ((rd_T42 l0 (ji10)).f1.f1)) ∧ w'.cell? ⟨(ad224.add (((ji10)).toNat * 5)).block,(ad224.add (((ji10)).toNat * 5)).off + 3,none⟩ = some (.string ((rd_T42 l0 (ji10)).f1.f2)) ∧ w'.cell? ⟨(ad224.add (((ji10)).toNat * 5)).block,(ad224.add (((ji10)).toNat * 5)).off + 4,none⟩ = some (.slice A228_4 ((rd_T42 l0 (ji10)).f1.f3).length c228_4)) (ds:=[]) (zF0 25 0) (by kernel_rfl) rfl rfl ⟨(blk_cell BK225.out 0).trans rfl,(blk_cell BK225.out 1).trans rfl,(blk_cell BK225.out 2).trans rfl,(blk_cell BK225.out 3).trans rfl,(blk_cell BK225.out 4).trans rfl,((HB.out.cell (World.block_lt_of_cell? w _ hw228_0)).trans hw228_0),((HB.out.cell (World.block_lt_of_cell? w _ hw228_1)).trans hw228_1),((HB.out.cell (World.block_lt_of_cell? w _ hw228_2)).trans hw228_2),((HB.out.cell (World.block_lt_of_cell? w _ hw228_3)).trans hw228_3),((HB.out.cell (World.block_lt_of_cell? w _ hw228_4)).trans hw228_4)⟩ (fun hHeld => ?_);refine with_tabW impl_TableOk.tab4 impl_TableOk.bits4 (fun HT_ HW_ => ?_)
            generalize w16.drew = w17 at BK225 HB HR228_4 hx228_0 hx228_1 hx228_2 hx228_3 hx228_4 hHeld ⊢
            refine zP0 (i:=0) (N:=some 12) (zF0 25 1) rfl rfl HT_.out ?_
            refine take_ (i:=1) (N:=some 13) (v:=?_) (a':=?_) (zF0 25 3) rfl rfl (take_ofW HT_.out HW_.out (by kernel_rfl)) (fun _ _ _ h => h) (Or.inl ⟨by rfl,?_⟩) hHeld ?_ ?_;rotate_left
            ·rintro w' ⟨s0,s1,s2,s3,s4,s5,s6,s7,s8,s9⟩
             go_simp
             with_reducible rfl
            rotate_left
            ·simp only [Act.put,qA0,qB0,qC0,i64_w,i32_w];rfl
            refine one_ (i:=2) (N:=some 14) (zF0 25 7) rfl rfl (one_of HT_.out (by kernel_rfl)) (by decide) (fun K hK => ?_)
            refine goes_ Try.func35 (by kernel_rfl) rfl #[.string ((rd_T42 l0 x7_1).f0)] (by rfl) rfl rfl zM0 ?_
            with_reducible refine (impl_keyOk.calls ((rd_T42 l0 x7_1).f0) true _ A5.out).mono ?_
            rintro e w' ⟨rfl,⟨nd,rfl⟩⟩
            refine ⟨_,rfl,?_⟩
            refine hK.out _ _ ⟨(blk_cell BK225.out 0).trans rfl,(blk_cell BK225.out 1).trans rfl,(blk_cell BK225.out 2).trans rfl,(blk_cell BK225.out 3).trans rfl,(blk_cell BK225.out 4).trans rfl,((HB.out.cell (World.block_lt_of_cell? w _ hw228_0)).trans hw228_0),((HB.out.cell (World.block_lt_of_cell? w _ hw228_1)).trans hw228_1),((HB.out.cell (World.block_lt_of_cell? w _ hw228_2)).trans hw228_2),((HB.out.cell (World.block_lt_of_cell? w _ hw228_3)).trans hw228_3),((HB.out.cell (World.block_lt_of_cell? w _ hw228_4)).trans hw228_4)⟩ (fun hHeld => ?_)
            clear hK K
            refine norm_ (a':=?_) ?_ ?_;rotate_left
            ·show Act.put _ (some 14) _ = _;simp only [Act.put,qA0,qB0,qC0,i64_w,i32_w];rfl
            refine zP0 (i:=3) (N:=some 15) (zF0 25 15) rfl rfl HT_.out ?_
            refine zP0 (i:=4) (N:=some 16) (zF0 25 31) rfl rfl HT_.out ?_
            refine zP0 (i:=5) (N:=some 17) (zF0 25 63) rfl rfl HT_.out ?_
            refine take_ (i:=6) (N:=some 18) (v:=?_) (a':=?_) (zF0 25 127) rfl rfl (take_ofW HT_.out HW_.out (by kernel_rfl)) (fun _ _ _ h => h) (Or.inl ⟨by rfl,?_⟩) hHeld ?_ ?_;rotate_left
            ·rintro w' ⟨s0,s1,s2,s3,s4,s5,s6,s7,s8,s9⟩
             go_simp
             with_reducible rfl
            rotate_left
            ·simp only [Act.put,qA0,qB0,qC0,i64_w,i32_w];rfl
            refine one_ (i:=7) (N:=some 19) (zF0 25 255) rfl rfl (one_of HT_.out (by kernel_rfl)) (by decide) (fun K hK => ?_)
            refine goes_ Try.func36 (by kernel_rfl) rfl #[.agg #[.int .i64 ((rd_T42 l0 x7_1).f1.f0),.int .i64 ((rd_T42 l0 x7_1).f1.f1),.string ((rd_T42 l0 x7_1).f1.f2),.slice A224_4 ((rd_T42 l0 x7_1).f1.f3).length c224_4]] (by rfl) rfl rfl zM0 ?_
            with_reducible refine (impl_ValOk.calls k1 ((rd_T42 l0 x7_1).f1.f0) ((rd_T42 l0 x7_1).f1.f1) ((rd_T42 l0 x7_1).f1.f2) _ _ ((rd_T42 l0 x7_1).f1.f3) true _ ?side1 ?side2 A7.out).mono ?_
            (case side1 => repeat (first | exact (Kd.C_below HR224_4.out (by repeat (first | (with_reducible first | exact HB.out | apply below_alloc | apply pw_below_drewN | apply below_drew1 | refine below_set ?_ GE225.out) | exact HB.out))) | (with_reducible refine Kd.C_alloc ?_ _) | (with_reducible refine Kd.C_drewN ?_ _) | (with_reducible refine Kd.C_drew ?_)))
            (case side2 => exact HC224_4.out)
            rintro e w18 ⟨rfl,hb⟩
            refine ⟨_,rfl,?_⟩
            have n0_:=Aside0.mk (zB0 BK225.out hb)
            have n1_:=Aside0.mk (zS0 HB.out hb)
            clear BK225
            clear HB
            have BK225:=n0_
            have HB:=n1_
            clear n0_ n1_
            (try clear hb)
            (try clear hb2)
            (try clear hk)
            (try clear hi)
            refine hK.out _ _ ⟨(blk_cell BK225.out 0).trans rfl,(blk_cell BK225.out 1).trans rfl,(blk_cell BK225.out 2).trans rfl,(blk_cell BK225.out 3).trans rfl,(blk_cell BK225.out 4).trans rfl,((HB.out.cell (World.block_lt_of_cell? w _ hw228_0)).trans hw228_0),((HB.out.cell (World.block_lt_of_cell? w _ hw228_1)).trans hw228_1),((HB.out.cell (World.block_lt_of_cell? w _ hw228_2)).trans hw228_2),((HB.out.cell (World.block_lt_of_cell? w _ hw228_3)).trans hw228_3),((HB.out.cell (World.block_lt_of_cell? w _ hw228_4)).trans hw228_4)⟩ (fun hHeld => ?_)
            clear hK K
            refine norm_ (a':=?_) ?_ ?_;rotate_left
            ·show Act.put _ (some 19) _ = _;simp only [Act.put,qA0,qB0,qC0,i64_w,i32_w];rfl
            refine zP0 (i:=8) (N:=some 20) (zF0 25 511) rfl rfl HT_.out ?_
            refine zP0 (i:=9) (N:=some 21) (zF0 25 1023) rfl rfl HT_.out ?_
            refine zP0 (i:=10) (N:=some 22) (zF0 25 2047) rfl rfl HT_.out ?_
            refine zP0 (i:=11) (N:=some 23) (zF0 25 4095) rfl rfl HT_.out ?_
            refine zP0 (i:=12) (N:=some 24) (zF0 25 8191) rfl rfl HT_.out ?_
            refine zP0 (i:=13) (N:=some 25) (zF0 25 16383) rfl rfl HT_.out ?_
            refine zP0 (i:=14) (N:=some 26) (zF0 25 32767) rfl rfl HT_.out ?_
            refine zP0 (i:=15) (N:=some 27) (zF0 25 65535) rfl rfl HT_.out ?_
            refine zP0 (i:=16) (N:=some 28) (zF0 25 131071) rfl rfl HT_.out ?_
            refine zP0 (i:=17) (N:=some 29) (zF0 25 262143) rfl rfl HT_.out ?_
            refine zP0 (i:=18) (N:=some 30) (zF0 25 524287) rfl rfl HT_.out ?_
            refine zP0 (i:=20) (N:=some 32) (zF0 25 1572863) rfl rfl HT_.out ?_
            refine take_ (i:=19) (N:=some 31) (v:=?_) (a':=?_) (zF0 25 2097151) rfl rfl (take_ofW HT_.out HW_.out (by kernel_rfl)) (fun _ _ _ h => h) (Or.inl ⟨by rfl,?_⟩) hHeld ?_ ?_;rotate_left
            ·rintro w' ⟨s0,s1,s2,s3,s4,s5,s6,s7,s8,s9⟩
             go_simp
             with_reducible rfl
            rotate_left
            ·simp only [Act.put,qA0,qB0,qC0,i64_w,i32_w];rfl
            refine take_ (i:=21) (N:=some 33) (v:=?_) (a':=?_) (zF0 25 4194303) rfl rfl (take_ofW HT_.out HW_.out (by kernel_rfl)) (fun _ _ _ h => h) (Or.inl ⟨by rfl,?_⟩) hHeld ?_ ?_;rotate_left
            ·rintro w' ⟨s0,s1,s2,s3,s4,s5,s6,s7,s8,s9⟩
             go_simp
             with_reducible rfl
            rotate_left
            ·simp only [Act.put,qA0,qB0,qC0,i64_w,i32_w];rfl
            refine zP0 (i:=22) (N:=some 34) (zF0 25 8388607) rfl rfl HT_.out ?_
            refine zP0 (i:=23) (N:=some 35) (zF0 25 16777215) rfl rfl HT_.out ?_
            refine zP0 (i:=24) (N:=some 36) (zF0 25 33554431) rfl rfl HT_.out ?_
            refine done_ (done_of HT_.out (by kernel_rfl)) ?_
            try go_wp2
            go_roundg k1
            case measure => have:=HK1.out;omega
            case rel => exact ⟨(wrap64 (x7_1 + 1)),(by first | rfl | (simp;done) | (simp [*];done)),H',⟨by have:=HK1.out;omega⟩,⟨by repeat (first | (with_reducible first | exact HB.out | apply below_alloc | apply pw_below_drewN | apply below_drew1 | refine below_set ?_ GE225.out) | exact HB.out)⟩⟩
           ·rw [if_neg c13] at H
            have c13b0 : (Op.bytesLess (((rd_T42 l0 (ji10)).f0).toList) (((rd_T42 l0 x7_1).f0).toList)) = false:=by simpa using c13
            clear c13
            obtain rfl:=Option.some.inj H
            have p224 : 0 ≤ (x7_1 : Int):=of_decide_eq_true (by first | (with_reducible assumption) | assumption)
            have q224 : x7_1 < (l0.length : Int):=of_decide_eq_true (by first | (with_reducible assumption) | assumption)
            obtain ⟨ad224,A224_4,c224_4,e224,hx224_0,hx224_1,hx224_2,hx224_3,hx224_4,hl224_4,hi224_4⟩:=at_T42 HR0.out x7_1 p224 q224
            cases e224
            replace hx224_0:=(HB.out.cell (World.block_lt_of_cell? w _ hx224_0)).trans hx224_0
            replace hx224_1:=(HB.out.cell (World.block_lt_of_cell? w _ hx224_1)).trans hx224_1
            replace hx224_2:=(HB.out.cell (World.block_lt_of_cell? w _ hx224_2)).trans hx224_2
            replace hx224_3:=(HB.out.cell (World.block_lt_of_cell? w _ hx224_3)).trans hx224_3
            replace hx224_4:=(HB.out.cell (World.block_lt_of_cell? w _ hx224_4)).trans hx224_4
            have HR224_4:=Aside0.mk hi224_4
            have HC224_4:=Aside0.mk hl224_4
            clear hi224_4 hl224_4
            replace p224:=eq_true p224
            replace q224:=eq_true q224
            try go_wp2_with (first | ((with_reducible refine gate_dst (N:=4) rfl ?_);refine box_event ?hg (N:=4) ?hd (cs:=#[.string (⟨#[]⟩ : ByteArray),.int .i64 0,.int .i64 0,.string (⟨#[]⟩ : ByteArray),.slice none 0 0]) (t:=42) ?hr ?_;(case hd => rfl);(case hg => rfl);(case hr => first | (go_simp;done) | (go_simp;rfl));intro gb225 hg w19 hbox hb;have n0_:=Aside0.mk (zS0 HB.out hb);have n1_:=Aside0.mk (hbox);have n2_:=Aside0.mk ((by rw [hg];exact (zZ0 HB.out) : w.heap.size ≤ gb225));have n3_:=Aside0.mk ((by rw [hg];exact (zZ0 HB.out) : w.heap.size ≤ gb225));clear HB;have HB:=n0_;have BK225:=n1_;have GW225:=n2_;have GE225:=n3_;clear n0_ n1_ n2_ n3_;clear hb hbox hg;have hcz20_0 : w19.cell? ⟨gb225,0,none⟩ = some (.string (⟨#[]⟩ : ByteArray)):=(blk_cell BK225.out 0).trans rfl;have hcz20_1 : w19.cell? ⟨gb225,1,none⟩ = some (.int .i64 0):=(blk_cell BK225.out 1).trans rfl;have hcz20_2 : w19.cell? ⟨gb225,2,none⟩ = some (.int .i64 0):=(blk_cell BK225.out 2).trans rfl;have hcz20_3 : w19.cell? ⟨gb225,3,none⟩ = some (.string (⟨#[]⟩ : ByteArray)):=(blk_cell BK225.out 3).trans rfl;have hcz20_4 : w19.cell? ⟨gb225,4,none⟩ = some (.slice none 0 0):=(blk_cell BK225.out 4).trans rfl;have hfz20_0:=blk_frozen BK225.out 0;have hfz20_1:=blk_frozen BK225.out 1;have hfz20_2:=blk_frozen BK225.out 2;have hfz20_3:=blk_frozen BK225.out 3;have hfz20_4:=blk_frozen BK225.out 4))
            have n0_ : Aside0 ((((((w19.setCell ⟨gb225,0,none⟩ (.string ((rd_T42 l0 x7_1).f0))).setCell ⟨gb225,1,none⟩ (.int .i64 ((rd_T42 l0 x7_1).f1.f0))).setCell ⟨gb225,2,none⟩ (.int .i64 ((rd_T42 l0 x7_1).f1.f1))).setCell ⟨gb225,3,none⟩ (.string ((rd_T42 l0 x7_1).f1.f2))).setCell ⟨gb225,4,none⟩ (.slice A224_4 ((rd_T42 l0 x7_1).f1.f3).length c224_4)).heap[gb225]? = some (.cells #[.string ((rd_T42 l0 x7_1).f0),.int .i64 ((rd_T42 l0 x7_1).f1.f0),.int .i64 ((rd_T42 l0 x7_1).f1.f1),.string ((rd_T42 l0 x7_1).f1.f2),.slice A224_4 ((rd_T42 l0 x7_1).f1.f3).length c224_4] 42 (0,0))):=⟨by (with_reducible repeat (first | refine blk_drewN ?_ _ | refine blk_drew ?_ | refine blk_alloc ?_ _));refine blk_put (cs:=#[.string ((rd_T42 l0 x7_1).f0),.int .i64 ((rd_T42 l0 x7_1).f1.f0),.int .i64 ((rd_T42 l0 x7_1).f1.f1),.string ((rd_T42 l0 x7_1).f1.f2),.slice none 0 0]) ?_ 4 _ rfl;(with_reducible repeat (first | refine blk_drewN ?_ _ | refine blk_drew ?_ | refine blk_alloc ?_ _));refine blk_put (cs:=#[.string ((rd_T42 l0 x7_1).f0),.int .i64 ((rd_T42 l0 x7_1).f1.f0),.int .i64 ((rd_T42 l0 x7_1).f1.f1),.string (⟨#[]⟩ : ByteArray),.slice none 0 0]) ?_ 3 _ rfl;(with_reducible repeat (first | refine blk_drewN ?_ _ | refine blk_drew ?_ | refine blk_alloc ?_ _));refine blk_put (cs:=#[.string ((rd_T42 l0 x7_1).f0),.int .i64 ((rd_T42 l0 x7_1).f1.f0),.int .i64 0,.string (⟨#[]⟩ : ByteArray),.slice none 0 0]) ?_ 2 _ rfl;(with_reducible repeat (first | refine blk_drewN ?_ _ | refine blk_drew ?_ | refine blk_alloc ?_ _));refine blk_put (cs:=#[.string ((rd_T42 l0 x7_1).f0),.int .i64 0,.int .i64 0,.string (⟨#[]⟩ : ByteArray),.slice none 0 0]) ?_ 1 _ rfl;(with_reducible repeat (first | refine blk_drewN ?_ _ | refine blk_drew ?_ | refine blk_alloc ?_ _));refine blk_put (cs:=#[.string (⟨#[]⟩ : ByteArray),.int .i64 0,.int .i64 0,.string (⟨#[]⟩ : ByteArray),.slice none 0 0]) ?_ 0 _ rfl;(with_reducible repeat (first | refine blk_drewN ?_ _ | refine blk_drew ?_ | refine blk_alloc ?_ _));exact BK225.out⟩
            have n1_ : Aside0 (Below w.heap.size w (((((w19.setCell ⟨gb225,0,none⟩ (.string ((rd_T42 l0 x7_1).f0))).setCell ⟨gb225,1,none⟩ (.int .i64 ((rd_T42 l0 x7_1).f1.f0))).setCell ⟨gb225,2,none⟩ (.int .i64 ((rd_T42 l0 x7_1).f1.f1))).setCell ⟨gb225,3,none⟩ (.string ((rd_T42 l0 x7_1).f1.f2))).setCell ⟨gb225,4,none⟩ (.slice A224_4 ((rd_T42 l0 x7_1).f1.f3).length c224_4))):=⟨by repeat (first | (with_reducible first | exact HB.out | apply below_alloc | apply pw_below_drewN | apply below_drew1 | refine below_set ?_ GE225.out) | exact HB.out)⟩
            (try clear BK225)
            (try clear HB)
            generalize (((((w19.setCell ⟨gb225,0,none⟩ (.string ((rd_T42 l0 x7_1).f0))).setCell ⟨gb225,1,none⟩ (.int .i64 ((rd_T42 l0 x7_1).f1.f0))).setCell ⟨gb225,2,none⟩ (.int .i64 ((rd_T42 l0 x7_1).f1.f1))).setCell ⟨gb225,3,none⟩ (.string ((rd_T42 l0 x7_1).f1.f2))).setCell ⟨gb225,4,none⟩ (.slice A224_4 ((rd_T42 l0 x7_1).f1.f3).length c224_4)) = w21 at n0_ n1_ ⊢
            have BK225:=n0_
            have HB:=n1_
            clear n0_ n1_
            have n0_:=Aside0.mk (blk_drew BK225.out)
            have n1_:=Aside0.mk (below_drew1 HB.out)
            clear BK225
            clear HB
            have BK225:=n0_
            have HB:=n1_
            clear n0_ n1_
            have p228 : 0 ≤ ((ji10) : Int):=of_decide_eq_true (by first | (with_reducible assumption) | assumption)
            have q228 : (ji10) < (l0.length : Int):=of_decide_eq_true (by first | (with_reducible assumption) | assumption)
            obtain ⟨ad228,A228_4,c228_4,e228,hx228_0,hx228_1,hx228_2,hx228_3,hx228_4,hl228_4,hi228_4⟩:=at_T42 HR0.out (ji10) p228 q228
            have hw228_4:=hx228_4
            have hw228_3:=hx228_3
            have hw228_2:=hx228_2
            have hw228_1:=hx228_1
            have hw228_0:=hx228_0
            obtain rfl : ad224 = ad228:=(by injection e228)
            replace hx228_0:=(HB.out.cell (World.block_lt_of_cell? w _ hx228_0)).trans hx228_0
            replace hx228_1:=(HB.out.cell (World.block_lt_of_cell? w _ hx228_1)).trans hx228_1
            replace hx228_2:=(HB.out.cell (World.block_lt_of_cell? w _ hx228_2)).trans hx228_2
            replace hx228_3:=(HB.out.cell (World.block_lt_of_cell? w _ hx228_3)).trans hx228_3
            replace hx228_4:=(HB.out.cell (World.block_lt_of_cell? w _ hx228_4)).trans hx228_4
            have HR228_4:=Aside0.mk hi228_4
            have HC228_4:=Aside0.mk hl228_4
            clear hi228_4 hl228_4
            replace p228:=eq_true p228
            replace q228:=eq_true q228
            refine start_ (n:=25) (S:=fun w' => w'.cell? ⟨gb225,0,none⟩ = some (.string ((rd_T42 l0 x7_1).f0)) ∧ w'.cell? ⟨gb225,1,none⟩ = some (.int .i64 ((rd_T42 l0 x7_1).f1.f0)) ∧ w'.cell? ⟨gb225,2,none⟩ = some (.int .i64 ((rd_T42 l0 x7_1).f1.f1)) ∧ w'.cell? ⟨gb225,3,none⟩ = some (.string ((rd_T42 l0 x7_1).f1.f2)) ∧ w'.cell? ⟨gb225,4,none⟩ = some (.slice A224_4 ((rd_T42 l0 x7_1).f1.f3).length c224_4) ∧ w'.cell? (ad224.add (((ji10)).toNat * 5)) = some (.string ((rd_T42 l0 (ji10)).f0)) ∧ w'.cell? ⟨(ad224.add (((ji10)).toNat * 5)).block,(ad224.add (((ji10)).toNat * 5)).off + 1,none⟩ = some (.int .i64 ((rd_T42 l0 (ji10)).f1.f0)) ∧ w'.cell? ⟨(ad224.add (((ji10)).toNat * 5)).block,(ad224.add (((ji10)).toNat * 5)).off + 2,none⟩ = some (.int .i64 ((rd_T42 l0 (ji10)).f1.f1)) ∧ w'.cell? ⟨(ad224.add (((ji10)).toNat * 5)).block,(ad224.add (((ji10)).toNat * 5)).off + 3,none⟩ = some (.string ((rd_T42 l0 (ji10)).f1.f2)) ∧ w'.cell? ⟨(ad224.add (((ji10)).toNat * 5)).block,(ad224.add (((ji10)).toNat * 5)).off + 4,none⟩ = some (.slice A228_4 ((rd_T42 l0 (ji10)).f1.f3).length c228_4)) (ds:=[]) (zF0 25 0) (by kernel_rfl) rfl rfl ⟨(blk_cell BK225.out 0).trans rfl,(blk_cell BK225.out 1).trans rfl,(blk_cell BK225.out 2).trans rfl,(blk_cell BK225.out 3).trans rfl,(blk_cell BK225.out 4).trans rfl,((HB.out.cell (World.block_lt_of_cell? w _ hw228_0)).trans hw228_0),((HB.out.cell (World.block_lt_of_cell? w _ hw228_1)).trans hw228_1),((HB.out.cell (World.block_lt_of_cell? w _ hw228_2)).trans hw228_2),((HB.out.cell (World.block_lt_of_cell? w _ hw228_3)).trans hw228_3),((HB.out.cell (World.block_lt_of_cell? w _ hw228_4)).trans hw228_4)⟩ (fun hHeld => ?_);refine with_tabW impl_TableOk.tab4 impl_TableOk.bits4 (fun HT_ HW_ => ?_)
            generalize w21.drew = w22 at BK225 HB HR228_4 hx228_0 hx228_1 hx228_2 hx228_3 hx228_4 hHeld ⊢
            refine zP0 (i:=0) (N:=some 12) (zF0 25 1) rfl rfl HT_.out ?_
            refine take_ (i:=1) (N:=some 13) (v:=?_) (a':=?_) (zF0 25 3) rfl rfl (take_ofW HT_.out HW_.out (by kernel_rfl)) (fun _ _ _ h => h) (Or.inl ⟨by rfl,?_⟩) hHeld ?_ ?_;rotate_left
            ·rintro w' ⟨s0,s1,s2,s3,s4,s5,s6,s7,s8,s9⟩
             go_simp
             with_reducible rfl
            rotate_left
            ·simp only [Act.put,qA0,qB0,qC0,i64_w,i32_w];rfl
            refine one_ (i:=2) (N:=some 14) (zF0 25 7) rfl rfl (one_of HT_.out (by kernel_rfl)) (by decide) (fun K hK => ?_)
            refine goes_ Try.func35 (by kernel_rfl) rfl #[.string ((rd_T42 l0 x7_1).f0)] (by rfl) rfl rfl zM0 ?_
            with_reducible refine (impl_keyOk.calls ((rd_T42 l0 x7_1).f0) true _ A5.out).mono ?_
            rintro e w' ⟨rfl,⟨nd,rfl⟩⟩
            refine ⟨_,rfl,?_⟩
            refine hK.out _ _ ⟨(blk_cell BK225.out 0).trans rfl,(blk_cell BK225.out 1).trans rfl,(blk_cell BK225.out 2).trans rfl,(blk_cell BK225.out 3).trans rfl,(blk_cell BK225.out 4).trans rfl,((HB.out.cell (World.block_lt_of_cell? w _ hw228_0)).trans hw228_0),((HB.out.cell (World.block_lt_of_cell? w _ hw228_1)).trans hw228_1),((HB.out.cell (World.block_lt_of_cell? w _ hw228_2)).trans hw228_2),((HB.out.cell (World.block_lt_of_cell? w _ hw228_3)).trans hw228_3),((HB.out.cell (World.block_lt_of_cell? w _ hw228_4)).trans hw228_4)⟩ (fun hHeld => ?_)
            clear hK K
            refine norm_ (a':=?_) ?_ ?_;rotate_left
            ·show Act.put _ (some 14) _ = _;simp only [Act.put,qA0,qB0,qC0,i64_w,i32_w];rfl
            refine zP0 (i:=3) (N:=some 15) (zF0 25 15) rfl rfl HT_.out ?_
            refine zP0 (i:=4) (N:=some 16) (zF0 25 31) rfl rfl HT_.out ?_
            refine zP0 (i:=5) (N:=some 17) (zF0 25 63) rfl rfl HT_.out ?_
            refine take_ (i:=6) (N:=some 18) (v:=?_) (a':=?_) (zF0 25 127) rfl rfl (take_ofW HT_.out HW_.out (by kernel_rfl)) (fun _ _ _ h => h) (Or.inl ⟨by rfl,?_⟩) hHeld ?_ ?_;rotate_left
            ·rintro w' ⟨s0,s1,s2,s3,s4,s5,s6,s7,s8,s9⟩
             go_simp
             with_reducible rfl
            rotate_left
            ·simp only [Act.put,qA0,qB0,qC0,i64_w,i32_w];rfl
            refine one_ (i:=7) (N:=some 19) (zF0 25 255) rfl rfl (one_of HT_.out (by kernel_rfl)) (by decide) (fun K hK => ?_)
            refine goes_ Try.func36 (by kernel_rfl) rfl #[.agg #[.int .i64 ((rd_T42 l0 x7_1).f1.f0),.int .i64 ((rd_T42 l0 x7_1).f1.f1),.string ((rd_T42 l0 x7_1).f1.f2),.slice A224_4 ((rd_T42 l0 x7_1).f1.f3).length c224_4]] (by rfl) rfl rfl zM0 ?_
            with_reducible refine (impl_ValOk.calls k1 ((rd_T42 l0 x7_1).f1.f0) ((rd_T42 l0 x7_1).f1.f1) ((rd_T42 l0 x7_1).f1.f2) _ _ ((rd_T42 l0 x7_1).f1.f3) true _ ?side1 ?side2 A7.out).mono ?_
            (case side1 => repeat (first | exact (Kd.C_below HR224_4.out (by repeat (first | (with_reducible first | exact HB.out | apply below_alloc | apply pw_below_drewN | apply below_drew1 | refine below_set ?_ GE225.out) | exact HB.out))) | (with_reducible refine Kd.C_alloc ?_ _) | (with_reducible refine Kd.C_drewN ?_ _) | (with_reducible refine Kd.C_drew ?_)))
            (case side2 => exact HC224_4.out)
            rintro e w23 ⟨rfl,hb⟩
            refine ⟨_,rfl,?_⟩
            have n0_:=Aside0.mk (zB0 BK225.out hb)
            have n1_:=Aside0.mk (zS0 HB.out hb)
            clear BK225
            clear HB
            have BK225:=n0_
            have HB:=n1_
            clear n0_ n1_
            (try clear hb)
            (try clear hb2)
            (try clear hk)
            (try clear hi)
            refine hK.out _ _ ⟨(blk_cell BK225.out 0).trans rfl,(blk_cell BK225.out 1).trans rfl,(blk_cell BK225.out 2).trans rfl,(blk_cell BK225.out 3).trans rfl,(blk_cell BK225.out 4).trans rfl,((HB.out.cell (World.block_lt_of_cell? w _ hw228_0)).trans hw228_0),((HB.out.cell (World.block_lt_of_cell? w _ hw228_1)).trans hw228_1),((HB.out.cell (World.block_lt_of_cell? w _ hw228_2)).trans hw228_2),((HB.out.cell (World.block_lt_of_cell? w _ hw228_3)).trans hw228_3),((HB.out.cell (World.block_lt_of_cell? w _ hw228_4)).trans hw228_4)⟩ (fun hHeld => ?_)
            clear hK K
            refine norm_ (a':=?_) ?_ ?_;rotate_left
            ·show Act.put _ (some 19) _ = _;simp only [Act.put,qA0,qB0,qC0,i64_w,i32_w];rfl
            refine zP0 (i:=8) (N:=some 20) (zF0 25 511) rfl rfl HT_.out ?_
            refine zP0 (i:=9) (N:=some 21) (zF0 25 1023) rfl rfl HT_.out ?_
            refine zP0 (i:=10) (N:=some 22) (zF0 25 2047) rfl rfl HT_.out ?_
            refine zP0 (i:=11) (N:=some 23) (zF0 25 4095) rfl rfl HT_.out ?_
            refine zP0 (i:=12) (N:=some 24) (zF0 25 8191) rfl rfl HT_.out ?_
            refine zP0 (i:=13) (N:=some 25) (zF0 25 16383) rfl rfl HT_.out ?_
            refine zP0 (i:=14) (N:=some 26) (zF0 25 32767) rfl rfl HT_.out ?_
            refine zP0 (i:=15) (N:=some 27) (zF0 25 65535) rfl rfl HT_.out ?_
            refine zP0 (i:=16) (N:=some 28) (zF0 25 131071) rfl rfl HT_.out ?_
            refine zP0 (i:=17) (N:=some 29) (zF0 25 262143) rfl rfl HT_.out ?_
            refine zP0 (i:=18) (N:=some 30) (zF0 25 524287) rfl rfl HT_.out ?_
            refine zP0 (i:=20) (N:=some 32) (zF0 25 1572863) rfl rfl HT_.out ?_
            refine take_ (i:=19) (N:=some 31) (v:=?_) (a':=?_) (zF0 25 2097151) rfl rfl (take_ofW HT_.out HW_.out (by kernel_rfl)) (fun _ _ _ h => h) (Or.inl ⟨by rfl,?_⟩) hHeld ?_ ?_;rotate_left
            ·rintro w' ⟨s0,s1,s2,s3,s4,s5,s6,s7,s8,s9⟩
             go_simp
             with_reducible rfl
            rotate_left
            ·simp only [Act.put,qA0,qB0,qC0,i64_w,i32_w];rfl
            refine take_ (i:=21) (N:=some 33) (v:=?_) (a':=?_) (zF0 25 4194303) rfl rfl (take_ofW HT_.out HW_.out (by kernel_rfl)) (fun _ _ _ h => h) (Or.inl ⟨by rfl,?_⟩) hHeld ?_ ?_;rotate_left
            ·rintro w' ⟨s0,s1,s2,s3,s4,s5,s6,s7,s8,s9⟩
             go_simp
             with_reducible rfl
            rotate_left
            ·simp only [Act.put,qA0,qB0,qC0,i64_w,i32_w];rfl
            refine zP0 (i:=22) (N:=some 34) (zF0 25 8388607) rfl rfl HT_.out ?_
            refine zP0 (i:=23) (N:=some 35) (zF0 25 16777215) rfl rfl HT_.out ?_
            refine zP0 (i:=24) (N:=some 36) (zF0 25 33554431) rfl rfl HT_.out ?_
            refine done_ (done_of HT_.out (by kernel_rfl)) ?_
            try go_wp2
            go_ret
            exact ⟨by first | rfl | (simp [errW_none,errW_some] <;> rfl) | (simp only [← hji10];first | rfl | (simp [errW_none,errW_some] <;> rfl)) | (simp [*,errW_none,errW_some] <;> rfl),by repeat (first | (with_reducible first | exact HB.out | apply below_alloc | apply pw_below_drewN | apply below_drew1 | refine below_set ?_ GE225.out) | exact HB.out)⟩
          ·rw [if_neg c12] at H
           exact absurd H (by simp)
         ·rw [if_neg c11] at H
          exact absurd H (by simp)
        ·rw [if_neg c9] at H
         have c9b0 : decide (0 < x7_1) = false:=decide_eq_false c9
         clear c9
         have H':=Aside0.mk H
         clear H
         have p224 : 0 ≤ (x7_1 : Int):=of_decide_eq_true (by first | (with_reducible assumption) | assumption)
         have q224 : x7_1 < (l0.length : Int):=of_decide_eq_true (by first | (with_reducible assumption) | assumption)
         obtain ⟨ad224,A224_4,c224_4,e224,hx224_0,hx224_1,hx224_2,hx224_3,hx224_4,hl224_4,hi224_4⟩:=at_T42 HR0.out x7_1 p224 q224
         cases e224
         replace hx224_0:=(HB.out.cell (World.block_lt_of_cell? w _ hx224_0)).trans hx224_0
         replace hx224_1:=(HB.out.cell (World.block_lt_of_cell? w _ hx224_1)).trans hx224_1
         replace hx224_2:=(HB.out.cell (World.block_lt_of_cell? w _ hx224_2)).trans hx224_2
         replace hx224_3:=(HB.out.cell (World.block_lt_of_cell? w _ hx224_3)).trans hx224_3
         replace hx224_4:=(HB.out.cell (World.block_lt_of_cell? w _ hx224_4)).trans hx224_4
         have HR224_4:=Aside0.mk hi224_4
         have HC224_4:=Aside0.mk hl224_4
         clear hi224_4 hl224_4
         replace p224:=eq_true p224
         replace q224:=eq_true q224
         try go_wp2_with (first | ((with_reducible refine gate_dst (N:=4) rfl ?_);refine box_event ?hg (N:=4) ?hd (cs:=#[.string (⟨#[]⟩ : ByteArray),.int .i64 0,.int .i64 0,.string (⟨#[]⟩ : ByteArray),.slice none 0 0]) (t:=42) ?hr ?_;(case hd => rfl);(case hg => rfl);(case hr => first | (go_simp;done) | (go_simp;rfl));intro gb225 hg w24 hbox hb;have n0_:=Aside0.mk (zS0 HB.out hb);have n1_:=Aside0.mk (hbox);have n2_:=Aside0.mk ((by rw [hg];exact (zZ0 HB.out) : w.heap.size ≤ gb225));have n3_:=Aside0.mk ((by rw [hg];exact (zZ0 HB.out) : w.heap.size ≤ gb225));clear HB;have HB:=n0_;have BK225:=n1_;have GW225:=n2_;have GE225:=n3_;clear n0_ n1_ n2_ n3_;clear hb hbox hg;have hcz25_0 : w24.cell? ⟨gb225,0,none⟩ = some (.string (⟨#[]⟩ : ByteArray)):=(blk_cell BK225.out 0).trans rfl;have hcz25_1 : w24.cell? ⟨gb225,1,none⟩ = some (.int .i64 0):=(blk_cell BK225.out 1).trans rfl;have hcz25_2 : w24.cell? ⟨gb225,2,none⟩ = some (.int .i64 0):=(blk_cell BK225.out 2).trans rfl;have hcz25_3 : w24.cell? ⟨gb225,3,none⟩ = some (.string (⟨#[]⟩ : ByteArray)):=(blk_cell BK225.out 3).trans rfl;have hcz25_4 : w24.cell? ⟨gb225,4,none⟩ = some (.slice none 0 0):=(blk_cell BK225.out 4).trans rfl;have hfz25_0:=blk_frozen BK225.out 0;have hfz25_1:=blk_frozen BK225.out 1;have hfz25_2:=blk_frozen BK225.out 2;have hfz25_3:=blk_frozen BK225.out 3;have hfz25_4:=blk_frozen BK225.out 4))
         have n0_ : Aside0 ((((((w24.setCell ⟨gb225,0,none⟩ (.string ((rd_T42 l0 x7_1).f0))).setCell ⟨gb225,1,none⟩ (.int .i64 ((rd_T42 l0 x7_1).f1.f0))).setCell ⟨gb225,2,none⟩ (.int .i64 ((rd_T42 l0 x7_1).f1.f1))).setCell ⟨gb225,3,none⟩ (.string ((rd_T42 l0 x7_1).f1.f2))).setCell ⟨gb225,4,none⟩ (.slice A224_4 ((rd_T42 l0 x7_1).f1.f3).length c224_4)).heap[gb225]? = some (.cells #[.string ((rd_T42 l0 x7_1).f0),.int .i64 ((rd_T42 l0 x7_1).f1.f0),.int .i64 ((rd_T42 l0 x7_1).f1.f1),.string ((rd_T42 l0 x7_1).f1.f2),.slice A224_4 ((rd_T42 l0 x7_1).f1.f3).length c224_4] 42 (0,0))):=⟨by (with_reducible repeat (first | refine blk_drewN ?_ _ | refine blk_drew ?_ | refine blk_alloc ?_ _));refine blk_put (cs:=#[.string ((rd_T42 l0 x7_1).f0),.int .i64 ((rd_T42 l0 x7_1).f1.f0),.int .i64 ((rd_T42 l0 x7_1).f1.f1),.string ((rd_T42 l0 x7_1).f1.f2),.slice none 0 0]) ?_ 4 _ rfl;(with_reducible repeat (first | refine blk_drewN ?_ _ | refine blk_drew ?_ | refine blk_alloc ?_ _));refine blk_put (cs:=#[.string ((rd_T42 l0 x7_1).f0),.int .i64 ((rd_T42 l0 x7_1).f1.f0),.int .i64 ((rd_T42 l0 x7_1).f1.f1),.string (⟨#[]⟩ : ByteArray),.slice none 0 0]) ?_ 3 _ rfl;(with_reducible repeat (first | refine blk_drewN ?_ _ | refine blk_drew ?_ | refine blk_alloc ?_ _));refine blk_put (cs:=#[.string ((rd_T42 l0 x7_1).f0),.int .i64 ((rd_T42 l0 x7_1).f1.f0),.int .i64 0,.string (⟨#[]⟩ : ByteArray),.slice none 0 0]) ?_ 2 _ rfl;(with_reducible repeat (first | refine blk_drewN ?_ _ | refine blk_drew ?_ | refine blk_alloc ?_ _));refine blk_put (cs:=#[.string ((rd_T42 l0 x7_1).f0),.int .i64 0,.int .i64 0,.string (⟨#[]⟩ : ByteArray),.slice none 0 0]) ?_ 1 _ rfl;(with_reducible repeat (first | refine blk_drewN ?_ _ | refine blk_drew ?_ | refine blk_alloc ?_ _));refine blk_put (cs:=#[.string (⟨#[]⟩ : ByteArray),.int .i64 0,.int .i64 0,.string (⟨#[]⟩ : ByteArray),.slice none 0 0]) ?_ 0 _ rfl;(with_reducible repeat (first | refine blk_drewN ?_ _ | refine blk_drew ?_ | refine blk_alloc ?_ _));exact BK225.out⟩
         have n1_ : Aside0 (Below w.heap.size w (((((w24.setCell ⟨gb225,0,none⟩ (.string ((rd_T42 l0 x7_1).f0))).setCell ⟨gb225,1,none⟩ (.int .i64 ((rd_T42 l0 x7_1).f1.f0))).setCell ⟨gb225,2,none⟩ (.int .i64 ((rd_T42 l0 x7_1).f1.f1))).setCell ⟨gb225,3,none⟩ (.string ((rd_T42 l0 x7_1).f1.f2))).setCell ⟨gb225,4,none⟩ (.slice A224_4 ((rd_T42 l0 x7_1).f1.f3).length c224_4))):=⟨by repeat (first | (with_reducible first | exact HB.out | apply below_alloc | apply pw_below_drewN | apply below_drew1 | refine below_set ?_ GE225.out) | exact HB.out)⟩
         (try clear BK225)
         (try clear HB)
         generalize (((((w24.setCell ⟨gb225,0,none⟩ (.string ((rd_T42 l0 x7_1).f0))).setCell ⟨gb225,1,none⟩ (.int .i64 ((rd_T42 l0 x7_1).f1.f0))).setCell ⟨gb225,2,none⟩ (.int .i64 ((rd_T42 l0 x7_1).f1.f1))).setCell ⟨gb225,3,none⟩ (.string ((rd_T42 l0 x7_1).f1.f2))).setCell ⟨gb225,4,none⟩ (.slice A224_4 ((rd_T42 l0 x7_1).f1.f3).length c224_4)) = w26 at n0_ n1_ ⊢
         have BK225:=n0_
         have HB:=n1_
         clear n0_ n1_
         have n0_:=Aside0.mk (blk_drew BK225.out)
         have n1_:=Aside0.mk (below_drew1 HB.out)
         clear BK225
         clear HB
         have BK225:=n0_
         have HB:=n1_
         clear n0_ n1_
         refine start_ (n:=25) (S:=fun w' => w'.cell? ⟨gb225,0,none⟩ = some (.string ((rd_T42 l0 x7_1).f0)) ∧ w'.cell? ⟨gb225,1,none⟩ = some (.int .i64 ((rd_T42 l0 x7_1).f1.f0)) ∧ w'.cell? ⟨gb225,2,none⟩ = some (.int .i64 ((rd_T42 l0 x7_1).f1.f1)) ∧ w'.cell? ⟨gb225,3,none⟩ = some (.string ((rd_T42 l0 x7_1).f1.f2)) ∧ w'.cell? ⟨gb225,4,none⟩ = some (.slice A224_4 ((rd_T42 l0 x7_1).f1.f3).length c224_4)) (ds:=[]) (zF0 25 0) (by kernel_rfl) rfl rfl ⟨(blk_cell BK225.out 0).trans rfl,(blk_cell BK225.out 1).trans rfl,(blk_cell BK225.out 2).trans rfl,(blk_cell BK225.out 3).trans rfl,(blk_cell BK225.out 4).trans rfl⟩ (fun hHeld => ?_);refine with_tabW impl_TableOk.tab4 impl_TableOk.bits4 (fun HT_ HW_ => ?_)
         generalize w26.drew = w27 at BK225 HB hHeld ⊢
         refine zP0 (i:=0) (N:=some 12) (zF0 25 1) rfl rfl HT_.out ?_
         refine take_ (i:=1) (N:=some 13) (v:=?_) (a':=?_) (zF0 25 3) rfl rfl (take_ofW HT_.out HW_.out (by kernel_rfl)) (fun _ _ _ h => h) (Or.inl ⟨by rfl,?_⟩) hHeld ?_ ?_;rotate_left
         ·rintro w' ⟨s0,s1,s2,s3,s4⟩
          go_simp
          with_reducible rfl
         rotate_left
         ·simp only [Act.put,qA0,qB0,qC0,i64_w,i32_w];rfl
         refine one_ (i:=2) (N:=some 14) (zF0 25 7) rfl rfl (one_of HT_.out (by kernel_rfl)) (by decide) (fun K hK => ?_)
         refine goes_ Try.func35 (by kernel_rfl) rfl #[.string ((rd_T42 l0 x7_1).f0)] (by rfl) rfl rfl zM0 ?_
         with_reducible refine (impl_keyOk.calls ((rd_T42 l0 x7_1).f0) true _ A5.out).mono ?_
         rintro e w' ⟨rfl,⟨nd,rfl⟩⟩
         refine ⟨_,rfl,?_⟩
         refine hK.out _ _ ⟨(blk_cell BK225.out 0).trans rfl,(blk_cell BK225.out 1).trans rfl,(blk_cell BK225.out 2).trans rfl,(blk_cell BK225.out 3).trans rfl,(blk_cell BK225.out 4).trans rfl⟩ (fun hHeld => ?_)
         clear hK K
         refine norm_ (a':=?_) ?_ ?_;rotate_left
         ·show Act.put _ (some 14) _ = _;simp only [Act.put,qA0,qB0,qC0,i64_w,i32_w];rfl
         refine zP0 (i:=3) (N:=some 15) (zF0 25 15) rfl rfl HT_.out ?_
         refine zP0 (i:=4) (N:=some 16) (zF0 25 31) rfl rfl HT_.out ?_
         refine zP0 (i:=5) (N:=some 17) (zF0 25 63) rfl rfl HT_.out ?_
         refine take_ (i:=6) (N:=some 18) (v:=?_) (a':=?_) (zF0 25 127) rfl rfl (take_ofW HT_.out HW_.out (by kernel_rfl)) (fun _ _ _ h => h) (Or.inl ⟨by rfl,?_⟩) hHeld ?_ ?_;rotate_left
         ·rintro w' ⟨s0,s1,s2,s3,s4⟩
          go_simp
          with_reducible rfl
         rotate_left
         ·simp only [Act.put,qA0,qB0,qC0,i64_w,i32_w];rfl
         refine one_ (i:=7) (N:=some 19) (zF0 25 255) rfl rfl (one_of HT_.out (by kernel_rfl)) (by decide) (fun K hK => ?_)
         refine goes_ Try.func36 (by kernel_rfl) rfl #[.agg #[.int .i64 ((rd_T42 l0 x7_1).f1.f0),.int .i64 ((rd_T42 l0 x7_1).f1.f1),.string ((rd_T42 l0 x7_1).f1.f2),.slice A224_4 ((rd_T42 l0 x7_1).f1.f3).length c224_4]] (by rfl) rfl rfl zM0 ?_
         with_reducible refine (impl_ValOk.calls k1 ((rd_T42 l0 x7_1).f1.f0) ((rd_T42 l0 x7_1).f1.f1) ((rd_T42 l0 x7_1).f1.f2) _ _ ((rd_T42 l0 x7_1).f1.f3) true _ ?side1 ?side2 A7.out).mono ?_
         (case side1 => repeat (first | exact (Kd.C_below HR224_4.out (by repeat (first | (with_reducible first | exact HB.out | apply below_alloc | apply pw_below_drewN | apply below_drew1 | refine below_set ?_ GE225.out) | exact HB.out))) | (with_reducible refine Kd.C_alloc ?_ _) | (with_reducible refine Kd.C_drewN ?_ _) | (with_reducible refine Kd.C_drew ?_)))
         (case side2 => exact HC224_4.out)
         rintro e w28 ⟨rfl,hb⟩
         refine ⟨_,rfl,?_⟩
         have n0_:=Aside0.mk (zB0 BK225.out hb)
         have n1_:=Aside0.mk (zS0 HB.out hb)
         clear BK225
         clear HB
         have BK225:=n0_
         have HB:=n1_
         clear n0_ n1_
         (try clear hb)
         (try clear hb2)
         (try clear hk)
         (try clear hi)
         refine hK.out _ _ ⟨(blk_cell BK225.out 0).trans rfl,(blk_cell BK225.out 1).trans rfl,(blk_cell BK225.out 2).trans rfl,(blk_cell BK225.out 3).trans rfl,(blk_cell BK225.out 4).trans rfl⟩ (fun hHeld => ?_)
         clear hK K
         refine norm_ (a':=?_) ?_ ?_;rotate_left
         ·show Act.put _ (some 19) _ = _;simp only [Act.put,qA0,qB0,qC0,i64_w,i32_w];rfl
         refine zP0 (i:=8) (N:=some 20) (zF0 25 511) rfl rfl HT_.out ?_
         refine zP0 (i:=9) (N:=some 21) (zF0 25 1023) rfl rfl HT_.out ?_
         refine zP0 (i:=10) (N:=some 22) (zF0 25 2047) rfl rfl HT_.out ?_
         refine zP0 (i:=11) (N:=some 23) (zF0 25 4095) rfl rfl HT_.out ?_
         refine zP0 (i:=12) (N:=some 24) (zF0 25 8191) rfl rfl HT_.out ?_
         refine zP0 (i:=13) (N:=some 25) (zF0 25 16383) rfl rfl HT_.out ?_
         refine zQ0 (i:=14) (N:=some 26) (zF0 25 32767) rfl rfl HT_.out ?_
         refine zQ0 (i:=15) (N:=some 27) (zF0 25 65535) rfl rfl HT_.out ?_
         refine zQ0 (i:=16) (N:=some 28) (zF0 25 131071) rfl rfl HT_.out ?_
         refine zQ0 (i:=17) (N:=some 29) (zF0 25 262143) rfl rfl HT_.out ?_
         refine zQ0 (i:=18) (N:=some 30) (zF0 25 524287) rfl rfl HT_.out ?_
         refine zQ0 (i:=19) (N:=some 31) (zF0 25 1048575) rfl rfl HT_.out ?_
         refine zQ0 (i:=20) (N:=some 32) (zF0 25 2097151) rfl rfl HT_.out ?_
         refine zQ0 (i:=21) (N:=some 33) (zF0 25 4194303) rfl rfl HT_.out ?_
         refine zQ0 (i:=22) (N:=some 34) (zF0 25 8388607) rfl rfl HT_.out ?_
         refine zP0 (i:=23) (N:=some 35) (zF0 25 16777215) rfl rfl HT_.out ?_
         refine zP0 (i:=24) (N:=some 36) (zF0 25 33554431) rfl rfl HT_.out ?_
         refine done_ (done_of HT_.out (by kernel_rfl)) ?_
         try go_wp2
         go_roundg k1
         case measure => have:=HK1.out;omega
         case rel => exact ⟨(wrap64 (x7_1 + 1)),(by first | rfl | (simp;done) | (simp [*];done)),H',⟨by have:=HK1.out;omega⟩,⟨by repeat (first | (with_reducible first | exact HB.out | apply below_alloc | apply pw_below_drewN | apply below_drew1 | refine below_set ?_ GE225.out) | exact HB.out)⟩⟩
       ·replace c8:=Bool.eq_false_iff.mpr c8
        subst c8
        have H1 : (some false) = some r:=by rw [if_neg (show ¬ (false = true) by decide)] at H;exact H
        clear H
        have H:=H1
        clear H1
        obtain rfl:=Option.some.inj H
        have p224 : 0 ≤ (x7_1 : Int):=of_decide_eq_true (by first | (with_reducible assumption) | assumption)
        have q224 : x7_1 < (l0.length : Int):=of_decide_eq_true (by first | (with_reducible assumption) | assumption)
        obtain ⟨ad224,A224_4,c224_4,e224,hx224_0,hx224_1,hx224_2,hx224_3,hx224_4,hl224_4,hi224_4⟩:=at_T42 HR0.out x7_1 p224 q224
        cases e224
        replace hx224_0:=(HB.out.cell (World.block_lt_of_cell? w _ hx224_0)).trans hx224_0
        replace hx224_1:=(HB.out.cell (World.block_lt_of_cell? w _ hx224_1)).trans hx224_1
        replace hx224_2:=(HB.out.cell (World.block_lt_of_cell? w _ hx224_2)).trans hx224_2
        replace hx224_3:=(HB.out.cell (World.block_lt_of_cell? w _ hx224_3)).trans hx224_3
        replace hx224_4:=(HB.out.cell (World.block_lt_of_cell? w _ hx224_4)).trans hx224_4
        have HR224_4:=Aside0.mk hi224_4
        have HC224_4:=Aside0.mk hl224_4
        clear hi224_4 hl224_4
        replace p224:=eq_true p224
        replace q224:=eq_true q224
        try go_wp2_with (first | ((with_reducible refine gate_dst (N:=4) rfl ?_);refine box_event ?hg (N:=4) ?hd (cs:=#[.string (⟨#[]⟩ : ByteArray),.int .i64 0,.int .i64 0,.string (⟨#[]⟩ : ByteArray),.slice none 0 0]) (t:=42) ?hr ?_;(case hd => rfl);(case hg => rfl);(case hr => first | (go_simp;done) | (go_simp;rfl));intro gb225 hg w29 hbox hb;have n0_:=Aside0.mk (zS0 HB.out hb);have n1_:=Aside0.mk (hbox);have n2_:=Aside0.mk ((by rw [hg];exact (zZ0 HB.out) : w.heap.size ≤ gb225));have n3_:=Aside0.mk ((by rw [hg];exact (zZ0 HB.out) : w.heap.size ≤ gb225));clear HB;have HB:=n0_;have BK225:=n1_;have GW225:=n2_;have GE225:=n3_;clear n0_ n1_ n2_ n3_;clear hb hbox hg;have hcz30_0 : w29.cell? ⟨gb225,0,none⟩ = some (.string (⟨#[]⟩ : ByteArray)):=(blk_cell BK225.out 0).trans rfl;have hcz30_1 : w29.cell? ⟨gb225,1,none⟩ = some (.int .i64 0):=(blk_cell BK225.out 1).trans rfl;have hcz30_2 : w29.cell? ⟨gb225,2,none⟩ = some (.int .i64 0):=(blk_cell BK225.out 2).trans rfl;have hcz30_3 : w29.cell? ⟨gb225,3,none⟩ = some (.string (⟨#[]⟩ : ByteArray)):=(blk_cell BK225.out 3).trans rfl;have hcz30_4 : w29.cell? ⟨gb225,4,none⟩ = some (.slice none 0 0):=(blk_cell BK225.out 4).trans rfl;have hfz30_0:=blk_frozen BK225.out 0;have hfz30_1:=blk_frozen BK225.out 1;have hfz30_2:=blk_frozen BK225.out 2;have hfz30_3:=blk_frozen BK225.out 3;have hfz30_4:=blk_frozen BK225.out 4))
        have n0_ : Aside0 ((((((w29.setCell ⟨gb225,0,none⟩ (.string ((rd_T42 l0 x7_1).f0))).setCell ⟨gb225,1,none⟩ (.int .i64 ((rd_T42 l0 x7_1).f1.f0))).setCell ⟨gb225,2,none⟩ (.int .i64 ((rd_T42 l0 x7_1).f1.f1))).setCell ⟨gb225,3,none⟩ (.string ((rd_T42 l0 x7_1).f1.f2))).setCell ⟨gb225,4,none⟩ (.slice A224_4 ((rd_T42 l0 x7_1).f1.f3).length c224_4)).heap[gb225]? = some (.cells #[.string ((rd_T42 l0 x7_1).f0),.int .i64 ((rd_T42 l0 x7_1).f1.f0),.int .i64 ((rd_T42 l0 x7_1).f1.f1),.string ((rd_T42 l0 x7_1).f1.f2),.slice A224_4 ((rd_T42 l0 x7_1).f1.f3).length c224_4] 42 (0,0))):=⟨by (with_reducible repeat (first | refine blk_drewN ?_ _ | refine blk_drew ?_ | refine blk_alloc ?_ _));refine blk_put (cs:=#[.string ((rd_T42 l0 x7_1).f0),.int .i64 ((rd_T42 l0 x7_1).f1.f0),.int .i64 ((rd_T42 l0 x7_1).f1.f1),.string ((rd_T42 l0 x7_1).f1.f2),.slice none 0 0]) ?_ 4 _ rfl;(with_reducible repeat (first | refine blk_drewN ?_ _ | refine blk_drew ?_ | refine blk_alloc ?_ _));refine blk_put (cs:=#[.string ((rd_T42 l0 x7_1).f0),.int .i64 ((rd_T42 l0 x7_1).f1.f0),.int .i64 ((rd_T42 l0 x7_1).f1.f1),.string (⟨#[]⟩ : ByteArray),.slice none 0 0]) ?_ 3 _ rfl;(with_reducible repeat (first | refine blk_drewN ?_ _ | refine blk_drew ?_ | refine blk_alloc ?_ _));refine blk_put (cs:=#[.string ((rd_T42 l0 x7_1).f0),.int .i64 ((rd_T42 l0 x7_1).f1.f0),.int .i64 0,.string (⟨#[]⟩ : ByteArray),.slice none 0 0]) ?_ 2 _ rfl;(with_reducible repeat (first | refine blk_drewN ?_ _ | refine blk_drew ?_ | refine blk_alloc ?_ _));refine blk_put (cs:=#[.string ((rd_T42 l0 x7_1).f0),.int .i64 0,.int .i64 0,.string (⟨#[]⟩ : ByteArray),.slice none 0 0]) ?_ 1 _ rfl;(with_reducible repeat (first | refine blk_drewN ?_ _ | refine blk_drew ?_ | refine blk_alloc ?_ _));refine blk_put (cs:=#[.string (⟨#[]⟩ : ByteArray),.int .i64 0,.int .i64 0,.string (⟨#[]⟩ : ByteArray),.slice none 0 0]) ?_ 0 _ rfl;(with_reducible repeat (first | refine blk_drewN ?_ _ | refine blk_drew ?_ | refine blk_alloc ?_ _));exact BK225.out⟩
        have n1_ : Aside0 (Below w.heap.size w (((((w29.setCell ⟨gb225,0,none⟩ (.string ((rd_T42 l0 x7_1).f0))).setCell ⟨gb225,1,none⟩ (.int .i64 ((rd_T42 l0 x7_1).f1.f0))).setCell ⟨gb225,2,none⟩ (.int .i64 ((rd_T42 l0 x7_1).f1.f1))).setCell ⟨gb225,3,none⟩ (.string ((rd_T42 l0 x7_1).f1.f2))).setCell ⟨gb225,4,none⟩ (.slice A224_4 ((rd_T42 l0 x7_1).f1.f3).length c224_4))):=⟨by repeat (first | (with_reducible first | exact HB.out | apply below_alloc | apply pw_below_drewN | apply below_drew1 | refine below_set ?_ GE225.out) | exact HB.out)⟩
        (try clear BK225)
        (try clear HB)
        generalize (((((w29.setCell ⟨gb225,0,none⟩ (.string ((rd_T42 l0 x7_1).f0))).setCell ⟨gb225,1,none⟩ (.int .i64 ((rd_T42 l0 x7_1).f1.f0))).setCell ⟨gb225,2,none⟩ (.int .i64 ((rd_T42 l0 x7_1).f1.f1))).setCell ⟨gb225,3,none⟩ (.string ((rd_T42 l0 x7_1).f1.f2))).setCell ⟨gb225,4,none⟩ (.slice A224_4 ((rd_T42 l0 x7_1).f1.f3).length c224_4)) = w31 at n0_ n1_ ⊢
        have BK225:=n0_
        have HB:=n1_
        clear n0_ n1_
        have n0_:=Aside0.mk (blk_drew BK225.out)
        have n1_:=Aside0.mk (below_drew1 HB.out)
        clear BK225
        clear HB
        have BK225:=n0_
        have HB:=n1_
        clear n0_ n1_
        refine start_ (n:=25) (S:=fun w' => w'.cell? ⟨gb225,0,none⟩ = some (.string ((rd_T42 l0 x7_1).f0)) ∧ w'.cell? ⟨gb225,1,none⟩ = some (.int .i64 ((rd_T42 l0 x7_1).f1.f0)) ∧ w'.cell? ⟨gb225,2,none⟩ = some (.int .i64 ((rd_T42 l0 x7_1).f1.f1)) ∧ w'.cell? ⟨gb225,3,none⟩ = some (.string ((rd_T42 l0 x7_1).f1.f2)) ∧ w'.cell? ⟨gb225,4,none⟩ = some (.slice A224_4 ((rd_T42 l0 x7_1).f1.f3).length c224_4)) (ds:=[]) (zF0 25 0) (by kernel_rfl) rfl rfl ⟨(blk_cell BK225.out 0).trans rfl,(blk_cell BK225.out 1).trans rfl,(blk_cell BK225.out 2).trans rfl,(blk_cell BK225.out 3).trans rfl,(blk_cell BK225.out 4).trans rfl⟩ (fun hHeld => ?_);refine with_tabW impl_TableOk.tab4 impl_TableOk.bits4 (fun HT_ HW_ => ?_)
        generalize w31.drew = w32 at BK225 HB hHeld ⊢
        refine zP0 (i:=0) (N:=some 12) (zF0 25 1) rfl rfl HT_.out ?_
        refine take_ (i:=1) (N:=some 13) (v:=?_) (a':=?_) (zF0 25 3) rfl rfl (take_ofW HT_.out HW_.out (by kernel_rfl)) (fun _ _ _ h => h) (Or.inl ⟨by rfl,?_⟩) hHeld ?_ ?_;rotate_left
        ·rintro w' ⟨s0,s1,s2,s3,s4⟩
         go_simp
         with_reducible rfl
        rotate_left
        ·simp only [Act.put,qA0,qB0,qC0,i64_w,i32_w];rfl
        refine one_ (i:=2) (N:=some 14) (zF0 25 7) rfl rfl (one_of HT_.out (by kernel_rfl)) (by decide) (fun K hK => ?_)
        refine goes_ Try.func35 (by kernel_rfl) rfl #[.string ((rd_T42 l0 x7_1).f0)] (by rfl) rfl rfl zM0 ?_
        with_reducible refine (impl_keyOk.calls ((rd_T42 l0 x7_1).f0) true _ A5.out).mono ?_
        rintro e w' ⟨rfl,⟨nd,rfl⟩⟩
        refine ⟨_,rfl,?_⟩
        refine hK.out _ _ ⟨(blk_cell BK225.out 0).trans rfl,(blk_cell BK225.out 1).trans rfl,(blk_cell BK225.out 2).trans rfl,(blk_cell BK225.out 3).trans rfl,(blk_cell BK225.out 4).trans rfl⟩ (fun hHeld => ?_)
        clear hK K
        refine norm_ (a':=?_) ?_ ?_;rotate_left
        ·show Act.put _ (some 14) _ = _;simp only [Act.put,qA0,qB0,qC0,i64_w,i32_w];rfl
        refine zP0 (i:=3) (N:=some 15) (zF0 25 15) rfl rfl HT_.out ?_
        refine zP0 (i:=4) (N:=some 16) (zF0 25 31) rfl rfl HT_.out ?_
        refine zP0 (i:=5) (N:=some 17) (zF0 25 63) rfl rfl HT_.out ?_
        refine take_ (i:=6) (N:=some 18) (v:=?_) (a':=?_) (zF0 25 127) rfl rfl (take_ofW HT_.out HW_.out (by kernel_rfl)) (fun _ _ _ h => h) (Or.inl ⟨by rfl,?_⟩) hHeld ?_ ?_;rotate_left
        ·rintro w' ⟨s0,s1,s2,s3,s4⟩
         go_simp
         with_reducible rfl
        rotate_left
        ·simp only [Act.put,qA0,qB0,qC0,i64_w,i32_w];rfl
        refine one_ (i:=7) (N:=some 19) (zF0 25 255) rfl rfl (one_of HT_.out (by kernel_rfl)) (by decide) (fun K hK => ?_)
        refine goes_ Try.func36 (by kernel_rfl) rfl #[.agg #[.int .i64 ((rd_T42 l0 x7_1).f1.f0),.int .i64 ((rd_T42 l0 x7_1).f1.f1),.string ((rd_T42 l0 x7_1).f1.f2),.slice A224_4 ((rd_T42 l0 x7_1).f1.f3).length c224_4]] (by rfl) rfl rfl zM0 ?_
        with_reducible refine (impl_ValOk.calls k1 ((rd_T42 l0 x7_1).f1.f0) ((rd_T42 l0 x7_1).f1.f1) ((rd_T42 l0 x7_1).f1.f2) _ _ ((rd_T42 l0 x7_1).f1.f3) false _ ?side1 ?side2 A7.out).mono ?_
        (case side1 => repeat (first | exact (Kd.C_below HR224_4.out (by repeat (first | (with_reducible first | exact HB.out | apply below_alloc | apply pw_below_drewN | apply below_drew1 | refine below_set ?_ GE225.out) | exact HB.out))) | (with_reducible refine Kd.C_alloc ?_ _) | (with_reducible refine Kd.C_drewN ?_ _) | (with_reducible refine Kd.C_drew ?_)))
        (case side2 => exact HC224_4.out)
        rintro e w33 ⟨rfl,hb⟩
        refine ⟨_,rfl,?_⟩
        have n0_:=Aside0.mk (zB0 BK225.out hb)
        have n1_:=Aside0.mk (zS0 HB.out hb)
        clear BK225
        clear HB
        have BK225:=n0_
        have HB:=n1_
        clear n0_ n1_
        (try clear hb)
        (try clear hb2)
        (try clear hk)
        (try clear hi)
        refine hK.out _ _ ⟨(blk_cell BK225.out 0).trans rfl,(blk_cell BK225.out 1).trans rfl,(blk_cell BK225.out 2).trans rfl,(blk_cell BK225.out 3).trans rfl,(blk_cell BK225.out 4).trans rfl⟩ (fun hHeld => ?_)
        clear hK K
        refine norm_ (a':=?_) ?_ ?_;rotate_left
        ·show Act.put _ (some 19) _ = _;simp only [Act.put,qA0,qB0,qC0,i64_w,i32_w];rfl
        refine zP0 (i:=8) (N:=some 20) (zF0 25 511) rfl rfl HT_.out ?_
        refine zP0 (i:=9) (N:=some 21) (zF0 25 1023) rfl rfl HT_.out ?_
        refine zP0 (i:=10) (N:=some 22) (zF0 25 2047) rfl rfl HT_.out ?_
        refine zQ0 (i:=11) (N:=some 23) (zF0 25 4095) rfl rfl HT_.out ?_
        refine zQ0 (i:=12) (N:=some 24) (zF0 25 8191) rfl rfl HT_.out ?_
        refine zQ0 (i:=13) (N:=some 25) (zF0 25 16383) rfl rfl HT_.out ?_
        refine zQ0 (i:=14) (N:=some 26) (zF0 25 32767) rfl rfl HT_.out ?_
        refine zQ0 (i:=15) (N:=some 27) (zF0 25 65535) rfl rfl HT_.out ?_
        refine zQ0 (i:=16) (N:=some 28) (zF0 25 131071) rfl rfl HT_.out ?_
        refine zQ0 (i:=17) (N:=some 29) (zF0 25 262143) rfl rfl HT_.out ?_
        refine zQ0 (i:=18) (N:=some 30) (zF0 25 524287) rfl rfl HT_.out ?_
        refine zQ0 (i:=19) (N:=some 31) (zF0 25 1048575) rfl rfl HT_.out ?_
        refine zQ0 (i:=20) (N:=some 32) (zF0 25 2097151) rfl rfl HT_.out ?_
        refine zQ0 (i:=21) (N:=some 33) (zF0 25 4194303) rfl rfl HT_.out ?_
        refine zQ0 (i:=22) (N:=some 34) (zF0 25 8388607) rfl rfl HT_.out ?_
        refine zQ0 (i:=23) (N:=some 35) (zF0 25 16777215) rfl rfl HT_.out ?_
        refine zP0 (i:=24) (N:=some 36) (zF0 25 33554431) rfl rfl HT_.out ?_
        refine done_ (done_of HT_.out (by kernel_rfl)) ?_
        try go_wp2
        go_ret
        exact ⟨by first | rfl | (simp [errW_none,errW_some] <;> rfl) | (simp [*,errW_none,errW_some] <;> rfl),by repeat (first | (with_reducible first | exact HB.out | apply below_alloc | apply pw_below_drewN | apply below_drew1 | refine below_set ?_ GE225.out) | exact HB.out)⟩
      ·replace c6:=Bool.eq_false_iff.mpr c6
       subst c6
       have H1 : (some false) = some r:=by rw [if_neg (show ¬ (false = true) by decide)] at H;exact H
       clear H
       have H:=H1
       clear H1
       obtain rfl:=Option.some.inj H
       have p224 : 0 ≤ (x7_1 : Int):=of_decide_eq_true (by first | (with_reducible assumption) | assumption)
       have q224 : x7_1 < (l0.length : Int):=of_decide_eq_true (by first | (with_reducible assumption) | assumption)
       obtain ⟨ad224,A224_4,c224_4,e224,hx224_0,hx224_1,hx224_2,hx224_3,hx224_4,hl224_4,hi224_4⟩:=at_T42 HR0.out x7_1 p224 q224
       cases e224
       replace hx224_0:=(HB.out.cell (World.block_lt_of_cell? w _ hx224_0)).trans hx224_0
       replace hx224_1:=(HB.out.cell (World.block_lt_of_cell? w _ hx224_1)).trans hx224_1
       replace hx224_2:=(HB.out.cell (World.block_lt_of_cell? w _ hx224_2)).trans hx224_2
       replace hx224_3:=(HB.out.cell (World.block_lt_of_cell? w _ hx224_3)).trans hx224_3
       replace hx224_4:=(HB.out.cell (World.block_lt_of_cell? w _ hx224_4)).trans hx224_4
       have HR224_4:=Aside0.mk hi224_4
       have HC224_4:=Aside0.mk hl224_4
       clear hi224_4 hl224_4
       replace p224:=eq_true p224
       replace q224:=eq_true q224
       try go_wp2_with (first | ((with_reducible refine gate_dst (N:=4) rfl ?_);refine box_event ?hg (N:=4) ?hd (cs:=#[.string (⟨#[]⟩ : ByteArray),.int .i64 0,.int .i64 0,.string (⟨#[]⟩ : ByteArray),.slice none 0 0]) (t:=42) ?hr ?_;(case hd => rfl);(case hg => rfl);(case hr => first | (go_simp;done) | (go_simp;rfl));intro gb225 hg w34 hbox hb;have n0_:=Aside0.mk (zS0 HB.out hb);have n1_:=Aside0.mk (hbox);have n2_:=Aside0.mk ((by rw [hg];exact (zZ0 HB.out) : w.heap.size ≤ gb225));have n3_:=Aside0.mk ((by rw [hg];exact (zZ0 HB.out) : w.heap.size ≤ gb225));clear HB;have HB:=n0_;have BK225:=n1_;have GW225:=n2_;have GE225:=n3_;clear n0_ n1_ n2_ n3_;clear hb hbox hg;have hcz35_0 : w34.cell? ⟨gb225,0,none⟩ = some (.string (⟨#[]⟩ : ByteArray)):=(blk_cell BK225.out 0).trans rfl;have hcz35_1 : w34.cell? ⟨gb225,1,none⟩ = some (.int .i64 0):=(blk_cell BK225.out 1).trans rfl;have hcz35_2 : w34.cell? ⟨gb225,2,none⟩ = some (.int .i64 0):=(blk_cell BK225.out 2).trans rfl;have hcz35_3 : w34.cell? ⟨gb225,3,none⟩ = some (.string (⟨#[]⟩ : ByteArray)):=(blk_cell BK225.out 3).trans rfl;have hcz35_4 : w34.cell? ⟨gb225,4,none⟩ = some (.slice none 0 0):=(blk_cell BK225.out 4).trans rfl;have hfz35_0:=blk_frozen BK225.out 0;have hfz35_1:=blk_frozen BK225.out 1;have hfz35_2:=blk_frozen BK225.out 2;have hfz35_3:=blk_frozen BK225.out 3;have hfz35_4:=blk_frozen BK225.out 4))
       have n0_ : Aside0 ((((((w34.setCell ⟨gb225,0,none⟩ (.string ((rd_T42 l0 x7_1).f0))).setCell ⟨gb225,1,none⟩ (.int .i64 ((rd_T42 l0 x7_1).f1.f0))).setCell ⟨gb225,2,none⟩ (.int .i64 ((rd_T42 l0 x7_1).f1.f1))).setCell ⟨gb225,3,none⟩ (.string ((rd_T42 l0 x7_1).f1.f2))).setCell ⟨gb225,4,none⟩ (.slice A224_4 ((rd_T42 l0 x7_1).f1.f3).length c224_4)).heap[gb225]? = some (.cells #[.string ((rd_T42 l0 x7_1).f0),.int .i64 ((rd_T42 l0 x7_1).f1.f0),.int .i64 ((rd_T42 l0 x7_1).f1.f1),.string ((rd_T42 l0 x7_1).f1.f2),.slice A224_4 ((rd_T42 l0 x7_1).f1.f3).length c224_4] 42 (0,0))):=⟨by (with_reducible repeat (first | refine blk_drewN ?_ _ | refine blk_drew ?_ | refine blk_alloc ?_ _));refine blk_put (cs:=#[.string ((rd_T42 l0 x7_1).f0),.int .i64 ((rd_T42 l0 x7_1).f1.f0),.int .i64 ((rd_T42 l0 x7_1).f1.f1),.string ((rd_T42 l0 x7_1).f1.f2),.slice none 0 0]) ?_ 4 _ rfl;(with_reducible repeat (first | refine blk_drewN ?_ _ | refine blk_drew ?_ | refine blk_alloc ?_ _));refine blk_put (cs:=#[.string ((rd_T42 l0 x7_1).f0),.int .i64 ((rd_T42 l0 x7_1).f1.f0),.int .i64 ((rd_T42 l0 x7_1).f1.f1),.string (⟨#[]⟩ : ByteArray),.slice none 0 0]) ?_ 3 _ rfl;(with_reducible repeat (first | refine blk_drewN ?_ _ | refine blk_drew ?_ | refine blk_alloc ?_ _));refine blk_put (cs:=#[.string ((rd_T42 l0 x7_1).f0),.int .i64 ((rd_T42 l0 x7_1).f1.f0),.int .i64 0,.string (⟨#[]⟩ : ByteArray),.slice none 0 0]) ?_ 2 _ rfl;(with_reducible repeat (first | refine blk_drewN ?_ _ | refine blk_drew ?_ | refine blk_alloc ?_ _));refine blk_put (cs:=#[.string ((rd_T42 l0 x7_1).f0),.int .i64 0,.int .i64 0,.string (⟨#[]⟩ : ByteArray),.slice none 0 0]) ?_ 1 _ rfl;(with_reducible repeat (first | refine blk_drewN ?_ _ | refine blk_drew ?_ | refine blk_alloc ?_ _));refine blk_put (cs:=#[.string (⟨#[]⟩ : ByteArray),.int .i64 0,.int .i64 0,.string (⟨#[]⟩ : ByteArray),.slice none 0 0]) ?_ 0 _ rfl;(with_reducible repeat (first | refine blk_drewN ?_ _ | refine blk_drew ?_ | refine blk_alloc ?_ _));exact BK225.out⟩
       have n1_ : Aside0 (Below w.heap.size w (((((w34.setCell ⟨gb225,0,none⟩ (.string ((rd_T42 l0 x7_1).f0))).setCell ⟨gb225,1,none⟩ (.int .i64 ((rd_T42 l0 x7_1).f1.f0))).setCell ⟨gb225,2,none⟩ (.int .i64 ((rd_T42 l0 x7_1).f1.f1))).setCell ⟨gb225,3,none⟩ (.string ((rd_T42 l0 x7_1).f1.f2))).setCell ⟨gb225,4,none⟩ (.slice A224_4 ((rd_T42 l0 x7_1).f1.f3).length c224_4))):=⟨by repeat (first | (with_reducible first | exact HB.out | apply below_alloc | apply pw_below_drewN | apply below_drew1 | refine below_set ?_ GE225.out) | exact HB.out)⟩
       (try clear BK225)
       (try clear HB)
       generalize (((((w34.setCell ⟨gb225,0,none⟩ (.string ((rd_T42 l0 x7_1).f0))).setCell ⟨gb225,1,none⟩ (.int .i64 ((rd_T42 l0 x7_1).f1.f0))).setCell ⟨gb225,2,none⟩ (.int .i64 ((rd_T42 l0 x7_1).f1.f1))).setCell ⟨gb225,3,none⟩ (.string ((rd_T42 l0 x7_1).f1.f2))).setCell ⟨gb225,4,none⟩ (.slice A224_4 ((rd_T42 l0 x7_1).f1.f3).length c224_4)) = w36 at n0_ n1_ ⊢
       have BK225:=n0_
       have HB:=n1_
       clear n0_ n1_
       have n0_:=Aside0.mk (blk_drew BK225.out)
       have n1_:=Aside0.mk (below_drew1 HB.out)
       clear BK225
       clear HB
       have BK225:=n0_
       have HB:=n1_
       clear n0_ n1_
       refine start_ (n:=25) (S:=fun w' => w'.cell? ⟨gb225,0,none⟩ = some (.string ((rd_T42 l0 x7_1).f0)) ∧ w'.cell? ⟨gb225,1,none⟩ = some (.int .i64 ((rd_T42 l0 x7_1).f1.f0)) ∧ w'.cell? ⟨gb225,2,none⟩ = some (.int .i64 ((rd_T42 l0 x7_1).f1.f1)) ∧ w'.cell? ⟨gb225,3,none⟩ = some (.string ((rd_T42 l0 x7_1).f1.f2)) ∧ w'.cell? ⟨gb225,4,none⟩ = some (.slice A224_4 ((rd_T42 l0 x7_1).f1.f3).length c224_4)) (ds:=[]) (zF0 25 0) (by kernel_rfl) rfl rfl ⟨(blk_cell BK225.out 0).trans rfl,(blk_cell BK225.out 1).trans rfl,(blk_cell BK225.out 2).trans rfl,(blk_cell BK225.out 3).trans rfl,(blk_cell BK225.out 4).trans rfl⟩ (fun hHeld => ?_);refine with_tabW impl_TableOk.tab4 impl_TableOk.bits4 (fun HT_ HW_ => ?_)
       generalize w36.drew = w37 at BK225 HB hHeld ⊢
       refine zP0 (i:=0) (N:=some 12) (zF0 25 1) rfl rfl HT_.out ?_
       refine take_ (i:=1) (N:=some 13) (v:=?_) (a':=?_) (zF0 25 3) rfl rfl (take_ofW HT_.out HW_.out (by kernel_rfl)) (fun _ _ _ h => h) (Or.inl ⟨by rfl,?_⟩) hHeld ?_ ?_;rotate_left
       ·rintro w' ⟨s0,s1,s2,s3,s4⟩
        go_simp
        with_reducible rfl
       rotate_left
       ·simp only [Act.put,qA0,qB0,qC0,i64_w,i32_w];rfl
       refine one_ (i:=2) (N:=some 14) (zF0 25 7) rfl rfl (one_of HT_.out (by kernel_rfl)) (by decide) (fun K hK => ?_)
       refine goes_ Try.func35 (by kernel_rfl) rfl #[.string ((rd_T42 l0 x7_1).f0)] (by rfl) rfl rfl zM0 ?_
       with_reducible refine (impl_keyOk.calls ((rd_T42 l0 x7_1).f0) false _ A5.out).mono ?_
       rintro e w' ⟨rfl,⟨nd,rfl⟩⟩
       refine ⟨_,rfl,?_⟩
       refine hK.out _ _ ⟨(blk_cell BK225.out 0).trans rfl,(blk_cell BK225.out 1).trans rfl,(blk_cell BK225.out 2).trans rfl,(blk_cell BK225.out 3).trans rfl,(blk_cell BK225.out 4).trans rfl⟩ (fun hHeld => ?_)
       clear hK K
       refine norm_ (a':=?_) ?_ ?_;rotate_left
       ·show Act.put _ (some 14) _ = _;simp only [Act.put,qA0,qB0,qC0,i64_w,i32_w];rfl
       refine zP0 (i:=3) (N:=some 15) (zF0 25 15) rfl rfl HT_.out ?_
       refine zP0 (i:=4) (N:=some 16) (zF0 25 31) rfl rfl HT_.out ?_
       refine zQ0 (i:=5) (N:=some 17) (zF0 25 63) rfl rfl HT_.out ?_
       refine zQ0 (i:=6) (N:=some 18) (zF0 25 127) rfl rfl HT_.out ?_
       refine zQ0 (i:=7) (N:=some 19) (zF0 25 255) rfl rfl HT_.out ?_
       refine zQ0 (i:=8) (N:=some 20) (zF0 25 511) rfl rfl HT_.out ?_
       refine zP0 (i:=9) (N:=some 21) (zF0 25 1023) rfl rfl HT_.out ?_
       refine zP0 (i:=10) (N:=some 22) (zF0 25 2047) rfl rfl HT_.out ?_
       refine zQ0 (i:=11) (N:=some 23) (zF0 25 4095) rfl rfl HT_.out ?_
       refine zQ0 (i:=12) (N:=some 24) (zF0 25 8191) rfl rfl HT_.out ?_
       refine zQ0 (i:=13) (N:=some 25) (zF0 25 16383) rfl rfl HT_.out ?_
       refine zQ0 (i:=14) (N:=some 26) (zF0 25 32767) rfl rfl HT_.out ?_
       refine zQ0 (i:=15) (N:=some 27) (zF0 25 65535) rfl rfl HT_.out ?_
       refine zQ0 (i:=16) (N:=some 28) (zF0 25 131071) rfl rfl HT_.out ?_
       refine zQ0 (i:=17) (N:=some 29) (zF0 25 262143) rfl rfl HT_.out ?_
       refine zQ0 (i:=18) (N:=some 30) (zF0 25 524287) rfl rfl HT_.out ?_
       refine zQ0 (i:=19) (N:=some 31) (zF0 25 1048575) rfl rfl HT_.out ?_
       refine zQ0 (i:=20) (N:=some 32) (zF0 25 2097151) rfl rfl HT_.out ?_
       refine zQ0 (i:=21) (N:=some 33) (zF0 25 4194303) rfl rfl HT_.out ?_
       refine zQ0 (i:=22) (N:=some 34) (zF0 25 8388607) rfl rfl HT_.out ?_
       refine zQ0 (i:=23) (N:=some 35) (zF0 25 16777215) rfl rfl HT_.out ?_
       refine zP0 (i:=24) (N:=some 36) (zF0 25 33554431) rfl rfl HT_.out ?_
       refine done_ (done_of HT_.out (by kernel_rfl)) ?_
       try go_wp2
       go_ret
       exact ⟨by first | rfl | (simp [errW_none,errW_some] <;> rfl) | (simp [*,errW_none,errW_some] <;> rfl),by repeat (first | (with_reducible first | exact HB.out | apply below_alloc | apply pw_below_drewN | apply below_drew1 | refine below_set ?_ GE225.out) | exact HB.out)⟩
     ·rw [if_neg c4] at H
      exact absurd H (by simp)
    ·rw [if_neg c3] at H
     exact absurd H (by simp)
   ·rw [if_neg c2] at H
    have c2b0 : decide (x7_1 < (l0.length : Int)) = false:=decide_eq_false c2
    clear c2
    obtain rfl:=Option.some.inj H
    go_wp2
    go_ret
    exact ⟨by first | rfl | (simp [errW_none,errW_some] <;> rfl) | (simp [*,errW_none,errW_some] <;> rfl),by repeat (first | (with_reducible first | exact HB.out | apply below_alloc | apply pw_below_drewN | apply below_drew1) | exact HB.out)⟩

end Go.Proofs.Ytlekhcopddajbaa.PFnExactDiffer
