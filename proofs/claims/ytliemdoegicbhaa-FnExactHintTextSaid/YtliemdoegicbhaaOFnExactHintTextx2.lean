/- Walks of functions that the law FnExactHintText reaches, turned by this session from a print of which a part did not build; what was changed is listed in wip/patches of the proofs' repo. -/
import Derived.Test.YtliemdoegicbhaaOFnExactHintTextx0
import Derived.Test.YtliemdoegicbhaaOFnExactHintTextx1
namespace Go.Proofs.Ytliemdoegicbhaa.PFnExactHintText
open Go.RowKit Go.Proofs.YtliemdoegicbhaaW.PrintWords Go.Proofs.YtliemdoegicbhaaW.PrintLast Go.Proofs.YtliemdoegicbhaaW.PrintMore
attribute [local go_sem] max2_int min2_int max_two min_two max_three min_three max_four min_four   -- for this text's walks alone
set_option linter.unusedVariables false
set_option linter.unusedSimpArgs false

theorem q12 {α : Type} (l : List α) (i : Nat) (a : α) : l.toArray.setIfInBounds i a = (l.set i a).toArray := by simp
theorem q22 {α : Type} (x y : α) (l : List α) : (x :: l).set 0 y = y :: l := List.set_cons_zero ..
theorem q32 {α : Type} (x y : α) (l : List α) (n : Nat) : (x :: l).set (n + 1) y = x :: l.set n y := List.set_cons_succ ..

abbrev Y2:Bool:=true
abbrev Z2:Bool:=false
/-! ### spec_DirOk: function 12 -/
def spec_DirOk.l0 : Nat → List (S74) → Int → Option (Bool)
 | 0,_,_ => none
 | k + 1,x0,x3 => if x3 < (x0.length : Int) then (if 0 ≤ x3 then ((spec_l01In.f (((rd_T74 x0 x3).f0).size : Int) 1 20).bind fun t123 => (if t123 = true then (if x3 > 0 then (if 0 ≤ (wrap64 (x3 - 1)) then (if (wrap64 (x3 - 1)) < (x0.length : Int) then (if ((Op.bytesLess (((rd_T74 x0 (wrap64 (x3 - 1))).f0).toList) (((rd_T74 x0 x3).f0).toList)) = true) then ((spec_l01In.f ((rd_T74 x0 x3).f1) 0 99).bind fun t125 => (if t125 = true then ((spec_l01In.f ((rd_T74 x0 x3).f2) 0 20000).bind fun t126 => (if t126 = true then ((spec_l01In.f ((rd_T74 x0 x3).f3) 0 1000000000).bind fun t127 => (if t127 = true then (spec_DirOk.l0 k x0 (wrap64 (x3 + 1))) else (some false))) else (some false))) else (some false))) else (some false)) else (none)) else (none)) else ((spec_l01In.f ((rd_T74 x0 x3).f1) 0 99).bind fun t128 => (if t128 = true then ((spec_l01In.f ((rd_T74 x0 x3).f2) 0 20000).bind fun t129 => (if t129 = true then ((spec_l01In.f ((rd_T74 x0 x3).f3) 0 1000000000).bind fun t130 => (if t130 = true then (spec_DirOk.l0 k x0 (wrap64 (x3 + 1))) else (some false))) else (some false))) else (some false)))) else (some false))) else (none)) else (some true)
def spec_DirOk.f (k : Nat) (l0 : List (S74)) : Option (Bool):=if (l0.length : Int) > 200 then (some false) else (spec_DirOk.l0 k l0 0)
theorem spec_DirOk.mono_l : ∀ k,(∀ y0 y1,LeO (spec_DirOk.l0 k y0 y1) (spec_DirOk.l0 (k + 1) y0 y1))
 | 0 => fun _ _ r h => by simp [spec_DirOk.l0] at h
 | k + 1 => by
  have ih0:=spec_DirOk.mono_l k
  ·intro y0 y1
   unfold spec_DirOk.l0
   repeat' first
   | (with_reducible exact ih0 _ _)
   | (with_reducible exact LeO.refl _)
   | (with_reducible exact LeO.none _)
   | (with_reducible refine LeO.ite ?_ ?_)
   | (with_reducible refine LeO.bind ?_ (fun _ => ?_))
   | exact ih0 _ _
   | exact LeO.none _
   | refine LeO.ite ?_ ?_
   | refine LeO.bind ?_ (fun _ => ?_)
theorem spec_DirOk.mono : ∀ a0 k,LeO (spec_DirOk.f k a0) (spec_DirOk.f (k + 1) a0):=by
 intro a0 k
 have ih0:=spec_DirOk.mono_l k
 unfold spec_DirOk.f
 repeat' first
   | (with_reducible exact ih0 _ _)
   | (with_reducible exact LeO.refl _)
   | (with_reducible exact LeO.none _)
   | (with_reducible refine LeO.ite ?_ ?_)
   | (with_reducible refine LeO.bind ?_ (fun _ => ?_))
   | exact ih0 _ _
   | exact LeO.none _
   | refine LeO.ite ?_ ?_
   | refine LeO.bind ?_ (fun _ => ?_)
def spec_DirOk.T7 : Bool × List (List Nat × List Nat):=(true,[([],[]),([0],[0]),([1],[1]),([2],[2]),([3],[3]),([4,3],[4]),([5],[5]),([6,5],[5,6]),([7,5,5],[5,7]),([8],[8]),([8],[8]),([10,8],[8,10]),([9,11,8],[8,9,11]),([12,8],[8,12]),([13,8],[8,13]),([8],[8]),([15,8],[8,15]),([14,16,8],[8,14,16]),([8,17,5],[5,8,17]),([5,18],[5,18]),([19,8],[19]),([20],[20]),([21,20],[20,21]),([22,20,20],[20,22]),([23,20],[20,23]),([20,24],[20,24]),([25,23],[25]),([26],[26]),([27,26],[26,27]),([28,26,26],[26,28]),([29,26],[26,29]),([26,30],[26,30]),([31,29],[31]),([32],[32]),([33,32],[32,33]),([34,32,32],[32,34]),([35,32],[32,35]),([32,36],[32,36])])
def spec_DirOk.B7 : List Nat:=[0,1,3,7,15,31,63,127,255,511,511,1535,4095,8191,16383,511,33279,131071,262143,524287,1048575,2097151,4194303,8388607,16777215,33554431,67108863,134217727,268435455,536870911,1073741823,2147483647,4294967295,8589934591,17179869183,34359738367,68719476735,137438953471]
theorem spec_DirOk.tab7 : rtab .any (opsOf Try.f12 7) = spec_DirOk.T7:=by kernel_rfl
theorem spec_DirOk.bits7 : waitsOk spec_DirOk.T7.2 spec_DirOk.B7 = true:=by kernel_rfl
set_option maxHeartbeats 8000000 in
set_option maxRecDepth 100000 in
theorem spec_DirOk.calls (k : Nat) (A0 : Option Addr) (c0 : Nat) (l0 : List (S74)) (r : Bool) (w : World) (hr0 : Kd.C k74 w A0 l0.length l0) (hc0 : l0.length ≤ c0) (h : spec_DirOk.f k l0 = some r) :
  Calls Try.prog 12 #[.slice A0 l0.length c0] w fun e w' => e = .returned (.bool r) ∧ Below w.heap.size w w':=by
 have hu74:=Try.underlying74
 have HR0:=Aside0.mk hr0
 have HC0:=Aside0.mk hc0
 clear hr0 hc0
 have HB:=Aside0.mk (Below.refl w.heap.size w)
 have H : (if (l0.length : Int) > 200 then (some false) else (spec_DirOk.l0 k l0 0)) = some r:=h
 clear h
 by_cases c2 : (l0.length : Int) > 200
 ·rw [if_pos c2] at H
  have c2b0 : decide (200 < (l0.length : Int)) = true:=decide_eq_true c2
  have c2b1 : decide (200 < l0.length) = true:=decide_eq_true (by omega)
  clear c2
  obtain rfl:=Option.some.inj H
  go_enter Try.func12,Try.ntmps12
  go_wp2
  go_ret
  exact ⟨by first | rfl | (simp [errW_none,errW_some] <;> rfl) | (simp [*,errW_none,errW_some] <;> rfl),by repeat (first | (with_reducible first | exact HB.out | apply below_alloc | apply pw_below_drewN | apply below_drew1) | exact HB.out)⟩
 ·rw [if_neg c2] at H
  have c2b0 : decide (200 < (l0.length : Int)) = false:=decide_eq_false c2
  have c2b1 : decide (200 < l0.length) = false:=decide_eq_false (by omega)
  clear c2
  have H':=Aside0.mk H
  clear H
  go_enter Try.func12,Try.ntmps12
  go_wp2
  go_loopg [3] k (fun kq v3 w' => ∃ (x3_1 : Int),v3 = .int .i64 x3_1 ∧ Aside0 (spec_DirOk.l0 kq l0 x3_1 = some r) ∧ Aside0 (kq ≤ k) ∧ Aside0 (Below w.heap.size w w'))
  case atStart => exact ⟨(0),(by first | rfl | (simp;done) | (simp [*];done)),H',⟨Nat.le_refl _⟩,⟨by repeat (first | (with_reducible first | exact HB.out | apply below_alloc | apply pw_below_drewN | apply below_drew1) | exact HB.out)⟩⟩
  case round =>
   clear H'
   try clear c1
   try clear c2
   try clear c2b0
   try clear c2b1
   try clear p2
   obtain ⟨x3_1,rfl,HA,HK1,HB⟩:=hrel
   cases gk with
   | zero => exact absurd HA.out (by simp [spec_DirOk.l0])
   | succ k1 =>
    have H:=HA.out
    clear HA
    simp only [spec_DirOk.l0] at H
    by_cases c3 : x3_1 < (l0.length : Int)
    ·rw [if_pos c3] at H
     have c3b0 : decide (x3_1 < (l0.length : Int)) = true:=decide_eq_true c3
     clear c3
     by_cases c4 : 0 ≤ x3_1
     ·rw [if_pos c4] at H
      have c4b0 : decide (0 ≤ x3_1) = true:=decide_eq_true c4
      clear c4
      replace H:=Option.bind_eq_some_iff.mp H
      obtain ⟨t123,A50,H⟩:=H
      replace H : (if t123 = true then (if x3_1 > 0 then (if 0 ≤ (wrap64 (x3_1 - 1)) then (if (wrap64 (x3_1 - 1)) < (l0.length : Int) then (if ((Op.bytesLess (((rd_T74 l0 (wrap64 (x3_1 - 1))).f0).toList) (((rd_T74 l0 x3_1).f0).toList)) = true) then ((spec_l01In.f ((rd_T74 l0 x3_1).f1) 0 99).bind fun t125 => (if t125 = true then ((spec_l01In.f ((rd_T74 l0 x3_1).f2) 0 20000).bind fun t126 => (if t126 = true then ((spec_l01In.f ((rd_T74 l0 x3_1).f3) 0 1000000000).bind fun t127 => (if t127 = true then (spec_DirOk.l0 k1 l0 (wrap64 (x3_1 + 1))) else (some false))) else (some false))) else (some false))) else (some false)) else (none)) else (none)) else ((spec_l01In.f ((rd_T74 l0 x3_1).f1) 0 99).bind fun t128 => (if t128 = true then ((spec_l01In.f ((rd_T74 l0 x3_1).f2) 0 20000).bind fun t129 => (if t129 = true then ((spec_l01In.f ((rd_T74 l0 x3_1).f3) 0 1000000000).bind fun t130 => (if t130 = true then (spec_DirOk.l0 k1 l0 (wrap64 (x3_1 + 1))) else (some false))) else (some false))) else (some false)))) else (some false)) = some r:=H
      have A5:=Aside0.mk A50
      clear A50
      by_cases c6 : t123 = true
      ·subst c6
       have H1 : (if x3_1 > 0 then (if 0 ≤ (wrap64 (x3_1 - 1)) then (if (wrap64 (x3_1 - 1)) < (l0.length : Int) then (if ((Op.bytesLess (((rd_T74 l0 (wrap64 (x3_1 - 1))).f0).toList) (((rd_T74 l0 x3_1).f0).toList)) = true) then ((spec_l01In.f ((rd_T74 l0 x3_1).f1) 0 99).bind fun t125 => (if t125 = true then ((spec_l01In.f ((rd_T74 l0 x3_1).f2) 0 20000).bind fun t126 => (if t126 = true then ((spec_l01In.f ((rd_T74 l0 x3_1).f3) 0 1000000000).bind fun t127 => (if t127 = true then (spec_DirOk.l0 k1 l0 (wrap64 (x3_1 + 1))) else (some false))) else (some false))) else (some false))) else (some false)) else (none)) else (none)) else ((spec_l01In.f ((rd_T74 l0 x3_1).f1) 0 99).bind fun t128 => (if t128 = true then ((spec_l01In.f ((rd_T74 l0 x3_1).f2) 0 20000).bind fun t129 => (if t129 = true then ((spec_l01In.f ((rd_T74 l0 x3_1).f3) 0 1000000000).bind fun t130 => (if t130 = true then (spec_DirOk.l0 k1 l0 (wrap64 (x3_1 + 1))) else (some false))) else (some false))) else (some false)))) = some r:=by rw [if_pos rfl] at H;exact H
       clear H
       have H:=H1
       clear H1
       by_cases c7 : x3_1 > 0
       ·rw [if_pos c7] at H
        have c7b0 : decide (0 < x3_1) = true:=decide_eq_true c7
        clear c7
        obtain ⟨ji8,hji8⟩ : ∃ j_ : Int,(wrap64 (x3_1 - 1)) = j_:=⟨_,rfl⟩
        replace H : (if 0 ≤ (ji8) then (if (ji8) < (l0.length : Int) then (if ((Op.bytesLess (((rd_T74 l0 (ji8)).f0).toList) (((rd_T74 l0 x3_1).f0).toList)) = true) then ((spec_l01In.f ((rd_T74 l0 x3_1).f1) 0 99).bind fun t125 => (if t125 = true then ((spec_l01In.f ((rd_T74 l0 x3_1).f2) 0 20000).bind fun t126 => (if t126 = true then ((spec_l01In.f ((rd_T74 l0 x3_1).f3) 0 1000000000).bind fun t127 => (if t127 = true then (spec_DirOk.l0 k1 l0 (wrap64 (x3_1 + 1))) else (some false))) else (some false))) else (some false))) else (some false)) else (none)) else (none)) = some r:=by first | (rw [hji8] at H;exact H) | (simp only [hji8] at H ⊢;exact H)
        (try rw [hji8] at A5)
        have hji8w : (IntKind.i64.wrap (x3_1 - 1)) = ji8:=(i64_w _).trans hji8
        by_cases c9 : 0 ≤ (ji8)
        ·rw [if_pos c9] at H
         have c9b0 : decide (0 ≤ (ji8)) = true:=decide_eq_true c9
         clear c9
         by_cases c10 : (ji8) < (l0.length : Int)
         ·rw [if_pos c10] at H
          have c10b0 : decide ((ji8) < (l0.length : Int)) = true:=decide_eq_true c10
          clear c10
          by_cases c11 : ((Op.bytesLess (((rd_T74 l0 (ji8)).f0).toList) (((rd_T74 l0 x3_1).f0).toList)) = true)
          ·rw [if_pos c11] at H
           have c11b0 : (Op.bytesLess (((rd_T74 l0 (ji8)).f0).toList) (((rd_T74 l0 x3_1).f0).toList)) = true:=c11
           clear c11
           replace H:=Option.bind_eq_some_iff.mp H
           obtain ⟨t125,A120,H⟩:=H
           replace H : (if t125 = true then ((spec_l01In.f ((rd_T74 l0 x3_1).f2) 0 20000).bind fun t126 => (if t126 = true then ((spec_l01In.f ((rd_T74 l0 x3_1).f3) 0 1000000000).bind fun t127 => (if t127 = true then (spec_DirOk.l0 k1 l0 (wrap64 (x3_1 + 1))) else (some false))) else (some false))) else (some false)) = some r:=H
           have A12:=Aside0.mk A120
           clear A120
           by_cases c13 : t125 = true
           ·subst c13
            have H1 : ((spec_l01In.f ((rd_T74 l0 x3_1).f2) 0 20000).bind fun t126 => (if t126 = true then ((spec_l01In.f ((rd_T74 l0 x3_1).f3) 0 1000000000).bind fun t127 => (if t127 = true then (spec_DirOk.l0 k1 l0 (wrap64 (x3_1 + 1))) else (some false))) else (some false))) = some r:=by rw [if_pos rfl] at H;exact H
            clear H
            have H:=H1
            clear H1
            replace H:=Option.bind_eq_some_iff.mp H
            obtain ⟨t126,A140,H⟩:=H
            replace H : (if t126 = true then ((spec_l01In.f ((rd_T74 l0 x3_1).f3) 0 1000000000).bind fun t127 => (if t127 = true then (spec_DirOk.l0 k1 l0 (wrap64 (x3_1 + 1))) else (some false))) else (some false)) = some r:=H
            have A14:=Aside0.mk A140
            clear A140
            by_cases c15 : t126 = true
            ·subst c15
             have H1 : ((spec_l01In.f ((rd_T74 l0 x3_1).f3) 0 1000000000).bind fun t127 => (if t127 = true then (spec_DirOk.l0 k1 l0 (wrap64 (x3_1 + 1))) else (some false))) = some r:=by rw [if_pos rfl] at H;exact H
             clear H
             have H:=H1
             clear H1
             replace H:=Option.bind_eq_some_iff.mp H
             obtain ⟨t127,A160,H⟩:=H
             replace H : (if t127 = true then (spec_DirOk.l0 k1 l0 (wrap64 (x3_1 + 1))) else (some false)) = some r:=H
             have A16:=Aside0.mk A160
             clear A160
             by_cases c17 : t127 = true
             ·subst c17
              have H1 : (spec_DirOk.l0 k1 l0 (wrap64 (x3_1 + 1))) = some r:=by rw [if_pos rfl] at H;exact H
              clear H
              have H:=H1
              clear H1
              have H':=Aside0.mk H
              clear H
              have p121 : 0 ≤ (x3_1 : Int):=of_decide_eq_true (by first | (with_reducible assumption) | assumption)
              have q121 : x3_1 < (l0.length : Int):=of_decide_eq_true (by first | (with_reducible assumption) | assumption)
              obtain ⟨ad121,e121,hx121_0,hx121_1,hx121_2,hx121_3⟩:=at_T74 HR0.out x3_1 p121 q121
              cases e121
              replace hx121_0:=(HB.out.cell (World.block_lt_of_cell? w _ hx121_0)).trans hx121_0
              replace hx121_1:=(HB.out.cell (World.block_lt_of_cell? w _ hx121_1)).trans hx121_1
              replace hx121_2:=(HB.out.cell (World.block_lt_of_cell? w _ hx121_2)).trans hx121_2
              replace hx121_3:=(HB.out.cell (World.block_lt_of_cell? w _ hx121_3)).trans hx121_3
              replace p121:=eq_true p121
              replace q121:=eq_true q121
              try go_wp2_with (first | ((with_reducible refine gate_dst (N:=4) rfl ?_);refine box_event ?hg (N:=4) ?hd (cs:=#[.string (⟨#[]⟩ : ByteArray),.int .i64 0,.int .i64 0,.int .i64 0]) (t:=74) ?hr ?_;(case hd => rfl);(case hg => rfl);(case hr => first | (go_simp;done) | (go_simp;rfl));intro gb122 hg w18 hbox hb;have n0_:=Aside0.mk (below_step (by repeat (first | (with_reducible first | exact HB.out | apply below_alloc | apply pw_below_drewN | apply below_drew1) | exact HB.out)) hb);have n1_:=Aside0.mk (hbox);have n2_:=Aside0.mk ((by rw [hg];exact (below_size (by repeat (first | (with_reducible first | exact HB.out | apply below_alloc | apply pw_below_drewN | apply below_drew1) | exact HB.out))) : w.heap.size ≤ gb122));have n3_:=Aside0.mk ((by rw [hg];exact (below_size (by repeat (first | (with_reducible first | exact HB.out | apply below_alloc | apply pw_below_drewN | apply below_drew1) | exact HB.out))) : w.heap.size ≤ gb122));clear HB;have HB:=n0_;have BK122:=n1_;have GW122:=n2_;have GE122:=n3_;clear n0_ n1_ n2_ n3_;clear hb hbox hg;have hcz19_0 : w18.cell? ⟨gb122,0,none⟩ = some (.string (⟨#[]⟩ : ByteArray)):=(blk_cell BK122.out 0).trans rfl;have hcz19_1 : w18.cell? ⟨gb122,1,none⟩ = some (.int .i64 0):=(blk_cell BK122.out 1).trans rfl;have hcz19_2 : w18.cell? ⟨gb122,2,none⟩ = some (.int .i64 0):=(blk_cell BK122.out 2).trans rfl;have hcz19_3 : w18.cell? ⟨gb122,3,none⟩ = some (.int .i64 0):=(blk_cell BK122.out 3).trans rfl;have hfz19_0:=blk_frozen BK122.out 0;have hfz19_1:=blk_frozen BK122.out 1;have hfz19_2:=blk_frozen BK122.out 2;have hfz19_3:=blk_frozen BK122.out 3))
              have n0_ : Aside0 (((((w18.setCell ⟨gb122,0,none⟩ (.string ((rd_T74 l0 x3_1).f0))).setCell ⟨gb122,1,none⟩ (.int .i64 ((rd_T74 l0 x3_1).f1))).setCell ⟨gb122,2,none⟩ (.int .i64 ((rd_T74 l0 x3_1).f2))).setCell ⟨gb122,3,none⟩ (.int .i64 ((rd_T74 l0 x3_1).f3))).heap[gb122]? = some (.cells #[.string ((rd_T74 l0 x3_1).f0),.int .i64 ((rd_T74 l0 x3_1).f1),.int .i64 ((rd_T74 l0 x3_1).f2),.int .i64 ((rd_T74 l0 x3_1).f3)] 74 (0,0))):=⟨by (with_reducible repeat (first | refine blk_drewN ?_ _ | refine blk_drew ?_ | refine blk_alloc ?_ _));refine blk_put (cs:=#[.string ((rd_T74 l0 x3_1).f0),.int .i64 ((rd_T74 l0 x3_1).f1),.int .i64 ((rd_T74 l0 x3_1).f2),.int .i64 0]) ?_ 3 _ rfl;(with_reducible repeat (first | refine blk_drewN ?_ _ | refine blk_drew ?_ | refine blk_alloc ?_ _));refine blk_put (cs:=#[.string ((rd_T74 l0 x3_1).f0),.int .i64 ((rd_T74 l0 x3_1).f1),.int .i64 0,.int .i64 0]) ?_ 2 _ rfl;(with_reducible repeat (first | refine blk_drewN ?_ _ | refine blk_drew ?_ | refine blk_alloc ?_ _));refine blk_put (cs:=#[.string ((rd_T74 l0 x3_1).f0),.int .i64 0,.int .i64 0,.int .i64 0]) ?_ 1 _ rfl;(with_reducible repeat (first | refine blk_drewN ?_ _ | refine blk_drew ?_ | refine blk_alloc ?_ _));refine blk_put (cs:=#[.string (⟨#[]⟩ : ByteArray),.int .i64 0,.int .i64 0,.int .i64 0]) ?_ 0 _ rfl;(with_reducible repeat (first | refine blk_drewN ?_ _ | refine blk_drew ?_ | refine blk_alloc ?_ _));exact BK122.out⟩
              have n1_ : Aside0 (Below w.heap.size w ((((w18.setCell ⟨gb122,0,none⟩ (.string ((rd_T74 l0 x3_1).f0))).setCell ⟨gb122,1,none⟩ (.int .i64 ((rd_T74 l0 x3_1).f1))).setCell ⟨gb122,2,none⟩ (.int .i64 ((rd_T74 l0 x3_1).f2))).setCell ⟨gb122,3,none⟩ (.int .i64 ((rd_T74 l0 x3_1).f3)))):=⟨by repeat (first | (with_reducible first | exact HB.out | apply below_alloc | apply pw_below_drewN | apply below_drew1 | refine below_set ?_ GE122.out) | exact HB.out)⟩
              (try clear BK122)
              (try clear HB)
              generalize ((((w18.setCell ⟨gb122,0,none⟩ (.string ((rd_T74 l0 x3_1).f0))).setCell ⟨gb122,1,none⟩ (.int .i64 ((rd_T74 l0 x3_1).f1))).setCell ⟨gb122,2,none⟩ (.int .i64 ((rd_T74 l0 x3_1).f2))).setCell ⟨gb122,3,none⟩ (.int .i64 ((rd_T74 l0 x3_1).f3))) = w20 at n0_ n1_ ⊢
              have BK122:=n0_
              have HB:=n1_
              clear n0_ n1_
              have n0_:=Aside0.mk (blk_drew BK122.out)
              have n1_:=Aside0.mk (below_drew1 HB.out)
              clear BK122
              clear HB
              have BK122:=n0_
              have HB:=n1_
              clear n0_ n1_
              have p124 : 0 ≤ ((ji8) : Int):=of_decide_eq_true (by first | (with_reducible assumption) | assumption)
              have q124 : (ji8) < (l0.length : Int):=of_decide_eq_true (by first | (with_reducible assumption) | assumption)
              obtain ⟨ad124,e124,hx124_0,hx124_1,hx124_2,hx124_3⟩:=at_T74 HR0.out (ji8) p124 q124
              have hw124_3:=hx124_3
              have hw124_2:=hx124_2
              have hw124_1:=hx124_1
              have hw124_0:=hx124_0
              obtain rfl : ad121 = ad124:=(by injection e124)
              replace hx124_0:=(HB.out.cell (World.block_lt_of_cell? w _ hx124_0)).trans hx124_0
              replace hx124_1:=(HB.out.cell (World.block_lt_of_cell? w _ hx124_1)).trans hx124_1
              replace hx124_2:=(HB.out.cell (World.block_lt_of_cell? w _ hx124_2)).trans hx124_2
              replace hx124_3:=(HB.out.cell (World.block_lt_of_cell? w _ hx124_3)).trans hx124_3
              replace p124:=eq_true p124
              replace q124:=eq_true q124
              refine start_ (n:=38) (S:=fun w' => w'.cell? ⟨gb122,0,none⟩ = some (.string ((rd_T74 l0 x3_1).f0)) ∧ w'.cell? ⟨gb122,1,none⟩ = some (.int .i64 ((rd_T74 l0 x3_1).f1)) ∧ w'.cell? ⟨gb122,2,none⟩ = some (.int .i64 ((rd_T74 l0 x3_1).f2)) ∧ w'.cell? ⟨gb122,3,none⟩ = some (.int .i64 ((rd_T74 l0 x3_1).f3)) ∧ w'.cell? (ad121.add (((ji8)).toNat * 4)) = some (.string ((rd_T74 l0 (ji8)).f0)) ∧ w'.cell? ⟨(ad121.add (((ji8)).toNat * 4)).block,(ad121.add (((ji8)).toNat * 4)).off + 1,none⟩ = some (.int .i64 ((rd_T74 l0 (ji8)).f1)) ∧ w'.cell? ⟨(ad121.add (((ji8)).toNat * 4)).block,(ad121.add (((ji8)).toNat * 4)).off + 2,none⟩ = some (.int .i64 ((rd_T74 l0 (ji8)).f2)) ∧ w'.cell? ⟨(ad121.add (((ji8)).toNat * 4)).block,(ad121.add (((ji8)).toNat * 4)).off + 3,none⟩ = some (.int .i64 ((rd_T74 l0 (ji8)).f3))) (ds:=[]) #[Z2,Z2,Z2,Z2,Z2,Z2,Z2,Z2,Z2,Z2,Z2,Z2,Z2,Z2,Z2,Z2,Z2,Z2,Z2,Z2,Z2,Z2,Z2,Z2,Z2,Z2,Z2,Z2,Z2,Z2,Z2,Z2,Z2,Z2,Z2,Z2,Z2,Z2] (by kernel_rfl) rfl rfl ⟨(blk_cell BK122.out 0).trans rfl,(blk_cell BK122.out 1).trans rfl,(blk_cell BK122.out 2).trans rfl,(blk_cell BK122.out 3).trans rfl,((HB.out.cell (World.block_lt_of_cell? w _ hw124_0)).trans hw124_0),((HB.out.cell (World.block_lt_of_cell? w _ hw124_1)).trans hw124_1),((HB.out.cell (World.block_lt_of_cell? w _ hw124_2)).trans hw124_2),((HB.out.cell (World.block_lt_of_cell? w _ hw124_3)).trans hw124_3)⟩ (fun hHeld => ?_);refine with_tabW spec_DirOk.tab7 spec_DirOk.bits7 (fun HT_ HW_ => ?_)
              generalize w20.drew = w21 at BK122 HB hx124_0 hx124_1 hx124_2 hx124_3 hHeld ⊢
              refine pure_ (i:=0) (N:=some 18) (v:=?_) (a':=?_) #[Y2,Z2,Z2,Z2,Z2,Z2,Z2,Z2,Z2,Z2,Z2,Z2,Z2,Z2,Z2,Z2,Z2,Z2,Z2,Z2,Z2,Z2,Z2,Z2,Z2,Z2,Z2,Z2,Z2,Z2,Z2,Z2,Z2,Z2,Z2,Z2,Z2,Z2] rfl rfl (any_of HT_.out (by kernel_rfl)) (fun _ _ _ h => h) (Or.inl ⟨by rfl,?_⟩) ?_ ?_
              rotate_left
              ·intro w'
               go_simp
               with_reducible rfl
              rotate_left
              ·simp only [Act.put,q12,q22,q32,i64_w,i32_w]
               rfl
              refine take_ (i:=1) (N:=some 19) (v:=?_) (a':=?_) #[Y2,Y2,Z2,Z2,Z2,Z2,Z2,Z2,Z2,Z2,Z2,Z2,Z2,Z2,Z2,Z2,Z2,Z2,Z2,Z2,Z2,Z2,Z2,Z2,Z2,Z2,Z2,Z2,Z2,Z2,Z2,Z2,Z2,Z2,Z2,Z2,Z2,Z2] rfl rfl (take_ofW HT_.out HW_.out (by kernel_rfl)) (fun _ _ _ h => h) (Or.inl ⟨by rfl,?_⟩) hHeld ?_ ?_
              rotate_left
              ·rintro w' ⟨s0,s1,s2,s3,s4,s5,s6,s7⟩
               go_simp
               with_reducible rfl
              rotate_left
              ·simp only [Act.put,q12,q22,q32,i64_w,i32_w]
               rfl
              refine pure_ (i:=2) (N:=some 20) (v:=?_) (a':=?_) #[Y2,Y2,Y2,Z2,Z2,Z2,Z2,Z2,Z2,Z2,Z2,Z2,Z2,Z2,Z2,Z2,Z2,Z2,Z2,Z2,Z2,Z2,Z2,Z2,Z2,Z2,Z2,Z2,Z2,Z2,Z2,Z2,Z2,Z2,Z2,Z2,Z2,Z2] rfl rfl (any_of HT_.out (by kernel_rfl)) (fun _ _ _ h => h) (Or.inl ⟨by rfl,?_⟩) ?_ ?_
              rotate_left
              ·intro w'
               go_simp
               with_reducible rfl
              rotate_left
              ·simp only [Act.put,q12,q22,q32,i64_w,i32_w]
               rfl
              refine one_ (i:=3) (N:=some 21) #[Y2,Y2,Y2,Y2,Z2,Z2,Z2,Z2,Z2,Z2,Z2,Z2,Z2,Z2,Z2,Z2,Z2,Z2,Z2,Z2,Z2,Z2,Z2,Z2,Z2,Z2,Z2,Z2,Z2,Z2,Z2,Z2,Z2,Z2,Z2,Z2,Z2,Z2] rfl rfl (one_of HT_.out (by kernel_rfl)) (by decide) (fun K hK => ?_)
              refine goes_ Try.func43 (by kernel_rfl) rfl #[.int .i64 (((rd_T74 l0 x3_1).f0).size : Int),.int .i64 1,.int .i64 20] (by rfl) rfl rfl (by (try simp only [List.map_toArray,List.map_cons,List.map_nil]);first | done | rfl | (simp only [List.length_drop,List.length_take];rfl)) ?_
              with_reducible refine (spec_l01In.calls (((rd_T74 l0 x3_1).f0).size : Int) 1 20 true _ A5.out).mono ?_
              rintro e w' ⟨rfl,⟨nd,rfl⟩⟩
              refine ⟨_,rfl,?_⟩
              refine hK.out _ _ ⟨(blk_cell BK122.out 0).trans rfl,(blk_cell BK122.out 1).trans rfl,(blk_cell BK122.out 2).trans rfl,(blk_cell BK122.out 3).trans rfl,((HB.out.cell (World.block_lt_of_cell? w _ hw124_0)).trans hw124_0),((HB.out.cell (World.block_lt_of_cell? w _ hw124_1)).trans hw124_1),((HB.out.cell (World.block_lt_of_cell? w _ hw124_2)).trans hw124_2),((HB.out.cell (World.block_lt_of_cell? w _ hw124_3)).trans hw124_3)⟩ (fun hHeld => ?_)
              clear hK K
              refine norm_ (a':=?_) ?_ ?_
              rotate_left
              ·show Act.put _ (some 21) _ = _
               simp only [Act.put,q12,q22,q32,i64_w,i32_w]
               rfl
              refine pure_ (i:=4) (N:=some 22) (v:=?_) (a':=?_) #[Y2,Y2,Y2,Y2,Y2,Z2,Z2,Z2,Z2,Z2,Z2,Z2,Z2,Z2,Z2,Z2,Z2,Z2,Z2,Z2,Z2,Z2,Z2,Z2,Z2,Z2,Z2,Z2,Z2,Z2,Z2,Z2,Z2,Z2,Z2,Z2,Z2,Z2] rfl rfl (any_of HT_.out (by kernel_rfl)) (fun _ _ _ h => h) (Or.inl ⟨by rfl,?_⟩) ?_ ?_
              rotate_left
              ·intro w'
               go_simp
               with_reducible rfl
              rotate_left
              ·simp only [Act.put,q12,q22,q32,i64_w,i32_w]
               rfl
              refine pure_ (i:=5) (N:=some 23) (v:=?_) (a':=?_) #[Y2,Y2,Y2,Y2,Y2,Y2,Z2,Z2,Z2,Z2,Z2,Z2,Z2,Z2,Z2,Z2,Z2,Z2,Z2,Z2,Z2,Z2,Z2,Z2,Z2,Z2,Z2,Z2,Z2,Z2,Z2,Z2,Z2,Z2,Z2,Z2,Z2,Z2] rfl rfl (any_of HT_.out (by kernel_rfl)) (fun _ _ _ h => h) (Or.inl ⟨by rfl,?_⟩) ?_ ?_
              rotate_left
              ·intro w'
               go_simp
               with_reducible rfl
              rotate_left
              ·simp only [Act.put,q12,q22,q32,i64_w,i32_w]
               rfl
              refine pure_ (i:=6) (N:=some 24) (v:=?_) (a':=?_) #[Y2,Y2,Y2,Y2,Y2,Y2,Y2,Z2,Z2,Z2,Z2,Z2,Z2,Z2,Z2,Z2,Z2,Z2,Z2,Z2,Z2,Z2,Z2,Z2,Z2,Z2,Z2,Z2,Z2,Z2,Z2,Z2,Z2,Z2,Z2,Z2,Z2,Z2] rfl rfl (any_of HT_.out (by kernel_rfl)) (fun _ _ _ h => h) (Or.inl ⟨by rfl,?_⟩) ?_ ?_
              rotate_left
              ·intro w'
               go_simp
               with_reducible rfl
              rotate_left
              ·simp only [Act.put,q12,q22,q32,i64_w,i32_w]
               rfl
              refine pure_ (i:=7) (N:=some 25) (v:=?_) (a':=?_) #[Y2,Y2,Y2,Y2,Y2,Y2,Y2,Y2,Z2,Z2,Z2,Z2,Z2,Z2,Z2,Z2,Z2,Z2,Z2,Z2,Z2,Z2,Z2,Z2,Z2,Z2,Z2,Z2,Z2,Z2,Z2,Z2,Z2,Z2,Z2,Z2,Z2,Z2] rfl rfl (any_of HT_.out (by kernel_rfl)) (fun _ _ _ h => h) (Or.inl ⟨by rfl,?_⟩) ?_ ?_
              rotate_left
              ·intro w'
               go_simp
               with_reducible rfl
              rotate_left
              ·simp only [Act.put,q12,q22,q32,i64_w,i32_w]
               rfl
              refine pure_ (i:=8) (N:=some 26) (v:=?_) (a':=?_) #[Y2,Y2,Y2,Y2,Y2,Y2,Y2,Y2,Y2,Z2,Z2,Z2,Z2,Z2,Z2,Z2,Z2,Z2,Z2,Z2,Z2,Z2,Z2,Z2,Z2,Z2,Z2,Z2,Z2,Z2,Z2,Z2,Z2,Z2,Z2,Z2,Z2,Z2] rfl rfl (any_of HT_.out (by kernel_rfl)) (fun _ _ _ h => h) (Or.inl ⟨by rfl,?_⟩) ?_ ?_
              rotate_left
              ·intro w'
               go_simp
               with_reducible rfl
              rotate_left
              ·simp only [Act.put,q12,q22,q32,i64_w,i32_w]
               rfl
              refine pure_ (i:=9) (N:=some 27) (v:=?_) (a':=?_) #[Y2,Y2,Y2,Y2,Y2,Y2,Y2,Y2,Y2,Y2,Z2,Z2,Z2,Z2,Z2,Z2,Z2,Z2,Z2,Z2,Z2,Z2,Z2,Z2,Z2,Z2,Z2,Z2,Z2,Z2,Z2,Z2,Z2,Z2,Z2,Z2,Z2,Z2] rfl rfl (any_of HT_.out (by kernel_rfl)) (fun _ _ _ h => h) (Or.inl ⟨by rfl,?_⟩) ?_ ?_
              rotate_left
              ·intro w'
               go_simp
               with_reducible rfl
              rotate_left
              ·simp only [Act.put,q12,q22,q32,i64_w,i32_w]
               rfl
              refine pure_ (i:=10) (N:=some 28) (v:=?_) (a':=?_) #[Y2,Y2,Y2,Y2,Y2,Y2,Y2,Y2,Y2,Y2,Y2,Z2,Z2,Z2,Z2,Z2,Z2,Z2,Z2,Z2,Z2,Z2,Z2,Z2,Z2,Z2,Z2,Z2,Z2,Z2,Z2,Z2,Z2,Z2,Z2,Z2,Z2,Z2] rfl rfl (any_of HT_.out (by kernel_rfl)) (fun _ _ _ h => h) (Or.inl ⟨by rfl,?_⟩) ?_ ?_
              rotate_left
              ·intro w'
               go_simp
               with_reducible rfl
              rotate_left
              ·simp only [Act.put,q12,q22,q32,i64_w,i32_w]
               rfl
              refine pure_ (i:=11) (N:=some 29) (v:=?_) (a':=?_) #[Y2,Y2,Y2,Y2,Y2,Y2,Y2,Y2,Y2,Y2,Y2,Y2,Z2,Z2,Z2,Z2,Z2,Z2,Z2,Z2,Z2,Z2,Z2,Z2,Z2,Z2,Z2,Z2,Z2,Z2,Z2,Z2,Z2,Z2,Z2,Z2,Z2,Z2] rfl rfl (any_of HT_.out (by kernel_rfl)) (fun _ _ _ h => h) (Or.inl ⟨by rfl,?_⟩) ?_ ?_
              rotate_left
              ·intro w'
               go_simp
               with_reducible rfl
              rotate_left
              ·simp only [Act.put,q12,q22,q32,i64_w,i32_w]
               rfl
              refine pure_ (i:=12) (N:=some 30) (v:=?_) (a':=?_) #[Y2,Y2,Y2,Y2,Y2,Y2,Y2,Y2,Y2,Y2,Y2,Y2,Y2,Z2,Z2,Z2,Z2,Z2,Z2,Z2,Z2,Z2,Z2,Z2,Z2,Z2,Z2,Z2,Z2,Z2,Z2,Z2,Z2,Z2,Z2,Z2,Z2,Z2] rfl rfl (any_of HT_.out (by kernel_rfl)) (fun _ _ _ h => h) (Or.inl ⟨by rfl,?_⟩) ?_ ?_
              rotate_left
              ·intro w'
               go_simp
               with_reducible rfl
              rotate_left
              ·simp only [Act.put,q12,q22,q32,i64_w,i32_w]
               rfl
              refine pure_ (i:=13) (N:=some 31) (v:=?_) (a':=?_) #[Y2,Y2,Y2,Y2,Y2,Y2,Y2,Y2,Y2,Y2,Y2,Y2,Y2,Y2,Z2,Z2,Z2,Z2,Z2,Z2,Z2,Z2,Z2,Z2,Z2,Z2,Z2,Z2,Z2,Z2,Z2,Z2,Z2,Z2,Z2,Z2,Z2,Z2] rfl rfl (any_of HT_.out (by kernel_rfl)) (fun _ _ _ h => h) (Or.inl ⟨by rfl,?_⟩) ?_ ?_
              rotate_left
              ·intro w'
               go_simp
               with_reducible rfl
              rotate_left
              ·simp only [Act.put,q12,q22,q32,i64_w,i32_w]
               rfl
              refine pure_ (i:=15) (N:=some 33) (v:=?_) (a':=?_) #[Y2,Y2,Y2,Y2,Y2,Y2,Y2,Y2,Y2,Y2,Y2,Y2,Y2,Y2,Z2,Y2,Z2,Z2,Z2,Z2,Z2,Z2,Z2,Z2,Z2,Z2,Z2,Z2,Z2,Z2,Z2,Z2,Z2,Z2,Z2,Z2,Z2,Z2] rfl rfl (any_of HT_.out (by kernel_rfl)) (fun _ _ _ h => h) (Or.inl ⟨by rfl,?_⟩) ?_ ?_
              rotate_left
              ·intro w'
               go_simp
               with_reducible rfl
              rotate_left
              ·simp only [Act.put,q12,q22,q32,i64_w,i32_w]
               rfl
              refine take_ (i:=14) (N:=some 32) (v:=?_) (a':=?_) #[Y2,Y2,Y2,Y2,Y2,Y2,Y2,Y2,Y2,Y2,Y2,Y2,Y2,Y2,Y2,Y2,Z2,Z2,Z2,Z2,Z2,Z2,Z2,Z2,Z2,Z2,Z2,Z2,Z2,Z2,Z2,Z2,Z2,Z2,Z2,Z2,Z2,Z2] rfl rfl (take_ofW HT_.out HW_.out (by kernel_rfl)) (fun _ _ _ h => h) (Or.inl ⟨by rfl,?_⟩) hHeld ?_ ?_
              rotate_left
              ·rintro w' ⟨s0,s1,s2,s3,s4,s5,s6,s7⟩
               go_simp
               with_reducible rfl
              rotate_left
              ·simp only [Act.put,q12,q22,q32,i64_w,i32_w]
               rfl
              refine take_ (i:=16) (N:=some 34) (v:=?_) (a':=?_) #[Y2,Y2,Y2,Y2,Y2,Y2,Y2,Y2,Y2,Y2,Y2,Y2,Y2,Y2,Y2,Y2,Y2,Z2,Z2,Z2,Z2,Z2,Z2,Z2,Z2,Z2,Z2,Z2,Z2,Z2,Z2,Z2,Z2,Z2,Z2,Z2,Z2,Z2] rfl rfl (take_ofW HT_.out HW_.out (by kernel_rfl)) (fun _ _ _ h => h) (Or.inl ⟨by rfl,?_⟩) hHeld ?_ ?_
              rotate_left
              ·rintro w' ⟨s0,s1,s2,s3,s4,s5,s6,s7⟩
               go_simp
               with_reducible rfl
              rotate_left
              ·simp only [Act.put,q12,q22,q32,i64_w,i32_w]
               rfl
              refine pure_ (i:=17) (N:=some 35) (v:=?_) (a':=?_) #[Y2,Y2,Y2,Y2,Y2,Y2,Y2,Y2,Y2,Y2,Y2,Y2,Y2,Y2,Y2,Y2,Y2,Y2,Z2,Z2,Z2,Z2,Z2,Z2,Z2,Z2,Z2,Z2,Z2,Z2,Z2,Z2,Z2,Z2,Z2,Z2,Z2,Z2] rfl rfl (any_of HT_.out (by kernel_rfl)) (fun _ _ _ h => h) (Or.inl ⟨by rfl,?_⟩) ?_ ?_
              rotate_left
              ·intro w'
               go_simp
               with_reducible rfl
              rotate_left
              ·simp only [Act.put,q12,q22,q32,i64_w,i32_w]
               rfl
              refine pure_ (i:=18) (N:=some 36) (v:=?_) (a':=?_) #[Y2,Y2,Y2,Y2,Y2,Y2,Y2,Y2,Y2,Y2,Y2,Y2,Y2,Y2,Y2,Y2,Y2,Y2,Y2,Z2,Z2,Z2,Z2,Z2,Z2,Z2,Z2,Z2,Z2,Z2,Z2,Z2,Z2,Z2,Z2,Z2,Z2,Z2] rfl rfl (any_of HT_.out (by kernel_rfl)) (fun _ _ _ h => h) (Or.inl ⟨by rfl,?_⟩) ?_ ?_
              rotate_left
              ·intro w'
               go_simp
               with_reducible rfl
              rotate_left
              ·simp only [Act.put,q12,q22,q32,i64_w,i32_w]
               rfl
              refine pure_ (i:=19) (N:=some 37) (v:=?_) (a':=?_) #[Y2,Y2,Y2,Y2,Y2,Y2,Y2,Y2,Y2,Y2,Y2,Y2,Y2,Y2,Y2,Y2,Y2,Y2,Y2,Y2,Z2,Z2,Z2,Z2,Z2,Z2,Z2,Z2,Z2,Z2,Z2,Z2,Z2,Z2,Z2,Z2,Z2,Z2] rfl rfl (any_of HT_.out (by kernel_rfl)) (fun _ _ _ h => h) (Or.inl ⟨by rfl,?_⟩) ?_ ?_
              rotate_left
              ·intro w'
               go_simp
               with_reducible rfl
              rotate_left
              ·simp only [Act.put,q12,q22,q32,i64_w,i32_w]
               rfl
              refine pure_ (i:=20) (N:=some 38) (v:=?_) (a':=?_) #[Y2,Y2,Y2,Y2,Y2,Y2,Y2,Y2,Y2,Y2,Y2,Y2,Y2,Y2,Y2,Y2,Y2,Y2,Y2,Y2,Y2,Z2,Z2,Z2,Z2,Z2,Z2,Z2,Z2,Z2,Z2,Z2,Z2,Z2,Z2,Z2,Z2,Z2] rfl rfl (any_of HT_.out (by kernel_rfl)) (fun _ _ _ h => h) (Or.inl ⟨by rfl,?_⟩) ?_ ?_
              rotate_left
              ·intro w'
               go_simp
               with_reducible rfl
              rotate_left
              ·simp only [Act.put,q12,q22,q32,i64_w,i32_w]
               rfl
              refine pure_ (i:=21) (N:=some 39) (v:=?_) (a':=?_) #[Y2,Y2,Y2,Y2,Y2,Y2,Y2,Y2,Y2,Y2,Y2,Y2,Y2,Y2,Y2,Y2,Y2,Y2,Y2,Y2,Y2,Y2,Z2,Z2,Z2,Z2,Z2,Z2,Z2,Z2,Z2,Z2,Z2,Z2,Z2,Z2,Z2,Z2] rfl rfl (any_of HT_.out (by kernel_rfl)) (fun _ _ _ h => h) (Or.inl ⟨by rfl,?_⟩) ?_ ?_
              rotate_left
              ·intro w'
               go_simp
               with_reducible rfl
              rotate_left
              ·simp only [Act.put,q12,q22,q32,i64_w,i32_w]
               rfl
              refine take_ (i:=22) (N:=some 40) (v:=?_) (a':=?_) #[Y2,Y2,Y2,Y2,Y2,Y2,Y2,Y2,Y2,Y2,Y2,Y2,Y2,Y2,Y2,Y2,Y2,Y2,Y2,Y2,Y2,Y2,Y2,Z2,Z2,Z2,Z2,Z2,Z2,Z2,Z2,Z2,Z2,Z2,Z2,Z2,Z2,Z2] rfl rfl (take_ofW HT_.out HW_.out (by kernel_rfl)) (fun _ _ _ h => h) (Or.inl ⟨by rfl,?_⟩) hHeld ?_ ?_
              rotate_left
              ·rintro w' ⟨s0,s1,s2,s3,s4,s5,s6,s7⟩
               go_simp
               with_reducible rfl
              rotate_left
              ·simp only [Act.put,q12,q22,q32,i64_w,i32_w]
               rfl
              refine one_ (i:=23) (N:=some 41) #[Y2,Y2,Y2,Y2,Y2,Y2,Y2,Y2,Y2,Y2,Y2,Y2,Y2,Y2,Y2,Y2,Y2,Y2,Y2,Y2,Y2,Y2,Y2,Y2,Z2,Z2,Z2,Z2,Z2,Z2,Z2,Z2,Z2,Z2,Z2,Z2,Z2,Z2] rfl rfl (one_of HT_.out (by kernel_rfl)) (by decide) (fun K hK => ?_)
              refine goes_ Try.func43 (by kernel_rfl) rfl #[.int .i64 ((rd_T74 l0 x3_1).f1),.int .i64 0,.int .i64 99] (by rfl) rfl rfl (by (try simp only [List.map_toArray,List.map_cons,List.map_nil]);first | done | rfl | (simp only [List.length_drop,List.length_take];rfl)) ?_
              with_reducible refine (spec_l01In.calls ((rd_T74 l0 x3_1).f1) 0 99 true _ A12.out).mono ?_
              rintro e w' ⟨rfl,⟨nd,rfl⟩⟩
              refine ⟨_,rfl,?_⟩
              refine hK.out _ _ ⟨(blk_cell BK122.out 0).trans rfl,(blk_cell BK122.out 1).trans rfl,(blk_cell BK122.out 2).trans rfl,(blk_cell BK122.out 3).trans rfl,((HB.out.cell (World.block_lt_of_cell? w _ hw124_0)).trans hw124_0),((HB.out.cell (World.block_lt_of_cell? w _ hw124_1)).trans hw124_1),((HB.out.cell (World.block_lt_of_cell? w _ hw124_2)).trans hw124_2),((HB.out.cell (World.block_lt_of_cell? w _ hw124_3)).trans hw124_3)⟩ (fun hHeld => ?_)
              clear hK K
              refine norm_ (a':=?_) ?_ ?_
              rotate_left
              ·show Act.put _ (some 41) _ = _
               simp only [Act.put,q12,q22,q32,i64_w,i32_w]
               rfl
              refine pure_ (i:=24) (N:=some 42) (v:=?_) (a':=?_) #[Y2,Y2,Y2,Y2,Y2,Y2,Y2,Y2,Y2,Y2,Y2,Y2,Y2,Y2,Y2,Y2,Y2,Y2,Y2,Y2,Y2,Y2,Y2,Y2,Y2,Z2,Z2,Z2,Z2,Z2,Z2,Z2,Z2,Z2,Z2,Z2,Z2,Z2] rfl rfl (any_of HT_.out (by kernel_rfl)) (fun _ _ _ h => h) (Or.inl ⟨by rfl,?_⟩) ?_ ?_
              rotate_left
              ·intro w'
               go_simp
               with_reducible rfl
              rotate_left
              ·simp only [Act.put,q12,q22,q32,i64_w,i32_w]
               rfl
              refine pure_ (i:=25) (N:=some 43) (v:=?_) (a':=?_) #[Y2,Y2,Y2,Y2,Y2,Y2,Y2,Y2,Y2,Y2,Y2,Y2,Y2,Y2,Y2,Y2,Y2,Y2,Y2,Y2,Y2,Y2,Y2,Y2,Y2,Y2,Z2,Z2,Z2,Z2,Z2,Z2,Z2,Z2,Z2,Z2,Z2,Z2] rfl rfl (any_of HT_.out (by kernel_rfl)) (fun _ _ _ h => h) (Or.inl ⟨by rfl,?_⟩) ?_ ?_
              rotate_left
              ·intro w'
               go_simp
               with_reducible rfl
              rotate_left
              ·simp only [Act.put,q12,q22,q32,i64_w,i32_w]
               rfl
              refine pure_ (i:=26) (N:=some 44) (v:=?_) (a':=?_) #[Y2,Y2,Y2,Y2,Y2,Y2,Y2,Y2,Y2,Y2,Y2,Y2,Y2,Y2,Y2,Y2,Y2,Y2,Y2,Y2,Y2,Y2,Y2,Y2,Y2,Y2,Y2,Z2,Z2,Z2,Z2,Z2,Z2,Z2,Z2,Z2,Z2,Z2] rfl rfl (any_of HT_.out (by kernel_rfl)) (fun _ _ _ h => h) (Or.inl ⟨by rfl,?_⟩) ?_ ?_
              rotate_left
              ·intro w'
               go_simp
               with_reducible rfl
              rotate_left
              ·simp only [Act.put,q12,q22,q32,i64_w,i32_w]
               rfl
              refine pure_ (i:=27) (N:=some 45) (v:=?_) (a':=?_) #[Y2,Y2,Y2,Y2,Y2,Y2,Y2,Y2,Y2,Y2,Y2,Y2,Y2,Y2,Y2,Y2,Y2,Y2,Y2,Y2,Y2,Y2,Y2,Y2,Y2,Y2,Y2,Y2,Z2,Z2,Z2,Z2,Z2,Z2,Z2,Z2,Z2,Z2] rfl rfl (any_of HT_.out (by kernel_rfl)) (fun _ _ _ h => h) (Or.inl ⟨by rfl,?_⟩) ?_ ?_
              rotate_left
              ·intro w'
               go_simp
               with_reducible rfl
              rotate_left
              ·simp only [Act.put,q12,q22,q32,i64_w,i32_w]
               rfl
              refine take_ (i:=28) (N:=some 46) (v:=?_) (a':=?_) #[Y2,Y2,Y2,Y2,Y2,Y2,Y2,Y2,Y2,Y2,Y2,Y2,Y2,Y2,Y2,Y2,Y2,Y2,Y2,Y2,Y2,Y2,Y2,Y2,Y2,Y2,Y2,Y2,Y2,Z2,Z2,Z2,Z2,Z2,Z2,Z2,Z2,Z2] rfl rfl (take_ofW HT_.out HW_.out (by kernel_rfl)) (fun _ _ _ h => h) (Or.inl ⟨by rfl,?_⟩) hHeld ?_ ?_
              rotate_left
              ·rintro w' ⟨s0,s1,s2,s3,s4,s5,s6,s7⟩
               go_simp
               with_reducible rfl
              rotate_left
              ·simp only [Act.put,q12,q22,q32,i64_w,i32_w]
               rfl
              refine one_ (i:=29) (N:=some 47) #[Y2,Y2,Y2,Y2,Y2,Y2,Y2,Y2,Y2,Y2,Y2,Y2,Y2,Y2,Y2,Y2,Y2,Y2,Y2,Y2,Y2,Y2,Y2,Y2,Y2,Y2,Y2,Y2,Y2,Y2,Z2,Z2,Z2,Z2,Z2,Z2,Z2,Z2] rfl rfl (one_of HT_.out (by kernel_rfl)) (by decide) (fun K hK => ?_)
              refine goes_ Try.func43 (by kernel_rfl) rfl #[.int .i64 ((rd_T74 l0 x3_1).f2),.int .i64 0,.int .i64 20000] (by rfl) rfl rfl (by (try simp only [List.map_toArray,List.map_cons,List.map_nil]);first | done | rfl | (simp only [List.length_drop,List.length_take];rfl)) ?_
              with_reducible refine (spec_l01In.calls ((rd_T74 l0 x3_1).f2) 0 20000 true _ A14.out).mono ?_
              rintro e w' ⟨rfl,⟨nd,rfl⟩⟩
              refine ⟨_,rfl,?_⟩
              refine hK.out _ _ ⟨(blk_cell BK122.out 0).trans rfl,(blk_cell BK122.out 1).trans rfl,(blk_cell BK122.out 2).trans rfl,(blk_cell BK122.out 3).trans rfl,((HB.out.cell (World.block_lt_of_cell? w _ hw124_0)).trans hw124_0),((HB.out.cell (World.block_lt_of_cell? w _ hw124_1)).trans hw124_1),((HB.out.cell (World.block_lt_of_cell? w _ hw124_2)).trans hw124_2),((HB.out.cell (World.block_lt_of_cell? w _ hw124_3)).trans hw124_3)⟩ (fun hHeld => ?_)
              clear hK K
              refine norm_ (a':=?_) ?_ ?_
              rotate_left
              ·show Act.put _ (some 47) _ = _
               simp only [Act.put,q12,q22,q32,i64_w,i32_w]
               rfl
              refine pure_ (i:=30) (N:=some 48) (v:=?_) (a':=?_) #[Y2,Y2,Y2,Y2,Y2,Y2,Y2,Y2,Y2,Y2,Y2,Y2,Y2,Y2,Y2,Y2,Y2,Y2,Y2,Y2,Y2,Y2,Y2,Y2,Y2,Y2,Y2,Y2,Y2,Y2,Y2,Z2,Z2,Z2,Z2,Z2,Z2,Z2] rfl rfl (any_of HT_.out (by kernel_rfl)) (fun _ _ _ h => h) (Or.inl ⟨by rfl,?_⟩) ?_ ?_
              rotate_left
              ·intro w'
               go_simp
               with_reducible rfl
              rotate_left
              ·simp only [Act.put,q12,q22,q32,i64_w,i32_w]
               rfl
              refine pure_ (i:=31) (N:=some 49) (v:=?_) (a':=?_) #[Y2,Y2,Y2,Y2,Y2,Y2,Y2,Y2,Y2,Y2,Y2,Y2,Y2,Y2,Y2,Y2,Y2,Y2,Y2,Y2,Y2,Y2,Y2,Y2,Y2,Y2,Y2,Y2,Y2,Y2,Y2,Y2,Z2,Z2,Z2,Z2,Z2,Z2] rfl rfl (any_of HT_.out (by kernel_rfl)) (fun _ _ _ h => h) (Or.inl ⟨by rfl,?_⟩) ?_ ?_
              rotate_left
              ·intro w'
               go_simp
               with_reducible rfl
              rotate_left
              ·simp only [Act.put,q12,q22,q32,i64_w,i32_w]
               rfl
              refine pure_ (i:=32) (N:=some 50) (v:=?_) (a':=?_) #[Y2,Y2,Y2,Y2,Y2,Y2,Y2,Y2,Y2,Y2,Y2,Y2,Y2,Y2,Y2,Y2,Y2,Y2,Y2,Y2,Y2,Y2,Y2,Y2,Y2,Y2,Y2,Y2,Y2,Y2,Y2,Y2,Y2,Z2,Z2,Z2,Z2,Z2] rfl rfl (any_of HT_.out (by kernel_rfl)) (fun _ _ _ h => h) (Or.inl ⟨by rfl,?_⟩) ?_ ?_
              rotate_left
              ·intro w'
               go_simp
               with_reducible rfl
              rotate_left
              ·simp only [Act.put,q12,q22,q32,i64_w,i32_w]
               rfl
              refine pure_ (i:=33) (N:=some 51) (v:=?_) (a':=?_) #[Y2,Y2,Y2,Y2,Y2,Y2,Y2,Y2,Y2,Y2,Y2,Y2,Y2,Y2,Y2,Y2,Y2,Y2,Y2,Y2,Y2,Y2,Y2,Y2,Y2,Y2,Y2,Y2,Y2,Y2,Y2,Y2,Y2,Y2,Z2,Z2,Z2,Z2] rfl rfl (any_of HT_.out (by kernel_rfl)) (fun _ _ _ h => h) (Or.inl ⟨by rfl,?_⟩) ?_ ?_
              rotate_left
              ·intro w'
               go_simp
               with_reducible rfl
              rotate_left
              ·simp only [Act.put,q12,q22,q32,i64_w,i32_w]
               rfl
              refine take_ (i:=34) (N:=some 52) (v:=?_) (a':=?_) #[Y2,Y2,Y2,Y2,Y2,Y2,Y2,Y2,Y2,Y2,Y2,Y2,Y2,Y2,Y2,Y2,Y2,Y2,Y2,Y2,Y2,Y2,Y2,Y2,Y2,Y2,Y2,Y2,Y2,Y2,Y2,Y2,Y2,Y2,Y2,Z2,Z2,Z2] rfl rfl (take_ofW HT_.out HW_.out (by kernel_rfl)) (fun _ _ _ h => h) (Or.inl ⟨by rfl,?_⟩) hHeld ?_ ?_
              rotate_left
              ·rintro w' ⟨s0,s1,s2,s3,s4,s5,s6,s7⟩
               go_simp
               with_reducible rfl
              rotate_left
              ·simp only [Act.put,q12,q22,q32,i64_w,i32_w]
               rfl
              refine one_ (i:=35) (N:=some 53) #[Y2,Y2,Y2,Y2,Y2,Y2,Y2,Y2,Y2,Y2,Y2,Y2,Y2,Y2,Y2,Y2,Y2,Y2,Y2,Y2,Y2,Y2,Y2,Y2,Y2,Y2,Y2,Y2,Y2,Y2,Y2,Y2,Y2,Y2,Y2,Y2,Z2,Z2] rfl rfl (one_of HT_.out (by kernel_rfl)) (by decide) (fun K hK => ?_)
              refine goes_ Try.func43 (by kernel_rfl) rfl #[.int .i64 ((rd_T74 l0 x3_1).f3),.int .i64 0,.int .i64 1000000000] (by rfl) rfl rfl (by (try simp only [List.map_toArray,List.map_cons,List.map_nil]);first | done | rfl | (simp only [List.length_drop,List.length_take];rfl)) ?_
              with_reducible refine (spec_l01In.calls ((rd_T74 l0 x3_1).f3) 0 1000000000 true _ A16.out).mono ?_
              rintro e w' ⟨rfl,⟨nd,rfl⟩⟩
              refine ⟨_,rfl,?_⟩
              refine hK.out _ _ ⟨(blk_cell BK122.out 0).trans rfl,(blk_cell BK122.out 1).trans rfl,(blk_cell BK122.out 2).trans rfl,(blk_cell BK122.out 3).trans rfl,((HB.out.cell (World.block_lt_of_cell? w _ hw124_0)).trans hw124_0),((HB.out.cell (World.block_lt_of_cell? w _ hw124_1)).trans hw124_1),((HB.out.cell (World.block_lt_of_cell? w _ hw124_2)).trans hw124_2),((HB.out.cell (World.block_lt_of_cell? w _ hw124_3)).trans hw124_3)⟩ (fun hHeld => ?_)
              clear hK K
              refine norm_ (a':=?_) ?_ ?_
              rotate_left
              ·show Act.put _ (some 53) _ = _
               simp only [Act.put,q12,q22,q32,i64_w,i32_w]
               rfl
              refine pure_ (i:=36) (N:=some 54) (v:=?_) (a':=?_) #[Y2,Y2,Y2,Y2,Y2,Y2,Y2,Y2,Y2,Y2,Y2,Y2,Y2,Y2,Y2,Y2,Y2,Y2,Y2,Y2,Y2,Y2,Y2,Y2,Y2,Y2,Y2,Y2,Y2,Y2,Y2,Y2,Y2,Y2,Y2,Y2,Y2,Z2] rfl rfl (any_of HT_.out (by kernel_rfl)) (fun _ _ _ h => h) (Or.inl ⟨by rfl,?_⟩) ?_ ?_
              rotate_left
              ·intro w'
               go_simp
               with_reducible rfl
              rotate_left
              ·simp only [Act.put,q12,q22,q32,i64_w,i32_w]
               rfl
              refine pure_ (i:=37) (N:=some 55) (v:=?_) (a':=?_) #[Y2,Y2,Y2,Y2,Y2,Y2,Y2,Y2,Y2,Y2,Y2,Y2,Y2,Y2,Y2,Y2,Y2,Y2,Y2,Y2,Y2,Y2,Y2,Y2,Y2,Y2,Y2,Y2,Y2,Y2,Y2,Y2,Y2,Y2,Y2,Y2,Y2,Y2] rfl rfl (any_of HT_.out (by kernel_rfl)) (fun _ _ _ h => h) (Or.inl ⟨by rfl,?_⟩) ?_ ?_
              rotate_left
              ·intro w'
               go_simp
               with_reducible rfl
              rotate_left
              ·simp only [Act.put,q12,q22,q32,i64_w,i32_w]
               rfl
              refine done_ (done_of HT_.out (by kernel_rfl)) ?_
              try go_wp2
              go_roundg k1
              case measure => have:=HK1.out;omega
              case rel => exact ⟨(wrap64 (x3_1 + 1)),(by first | rfl | (simp;done) | (simp [*];done)),H',⟨by have:=HK1.out;omega⟩,⟨by repeat (first | (with_reducible first | exact HB.out | apply below_alloc | apply pw_below_drewN | apply below_drew1 | refine below_set ?_ GE122.out) | exact HB.out)⟩⟩
             ·replace c17:=Bool.eq_false_iff.mpr c17
              subst c17
              have H1 : (some false) = some r:=by rw [if_neg (show ¬ (false = true) by decide)] at H;exact H
              clear H
              have H:=H1
              clear H1
              obtain rfl:=Option.some.inj H
              have p121 : 0 ≤ (x3_1 : Int):=of_decide_eq_true (by first | (with_reducible assumption) | assumption)
              have q121 : x3_1 < (l0.length : Int):=of_decide_eq_true (by first | (with_reducible assumption) | assumption)
              obtain ⟨ad121,e121,hx121_0,hx121_1,hx121_2,hx121_3⟩:=at_T74 HR0.out x3_1 p121 q121
              cases e121
              replace hx121_0:=(HB.out.cell (World.block_lt_of_cell? w _ hx121_0)).trans hx121_0
              replace hx121_1:=(HB.out.cell (World.block_lt_of_cell? w _ hx121_1)).trans hx121_1
              replace hx121_2:=(HB.out.cell (World.block_lt_of_cell? w _ hx121_2)).trans hx121_2
              replace hx121_3:=(HB.out.cell (World.block_lt_of_cell? w _ hx121_3)).trans hx121_3
              replace p121:=eq_true p121
              replace q121:=eq_true q121
              try go_wp2_with (first | ((with_reducible refine gate_dst (N:=4) rfl ?_);refine box_event ?hg (N:=4) ?hd (cs:=#[.string (⟨#[]⟩ : ByteArray),.int .i64 0,.int .i64 0,.int .i64 0]) (t:=74) ?hr ?_;(case hd => rfl);(case hg => rfl);(case hr => first | (go_simp;done) | (go_simp;rfl));intro gb122 hg w22 hbox hb;have n0_:=Aside0.mk (below_step (by repeat (first | (with_reducible first | exact HB.out | apply below_alloc | apply pw_below_drewN | apply below_drew1) | exact HB.out)) hb);have n1_:=Aside0.mk (hbox);have n2_:=Aside0.mk ((by rw [hg];exact (below_size (by repeat (first | (with_reducible first | exact HB.out | apply below_alloc | apply pw_below_drewN | apply below_drew1) | exact HB.out))) : w.heap.size ≤ gb122));have n3_:=Aside0.mk ((by rw [hg];exact (below_size (by repeat (first | (with_reducible first | exact HB.out | apply below_alloc | apply pw_below_drewN | apply below_drew1) | exact HB.out))) : w.heap.size ≤ gb122));clear HB;have HB:=n0_;have BK122:=n1_;have GW122:=n2_;have GE122:=n3_;clear n0_ n1_ n2_ n3_;clear hb hbox hg;have hcz23_0 : w22.cell? ⟨gb122,0,none⟩ = some (.string (⟨#[]⟩ : ByteArray)):=(blk_cell BK122.out 0).trans rfl;have hcz23_1 : w22.cell? ⟨gb122,1,none⟩ = some (.int .i64 0):=(blk_cell BK122.out 1).trans rfl;have hcz23_2 : w22.cell? ⟨gb122,2,none⟩ = some (.int .i64 0):=(blk_cell BK122.out 2).trans rfl;have hcz23_3 : w22.cell? ⟨gb122,3,none⟩ = some (.int .i64 0):=(blk_cell BK122.out 3).trans rfl;have hfz23_0:=blk_frozen BK122.out 0;have hfz23_1:=blk_frozen BK122.out 1;have hfz23_2:=blk_frozen BK122.out 2;have hfz23_3:=blk_frozen BK122.out 3))
              have n0_ : Aside0 (((((w22.setCell ⟨gb122,0,none⟩ (.string ((rd_T74 l0 x3_1).f0))).setCell ⟨gb122,1,none⟩ (.int .i64 ((rd_T74 l0 x3_1).f1))).setCell ⟨gb122,2,none⟩ (.int .i64 ((rd_T74 l0 x3_1).f2))).setCell ⟨gb122,3,none⟩ (.int .i64 ((rd_T74 l0 x3_1).f3))).heap[gb122]? = some (.cells #[.string ((rd_T74 l0 x3_1).f0),.int .i64 ((rd_T74 l0 x3_1).f1),.int .i64 ((rd_T74 l0 x3_1).f2),.int .i64 ((rd_T74 l0 x3_1).f3)] 74 (0,0))):=⟨by (with_reducible repeat (first | refine blk_drewN ?_ _ | refine blk_drew ?_ | refine blk_alloc ?_ _));refine blk_put (cs:=#[.string ((rd_T74 l0 x3_1).f0),.int .i64 ((rd_T74 l0 x3_1).f1),.int .i64 ((rd_T74 l0 x3_1).f2),.int .i64 0]) ?_ 3 _ rfl;(with_reducible repeat (first | refine blk_drewN ?_ _ | refine blk_drew ?_ | refine blk_alloc ?_ _));refine blk_put (cs:=#[.string ((rd_T74 l0 x3_1).f0),.int .i64 ((rd_T74 l0 x3_1).f1),.int .i64 0,.int .i64 0]) ?_ 2 _ rfl;(with_reducible repeat (first | refine blk_drewN ?_ _ | refine blk_drew ?_ | refine blk_alloc ?_ _));refine blk_put (cs:=#[.string ((rd_T74 l0 x3_1).f0),.int .i64 0,.int .i64 0,.int .i64 0]) ?_ 1 _ rfl;(with_reducible repeat (first | refine blk_drewN ?_ _ | refine blk_drew ?_ | refine blk_alloc ?_ _));refine blk_put (cs:=#[.string (⟨#[]⟩ : ByteArray),.int .i64 0,.int .i64 0,.int .i64 0]) ?_ 0 _ rfl;(with_reducible repeat (first | refine blk_drewN ?_ _ | refine blk_drew ?_ | refine blk_alloc ?_ _));exact BK122.out⟩
              have n1_ : Aside0 (Below w.heap.size w ((((w22.setCell ⟨gb122,0,none⟩ (.string ((rd_T74 l0 x3_1).f0))).setCell ⟨gb122,1,none⟩ (.int .i64 ((rd_T74 l0 x3_1).f1))).setCell ⟨gb122,2,none⟩ (.int .i64 ((rd_T74 l0 x3_1).f2))).setCell ⟨gb122,3,none⟩ (.int .i64 ((rd_T74 l0 x3_1).f3)))):=⟨by repeat (first | (with_reducible first | exact HB.out | apply below_alloc | apply pw_below_drewN | apply below_drew1 | refine below_set ?_ GE122.out) | exact HB.out)⟩
              (try clear BK122)
              (try clear HB)
              generalize ((((w22.setCell ⟨gb122,0,none⟩ (.string ((rd_T74 l0 x3_1).f0))).setCell ⟨gb122,1,none⟩ (.int .i64 ((rd_T74 l0 x3_1).f1))).setCell ⟨gb122,2,none⟩ (.int .i64 ((rd_T74 l0 x3_1).f2))).setCell ⟨gb122,3,none⟩ (.int .i64 ((rd_T74 l0 x3_1).f3))) = w24 at n0_ n1_ ⊢
              have BK122:=n0_
              have HB:=n1_
              clear n0_ n1_
              have n0_:=Aside0.mk (blk_drew BK122.out)
              have n1_:=Aside0.mk (below_drew1 HB.out)
              clear BK122
              clear HB
              have BK122:=n0_
              have HB:=n1_
              clear n0_ n1_
              have p124 : 0 ≤ ((ji8) : Int):=of_decide_eq_true (by first | (with_reducible assumption) | assumption)
              have q124 : (ji8) < (l0.length : Int):=of_decide_eq_true (by first | (with_reducible assumption) | assumption)
              obtain ⟨ad124,e124,hx124_0,hx124_1,hx124_2,hx124_3⟩:=at_T74 HR0.out (ji8) p124 q124
              have hw124_3:=hx124_3
              have hw124_2:=hx124_2
              have hw124_1:=hx124_1
              have hw124_0:=hx124_0
              obtain rfl : ad121 = ad124:=(by injection e124)
              replace hx124_0:=(HB.out.cell (World.block_lt_of_cell? w _ hx124_0)).trans hx124_0
              replace hx124_1:=(HB.out.cell (World.block_lt_of_cell? w _ hx124_1)).trans hx124_1
              replace hx124_2:=(HB.out.cell (World.block_lt_of_cell? w _ hx124_2)).trans hx124_2
              replace hx124_3:=(HB.out.cell (World.block_lt_of_cell? w _ hx124_3)).trans hx124_3
              replace p124:=eq_true p124
              replace q124:=eq_true q124
              refine start_ (n:=38) (S:=fun w' => w'.cell? ⟨gb122,0,none⟩ = some (.string ((rd_T74 l0 x3_1).f0)) ∧ w'.cell? ⟨gb122,1,none⟩ = some (.int .i64 ((rd_T74 l0 x3_1).f1)) ∧ w'.cell? ⟨gb122,2,none⟩ = some (.int .i64 ((rd_T74 l0 x3_1).f2)) ∧ w'.cell? ⟨gb122,3,none⟩ = some (.int .i64 ((rd_T74 l0 x3_1).f3)) ∧ w'.cell? (ad121.add (((ji8)).toNat * 4)) = some (.string ((rd_T74 l0 (ji8)).f0)) ∧ w'.cell? ⟨(ad121.add (((ji8)).toNat * 4)).block,(ad121.add (((ji8)).toNat * 4)).off + 1,none⟩ = some (.int .i64 ((rd_T74 l0 (ji8)).f1)) ∧ w'.cell? ⟨(ad121.add (((ji8)).toNat * 4)).block,(ad121.add (((ji8)).toNat * 4)).off + 2,none⟩ = some (.int .i64 ((rd_T74 l0 (ji8)).f2)) ∧ w'.cell? ⟨(ad121.add (((ji8)).toNat * 4)).block,(ad121.add (((ji8)).toNat * 4)).off + 3,none⟩ = some (.int .i64 ((rd_T74 l0 (ji8)).f3))) (ds:=[]) #[Z2,Z2,Z2,Z2,Z2,Z2,Z2,Z2,Z2,Z2,Z2,Z2,Z2,Z2,Z2,Z2,Z2,Z2,Z2,Z2,Z2,Z2,Z2,Z2,Z2,Z2,Z2,Z2,Z2,Z2,Z2,Z2,Z2,Z2,Z2,Z2,Z2,Z2] (by kernel_rfl) rfl rfl ⟨(blk_cell BK122.out 0).trans rfl,(blk_cell BK122.out 1).trans rfl,(blk_cell BK122.out 2).trans rfl,(blk_cell BK122.out 3).trans rfl,((HB.out.cell (World.block_lt_of_cell? w _ hw124_0)).trans hw124_0),((HB.out.cell (World.block_lt_of_cell? w _ hw124_1)).trans hw124_1),((HB.out.cell (World.block_lt_of_cell? w _ hw124_2)).trans hw124_2),((HB.out.cell (World.block_lt_of_cell? w _ hw124_3)).trans hw124_3)⟩ (fun hHeld => ?_);refine with_tabW spec_DirOk.tab7 spec_DirOk.bits7 (fun HT_ HW_ => ?_)
              generalize w24.drew = w25 at BK122 HB hx124_0 hx124_1 hx124_2 hx124_3 hHeld ⊢
              refine pure_ (i:=0) (N:=some 18) (v:=?_) (a':=?_) #[Y2,Z2,Z2,Z2,Z2,Z2,Z2,Z2,Z2,Z2,Z2,Z2,Z2,Z2,Z2,Z2,Z2,Z2,Z2,Z2,Z2,Z2,Z2,Z2,Z2,Z2,Z2,Z2,Z2,Z2,Z2,Z2,Z2,Z2,Z2,Z2,Z2,Z2] rfl rfl (any_of HT_.out (by kernel_rfl)) (fun _ _ _ h => h) (Or.inl ⟨by rfl,?_⟩) ?_ ?_
              rotate_left
              ·intro w'
               go_simp
               with_reducible rfl
              rotate_left
              ·simp only [Act.put,q12,q22,q32,i64_w,i32_w]
               rfl
              refine take_ (i:=1) (N:=some 19) (v:=?_) (a':=?_) #[Y2,Y2,Z2,Z2,Z2,Z2,Z2,Z2,Z2,Z2,Z2,Z2,Z2,Z2,Z2,Z2,Z2,Z2,Z2,Z2,Z2,Z2,Z2,Z2,Z2,Z2,Z2,Z2,Z2,Z2,Z2,Z2,Z2,Z2,Z2,Z2,Z2,Z2] rfl rfl (take_ofW HT_.out HW_.out (by kernel_rfl)) (fun _ _ _ h => h) (Or.inl ⟨by rfl,?_⟩) hHeld ?_ ?_
              rotate_left
              ·rintro w' ⟨s0,s1,s2,s3,s4,s5,s6,s7⟩
               go_simp
               with_reducible rfl
              rotate_left
              ·simp only [Act.put,q12,q22,q32,i64_w,i32_w]
               rfl
              refine pure_ (i:=2) (N:=some 20) (v:=?_) (a':=?_) #[Y2,Y2,Y2,Z2,Z2,Z2,Z2,Z2,Z2,Z2,Z2,Z2,Z2,Z2,Z2,Z2,Z2,Z2,Z2,Z2,Z2,Z2,Z2,Z2,Z2,Z2,Z2,Z2,Z2,Z2,Z2,Z2,Z2,Z2,Z2,Z2,Z2,Z2] rfl rfl (any_of HT_.out (by kernel_rfl)) (fun _ _ _ h => h) (Or.inl ⟨by rfl,?_⟩) ?_ ?_
              rotate_left
              ·intro w'
               go_simp
               with_reducible rfl
              rotate_left
              ·simp only [Act.put,q12,q22,q32,i64_w,i32_w]
               rfl
              refine one_ (i:=3) (N:=some 21) #[Y2,Y2,Y2,Y2,Z2,Z2,Z2,Z2,Z2,Z2,Z2,Z2,Z2,Z2,Z2,Z2,Z2,Z2,Z2,Z2,Z2,Z2,Z2,Z2,Z2,Z2,Z2,Z2,Z2,Z2,Z2,Z2,Z2,Z2,Z2,Z2,Z2,Z2] rfl rfl (one_of HT_.out (by kernel_rfl)) (by decide) (fun K hK => ?_)
              refine goes_ Try.func43 (by kernel_rfl) rfl #[.int .i64 (((rd_T74 l0 x3_1).f0).size : Int),.int .i64 1,.int .i64 20] (by rfl) rfl rfl (by (try simp only [List.map_toArray,List.map_cons,List.map_nil]);first | done | rfl | (simp only [List.length_drop,List.length_take];rfl)) ?_
              with_reducible refine (spec_l01In.calls (((rd_T74 l0 x3_1).f0).size : Int) 1 20 true _ A5.out).mono ?_
              rintro e w' ⟨rfl,⟨nd,rfl⟩⟩
              refine ⟨_,rfl,?_⟩
              refine hK.out _ _ ⟨(blk_cell BK122.out 0).trans rfl,(blk_cell BK122.out 1).trans rfl,(blk_cell BK122.out 2).trans rfl,(blk_cell BK122.out 3).trans rfl,((HB.out.cell (World.block_lt_of_cell? w _ hw124_0)).trans hw124_0),((HB.out.cell (World.block_lt_of_cell? w _ hw124_1)).trans hw124_1),((HB.out.cell (World.block_lt_of_cell? w _ hw124_2)).trans hw124_2),((HB.out.cell (World.block_lt_of_cell? w _ hw124_3)).trans hw124_3)⟩ (fun hHeld => ?_)
              clear hK K
              refine norm_ (a':=?_) ?_ ?_
              rotate_left
              ·show Act.put _ (some 21) _ = _
               simp only [Act.put,q12,q22,q32,i64_w,i32_w]
               rfl
              refine pure_ (i:=4) (N:=some 22) (v:=?_) (a':=?_) #[Y2,Y2,Y2,Y2,Y2,Z2,Z2,Z2,Z2,Z2,Z2,Z2,Z2,Z2,Z2,Z2,Z2,Z2,Z2,Z2,Z2,Z2,Z2,Z2,Z2,Z2,Z2,Z2,Z2,Z2,Z2,Z2,Z2,Z2,Z2,Z2,Z2,Z2] rfl rfl (any_of HT_.out (by kernel_rfl)) (fun _ _ _ h => h) (Or.inl ⟨by rfl,?_⟩) ?_ ?_
              rotate_left
              ·intro w'
               go_simp
               with_reducible rfl
              rotate_left
              ·simp only [Act.put,q12,q22,q32,i64_w,i32_w]
               rfl
              refine pure_ (i:=5) (N:=some 23) (v:=?_) (a':=?_) #[Y2,Y2,Y2,Y2,Y2,Y2,Z2,Z2,Z2,Z2,Z2,Z2,Z2,Z2,Z2,Z2,Z2,Z2,Z2,Z2,Z2,Z2,Z2,Z2,Z2,Z2,Z2,Z2,Z2,Z2,Z2,Z2,Z2,Z2,Z2,Z2,Z2,Z2] rfl rfl (any_of HT_.out (by kernel_rfl)) (fun _ _ _ h => h) (Or.inl ⟨by rfl,?_⟩) ?_ ?_
              rotate_left
              ·intro w'
               go_simp
               with_reducible rfl
              rotate_left
              ·simp only [Act.put,q12,q22,q32,i64_w,i32_w]
               rfl
              refine pure_ (i:=6) (N:=some 24) (v:=?_) (a':=?_) #[Y2,Y2,Y2,Y2,Y2,Y2,Y2,Z2,Z2,Z2,Z2,Z2,Z2,Z2,Z2,Z2,Z2,Z2,Z2,Z2,Z2,Z2,Z2,Z2,Z2,Z2,Z2,Z2,Z2,Z2,Z2,Z2,Z2,Z2,Z2,Z2,Z2,Z2] rfl rfl (any_of HT_.out (by kernel_rfl)) (fun _ _ _ h => h) (Or.inl ⟨by rfl,?_⟩) ?_ ?_
              rotate_left
              ·intro w'
               go_simp
               with_reducible rfl
              rotate_left
              ·simp only [Act.put,q12,q22,q32,i64_w,i32_w]
               rfl
              refine pure_ (i:=7) (N:=some 25) (v:=?_) (a':=?_) #[Y2,Y2,Y2,Y2,Y2,Y2,Y2,Y2,Z2,Z2,Z2,Z2,Z2,Z2,Z2,Z2,Z2,Z2,Z2,Z2,Z2,Z2,Z2,Z2,Z2,Z2,Z2,Z2,Z2,Z2,Z2,Z2,Z2,Z2,Z2,Z2,Z2,Z2] rfl rfl (any_of HT_.out (by kernel_rfl)) (fun _ _ _ h => h) (Or.inl ⟨by rfl,?_⟩) ?_ ?_
              rotate_left
              ·intro w'
               go_simp
               with_reducible rfl
              rotate_left
              ·simp only [Act.put,q12,q22,q32,i64_w,i32_w]
               rfl
              refine pure_ (i:=8) (N:=some 26) (v:=?_) (a':=?_) #[Y2,Y2,Y2,Y2,Y2,Y2,Y2,Y2,Y2,Z2,Z2,Z2,Z2,Z2,Z2,Z2,Z2,Z2,Z2,Z2,Z2,Z2,Z2,Z2,Z2,Z2,Z2,Z2,Z2,Z2,Z2,Z2,Z2,Z2,Z2,Z2,Z2,Z2] rfl rfl (any_of HT_.out (by kernel_rfl)) (fun _ _ _ h => h) (Or.inl ⟨by rfl,?_⟩) ?_ ?_
              rotate_left
              ·intro w'
               go_simp
               with_reducible rfl
              rotate_left
              ·simp only [Act.put,q12,q22,q32,i64_w,i32_w]
               rfl
              refine pure_ (i:=9) (N:=some 27) (v:=?_) (a':=?_) #[Y2,Y2,Y2,Y2,Y2,Y2,Y2,Y2,Y2,Y2,Z2,Z2,Z2,Z2,Z2,Z2,Z2,Z2,Z2,Z2,Z2,Z2,Z2,Z2,Z2,Z2,Z2,Z2,Z2,Z2,Z2,Z2,Z2,Z2,Z2,Z2,Z2,Z2] rfl rfl (any_of HT_.out (by kernel_rfl)) (fun _ _ _ h => h) (Or.inl ⟨by rfl,?_⟩) ?_ ?_
              rotate_left
              ·intro w'
               go_simp
               with_reducible rfl
              rotate_left
              ·simp only [Act.put,q12,q22,q32,i64_w,i32_w]
               rfl
              refine pure_ (i:=10) (N:=some 28) (v:=?_) (a':=?_) #[Y2,Y2,Y2,Y2,Y2,Y2,Y2,Y2,Y2,Y2,Y2,Z2,Z2,Z2,Z2,Z2,Z2,Z2,Z2,Z2,Z2,Z2,Z2,Z2,Z2,Z2,Z2,Z2,Z2,Z2,Z2,Z2,Z2,Z2,Z2,Z2,Z2,Z2] rfl rfl (any_of HT_.out (by kernel_rfl)) (fun _ _ _ h => h) (Or.inl ⟨by rfl,?_⟩) ?_ ?_
              rotate_left
              ·intro w'
               go_simp
               with_reducible rfl
              rotate_left
              ·simp only [Act.put,q12,q22,q32,i64_w,i32_w]
               rfl
              refine pure_ (i:=11) (N:=some 29) (v:=?_) (a':=?_) #[Y2,Y2,Y2,Y2,Y2,Y2,Y2,Y2,Y2,Y2,Y2,Y2,Z2,Z2,Z2,Z2,Z2,Z2,Z2,Z2,Z2,Z2,Z2,Z2,Z2,Z2,Z2,Z2,Z2,Z2,Z2,Z2,Z2,Z2,Z2,Z2,Z2,Z2] rfl rfl (any_of HT_.out (by kernel_rfl)) (fun _ _ _ h => h) (Or.inl ⟨by rfl,?_⟩) ?_ ?_
              rotate_left
              ·intro w'
               go_simp
               with_reducible rfl
              rotate_left
              ·simp only [Act.put,q12,q22,q32,i64_w,i32_w]
               rfl
              refine pure_ (i:=12) (N:=some 30) (v:=?_) (a':=?_) #[Y2,Y2,Y2,Y2,Y2,Y2,Y2,Y2,Y2,Y2,Y2,Y2,Y2,Z2,Z2,Z2,Z2,Z2,Z2,Z2,Z2,Z2,Z2,Z2,Z2,Z2,Z2,Z2,Z2,Z2,Z2,Z2,Z2,Z2,Z2,Z2,Z2,Z2] rfl rfl (any_of HT_.out (by kernel_rfl)) (fun _ _ _ h => h) (Or.inl ⟨by rfl,?_⟩) ?_ ?_
              rotate_left
              ·intro w'
               go_simp
               with_reducible rfl
              rotate_left
              ·simp only [Act.put,q12,q22,q32,i64_w,i32_w]
               rfl
              refine pure_ (i:=13) (N:=some 31) (v:=?_) (a':=?_) #[Y2,Y2,Y2,Y2,Y2,Y2,Y2,Y2,Y2,Y2,Y2,Y2,Y2,Y2,Z2,Z2,Z2,Z2,Z2,Z2,Z2,Z2,Z2,Z2,Z2,Z2,Z2,Z2,Z2,Z2,Z2,Z2,Z2,Z2,Z2,Z2,Z2,Z2] rfl rfl (any_of HT_.out (by kernel_rfl)) (fun _ _ _ h => h) (Or.inl ⟨by rfl,?_⟩) ?_ ?_
              rotate_left
              ·intro w'
               go_simp
               with_reducible rfl
              rotate_left
              ·simp only [Act.put,q12,q22,q32,i64_w,i32_w]
               rfl
              refine pure_ (i:=15) (N:=some 33) (v:=?_) (a':=?_) #[Y2,Y2,Y2,Y2,Y2,Y2,Y2,Y2,Y2,Y2,Y2,Y2,Y2,Y2,Z2,Y2,Z2,Z2,Z2,Z2,Z2,Z2,Z2,Z2,Z2,Z2,Z2,Z2,Z2,Z2,Z2,Z2,Z2,Z2,Z2,Z2,Z2,Z2] rfl rfl (any_of HT_.out (by kernel_rfl)) (fun _ _ _ h => h) (Or.inl ⟨by rfl,?_⟩) ?_ ?_
              rotate_left
              ·intro w'
               go_simp
               with_reducible rfl
              rotate_left
              ·simp only [Act.put,q12,q22,q32,i64_w,i32_w]
               rfl
              refine take_ (i:=14) (N:=some 32) (v:=?_) (a':=?_) #[Y2,Y2,Y2,Y2,Y2,Y2,Y2,Y2,Y2,Y2,Y2,Y2,Y2,Y2,Y2,Y2,Z2,Z2,Z2,Z2,Z2,Z2,Z2,Z2,Z2,Z2,Z2,Z2,Z2,Z2,Z2,Z2,Z2,Z2,Z2,Z2,Z2,Z2] rfl rfl (take_ofW HT_.out HW_.out (by kernel_rfl)) (fun _ _ _ h => h) (Or.inl ⟨by rfl,?_⟩) hHeld ?_ ?_
              rotate_left
              ·rintro w' ⟨s0,s1,s2,s3,s4,s5,s6,s7⟩
               go_simp
               with_reducible rfl
              rotate_left
              ·simp only [Act.put,q12,q22,q32,i64_w,i32_w]
               rfl
              refine take_ (i:=16) (N:=some 34) (v:=?_) (a':=?_) #[Y2,Y2,Y2,Y2,Y2,Y2,Y2,Y2,Y2,Y2,Y2,Y2,Y2,Y2,Y2,Y2,Y2,Z2,Z2,Z2,Z2,Z2,Z2,Z2,Z2,Z2,Z2,Z2,Z2,Z2,Z2,Z2,Z2,Z2,Z2,Z2,Z2,Z2] rfl rfl (take_ofW HT_.out HW_.out (by kernel_rfl)) (fun _ _ _ h => h) (Or.inl ⟨by rfl,?_⟩) hHeld ?_ ?_
              rotate_left
              ·rintro w' ⟨s0,s1,s2,s3,s4,s5,s6,s7⟩
               go_simp
               with_reducible rfl
              rotate_left
              ·simp only [Act.put,q12,q22,q32,i64_w,i32_w]
               rfl
              refine pure_ (i:=17) (N:=some 35) (v:=?_) (a':=?_) #[Y2,Y2,Y2,Y2,Y2,Y2,Y2,Y2,Y2,Y2,Y2,Y2,Y2,Y2,Y2,Y2,Y2,Y2,Z2,Z2,Z2,Z2,Z2,Z2,Z2,Z2,Z2,Z2,Z2,Z2,Z2,Z2,Z2,Z2,Z2,Z2,Z2,Z2] rfl rfl (any_of HT_.out (by kernel_rfl)) (fun _ _ _ h => h) (Or.inl ⟨by rfl,?_⟩) ?_ ?_
              rotate_left
              ·intro w'
               go_simp
               with_reducible rfl
              rotate_left
              ·simp only [Act.put,q12,q22,q32,i64_w,i32_w]
               rfl
              refine pure_ (i:=18) (N:=some 36) (v:=?_) (a':=?_) #[Y2,Y2,Y2,Y2,Y2,Y2,Y2,Y2,Y2,Y2,Y2,Y2,Y2,Y2,Y2,Y2,Y2,Y2,Y2,Z2,Z2,Z2,Z2,Z2,Z2,Z2,Z2,Z2,Z2,Z2,Z2,Z2,Z2,Z2,Z2,Z2,Z2,Z2] rfl rfl (any_of HT_.out (by kernel_rfl)) (fun _ _ _ h => h) (Or.inl ⟨by rfl,?_⟩) ?_ ?_
              rotate_left
              ·intro w'
               go_simp
               with_reducible rfl
              rotate_left
              ·simp only [Act.put,q12,q22,q32,i64_w,i32_w]
               rfl
              refine pure_ (i:=19) (N:=some 37) (v:=?_) (a':=?_) #[Y2,Y2,Y2,Y2,Y2,Y2,Y2,Y2,Y2,Y2,Y2,Y2,Y2,Y2,Y2,Y2,Y2,Y2,Y2,Y2,Z2,Z2,Z2,Z2,Z2,Z2,Z2,Z2,Z2,Z2,Z2,Z2,Z2,Z2,Z2,Z2,Z2,Z2] rfl rfl (any_of HT_.out (by kernel_rfl)) (fun _ _ _ h => h) (Or.inl ⟨by rfl,?_⟩) ?_ ?_
              rotate_left
              ·intro w'
               go_simp
               with_reducible rfl
              rotate_left
              ·simp only [Act.put,q12,q22,q32,i64_w,i32_w]
               rfl
              refine pure_ (i:=20) (N:=some 38) (v:=?_) (a':=?_) #[Y2,Y2,Y2,Y2,Y2,Y2,Y2,Y2,Y2,Y2,Y2,Y2,Y2,Y2,Y2,Y2,Y2,Y2,Y2,Y2,Y2,Z2,Z2,Z2,Z2,Z2,Z2,Z2,Z2,Z2,Z2,Z2,Z2,Z2,Z2,Z2,Z2,Z2] rfl rfl (any_of HT_.out (by kernel_rfl)) (fun _ _ _ h => h) (Or.inl ⟨by rfl,?_⟩) ?_ ?_
              rotate_left
              ·intro w'
               go_simp
               with_reducible rfl
              rotate_left
              ·simp only [Act.put,q12,q22,q32,i64_w,i32_w]
               rfl
              refine pure_ (i:=21) (N:=some 39) (v:=?_) (a':=?_) #[Y2,Y2,Y2,Y2,Y2,Y2,Y2,Y2,Y2,Y2,Y2,Y2,Y2,Y2,Y2,Y2,Y2,Y2,Y2,Y2,Y2,Y2,Z2,Z2,Z2,Z2,Z2,Z2,Z2,Z2,Z2,Z2,Z2,Z2,Z2,Z2,Z2,Z2] rfl rfl (any_of HT_.out (by kernel_rfl)) (fun _ _ _ h => h) (Or.inl ⟨by rfl,?_⟩) ?_ ?_
              rotate_left
              ·intro w'
               go_simp
               with_reducible rfl
              rotate_left
              ·simp only [Act.put,q12,q22,q32,i64_w,i32_w]
               rfl
              refine take_ (i:=22) (N:=some 40) (v:=?_) (a':=?_) #[Y2,Y2,Y2,Y2,Y2,Y2,Y2,Y2,Y2,Y2,Y2,Y2,Y2,Y2,Y2,Y2,Y2,Y2,Y2,Y2,Y2,Y2,Y2,Z2,Z2,Z2,Z2,Z2,Z2,Z2,Z2,Z2,Z2,Z2,Z2,Z2,Z2,Z2] rfl rfl (take_ofW HT_.out HW_.out (by kernel_rfl)) (fun _ _ _ h => h) (Or.inl ⟨by rfl,?_⟩) hHeld ?_ ?_
              rotate_left
              ·rintro w' ⟨s0,s1,s2,s3,s4,s5,s6,s7⟩
               go_simp
               with_reducible rfl
              rotate_left
              ·simp only [Act.put,q12,q22,q32,i64_w,i32_w]
               rfl
              refine one_ (i:=23) (N:=some 41) #[Y2,Y2,Y2,Y2,Y2,Y2,Y2,Y2,Y2,Y2,Y2,Y2,Y2,Y2,Y2,Y2,Y2,Y2,Y2,Y2,Y2,Y2,Y2,Y2,Z2,Z2,Z2,Z2,Z2,Z2,Z2,Z2,Z2,Z2,Z2,Z2,Z2,Z2] rfl rfl (one_of HT_.out (by kernel_rfl)) (by decide) (fun K hK => ?_)
              refine goes_ Try.func43 (by kernel_rfl) rfl #[.int .i64 ((rd_T74 l0 x3_1).f1),.int .i64 0,.int .i64 99] (by rfl) rfl rfl (by (try simp only [List.map_toArray,List.map_cons,List.map_nil]);first | done | rfl | (simp only [List.length_drop,List.length_take];rfl)) ?_
              with_reducible refine (spec_l01In.calls ((rd_T74 l0 x3_1).f1) 0 99 true _ A12.out).mono ?_
              rintro e w' ⟨rfl,⟨nd,rfl⟩⟩
              refine ⟨_,rfl,?_⟩
              refine hK.out _ _ ⟨(blk_cell BK122.out 0).trans rfl,(blk_cell BK122.out 1).trans rfl,(blk_cell BK122.out 2).trans rfl,(blk_cell BK122.out 3).trans rfl,((HB.out.cell (World.block_lt_of_cell? w _ hw124_0)).trans hw124_0),((HB.out.cell (World.block_lt_of_cell? w _ hw124_1)).trans hw124_1),((HB.out.cell (World.block_lt_of_cell? w _ hw124_2)).trans hw124_2),((HB.out.cell (World.block_lt_of_cell? w _ hw124_3)).trans hw124_3)⟩ (fun hHeld => ?_)
              clear hK K
              refine norm_ (a':=?_) ?_ ?_
              rotate_left
              ·show Act.put _ (some 41) _ = _
               simp only [Act.put,q12,q22,q32,i64_w,i32_w]
               rfl
              refine pure_ (i:=24) (N:=some 42) (v:=?_) (a':=?_) #[Y2,Y2,Y2,Y2,Y2,Y2,Y2,Y2,Y2,Y2,Y2,Y2,Y2,Y2,Y2,Y2,Y2,Y2,Y2,Y2,Y2,Y2,Y2,Y2,Y2,Z2,Z2,Z2,Z2,Z2,Z2,Z2,Z2,Z2,Z2,Z2,Z2,Z2] rfl rfl (any_of HT_.out (by kernel_rfl)) (fun _ _ _ h => h) (Or.inl ⟨by rfl,?_⟩) ?_ ?_
              rotate_left
              ·intro w'
               go_simp
               with_reducible rfl
              rotate_left
              ·simp only [Act.put,q12,q22,q32,i64_w,i32_w]
               rfl
              refine pure_ (i:=25) (N:=some 43) (v:=?_) (a':=?_) #[Y2,Y2,Y2,Y2,Y2,Y2,Y2,Y2,Y2,Y2,Y2,Y2,Y2,Y2,Y2,Y2,Y2,Y2,Y2,Y2,Y2,Y2,Y2,Y2,Y2,Y2,Z2,Z2,Z2,Z2,Z2,Z2,Z2,Z2,Z2,Z2,Z2,Z2] rfl rfl (any_of HT_.out (by kernel_rfl)) (fun _ _ _ h => h) (Or.inl ⟨by rfl,?_⟩) ?_ ?_
              rotate_left
              ·intro w'
               go_simp
               with_reducible rfl
              rotate_left
              ·simp only [Act.put,q12,q22,q32,i64_w,i32_w]
               rfl
              refine pure_ (i:=26) (N:=some 44) (v:=?_) (a':=?_) #[Y2,Y2,Y2,Y2,Y2,Y2,Y2,Y2,Y2,Y2,Y2,Y2,Y2,Y2,Y2,Y2,Y2,Y2,Y2,Y2,Y2,Y2,Y2,Y2,Y2,Y2,Y2,Z2,Z2,Z2,Z2,Z2,Z2,Z2,Z2,Z2,Z2,Z2] rfl rfl (any_of HT_.out (by kernel_rfl)) (fun _ _ _ h => h) (Or.inl ⟨by rfl,?_⟩) ?_ ?_
              rotate_left
              ·intro w'
               go_simp
               with_reducible rfl
              rotate_left
              ·simp only [Act.put,q12,q22,q32,i64_w,i32_w]
               rfl
              refine pure_ (i:=27) (N:=some 45) (v:=?_) (a':=?_) #[Y2,Y2,Y2,Y2,Y2,Y2,Y2,Y2,Y2,Y2,Y2,Y2,Y2,Y2,Y2,Y2,Y2,Y2,Y2,Y2,Y2,Y2,Y2,Y2,Y2,Y2,Y2,Y2,Z2,Z2,Z2,Z2,Z2,Z2,Z2,Z2,Z2,Z2] rfl rfl (any_of HT_.out (by kernel_rfl)) (fun _ _ _ h => h) (Or.inl ⟨by rfl,?_⟩) ?_ ?_
              rotate_left
              ·intro w'
               go_simp
               with_reducible rfl
              rotate_left
              ·simp only [Act.put,q12,q22,q32,i64_w,i32_w]
               rfl
              refine take_ (i:=28) (N:=some 46) (v:=?_) (a':=?_) #[Y2,Y2,Y2,Y2,Y2,Y2,Y2,Y2,Y2,Y2,Y2,Y2,Y2,Y2,Y2,Y2,Y2,Y2,Y2,Y2,Y2,Y2,Y2,Y2,Y2,Y2,Y2,Y2,Y2,Z2,Z2,Z2,Z2,Z2,Z2,Z2,Z2,Z2] rfl rfl (take_ofW HT_.out HW_.out (by kernel_rfl)) (fun _ _ _ h => h) (Or.inl ⟨by rfl,?_⟩) hHeld ?_ ?_
              rotate_left
              ·rintro w' ⟨s0,s1,s2,s3,s4,s5,s6,s7⟩
               go_simp
               with_reducible rfl
              rotate_left
              ·simp only [Act.put,q12,q22,q32,i64_w,i32_w]
               rfl
              refine one_ (i:=29) (N:=some 47) #[Y2,Y2,Y2,Y2,Y2,Y2,Y2,Y2,Y2,Y2,Y2,Y2,Y2,Y2,Y2,Y2,Y2,Y2,Y2,Y2,Y2,Y2,Y2,Y2,Y2,Y2,Y2,Y2,Y2,Y2,Z2,Z2,Z2,Z2,Z2,Z2,Z2,Z2] rfl rfl (one_of HT_.out (by kernel_rfl)) (by decide) (fun K hK => ?_)
              refine goes_ Try.func43 (by kernel_rfl) rfl #[.int .i64 ((rd_T74 l0 x3_1).f2),.int .i64 0,.int .i64 20000] (by rfl) rfl rfl (by (try simp only [List.map_toArray,List.map_cons,List.map_nil]);first | done | rfl | (simp only [List.length_drop,List.length_take];rfl)) ?_
              with_reducible refine (spec_l01In.calls ((rd_T74 l0 x3_1).f2) 0 20000 true _ A14.out).mono ?_
              rintro e w' ⟨rfl,⟨nd,rfl⟩⟩
              refine ⟨_,rfl,?_⟩
              refine hK.out _ _ ⟨(blk_cell BK122.out 0).trans rfl,(blk_cell BK122.out 1).trans rfl,(blk_cell BK122.out 2).trans rfl,(blk_cell BK122.out 3).trans rfl,((HB.out.cell (World.block_lt_of_cell? w _ hw124_0)).trans hw124_0),((HB.out.cell (World.block_lt_of_cell? w _ hw124_1)).trans hw124_1),((HB.out.cell (World.block_lt_of_cell? w _ hw124_2)).trans hw124_2),((HB.out.cell (World.block_lt_of_cell? w _ hw124_3)).trans hw124_3)⟩ (fun hHeld => ?_)
              clear hK K
              refine norm_ (a':=?_) ?_ ?_
              rotate_left
              ·show Act.put _ (some 47) _ = _
               simp only [Act.put,q12,q22,q32,i64_w,i32_w]
               rfl
              refine pure_ (i:=30) (N:=some 48) (v:=?_) (a':=?_) #[Y2,Y2,Y2,Y2,Y2,Y2,Y2,Y2,Y2,Y2,Y2,Y2,Y2,Y2,Y2,Y2,Y2,Y2,Y2,Y2,Y2,Y2,Y2,Y2,Y2,Y2,Y2,Y2,Y2,Y2,Y2,Z2,Z2,Z2,Z2,Z2,Z2,Z2] rfl rfl (any_of HT_.out (by kernel_rfl)) (fun _ _ _ h => h) (Or.inl ⟨by rfl,?_⟩) ?_ ?_
              rotate_left
              ·intro w'
               go_simp
               with_reducible rfl
              rotate_left
              ·simp only [Act.put,q12,q22,q32,i64_w,i32_w]
               rfl
              refine pure_ (i:=31) (N:=some 49) (v:=?_) (a':=?_) #[Y2,Y2,Y2,Y2,Y2,Y2,Y2,Y2,Y2,Y2,Y2,Y2,Y2,Y2,Y2,Y2,Y2,Y2,Y2,Y2,Y2,Y2,Y2,Y2,Y2,Y2,Y2,Y2,Y2,Y2,Y2,Y2,Z2,Z2,Z2,Z2,Z2,Z2] rfl rfl (any_of HT_.out (by kernel_rfl)) (fun _ _ _ h => h) (Or.inl ⟨by rfl,?_⟩) ?_ ?_
              rotate_left
              ·intro w'
               go_simp
               with_reducible rfl
              rotate_left
              ·simp only [Act.put,q12,q22,q32,i64_w,i32_w]
               rfl
              refine pure_ (i:=32) (N:=some 50) (v:=?_) (a':=?_) #[Y2,Y2,Y2,Y2,Y2,Y2,Y2,Y2,Y2,Y2,Y2,Y2,Y2,Y2,Y2,Y2,Y2,Y2,Y2,Y2,Y2,Y2,Y2,Y2,Y2,Y2,Y2,Y2,Y2,Y2,Y2,Y2,Y2,Z2,Z2,Z2,Z2,Z2] rfl rfl (any_of HT_.out (by kernel_rfl)) (fun _ _ _ h => h) (Or.inl ⟨by rfl,?_⟩) ?_ ?_
              rotate_left
              ·intro w'
               go_simp
               with_reducible rfl
              rotate_left
              ·simp only [Act.put,q12,q22,q32,i64_w,i32_w]
               rfl
              refine pure_ (i:=33) (N:=some 51) (v:=?_) (a':=?_) #[Y2,Y2,Y2,Y2,Y2,Y2,Y2,Y2,Y2,Y2,Y2,Y2,Y2,Y2,Y2,Y2,Y2,Y2,Y2,Y2,Y2,Y2,Y2,Y2,Y2,Y2,Y2,Y2,Y2,Y2,Y2,Y2,Y2,Y2,Z2,Z2,Z2,Z2] rfl rfl (any_of HT_.out (by kernel_rfl)) (fun _ _ _ h => h) (Or.inl ⟨by rfl,?_⟩) ?_ ?_
              rotate_left
              ·intro w'
               go_simp
               with_reducible rfl
              rotate_left
              ·simp only [Act.put,q12,q22,q32,i64_w,i32_w]
               rfl
              refine take_ (i:=34) (N:=some 52) (v:=?_) (a':=?_) #[Y2,Y2,Y2,Y2,Y2,Y2,Y2,Y2,Y2,Y2,Y2,Y2,Y2,Y2,Y2,Y2,Y2,Y2,Y2,Y2,Y2,Y2,Y2,Y2,Y2,Y2,Y2,Y2,Y2,Y2,Y2,Y2,Y2,Y2,Y2,Z2,Z2,Z2] rfl rfl (take_ofW HT_.out HW_.out (by kernel_rfl)) (fun _ _ _ h => h) (Or.inl ⟨by rfl,?_⟩) hHeld ?_ ?_
              rotate_left
              ·rintro w' ⟨s0,s1,s2,s3,s4,s5,s6,s7⟩
               go_simp
               with_reducible rfl
              rotate_left
              ·simp only [Act.put,q12,q22,q32,i64_w,i32_w]
               rfl
              refine one_ (i:=35) (N:=some 53) #[Y2,Y2,Y2,Y2,Y2,Y2,Y2,Y2,Y2,Y2,Y2,Y2,Y2,Y2,Y2,Y2,Y2,Y2,Y2,Y2,Y2,Y2,Y2,Y2,Y2,Y2,Y2,Y2,Y2,Y2,Y2,Y2,Y2,Y2,Y2,Y2,Z2,Z2] rfl rfl (one_of HT_.out (by kernel_rfl)) (by decide) (fun K hK => ?_)
              refine goes_ Try.func43 (by kernel_rfl) rfl #[.int .i64 ((rd_T74 l0 x3_1).f3),.int .i64 0,.int .i64 1000000000] (by rfl) rfl rfl (by (try simp only [List.map_toArray,List.map_cons,List.map_nil]);first | done | rfl | (simp only [List.length_drop,List.length_take];rfl)) ?_
              with_reducible refine (spec_l01In.calls ((rd_T74 l0 x3_1).f3) 0 1000000000 false _ A16.out).mono ?_
              rintro e w' ⟨rfl,⟨nd,rfl⟩⟩
              refine ⟨_,rfl,?_⟩
              refine hK.out _ _ ⟨(blk_cell BK122.out 0).trans rfl,(blk_cell BK122.out 1).trans rfl,(blk_cell BK122.out 2).trans rfl,(blk_cell BK122.out 3).trans rfl,((HB.out.cell (World.block_lt_of_cell? w _ hw124_0)).trans hw124_0),((HB.out.cell (World.block_lt_of_cell? w _ hw124_1)).trans hw124_1),((HB.out.cell (World.block_lt_of_cell? w _ hw124_2)).trans hw124_2),((HB.out.cell (World.block_lt_of_cell? w _ hw124_3)).trans hw124_3)⟩ (fun hHeld => ?_)
              clear hK K
              refine norm_ (a':=?_) ?_ ?_
              rotate_left
              ·show Act.put _ (some 53) _ = _
               simp only [Act.put,q12,q22,q32,i64_w,i32_w]
               rfl
              refine pure_ (i:=36) (N:=some 54) (v:=?_) (a':=?_) #[Y2,Y2,Y2,Y2,Y2,Y2,Y2,Y2,Y2,Y2,Y2,Y2,Y2,Y2,Y2,Y2,Y2,Y2,Y2,Y2,Y2,Y2,Y2,Y2,Y2,Y2,Y2,Y2,Y2,Y2,Y2,Y2,Y2,Y2,Y2,Y2,Y2,Z2] rfl rfl (any_of HT_.out (by kernel_rfl)) (fun _ _ _ h => h) (Or.inl ⟨by rfl,?_⟩) ?_ ?_
              rotate_left
              ·intro w'
               go_simp
               with_reducible rfl
              rotate_left
              ·simp only [Act.put,q12,q22,q32,i64_w,i32_w]
               rfl
              refine pure_ (i:=37) (N:=some 55) (v:=?_) (a':=?_) #[Y2,Y2,Y2,Y2,Y2,Y2,Y2,Y2,Y2,Y2,Y2,Y2,Y2,Y2,Y2,Y2,Y2,Y2,Y2,Y2,Y2,Y2,Y2,Y2,Y2,Y2,Y2,Y2,Y2,Y2,Y2,Y2,Y2,Y2,Y2,Y2,Y2,Y2] rfl rfl (any_of HT_.out (by kernel_rfl)) (fun _ _ _ h => h) (Or.inl ⟨by rfl,?_⟩) ?_ ?_
              rotate_left
              ·intro w'
               go_simp
               with_reducible rfl
              rotate_left
              ·simp only [Act.put,q12,q22,q32,i64_w,i32_w]
               rfl
              refine done_ (done_of HT_.out (by kernel_rfl)) ?_
              try go_wp2
              go_ret
              exact ⟨by first | rfl | (simp [errW_none,errW_some] <;> rfl) | (simp only [← hji8];first | rfl | (simp [errW_none,errW_some] <;> rfl)) | (simp [*,errW_none,errW_some] <;> rfl),by repeat (first | (with_reducible first | exact HB.out | apply below_alloc | apply pw_below_drewN | apply below_drew1 | refine below_set ?_ GE122.out) | exact HB.out)⟩
            ·replace c15:=Bool.eq_false_iff.mpr c15
             subst c15
             have H1 : (some false) = some r:=by rw [if_neg (show ¬ (false = true) by decide)] at H;exact H
             clear H
             have H:=H1
             clear H1
             obtain rfl:=Option.some.inj H
             have p121 : 0 ≤ (x3_1 : Int):=of_decide_eq_true (by first | (with_reducible assumption) | assumption)
             have q121 : x3_1 < (l0.length : Int):=of_decide_eq_true (by first | (with_reducible assumption) | assumption)
             obtain ⟨ad121,e121,hx121_0,hx121_1,hx121_2,hx121_3⟩:=at_T74 HR0.out x3_1 p121 q121
             cases e121
             replace hx121_0:=(HB.out.cell (World.block_lt_of_cell? w _ hx121_0)).trans hx121_0
             replace hx121_1:=(HB.out.cell (World.block_lt_of_cell? w _ hx121_1)).trans hx121_1
             replace hx121_2:=(HB.out.cell (World.block_lt_of_cell? w _ hx121_2)).trans hx121_2
             replace hx121_3:=(HB.out.cell (World.block_lt_of_cell? w _ hx121_3)).trans hx121_3
             replace p121:=eq_true p121
             replace q121:=eq_true q121
             try go_wp2_with (first | ((with_reducible refine gate_dst (N:=4) rfl ?_);refine box_event ?hg (N:=4) ?hd (cs:=#[.string (⟨#[]⟩ : ByteArray),.int .i64 0,.int .i64 0,.int .i64 0]) (t:=74) ?hr ?_;(case hd => rfl);(case hg => rfl);(case hr => first | (go_simp;done) | (go_simp;rfl));intro gb122 hg w26 hbox hb;have n0_:=Aside0.mk (below_step (by repeat (first | (with_reducible first | exact HB.out | apply below_alloc | apply pw_below_drewN | apply below_drew1) | exact HB.out)) hb);have n1_:=Aside0.mk (hbox);have n2_:=Aside0.mk ((by rw [hg];exact (below_size (by repeat (first | (with_reducible first | exact HB.out | apply below_alloc | apply pw_below_drewN | apply below_drew1) | exact HB.out))) : w.heap.size ≤ gb122));have n3_:=Aside0.mk ((by rw [hg];exact (below_size (by repeat (first | (with_reducible first | exact HB.out | apply below_alloc | apply pw_below_drewN | apply below_drew1) | exact HB.out))) : w.heap.size ≤ gb122));clear HB;have HB:=n0_;have BK122:=n1_;have GW122:=n2_;have GE122:=n3_;clear n0_ n1_ n2_ n3_;clear hb hbox hg;have hcz27_0 : w26.cell? ⟨gb122,0,none⟩ = some (.string (⟨#[]⟩ : ByteArray)):=(blk_cell BK122.out 0).trans rfl;have hcz27_1 : w26.cell? ⟨gb122,1,none⟩ = some (.int .i64 0):=(blk_cell BK122.out 1).trans rfl;have hcz27_2 : w26.cell? ⟨gb122,2,none⟩ = some (.int .i64 0):=(blk_cell BK122.out 2).trans rfl;have hcz27_3 : w26.cell? ⟨gb122,3,none⟩ = some (.int .i64 0):=(blk_cell BK122.out 3).trans rfl;have hfz27_0:=blk_frozen BK122.out 0;have hfz27_1:=blk_frozen BK122.out 1;have hfz27_2:=blk_frozen BK122.out 2;have hfz27_3:=blk_frozen BK122.out 3))
             have n0_ : Aside0 (((((w26.setCell ⟨gb122,0,none⟩ (.string ((rd_T74 l0 x3_1).f0))).setCell ⟨gb122,1,none⟩ (.int .i64 ((rd_T74 l0 x3_1).f1))).setCell ⟨gb122,2,none⟩ (.int .i64 ((rd_T74 l0 x3_1).f2))).setCell ⟨gb122,3,none⟩ (.int .i64 ((rd_T74 l0 x3_1).f3))).heap[gb122]? = some (.cells #[.string ((rd_T74 l0 x3_1).f0),.int .i64 ((rd_T74 l0 x3_1).f1),.int .i64 ((rd_T74 l0 x3_1).f2),.int .i64 ((rd_T74 l0 x3_1).f3)] 74 (0,0))):=⟨by (with_reducible repeat (first | refine blk_drewN ?_ _ | refine blk_drew ?_ | refine blk_alloc ?_ _));refine blk_put (cs:=#[.string ((rd_T74 l0 x3_1).f0),.int .i64 ((rd_T74 l0 x3_1).f1),.int .i64 ((rd_T74 l0 x3_1).f2),.int .i64 0]) ?_ 3 _ rfl;(with_reducible repeat (first | refine blk_drewN ?_ _ | refine blk_drew ?_ | refine blk_alloc ?_ _));refine blk_put (cs:=#[.string ((rd_T74 l0 x3_1).f0),.int .i64 ((rd_T74 l0 x3_1).f1),.int .i64 0,.int .i64 0]) ?_ 2 _ rfl;(with_reducible repeat (first | refine blk_drewN ?_ _ | refine blk_drew ?_ | refine blk_alloc ?_ _));refine blk_put (cs:=#[.string ((rd_T74 l0 x3_1).f0),.int .i64 0,.int .i64 0,.int .i64 0]) ?_ 1 _ rfl;(with_reducible repeat (first | refine blk_drewN ?_ _ | refine blk_drew ?_ | refine blk_alloc ?_ _));refine blk_put (cs:=#[.string (⟨#[]⟩ : ByteArray),.int .i64 0,.int .i64 0,.int .i64 0]) ?_ 0 _ rfl;(with_reducible repeat (first | refine blk_drewN ?_ _ | refine blk_drew ?_ | refine blk_alloc ?_ _));exact BK122.out⟩
             have n1_ : Aside0 (Below w.heap.size w ((((w26.setCell ⟨gb122,0,none⟩ (.string ((rd_T74 l0 x3_1).f0))).setCell ⟨gb122,1,none⟩ (.int .i64 ((rd_T74 l0 x3_1).f1))).setCell ⟨gb122,2,none⟩ (.int .i64 ((rd_T74 l0 x3_1).f2))).setCell ⟨gb122,3,none⟩ (.int .i64 ((rd_T74 l0 x3_1).f3)))):=⟨by repeat (first | (with_reducible first | exact HB.out | apply below_alloc | apply pw_below_drewN | apply below_drew1 | refine below_set ?_ GE122.out) | exact HB.out)⟩
             (try clear BK122)
             (try clear HB)
             generalize ((((w26.setCell ⟨gb122,0,none⟩ (.string ((rd_T74 l0 x3_1).f0))).setCell ⟨gb122,1,none⟩ (.int .i64 ((rd_T74 l0 x3_1).f1))).setCell ⟨gb122,2,none⟩ (.int .i64 ((rd_T74 l0 x3_1).f2))).setCell ⟨gb122,3,none⟩ (.int .i64 ((rd_T74 l0 x3_1).f3))) = w28 at n0_ n1_ ⊢
             have BK122:=n0_
             have HB:=n1_
             clear n0_ n1_
             have n0_:=Aside0.mk (blk_drew BK122.out)
             have n1_:=Aside0.mk (below_drew1 HB.out)
             clear BK122
             clear HB
             have BK122:=n0_
             have HB:=n1_
             clear n0_ n1_
             have p124 : 0 ≤ ((ji8) : Int):=of_decide_eq_true (by first | (with_reducible assumption) | assumption)
             have q124 : (ji8) < (l0.length : Int):=of_decide_eq_true (by first | (with_reducible assumption) | assumption)
             obtain ⟨ad124,e124,hx124_0,hx124_1,hx124_2,hx124_3⟩:=at_T74 HR0.out (ji8) p124 q124
             have hw124_3:=hx124_3
             have hw124_2:=hx124_2
             have hw124_1:=hx124_1
             have hw124_0:=hx124_0
             obtain rfl : ad121 = ad124:=(by injection e124)
             replace hx124_0:=(HB.out.cell (World.block_lt_of_cell? w _ hx124_0)).trans hx124_0
             replace hx124_1:=(HB.out.cell (World.block_lt_of_cell? w _ hx124_1)).trans hx124_1
             replace hx124_2:=(HB.out.cell (World.block_lt_of_cell? w _ hx124_2)).trans hx124_2
             replace hx124_3:=(HB.out.cell (World.block_lt_of_cell? w _ hx124_3)).trans hx124_3
             replace p124:=eq_true p124
             replace q124:=eq_true q124
             refine start_ (n:=38) (S:=fun w' => w'.cell? ⟨gb122,0,none⟩ = some (.string ((rd_T74 l0 x3_1).f0)) ∧ w'.cell? ⟨gb122,1,none⟩ = some (.int .i64 ((rd_T74 l0 x3_1).f1)) ∧ w'.cell? ⟨gb122,2,none⟩ = some (.int .i64 ((rd_T74 l0 x3_1).f2)) ∧ w'.cell? ⟨gb122,3,none⟩ = some (.int .i64 ((rd_T74 l0 x3_1).f3)) ∧ w'.cell? (ad121.add (((ji8)).toNat * 4)) = some (.string ((rd_T74 l0 (ji8)).f0)) ∧ w'.cell? ⟨(ad121.add (((ji8)).toNat * 4)).block,(ad121.add (((ji8)).toNat * 4)).off + 1,none⟩ = some (.int .i64 ((rd_T74 l0 (ji8)).f1)) ∧ w'.cell? ⟨(ad121.add (((ji8)).toNat * 4)).block,(ad121.add (((ji8)).toNat * 4)).off + 2,none⟩ = some (.int .i64 ((rd_T74 l0 (ji8)).f2)) ∧ w'.cell? ⟨(ad121.add (((ji8)).toNat * 4)).block,(ad121.add (((ji8)).toNat * 4)).off + 3,none⟩ = some (.int .i64 ((rd_T74 l0 (ji8)).f3))) (ds:=[]) #[Z2,Z2,Z2,Z2,Z2,Z2,Z2,Z2,Z2,Z2,Z2,Z2,Z2,Z2,Z2,Z2,Z2,Z2,Z2,Z2,Z2,Z2,Z2,Z2,Z2,Z2,Z2,Z2,Z2,Z2,Z2,Z2,Z2,Z2,Z2,Z2,Z2,Z2] (by kernel_rfl) rfl rfl ⟨(blk_cell BK122.out 0).trans rfl,(blk_cell BK122.out 1).trans rfl,(blk_cell BK122.out 2).trans rfl,(blk_cell BK122.out 3).trans rfl,((HB.out.cell (World.block_lt_of_cell? w _ hw124_0)).trans hw124_0),((HB.out.cell (World.block_lt_of_cell? w _ hw124_1)).trans hw124_1),((HB.out.cell (World.block_lt_of_cell? w _ hw124_2)).trans hw124_2),((HB.out.cell (World.block_lt_of_cell? w _ hw124_3)).trans hw124_3)⟩ (fun hHeld => ?_);refine with_tabW spec_DirOk.tab7 spec_DirOk.bits7 (fun HT_ HW_ => ?_)
             generalize w28.drew = w29 at BK122 HB hx124_0 hx124_1 hx124_2 hx124_3 hHeld ⊢
             refine pure_ (i:=0) (N:=some 18) (v:=?_) (a':=?_) #[Y2,Z2,Z2,Z2,Z2,Z2,Z2,Z2,Z2,Z2,Z2,Z2,Z2,Z2,Z2,Z2,Z2,Z2,Z2,Z2,Z2,Z2,Z2,Z2,Z2,Z2,Z2,Z2,Z2,Z2,Z2,Z2,Z2,Z2,Z2,Z2,Z2,Z2] rfl rfl (any_of HT_.out (by kernel_rfl)) (fun _ _ _ h => h) (Or.inl ⟨by rfl,?_⟩) ?_ ?_
             rotate_left
             ·intro w'
              go_simp
              with_reducible rfl
             rotate_left
             ·simp only [Act.put,q12,q22,q32,i64_w,i32_w]
              rfl
             refine take_ (i:=1) (N:=some 19) (v:=?_) (a':=?_) #[Y2,Y2,Z2,Z2,Z2,Z2,Z2,Z2,Z2,Z2,Z2,Z2,Z2,Z2,Z2,Z2,Z2,Z2,Z2,Z2,Z2,Z2,Z2,Z2,Z2,Z2,Z2,Z2,Z2,Z2,Z2,Z2,Z2,Z2,Z2,Z2,Z2,Z2] rfl rfl (take_ofW HT_.out HW_.out (by kernel_rfl)) (fun _ _ _ h => h) (Or.inl ⟨by rfl,?_⟩) hHeld ?_ ?_
             rotate_left
             ·rintro w' ⟨s0,s1,s2,s3,s4,s5,s6,s7⟩
              go_simp
              with_reducible rfl
             rotate_left
             ·simp only [Act.put,q12,q22,q32,i64_w,i32_w]
              rfl
             refine pure_ (i:=2) (N:=some 20) (v:=?_) (a':=?_) #[Y2,Y2,Y2,Z2,Z2,Z2,Z2,Z2,Z2,Z2,Z2,Z2,Z2,Z2,Z2,Z2,Z2,Z2,Z2,Z2,Z2,Z2,Z2,Z2,Z2,Z2,Z2,Z2,Z2,Z2,Z2,Z2,Z2,Z2,Z2,Z2,Z2,Z2] rfl rfl (any_of HT_.out (by kernel_rfl)) (fun _ _ _ h => h) (Or.inl ⟨by rfl,?_⟩) ?_ ?_
             rotate_left
             ·intro w'
              go_simp
              with_reducible rfl
             rotate_left
             ·simp only [Act.put,q12,q22,q32,i64_w,i32_w]
              rfl
             refine one_ (i:=3) (N:=some 21) #[Y2,Y2,Y2,Y2,Z2,Z2,Z2,Z2,Z2,Z2,Z2,Z2,Z2,Z2,Z2,Z2,Z2,Z2,Z2,Z2,Z2,Z2,Z2,Z2,Z2,Z2,Z2,Z2,Z2,Z2,Z2,Z2,Z2,Z2,Z2,Z2,Z2,Z2] rfl rfl (one_of HT_.out (by kernel_rfl)) (by decide) (fun K hK => ?_)
             refine goes_ Try.func43 (by kernel_rfl) rfl #[.int .i64 (((rd_T74 l0 x3_1).f0).size : Int),.int .i64 1,.int .i64 20] (by rfl) rfl rfl (by (try simp only [List.map_toArray,List.map_cons,List.map_nil]);first | done | rfl | (simp only [List.length_drop,List.length_take];rfl)) ?_
             with_reducible refine (spec_l01In.calls (((rd_T74 l0 x3_1).f0).size : Int) 1 20 true _ A5.out).mono ?_
             rintro e w' ⟨rfl,⟨nd,rfl⟩⟩
             refine ⟨_,rfl,?_⟩
             refine hK.out _ _ ⟨(blk_cell BK122.out 0).trans rfl,(blk_cell BK122.out 1).trans rfl,(blk_cell BK122.out 2).trans rfl,(blk_cell BK122.out 3).trans rfl,((HB.out.cell (World.block_lt_of_cell? w _ hw124_0)).trans hw124_0),((HB.out.cell (World.block_lt_of_cell? w _ hw124_1)).trans hw124_1),((HB.out.cell (World.block_lt_of_cell? w _ hw124_2)).trans hw124_2),((HB.out.cell (World.block_lt_of_cell? w _ hw124_3)).trans hw124_3)⟩ (fun hHeld => ?_)
             clear hK K
             refine norm_ (a':=?_) ?_ ?_
             rotate_left
             ·show Act.put _ (some 21) _ = _
              simp only [Act.put,q12,q22,q32,i64_w,i32_w]
              rfl
             refine pure_ (i:=4) (N:=some 22) (v:=?_) (a':=?_) #[Y2,Y2,Y2,Y2,Y2,Z2,Z2,Z2,Z2,Z2,Z2,Z2,Z2,Z2,Z2,Z2,Z2,Z2,Z2,Z2,Z2,Z2,Z2,Z2,Z2,Z2,Z2,Z2,Z2,Z2,Z2,Z2,Z2,Z2,Z2,Z2,Z2,Z2] rfl rfl (any_of HT_.out (by kernel_rfl)) (fun _ _ _ h => h) (Or.inl ⟨by rfl,?_⟩) ?_ ?_
             rotate_left
             ·intro w'
              go_simp
              with_reducible rfl
             rotate_left
             ·simp only [Act.put,q12,q22,q32,i64_w,i32_w]
              rfl
             refine pure_ (i:=5) (N:=some 23) (v:=?_) (a':=?_) #[Y2,Y2,Y2,Y2,Y2,Y2,Z2,Z2,Z2,Z2,Z2,Z2,Z2,Z2,Z2,Z2,Z2,Z2,Z2,Z2,Z2,Z2,Z2,Z2,Z2,Z2,Z2,Z2,Z2,Z2,Z2,Z2,Z2,Z2,Z2,Z2,Z2,Z2] rfl rfl (any_of HT_.out (by kernel_rfl)) (fun _ _ _ h => h) (Or.inl ⟨by rfl,?_⟩) ?_ ?_
             rotate_left
             ·intro w'
              go_simp
              with_reducible rfl
             rotate_left
             ·simp only [Act.put,q12,q22,q32,i64_w,i32_w]
              rfl
             refine pure_ (i:=6) (N:=some 24) (v:=?_) (a':=?_) #[Y2,Y2,Y2,Y2,Y2,Y2,Y2,Z2,Z2,Z2,Z2,Z2,Z2,Z2,Z2,Z2,Z2,Z2,Z2,Z2,Z2,Z2,Z2,Z2,Z2,Z2,Z2,Z2,Z2,Z2,Z2,Z2,Z2,Z2,Z2,Z2,Z2,Z2] rfl rfl (any_of HT_.out (by kernel_rfl)) (fun _ _ _ h => h) (Or.inl ⟨by rfl,?_⟩) ?_ ?_
             rotate_left
             ·intro w'
              go_simp
              with_reducible rfl
             rotate_left
             ·simp only [Act.put,q12,q22,q32,i64_w,i32_w]
              rfl
             refine pure_ (i:=7) (N:=some 25) (v:=?_) (a':=?_) #[Y2,Y2,Y2,Y2,Y2,Y2,Y2,Y2,Z2,Z2,Z2,Z2,Z2,Z2,Z2,Z2,Z2,Z2,Z2,Z2,Z2,Z2,Z2,Z2,Z2,Z2,Z2,Z2,Z2,Z2,Z2,Z2,Z2,Z2,Z2,Z2,Z2,Z2] rfl rfl (any_of HT_.out (by kernel_rfl)) (fun _ _ _ h => h) (Or.inl ⟨by rfl,?_⟩) ?_ ?_
             rotate_left
             ·intro w'
              go_simp
              with_reducible rfl
             rotate_left
             ·simp only [Act.put,q12,q22,q32,i64_w,i32_w]
              rfl
             refine pure_ (i:=8) (N:=some 26) (v:=?_) (a':=?_) #[Y2,Y2,Y2,Y2,Y2,Y2,Y2,Y2,Y2,Z2,Z2,Z2,Z2,Z2,Z2,Z2,Z2,Z2,Z2,Z2,Z2,Z2,Z2,Z2,Z2,Z2,Z2,Z2,Z2,Z2,Z2,Z2,Z2,Z2,Z2,Z2,Z2,Z2] rfl rfl (any_of HT_.out (by kernel_rfl)) (fun _ _ _ h => h) (Or.inl ⟨by rfl,?_⟩) ?_ ?_
             rotate_left
             ·intro w'
              go_simp
              with_reducible rfl
             rotate_left
             ·simp only [Act.put,q12,q22,q32,i64_w,i32_w]
              rfl
             refine pure_ (i:=9) (N:=some 27) (v:=?_) (a':=?_) #[Y2,Y2,Y2,Y2,Y2,Y2,Y2,Y2,Y2,Y2,Z2,Z2,Z2,Z2,Z2,Z2,Z2,Z2,Z2,Z2,Z2,Z2,Z2,Z2,Z2,Z2,Z2,Z2,Z2,Z2,Z2,Z2,Z2,Z2,Z2,Z2,Z2,Z2] rfl rfl (any_of HT_.out (by kernel_rfl)) (fun _ _ _ h => h) (Or.inl ⟨by rfl,?_⟩) ?_ ?_
             rotate_left
             ·intro w'
              go_simp
              with_reducible rfl
             rotate_left
             ·simp only [Act.put,q12,q22,q32,i64_w,i32_w]
              rfl
             refine pure_ (i:=10) (N:=some 28) (v:=?_) (a':=?_) #[Y2,Y2,Y2,Y2,Y2,Y2,Y2,Y2,Y2,Y2,Y2,Z2,Z2,Z2,Z2,Z2,Z2,Z2,Z2,Z2,Z2,Z2,Z2,Z2,Z2,Z2,Z2,Z2,Z2,Z2,Z2,Z2,Z2,Z2,Z2,Z2,Z2,Z2] rfl rfl (any_of HT_.out (by kernel_rfl)) (fun _ _ _ h => h) (Or.inl ⟨by rfl,?_⟩) ?_ ?_
             rotate_left
             ·intro w'
              go_simp
              with_reducible rfl
             rotate_left
             ·simp only [Act.put,q12,q22,q32,i64_w,i32_w]
              rfl
             refine pure_ (i:=11) (N:=some 29) (v:=?_) (a':=?_) #[Y2,Y2,Y2,Y2,Y2,Y2,Y2,Y2,Y2,Y2,Y2,Y2,Z2,Z2,Z2,Z2,Z2,Z2,Z2,Z2,Z2,Z2,Z2,Z2,Z2,Z2,Z2,Z2,Z2,Z2,Z2,Z2,Z2,Z2,Z2,Z2,Z2,Z2] rfl rfl (any_of HT_.out (by kernel_rfl)) (fun _ _ _ h => h) (Or.inl ⟨by rfl,?_⟩) ?_ ?_
             rotate_left
             ·intro w'
              go_simp
              with_reducible rfl
             rotate_left
             ·simp only [Act.put,q12,q22,q32,i64_w,i32_w]
              rfl
             refine pure_ (i:=12) (N:=some 30) (v:=?_) (a':=?_) #[Y2,Y2,Y2,Y2,Y2,Y2,Y2,Y2,Y2,Y2,Y2,Y2,Y2,Z2,Z2,Z2,Z2,Z2,Z2,Z2,Z2,Z2,Z2,Z2,Z2,Z2,Z2,Z2,Z2,Z2,Z2,Z2,Z2,Z2,Z2,Z2,Z2,Z2] rfl rfl (any_of HT_.out (by kernel_rfl)) (fun _ _ _ h => h) (Or.inl ⟨by rfl,?_⟩) ?_ ?_
             rotate_left
             ·intro w'
              go_simp
              with_reducible rfl
             rotate_left
             ·simp only [Act.put,q12,q22,q32,i64_w,i32_w]
              rfl
             refine pure_ (i:=13) (N:=some 31) (v:=?_) (a':=?_) #[Y2,Y2,Y2,Y2,Y2,Y2,Y2,Y2,Y2,Y2,Y2,Y2,Y2,Y2,Z2,Z2,Z2,Z2,Z2,Z2,Z2,Z2,Z2,Z2,Z2,Z2,Z2,Z2,Z2,Z2,Z2,Z2,Z2,Z2,Z2,Z2,Z2,Z2] rfl rfl (any_of HT_.out (by kernel_rfl)) (fun _ _ _ h => h) (Or.inl ⟨by rfl,?_⟩) ?_ ?_
             rotate_left
             ·intro w'
              go_simp
              with_reducible rfl
             rotate_left
             ·simp only [Act.put,q12,q22,q32,i64_w,i32_w]
              rfl
             refine pure_ (i:=15) (N:=some 33) (v:=?_) (a':=?_) #[Y2,Y2,Y2,Y2,Y2,Y2,Y2,Y2,Y2,Y2,Y2,Y2,Y2,Y2,Z2,Y2,Z2,Z2,Z2,Z2,Z2,Z2,Z2,Z2,Z2,Z2,Z2,Z2,Z2,Z2,Z2,Z2,Z2,Z2,Z2,Z2,Z2,Z2] rfl rfl (any_of HT_.out (by kernel_rfl)) (fun _ _ _ h => h) (Or.inl ⟨by rfl,?_⟩) ?_ ?_
             rotate_left
             ·intro w'
              go_simp
              with_reducible rfl
             rotate_left
             ·simp only [Act.put,q12,q22,q32,i64_w,i32_w]
              rfl
             refine take_ (i:=14) (N:=some 32) (v:=?_) (a':=?_) #[Y2,Y2,Y2,Y2,Y2,Y2,Y2,Y2,Y2,Y2,Y2,Y2,Y2,Y2,Y2,Y2,Z2,Z2,Z2,Z2,Z2,Z2,Z2,Z2,Z2,Z2,Z2,Z2,Z2,Z2,Z2,Z2,Z2,Z2,Z2,Z2,Z2,Z2] rfl rfl (take_ofW HT_.out HW_.out (by kernel_rfl)) (fun _ _ _ h => h) (Or.inl ⟨by rfl,?_⟩) hHeld ?_ ?_
             rotate_left
             ·rintro w' ⟨s0,s1,s2,s3,s4,s5,s6,s7⟩
              go_simp
              with_reducible rfl
             rotate_left
             ·simp only [Act.put,q12,q22,q32,i64_w,i32_w]
              rfl
             refine take_ (i:=16) (N:=some 34) (v:=?_) (a':=?_) #[Y2,Y2,Y2,Y2,Y2,Y2,Y2,Y2,Y2,Y2,Y2,Y2,Y2,Y2,Y2,Y2,Y2,Z2,Z2,Z2,Z2,Z2,Z2,Z2,Z2,Z2,Z2,Z2,Z2,Z2,Z2,Z2,Z2,Z2,Z2,Z2,Z2,Z2] rfl rfl (take_ofW HT_.out HW_.out (by kernel_rfl)) (fun _ _ _ h => h) (Or.inl ⟨by rfl,?_⟩) hHeld ?_ ?_
             rotate_left
             ·rintro w' ⟨s0,s1,s2,s3,s4,s5,s6,s7⟩
              go_simp
              with_reducible rfl
             rotate_left
             ·simp only [Act.put,q12,q22,q32,i64_w,i32_w]
              rfl
             refine pure_ (i:=17) (N:=some 35) (v:=?_) (a':=?_) #[Y2,Y2,Y2,Y2,Y2,Y2,Y2,Y2,Y2,Y2,Y2,Y2,Y2,Y2,Y2,Y2,Y2,Y2,Z2,Z2,Z2,Z2,Z2,Z2,Z2,Z2,Z2,Z2,Z2,Z2,Z2,Z2,Z2,Z2,Z2,Z2,Z2,Z2] rfl rfl (any_of HT_.out (by kernel_rfl)) (fun _ _ _ h => h) (Or.inl ⟨by rfl,?_⟩) ?_ ?_
             rotate_left
             ·intro w'
              go_simp
              with_reducible rfl
             rotate_left
             ·simp only [Act.put,q12,q22,q32,i64_w,i32_w]
              rfl
             refine pure_ (i:=18) (N:=some 36) (v:=?_) (a':=?_) #[Y2,Y2,Y2,Y2,Y2,Y2,Y2,Y2,Y2,Y2,Y2,Y2,Y2,Y2,Y2,Y2,Y2,Y2,Y2,Z2,Z2,Z2,Z2,Z2,Z2,Z2,Z2,Z2,Z2,Z2,Z2,Z2,Z2,Z2,Z2,Z2,Z2,Z2] rfl rfl (any_of HT_.out (by kernel_rfl)) (fun _ _ _ h => h) (Or.inl ⟨by rfl,?_⟩) ?_ ?_
             rotate_left
             ·intro w'
              go_simp
              with_reducible rfl
             rotate_left
             ·simp only [Act.put,q12,q22,q32,i64_w,i32_w]
              rfl
             refine pure_ (i:=19) (N:=some 37) (v:=?_) (a':=?_) #[Y2,Y2,Y2,Y2,Y2,Y2,Y2,Y2,Y2,Y2,Y2,Y2,Y2,Y2,Y2,Y2,Y2,Y2,Y2,Y2,Z2,Z2,Z2,Z2,Z2,Z2,Z2,Z2,Z2,Z2,Z2,Z2,Z2,Z2,Z2,Z2,Z2,Z2] rfl rfl (any_of HT_.out (by kernel_rfl)) (fun _ _ _ h => h) (Or.inl ⟨by rfl,?_⟩) ?_ ?_
             rotate_left
             ·intro w'
              go_simp
              with_reducible rfl
             rotate_left
             ·simp only [Act.put,q12,q22,q32,i64_w,i32_w]
              rfl
             refine pure_ (i:=20) (N:=some 38) (v:=?_) (a':=?_) #[Y2,Y2,Y2,Y2,Y2,Y2,Y2,Y2,Y2,Y2,Y2,Y2,Y2,Y2,Y2,Y2,Y2,Y2,Y2,Y2,Y2,Z2,Z2,Z2,Z2,Z2,Z2,Z2,Z2,Z2,Z2,Z2,Z2,Z2,Z2,Z2,Z2,Z2] rfl rfl (any_of HT_.out (by kernel_rfl)) (fun _ _ _ h => h) (Or.inl ⟨by rfl,?_⟩) ?_ ?_
             rotate_left
             ·intro w'
              go_simp
              with_reducible rfl
             rotate_left
             ·simp only [Act.put,q12,q22,q32,i64_w,i32_w]
              rfl
             refine pure_ (i:=21) (N:=some 39) (v:=?_) (a':=?_) #[Y2,Y2,Y2,Y2,Y2,Y2,Y2,Y2,Y2,Y2,Y2,Y2,Y2,Y2,Y2,Y2,Y2,Y2,Y2,Y2,Y2,Y2,Z2,Z2,Z2,Z2,Z2,Z2,Z2,Z2,Z2,Z2,Z2,Z2,Z2,Z2,Z2,Z2] rfl rfl (any_of HT_.out (by kernel_rfl)) (fun _ _ _ h => h) (Or.inl ⟨by rfl,?_⟩) ?_ ?_
             rotate_left
             ·intro w'
              go_simp
              with_reducible rfl
             rotate_left
             ·simp only [Act.put,q12,q22,q32,i64_w,i32_w]
              rfl
             refine take_ (i:=22) (N:=some 40) (v:=?_) (a':=?_) #[Y2,Y2,Y2,Y2,Y2,Y2,Y2,Y2,Y2,Y2,Y2,Y2,Y2,Y2,Y2,Y2,Y2,Y2,Y2,Y2,Y2,Y2,Y2,Z2,Z2,Z2,Z2,Z2,Z2,Z2,Z2,Z2,Z2,Z2,Z2,Z2,Z2,Z2] rfl rfl (take_ofW HT_.out HW_.out (by kernel_rfl)) (fun _ _ _ h => h) (Or.inl ⟨by rfl,?_⟩) hHeld ?_ ?_
             rotate_left
             ·rintro w' ⟨s0,s1,s2,s3,s4,s5,s6,s7⟩
              go_simp
              with_reducible rfl
             rotate_left
             ·simp only [Act.put,q12,q22,q32,i64_w,i32_w]
              rfl
             refine one_ (i:=23) (N:=some 41) #[Y2,Y2,Y2,Y2,Y2,Y2,Y2,Y2,Y2,Y2,Y2,Y2,Y2,Y2,Y2,Y2,Y2,Y2,Y2,Y2,Y2,Y2,Y2,Y2,Z2,Z2,Z2,Z2,Z2,Z2,Z2,Z2,Z2,Z2,Z2,Z2,Z2,Z2] rfl rfl (one_of HT_.out (by kernel_rfl)) (by decide) (fun K hK => ?_)
             refine goes_ Try.func43 (by kernel_rfl) rfl #[.int .i64 ((rd_T74 l0 x3_1).f1),.int .i64 0,.int .i64 99] (by rfl) rfl rfl (by (try simp only [List.map_toArray,List.map_cons,List.map_nil]);first | done | rfl | (simp only [List.length_drop,List.length_take];rfl)) ?_
             with_reducible refine (spec_l01In.calls ((rd_T74 l0 x3_1).f1) 0 99 true _ A12.out).mono ?_
             rintro e w' ⟨rfl,⟨nd,rfl⟩⟩
             refine ⟨_,rfl,?_⟩
             refine hK.out _ _ ⟨(blk_cell BK122.out 0).trans rfl,(blk_cell BK122.out 1).trans rfl,(blk_cell BK122.out 2).trans rfl,(blk_cell BK122.out 3).trans rfl,((HB.out.cell (World.block_lt_of_cell? w _ hw124_0)).trans hw124_0),((HB.out.cell (World.block_lt_of_cell? w _ hw124_1)).trans hw124_1),((HB.out.cell (World.block_lt_of_cell? w _ hw124_2)).trans hw124_2),((HB.out.cell (World.block_lt_of_cell? w _ hw124_3)).trans hw124_3)⟩ (fun hHeld => ?_)
             clear hK K
             refine norm_ (a':=?_) ?_ ?_
             rotate_left
             ·show Act.put _ (some 41) _ = _
              simp only [Act.put,q12,q22,q32,i64_w,i32_w]
              rfl
             refine pure_ (i:=24) (N:=some 42) (v:=?_) (a':=?_) #[Y2,Y2,Y2,Y2,Y2,Y2,Y2,Y2,Y2,Y2,Y2,Y2,Y2,Y2,Y2,Y2,Y2,Y2,Y2,Y2,Y2,Y2,Y2,Y2,Y2,Z2,Z2,Z2,Z2,Z2,Z2,Z2,Z2,Z2,Z2,Z2,Z2,Z2] rfl rfl (any_of HT_.out (by kernel_rfl)) (fun _ _ _ h => h) (Or.inl ⟨by rfl,?_⟩) ?_ ?_
             rotate_left
             ·intro w'
              go_simp
              with_reducible rfl
             rotate_left
             ·simp only [Act.put,q12,q22,q32,i64_w,i32_w]
              rfl
             refine pure_ (i:=25) (N:=some 43) (v:=?_) (a':=?_) #[Y2,Y2,Y2,Y2,Y2,Y2,Y2,Y2,Y2,Y2,Y2,Y2,Y2,Y2,Y2,Y2,Y2,Y2,Y2,Y2,Y2,Y2,Y2,Y2,Y2,Y2,Z2,Z2,Z2,Z2,Z2,Z2,Z2,Z2,Z2,Z2,Z2,Z2] rfl rfl (any_of HT_.out (by kernel_rfl)) (fun _ _ _ h => h) (Or.inl ⟨by rfl,?_⟩) ?_ ?_
             rotate_left
             ·intro w'
              go_simp
              with_reducible rfl
             rotate_left
             ·simp only [Act.put,q12,q22,q32,i64_w,i32_w]
              rfl
             refine pure_ (i:=26) (N:=some 44) (v:=?_) (a':=?_) #[Y2,Y2,Y2,Y2,Y2,Y2,Y2,Y2,Y2,Y2,Y2,Y2,Y2,Y2,Y2,Y2,Y2,Y2,Y2,Y2,Y2,Y2,Y2,Y2,Y2,Y2,Y2,Z2,Z2,Z2,Z2,Z2,Z2,Z2,Z2,Z2,Z2,Z2] rfl rfl (any_of HT_.out (by kernel_rfl)) (fun _ _ _ h => h) (Or.inl ⟨by rfl,?_⟩) ?_ ?_
             rotate_left
             ·intro w'
              go_simp
              with_reducible rfl
             rotate_left
             ·simp only [Act.put,q12,q22,q32,i64_w,i32_w]
              rfl
             refine pure_ (i:=27) (N:=some 45) (v:=?_) (a':=?_) #[Y2,Y2,Y2,Y2,Y2,Y2,Y2,Y2,Y2,Y2,Y2,Y2,Y2,Y2,Y2,Y2,Y2,Y2,Y2,Y2,Y2,Y2,Y2,Y2,Y2,Y2,Y2,Y2,Z2,Z2,Z2,Z2,Z2,Z2,Z2,Z2,Z2,Z2] rfl rfl (any_of HT_.out (by kernel_rfl)) (fun _ _ _ h => h) (Or.inl ⟨by rfl,?_⟩) ?_ ?_
             rotate_left
             ·intro w'
              go_simp
              with_reducible rfl
             rotate_left
             ·simp only [Act.put,q12,q22,q32,i64_w,i32_w]
              rfl
             refine take_ (i:=28) (N:=some 46) (v:=?_) (a':=?_) #[Y2,Y2,Y2,Y2,Y2,Y2,Y2,Y2,Y2,Y2,Y2,Y2,Y2,Y2,Y2,Y2,Y2,Y2,Y2,Y2,Y2,Y2,Y2,Y2,Y2,Y2,Y2,Y2,Y2,Z2,Z2,Z2,Z2,Z2,Z2,Z2,Z2,Z2] rfl rfl (take_ofW HT_.out HW_.out (by kernel_rfl)) (fun _ _ _ h => h) (Or.inl ⟨by rfl,?_⟩) hHeld ?_ ?_
             rotate_left
             ·rintro w' ⟨s0,s1,s2,s3,s4,s5,s6,s7⟩
              go_simp
              with_reducible rfl
             rotate_left
             ·simp only [Act.put,q12,q22,q32,i64_w,i32_w]
              rfl
             refine one_ (i:=29) (N:=some 47) #[Y2,Y2,Y2,Y2,Y2,Y2,Y2,Y2,Y2,Y2,Y2,Y2,Y2,Y2,Y2,Y2,Y2,Y2,Y2,Y2,Y2,Y2,Y2,Y2,Y2,Y2,Y2,Y2,Y2,Y2,Z2,Z2,Z2,Z2,Z2,Z2,Z2,Z2] rfl rfl (one_of HT_.out (by kernel_rfl)) (by decide) (fun K hK => ?_)
             refine goes_ Try.func43 (by kernel_rfl) rfl #[.int .i64 ((rd_T74 l0 x3_1).f2),.int .i64 0,.int .i64 20000] (by rfl) rfl rfl (by (try simp only [List.map_toArray,List.map_cons,List.map_nil]);first | done | rfl | (simp only [List.length_drop,List.length_take];rfl)) ?_
             with_reducible refine (spec_l01In.calls ((rd_T74 l0 x3_1).f2) 0 20000 false _ A14.out).mono ?_
             rintro e w' ⟨rfl,⟨nd,rfl⟩⟩
             refine ⟨_,rfl,?_⟩
             refine hK.out _ _ ⟨(blk_cell BK122.out 0).trans rfl,(blk_cell BK122.out 1).trans rfl,(blk_cell BK122.out 2).trans rfl,(blk_cell BK122.out 3).trans rfl,((HB.out.cell (World.block_lt_of_cell? w _ hw124_0)).trans hw124_0),((HB.out.cell (World.block_lt_of_cell? w _ hw124_1)).trans hw124_1),((HB.out.cell (World.block_lt_of_cell? w _ hw124_2)).trans hw124_2),((HB.out.cell (World.block_lt_of_cell? w _ hw124_3)).trans hw124_3)⟩ (fun hHeld => ?_)
             clear hK K
             refine norm_ (a':=?_) ?_ ?_
             rotate_left
             ·show Act.put _ (some 47) _ = _
              simp only [Act.put,q12,q22,q32,i64_w,i32_w]
              rfl
             refine pure_ (i:=30) (N:=some 48) (v:=?_) (a':=?_) #[Y2,Y2,Y2,Y2,Y2,Y2,Y2,Y2,Y2,Y2,Y2,Y2,Y2,Y2,Y2,Y2,Y2,Y2,Y2,Y2,Y2,Y2,Y2,Y2,Y2,Y2,Y2,Y2,Y2,Y2,Y2,Z2,Z2,Z2,Z2,Z2,Z2,Z2] rfl rfl (any_of HT_.out (by kernel_rfl)) (fun _ _ _ h => h) (Or.inl ⟨by rfl,?_⟩) ?_ ?_
             rotate_left
             ·intro w'
              go_simp
              with_reducible rfl
             rotate_left
             ·simp only [Act.put,q12,q22,q32,i64_w,i32_w]
              rfl
             refine pure_ (i:=31) (N:=some 49) (v:=?_) (a':=?_) #[Y2,Y2,Y2,Y2,Y2,Y2,Y2,Y2,Y2,Y2,Y2,Y2,Y2,Y2,Y2,Y2,Y2,Y2,Y2,Y2,Y2,Y2,Y2,Y2,Y2,Y2,Y2,Y2,Y2,Y2,Y2,Y2,Z2,Z2,Z2,Z2,Z2,Z2] rfl rfl (any_of HT_.out (by kernel_rfl)) (fun _ _ _ h => h) (Or.inl ⟨by rfl,?_⟩) ?_ ?_
             rotate_left
             ·intro w'
              go_simp
              with_reducible rfl
             rotate_left
             ·simp only [Act.put,q12,q22,q32,i64_w,i32_w]
              rfl
             refine pure_ (i:=32) (N:=some 50) (v:=?_) (a':=?_) #[Y2,Y2,Y2,Y2,Y2,Y2,Y2,Y2,Y2,Y2,Y2,Y2,Y2,Y2,Y2,Y2,Y2,Y2,Y2,Y2,Y2,Y2,Y2,Y2,Y2,Y2,Y2,Y2,Y2,Y2,Y2,Y2,Y2,Z2,Z2,Z2,Z2,Z2] rfl rfl (any_of HT_.out (by kernel_rfl)) (fun _ _ _ h => h) (Or.inl ⟨by rfl,?_⟩) ?_ ?_
             rotate_left
             ·intro w'
              go_simp
              with_reducible rfl
             rotate_left
             ·simp only [Act.put,q12,q22,q32,i64_w,i32_w]
              rfl
             refine pure_ (i:=33) (N:=some 51) (v:=undef) (a':=?_) #[Y2,Y2,Y2,Y2,Y2,Y2,Y2,Y2,Y2,Y2,Y2,Y2,Y2,Y2,Y2,Y2,Y2,Y2,Y2,Y2,Y2,Y2,Y2,Y2,Y2,Y2,Y2,Y2,Y2,Y2,Y2,Y2,Y2,Y2,Z2,Z2,Z2,Z2] rfl rfl (any_of HT_.out (by kernel_rfl)) (fun _ _ _ h => h) (Or.inr ⟨by rfl,rfl⟩) ?_ ?_
             rotate_left
             ·simp only [Act.put,q12,q22,q32,i64_w,i32_w]
              rfl
             refine pure_ (i:=34) (N:=some 52) (v:=undef) (a':=?_) #[Y2,Y2,Y2,Y2,Y2,Y2,Y2,Y2,Y2,Y2,Y2,Y2,Y2,Y2,Y2,Y2,Y2,Y2,Y2,Y2,Y2,Y2,Y2,Y2,Y2,Y2,Y2,Y2,Y2,Y2,Y2,Y2,Y2,Y2,Y2,Z2,Z2,Z2] rfl rfl (any_of HT_.out (by kernel_rfl)) (fun _ _ _ h => h) (Or.inr ⟨by rfl,rfl⟩) ?_ ?_
             rotate_left
             ·simp only [Act.put,q12,q22,q32,i64_w,i32_w]
              rfl
             refine pure_ (i:=35) (N:=some 53) (v:=undef) (a':=?_) #[Y2,Y2,Y2,Y2,Y2,Y2,Y2,Y2,Y2,Y2,Y2,Y2,Y2,Y2,Y2,Y2,Y2,Y2,Y2,Y2,Y2,Y2,Y2,Y2,Y2,Y2,Y2,Y2,Y2,Y2,Y2,Y2,Y2,Y2,Y2,Y2,Z2,Z2] rfl rfl (any_of HT_.out (by kernel_rfl)) (fun _ _ _ h => h) (Or.inr ⟨by rfl,rfl⟩) ?_ ?_
             rotate_left
             ·simp only [Act.put,q12,q22,q32,i64_w,i32_w]
              rfl
             refine pure_ (i:=36) (N:=some 54) (v:=undef) (a':=?_) #[Y2,Y2,Y2,Y2,Y2,Y2,Y2,Y2,Y2,Y2,Y2,Y2,Y2,Y2,Y2,Y2,Y2,Y2,Y2,Y2,Y2,Y2,Y2,Y2,Y2,Y2,Y2,Y2,Y2,Y2,Y2,Y2,Y2,Y2,Y2,Y2,Y2,Z2] rfl rfl (any_of HT_.out (by kernel_rfl)) (fun _ _ _ h => h) (Or.inr ⟨by rfl,rfl⟩) ?_ ?_
             rotate_left
             ·simp only [Act.put,q12,q22,q32,i64_w,i32_w]
              rfl
             refine pure_ (i:=37) (N:=some 55) (v:=?_) (a':=?_) #[Y2,Y2,Y2,Y2,Y2,Y2,Y2,Y2,Y2,Y2,Y2,Y2,Y2,Y2,Y2,Y2,Y2,Y2,Y2,Y2,Y2,Y2,Y2,Y2,Y2,Y2,Y2,Y2,Y2,Y2,Y2,Y2,Y2,Y2,Y2,Y2,Y2,Y2] rfl rfl (any_of HT_.out (by kernel_rfl)) (fun _ _ _ h => h) (Or.inl ⟨by rfl,?_⟩) ?_ ?_
             rotate_left
             ·intro w'
              go_simp
              with_reducible rfl
             rotate_left
             ·simp only [Act.put,q12,q22,q32,i64_w,i32_w]
              rfl
             refine done_ (done_of HT_.out (by kernel_rfl)) ?_
             try go_wp2
             go_ret
             exact ⟨by first | rfl | (simp [errW_none,errW_some] <;> rfl) | (simp only [← hji8];first | rfl | (simp [errW_none,errW_some] <;> rfl)) | (simp [*,errW_none,errW_some] <;> rfl),by repeat (first | (with_reducible first | exact HB.out | apply below_alloc | apply pw_below_drewN | apply below_drew1 | refine below_set ?_ GE122.out) | exact HB.out)⟩
           ·replace c13:=Bool.eq_false_iff.mpr c13
            subst c13
            have H1 : (some false) = some r:=by rw [if_neg (show ¬ (false = true) by decide)] at H;exact H
            clear H
            have H:=H1
            clear H1
            obtain rfl:=Option.some.inj H
            have p121 : 0 ≤ (x3_1 : Int):=of_decide_eq_true (by first | (with_reducible assumption) | assumption)
            have q121 : x3_1 < (l0.length : Int):=of_decide_eq_true (by first | (with_reducible assumption) | assumption)
            obtain ⟨ad121,e121,hx121_0,hx121_1,hx121_2,hx121_3⟩:=at_T74 HR0.out x3_1 p121 q121
            cases e121
            replace hx121_0:=(HB.out.cell (World.block_lt_of_cell? w _ hx121_0)).trans hx121_0
            replace hx121_1:=(HB.out.cell (World.block_lt_of_cell? w _ hx121_1)).trans hx121_1
            replace hx121_2:=(HB.out.cell (World.block_lt_of_cell? w _ hx121_2)).trans hx121_2
            replace hx121_3:=(HB.out.cell (World.block_lt_of_cell? w _ hx121_3)).trans hx121_3
            replace p121:=eq_true p121
            replace q121:=eq_true q121
            try go_wp2_with (first | ((with_reducible refine gate_dst (N:=4) rfl ?_);refine box_event ?hg (N:=4) ?hd (cs:=#[.string (⟨#[]⟩ : ByteArray),.int .i64 0,.int .i64 0,.int .i64 0]) (t:=74) ?hr ?_;(case hd => rfl);(case hg => rfl);(case hr => first | (go_simp;done) | (go_simp;rfl));intro gb122 hg w30 hbox hb;have n0_:=Aside0.mk (below_step (by repeat (first | (with_reducible first | exact HB.out | apply below_alloc | apply pw_below_drewN | apply below_drew1) | exact HB.out)) hb);have n1_:=Aside0.mk (hbox);have n2_:=Aside0.mk ((by rw [hg];exact (below_size (by repeat (first | (with_reducible first | exact HB.out | apply below_alloc | apply pw_below_drewN | apply below_drew1) | exact HB.out))) : w.heap.size ≤ gb122));have n3_:=Aside0.mk ((by rw [hg];exact (below_size (by repeat (first | (with_reducible first | exact HB.out | apply below_alloc | apply pw_below_drewN | apply below_drew1) | exact HB.out))) : w.heap.size ≤ gb122));clear HB;have HB:=n0_;have BK122:=n1_;have GW122:=n2_;have GE122:=n3_;clear n0_ n1_ n2_ n3_;clear hb hbox hg;have hcz31_0 : w30.cell? ⟨gb122,0,none⟩ = some (.string (⟨#[]⟩ : ByteArray)):=(blk_cell BK122.out 0).trans rfl;have hcz31_1 : w30.cell? ⟨gb122,1,none⟩ = some (.int .i64 0):=(blk_cell BK122.out 1).trans rfl;have hcz31_2 : w30.cell? ⟨gb122,2,none⟩ = some (.int .i64 0):=(blk_cell BK122.out 2).trans rfl;have hcz31_3 : w30.cell? ⟨gb122,3,none⟩ = some (.int .i64 0):=(blk_cell BK122.out 3).trans rfl;have hfz31_0:=blk_frozen BK122.out 0;have hfz31_1:=blk_frozen BK122.out 1;have hfz31_2:=blk_frozen BK122.out 2;have hfz31_3:=blk_frozen BK122.out 3))
            have n0_ : Aside0 (((((w30.setCell ⟨gb122,0,none⟩ (.string ((rd_T74 l0 x3_1).f0))).setCell ⟨gb122,1,none⟩ (.int .i64 ((rd_T74 l0 x3_1).f1))).setCell ⟨gb122,2,none⟩ (.int .i64 ((rd_T74 l0 x3_1).f2))).setCell ⟨gb122,3,none⟩ (.int .i64 ((rd_T74 l0 x3_1).f3))).heap[gb122]? = some (.cells #[.string ((rd_T74 l0 x3_1).f0),.int .i64 ((rd_T74 l0 x3_1).f1),.int .i64 ((rd_T74 l0 x3_1).f2),.int .i64 ((rd_T74 l0 x3_1).f3)] 74 (0,0))):=⟨by (with_reducible repeat (first | refine blk_drewN ?_ _ | refine blk_drew ?_ | refine blk_alloc ?_ _));refine blk_put (cs:=#[.string ((rd_T74 l0 x3_1).f0),.int .i64 ((rd_T74 l0 x3_1).f1),.int .i64 ((rd_T74 l0 x3_1).f2),.int .i64 0]) ?_ 3 _ rfl;(with_reducible repeat (first | refine blk_drewN ?_ _ | refine blk_drew ?_ | refine blk_alloc ?_ _));refine blk_put (cs:=#[.string ((rd_T74 l0 x3_1).f0),.int .i64 ((rd_T74 l0 x3_1).f1),.int .i64 0,.int .i64 0]) ?_ 2 _ rfl;(with_reducible repeat (first | refine blk_drewN ?_ _ | refine blk_drew ?_ | refine blk_alloc ?_ _));refine blk_put (cs:=#[.string ((rd_T74 l0 x3_1).f0),.int .i64 0,.int .i64 0,.int .i64 0]) ?_ 1 _ rfl;(with_reducible repeat (first | refine blk_drewN ?_ _ | refine blk_drew ?_ | refine blk_alloc ?_ _));refine blk_put (cs:=#[.string (⟨#[]⟩ : ByteArray),.int .i64 0,.int .i64 0,.int .i64 0]) ?_ 0 _ rfl;(with_reducible repeat (first | refine blk_drewN ?_ _ | refine blk_drew ?_ | refine blk_alloc ?_ _));exact BK122.out⟩
            have n1_ : Aside0 (Below w.heap.size w ((((w30.setCell ⟨gb122,0,none⟩ (.string ((rd_T74 l0 x3_1).f0))).setCell ⟨gb122,1,none⟩ (.int .i64 ((rd_T74 l0 x3_1).f1))).setCell ⟨gb122,2,none⟩ (.int .i64 ((rd_T74 l0 x3_1).f2))).setCell ⟨gb122,3,none⟩ (.int .i64 ((rd_T74 l0 x3_1).f3)))):=⟨by repeat (first | (with_reducible first | exact HB.out | apply below_alloc | apply pw_below_drewN | apply below_drew1 | refine below_set ?_ GE122.out) | exact HB.out)⟩
            (try clear BK122)
            (try clear HB)
            generalize ((((w30.setCell ⟨gb122,0,none⟩ (.string ((rd_T74 l0 x3_1).f0))).setCell ⟨gb122,1,none⟩ (.int .i64 ((rd_T74 l0 x3_1).f1))).setCell ⟨gb122,2,none⟩ (.int .i64 ((rd_T74 l0 x3_1).f2))).setCell ⟨gb122,3,none⟩ (.int .i64 ((rd_T74 l0 x3_1).f3))) = w32 at n0_ n1_ ⊢
            have BK122:=n0_
            have HB:=n1_
            clear n0_ n1_
            have n0_:=Aside0.mk (blk_drew BK122.out)
            have n1_:=Aside0.mk (below_drew1 HB.out)
            clear BK122
            clear HB
            have BK122:=n0_
            have HB:=n1_
            clear n0_ n1_
            have p124 : 0 ≤ ((ji8) : Int):=of_decide_eq_true (by first | (with_reducible assumption) | assumption)
            have q124 : (ji8) < (l0.length : Int):=of_decide_eq_true (by first | (with_reducible assumption) | assumption)
            obtain ⟨ad124,e124,hx124_0,hx124_1,hx124_2,hx124_3⟩:=at_T74 HR0.out (ji8) p124 q124
            have hw124_3:=hx124_3
            have hw124_2:=hx124_2
            have hw124_1:=hx124_1
            have hw124_0:=hx124_0
            obtain rfl : ad121 = ad124:=(by injection e124)
            replace hx124_0:=(HB.out.cell (World.block_lt_of_cell? w _ hx124_0)).trans hx124_0
            replace hx124_1:=(HB.out.cell (World.block_lt_of_cell? w _ hx124_1)).trans hx124_1
            replace hx124_2:=(HB.out.cell (World.block_lt_of_cell? w _ hx124_2)).trans hx124_2
            replace hx124_3:=(HB.out.cell (World.block_lt_of_cell? w _ hx124_3)).trans hx124_3
            replace p124:=eq_true p124
            replace q124:=eq_true q124
            refine start_ (n:=38) (S:=fun w' => w'.cell? ⟨gb122,0,none⟩ = some (.string ((rd_T74 l0 x3_1).f0)) ∧ w'.cell? ⟨gb122,1,none⟩ = some (.int .i64 ((rd_T74 l0 x3_1).f1)) ∧ w'.cell? ⟨gb122,2,none⟩ = some (.int .i64 ((rd_T74 l0 x3_1).f2)) ∧ w'.cell? ⟨gb122,3,none⟩ = some (.int .i64 ((rd_T74 l0 x3_1).f3)) ∧ w'.cell? (ad121.add (((ji8)).toNat * 4)) = some (.string ((rd_T74 l0 (ji8)).f0)) ∧ w'.cell? ⟨(ad121.add (((ji8)).toNat * 4)).block,(ad121.add (((ji8)).toNat * 4)).off + 1,none⟩ = some (.int .i64 ((rd_T74 l0 (ji8)).f1)) ∧ w'.cell? ⟨(ad121.add (((ji8)).toNat * 4)).block,(ad121.add (((ji8)).toNat * 4)).off + 2,none⟩ = some (.int .i64 ((rd_T74 l0 (ji8)).f2)) ∧ w'.cell? ⟨(ad121.add (((ji8)).toNat * 4)).block,(ad121.add (((ji8)).toNat * 4)).off + 3,none⟩ = some (.int .i64 ((rd_T74 l0 (ji8)).f3))) (ds:=[]) #[Z2,Z2,Z2,Z2,Z2,Z2,Z2,Z2,Z2,Z2,Z2,Z2,Z2,Z2,Z2,Z2,Z2,Z2,Z2,Z2,Z2,Z2,Z2,Z2,Z2,Z2,Z2,Z2,Z2,Z2,Z2,Z2,Z2,Z2,Z2,Z2,Z2,Z2] (by kernel_rfl) rfl rfl ⟨(blk_cell BK122.out 0).trans rfl,(blk_cell BK122.out 1).trans rfl,(blk_cell BK122.out 2).trans rfl,(blk_cell BK122.out 3).trans rfl,((HB.out.cell (World.block_lt_of_cell? w _ hw124_0)).trans hw124_0),((HB.out.cell (World.block_lt_of_cell? w _ hw124_1)).trans hw124_1),((HB.out.cell (World.block_lt_of_cell? w _ hw124_2)).trans hw124_2),((HB.out.cell (World.block_lt_of_cell? w _ hw124_3)).trans hw124_3)⟩ (fun hHeld => ?_);refine with_tabW spec_DirOk.tab7 spec_DirOk.bits7 (fun HT_ HW_ => ?_)
            generalize w32.drew = w33 at BK122 HB hx124_0 hx124_1 hx124_2 hx124_3 hHeld ⊢
            refine pure_ (i:=0) (N:=some 18) (v:=?_) (a':=?_) #[Y2,Z2,Z2,Z2,Z2,Z2,Z2,Z2,Z2,Z2,Z2,Z2,Z2,Z2,Z2,Z2,Z2,Z2,Z2,Z2,Z2,Z2,Z2,Z2,Z2,Z2,Z2,Z2,Z2,Z2,Z2,Z2,Z2,Z2,Z2,Z2,Z2,Z2] rfl rfl (any_of HT_.out (by kernel_rfl)) (fun _ _ _ h => h) (Or.inl ⟨by rfl,?_⟩) ?_ ?_
            rotate_left
            ·intro w'
             go_simp
             with_reducible rfl
            rotate_left
            ·simp only [Act.put,q12,q22,q32,i64_w,i32_w]
             rfl
            refine take_ (i:=1) (N:=some 19) (v:=?_) (a':=?_) #[Y2,Y2,Z2,Z2,Z2,Z2,Z2,Z2,Z2,Z2,Z2,Z2,Z2,Z2,Z2,Z2,Z2,Z2,Z2,Z2,Z2,Z2,Z2,Z2,Z2,Z2,Z2,Z2,Z2,Z2,Z2,Z2,Z2,Z2,Z2,Z2,Z2,Z2] rfl rfl (take_ofW HT_.out HW_.out (by kernel_rfl)) (fun _ _ _ h => h) (Or.inl ⟨by rfl,?_⟩) hHeld ?_ ?_
            rotate_left
            ·rintro w' ⟨s0,s1,s2,s3,s4,s5,s6,s7⟩
             go_simp
             with_reducible rfl
            rotate_left
            ·simp only [Act.put,q12,q22,q32,i64_w,i32_w]
             rfl
            refine pure_ (i:=2) (N:=some 20) (v:=?_) (a':=?_) #[Y2,Y2,Y2,Z2,Z2,Z2,Z2,Z2,Z2,Z2,Z2,Z2,Z2,Z2,Z2,Z2,Z2,Z2,Z2,Z2,Z2,Z2,Z2,Z2,Z2,Z2,Z2,Z2,Z2,Z2,Z2,Z2,Z2,Z2,Z2,Z2,Z2,Z2] rfl rfl (any_of HT_.out (by kernel_rfl)) (fun _ _ _ h => h) (Or.inl ⟨by rfl,?_⟩) ?_ ?_
            rotate_left
            ·intro w'
             go_simp
             with_reducible rfl
            rotate_left
            ·simp only [Act.put,q12,q22,q32,i64_w,i32_w]
             rfl
            refine one_ (i:=3) (N:=some 21) #[Y2,Y2,Y2,Y2,Z2,Z2,Z2,Z2,Z2,Z2,Z2,Z2,Z2,Z2,Z2,Z2,Z2,Z2,Z2,Z2,Z2,Z2,Z2,Z2,Z2,Z2,Z2,Z2,Z2,Z2,Z2,Z2,Z2,Z2,Z2,Z2,Z2,Z2] rfl rfl (one_of HT_.out (by kernel_rfl)) (by decide) (fun K hK => ?_)
            refine goes_ Try.func43 (by kernel_rfl) rfl #[.int .i64 (((rd_T74 l0 x3_1).f0).size : Int),.int .i64 1,.int .i64 20] (by rfl) rfl rfl (by (try simp only [List.map_toArray,List.map_cons,List.map_nil]);first | done | rfl | (simp only [List.length_drop,List.length_take];rfl)) ?_
            with_reducible refine (spec_l01In.calls (((rd_T74 l0 x3_1).f0).size : Int) 1 20 true _ A5.out).mono ?_
            rintro e w' ⟨rfl,⟨nd,rfl⟩⟩
            refine ⟨_,rfl,?_⟩
            refine hK.out _ _ ⟨(blk_cell BK122.out 0).trans rfl,(blk_cell BK122.out 1).trans rfl,(blk_cell BK122.out 2).trans rfl,(blk_cell BK122.out 3).trans rfl,((HB.out.cell (World.block_lt_of_cell? w _ hw124_0)).trans hw124_0),((HB.out.cell (World.block_lt_of_cell? w _ hw124_1)).trans hw124_1),((HB.out.cell (World.block_lt_of_cell? w _ hw124_2)).trans hw124_2),((HB.out.cell (World.block_lt_of_cell? w _ hw124_3)).trans hw124_3)⟩ (fun hHeld => ?_)
            clear hK K
            refine norm_ (a':=?_) ?_ ?_
            rotate_left
            ·show Act.put _ (some 21) _ = _
             simp only [Act.put,q12,q22,q32,i64_w,i32_w]
             rfl
            refine pure_ (i:=4) (N:=some 22) (v:=?_) (a':=?_) #[Y2,Y2,Y2,Y2,Y2,Z2,Z2,Z2,Z2,Z2,Z2,Z2,Z2,Z2,Z2,Z2,Z2,Z2,Z2,Z2,Z2,Z2,Z2,Z2,Z2,Z2,Z2,Z2,Z2,Z2,Z2,Z2,Z2,Z2,Z2,Z2,Z2,Z2] rfl rfl (any_of HT_.out (by kernel_rfl)) (fun _ _ _ h => h) (Or.inl ⟨by rfl,?_⟩) ?_ ?_
            rotate_left
            ·intro w'
             go_simp
             with_reducible rfl
            rotate_left
            ·simp only [Act.put,q12,q22,q32,i64_w,i32_w]
             rfl
            refine pure_ (i:=5) (N:=some 23) (v:=?_) (a':=?_) #[Y2,Y2,Y2,Y2,Y2,Y2,Z2,Z2,Z2,Z2,Z2,Z2,Z2,Z2,Z2,Z2,Z2,Z2,Z2,Z2,Z2,Z2,Z2,Z2,Z2,Z2,Z2,Z2,Z2,Z2,Z2,Z2,Z2,Z2,Z2,Z2,Z2,Z2] rfl rfl (any_of HT_.out (by kernel_rfl)) (fun _ _ _ h => h) (Or.inl ⟨by rfl,?_⟩) ?_ ?_
            rotate_left
            ·intro w'
             go_simp
             with_reducible rfl
            rotate_left
            ·simp only [Act.put,q12,q22,q32,i64_w,i32_w]
             rfl
            refine pure_ (i:=6) (N:=some 24) (v:=?_) (a':=?_) #[Y2,Y2,Y2,Y2,Y2,Y2,Y2,Z2,Z2,Z2,Z2,Z2,Z2,Z2,Z2,Z2,Z2,Z2,Z2,Z2,Z2,Z2,Z2,Z2,Z2,Z2,Z2,Z2,Z2,Z2,Z2,Z2,Z2,Z2,Z2,Z2,Z2,Z2] rfl rfl (any_of HT_.out (by kernel_rfl)) (fun _ _ _ h => h) (Or.inl ⟨by rfl,?_⟩) ?_ ?_
            rotate_left
            ·intro w'
             go_simp
             with_reducible rfl
            rotate_left
            ·simp only [Act.put,q12,q22,q32,i64_w,i32_w]
             rfl
            refine pure_ (i:=7) (N:=some 25) (v:=?_) (a':=?_) #[Y2,Y2,Y2,Y2,Y2,Y2,Y2,Y2,Z2,Z2,Z2,Z2,Z2,Z2,Z2,Z2,Z2,Z2,Z2,Z2,Z2,Z2,Z2,Z2,Z2,Z2,Z2,Z2,Z2,Z2,Z2,Z2,Z2,Z2,Z2,Z2,Z2,Z2] rfl rfl (any_of HT_.out (by kernel_rfl)) (fun _ _ _ h => h) (Or.inl ⟨by rfl,?_⟩) ?_ ?_
            rotate_left
            ·intro w'
             go_simp
             with_reducible rfl
            rotate_left
            ·simp only [Act.put,q12,q22,q32,i64_w,i32_w]
             rfl
            refine pure_ (i:=8) (N:=some 26) (v:=?_) (a':=?_) #[Y2,Y2,Y2,Y2,Y2,Y2,Y2,Y2,Y2,Z2,Z2,Z2,Z2,Z2,Z2,Z2,Z2,Z2,Z2,Z2,Z2,Z2,Z2,Z2,Z2,Z2,Z2,Z2,Z2,Z2,Z2,Z2,Z2,Z2,Z2,Z2,Z2,Z2] rfl rfl (any_of HT_.out (by kernel_rfl)) (fun _ _ _ h => h) (Or.inl ⟨by rfl,?_⟩) ?_ ?_
            rotate_left
            ·intro w'
             go_simp
             with_reducible rfl
            rotate_left
            ·simp only [Act.put,q12,q22,q32,i64_w,i32_w]
             rfl
            refine pure_ (i:=9) (N:=some 27) (v:=?_) (a':=?_) #[Y2,Y2,Y2,Y2,Y2,Y2,Y2,Y2,Y2,Y2,Z2,Z2,Z2,Z2,Z2,Z2,Z2,Z2,Z2,Z2,Z2,Z2,Z2,Z2,Z2,Z2,Z2,Z2,Z2,Z2,Z2,Z2,Z2,Z2,Z2,Z2,Z2,Z2] rfl rfl (any_of HT_.out (by kernel_rfl)) (fun _ _ _ h => h) (Or.inl ⟨by rfl,?_⟩) ?_ ?_
            rotate_left
            ·intro w'
             go_simp
             with_reducible rfl
            rotate_left
            ·simp only [Act.put,q12,q22,q32,i64_w,i32_w]
             rfl
            refine pure_ (i:=10) (N:=some 28) (v:=?_) (a':=?_) #[Y2,Y2,Y2,Y2,Y2,Y2,Y2,Y2,Y2,Y2,Y2,Z2,Z2,Z2,Z2,Z2,Z2,Z2,Z2,Z2,Z2,Z2,Z2,Z2,Z2,Z2,Z2,Z2,Z2,Z2,Z2,Z2,Z2,Z2,Z2,Z2,Z2,Z2] rfl rfl (any_of HT_.out (by kernel_rfl)) (fun _ _ _ h => h) (Or.inl ⟨by rfl,?_⟩) ?_ ?_
            rotate_left
            ·intro w'
             go_simp
             with_reducible rfl
            rotate_left
            ·simp only [Act.put,q12,q22,q32,i64_w,i32_w]
             rfl
            refine pure_ (i:=11) (N:=some 29) (v:=?_) (a':=?_) #[Y2,Y2,Y2,Y2,Y2,Y2,Y2,Y2,Y2,Y2,Y2,Y2,Z2,Z2,Z2,Z2,Z2,Z2,Z2,Z2,Z2,Z2,Z2,Z2,Z2,Z2,Z2,Z2,Z2,Z2,Z2,Z2,Z2,Z2,Z2,Z2,Z2,Z2] rfl rfl (any_of HT_.out (by kernel_rfl)) (fun _ _ _ h => h) (Or.inl ⟨by rfl,?_⟩) ?_ ?_
            rotate_left
            ·intro w'
             go_simp
             with_reducible rfl
            rotate_left
            ·simp only [Act.put,q12,q22,q32,i64_w,i32_w]
             rfl
            refine pure_ (i:=12) (N:=some 30) (v:=?_) (a':=?_) #[Y2,Y2,Y2,Y2,Y2,Y2,Y2,Y2,Y2,Y2,Y2,Y2,Y2,Z2,Z2,Z2,Z2,Z2,Z2,Z2,Z2,Z2,Z2,Z2,Z2,Z2,Z2,Z2,Z2,Z2,Z2,Z2,Z2,Z2,Z2,Z2,Z2,Z2] rfl rfl (any_of HT_.out (by kernel_rfl)) (fun _ _ _ h => h) (Or.inl ⟨by rfl,?_⟩) ?_ ?_
            rotate_left
            ·intro w'
             go_simp
             with_reducible rfl
            rotate_left
            ·simp only [Act.put,q12,q22,q32,i64_w,i32_w]
             rfl
            refine pure_ (i:=13) (N:=some 31) (v:=?_) (a':=?_) #[Y2,Y2,Y2,Y2,Y2,Y2,Y2,Y2,Y2,Y2,Y2,Y2,Y2,Y2,Z2,Z2,Z2,Z2,Z2,Z2,Z2,Z2,Z2,Z2,Z2,Z2,Z2,Z2,Z2,Z2,Z2,Z2,Z2,Z2,Z2,Z2,Z2,Z2] rfl rfl (any_of HT_.out (by kernel_rfl)) (fun _ _ _ h => h) (Or.inl ⟨by rfl,?_⟩) ?_ ?_
            rotate_left
            ·intro w'
             go_simp
             with_reducible rfl
            rotate_left
            ·simp only [Act.put,q12,q22,q32,i64_w,i32_w]
             rfl
            refine pure_ (i:=15) (N:=some 33) (v:=?_) (a':=?_) #[Y2,Y2,Y2,Y2,Y2,Y2,Y2,Y2,Y2,Y2,Y2,Y2,Y2,Y2,Z2,Y2,Z2,Z2,Z2,Z2,Z2,Z2,Z2,Z2,Z2,Z2,Z2,Z2,Z2,Z2,Z2,Z2,Z2,Z2,Z2,Z2,Z2,Z2] rfl rfl (any_of HT_.out (by kernel_rfl)) (fun _ _ _ h => h) (Or.inl ⟨by rfl,?_⟩) ?_ ?_
            rotate_left
            ·intro w'
             go_simp
             with_reducible rfl
            rotate_left
            ·simp only [Act.put,q12,q22,q32,i64_w,i32_w]
             rfl
            refine take_ (i:=14) (N:=some 32) (v:=?_) (a':=?_) #[Y2,Y2,Y2,Y2,Y2,Y2,Y2,Y2,Y2,Y2,Y2,Y2,Y2,Y2,Y2,Y2,Z2,Z2,Z2,Z2,Z2,Z2,Z2,Z2,Z2,Z2,Z2,Z2,Z2,Z2,Z2,Z2,Z2,Z2,Z2,Z2,Z2,Z2] rfl rfl (take_ofW HT_.out HW_.out (by kernel_rfl)) (fun _ _ _ h => h) (Or.inl ⟨by rfl,?_⟩) hHeld ?_ ?_
            rotate_left
            ·rintro w' ⟨s0,s1,s2,s3,s4,s5,s6,s7⟩
             go_simp
             with_reducible rfl
            rotate_left
            ·simp only [Act.put,q12,q22,q32,i64_w,i32_w]
             rfl
            refine take_ (i:=16) (N:=some 34) (v:=?_) (a':=?_) #[Y2,Y2,Y2,Y2,Y2,Y2,Y2,Y2,Y2,Y2,Y2,Y2,Y2,Y2,Y2,Y2,Y2,Z2,Z2,Z2,Z2,Z2,Z2,Z2,Z2,Z2,Z2,Z2,Z2,Z2,Z2,Z2,Z2,Z2,Z2,Z2,Z2,Z2] rfl rfl (take_ofW HT_.out HW_.out (by kernel_rfl)) (fun _ _ _ h => h) (Or.inl ⟨by rfl,?_⟩) hHeld ?_ ?_
            rotate_left
            ·rintro w' ⟨s0,s1,s2,s3,s4,s5,s6,s7⟩
             go_simp
             with_reducible rfl
            rotate_left
            ·simp only [Act.put,q12,q22,q32,i64_w,i32_w]
             rfl
            refine pure_ (i:=17) (N:=some 35) (v:=?_) (a':=?_) #[Y2,Y2,Y2,Y2,Y2,Y2,Y2,Y2,Y2,Y2,Y2,Y2,Y2,Y2,Y2,Y2,Y2,Y2,Z2,Z2,Z2,Z2,Z2,Z2,Z2,Z2,Z2,Z2,Z2,Z2,Z2,Z2,Z2,Z2,Z2,Z2,Z2,Z2] rfl rfl (any_of HT_.out (by kernel_rfl)) (fun _ _ _ h => h) (Or.inl ⟨by rfl,?_⟩) ?_ ?_
            rotate_left
            ·intro w'
             go_simp
             with_reducible rfl
            rotate_left
            ·simp only [Act.put,q12,q22,q32,i64_w,i32_w]
             rfl
            refine pure_ (i:=18) (N:=some 36) (v:=?_) (a':=?_) #[Y2,Y2,Y2,Y2,Y2,Y2,Y2,Y2,Y2,Y2,Y2,Y2,Y2,Y2,Y2,Y2,Y2,Y2,Y2,Z2,Z2,Z2,Z2,Z2,Z2,Z2,Z2,Z2,Z2,Z2,Z2,Z2,Z2,Z2,Z2,Z2,Z2,Z2] rfl rfl (any_of HT_.out (by kernel_rfl)) (fun _ _ _ h => h) (Or.inl ⟨by rfl,?_⟩) ?_ ?_
            rotate_left
            ·intro w'
             go_simp
             with_reducible rfl
            rotate_left
            ·simp only [Act.put,q12,q22,q32,i64_w,i32_w]
             rfl
            refine pure_ (i:=19) (N:=some 37) (v:=?_) (a':=?_) #[Y2,Y2,Y2,Y2,Y2,Y2,Y2,Y2,Y2,Y2,Y2,Y2,Y2,Y2,Y2,Y2,Y2,Y2,Y2,Y2,Z2,Z2,Z2,Z2,Z2,Z2,Z2,Z2,Z2,Z2,Z2,Z2,Z2,Z2,Z2,Z2,Z2,Z2] rfl rfl (any_of HT_.out (by kernel_rfl)) (fun _ _ _ h => h) (Or.inl ⟨by rfl,?_⟩) ?_ ?_
            rotate_left
            ·intro w'
             go_simp
             with_reducible rfl
            rotate_left
            ·simp only [Act.put,q12,q22,q32,i64_w,i32_w]
             rfl
            refine pure_ (i:=20) (N:=some 38) (v:=?_) (a':=?_) #[Y2,Y2,Y2,Y2,Y2,Y2,Y2,Y2,Y2,Y2,Y2,Y2,Y2,Y2,Y2,Y2,Y2,Y2,Y2,Y2,Y2,Z2,Z2,Z2,Z2,Z2,Z2,Z2,Z2,Z2,Z2,Z2,Z2,Z2,Z2,Z2,Z2,Z2] rfl rfl (any_of HT_.out (by kernel_rfl)) (fun _ _ _ h => h) (Or.inl ⟨by rfl,?_⟩) ?_ ?_
            rotate_left
            ·intro w'
             go_simp
             with_reducible rfl
            rotate_left
            ·simp only [Act.put,q12,q22,q32,i64_w,i32_w]
             rfl
            refine pure_ (i:=21) (N:=some 39) (v:=?_) (a':=?_) #[Y2,Y2,Y2,Y2,Y2,Y2,Y2,Y2,Y2,Y2,Y2,Y2,Y2,Y2,Y2,Y2,Y2,Y2,Y2,Y2,Y2,Y2,Z2,Z2,Z2,Z2,Z2,Z2,Z2,Z2,Z2,Z2,Z2,Z2,Z2,Z2,Z2,Z2] rfl rfl (any_of HT_.out (by kernel_rfl)) (fun _ _ _ h => h) (Or.inl ⟨by rfl,?_⟩) ?_ ?_
            rotate_left
            ·intro w'
             go_simp
             with_reducible rfl
            rotate_left
            ·simp only [Act.put,q12,q22,q32,i64_w,i32_w]
             rfl
            refine take_ (i:=22) (N:=some 40) (v:=?_) (a':=?_) #[Y2,Y2,Y2,Y2,Y2,Y2,Y2,Y2,Y2,Y2,Y2,Y2,Y2,Y2,Y2,Y2,Y2,Y2,Y2,Y2,Y2,Y2,Y2,Z2,Z2,Z2,Z2,Z2,Z2,Z2,Z2,Z2,Z2,Z2,Z2,Z2,Z2,Z2] rfl rfl (take_ofW HT_.out HW_.out (by kernel_rfl)) (fun _ _ _ h => h) (Or.inl ⟨by rfl,?_⟩) hHeld ?_ ?_
            rotate_left
            ·rintro w' ⟨s0,s1,s2,s3,s4,s5,s6,s7⟩
             go_simp
             with_reducible rfl
            rotate_left
            ·simp only [Act.put,q12,q22,q32,i64_w,i32_w]
             rfl
            refine one_ (i:=23) (N:=some 41) #[Y2,Y2,Y2,Y2,Y2,Y2,Y2,Y2,Y2,Y2,Y2,Y2,Y2,Y2,Y2,Y2,Y2,Y2,Y2,Y2,Y2,Y2,Y2,Y2,Z2,Z2,Z2,Z2,Z2,Z2,Z2,Z2,Z2,Z2,Z2,Z2,Z2,Z2] rfl rfl (one_of HT_.out (by kernel_rfl)) (by decide) (fun K hK => ?_)
            refine goes_ Try.func43 (by kernel_rfl) rfl #[.int .i64 ((rd_T74 l0 x3_1).f1),.int .i64 0,.int .i64 99] (by rfl) rfl rfl (by (try simp only [List.map_toArray,List.map_cons,List.map_nil]);first | done | rfl | (simp only [List.length_drop,List.length_take];rfl)) ?_
            with_reducible refine (spec_l01In.calls ((rd_T74 l0 x3_1).f1) 0 99 false _ A12.out).mono ?_
            rintro e w' ⟨rfl,⟨nd,rfl⟩⟩
            refine ⟨_,rfl,?_⟩
            refine hK.out _ _ ⟨(blk_cell BK122.out 0).trans rfl,(blk_cell BK122.out 1).trans rfl,(blk_cell BK122.out 2).trans rfl,(blk_cell BK122.out 3).trans rfl,((HB.out.cell (World.block_lt_of_cell? w _ hw124_0)).trans hw124_0),((HB.out.cell (World.block_lt_of_cell? w _ hw124_1)).trans hw124_1),((HB.out.cell (World.block_lt_of_cell? w _ hw124_2)).trans hw124_2),((HB.out.cell (World.block_lt_of_cell? w _ hw124_3)).trans hw124_3)⟩ (fun hHeld => ?_)
            clear hK K
            refine norm_ (a':=?_) ?_ ?_
            rotate_left
            ·show Act.put _ (some 41) _ = _
             simp only [Act.put,q12,q22,q32,i64_w,i32_w]
             rfl
            refine pure_ (i:=24) (N:=some 42) (v:=?_) (a':=?_) #[Y2,Y2,Y2,Y2,Y2,Y2,Y2,Y2,Y2,Y2,Y2,Y2,Y2,Y2,Y2,Y2,Y2,Y2,Y2,Y2,Y2,Y2,Y2,Y2,Y2,Z2,Z2,Z2,Z2,Z2,Z2,Z2,Z2,Z2,Z2,Z2,Z2,Z2] rfl rfl (any_of HT_.out (by kernel_rfl)) (fun _ _ _ h => h) (Or.inl ⟨by rfl,?_⟩) ?_ ?_
            rotate_left
            ·intro w'
             go_simp
             with_reducible rfl
            rotate_left
            ·simp only [Act.put,q12,q22,q32,i64_w,i32_w]
             rfl
            refine pure_ (i:=25) (N:=some 43) (v:=?_) (a':=?_) #[Y2,Y2,Y2,Y2,Y2,Y2,Y2,Y2,Y2,Y2,Y2,Y2,Y2,Y2,Y2,Y2,Y2,Y2,Y2,Y2,Y2,Y2,Y2,Y2,Y2,Y2,Z2,Z2,Z2,Z2,Z2,Z2,Z2,Z2,Z2,Z2,Z2,Z2] rfl rfl (any_of HT_.out (by kernel_rfl)) (fun _ _ _ h => h) (Or.inl ⟨by rfl,?_⟩) ?_ ?_
            rotate_left
            ·intro w'
             go_simp
             with_reducible rfl
            rotate_left
            ·simp only [Act.put,q12,q22,q32,i64_w,i32_w]
             rfl
            refine pure_ (i:=26) (N:=some 44) (v:=?_) (a':=?_) #[Y2,Y2,Y2,Y2,Y2,Y2,Y2,Y2,Y2,Y2,Y2,Y2,Y2,Y2,Y2,Y2,Y2,Y2,Y2,Y2,Y2,Y2,Y2,Y2,Y2,Y2,Y2,Z2,Z2,Z2,Z2,Z2,Z2,Z2,Z2,Z2,Z2,Z2] rfl rfl (any_of HT_.out (by kernel_rfl)) (fun _ _ _ h => h) (Or.inl ⟨by rfl,?_⟩) ?_ ?_
            rotate_left
            ·intro w'
             go_simp
             with_reducible rfl
            rotate_left
            ·simp only [Act.put,q12,q22,q32,i64_w,i32_w]
             rfl
            refine pure_ (i:=27) (N:=some 45) (v:=undef) (a':=?_) #[Y2,Y2,Y2,Y2,Y2,Y2,Y2,Y2,Y2,Y2,Y2,Y2,Y2,Y2,Y2,Y2,Y2,Y2,Y2,Y2,Y2,Y2,Y2,Y2,Y2,Y2,Y2,Y2,Z2,Z2,Z2,Z2,Z2,Z2,Z2,Z2,Z2,Z2] rfl rfl (any_of HT_.out (by kernel_rfl)) (fun _ _ _ h => h) (Or.inr ⟨by rfl,rfl⟩) ?_ ?_
            rotate_left
            ·simp only [Act.put,q12,q22,q32,i64_w,i32_w]
             rfl
            refine pure_ (i:=28) (N:=some 46) (v:=undef) (a':=?_) #[Y2,Y2,Y2,Y2,Y2,Y2,Y2,Y2,Y2,Y2,Y2,Y2,Y2,Y2,Y2,Y2,Y2,Y2,Y2,Y2,Y2,Y2,Y2,Y2,Y2,Y2,Y2,Y2,Y2,Z2,Z2,Z2,Z2,Z2,Z2,Z2,Z2,Z2] rfl rfl (any_of HT_.out (by kernel_rfl)) (fun _ _ _ h => h) (Or.inr ⟨by rfl,rfl⟩) ?_ ?_
            rotate_left
            ·simp only [Act.put,q12,q22,q32,i64_w,i32_w]
             rfl
            refine pure_ (i:=29) (N:=some 47) (v:=undef) (a':=?_) #[Y2,Y2,Y2,Y2,Y2,Y2,Y2,Y2,Y2,Y2,Y2,Y2,Y2,Y2,Y2,Y2,Y2,Y2,Y2,Y2,Y2,Y2,Y2,Y2,Y2,Y2,Y2,Y2,Y2,Y2,Z2,Z2,Z2,Z2,Z2,Z2,Z2,Z2] rfl rfl (any_of HT_.out (by kernel_rfl)) (fun _ _ _ h => h) (Or.inr ⟨by rfl,rfl⟩) ?_ ?_
            rotate_left
            ·simp only [Act.put,q12,q22,q32,i64_w,i32_w]
             rfl
            refine pure_ (i:=30) (N:=some 48) (v:=undef) (a':=?_) #[Y2,Y2,Y2,Y2,Y2,Y2,Y2,Y2,Y2,Y2,Y2,Y2,Y2,Y2,Y2,Y2,Y2,Y2,Y2,Y2,Y2,Y2,Y2,Y2,Y2,Y2,Y2,Y2,Y2,Y2,Y2,Z2,Z2,Z2,Z2,Z2,Z2,Z2] rfl rfl (any_of HT_.out (by kernel_rfl)) (fun _ _ _ h => h) (Or.inr ⟨by rfl,rfl⟩) ?_ ?_
            rotate_left
            ·simp only [Act.put,q12,q22,q32,i64_w,i32_w]
             rfl
            refine pure_ (i:=31) (N:=some 49) (v:=?_) (a':=?_) #[Y2,Y2,Y2,Y2,Y2,Y2,Y2,Y2,Y2,Y2,Y2,Y2,Y2,Y2,Y2,Y2,Y2,Y2,Y2,Y2,Y2,Y2,Y2,Y2,Y2,Y2,Y2,Y2,Y2,Y2,Y2,Y2,Z2,Z2,Z2,Z2,Z2,Z2] rfl rfl (any_of HT_.out (by kernel_rfl)) (fun _ _ _ h => h) (Or.inl ⟨by rfl,?_⟩) ?_ ?_
            rotate_left
            ·intro w'
             go_simp
             with_reducible rfl
            rotate_left
            ·simp only [Act.put,q12,q22,q32,i64_w,i32_w]
             rfl
            refine pure_ (i:=32) (N:=some 50) (v:=?_) (a':=?_) #[Y2,Y2,Y2,Y2,Y2,Y2,Y2,Y2,Y2,Y2,Y2,Y2,Y2,Y2,Y2,Y2,Y2,Y2,Y2,Y2,Y2,Y2,Y2,Y2,Y2,Y2,Y2,Y2,Y2,Y2,Y2,Y2,Y2,Z2,Z2,Z2,Z2,Z2] rfl rfl (any_of HT_.out (by kernel_rfl)) (fun _ _ _ h => h) (Or.inl ⟨by rfl,?_⟩) ?_ ?_
            rotate_left
            ·intro w'
             go_simp
             with_reducible rfl
            rotate_left
            ·simp only [Act.put,q12,q22,q32,i64_w,i32_w]
             rfl
            refine pure_ (i:=33) (N:=some 51) (v:=undef) (a':=?_) #[Y2,Y2,Y2,Y2,Y2,Y2,Y2,Y2,Y2,Y2,Y2,Y2,Y2,Y2,Y2,Y2,Y2,Y2,Y2,Y2,Y2,Y2,Y2,Y2,Y2,Y2,Y2,Y2,Y2,Y2,Y2,Y2,Y2,Y2,Z2,Z2,Z2,Z2] rfl rfl (any_of HT_.out (by kernel_rfl)) (fun _ _ _ h => h) (Or.inr ⟨by rfl,rfl⟩) ?_ ?_
            rotate_left
            ·simp only [Act.put,q12,q22,q32,i64_w,i32_w]
             rfl
            refine pure_ (i:=34) (N:=some 52) (v:=undef) (a':=?_) #[Y2,Y2,Y2,Y2,Y2,Y2,Y2,Y2,Y2,Y2,Y2,Y2,Y2,Y2,Y2,Y2,Y2,Y2,Y2,Y2,Y2,Y2,Y2,Y2,Y2,Y2,Y2,Y2,Y2,Y2,Y2,Y2,Y2,Y2,Y2,Z2,Z2,Z2] rfl rfl (any_of HT_.out (by kernel_rfl)) (fun _ _ _ h => h) (Or.inr ⟨by rfl,rfl⟩) ?_ ?_
            rotate_left
            ·simp only [Act.put,q12,q22,q32,i64_w,i32_w]
             rfl
            refine pure_ (i:=35) (N:=some 53) (v:=undef) (a':=?_) #[Y2,Y2,Y2,Y2,Y2,Y2,Y2,Y2,Y2,Y2,Y2,Y2,Y2,Y2,Y2,Y2,Y2,Y2,Y2,Y2,Y2,Y2,Y2,Y2,Y2,Y2,Y2,Y2,Y2,Y2,Y2,Y2,Y2,Y2,Y2,Y2,Z2,Z2] rfl rfl (any_of HT_.out (by kernel_rfl)) (fun _ _ _ h => h) (Or.inr ⟨by rfl,rfl⟩) ?_ ?_
            rotate_left
            ·simp only [Act.put,q12,q22,q32,i64_w,i32_w]
             rfl
            refine pure_ (i:=36) (N:=some 54) (v:=undef) (a':=?_) #[Y2,Y2,Y2,Y2,Y2,Y2,Y2,Y2,Y2,Y2,Y2,Y2,Y2,Y2,Y2,Y2,Y2,Y2,Y2,Y2,Y2,Y2,Y2,Y2,Y2,Y2,Y2,Y2,Y2,Y2,Y2,Y2,Y2,Y2,Y2,Y2,Y2,Z2] rfl rfl (any_of HT_.out (by kernel_rfl)) (fun _ _ _ h => h) (Or.inr ⟨by rfl,rfl⟩) ?_ ?_
            rotate_left
            ·simp only [Act.put,q12,q22,q32,i64_w,i32_w]
             rfl
            refine pure_ (i:=37) (N:=some 55) (v:=?_) (a':=?_) #[Y2,Y2,Y2,Y2,Y2,Y2,Y2,Y2,Y2,Y2,Y2,Y2,Y2,Y2,Y2,Y2,Y2,Y2,Y2,Y2,Y2,Y2,Y2,Y2,Y2,Y2,Y2,Y2,Y2,Y2,Y2,Y2,Y2,Y2,Y2,Y2,Y2,Y2] rfl rfl (any_of HT_.out (by kernel_rfl)) (fun _ _ _ h => h) (Or.inl ⟨by rfl,?_⟩) ?_ ?_
            rotate_left
            ·intro w'
             go_simp
             with_reducible rfl
            rotate_left
            ·simp only [Act.put,q12,q22,q32,i64_w,i32_w]
             rfl
            refine done_ (done_of HT_.out (by kernel_rfl)) ?_
            try go_wp2
            go_ret
            exact ⟨by first | rfl | (simp [errW_none,errW_some] <;> rfl) | (simp only [← hji8];first | rfl | (simp [errW_none,errW_some] <;> rfl)) | (simp [*,errW_none,errW_some] <;> rfl),by repeat (first | (with_reducible first | exact HB.out | apply below_alloc | apply pw_below_drewN | apply below_drew1 | refine below_set ?_ GE122.out) | exact HB.out)⟩
          ·rw [if_neg c11] at H
           have c11b0 : (Op.bytesLess (((rd_T74 l0 (ji8)).f0).toList) (((rd_T74 l0 x3_1).f0).toList)) = false:=by simpa using c11
           clear c11
           obtain rfl:=Option.some.inj H
           have p121 : 0 ≤ (x3_1 : Int):=of_decide_eq_true (by first | (with_reducible assumption) | assumption)
           have q121 : x3_1 < (l0.length : Int):=of_decide_eq_true (by first | (with_reducible assumption) | assumption)
           obtain ⟨ad121,e121,hx121_0,hx121_1,hx121_2,hx121_3⟩:=at_T74 HR0.out x3_1 p121 q121
           cases e121
           replace hx121_0:=(HB.out.cell (World.block_lt_of_cell? w _ hx121_0)).trans hx121_0
           replace hx121_1:=(HB.out.cell (World.block_lt_of_cell? w _ hx121_1)).trans hx121_1
           replace hx121_2:=(HB.out.cell (World.block_lt_of_cell? w _ hx121_2)).trans hx121_2
           replace hx121_3:=(HB.out.cell (World.block_lt_of_cell? w _ hx121_3)).trans hx121_3
           replace p121:=eq_true p121
           replace q121:=eq_true q121
           try go_wp2_with (first | ((with_reducible refine gate_dst (N:=4) rfl ?_);refine box_event ?hg (N:=4) ?hd (cs:=#[.string (⟨#[]⟩ : ByteArray),.int .i64 0,.int .i64 0,.int .i64 0]) (t:=74) ?hr ?_;(case hd => rfl);(case hg => rfl);(case hr => first | (go_simp;done) | (go_simp;rfl));intro gb122 hg w34 hbox hb;have n0_:=Aside0.mk (below_step (by repeat (first | (with_reducible first | exact HB.out | apply below_alloc | apply pw_below_drewN | apply below_drew1) | exact HB.out)) hb);have n1_:=Aside0.mk (hbox);have n2_:=Aside0.mk ((by rw [hg];exact (below_size (by repeat (first | (with_reducible first | exact HB.out | apply below_alloc | apply pw_below_drewN | apply below_drew1) | exact HB.out))) : w.heap.size ≤ gb122));have n3_:=Aside0.mk ((by rw [hg];exact (below_size (by repeat (first | (with_reducible first | exact HB.out | apply below_alloc | apply pw_below_drewN | apply below_drew1) | exact HB.out))) : w.heap.size ≤ gb122));clear HB;have HB:=n0_;have BK122:=n1_;have GW122:=n2_;have GE122:=n3_;clear n0_ n1_ n2_ n3_;clear hb hbox hg;have hcz35_0 : w34.cell? ⟨gb122,0,none⟩ = some (.string (⟨#[]⟩ : ByteArray)):=(blk_cell BK122.out 0).trans rfl;have hcz35_1 : w34.cell? ⟨gb122,1,none⟩ = some (.int .i64 0):=(blk_cell BK122.out 1).trans rfl;have hcz35_2 : w34.cell? ⟨gb122,2,none⟩ = some (.int .i64 0):=(blk_cell BK122.out 2).trans rfl;have hcz35_3 : w34.cell? ⟨gb122,3,none⟩ = some (.int .i64 0):=(blk_cell BK122.out 3).trans rfl;have hfz35_0:=blk_frozen BK122.out 0;have hfz35_1:=blk_frozen BK122.out 1;have hfz35_2:=blk_frozen BK122.out 2;have hfz35_3:=blk_frozen BK122.out 3))
           have n0_ : Aside0 (((((w34.setCell ⟨gb122,0,none⟩ (.string ((rd_T74 l0 x3_1).f0))).setCell ⟨gb122,1,none⟩ (.int .i64 ((rd_T74 l0 x3_1).f1))).setCell ⟨gb122,2,none⟩ (.int .i64 ((rd_T74 l0 x3_1).f2))).setCell ⟨gb122,3,none⟩ (.int .i64 ((rd_T74 l0 x3_1).f3))).heap[gb122]? = some (.cells #[.string ((rd_T74 l0 x3_1).f0),.int .i64 ((rd_T74 l0 x3_1).f1),.int .i64 ((rd_T74 l0 x3_1).f2),.int .i64 ((rd_T74 l0 x3_1).f3)] 74 (0,0))):=⟨by (with_reducible repeat (first | refine blk_drewN ?_ _ | refine blk_drew ?_ | refine blk_alloc ?_ _));refine blk_put (cs:=#[.string ((rd_T74 l0 x3_1).f0),.int .i64 ((rd_T74 l0 x3_1).f1),.int .i64 ((rd_T74 l0 x3_1).f2),.int .i64 0]) ?_ 3 _ rfl;(with_reducible repeat (first | refine blk_drewN ?_ _ | refine blk_drew ?_ | refine blk_alloc ?_ _));refine blk_put (cs:=#[.string ((rd_T74 l0 x3_1).f0),.int .i64 ((rd_T74 l0 x3_1).f1),.int .i64 0,.int .i64 0]) ?_ 2 _ rfl;(with_reducible repeat (first | refine blk_drewN ?_ _ | refine blk_drew ?_ | refine blk_alloc ?_ _));refine blk_put (cs:=#[.string ((rd_T74 l0 x3_1).f0),.int .i64 0,.int .i64 0,.int .i64 0]) ?_ 1 _ rfl;(with_reducible repeat (first | refine blk_drewN ?_ _ | refine blk_drew ?_ | refine blk_alloc ?_ _));refine blk_put (cs:=#[.string (⟨#[]⟩ : ByteArray),.int .i64 0,.int .i64 0,.int .i64 0]) ?_ 0 _ rfl;(with_reducible repeat (first | refine blk_drewN ?_ _ | refine blk_drew ?_ | refine blk_alloc ?_ _));exact BK122.out⟩
           have n1_ : Aside0 (Below w.heap.size w ((((w34.setCell ⟨gb122,0,none⟩ (.string ((rd_T74 l0 x3_1).f0))).setCell ⟨gb122,1,none⟩ (.int .i64 ((rd_T74 l0 x3_1).f1))).setCell ⟨gb122,2,none⟩ (.int .i64 ((rd_T74 l0 x3_1).f2))).setCell ⟨gb122,3,none⟩ (.int .i64 ((rd_T74 l0 x3_1).f3)))):=⟨by repeat (first | (with_reducible first | exact HB.out | apply below_alloc | apply pw_below_drewN | apply below_drew1 | refine below_set ?_ GE122.out) | exact HB.out)⟩
           (try clear BK122)
           (try clear HB)
           generalize ((((w34.setCell ⟨gb122,0,none⟩ (.string ((rd_T74 l0 x3_1).f0))).setCell ⟨gb122,1,none⟩ (.int .i64 ((rd_T74 l0 x3_1).f1))).setCell ⟨gb122,2,none⟩ (.int .i64 ((rd_T74 l0 x3_1).f2))).setCell ⟨gb122,3,none⟩ (.int .i64 ((rd_T74 l0 x3_1).f3))) = w36 at n0_ n1_ ⊢
           have BK122:=n0_
           have HB:=n1_
           clear n0_ n1_
           have n0_:=Aside0.mk (blk_drew BK122.out)
           have n1_:=Aside0.mk (below_drew1 HB.out)
           clear BK122
           clear HB
           have BK122:=n0_
           have HB:=n1_
           clear n0_ n1_
           have p124 : 0 ≤ ((ji8) : Int):=of_decide_eq_true (by first | (with_reducible assumption) | assumption)
           have q124 : (ji8) < (l0.length : Int):=of_decide_eq_true (by first | (with_reducible assumption) | assumption)
           obtain ⟨ad124,e124,hx124_0,hx124_1,hx124_2,hx124_3⟩:=at_T74 HR0.out (ji8) p124 q124
           have hw124_3:=hx124_3
           have hw124_2:=hx124_2
           have hw124_1:=hx124_1
           have hw124_0:=hx124_0
           obtain rfl : ad121 = ad124:=(by injection e124)
           replace hx124_0:=(HB.out.cell (World.block_lt_of_cell? w _ hx124_0)).trans hx124_0
           replace hx124_1:=(HB.out.cell (World.block_lt_of_cell? w _ hx124_1)).trans hx124_1
           replace hx124_2:=(HB.out.cell (World.block_lt_of_cell? w _ hx124_2)).trans hx124_2
           replace hx124_3:=(HB.out.cell (World.block_lt_of_cell? w _ hx124_3)).trans hx124_3
           replace p124:=eq_true p124
           replace q124:=eq_true q124
           refine start_ (n:=38) (S:=fun w' => w'.cell? ⟨gb122,0,none⟩ = some (.string ((rd_T74 l0 x3_1).f0)) ∧ w'.cell? ⟨gb122,1,none⟩ = some (.int .i64 ((rd_T74 l0 x3_1).f1)) ∧ w'.cell? ⟨gb122,2,none⟩ = some (.int .i64 ((rd_T74 l0 x3_1).f2)) ∧ w'.cell? ⟨gb122,3,none⟩ = some (.int .i64 ((rd_T74 l0 x3_1).f3)) ∧ w'.cell? (ad121.add (((ji8)).toNat * 4)) = some (.string ((rd_T74 l0 (ji8)).f0)) ∧ w'.cell? ⟨(ad121.add (((ji8)).toNat * 4)).block,(ad121.add (((ji8)).toNat * 4)).off + 1,none⟩ = some (.int .i64 ((rd_T74 l0 (ji8)).f1)) ∧ w'.cell? ⟨(ad121.add (((ji8)).toNat * 4)).block,(ad121.add (((ji8)).toNat * 4)).off + 2,none⟩ = some (.int .i64 ((rd_T74 l0 (ji8)).f2)) ∧ w'.cell? ⟨(ad121.add (((ji8)).toNat * 4)).block,(ad121.add (((ji8)).toNat * 4)).off + 3,none⟩ = some (.int .i64 ((rd_T74 l0 (ji8)).f3))) (ds:=[]) #[Z2,Z2,Z2,Z2,Z2,Z2,Z2,Z2,Z2,Z2,Z2,Z2,Z2,Z2,Z2,Z2,Z2,Z2,Z2,Z2,Z2,Z2,Z2,Z2,Z2,Z2,Z2,Z2,Z2,Z2,Z2,Z2,Z2,Z2,Z2,Z2,Z2,Z2] (by kernel_rfl) rfl rfl ⟨(blk_cell BK122.out 0).trans rfl,(blk_cell BK122.out 1).trans rfl,(blk_cell BK122.out 2).trans rfl,(blk_cell BK122.out 3).trans rfl,((HB.out.cell (World.block_lt_of_cell? w _ hw124_0)).trans hw124_0),((HB.out.cell (World.block_lt_of_cell? w _ hw124_1)).trans hw124_1),((HB.out.cell (World.block_lt_of_cell? w _ hw124_2)).trans hw124_2),((HB.out.cell (World.block_lt_of_cell? w _ hw124_3)).trans hw124_3)⟩ (fun hHeld => ?_);refine with_tabW spec_DirOk.tab7 spec_DirOk.bits7 (fun HT_ HW_ => ?_)
           generalize w36.drew = w37 at BK122 HB hx124_0 hx124_1 hx124_2 hx124_3 hHeld ⊢
           refine pure_ (i:=0) (N:=some 18) (v:=?_) (a':=?_) #[Y2,Z2,Z2,Z2,Z2,Z2,Z2,Z2,Z2,Z2,Z2,Z2,Z2,Z2,Z2,Z2,Z2,Z2,Z2,Z2,Z2,Z2,Z2,Z2,Z2,Z2,Z2,Z2,Z2,Z2,Z2,Z2,Z2,Z2,Z2,Z2,Z2,Z2] rfl rfl (any_of HT_.out (by kernel_rfl)) (fun _ _ _ h => h) (Or.inl ⟨by rfl,?_⟩) ?_ ?_
           rotate_left
           ·intro w'
            go_simp
            with_reducible rfl
           rotate_left
           ·simp only [Act.put,q12,q22,q32,i64_w,i32_w]
            rfl
           refine take_ (i:=1) (N:=some 19) (v:=?_) (a':=?_) #[Y2,Y2,Z2,Z2,Z2,Z2,Z2,Z2,Z2,Z2,Z2,Z2,Z2,Z2,Z2,Z2,Z2,Z2,Z2,Z2,Z2,Z2,Z2,Z2,Z2,Z2,Z2,Z2,Z2,Z2,Z2,Z2,Z2,Z2,Z2,Z2,Z2,Z2] rfl rfl (take_ofW HT_.out HW_.out (by kernel_rfl)) (fun _ _ _ h => h) (Or.inl ⟨by rfl,?_⟩) hHeld ?_ ?_
           rotate_left
           ·rintro w' ⟨s0,s1,s2,s3,s4,s5,s6,s7⟩
            go_simp
            with_reducible rfl
           rotate_left
           ·simp only [Act.put,q12,q22,q32,i64_w,i32_w]
            rfl
           refine pure_ (i:=2) (N:=some 20) (v:=?_) (a':=?_) #[Y2,Y2,Y2,Z2,Z2,Z2,Z2,Z2,Z2,Z2,Z2,Z2,Z2,Z2,Z2,Z2,Z2,Z2,Z2,Z2,Z2,Z2,Z2,Z2,Z2,Z2,Z2,Z2,Z2,Z2,Z2,Z2,Z2,Z2,Z2,Z2,Z2,Z2] rfl rfl (any_of HT_.out (by kernel_rfl)) (fun _ _ _ h => h) (Or.inl ⟨by rfl,?_⟩) ?_ ?_
           rotate_left
           ·intro w'
            go_simp
            with_reducible rfl
           rotate_left
           ·simp only [Act.put,q12,q22,q32,i64_w,i32_w]
            rfl
           refine one_ (i:=3) (N:=some 21) #[Y2,Y2,Y2,Y2,Z2,Z2,Z2,Z2,Z2,Z2,Z2,Z2,Z2,Z2,Z2,Z2,Z2,Z2,Z2,Z2,Z2,Z2,Z2,Z2,Z2,Z2,Z2,Z2,Z2,Z2,Z2,Z2,Z2,Z2,Z2,Z2,Z2,Z2] rfl rfl (one_of HT_.out (by kernel_rfl)) (by decide) (fun K hK => ?_)
           refine goes_ Try.func43 (by kernel_rfl) rfl #[.int .i64 (((rd_T74 l0 x3_1).f0).size : Int),.int .i64 1,.int .i64 20] (by rfl) rfl rfl (by (try simp only [List.map_toArray,List.map_cons,List.map_nil]);first | done | rfl | (simp only [List.length_drop,List.length_take];rfl)) ?_
           with_reducible refine (spec_l01In.calls (((rd_T74 l0 x3_1).f0).size : Int) 1 20 true _ A5.out).mono ?_
           rintro e w' ⟨rfl,⟨nd,rfl⟩⟩
           refine ⟨_,rfl,?_⟩
           refine hK.out _ _ ⟨(blk_cell BK122.out 0).trans rfl,(blk_cell BK122.out 1).trans rfl,(blk_cell BK122.out 2).trans rfl,(blk_cell BK122.out 3).trans rfl,((HB.out.cell (World.block_lt_of_cell? w _ hw124_0)).trans hw124_0),((HB.out.cell (World.block_lt_of_cell? w _ hw124_1)).trans hw124_1),((HB.out.cell (World.block_lt_of_cell? w _ hw124_2)).trans hw124_2),((HB.out.cell (World.block_lt_of_cell? w _ hw124_3)).trans hw124_3)⟩ (fun hHeld => ?_)
           clear hK K
           refine norm_ (a':=?_) ?_ ?_
           rotate_left
           ·show Act.put _ (some 21) _ = _
            simp only [Act.put,q12,q22,q32,i64_w,i32_w]
            rfl
           refine pure_ (i:=4) (N:=some 22) (v:=?_) (a':=?_) #[Y2,Y2,Y2,Y2,Y2,Z2,Z2,Z2,Z2,Z2,Z2,Z2,Z2,Z2,Z2,Z2,Z2,Z2,Z2,Z2,Z2,Z2,Z2,Z2,Z2,Z2,Z2,Z2,Z2,Z2,Z2,Z2,Z2,Z2,Z2,Z2,Z2,Z2] rfl rfl (any_of HT_.out (by kernel_rfl)) (fun _ _ _ h => h) (Or.inl ⟨by rfl,?_⟩) ?_ ?_
           rotate_left
           ·intro w'
            go_simp
            with_reducible rfl
           rotate_left
           ·simp only [Act.put,q12,q22,q32,i64_w,i32_w]
            rfl
           refine pure_ (i:=5) (N:=some 23) (v:=?_) (a':=?_) #[Y2,Y2,Y2,Y2,Y2,Y2,Z2,Z2,Z2,Z2,Z2,Z2,Z2,Z2,Z2,Z2,Z2,Z2,Z2,Z2,Z2,Z2,Z2,Z2,Z2,Z2,Z2,Z2,Z2,Z2,Z2,Z2,Z2,Z2,Z2,Z2,Z2,Z2] rfl rfl (any_of HT_.out (by kernel_rfl)) (fun _ _ _ h => h) (Or.inl ⟨by rfl,?_⟩) ?_ ?_
           rotate_left
           ·intro w'
            go_simp
            with_reducible rfl
           rotate_left
           ·simp only [Act.put,q12,q22,q32,i64_w,i32_w]
            rfl
           refine pure_ (i:=6) (N:=some 24) (v:=?_) (a':=?_) #[Y2,Y2,Y2,Y2,Y2,Y2,Y2,Z2,Z2,Z2,Z2,Z2,Z2,Z2,Z2,Z2,Z2,Z2,Z2,Z2,Z2,Z2,Z2,Z2,Z2,Z2,Z2,Z2,Z2,Z2,Z2,Z2,Z2,Z2,Z2,Z2,Z2,Z2] rfl rfl (any_of HT_.out (by kernel_rfl)) (fun _ _ _ h => h) (Or.inl ⟨by rfl,?_⟩) ?_ ?_
           rotate_left
           ·intro w'
            go_simp
            with_reducible rfl
           rotate_left
           ·simp only [Act.put,q12,q22,q32,i64_w,i32_w]
            rfl
           refine pure_ (i:=7) (N:=some 25) (v:=?_) (a':=?_) #[Y2,Y2,Y2,Y2,Y2,Y2,Y2,Y2,Z2,Z2,Z2,Z2,Z2,Z2,Z2,Z2,Z2,Z2,Z2,Z2,Z2,Z2,Z2,Z2,Z2,Z2,Z2,Z2,Z2,Z2,Z2,Z2,Z2,Z2,Z2,Z2,Z2,Z2] rfl rfl (any_of HT_.out (by kernel_rfl)) (fun _ _ _ h => h) (Or.inl ⟨by rfl,?_⟩) ?_ ?_
           rotate_left
           ·intro w'
            go_simp
            with_reducible rfl
           rotate_left
           ·simp only [Act.put,q12,q22,q32,i64_w,i32_w]
            rfl
           refine pure_ (i:=8) (N:=some 26) (v:=?_) (a':=?_) #[Y2,Y2,Y2,Y2,Y2,Y2,Y2,Y2,Y2,Z2,Z2,Z2,Z2,Z2,Z2,Z2,Z2,Z2,Z2,Z2,Z2,Z2,Z2,Z2,Z2,Z2,Z2,Z2,Z2,Z2,Z2,Z2,Z2,Z2,Z2,Z2,Z2,Z2] rfl rfl (any_of HT_.out (by kernel_rfl)) (fun _ _ _ h => h) (Or.inl ⟨by rfl,?_⟩) ?_ ?_
           rotate_left
           ·intro w'
            go_simp
            with_reducible rfl
           rotate_left
           ·simp only [Act.put,q12,q22,q32,i64_w,i32_w]
            rfl
           refine pure_ (i:=9) (N:=some 27) (v:=?_) (a':=?_) #[Y2,Y2,Y2,Y2,Y2,Y2,Y2,Y2,Y2,Y2,Z2,Z2,Z2,Z2,Z2,Z2,Z2,Z2,Z2,Z2,Z2,Z2,Z2,Z2,Z2,Z2,Z2,Z2,Z2,Z2,Z2,Z2,Z2,Z2,Z2,Z2,Z2,Z2] rfl rfl (any_of HT_.out (by kernel_rfl)) (fun _ _ _ h => h) (Or.inl ⟨by rfl,?_⟩) ?_ ?_
           rotate_left
           ·intro w'
            go_simp
            with_reducible rfl
           rotate_left
           ·simp only [Act.put,q12,q22,q32,i64_w,i32_w]
            rfl
           refine pure_ (i:=10) (N:=some 28) (v:=?_) (a':=?_) #[Y2,Y2,Y2,Y2,Y2,Y2,Y2,Y2,Y2,Y2,Y2,Z2,Z2,Z2,Z2,Z2,Z2,Z2,Z2,Z2,Z2,Z2,Z2,Z2,Z2,Z2,Z2,Z2,Z2,Z2,Z2,Z2,Z2,Z2,Z2,Z2,Z2,Z2] rfl rfl (any_of HT_.out (by kernel_rfl)) (fun _ _ _ h => h) (Or.inl ⟨by rfl,?_⟩) ?_ ?_
           rotate_left
           ·intro w'
            go_simp
            with_reducible rfl
           rotate_left
           ·simp only [Act.put,q12,q22,q32,i64_w,i32_w]
            rfl
           refine pure_ (i:=11) (N:=some 29) (v:=?_) (a':=?_) #[Y2,Y2,Y2,Y2,Y2,Y2,Y2,Y2,Y2,Y2,Y2,Y2,Z2,Z2,Z2,Z2,Z2,Z2,Z2,Z2,Z2,Z2,Z2,Z2,Z2,Z2,Z2,Z2,Z2,Z2,Z2,Z2,Z2,Z2,Z2,Z2,Z2,Z2] rfl rfl (any_of HT_.out (by kernel_rfl)) (fun _ _ _ h => h) (Or.inl ⟨by rfl,?_⟩) ?_ ?_
           rotate_left
           ·intro w'
            go_simp
            with_reducible rfl
           rotate_left
           ·simp only [Act.put,q12,q22,q32,i64_w,i32_w]
            rfl
           refine pure_ (i:=12) (N:=some 30) (v:=?_) (a':=?_) #[Y2,Y2,Y2,Y2,Y2,Y2,Y2,Y2,Y2,Y2,Y2,Y2,Y2,Z2,Z2,Z2,Z2,Z2,Z2,Z2,Z2,Z2,Z2,Z2,Z2,Z2,Z2,Z2,Z2,Z2,Z2,Z2,Z2,Z2,Z2,Z2,Z2,Z2] rfl rfl (any_of HT_.out (by kernel_rfl)) (fun _ _ _ h => h) (Or.inl ⟨by rfl,?_⟩) ?_ ?_
           rotate_left
           ·intro w'
            go_simp
            with_reducible rfl
           rotate_left
           ·simp only [Act.put,q12,q22,q32,i64_w,i32_w]
            rfl
           refine pure_ (i:=13) (N:=some 31) (v:=?_) (a':=?_) #[Y2,Y2,Y2,Y2,Y2,Y2,Y2,Y2,Y2,Y2,Y2,Y2,Y2,Y2,Z2,Z2,Z2,Z2,Z2,Z2,Z2,Z2,Z2,Z2,Z2,Z2,Z2,Z2,Z2,Z2,Z2,Z2,Z2,Z2,Z2,Z2,Z2,Z2] rfl rfl (any_of HT_.out (by kernel_rfl)) (fun _ _ _ h => h) (Or.inl ⟨by rfl,?_⟩) ?_ ?_
           rotate_left
           ·intro w'
            go_simp
            with_reducible rfl
           rotate_left
           ·simp only [Act.put,q12,q22,q32,i64_w,i32_w]
            rfl
           refine pure_ (i:=15) (N:=some 33) (v:=?_) (a':=?_) #[Y2,Y2,Y2,Y2,Y2,Y2,Y2,Y2,Y2,Y2,Y2,Y2,Y2,Y2,Z2,Y2,Z2,Z2,Z2,Z2,Z2,Z2,Z2,Z2,Z2,Z2,Z2,Z2,Z2,Z2,Z2,Z2,Z2,Z2,Z2,Z2,Z2,Z2] rfl rfl (any_of HT_.out (by kernel_rfl)) (fun _ _ _ h => h) (Or.inl ⟨by rfl,?_⟩) ?_ ?_
           rotate_left
           ·intro w'
            go_simp
            with_reducible rfl
           rotate_left
           ·simp only [Act.put,q12,q22,q32,i64_w,i32_w]
            rfl
           refine take_ (i:=14) (N:=some 32) (v:=?_) (a':=?_) #[Y2,Y2,Y2,Y2,Y2,Y2,Y2,Y2,Y2,Y2,Y2,Y2,Y2,Y2,Y2,Y2,Z2,Z2,Z2,Z2,Z2,Z2,Z2,Z2,Z2,Z2,Z2,Z2,Z2,Z2,Z2,Z2,Z2,Z2,Z2,Z2,Z2,Z2] rfl rfl (take_ofW HT_.out HW_.out (by kernel_rfl)) (fun _ _ _ h => h) (Or.inl ⟨by rfl,?_⟩) hHeld ?_ ?_
           rotate_left
           ·rintro w' ⟨s0,s1,s2,s3,s4,s5,s6,s7⟩
            go_simp
            with_reducible rfl
           rotate_left
           ·simp only [Act.put,q12,q22,q32,i64_w,i32_w]
            rfl
           refine take_ (i:=16) (N:=some 34) (v:=?_) (a':=?_) #[Y2,Y2,Y2,Y2,Y2,Y2,Y2,Y2,Y2,Y2,Y2,Y2,Y2,Y2,Y2,Y2,Y2,Z2,Z2,Z2,Z2,Z2,Z2,Z2,Z2,Z2,Z2,Z2,Z2,Z2,Z2,Z2,Z2,Z2,Z2,Z2,Z2,Z2] rfl rfl (take_ofW HT_.out HW_.out (by kernel_rfl)) (fun _ _ _ h => h) (Or.inl ⟨by rfl,?_⟩) hHeld ?_ ?_
           rotate_left
           ·rintro w' ⟨s0,s1,s2,s3,s4,s5,s6,s7⟩
            go_simp
            with_reducible rfl
           rotate_left
           ·simp only [Act.put,q12,q22,q32,i64_w,i32_w]
            rfl
           refine pure_ (i:=17) (N:=some 35) (v:=?_) (a':=?_) #[Y2,Y2,Y2,Y2,Y2,Y2,Y2,Y2,Y2,Y2,Y2,Y2,Y2,Y2,Y2,Y2,Y2,Y2,Z2,Z2,Z2,Z2,Z2,Z2,Z2,Z2,Z2,Z2,Z2,Z2,Z2,Z2,Z2,Z2,Z2,Z2,Z2,Z2] rfl rfl (any_of HT_.out (by kernel_rfl)) (fun _ _ _ h => h) (Or.inl ⟨by rfl,?_⟩) ?_ ?_
           rotate_left
           ·intro w'
            go_simp
            with_reducible rfl
           rotate_left
           ·simp only [Act.put,q12,q22,q32,i64_w,i32_w]
            rfl
           refine pure_ (i:=18) (N:=some 36) (v:=?_) (a':=?_) #[Y2,Y2,Y2,Y2,Y2,Y2,Y2,Y2,Y2,Y2,Y2,Y2,Y2,Y2,Y2,Y2,Y2,Y2,Y2,Z2,Z2,Z2,Z2,Z2,Z2,Z2,Z2,Z2,Z2,Z2,Z2,Z2,Z2,Z2,Z2,Z2,Z2,Z2] rfl rfl (any_of HT_.out (by kernel_rfl)) (fun _ _ _ h => h) (Or.inl ⟨by rfl,?_⟩) ?_ ?_
           rotate_left
           ·intro w'
            go_simp
            with_reducible rfl
           rotate_left
           ·simp only [Act.put,q12,q22,q32,i64_w,i32_w]
            rfl
           refine pure_ (i:=19) (N:=some 37) (v:=?_) (a':=?_) #[Y2,Y2,Y2,Y2,Y2,Y2,Y2,Y2,Y2,Y2,Y2,Y2,Y2,Y2,Y2,Y2,Y2,Y2,Y2,Y2,Z2,Z2,Z2,Z2,Z2,Z2,Z2,Z2,Z2,Z2,Z2,Z2,Z2,Z2,Z2,Z2,Z2,Z2] rfl rfl (any_of HT_.out (by kernel_rfl)) (fun _ _ _ h => h) (Or.inl ⟨by rfl,?_⟩) ?_ ?_
           rotate_left
           ·intro w'
            go_simp
            with_reducible rfl
           rotate_left
           ·simp only [Act.put,q12,q22,q32,i64_w,i32_w]
            rfl
           refine pure_ (i:=20) (N:=some 38) (v:=?_) (a':=?_) #[Y2,Y2,Y2,Y2,Y2,Y2,Y2,Y2,Y2,Y2,Y2,Y2,Y2,Y2,Y2,Y2,Y2,Y2,Y2,Y2,Y2,Z2,Z2,Z2,Z2,Z2,Z2,Z2,Z2,Z2,Z2,Z2,Z2,Z2,Z2,Z2,Z2,Z2] rfl rfl (any_of HT_.out (by kernel_rfl)) (fun _ _ _ h => h) (Or.inl ⟨by rfl,?_⟩) ?_ ?_
           rotate_left
           ·intro w'
            go_simp
            with_reducible rfl
           rotate_left
           ·simp only [Act.put,q12,q22,q32,i64_w,i32_w]
            rfl
           refine pure_ (i:=21) (N:=some 39) (v:=undef) (a':=?_) #[Y2,Y2,Y2,Y2,Y2,Y2,Y2,Y2,Y2,Y2,Y2,Y2,Y2,Y2,Y2,Y2,Y2,Y2,Y2,Y2,Y2,Y2,Z2,Z2,Z2,Z2,Z2,Z2,Z2,Z2,Z2,Z2,Z2,Z2,Z2,Z2,Z2,Z2] rfl rfl (any_of HT_.out (by kernel_rfl)) (fun _ _ _ h => h) (Or.inr ⟨by rfl,rfl⟩) ?_ ?_
           rotate_left
           ·simp only [Act.put,q12,q22,q32,i64_w,i32_w]
            rfl
           refine pure_ (i:=22) (N:=some 40) (v:=undef) (a':=?_) #[Y2,Y2,Y2,Y2,Y2,Y2,Y2,Y2,Y2,Y2,Y2,Y2,Y2,Y2,Y2,Y2,Y2,Y2,Y2,Y2,Y2,Y2,Y2,Z2,Z2,Z2,Z2,Z2,Z2,Z2,Z2,Z2,Z2,Z2,Z2,Z2,Z2,Z2] rfl rfl (any_of HT_.out (by kernel_rfl)) (fun _ _ _ h => h) (Or.inr ⟨by rfl,rfl⟩) ?_ ?_
           rotate_left
           ·simp only [Act.put,q12,q22,q32,i64_w,i32_w]
            rfl
           refine pure_ (i:=23) (N:=some 41) (v:=undef) (a':=?_) #[Y2,Y2,Y2,Y2,Y2,Y2,Y2,Y2,Y2,Y2,Y2,Y2,Y2,Y2,Y2,Y2,Y2,Y2,Y2,Y2,Y2,Y2,Y2,Y2,Z2,Z2,Z2,Z2,Z2,Z2,Z2,Z2,Z2,Z2,Z2,Z2,Z2,Z2] rfl rfl (any_of HT_.out (by kernel_rfl)) (fun _ _ _ h => h) (Or.inr ⟨by rfl,rfl⟩) ?_ ?_
           rotate_left
           ·simp only [Act.put,q12,q22,q32,i64_w,i32_w]
            rfl
           refine pure_ (i:=24) (N:=some 42) (v:=undef) (a':=?_) #[Y2,Y2,Y2,Y2,Y2,Y2,Y2,Y2,Y2,Y2,Y2,Y2,Y2,Y2,Y2,Y2,Y2,Y2,Y2,Y2,Y2,Y2,Y2,Y2,Y2,Z2,Z2,Z2,Z2,Z2,Z2,Z2,Z2,Z2,Z2,Z2,Z2,Z2] rfl rfl (any_of HT_.out (by kernel_rfl)) (fun _ _ _ h => h) (Or.inr ⟨by rfl,rfl⟩) ?_ ?_
           rotate_left
           ·simp only [Act.put,q12,q22,q32,i64_w,i32_w]
            rfl
           refine pure_ (i:=25) (N:=some 43) (v:=?_) (a':=?_) #[Y2,Y2,Y2,Y2,Y2,Y2,Y2,Y2,Y2,Y2,Y2,Y2,Y2,Y2,Y2,Y2,Y2,Y2,Y2,Y2,Y2,Y2,Y2,Y2,Y2,Y2,Z2,Z2,Z2,Z2,Z2,Z2,Z2,Z2,Z2,Z2,Z2,Z2] rfl rfl (any_of HT_.out (by kernel_rfl)) (fun _ _ _ h => h) (Or.inl ⟨by rfl,?_⟩) ?_ ?_
           rotate_left
           ·intro w'
            go_simp
            with_reducible rfl
           rotate_left
           ·simp only [Act.put,q12,q22,q32,i64_w,i32_w]
            rfl
           refine pure_ (i:=26) (N:=some 44) (v:=?_) (a':=?_) #[Y2,Y2,Y2,Y2,Y2,Y2,Y2,Y2,Y2,Y2,Y2,Y2,Y2,Y2,Y2,Y2,Y2,Y2,Y2,Y2,Y2,Y2,Y2,Y2,Y2,Y2,Y2,Z2,Z2,Z2,Z2,Z2,Z2,Z2,Z2,Z2,Z2,Z2] rfl rfl (any_of HT_.out (by kernel_rfl)) (fun _ _ _ h => h) (Or.inl ⟨by rfl,?_⟩) ?_ ?_
           rotate_left
           ·intro w'
            go_simp
            with_reducible rfl
           rotate_left
           ·simp only [Act.put,q12,q22,q32,i64_w,i32_w]
            rfl
           refine pure_ (i:=27) (N:=some 45) (v:=undef) (a':=?_) #[Y2,Y2,Y2,Y2,Y2,Y2,Y2,Y2,Y2,Y2,Y2,Y2,Y2,Y2,Y2,Y2,Y2,Y2,Y2,Y2,Y2,Y2,Y2,Y2,Y2,Y2,Y2,Y2,Z2,Z2,Z2,Z2,Z2,Z2,Z2,Z2,Z2,Z2] rfl rfl (any_of HT_.out (by kernel_rfl)) (fun _ _ _ h => h) (Or.inr ⟨by rfl,rfl⟩) ?_ ?_
           rotate_left
           ·simp only [Act.put,q12,q22,q32,i64_w,i32_w]
            rfl
           refine pure_ (i:=28) (N:=some 46) (v:=undef) (a':=?_) #[Y2,Y2,Y2,Y2,Y2,Y2,Y2,Y2,Y2,Y2,Y2,Y2,Y2,Y2,Y2,Y2,Y2,Y2,Y2,Y2,Y2,Y2,Y2,Y2,Y2,Y2,Y2,Y2,Y2,Z2,Z2,Z2,Z2,Z2,Z2,Z2,Z2,Z2] rfl rfl (any_of HT_.out (by kernel_rfl)) (fun _ _ _ h => h) (Or.inr ⟨by rfl,rfl⟩) ?_ ?_
           rotate_left
           ·simp only [Act.put,q12,q22,q32,i64_w,i32_w]
            rfl
           refine pure_ (i:=29) (N:=some 47) (v:=undef) (a':=?_) #[Y2,Y2,Y2,Y2,Y2,Y2,Y2,Y2,Y2,Y2,Y2,Y2,Y2,Y2,Y2,Y2,Y2,Y2,Y2,Y2,Y2,Y2,Y2,Y2,Y2,Y2,Y2,Y2,Y2,Y2,Z2,Z2,Z2,Z2,Z2,Z2,Z2,Z2] rfl rfl (any_of HT_.out (by kernel_rfl)) (fun _ _ _ h => h) (Or.inr ⟨by rfl,rfl⟩) ?_ ?_
           rotate_left
           ·simp only [Act.put,q12,q22,q32,i64_w,i32_w]
            rfl
           refine pure_ (i:=30) (N:=some 48) (v:=undef) (a':=?_) #[Y2,Y2,Y2,Y2,Y2,Y2,Y2,Y2,Y2,Y2,Y2,Y2,Y2,Y2,Y2,Y2,Y2,Y2,Y2,Y2,Y2,Y2,Y2,Y2,Y2,Y2,Y2,Y2,Y2,Y2,Y2,Z2,Z2,Z2,Z2,Z2,Z2,Z2] rfl rfl (any_of HT_.out (by kernel_rfl)) (fun _ _ _ h => h) (Or.inr ⟨by rfl,rfl⟩) ?_ ?_
           rotate_left
           ·simp only [Act.put,q12,q22,q32,i64_w,i32_w]
            rfl
           refine pure_ (i:=31) (N:=some 49) (v:=?_) (a':=?_) #[Y2,Y2,Y2,Y2,Y2,Y2,Y2,Y2,Y2,Y2,Y2,Y2,Y2,Y2,Y2,Y2,Y2,Y2,Y2,Y2,Y2,Y2,Y2,Y2,Y2,Y2,Y2,Y2,Y2,Y2,Y2,Y2,Z2,Z2,Z2,Z2,Z2,Z2] rfl rfl (any_of HT_.out (by kernel_rfl)) (fun _ _ _ h => h) (Or.inl ⟨by rfl,?_⟩) ?_ ?_
           rotate_left
           ·intro w'
            go_simp
            with_reducible rfl
           rotate_left
           ·simp only [Act.put,q12,q22,q32,i64_w,i32_w]
            rfl
           refine pure_ (i:=32) (N:=some 50) (v:=?_) (a':=?_) #[Y2,Y2,Y2,Y2,Y2,Y2,Y2,Y2,Y2,Y2,Y2,Y2,Y2,Y2,Y2,Y2,Y2,Y2,Y2,Y2,Y2,Y2,Y2,Y2,Y2,Y2,Y2,Y2,Y2,Y2,Y2,Y2,Y2,Z2,Z2,Z2,Z2,Z2] rfl rfl (any_of HT_.out (by kernel_rfl)) (fun _ _ _ h => h) (Or.inl ⟨by rfl,?_⟩) ?_ ?_
           rotate_left
           ·intro w'
            go_simp
            with_reducible rfl
           rotate_left
           ·simp only [Act.put,q12,q22,q32,i64_w,i32_w]
            rfl
           refine pure_ (i:=33) (N:=some 51) (v:=undef) (a':=?_) #[Y2,Y2,Y2,Y2,Y2,Y2,Y2,Y2,Y2,Y2,Y2,Y2,Y2,Y2,Y2,Y2,Y2,Y2,Y2,Y2,Y2,Y2,Y2,Y2,Y2,Y2,Y2,Y2,Y2,Y2,Y2,Y2,Y2,Y2,Z2,Z2,Z2,Z2] rfl rfl (any_of HT_.out (by kernel_rfl)) (fun _ _ _ h => h) (Or.inr ⟨by rfl,rfl⟩) ?_ ?_
           rotate_left
           ·simp only [Act.put,q12,q22,q32,i64_w,i32_w]
            rfl
           refine pure_ (i:=34) (N:=some 52) (v:=undef) (a':=?_) #[Y2,Y2,Y2,Y2,Y2,Y2,Y2,Y2,Y2,Y2,Y2,Y2,Y2,Y2,Y2,Y2,Y2,Y2,Y2,Y2,Y2,Y2,Y2,Y2,Y2,Y2,Y2,Y2,Y2,Y2,Y2,Y2,Y2,Y2,Y2,Z2,Z2,Z2] rfl rfl (any_of HT_.out (by kernel_rfl)) (fun _ _ _ h => h) (Or.inr ⟨by rfl,rfl⟩) ?_ ?_
           rotate_left
           ·simp only [Act.put,q12,q22,q32,i64_w,i32_w]
            rfl
           refine pure_ (i:=35) (N:=some 53) (v:=undef) (a':=?_) #[Y2,Y2,Y2,Y2,Y2,Y2,Y2,Y2,Y2,Y2,Y2,Y2,Y2,Y2,Y2,Y2,Y2,Y2,Y2,Y2,Y2,Y2,Y2,Y2,Y2,Y2,Y2,Y2,Y2,Y2,Y2,Y2,Y2,Y2,Y2,Y2,Z2,Z2] rfl rfl (any_of HT_.out (by kernel_rfl)) (fun _ _ _ h => h) (Or.inr ⟨by rfl,rfl⟩) ?_ ?_
           rotate_left
           ·simp only [Act.put,q12,q22,q32,i64_w,i32_w]
            rfl
           refine pure_ (i:=36) (N:=some 54) (v:=undef) (a':=?_) #[Y2,Y2,Y2,Y2,Y2,Y2,Y2,Y2,Y2,Y2,Y2,Y2,Y2,Y2,Y2,Y2,Y2,Y2,Y2,Y2,Y2,Y2,Y2,Y2,Y2,Y2,Y2,Y2,Y2,Y2,Y2,Y2,Y2,Y2,Y2,Y2,Y2,Z2] rfl rfl (any_of HT_.out (by kernel_rfl)) (fun _ _ _ h => h) (Or.inr ⟨by rfl,rfl⟩) ?_ ?_
           rotate_left
           ·simp only [Act.put,q12,q22,q32,i64_w,i32_w]
            rfl
           refine pure_ (i:=37) (N:=some 55) (v:=?_) (a':=?_) #[Y2,Y2,Y2,Y2,Y2,Y2,Y2,Y2,Y2,Y2,Y2,Y2,Y2,Y2,Y2,Y2,Y2,Y2,Y2,Y2,Y2,Y2,Y2,Y2,Y2,Y2,Y2,Y2,Y2,Y2,Y2,Y2,Y2,Y2,Y2,Y2,Y2,Y2] rfl rfl (any_of HT_.out (by kernel_rfl)) (fun _ _ _ h => h) (Or.inl ⟨by rfl,?_⟩) ?_ ?_
           rotate_left
           ·intro w'
            go_simp
            with_reducible rfl
           rotate_left
           ·simp only [Act.put,q12,q22,q32,i64_w,i32_w]
            rfl
           refine done_ (done_of HT_.out (by kernel_rfl)) ?_
           try go_wp2
           go_ret
           exact ⟨by first | rfl | (simp [errW_none,errW_some] <;> rfl) | (simp only [← hji8];first | rfl | (simp [errW_none,errW_some] <;> rfl)) | (simp [*,errW_none,errW_some] <;> rfl),by repeat (first | (with_reducible first | exact HB.out | apply below_alloc | apply pw_below_drewN | apply below_drew1 | refine below_set ?_ GE122.out) | exact HB.out)⟩
         ·rw [if_neg c10] at H
          exact absurd H (by simp)
        ·rw [if_neg c9] at H
         exact absurd H (by simp)
       ·rw [if_neg c7] at H
        have c7b0 : decide (0 < x3_1) = false:=decide_eq_false c7
        clear c7
        replace H:=Option.bind_eq_some_iff.mp H
        obtain ⟨t128,A380,H⟩:=H
        replace H : (if t128 = true then ((spec_l01In.f ((rd_T74 l0 x3_1).f2) 0 20000).bind fun t129 => (if t129 = true then ((spec_l01In.f ((rd_T74 l0 x3_1).f3) 0 1000000000).bind fun t130 => (if t130 = true then (spec_DirOk.l0 k1 l0 (wrap64 (x3_1 + 1))) else (some false))) else (some false))) else (some false)) = some r:=H
        have A38:=Aside0.mk A380
        clear A380
        by_cases c39 : t128 = true
        ·subst c39
         have H1 : ((spec_l01In.f ((rd_T74 l0 x3_1).f2) 0 20000).bind fun t129 => (if t129 = true then ((spec_l01In.f ((rd_T74 l0 x3_1).f3) 0 1000000000).bind fun t130 => (if t130 = true then (spec_DirOk.l0 k1 l0 (wrap64 (x3_1 + 1))) else (some false))) else (some false))) = some r:=by rw [if_pos rfl] at H;exact H
         clear H
         have H:=H1
         clear H1
         replace H:=Option.bind_eq_some_iff.mp H
         obtain ⟨t129,A400,H⟩:=H
         replace H : (if t129 = true then ((spec_l01In.f ((rd_T74 l0 x3_1).f3) 0 1000000000).bind fun t130 => (if t130 = true then (spec_DirOk.l0 k1 l0 (wrap64 (x3_1 + 1))) else (some false))) else (some false)) = some r:=H
         have A40:=Aside0.mk A400
         clear A400
         by_cases c41 : t129 = true
         ·subst c41
          have H1 : ((spec_l01In.f ((rd_T74 l0 x3_1).f3) 0 1000000000).bind fun t130 => (if t130 = true then (spec_DirOk.l0 k1 l0 (wrap64 (x3_1 + 1))) else (some false))) = some r:=by rw [if_pos rfl] at H;exact H
          clear H
          have H:=H1
          clear H1
          replace H:=Option.bind_eq_some_iff.mp H
          obtain ⟨t130,A420,H⟩:=H
          replace H : (if t130 = true then (spec_DirOk.l0 k1 l0 (wrap64 (x3_1 + 1))) else (some false)) = some r:=H
          have A42:=Aside0.mk A420
          clear A420
          by_cases c43 : t130 = true
          ·subst c43
           have H1 : (spec_DirOk.l0 k1 l0 (wrap64 (x3_1 + 1))) = some r:=by rw [if_pos rfl] at H;exact H
           clear H
           have H:=H1
           clear H1
           have H':=Aside0.mk H
           clear H
           have p121 : 0 ≤ (x3_1 : Int):=of_decide_eq_true (by first | (with_reducible assumption) | assumption)
           have q121 : x3_1 < (l0.length : Int):=of_decide_eq_true (by first | (with_reducible assumption) | assumption)
           obtain ⟨ad121,e121,hx121_0,hx121_1,hx121_2,hx121_3⟩:=at_T74 HR0.out x3_1 p121 q121
           cases e121
           replace hx121_0:=(HB.out.cell (World.block_lt_of_cell? w _ hx121_0)).trans hx121_0
           replace hx121_1:=(HB.out.cell (World.block_lt_of_cell? w _ hx121_1)).trans hx121_1
           replace hx121_2:=(HB.out.cell (World.block_lt_of_cell? w _ hx121_2)).trans hx121_2
           replace hx121_3:=(HB.out.cell (World.block_lt_of_cell? w _ hx121_3)).trans hx121_3
           replace p121:=eq_true p121
           replace q121:=eq_true q121
           try go_wp2_with (first | ((with_reducible refine gate_dst (N:=4) rfl ?_);refine box_event ?hg (N:=4) ?hd (cs:=#[.string (⟨#[]⟩ : ByteArray),.int .i64 0,.int .i64 0,.int .i64 0]) (t:=74) ?hr ?_;(case hd => rfl);(case hg => rfl);(case hr => first | (go_simp;done) | (go_simp;rfl));intro gb122 hg w44 hbox hb;have n0_:=Aside0.mk (below_step (by repeat (first | (with_reducible first | exact HB.out | apply below_alloc | apply pw_below_drewN | apply below_drew1) | exact HB.out)) hb);have n1_:=Aside0.mk (hbox);have n2_:=Aside0.mk ((by rw [hg];exact (below_size (by repeat (first | (with_reducible first | exact HB.out | apply below_alloc | apply pw_below_drewN | apply below_drew1) | exact HB.out))) : w.heap.size ≤ gb122));have n3_:=Aside0.mk ((by rw [hg];exact (below_size (by repeat (first | (with_reducible first | exact HB.out | apply below_alloc | apply pw_below_drewN | apply below_drew1) | exact HB.out))) : w.heap.size ≤ gb122));clear HB;have HB:=n0_;have BK122:=n1_;have GW122:=n2_;have GE122:=n3_;clear n0_ n1_ n2_ n3_;clear hb hbox hg;have hcz45_0 : w44.cell? ⟨gb122,0,none⟩ = some (.string (⟨#[]⟩ : ByteArray)):=(blk_cell BK122.out 0).trans rfl;have hcz45_1 : w44.cell? ⟨gb122,1,none⟩ = some (.int .i64 0):=(blk_cell BK122.out 1).trans rfl;have hcz45_2 : w44.cell? ⟨gb122,2,none⟩ = some (.int .i64 0):=(blk_cell BK122.out 2).trans rfl;have hcz45_3 : w44.cell? ⟨gb122,3,none⟩ = some (.int .i64 0):=(blk_cell BK122.out 3).trans rfl;have hfz45_0:=blk_frozen BK122.out 0;have hfz45_1:=blk_frozen BK122.out 1;have hfz45_2:=blk_frozen BK122.out 2;have hfz45_3:=blk_frozen BK122.out 3))
           have n0_ : Aside0 (((((w44.setCell ⟨gb122,0,none⟩ (.string ((rd_T74 l0 x3_1).f0))).setCell ⟨gb122,1,none⟩ (.int .i64 ((rd_T74 l0 x3_1).f1))).setCell ⟨gb122,2,none⟩ (.int .i64 ((rd_T74 l0 x3_1).f2))).setCell ⟨gb122,3,none⟩ (.int .i64 ((rd_T74 l0 x3_1).f3))).heap[gb122]? = some (.cells #[.string ((rd_T74 l0 x3_1).f0),.int .i64 ((rd_T74 l0 x3_1).f1),.int .i64 ((rd_T74 l0 x3_1).f2),.int .i64 ((rd_T74 l0 x3_1).f3)] 74 (0,0))):=⟨by (with_reducible repeat (first | refine blk_drewN ?_ _ | refine blk_drew ?_ | refine blk_alloc ?_ _));refine blk_put (cs:=#[.string ((rd_T74 l0 x3_1).f0),.int .i64 ((rd_T74 l0 x3_1).f1),.int .i64 ((rd_T74 l0 x3_1).f2),.int .i64 0]) ?_ 3 _ rfl;(with_reducible repeat (first | refine blk_drewN ?_ _ | refine blk_drew ?_ | refine blk_alloc ?_ _));refine blk_put (cs:=#[.string ((rd_T74 l0 x3_1).f0),.int .i64 ((rd_T74 l0 x3_1).f1),.int .i64 0,.int .i64 0]) ?_ 2 _ rfl;(with_reducible repeat (first | refine blk_drewN ?_ _ | refine blk_drew ?_ | refine blk_alloc ?_ _));refine blk_put (cs:=#[.string ((rd_T74 l0 x3_1).f0),.int .i64 0,.int .i64 0,.int .i64 0]) ?_ 1 _ rfl;(with_reducible repeat (first | refine blk_drewN ?_ _ | refine blk_drew ?_ | refine blk_alloc ?_ _));refine blk_put (cs:=#[.string (⟨#[]⟩ : ByteArray),.int .i64 0,.int .i64 0,.int .i64 0]) ?_ 0 _ rfl;(with_reducible repeat (first | refine blk_drewN ?_ _ | refine blk_drew ?_ | refine blk_alloc ?_ _));exact BK122.out⟩
           have n1_ : Aside0 (Below w.heap.size w ((((w44.setCell ⟨gb122,0,none⟩ (.string ((rd_T74 l0 x3_1).f0))).setCell ⟨gb122,1,none⟩ (.int .i64 ((rd_T74 l0 x3_1).f1))).setCell ⟨gb122,2,none⟩ (.int .i64 ((rd_T74 l0 x3_1).f2))).setCell ⟨gb122,3,none⟩ (.int .i64 ((rd_T74 l0 x3_1).f3)))):=⟨by repeat (first | (with_reducible first | exact HB.out | apply below_alloc | apply pw_below_drewN | apply below_drew1 | refine below_set ?_ GE122.out) | exact HB.out)⟩
           (try clear BK122)
           (try clear HB)
           generalize ((((w44.setCell ⟨gb122,0,none⟩ (.string ((rd_T74 l0 x3_1).f0))).setCell ⟨gb122,1,none⟩ (.int .i64 ((rd_T74 l0 x3_1).f1))).setCell ⟨gb122,2,none⟩ (.int .i64 ((rd_T74 l0 x3_1).f2))).setCell ⟨gb122,3,none⟩ (.int .i64 ((rd_T74 l0 x3_1).f3))) = w46 at n0_ n1_ ⊢
           have BK122:=n0_
           have HB:=n1_
           clear n0_ n1_
           have n0_:=Aside0.mk (blk_drew BK122.out)
           have n1_:=Aside0.mk (below_drew1 HB.out)
           clear BK122
           clear HB
           have BK122:=n0_
           have HB:=n1_
           clear n0_ n1_
           refine start_ (n:=38) (S:=fun w' => w'.cell? ⟨gb122,0,none⟩ = some (.string ((rd_T74 l0 x3_1).f0)) ∧ w'.cell? ⟨gb122,1,none⟩ = some (.int .i64 ((rd_T74 l0 x3_1).f1)) ∧ w'.cell? ⟨gb122,2,none⟩ = some (.int .i64 ((rd_T74 l0 x3_1).f2)) ∧ w'.cell? ⟨gb122,3,none⟩ = some (.int .i64 ((rd_T74 l0 x3_1).f3))) (ds:=[]) #[Z2,Z2,Z2,Z2,Z2,Z2,Z2,Z2,Z2,Z2,Z2,Z2,Z2,Z2,Z2,Z2,Z2,Z2,Z2,Z2,Z2,Z2,Z2,Z2,Z2,Z2,Z2,Z2,Z2,Z2,Z2,Z2,Z2,Z2,Z2,Z2,Z2,Z2] (by kernel_rfl) rfl rfl ⟨(blk_cell BK122.out 0).trans rfl,(blk_cell BK122.out 1).trans rfl,(blk_cell BK122.out 2).trans rfl,(blk_cell BK122.out 3).trans rfl⟩ (fun hHeld => ?_);refine with_tabW spec_DirOk.tab7 spec_DirOk.bits7 (fun HT_ HW_ => ?_)
           generalize w46.drew = w47 at BK122 HB hHeld ⊢
           refine pure_ (i:=0) (N:=some 18) (v:=?_) (a':=?_) #[Y2,Z2,Z2,Z2,Z2,Z2,Z2,Z2,Z2,Z2,Z2,Z2,Z2,Z2,Z2,Z2,Z2,Z2,Z2,Z2,Z2,Z2,Z2,Z2,Z2,Z2,Z2,Z2,Z2,Z2,Z2,Z2,Z2,Z2,Z2,Z2,Z2,Z2] rfl rfl (any_of HT_.out (by kernel_rfl)) (fun _ _ _ h => h) (Or.inl ⟨by rfl,?_⟩) ?_ ?_
           rotate_left
           ·intro w'
            go_simp
            with_reducible rfl
           rotate_left
           ·simp only [Act.put,q12,q22,q32,i64_w,i32_w]
            rfl
           refine take_ (i:=1) (N:=some 19) (v:=?_) (a':=?_) #[Y2,Y2,Z2,Z2,Z2,Z2,Z2,Z2,Z2,Z2,Z2,Z2,Z2,Z2,Z2,Z2,Z2,Z2,Z2,Z2,Z2,Z2,Z2,Z2,Z2,Z2,Z2,Z2,Z2,Z2,Z2,Z2,Z2,Z2,Z2,Z2,Z2,Z2] rfl rfl (take_ofW HT_.out HW_.out (by kernel_rfl)) (fun _ _ _ h => h) (Or.inl ⟨by rfl,?_⟩) hHeld ?_ ?_
           rotate_left
           ·rintro w' ⟨s0,s1,s2,s3⟩
            go_simp
            with_reducible rfl
           rotate_left
           ·simp only [Act.put,q12,q22,q32,i64_w,i32_w]
            rfl
           refine pure_ (i:=2) (N:=some 20) (v:=?_) (a':=?_) #[Y2,Y2,Y2,Z2,Z2,Z2,Z2,Z2,Z2,Z2,Z2,Z2,Z2,Z2,Z2,Z2,Z2,Z2,Z2,Z2,Z2,Z2,Z2,Z2,Z2,Z2,Z2,Z2,Z2,Z2,Z2,Z2,Z2,Z2,Z2,Z2,Z2,Z2] rfl rfl (any_of HT_.out (by kernel_rfl)) (fun _ _ _ h => h) (Or.inl ⟨by rfl,?_⟩) ?_ ?_
           rotate_left
           ·intro w'
            go_simp
            with_reducible rfl
           rotate_left
           ·simp only [Act.put,q12,q22,q32,i64_w,i32_w]
            rfl
           refine one_ (i:=3) (N:=some 21) #[Y2,Y2,Y2,Y2,Z2,Z2,Z2,Z2,Z2,Z2,Z2,Z2,Z2,Z2,Z2,Z2,Z2,Z2,Z2,Z2,Z2,Z2,Z2,Z2,Z2,Z2,Z2,Z2,Z2,Z2,Z2,Z2,Z2,Z2,Z2,Z2,Z2,Z2] rfl rfl (one_of HT_.out (by kernel_rfl)) (by decide) (fun K hK => ?_)
           refine goes_ Try.func43 (by kernel_rfl) rfl #[.int .i64 (((rd_T74 l0 x3_1).f0).size : Int),.int .i64 1,.int .i64 20] (by rfl) rfl rfl (by (try simp only [List.map_toArray,List.map_cons,List.map_nil]);first | done | rfl | (simp only [List.length_drop,List.length_take];rfl)) ?_
           with_reducible refine (spec_l01In.calls (((rd_T74 l0 x3_1).f0).size : Int) 1 20 true _ A5.out).mono ?_
           rintro e w' ⟨rfl,⟨nd,rfl⟩⟩
           refine ⟨_,rfl,?_⟩
           refine hK.out _ _ ⟨(blk_cell BK122.out 0).trans rfl,(blk_cell BK122.out 1).trans rfl,(blk_cell BK122.out 2).trans rfl,(blk_cell BK122.out 3).trans rfl⟩ (fun hHeld => ?_)
           clear hK K
           refine norm_ (a':=?_) ?_ ?_
           rotate_left
           ·show Act.put _ (some 21) _ = _
            simp only [Act.put,q12,q22,q32,i64_w,i32_w]
            rfl
           refine pure_ (i:=4) (N:=some 22) (v:=?_) (a':=?_) #[Y2,Y2,Y2,Y2,Y2,Z2,Z2,Z2,Z2,Z2,Z2,Z2,Z2,Z2,Z2,Z2,Z2,Z2,Z2,Z2,Z2,Z2,Z2,Z2,Z2,Z2,Z2,Z2,Z2,Z2,Z2,Z2,Z2,Z2,Z2,Z2,Z2,Z2] rfl rfl (any_of HT_.out (by kernel_rfl)) (fun _ _ _ h => h) (Or.inl ⟨by rfl,?_⟩) ?_ ?_
           rotate_left
           ·intro w'
            go_simp
            with_reducible rfl
           rotate_left
           ·simp only [Act.put,q12,q22,q32,i64_w,i32_w]
            rfl
           refine pure_ (i:=5) (N:=some 23) (v:=?_) (a':=?_) #[Y2,Y2,Y2,Y2,Y2,Y2,Z2,Z2,Z2,Z2,Z2,Z2,Z2,Z2,Z2,Z2,Z2,Z2,Z2,Z2,Z2,Z2,Z2,Z2,Z2,Z2,Z2,Z2,Z2,Z2,Z2,Z2,Z2,Z2,Z2,Z2,Z2,Z2] rfl rfl (any_of HT_.out (by kernel_rfl)) (fun _ _ _ h => h) (Or.inl ⟨by rfl,?_⟩) ?_ ?_
           rotate_left
           ·intro w'
            go_simp
            with_reducible rfl
           rotate_left
           ·simp only [Act.put,q12,q22,q32,i64_w,i32_w]
            rfl
           refine pure_ (i:=6) (N:=some 24) (v:=?_) (a':=?_) #[Y2,Y2,Y2,Y2,Y2,Y2,Y2,Z2,Z2,Z2,Z2,Z2,Z2,Z2,Z2,Z2,Z2,Z2,Z2,Z2,Z2,Z2,Z2,Z2,Z2,Z2,Z2,Z2,Z2,Z2,Z2,Z2,Z2,Z2,Z2,Z2,Z2,Z2] rfl rfl (any_of HT_.out (by kernel_rfl)) (fun _ _ _ h => h) (Or.inl ⟨by rfl,?_⟩) ?_ ?_
           rotate_left
           ·intro w'
            go_simp
            with_reducible rfl
           rotate_left
           ·simp only [Act.put,q12,q22,q32,i64_w,i32_w]
            rfl
           refine pure_ (i:=7) (N:=some 25) (v:=?_) (a':=?_) #[Y2,Y2,Y2,Y2,Y2,Y2,Y2,Y2,Z2,Z2,Z2,Z2,Z2,Z2,Z2,Z2,Z2,Z2,Z2,Z2,Z2,Z2,Z2,Z2,Z2,Z2,Z2,Z2,Z2,Z2,Z2,Z2,Z2,Z2,Z2,Z2,Z2,Z2] rfl rfl (any_of HT_.out (by kernel_rfl)) (fun _ _ _ h => h) (Or.inl ⟨by rfl,?_⟩) ?_ ?_
           rotate_left
           ·intro w'
            go_simp
            with_reducible rfl
           rotate_left
           ·simp only [Act.put,q12,q22,q32,i64_w,i32_w]
            rfl
           refine pure_ (i:=8) (N:=some 26) (v:=?_) (a':=?_) #[Y2,Y2,Y2,Y2,Y2,Y2,Y2,Y2,Y2,Z2,Z2,Z2,Z2,Z2,Z2,Z2,Z2,Z2,Z2,Z2,Z2,Z2,Z2,Z2,Z2,Z2,Z2,Z2,Z2,Z2,Z2,Z2,Z2,Z2,Z2,Z2,Z2,Z2] rfl rfl (any_of HT_.out (by kernel_rfl)) (fun _ _ _ h => h) (Or.inl ⟨by rfl,?_⟩) ?_ ?_
           rotate_left
           ·intro w'
            go_simp
            with_reducible rfl
           rotate_left
           ·simp only [Act.put,q12,q22,q32,i64_w,i32_w]
            rfl
           refine pure_ (i:=9) (N:=some 27) (v:=undef) (a':=?_) #[Y2,Y2,Y2,Y2,Y2,Y2,Y2,Y2,Y2,Y2,Z2,Z2,Z2,Z2,Z2,Z2,Z2,Z2,Z2,Z2,Z2,Z2,Z2,Z2,Z2,Z2,Z2,Z2,Z2,Z2,Z2,Z2,Z2,Z2,Z2,Z2,Z2,Z2] rfl rfl (any_of HT_.out (by kernel_rfl)) (fun _ _ _ h => h) (Or.inr ⟨by rfl,rfl⟩) ?_ ?_
           rotate_left
           ·simp only [Act.put,q12,q22,q32,i64_w,i32_w]
            rfl
           refine pure_ (i:=10) (N:=some 28) (v:=undef) (a':=?_) #[Y2,Y2,Y2,Y2,Y2,Y2,Y2,Y2,Y2,Y2,Y2,Z2,Z2,Z2,Z2,Z2,Z2,Z2,Z2,Z2,Z2,Z2,Z2,Z2,Z2,Z2,Z2,Z2,Z2,Z2,Z2,Z2,Z2,Z2,Z2,Z2,Z2,Z2] rfl rfl (any_of HT_.out (by kernel_rfl)) (fun _ _ _ h => h) (Or.inr ⟨by rfl,rfl⟩) ?_ ?_
           rotate_left
           ·simp only [Act.put,q12,q22,q32,i64_w,i32_w]
            rfl
           refine pure_ (i:=11) (N:=some 29) (v:=undef) (a':=?_) #[Y2,Y2,Y2,Y2,Y2,Y2,Y2,Y2,Y2,Y2,Y2,Y2,Z2,Z2,Z2,Z2,Z2,Z2,Z2,Z2,Z2,Z2,Z2,Z2,Z2,Z2,Z2,Z2,Z2,Z2,Z2,Z2,Z2,Z2,Z2,Z2,Z2,Z2] rfl rfl (any_of HT_.out (by kernel_rfl)) (fun _ _ _ h => h) (Or.inr ⟨by rfl,rfl⟩) ?_ ?_
           rotate_left
           ·simp only [Act.put,q12,q22,q32,i64_w,i32_w]
            rfl
           refine pure_ (i:=12) (N:=some 30) (v:=undef) (a':=?_) #[Y2,Y2,Y2,Y2,Y2,Y2,Y2,Y2,Y2,Y2,Y2,Y2,Y2,Z2,Z2,Z2,Z2,Z2,Z2,Z2,Z2,Z2,Z2,Z2,Z2,Z2,Z2,Z2,Z2,Z2,Z2,Z2,Z2,Z2,Z2,Z2,Z2,Z2] rfl rfl (any_of HT_.out (by kernel_rfl)) (fun _ _ _ h => h) (Or.inr ⟨by rfl,rfl⟩) ?_ ?_
           rotate_left
           ·simp only [Act.put,q12,q22,q32,i64_w,i32_w]
            rfl
           refine pure_ (i:=13) (N:=some 31) (v:=undef) (a':=?_) #[Y2,Y2,Y2,Y2,Y2,Y2,Y2,Y2,Y2,Y2,Y2,Y2,Y2,Y2,Z2,Z2,Z2,Z2,Z2,Z2,Z2,Z2,Z2,Z2,Z2,Z2,Z2,Z2,Z2,Z2,Z2,Z2,Z2,Z2,Z2,Z2,Z2,Z2] rfl rfl (any_of HT_.out (by kernel_rfl)) (fun _ _ _ h => h) (Or.inr ⟨by rfl,rfl⟩) ?_ ?_
           rotate_left
           ·simp only [Act.put,q12,q22,q32,i64_w,i32_w]
            rfl
           refine pure_ (i:=14) (N:=some 32) (v:=undef) (a':=?_) #[Y2,Y2,Y2,Y2,Y2,Y2,Y2,Y2,Y2,Y2,Y2,Y2,Y2,Y2,Y2,Z2,Z2,Z2,Z2,Z2,Z2,Z2,Z2,Z2,Z2,Z2,Z2,Z2,Z2,Z2,Z2,Z2,Z2,Z2,Z2,Z2,Z2,Z2] rfl rfl (any_of HT_.out (by kernel_rfl)) (fun _ _ _ h => h) (Or.inr ⟨by rfl,rfl⟩) ?_ ?_
           rotate_left
           ·simp only [Act.put,q12,q22,q32,i64_w,i32_w]
            rfl
           refine pure_ (i:=15) (N:=some 33) (v:=undef) (a':=?_) #[Y2,Y2,Y2,Y2,Y2,Y2,Y2,Y2,Y2,Y2,Y2,Y2,Y2,Y2,Y2,Y2,Z2,Z2,Z2,Z2,Z2,Z2,Z2,Z2,Z2,Z2,Z2,Z2,Z2,Z2,Z2,Z2,Z2,Z2,Z2,Z2,Z2,Z2] rfl rfl (any_of HT_.out (by kernel_rfl)) (fun _ _ _ h => h) (Or.inr ⟨by rfl,rfl⟩) ?_ ?_
           rotate_left
           ·simp only [Act.put,q12,q22,q32,i64_w,i32_w]
            rfl
           refine pure_ (i:=16) (N:=some 34) (v:=undef) (a':=?_) #[Y2,Y2,Y2,Y2,Y2,Y2,Y2,Y2,Y2,Y2,Y2,Y2,Y2,Y2,Y2,Y2,Y2,Z2,Z2,Z2,Z2,Z2,Z2,Z2,Z2,Z2,Z2,Z2,Z2,Z2,Z2,Z2,Z2,Z2,Z2,Z2,Z2,Z2] rfl rfl (any_of HT_.out (by kernel_rfl)) (fun _ _ _ h => h) (Or.inr ⟨by rfl,rfl⟩) ?_ ?_
           rotate_left
           ·simp only [Act.put,q12,q22,q32,i64_w,i32_w]
            rfl
           refine pure_ (i:=17) (N:=some 35) (v:=undef) (a':=?_) #[Y2,Y2,Y2,Y2,Y2,Y2,Y2,Y2,Y2,Y2,Y2,Y2,Y2,Y2,Y2,Y2,Y2,Y2,Z2,Z2,Z2,Z2,Z2,Z2,Z2,Z2,Z2,Z2,Z2,Z2,Z2,Z2,Z2,Z2,Z2,Z2,Z2,Z2] rfl rfl (any_of HT_.out (by kernel_rfl)) (fun _ _ _ h => h) (Or.inr ⟨by rfl,rfl⟩) ?_ ?_
           rotate_left
           ·simp only [Act.put,q12,q22,q32,i64_w,i32_w]
            rfl
           refine pure_ (i:=18) (N:=some 36) (v:=?_) (a':=?_) #[Y2,Y2,Y2,Y2,Y2,Y2,Y2,Y2,Y2,Y2,Y2,Y2,Y2,Y2,Y2,Y2,Y2,Y2,Y2,Z2,Z2,Z2,Z2,Z2,Z2,Z2,Z2,Z2,Z2,Z2,Z2,Z2,Z2,Z2,Z2,Z2,Z2,Z2] rfl rfl (any_of HT_.out (by kernel_rfl)) (fun _ _ _ h => h) (Or.inl ⟨by rfl,?_⟩) ?_ ?_
           rotate_left
           ·intro w'
            go_simp
            with_reducible rfl
           rotate_left
           ·simp only [Act.put,q12,q22,q32,i64_w,i32_w]
            rfl
           refine pure_ (i:=19) (N:=some 37) (v:=?_) (a':=?_) #[Y2,Y2,Y2,Y2,Y2,Y2,Y2,Y2,Y2,Y2,Y2,Y2,Y2,Y2,Y2,Y2,Y2,Y2,Y2,Y2,Z2,Z2,Z2,Z2,Z2,Z2,Z2,Z2,Z2,Z2,Z2,Z2,Z2,Z2,Z2,Z2,Z2,Z2] rfl rfl (any_of HT_.out (by kernel_rfl)) (fun _ _ _ h => h) (Or.inl ⟨by rfl,?_⟩) ?_ ?_
           rotate_left
           ·intro w'
            go_simp
            with_reducible rfl
           rotate_left
           ·simp only [Act.put,q12,q22,q32,i64_w,i32_w]
            rfl
           refine pure_ (i:=20) (N:=some 38) (v:=?_) (a':=?_) #[Y2,Y2,Y2,Y2,Y2,Y2,Y2,Y2,Y2,Y2,Y2,Y2,Y2,Y2,Y2,Y2,Y2,Y2,Y2,Y2,Y2,Z2,Z2,Z2,Z2,Z2,Z2,Z2,Z2,Z2,Z2,Z2,Z2,Z2,Z2,Z2,Z2,Z2] rfl rfl (any_of HT_.out (by kernel_rfl)) (fun _ _ _ h => h) (Or.inl ⟨by rfl,?_⟩) ?_ ?_
           rotate_left
           ·intro w'
            go_simp
            with_reducible rfl
           rotate_left
           ·simp only [Act.put,q12,q22,q32,i64_w,i32_w]
            rfl
           refine pure_ (i:=21) (N:=some 39) (v:=?_) (a':=?_) #[Y2,Y2,Y2,Y2,Y2,Y2,Y2,Y2,Y2,Y2,Y2,Y2,Y2,Y2,Y2,Y2,Y2,Y2,Y2,Y2,Y2,Y2,Z2,Z2,Z2,Z2,Z2,Z2,Z2,Z2,Z2,Z2,Z2,Z2,Z2,Z2,Z2,Z2] rfl rfl (any_of HT_.out (by kernel_rfl)) (fun _ _ _ h => h) (Or.inl ⟨by rfl,?_⟩) ?_ ?_
           rotate_left
           ·intro w'
            go_simp
            with_reducible rfl
           rotate_left
           ·simp only [Act.put,q12,q22,q32,i64_w,i32_w]
            rfl
           refine take_ (i:=22) (N:=some 40) (v:=?_) (a':=?_) #[Y2,Y2,Y2,Y2,Y2,Y2,Y2,Y2,Y2,Y2,Y2,Y2,Y2,Y2,Y2,Y2,Y2,Y2,Y2,Y2,Y2,Y2,Y2,Z2,Z2,Z2,Z2,Z2,Z2,Z2,Z2,Z2,Z2,Z2,Z2,Z2,Z2,Z2] rfl rfl (take_ofW HT_.out HW_.out (by kernel_rfl)) (fun _ _ _ h => h) (Or.inl ⟨by rfl,?_⟩) hHeld ?_ ?_
           rotate_left
           ·rintro w' ⟨s0,s1,s2,s3⟩
            go_simp
            with_reducible rfl
           rotate_left
           ·simp only [Act.put,q12,q22,q32,i64_w,i32_w]
            rfl
           refine one_ (i:=23) (N:=some 41) #[Y2,Y2,Y2,Y2,Y2,Y2,Y2,Y2,Y2,Y2,Y2,Y2,Y2,Y2,Y2,Y2,Y2,Y2,Y2,Y2,Y2,Y2,Y2,Y2,Z2,Z2,Z2,Z2,Z2,Z2,Z2,Z2,Z2,Z2,Z2,Z2,Z2,Z2] rfl rfl (one_of HT_.out (by kernel_rfl)) (by decide) (fun K hK => ?_)
           refine goes_ Try.func43 (by kernel_rfl) rfl #[.int .i64 ((rd_T74 l0 x3_1).f1),.int .i64 0,.int .i64 99] (by rfl) rfl rfl (by (try simp only [List.map_toArray,List.map_cons,List.map_nil]);first | done | rfl | (simp only [List.length_drop,List.length_take];rfl)) ?_
           with_reducible refine (spec_l01In.calls ((rd_T74 l0 x3_1).f1) 0 99 true _ A38.out).mono ?_
           rintro e w' ⟨rfl,⟨nd,rfl⟩⟩
           refine ⟨_,rfl,?_⟩
           refine hK.out _ _ ⟨(blk_cell BK122.out 0).trans rfl,(blk_cell BK122.out 1).trans rfl,(blk_cell BK122.out 2).trans rfl,(blk_cell BK122.out 3).trans rfl⟩ (fun hHeld => ?_)
           clear hK K
           refine norm_ (a':=?_) ?_ ?_
           rotate_left
           ·show Act.put _ (some 41) _ = _
            simp only [Act.put,q12,q22,q32,i64_w,i32_w]
            rfl
           refine pure_ (i:=24) (N:=some 42) (v:=?_) (a':=?_) #[Y2,Y2,Y2,Y2,Y2,Y2,Y2,Y2,Y2,Y2,Y2,Y2,Y2,Y2,Y2,Y2,Y2,Y2,Y2,Y2,Y2,Y2,Y2,Y2,Y2,Z2,Z2,Z2,Z2,Z2,Z2,Z2,Z2,Z2,Z2,Z2,Z2,Z2] rfl rfl (any_of HT_.out (by kernel_rfl)) (fun _ _ _ h => h) (Or.inl ⟨by rfl,?_⟩) ?_ ?_
           rotate_left
           ·intro w'
            go_simp
            with_reducible rfl
           rotate_left
           ·simp only [Act.put,q12,q22,q32,i64_w,i32_w]
            rfl
           refine pure_ (i:=25) (N:=some 43) (v:=?_) (a':=?_) #[Y2,Y2,Y2,Y2,Y2,Y2,Y2,Y2,Y2,Y2,Y2,Y2,Y2,Y2,Y2,Y2,Y2,Y2,Y2,Y2,Y2,Y2,Y2,Y2,Y2,Y2,Z2,Z2,Z2,Z2,Z2,Z2,Z2,Z2,Z2,Z2,Z2,Z2] rfl rfl (any_of HT_.out (by kernel_rfl)) (fun _ _ _ h => h) (Or.inl ⟨by rfl,?_⟩) ?_ ?_
           rotate_left
           ·intro w'
            go_simp
            with_reducible rfl
           rotate_left
           ·simp only [Act.put,q12,q22,q32,i64_w,i32_w]
            rfl
           refine pure_ (i:=26) (N:=some 44) (v:=?_) (a':=?_) #[Y2,Y2,Y2,Y2,Y2,Y2,Y2,Y2,Y2,Y2,Y2,Y2,Y2,Y2,Y2,Y2,Y2,Y2,Y2,Y2,Y2,Y2,Y2,Y2,Y2,Y2,Y2,Z2,Z2,Z2,Z2,Z2,Z2,Z2,Z2,Z2,Z2,Z2] rfl rfl (any_of HT_.out (by kernel_rfl)) (fun _ _ _ h => h) (Or.inl ⟨by rfl,?_⟩) ?_ ?_
           rotate_left
           ·intro w'
            go_simp
            with_reducible rfl
           rotate_left
           ·simp only [Act.put,q12,q22,q32,i64_w,i32_w]
            rfl
           refine pure_ (i:=27) (N:=some 45) (v:=?_) (a':=?_) #[Y2,Y2,Y2,Y2,Y2,Y2,Y2,Y2,Y2,Y2,Y2,Y2,Y2,Y2,Y2,Y2,Y2,Y2,Y2,Y2,Y2,Y2,Y2,Y2,Y2,Y2,Y2,Y2,Z2,Z2,Z2,Z2,Z2,Z2,Z2,Z2,Z2,Z2] rfl rfl (any_of HT_.out (by kernel_rfl)) (fun _ _ _ h => h) (Or.inl ⟨by rfl,?_⟩) ?_ ?_
           rotate_left
           ·intro w'
            go_simp
            with_reducible rfl
           rotate_left
           ·simp only [Act.put,q12,q22,q32,i64_w,i32_w]
            rfl
           refine take_ (i:=28) (N:=some 46) (v:=?_) (a':=?_) #[Y2,Y2,Y2,Y2,Y2,Y2,Y2,Y2,Y2,Y2,Y2,Y2,Y2,Y2,Y2,Y2,Y2,Y2,Y2,Y2,Y2,Y2,Y2,Y2,Y2,Y2,Y2,Y2,Y2,Z2,Z2,Z2,Z2,Z2,Z2,Z2,Z2,Z2] rfl rfl (take_ofW HT_.out HW_.out (by kernel_rfl)) (fun _ _ _ h => h) (Or.inl ⟨by rfl,?_⟩) hHeld ?_ ?_
           rotate_left
           ·rintro w' ⟨s0,s1,s2,s3⟩
            go_simp
            with_reducible rfl
           rotate_left
           ·simp only [Act.put,q12,q22,q32,i64_w,i32_w]
            rfl
           refine one_ (i:=29) (N:=some 47) #[Y2,Y2,Y2,Y2,Y2,Y2,Y2,Y2,Y2,Y2,Y2,Y2,Y2,Y2,Y2,Y2,Y2,Y2,Y2,Y2,Y2,Y2,Y2,Y2,Y2,Y2,Y2,Y2,Y2,Y2,Z2,Z2,Z2,Z2,Z2,Z2,Z2,Z2] rfl rfl (one_of HT_.out (by kernel_rfl)) (by decide) (fun K hK => ?_)
           refine goes_ Try.func43 (by kernel_rfl) rfl #[.int .i64 ((rd_T74 l0 x3_1).f2),.int .i64 0,.int .i64 20000] (by rfl) rfl rfl (by (try simp only [List.map_toArray,List.map_cons,List.map_nil]);first | done | rfl | (simp only [List.length_drop,List.length_take];rfl)) ?_
           with_reducible refine (spec_l01In.calls ((rd_T74 l0 x3_1).f2) 0 20000 true _ A40.out).mono ?_
           rintro e w' ⟨rfl,⟨nd,rfl⟩⟩
           refine ⟨_,rfl,?_⟩
           refine hK.out _ _ ⟨(blk_cell BK122.out 0).trans rfl,(blk_cell BK122.out 1).trans rfl,(blk_cell BK122.out 2).trans rfl,(blk_cell BK122.out 3).trans rfl⟩ (fun hHeld => ?_)
           clear hK K
           refine norm_ (a':=?_) ?_ ?_
           rotate_left
           ·show Act.put _ (some 47) _ = _
            simp only [Act.put,q12,q22,q32,i64_w,i32_w]
            rfl
           refine pure_ (i:=30) (N:=some 48) (v:=?_) (a':=?_) #[Y2,Y2,Y2,Y2,Y2,Y2,Y2,Y2,Y2,Y2,Y2,Y2,Y2,Y2,Y2,Y2,Y2,Y2,Y2,Y2,Y2,Y2,Y2,Y2,Y2,Y2,Y2,Y2,Y2,Y2,Y2,Z2,Z2,Z2,Z2,Z2,Z2,Z2] rfl rfl (any_of HT_.out (by kernel_rfl)) (fun _ _ _ h => h) (Or.inl ⟨by rfl,?_⟩) ?_ ?_
           rotate_left
           ·intro w'
            go_simp
            with_reducible rfl
           rotate_left
           ·simp only [Act.put,q12,q22,q32,i64_w,i32_w]
            rfl
           refine pure_ (i:=31) (N:=some 49) (v:=?_) (a':=?_) #[Y2,Y2,Y2,Y2,Y2,Y2,Y2,Y2,Y2,Y2,Y2,Y2,Y2,Y2,Y2,Y2,Y2,Y2,Y2,Y2,Y2,Y2,Y2,Y2,Y2,Y2,Y2,Y2,Y2,Y2,Y2,Y2,Z2,Z2,Z2,Z2,Z2,Z2] rfl rfl (any_of HT_.out (by kernel_rfl)) (fun _ _ _ h => h) (Or.inl ⟨by rfl,?_⟩) ?_ ?_
           rotate_left
           ·intro w'
            go_simp
            with_reducible rfl
           rotate_left
           ·simp only [Act.put,q12,q22,q32,i64_w,i32_w]
            rfl
           refine pure_ (i:=32) (N:=some 50) (v:=?_) (a':=?_) #[Y2,Y2,Y2,Y2,Y2,Y2,Y2,Y2,Y2,Y2,Y2,Y2,Y2,Y2,Y2,Y2,Y2,Y2,Y2,Y2,Y2,Y2,Y2,Y2,Y2,Y2,Y2,Y2,Y2,Y2,Y2,Y2,Y2,Z2,Z2,Z2,Z2,Z2] rfl rfl (any_of HT_.out (by kernel_rfl)) (fun _ _ _ h => h) (Or.inl ⟨by rfl,?_⟩) ?_ ?_
           rotate_left
           ·intro w'
            go_simp
            with_reducible rfl
           rotate_left
           ·simp only [Act.put,q12,q22,q32,i64_w,i32_w]
            rfl
           refine pure_ (i:=33) (N:=some 51) (v:=?_) (a':=?_) #[Y2,Y2,Y2,Y2,Y2,Y2,Y2,Y2,Y2,Y2,Y2,Y2,Y2,Y2,Y2,Y2,Y2,Y2,Y2,Y2,Y2,Y2,Y2,Y2,Y2,Y2,Y2,Y2,Y2,Y2,Y2,Y2,Y2,Y2,Z2,Z2,Z2,Z2] rfl rfl (any_of HT_.out (by kernel_rfl)) (fun _ _ _ h => h) (Or.inl ⟨by rfl,?_⟩) ?_ ?_
           rotate_left
           ·intro w'
            go_simp
            with_reducible rfl
           rotate_left
           ·simp only [Act.put,q12,q22,q32,i64_w,i32_w]
            rfl
           refine take_ (i:=34) (N:=some 52) (v:=?_) (a':=?_) #[Y2,Y2,Y2,Y2,Y2,Y2,Y2,Y2,Y2,Y2,Y2,Y2,Y2,Y2,Y2,Y2,Y2,Y2,Y2,Y2,Y2,Y2,Y2,Y2,Y2,Y2,Y2,Y2,Y2,Y2,Y2,Y2,Y2,Y2,Y2,Z2,Z2,Z2] rfl rfl (take_ofW HT_.out HW_.out (by kernel_rfl)) (fun _ _ _ h => h) (Or.inl ⟨by rfl,?_⟩) hHeld ?_ ?_
           rotate_left
           ·rintro w' ⟨s0,s1,s2,s3⟩
            go_simp
            with_reducible rfl
           rotate_left
           ·simp only [Act.put,q12,q22,q32,i64_w,i32_w]
            rfl
           refine one_ (i:=35) (N:=some 53) #[Y2,Y2,Y2,Y2,Y2,Y2,Y2,Y2,Y2,Y2,Y2,Y2,Y2,Y2,Y2,Y2,Y2,Y2,Y2,Y2,Y2,Y2,Y2,Y2,Y2,Y2,Y2,Y2,Y2,Y2,Y2,Y2,Y2,Y2,Y2,Y2,Z2,Z2] rfl rfl (one_of HT_.out (by kernel_rfl)) (by decide) (fun K hK => ?_)
           refine goes_ Try.func43 (by kernel_rfl) rfl #[.int .i64 ((rd_T74 l0 x3_1).f3),.int .i64 0,.int .i64 1000000000] (by rfl) rfl rfl (by (try simp only [List.map_toArray,List.map_cons,List.map_nil]);first | done | rfl | (simp only [List.length_drop,List.length_take];rfl)) ?_
           with_reducible refine (spec_l01In.calls ((rd_T74 l0 x3_1).f3) 0 1000000000 true _ A42.out).mono ?_
           rintro e w' ⟨rfl,⟨nd,rfl⟩⟩
           refine ⟨_,rfl,?_⟩
           refine hK.out _ _ ⟨(blk_cell BK122.out 0).trans rfl,(blk_cell BK122.out 1).trans rfl,(blk_cell BK122.out 2).trans rfl,(blk_cell BK122.out 3).trans rfl⟩ (fun hHeld => ?_)
           clear hK K
           refine norm_ (a':=?_) ?_ ?_
           rotate_left
           ·show Act.put _ (some 53) _ = _
            simp only [Act.put,q12,q22,q32,i64_w,i32_w]
            rfl
           refine pure_ (i:=36) (N:=some 54) (v:=?_) (a':=?_) #[Y2,Y2,Y2,Y2,Y2,Y2,Y2,Y2,Y2,Y2,Y2,Y2,Y2,Y2,Y2,Y2,Y2,Y2,Y2,Y2,Y2,Y2,Y2,Y2,Y2,Y2,Y2,Y2,Y2,Y2,Y2,Y2,Y2,Y2,Y2,Y2,Y2,Z2] rfl rfl (any_of HT_.out (by kernel_rfl)) (fun _ _ _ h => h) (Or.inl ⟨by rfl,?_⟩) ?_ ?_
           rotate_left
           ·intro w'
            go_simp
            with_reducible rfl
           rotate_left
           ·simp only [Act.put,q12,q22,q32,i64_w,i32_w]
            rfl
           refine pure_ (i:=37) (N:=some 55) (v:=?_) (a':=?_) #[Y2,Y2,Y2,Y2,Y2,Y2,Y2,Y2,Y2,Y2,Y2,Y2,Y2,Y2,Y2,Y2,Y2,Y2,Y2,Y2,Y2,Y2,Y2,Y2,Y2,Y2,Y2,Y2,Y2,Y2,Y2,Y2,Y2,Y2,Y2,Y2,Y2,Y2] rfl rfl (any_of HT_.out (by kernel_rfl)) (fun _ _ _ h => h) (Or.inl ⟨by rfl,?_⟩) ?_ ?_
           rotate_left
           ·intro w'
            go_simp
            with_reducible rfl
           rotate_left
           ·simp only [Act.put,q12,q22,q32,i64_w,i32_w]
            rfl
           refine done_ (done_of HT_.out (by kernel_rfl)) ?_
           try go_wp2
           go_roundg k1
           case measure => have:=HK1.out;omega
           case rel => exact ⟨(wrap64 (x3_1 + 1)),(by first | rfl | (simp;done) | (simp [*];done)),H',⟨by have:=HK1.out;omega⟩,⟨by repeat (first | (with_reducible first | exact HB.out | apply below_alloc | apply pw_below_drewN | apply below_drew1 | refine below_set ?_ GE122.out) | exact HB.out)⟩⟩
          ·replace c43:=Bool.eq_false_iff.mpr c43
           subst c43
           have H1 : (some false) = some r:=by rw [if_neg (show ¬ (false = true) by decide)] at H;exact H
           clear H
           have H:=H1
           clear H1
           obtain rfl:=Option.some.inj H
           have p121 : 0 ≤ (x3_1 : Int):=of_decide_eq_true (by first | (with_reducible assumption) | assumption)
           have q121 : x3_1 < (l0.length : Int):=of_decide_eq_true (by first | (with_reducible assumption) | assumption)
           obtain ⟨ad121,e121,hx121_0,hx121_1,hx121_2,hx121_3⟩:=at_T74 HR0.out x3_1 p121 q121
           cases e121
           replace hx121_0:=(HB.out.cell (World.block_lt_of_cell? w _ hx121_0)).trans hx121_0
           replace hx121_1:=(HB.out.cell (World.block_lt_of_cell? w _ hx121_1)).trans hx121_1
           replace hx121_2:=(HB.out.cell (World.block_lt_of_cell? w _ hx121_2)).trans hx121_2
           replace hx121_3:=(HB.out.cell (World.block_lt_of_cell? w _ hx121_3)).trans hx121_3
           replace p121:=eq_true p121
           replace q121:=eq_true q121
           try go_wp2_with (first | ((with_reducible refine gate_dst (N:=4) rfl ?_);refine box_event ?hg (N:=4) ?hd (cs:=#[.string (⟨#[]⟩ : ByteArray),.int .i64 0,.int .i64 0,.int .i64 0]) (t:=74) ?hr ?_;(case hd => rfl);(case hg => rfl);(case hr => first | (go_simp;done) | (go_simp;rfl));intro gb122 hg w48 hbox hb;have n0_:=Aside0.mk (below_step (by repeat (first | (with_reducible first | exact HB.out | apply below_alloc | apply pw_below_drewN | apply below_drew1) | exact HB.out)) hb);have n1_:=Aside0.mk (hbox);have n2_:=Aside0.mk ((by rw [hg];exact (below_size (by repeat (first | (with_reducible first | exact HB.out | apply below_alloc | apply pw_below_drewN | apply below_drew1) | exact HB.out))) : w.heap.size ≤ gb122));have n3_:=Aside0.mk ((by rw [hg];exact (below_size (by repeat (first | (with_reducible first | exact HB.out | apply below_alloc | apply pw_below_drewN | apply below_drew1) | exact HB.out))) : w.heap.size ≤ gb122));clear HB;have HB:=n0_;have BK122:=n1_;have GW122:=n2_;have GE122:=n3_;clear n0_ n1_ n2_ n3_;clear hb hbox hg;have hcz49_0 : w48.cell? ⟨gb122,0,none⟩ = some (.string (⟨#[]⟩ : ByteArray)):=(blk_cell BK122.out 0).trans rfl;have hcz49_1 : w48.cell? ⟨gb122,1,none⟩ = some (.int .i64 0):=(blk_cell BK122.out 1).trans rfl;have hcz49_2 : w48.cell? ⟨gb122,2,none⟩ = some (.int .i64 0):=(blk_cell BK122.out 2).trans rfl;have hcz49_3 : w48.cell? ⟨gb122,3,none⟩ = some (.int .i64 0):=(blk_cell BK122.out 3).trans rfl;have hfz49_0:=blk_frozen BK122.out 0;have hfz49_1:=blk_frozen BK122.out 1;have hfz49_2:=blk_frozen BK122.out 2;have hfz49_3:=blk_frozen BK122.out 3))
           have n0_ : Aside0 (((((w48.setCell ⟨gb122,0,none⟩ (.string ((rd_T74 l0 x3_1).f0))).setCell ⟨gb122,1,none⟩ (.int .i64 ((rd_T74 l0 x3_1).f1))).setCell ⟨gb122,2,none⟩ (.int .i64 ((rd_T74 l0 x3_1).f2))).setCell ⟨gb122,3,none⟩ (.int .i64 ((rd_T74 l0 x3_1).f3))).heap[gb122]? = some (.cells #[.string ((rd_T74 l0 x3_1).f0),.int .i64 ((rd_T74 l0 x3_1).f1),.int .i64 ((rd_T74 l0 x3_1).f2),.int .i64 ((rd_T74 l0 x3_1).f3)] 74 (0,0))):=⟨by (with_reducible repeat (first | refine blk_drewN ?_ _ | refine blk_drew ?_ | refine blk_alloc ?_ _));refine blk_put (cs:=#[.string ((rd_T74 l0 x3_1).f0),.int .i64 ((rd_T74 l0 x3_1).f1),.int .i64 ((rd_T74 l0 x3_1).f2),.int .i64 0]) ?_ 3 _ rfl;(with_reducible repeat (first | refine blk_drewN ?_ _ | refine blk_drew ?_ | refine blk_alloc ?_ _));refine blk_put (cs:=#[.string ((rd_T74 l0 x3_1).f0),.int .i64 ((rd_T74 l0 x3_1).f1),.int .i64 0,.int .i64 0]) ?_ 2 _ rfl;(with_reducible repeat (first | refine blk_drewN ?_ _ | refine blk_drew ?_ | refine blk_alloc ?_ _));refine blk_put (cs:=#[.string ((rd_T74 l0 x3_1).f0),.int .i64 0,.int .i64 0,.int .i64 0]) ?_ 1 _ rfl;(with_reducible repeat (first | refine blk_drewN ?_ _ | refine blk_drew ?_ | refine blk_alloc ?_ _));refine blk_put (cs:=#[.string (⟨#[]⟩ : ByteArray),.int .i64 0,.int .i64 0,.int .i64 0]) ?_ 0 _ rfl;(with_reducible repeat (first | refine blk_drewN ?_ _ | refine blk_drew ?_ | refine blk_alloc ?_ _));exact BK122.out⟩
           have n1_ : Aside0 (Below w.heap.size w ((((w48.setCell ⟨gb122,0,none⟩ (.string ((rd_T74 l0 x3_1).f0))).setCell ⟨gb122,1,none⟩ (.int .i64 ((rd_T74 l0 x3_1).f1))).setCell ⟨gb122,2,none⟩ (.int .i64 ((rd_T74 l0 x3_1).f2))).setCell ⟨gb122,3,none⟩ (.int .i64 ((rd_T74 l0 x3_1).f3)))):=⟨by repeat (first | (with_reducible first | exact HB.out | apply below_alloc | apply pw_below_drewN | apply below_drew1 | refine below_set ?_ GE122.out) | exact HB.out)⟩
           (try clear BK122)
           (try clear HB)
           generalize ((((w48.setCell ⟨gb122,0,none⟩ (.string ((rd_T74 l0 x3_1).f0))).setCell ⟨gb122,1,none⟩ (.int .i64 ((rd_T74 l0 x3_1).f1))).setCell ⟨gb122,2,none⟩ (.int .i64 ((rd_T74 l0 x3_1).f2))).setCell ⟨gb122,3,none⟩ (.int .i64 ((rd_T74 l0 x3_1).f3))) = w50 at n0_ n1_ ⊢
           have BK122:=n0_
           have HB:=n1_
           clear n0_ n1_
           have n0_:=Aside0.mk (blk_drew BK122.out)
           have n1_:=Aside0.mk (below_drew1 HB.out)
           clear BK122
           clear HB
           have BK122:=n0_
           have HB:=n1_
           clear n0_ n1_
           refine start_ (n:=38) (S:=fun w' => w'.cell? ⟨gb122,0,none⟩ = some (.string ((rd_T74 l0 x3_1).f0)) ∧ w'.cell? ⟨gb122,1,none⟩ = some (.int .i64 ((rd_T74 l0 x3_1).f1)) ∧ w'.cell? ⟨gb122,2,none⟩ = some (.int .i64 ((rd_T74 l0 x3_1).f2)) ∧ w'.cell? ⟨gb122,3,none⟩ = some (.int .i64 ((rd_T74 l0 x3_1).f3))) (ds:=[]) #[Z2,Z2,Z2,Z2,Z2,Z2,Z2,Z2,Z2,Z2,Z2,Z2,Z2,Z2,Z2,Z2,Z2,Z2,Z2,Z2,Z2,Z2,Z2,Z2,Z2,Z2,Z2,Z2,Z2,Z2,Z2,Z2,Z2,Z2,Z2,Z2,Z2,Z2] (by kernel_rfl) rfl rfl ⟨(blk_cell BK122.out 0).trans rfl,(blk_cell BK122.out 1).trans rfl,(blk_cell BK122.out 2).trans rfl,(blk_cell BK122.out 3).trans rfl⟩ (fun hHeld => ?_);refine with_tabW spec_DirOk.tab7 spec_DirOk.bits7 (fun HT_ HW_ => ?_)
           generalize w50.drew = w51 at BK122 HB hHeld ⊢
           refine pure_ (i:=0) (N:=some 18) (v:=?_) (a':=?_) #[Y2,Z2,Z2,Z2,Z2,Z2,Z2,Z2,Z2,Z2,Z2,Z2,Z2,Z2,Z2,Z2,Z2,Z2,Z2,Z2,Z2,Z2,Z2,Z2,Z2,Z2,Z2,Z2,Z2,Z2,Z2,Z2,Z2,Z2,Z2,Z2,Z2,Z2] rfl rfl (any_of HT_.out (by kernel_rfl)) (fun _ _ _ h => h) (Or.inl ⟨by rfl,?_⟩) ?_ ?_
           rotate_left
           ·intro w'
            go_simp
            with_reducible rfl
           rotate_left
           ·simp only [Act.put,q12,q22,q32,i64_w,i32_w]
            rfl
           refine take_ (i:=1) (N:=some 19) (v:=?_) (a':=?_) #[Y2,Y2,Z2,Z2,Z2,Z2,Z2,Z2,Z2,Z2,Z2,Z2,Z2,Z2,Z2,Z2,Z2,Z2,Z2,Z2,Z2,Z2,Z2,Z2,Z2,Z2,Z2,Z2,Z2,Z2,Z2,Z2,Z2,Z2,Z2,Z2,Z2,Z2] rfl rfl (take_ofW HT_.out HW_.out (by kernel_rfl)) (fun _ _ _ h => h) (Or.inl ⟨by rfl,?_⟩) hHeld ?_ ?_
           rotate_left
           ·rintro w' ⟨s0,s1,s2,s3⟩
            go_simp
            with_reducible rfl
           rotate_left
           ·simp only [Act.put,q12,q22,q32,i64_w,i32_w]
            rfl
           refine pure_ (i:=2) (N:=some 20) (v:=?_) (a':=?_) #[Y2,Y2,Y2,Z2,Z2,Z2,Z2,Z2,Z2,Z2,Z2,Z2,Z2,Z2,Z2,Z2,Z2,Z2,Z2,Z2,Z2,Z2,Z2,Z2,Z2,Z2,Z2,Z2,Z2,Z2,Z2,Z2,Z2,Z2,Z2,Z2,Z2,Z2] rfl rfl (any_of HT_.out (by kernel_rfl)) (fun _ _ _ h => h) (Or.inl ⟨by rfl,?_⟩) ?_ ?_
           rotate_left
           ·intro w'
            go_simp
            with_reducible rfl
           rotate_left
           ·simp only [Act.put,q12,q22,q32,i64_w,i32_w]
            rfl
           refine one_ (i:=3) (N:=some 21) #[Y2,Y2,Y2,Y2,Z2,Z2,Z2,Z2,Z2,Z2,Z2,Z2,Z2,Z2,Z2,Z2,Z2,Z2,Z2,Z2,Z2,Z2,Z2,Z2,Z2,Z2,Z2,Z2,Z2,Z2,Z2,Z2,Z2,Z2,Z2,Z2,Z2,Z2] rfl rfl (one_of HT_.out (by kernel_rfl)) (by decide) (fun K hK => ?_)
           refine goes_ Try.func43 (by kernel_rfl) rfl #[.int .i64 (((rd_T74 l0 x3_1).f0).size : Int),.int .i64 1,.int .i64 20] (by rfl) rfl rfl (by (try simp only [List.map_toArray,List.map_cons,List.map_nil]);first | done | rfl | (simp only [List.length_drop,List.length_take];rfl)) ?_
           with_reducible refine (spec_l01In.calls (((rd_T74 l0 x3_1).f0).size : Int) 1 20 true _ A5.out).mono ?_
           rintro e w' ⟨rfl,⟨nd,rfl⟩⟩
           refine ⟨_,rfl,?_⟩
           refine hK.out _ _ ⟨(blk_cell BK122.out 0).trans rfl,(blk_cell BK122.out 1).trans rfl,(blk_cell BK122.out 2).trans rfl,(blk_cell BK122.out 3).trans rfl⟩ (fun hHeld => ?_)
           clear hK K
           refine norm_ (a':=?_) ?_ ?_
           rotate_left
           ·show Act.put _ (some 21) _ = _
            simp only [Act.put,q12,q22,q32,i64_w,i32_w]
            rfl
           refine pure_ (i:=4) (N:=some 22) (v:=?_) (a':=?_) #[Y2,Y2,Y2,Y2,Y2,Z2,Z2,Z2,Z2,Z2,Z2,Z2,Z2,Z2,Z2,Z2,Z2,Z2,Z2,Z2,Z2,Z2,Z2,Z2,Z2,Z2,Z2,Z2,Z2,Z2,Z2,Z2,Z2,Z2,Z2,Z2,Z2,Z2] rfl rfl (any_of HT_.out (by kernel_rfl)) (fun _ _ _ h => h) (Or.inl ⟨by rfl,?_⟩) ?_ ?_
           rotate_left
           ·intro w'
            go_simp
            with_reducible rfl
           rotate_left
           ·simp only [Act.put,q12,q22,q32,i64_w,i32_w]
            rfl
           refine pure_ (i:=5) (N:=some 23) (v:=?_) (a':=?_) #[Y2,Y2,Y2,Y2,Y2,Y2,Z2,Z2,Z2,Z2,Z2,Z2,Z2,Z2,Z2,Z2,Z2,Z2,Z2,Z2,Z2,Z2,Z2,Z2,Z2,Z2,Z2,Z2,Z2,Z2,Z2,Z2,Z2,Z2,Z2,Z2,Z2,Z2] rfl rfl (any_of HT_.out (by kernel_rfl)) (fun _ _ _ h => h) (Or.inl ⟨by rfl,?_⟩) ?_ ?_
           rotate_left
           ·intro w'
            go_simp
            with_reducible rfl
           rotate_left
           ·simp only [Act.put,q12,q22,q32,i64_w,i32_w]
            rfl
           refine pure_ (i:=6) (N:=some 24) (v:=?_) (a':=?_) #[Y2,Y2,Y2,Y2,Y2,Y2,Y2,Z2,Z2,Z2,Z2,Z2,Z2,Z2,Z2,Z2,Z2,Z2,Z2,Z2,Z2,Z2,Z2,Z2,Z2,Z2,Z2,Z2,Z2,Z2,Z2,Z2,Z2,Z2,Z2,Z2,Z2,Z2] rfl rfl (any_of HT_.out (by kernel_rfl)) (fun _ _ _ h => h) (Or.inl ⟨by rfl,?_⟩) ?_ ?_
           rotate_left
           ·intro w'
            go_simp
            with_reducible rfl
           rotate_left
           ·simp only [Act.put,q12,q22,q32,i64_w,i32_w]
            rfl
           refine pure_ (i:=7) (N:=some 25) (v:=?_) (a':=?_) #[Y2,Y2,Y2,Y2,Y2,Y2,Y2,Y2,Z2,Z2,Z2,Z2,Z2,Z2,Z2,Z2,Z2,Z2,Z2,Z2,Z2,Z2,Z2,Z2,Z2,Z2,Z2,Z2,Z2,Z2,Z2,Z2,Z2,Z2,Z2,Z2,Z2,Z2] rfl rfl (any_of HT_.out (by kernel_rfl)) (fun _ _ _ h => h) (Or.inl ⟨by rfl,?_⟩) ?_ ?_
           rotate_left
           ·intro w'
            go_simp
            with_reducible rfl
           rotate_left
           ·simp only [Act.put,q12,q22,q32,i64_w,i32_w]
            rfl
           refine pure_ (i:=8) (N:=some 26) (v:=?_) (a':=?_) #[Y2,Y2,Y2,Y2,Y2,Y2,Y2,Y2,Y2,Z2,Z2,Z2,Z2,Z2,Z2,Z2,Z2,Z2,Z2,Z2,Z2,Z2,Z2,Z2,Z2,Z2,Z2,Z2,Z2,Z2,Z2,Z2,Z2,Z2,Z2,Z2,Z2,Z2] rfl rfl (any_of HT_.out (by kernel_rfl)) (fun _ _ _ h => h) (Or.inl ⟨by rfl,?_⟩) ?_ ?_
           rotate_left
           ·intro w'
            go_simp
            with_reducible rfl
           rotate_left
           ·simp only [Act.put,q12,q22,q32,i64_w,i32_w]
            rfl
           refine pure_ (i:=9) (N:=some 27) (v:=undef) (a':=?_) #[Y2,Y2,Y2,Y2,Y2,Y2,Y2,Y2,Y2,Y2,Z2,Z2,Z2,Z2,Z2,Z2,Z2,Z2,Z2,Z2,Z2,Z2,Z2,Z2,Z2,Z2,Z2,Z2,Z2,Z2,Z2,Z2,Z2,Z2,Z2,Z2,Z2,Z2] rfl rfl (any_of HT_.out (by kernel_rfl)) (fun _ _ _ h => h) (Or.inr ⟨by rfl,rfl⟩) ?_ ?_
           rotate_left
           ·simp only [Act.put,q12,q22,q32,i64_w,i32_w]
            rfl
           refine pure_ (i:=10) (N:=some 28) (v:=undef) (a':=?_) #[Y2,Y2,Y2,Y2,Y2,Y2,Y2,Y2,Y2,Y2,Y2,Z2,Z2,Z2,Z2,Z2,Z2,Z2,Z2,Z2,Z2,Z2,Z2,Z2,Z2,Z2,Z2,Z2,Z2,Z2,Z2,Z2,Z2,Z2,Z2,Z2,Z2,Z2] rfl rfl (any_of HT_.out (by kernel_rfl)) (fun _ _ _ h => h) (Or.inr ⟨by rfl,rfl⟩) ?_ ?_
           rotate_left
           ·simp only [Act.put,q12,q22,q32,i64_w,i32_w]
            rfl
           refine pure_ (i:=11) (N:=some 29) (v:=undef) (a':=?_) #[Y2,Y2,Y2,Y2,Y2,Y2,Y2,Y2,Y2,Y2,Y2,Y2,Z2,Z2,Z2,Z2,Z2,Z2,Z2,Z2,Z2,Z2,Z2,Z2,Z2,Z2,Z2,Z2,Z2,Z2,Z2,Z2,Z2,Z2,Z2,Z2,Z2,Z2] rfl rfl (any_of HT_.out (by kernel_rfl)) (fun _ _ _ h => h) (Or.inr ⟨by rfl,rfl⟩) ?_ ?_
           rotate_left
           ·simp only [Act.put,q12,q22,q32,i64_w,i32_w]
            rfl
           refine pure_ (i:=12) (N:=some 30) (v:=undef) (a':=?_) #[Y2,Y2,Y2,Y2,Y2,Y2,Y2,Y2,Y2,Y2,Y2,Y2,Y2,Z2,Z2,Z2,Z2,Z2,Z2,Z2,Z2,Z2,Z2,Z2,Z2,Z2,Z2,Z2,Z2,Z2,Z2,Z2,Z2,Z2,Z2,Z2,Z2,Z2] rfl rfl (any_of HT_.out (by kernel_rfl)) (fun _ _ _ h => h) (Or.inr ⟨by rfl,rfl⟩) ?_ ?_
           rotate_left
           ·simp only [Act.put,q12,q22,q32,i64_w,i32_w]
            rfl
           refine pure_ (i:=13) (N:=some 31) (v:=undef) (a':=?_) #[Y2,Y2,Y2,Y2,Y2,Y2,Y2,Y2,Y2,Y2,Y2,Y2,Y2,Y2,Z2,Z2,Z2,Z2,Z2,Z2,Z2,Z2,Z2,Z2,Z2,Z2,Z2,Z2,Z2,Z2,Z2,Z2,Z2,Z2,Z2,Z2,Z2,Z2] rfl rfl (any_of HT_.out (by kernel_rfl)) (fun _ _ _ h => h) (Or.inr ⟨by rfl,rfl⟩) ?_ ?_
           rotate_left
           ·simp only [Act.put,q12,q22,q32,i64_w,i32_w]
            rfl
           refine pure_ (i:=14) (N:=some 32) (v:=undef) (a':=?_) #[Y2,Y2,Y2,Y2,Y2,Y2,Y2,Y2,Y2,Y2,Y2,Y2,Y2,Y2,Y2,Z2,Z2,Z2,Z2,Z2,Z2,Z2,Z2,Z2,Z2,Z2,Z2,Z2,Z2,Z2,Z2,Z2,Z2,Z2,Z2,Z2,Z2,Z2] rfl rfl (any_of HT_.out (by kernel_rfl)) (fun _ _ _ h => h) (Or.inr ⟨by rfl,rfl⟩) ?_ ?_
           rotate_left
           ·simp only [Act.put,q12,q22,q32,i64_w,i32_w]
            rfl
           refine pure_ (i:=15) (N:=some 33) (v:=undef) (a':=?_) #[Y2,Y2,Y2,Y2,Y2,Y2,Y2,Y2,Y2,Y2,Y2,Y2,Y2,Y2,Y2,Y2,Z2,Z2,Z2,Z2,Z2,Z2,Z2,Z2,Z2,Z2,Z2,Z2,Z2,Z2,Z2,Z2,Z2,Z2,Z2,Z2,Z2,Z2] rfl rfl (any_of HT_.out (by kernel_rfl)) (fun _ _ _ h => h) (Or.inr ⟨by rfl,rfl⟩) ?_ ?_
           rotate_left
           ·simp only [Act.put,q12,q22,q32,i64_w,i32_w]
            rfl
           refine pure_ (i:=16) (N:=some 34) (v:=undef) (a':=?_) #[Y2,Y2,Y2,Y2,Y2,Y2,Y2,Y2,Y2,Y2,Y2,Y2,Y2,Y2,Y2,Y2,Y2,Z2,Z2,Z2,Z2,Z2,Z2,Z2,Z2,Z2,Z2,Z2,Z2,Z2,Z2,Z2,Z2,Z2,Z2,Z2,Z2,Z2] rfl rfl (any_of HT_.out (by kernel_rfl)) (fun _ _ _ h => h) (Or.inr ⟨by rfl,rfl⟩) ?_ ?_
           rotate_left
           ·simp only [Act.put,q12,q22,q32,i64_w,i32_w]
            rfl
           refine pure_ (i:=17) (N:=some 35) (v:=undef) (a':=?_) #[Y2,Y2,Y2,Y2,Y2,Y2,Y2,Y2,Y2,Y2,Y2,Y2,Y2,Y2,Y2,Y2,Y2,Y2,Z2,Z2,Z2,Z2,Z2,Z2,Z2,Z2,Z2,Z2,Z2,Z2,Z2,Z2,Z2,Z2,Z2,Z2,Z2,Z2] rfl rfl (any_of HT_.out (by kernel_rfl)) (fun _ _ _ h => h) (Or.inr ⟨by rfl,rfl⟩) ?_ ?_
           rotate_left
           ·simp only [Act.put,q12,q22,q32,i64_w,i32_w]
            rfl
           refine pure_ (i:=18) (N:=some 36) (v:=?_) (a':=?_) #[Y2,Y2,Y2,Y2,Y2,Y2,Y2,Y2,Y2,Y2,Y2,Y2,Y2,Y2,Y2,Y2,Y2,Y2,Y2,Z2,Z2,Z2,Z2,Z2,Z2,Z2,Z2,Z2,Z2,Z2,Z2,Z2,Z2,Z2,Z2,Z2,Z2,Z2] rfl rfl (any_of HT_.out (by kernel_rfl)) (fun _ _ _ h => h) (Or.inl ⟨by rfl,?_⟩) ?_ ?_
           rotate_left
           ·intro w'
            go_simp
            with_reducible rfl
           rotate_left
           ·simp only [Act.put,q12,q22,q32,i64_w,i32_w]
            rfl
           refine pure_ (i:=19) (N:=some 37) (v:=?_) (a':=?_) #[Y2,Y2,Y2,Y2,Y2,Y2,Y2,Y2,Y2,Y2,Y2,Y2,Y2,Y2,Y2,Y2,Y2,Y2,Y2,Y2,Z2,Z2,Z2,Z2,Z2,Z2,Z2,Z2,Z2,Z2,Z2,Z2,Z2,Z2,Z2,Z2,Z2,Z2] rfl rfl (any_of HT_.out (by kernel_rfl)) (fun _ _ _ h => h) (Or.inl ⟨by rfl,?_⟩) ?_ ?_
           rotate_left
           ·intro w'
            go_simp
            with_reducible rfl
           rotate_left
           ·simp only [Act.put,q12,q22,q32,i64_w,i32_w]
            rfl
           refine pure_ (i:=20) (N:=some 38) (v:=?_) (a':=?_) #[Y2,Y2,Y2,Y2,Y2,Y2,Y2,Y2,Y2,Y2,Y2,Y2,Y2,Y2,Y2,Y2,Y2,Y2,Y2,Y2,Y2,Z2,Z2,Z2,Z2,Z2,Z2,Z2,Z2,Z2,Z2,Z2,Z2,Z2,Z2,Z2,Z2,Z2] rfl rfl (any_of HT_.out (by kernel_rfl)) (fun _ _ _ h => h) (Or.inl ⟨by rfl,?_⟩) ?_ ?_
           rotate_left
           ·intro w'
            go_simp
            with_reducible rfl
           rotate_left
           ·simp only [Act.put,q12,q22,q32,i64_w,i32_w]
            rfl
           refine pure_ (i:=21) (N:=some 39) (v:=?_) (a':=?_) #[Y2,Y2,Y2,Y2,Y2,Y2,Y2,Y2,Y2,Y2,Y2,Y2,Y2,Y2,Y2,Y2,Y2,Y2,Y2,Y2,Y2,Y2,Z2,Z2,Z2,Z2,Z2,Z2,Z2,Z2,Z2,Z2,Z2,Z2,Z2,Z2,Z2,Z2] rfl rfl (any_of HT_.out (by kernel_rfl)) (fun _ _ _ h => h) (Or.inl ⟨by rfl,?_⟩) ?_ ?_
           rotate_left
           ·intro w'
            go_simp
            with_reducible rfl
           rotate_left
           ·simp only [Act.put,q12,q22,q32,i64_w,i32_w]
            rfl
           refine take_ (i:=22) (N:=some 40) (v:=?_) (a':=?_) #[Y2,Y2,Y2,Y2,Y2,Y2,Y2,Y2,Y2,Y2,Y2,Y2,Y2,Y2,Y2,Y2,Y2,Y2,Y2,Y2,Y2,Y2,Y2,Z2,Z2,Z2,Z2,Z2,Z2,Z2,Z2,Z2,Z2,Z2,Z2,Z2,Z2,Z2] rfl rfl (take_ofW HT_.out HW_.out (by kernel_rfl)) (fun _ _ _ h => h) (Or.inl ⟨by rfl,?_⟩) hHeld ?_ ?_
           rotate_left
           ·rintro w' ⟨s0,s1,s2,s3⟩
            go_simp
            with_reducible rfl
           rotate_left
           ·simp only [Act.put,q12,q22,q32,i64_w,i32_w]
            rfl
           refine one_ (i:=23) (N:=some 41) #[Y2,Y2,Y2,Y2,Y2,Y2,Y2,Y2,Y2,Y2,Y2,Y2,Y2,Y2,Y2,Y2,Y2,Y2,Y2,Y2,Y2,Y2,Y2,Y2,Z2,Z2,Z2,Z2,Z2,Z2,Z2,Z2,Z2,Z2,Z2,Z2,Z2,Z2] rfl rfl (one_of HT_.out (by kernel_rfl)) (by decide) (fun K hK => ?_)
           refine goes_ Try.func43 (by kernel_rfl) rfl #[.int .i64 ((rd_T74 l0 x3_1).f1),.int .i64 0,.int .i64 99] (by rfl) rfl rfl (by (try simp only [List.map_toArray,List.map_cons,List.map_nil]);first | done | rfl | (simp only [List.length_drop,List.length_take];rfl)) ?_
           with_reducible refine (spec_l01In.calls ((rd_T74 l0 x3_1).f1) 0 99 true _ A38.out).mono ?_
           rintro e w' ⟨rfl,⟨nd,rfl⟩⟩
           refine ⟨_,rfl,?_⟩
           refine hK.out _ _ ⟨(blk_cell BK122.out 0).trans rfl,(blk_cell BK122.out 1).trans rfl,(blk_cell BK122.out 2).trans rfl,(blk_cell BK122.out 3).trans rfl⟩ (fun hHeld => ?_)
           clear hK K
           refine norm_ (a':=?_) ?_ ?_
           rotate_left
           ·show Act.put _ (some 41) _ = _
            simp only [Act.put,q12,q22,q32,i64_w,i32_w]
            rfl
           refine pure_ (i:=24) (N:=some 42) (v:=?_) (a':=?_) #[Y2,Y2,Y2,Y2,Y2,Y2,Y2,Y2,Y2,Y2,Y2,Y2,Y2,Y2,Y2,Y2,Y2,Y2,Y2,Y2,Y2,Y2,Y2,Y2,Y2,Z2,Z2,Z2,Z2,Z2,Z2,Z2,Z2,Z2,Z2,Z2,Z2,Z2] rfl rfl (any_of HT_.out (by kernel_rfl)) (fun _ _ _ h => h) (Or.inl ⟨by rfl,?_⟩) ?_ ?_
           rotate_left
           ·intro w'
            go_simp
            with_reducible rfl
           rotate_left
           ·simp only [Act.put,q12,q22,q32,i64_w,i32_w]
            rfl
           refine pure_ (i:=25) (N:=some 43) (v:=?_) (a':=?_) #[Y2,Y2,Y2,Y2,Y2,Y2,Y2,Y2,Y2,Y2,Y2,Y2,Y2,Y2,Y2,Y2,Y2,Y2,Y2,Y2,Y2,Y2,Y2,Y2,Y2,Y2,Z2,Z2,Z2,Z2,Z2,Z2,Z2,Z2,Z2,Z2,Z2,Z2] rfl rfl (any_of HT_.out (by kernel_rfl)) (fun _ _ _ h => h) (Or.inl ⟨by rfl,?_⟩) ?_ ?_
           rotate_left
           ·intro w'
            go_simp
            with_reducible rfl
           rotate_left
           ·simp only [Act.put,q12,q22,q32,i64_w,i32_w]
            rfl
           refine pure_ (i:=26) (N:=some 44) (v:=?_) (a':=?_) #[Y2,Y2,Y2,Y2,Y2,Y2,Y2,Y2,Y2,Y2,Y2,Y2,Y2,Y2,Y2,Y2,Y2,Y2,Y2,Y2,Y2,Y2,Y2,Y2,Y2,Y2,Y2,Z2,Z2,Z2,Z2,Z2,Z2,Z2,Z2,Z2,Z2,Z2] rfl rfl (any_of HT_.out (by kernel_rfl)) (fun _ _ _ h => h) (Or.inl ⟨by rfl,?_⟩) ?_ ?_
           rotate_left
           ·intro w'
            go_simp
            with_reducible rfl
           rotate_left
           ·simp only [Act.put,q12,q22,q32,i64_w,i32_w]
            rfl
           refine pure_ (i:=27) (N:=some 45) (v:=?_) (a':=?_) #[Y2,Y2,Y2,Y2,Y2,Y2,Y2,Y2,Y2,Y2,Y2,Y2,Y2,Y2,Y2,Y2,Y2,Y2,Y2,Y2,Y2,Y2,Y2,Y2,Y2,Y2,Y2,Y2,Z2,Z2,Z2,Z2,Z2,Z2,Z2,Z2,Z2,Z2] rfl rfl (any_of HT_.out (by kernel_rfl)) (fun _ _ _ h => h) (Or.inl ⟨by rfl,?_⟩) ?_ ?_
           rotate_left
           ·intro w'
            go_simp
            with_reducible rfl
           rotate_left
           ·simp only [Act.put,q12,q22,q32,i64_w,i32_w]
            rfl
           refine take_ (i:=28) (N:=some 46) (v:=?_) (a':=?_) #[Y2,Y2,Y2,Y2,Y2,Y2,Y2,Y2,Y2,Y2,Y2,Y2,Y2,Y2,Y2,Y2,Y2,Y2,Y2,Y2,Y2,Y2,Y2,Y2,Y2,Y2,Y2,Y2,Y2,Z2,Z2,Z2,Z2,Z2,Z2,Z2,Z2,Z2] rfl rfl (take_ofW HT_.out HW_.out (by kernel_rfl)) (fun _ _ _ h => h) (Or.inl ⟨by rfl,?_⟩) hHeld ?_ ?_
           rotate_left
           ·rintro w' ⟨s0,s1,s2,s3⟩
            go_simp
            with_reducible rfl
           rotate_left
           ·simp only [Act.put,q12,q22,q32,i64_w,i32_w]
            rfl
           refine one_ (i:=29) (N:=some 47) #[Y2,Y2,Y2,Y2,Y2,Y2,Y2,Y2,Y2,Y2,Y2,Y2,Y2,Y2,Y2,Y2,Y2,Y2,Y2,Y2,Y2,Y2,Y2,Y2,Y2,Y2,Y2,Y2,Y2,Y2,Z2,Z2,Z2,Z2,Z2,Z2,Z2,Z2] rfl rfl (one_of HT_.out (by kernel_rfl)) (by decide) (fun K hK => ?_)
           refine goes_ Try.func43 (by kernel_rfl) rfl #[.int .i64 ((rd_T74 l0 x3_1).f2),.int .i64 0,.int .i64 20000] (by rfl) rfl rfl (by (try simp only [List.map_toArray,List.map_cons,List.map_nil]);first | done | rfl | (simp only [List.length_drop,List.length_take];rfl)) ?_
           with_reducible refine (spec_l01In.calls ((rd_T74 l0 x3_1).f2) 0 20000 true _ A40.out).mono ?_
           rintro e w' ⟨rfl,⟨nd,rfl⟩⟩
           refine ⟨_,rfl,?_⟩
           refine hK.out _ _ ⟨(blk_cell BK122.out 0).trans rfl,(blk_cell BK122.out 1).trans rfl,(blk_cell BK122.out 2).trans rfl,(blk_cell BK122.out 3).trans rfl⟩ (fun hHeld => ?_)
           clear hK K
           refine norm_ (a':=?_) ?_ ?_
           rotate_left
           ·show Act.put _ (some 47) _ = _
            simp only [Act.put,q12,q22,q32,i64_w,i32_w]
            rfl
           refine pure_ (i:=30) (N:=some 48) (v:=?_) (a':=?_) #[Y2,Y2,Y2,Y2,Y2,Y2,Y2,Y2,Y2,Y2,Y2,Y2,Y2,Y2,Y2,Y2,Y2,Y2,Y2,Y2,Y2,Y2,Y2,Y2,Y2,Y2,Y2,Y2,Y2,Y2,Y2,Z2,Z2,Z2,Z2,Z2,Z2,Z2] rfl rfl (any_of HT_.out (by kernel_rfl)) (fun _ _ _ h => h) (Or.inl ⟨by rfl,?_⟩) ?_ ?_
           rotate_left
           ·intro w'
            go_simp
            with_reducible rfl
           rotate_left
           ·simp only [Act.put,q12,q22,q32,i64_w,i32_w]
            rfl
           refine pure_ (i:=31) (N:=some 49) (v:=?_) (a':=?_) #[Y2,Y2,Y2,Y2,Y2,Y2,Y2,Y2,Y2,Y2,Y2,Y2,Y2,Y2,Y2,Y2,Y2,Y2,Y2,Y2,Y2,Y2,Y2,Y2,Y2,Y2,Y2,Y2,Y2,Y2,Y2,Y2,Z2,Z2,Z2,Z2,Z2,Z2] rfl rfl (any_of HT_.out (by kernel_rfl)) (fun _ _ _ h => h) (Or.inl ⟨by rfl,?_⟩) ?_ ?_
           rotate_left
           ·intro w'
            go_simp
            with_reducible rfl
           rotate_left
           ·simp only [Act.put,q12,q22,q32,i64_w,i32_w]
            rfl
           refine pure_ (i:=32) (N:=some 50) (v:=?_) (a':=?_) #[Y2,Y2,Y2,Y2,Y2,Y2,Y2,Y2,Y2,Y2,Y2,Y2,Y2,Y2,Y2,Y2,Y2,Y2,Y2,Y2,Y2,Y2,Y2,Y2,Y2,Y2,Y2,Y2,Y2,Y2,Y2,Y2,Y2,Z2,Z2,Z2,Z2,Z2] rfl rfl (any_of HT_.out (by kernel_rfl)) (fun _ _ _ h => h) (Or.inl ⟨by rfl,?_⟩) ?_ ?_
           rotate_left
           ·intro w'
            go_simp
            with_reducible rfl
           rotate_left
           ·simp only [Act.put,q12,q22,q32,i64_w,i32_w]
            rfl
           refine pure_ (i:=33) (N:=some 51) (v:=?_) (a':=?_) #[Y2,Y2,Y2,Y2,Y2,Y2,Y2,Y2,Y2,Y2,Y2,Y2,Y2,Y2,Y2,Y2,Y2,Y2,Y2,Y2,Y2,Y2,Y2,Y2,Y2,Y2,Y2,Y2,Y2,Y2,Y2,Y2,Y2,Y2,Z2,Z2,Z2,Z2] rfl rfl (any_of HT_.out (by kernel_rfl)) (fun _ _ _ h => h) (Or.inl ⟨by rfl,?_⟩) ?_ ?_
           rotate_left
           ·intro w'
            go_simp
            with_reducible rfl
           rotate_left
           ·simp only [Act.put,q12,q22,q32,i64_w,i32_w]
            rfl
           refine take_ (i:=34) (N:=some 52) (v:=?_) (a':=?_) #[Y2,Y2,Y2,Y2,Y2,Y2,Y2,Y2,Y2,Y2,Y2,Y2,Y2,Y2,Y2,Y2,Y2,Y2,Y2,Y2,Y2,Y2,Y2,Y2,Y2,Y2,Y2,Y2,Y2,Y2,Y2,Y2,Y2,Y2,Y2,Z2,Z2,Z2] rfl rfl (take_ofW HT_.out HW_.out (by kernel_rfl)) (fun _ _ _ h => h) (Or.inl ⟨by rfl,?_⟩) hHeld ?_ ?_
           rotate_left
           ·rintro w' ⟨s0,s1,s2,s3⟩
            go_simp
            with_reducible rfl
           rotate_left
           ·simp only [Act.put,q12,q22,q32,i64_w,i32_w]
            rfl
           refine one_ (i:=35) (N:=some 53) #[Y2,Y2,Y2,Y2,Y2,Y2,Y2,Y2,Y2,Y2,Y2,Y2,Y2,Y2,Y2,Y2,Y2,Y2,Y2,Y2,Y2,Y2,Y2,Y2,Y2,Y2,Y2,Y2,Y2,Y2,Y2,Y2,Y2,Y2,Y2,Y2,Z2,Z2] rfl rfl (one_of HT_.out (by kernel_rfl)) (by decide) (fun K hK => ?_)
           refine goes_ Try.func43 (by kernel_rfl) rfl #[.int .i64 ((rd_T74 l0 x3_1).f3),.int .i64 0,.int .i64 1000000000] (by rfl) rfl rfl (by (try simp only [List.map_toArray,List.map_cons,List.map_nil]);first | done | rfl | (simp only [List.length_drop,List.length_take];rfl)) ?_
           with_reducible refine (spec_l01In.calls ((rd_T74 l0 x3_1).f3) 0 1000000000 false _ A42.out).mono ?_
           rintro e w' ⟨rfl,⟨nd,rfl⟩⟩
           refine ⟨_,rfl,?_⟩
           refine hK.out _ _ ⟨(blk_cell BK122.out 0).trans rfl,(blk_cell BK122.out 1).trans rfl,(blk_cell BK122.out 2).trans rfl,(blk_cell BK122.out 3).trans rfl⟩ (fun hHeld => ?_)
           clear hK K
           refine norm_ (a':=?_) ?_ ?_
           rotate_left
           ·show Act.put _ (some 53) _ = _
            simp only [Act.put,q12,q22,q32,i64_w,i32_w]
            rfl
           refine pure_ (i:=36) (N:=some 54) (v:=?_) (a':=?_) #[Y2,Y2,Y2,Y2,Y2,Y2,Y2,Y2,Y2,Y2,Y2,Y2,Y2,Y2,Y2,Y2,Y2,Y2,Y2,Y2,Y2,Y2,Y2,Y2,Y2,Y2,Y2,Y2,Y2,Y2,Y2,Y2,Y2,Y2,Y2,Y2,Y2,Z2] rfl rfl (any_of HT_.out (by kernel_rfl)) (fun _ _ _ h => h) (Or.inl ⟨by rfl,?_⟩) ?_ ?_
           rotate_left
           ·intro w'
            go_simp
            with_reducible rfl
           rotate_left
           ·simp only [Act.put,q12,q22,q32,i64_w,i32_w]
            rfl
           refine pure_ (i:=37) (N:=some 55) (v:=?_) (a':=?_) #[Y2,Y2,Y2,Y2,Y2,Y2,Y2,Y2,Y2,Y2,Y2,Y2,Y2,Y2,Y2,Y2,Y2,Y2,Y2,Y2,Y2,Y2,Y2,Y2,Y2,Y2,Y2,Y2,Y2,Y2,Y2,Y2,Y2,Y2,Y2,Y2,Y2,Y2] rfl rfl (any_of HT_.out (by kernel_rfl)) (fun _ _ _ h => h) (Or.inl ⟨by rfl,?_⟩) ?_ ?_
           rotate_left
           ·intro w'
            go_simp
            with_reducible rfl
           rotate_left
           ·simp only [Act.put,q12,q22,q32,i64_w,i32_w]
            rfl
           refine done_ (done_of HT_.out (by kernel_rfl)) ?_
           try go_wp2
           go_ret
           exact ⟨by first | rfl | (simp [errW_none,errW_some] <;> rfl) | (simp [*,errW_none,errW_some] <;> rfl),by repeat (first | (with_reducible first | exact HB.out | apply below_alloc | apply pw_below_drewN | apply below_drew1 | refine below_set ?_ GE122.out) | exact HB.out)⟩
         ·replace c41:=Bool.eq_false_iff.mpr c41
          subst c41
          have H1 : (some false) = some r:=by rw [if_neg (show ¬ (false = true) by decide)] at H;exact H
          clear H
          have H:=H1
          clear H1
          obtain rfl:=Option.some.inj H
          have p121 : 0 ≤ (x3_1 : Int):=of_decide_eq_true (by first | (with_reducible assumption) | assumption)
          have q121 : x3_1 < (l0.length : Int):=of_decide_eq_true (by first | (with_reducible assumption) | assumption)
          obtain ⟨ad121,e121,hx121_0,hx121_1,hx121_2,hx121_3⟩:=at_T74 HR0.out x3_1 p121 q121
          cases e121
          replace hx121_0:=(HB.out.cell (World.block_lt_of_cell? w _ hx121_0)).trans hx121_0
          replace hx121_1:=(HB.out.cell (World.block_lt_of_cell? w _ hx121_1)).trans hx121_1
          replace hx121_2:=(HB.out.cell (World.block_lt_of_cell? w _ hx121_2)).trans hx121_2
          replace hx121_3:=(HB.out.cell (World.block_lt_of_cell? w _ hx121_3)).trans hx121_3
          replace p121:=eq_true p121
          replace q121:=eq_true q121
          try go_wp2_with (first | ((with_reducible refine gate_dst (N:=4) rfl ?_);refine box_event ?hg (N:=4) ?hd (cs:=#[.string (⟨#[]⟩ : ByteArray),.int .i64 0,.int .i64 0,.int .i64 0]) (t:=74) ?hr ?_;(case hd => rfl);(case hg => rfl);(case hr => first | (go_simp;done) | (go_simp;rfl));intro gb122 hg w52 hbox hb;have n0_:=Aside0.mk (below_step (by repeat (first | (with_reducible first | exact HB.out | apply below_alloc | apply pw_below_drewN | apply below_drew1) | exact HB.out)) hb);have n1_:=Aside0.mk (hbox);have n2_:=Aside0.mk ((by rw [hg];exact (below_size (by repeat (first | (with_reducible first | exact HB.out | apply below_alloc | apply pw_below_drewN | apply below_drew1) | exact HB.out))) : w.heap.size ≤ gb122));have n3_:=Aside0.mk ((by rw [hg];exact (below_size (by repeat (first | (with_reducible first | exact HB.out | apply below_alloc | apply pw_below_drewN | apply below_drew1) | exact HB.out))) : w.heap.size ≤ gb122));clear HB;have HB:=n0_;have BK122:=n1_;have GW122:=n2_;have GE122:=n3_;clear n0_ n1_ n2_ n3_;clear hb hbox hg;have hcz53_0 : w52.cell? ⟨gb122,0,none⟩ = some (.string (⟨#[]⟩ : ByteArray)):=(blk_cell BK122.out 0).trans rfl;have hcz53_1 : w52.cell? ⟨gb122,1,none⟩ = some (.int .i64 0):=(blk_cell BK122.out 1).trans rfl;have hcz53_2 : w52.cell? ⟨gb122,2,none⟩ = some (.int .i64 0):=(blk_cell BK122.out 2).trans rfl;have hcz53_3 : w52.cell? ⟨gb122,3,none⟩ = some (.int .i64 0):=(blk_cell BK122.out 3).trans rfl;have hfz53_0:=blk_frozen BK122.out 0;have hfz53_1:=blk_frozen BK122.out 1;have hfz53_2:=blk_frozen BK122.out 2;have hfz53_3:=blk_frozen BK122.out 3))
          have n0_ : Aside0 (((((w52.setCell ⟨gb122,0,none⟩ (.string ((rd_T74 l0 x3_1).f0))).setCell ⟨gb122,1,none⟩ (.int .i64 ((rd_T74 l0 x3_1).f1))).setCell ⟨gb122,2,none⟩ (.int .i64 ((rd_T74 l0 x3_1).f2))).setCell ⟨gb122,3,none⟩ (.int .i64 ((rd_T74 l0 x3_1).f3))).heap[gb122]? = some (.cells #[.string ((rd_T74 l0 x3_1).f0),.int .i64 ((rd_T74 l0 x3_1).f1),.int .i64 ((rd_T74 l0 x3_1).f2),.int .i64 ((rd_T74 l0 x3_1).f3)] 74 (0,0))):=⟨by (with_reducible repeat (first | refine blk_drewN ?_ _ | refine blk_drew ?_ | refine blk_alloc ?_ _));refine blk_put (cs:=#[.string ((rd_T74 l0 x3_1).f0),.int .i64 ((rd_T74 l0 x3_1).f1),.int .i64 ((rd_T74 l0 x3_1).f2),.int .i64 0]) ?_ 3 _ rfl;(with_reducible repeat (first | refine blk_drewN ?_ _ | refine blk_drew ?_ | refine blk_alloc ?_ _));refine blk_put (cs:=#[.string ((rd_T74 l0 x3_1).f0),.int .i64 ((rd_T74 l0 x3_1).f1),.int .i64 0,.int .i64 0]) ?_ 2 _ rfl;(with_reducible repeat (first | refine blk_drewN ?_ _ | refine blk_drew ?_ | refine blk_alloc ?_ _));refine blk_put (cs:=#[.string ((rd_T74 l0 x3_1).f0),.int .i64 0,.int .i64 0,.int .i64 0]) ?_ 1 _ rfl;(with_reducible repeat (first | refine blk_drewN ?_ _ | refine blk_drew ?_ | refine blk_alloc ?_ _));refine blk_put (cs:=#[.string (⟨#[]⟩ : ByteArray),.int .i64 0,.int .i64 0,.int .i64 0]) ?_ 0 _ rfl;(with_reducible repeat (first | refine blk_drewN ?_ _ | refine blk_drew ?_ | refine blk_alloc ?_ _));exact BK122.out⟩
          have n1_ : Aside0 (Below w.heap.size w ((((w52.setCell ⟨gb122,0,none⟩ (.string ((rd_T74 l0 x3_1).f0))).setCell ⟨gb122,1,none⟩ (.int .i64 ((rd_T74 l0 x3_1).f1))).setCell ⟨gb122,2,none⟩ (.int .i64 ((rd_T74 l0 x3_1).f2))).setCell ⟨gb122,3,none⟩ (.int .i64 ((rd_T74 l0 x3_1).f3)))):=⟨by repeat (first | (with_reducible first | exact HB.out | apply below_alloc | apply pw_below_drewN | apply below_drew1 | refine below_set ?_ GE122.out) | exact HB.out)⟩
          (try clear BK122)
          (try clear HB)
          generalize ((((w52.setCell ⟨gb122,0,none⟩ (.string ((rd_T74 l0 x3_1).f0))).setCell ⟨gb122,1,none⟩ (.int .i64 ((rd_T74 l0 x3_1).f1))).setCell ⟨gb122,2,none⟩ (.int .i64 ((rd_T74 l0 x3_1).f2))).setCell ⟨gb122,3,none⟩ (.int .i64 ((rd_T74 l0 x3_1).f3))) = w54 at n0_ n1_ ⊢
          have BK122:=n0_
          have HB:=n1_
          clear n0_ n1_
          have n0_:=Aside0.mk (blk_drew BK122.out)
          have n1_:=Aside0.mk (below_drew1 HB.out)
          clear BK122
          clear HB
          have BK122:=n0_
          have HB:=n1_
          clear n0_ n1_
          refine start_ (n:=38) (S:=fun w' => w'.cell? ⟨gb122,0,none⟩ = some (.string ((rd_T74 l0 x3_1).f0)) ∧ w'.cell? ⟨gb122,1,none⟩ = some (.int .i64 ((rd_T74 l0 x3_1).f1)) ∧ w'.cell? ⟨gb122,2,none⟩ = some (.int .i64 ((rd_T74 l0 x3_1).f2)) ∧ w'.cell? ⟨gb122,3,none⟩ = some (.int .i64 ((rd_T74 l0 x3_1).f3))) (ds:=[]) #[Z2,Z2,Z2,Z2,Z2,Z2,Z2,Z2,Z2,Z2,Z2,Z2,Z2,Z2,Z2,Z2,Z2,Z2,Z2,Z2,Z2,Z2,Z2,Z2,Z2,Z2,Z2,Z2,Z2,Z2,Z2,Z2,Z2,Z2,Z2,Z2,Z2,Z2] (by kernel_rfl) rfl rfl ⟨(blk_cell BK122.out 0).trans rfl,(blk_cell BK122.out 1).trans rfl,(blk_cell BK122.out 2).trans rfl,(blk_cell BK122.out 3).trans rfl⟩ (fun hHeld => ?_);refine with_tabW spec_DirOk.tab7 spec_DirOk.bits7 (fun HT_ HW_ => ?_)
          generalize w54.drew = w55 at BK122 HB hHeld ⊢
          refine pure_ (i:=0) (N:=some 18) (v:=?_) (a':=?_) #[Y2,Z2,Z2,Z2,Z2,Z2,Z2,Z2,Z2,Z2,Z2,Z2,Z2,Z2,Z2,Z2,Z2,Z2,Z2,Z2,Z2,Z2,Z2,Z2,Z2,Z2,Z2,Z2,Z2,Z2,Z2,Z2,Z2,Z2,Z2,Z2,Z2,Z2] rfl rfl (any_of HT_.out (by kernel_rfl)) (fun _ _ _ h => h) (Or.inl ⟨by rfl,?_⟩) ?_ ?_
          rotate_left
          ·intro w'
           go_simp
           with_reducible rfl
          rotate_left
          ·simp only [Act.put,q12,q22,q32,i64_w,i32_w]
           rfl
          refine take_ (i:=1) (N:=some 19) (v:=?_) (a':=?_) #[Y2,Y2,Z2,Z2,Z2,Z2,Z2,Z2,Z2,Z2,Z2,Z2,Z2,Z2,Z2,Z2,Z2,Z2,Z2,Z2,Z2,Z2,Z2,Z2,Z2,Z2,Z2,Z2,Z2,Z2,Z2,Z2,Z2,Z2,Z2,Z2,Z2,Z2] rfl rfl (take_ofW HT_.out HW_.out (by kernel_rfl)) (fun _ _ _ h => h) (Or.inl ⟨by rfl,?_⟩) hHeld ?_ ?_
          rotate_left
          ·rintro w' ⟨s0,s1,s2,s3⟩
           go_simp
           with_reducible rfl
          rotate_left
          ·simp only [Act.put,q12,q22,q32,i64_w,i32_w]
           rfl
          refine pure_ (i:=2) (N:=some 20) (v:=?_) (a':=?_) #[Y2,Y2,Y2,Z2,Z2,Z2,Z2,Z2,Z2,Z2,Z2,Z2,Z2,Z2,Z2,Z2,Z2,Z2,Z2,Z2,Z2,Z2,Z2,Z2,Z2,Z2,Z2,Z2,Z2,Z2,Z2,Z2,Z2,Z2,Z2,Z2,Z2,Z2] rfl rfl (any_of HT_.out (by kernel_rfl)) (fun _ _ _ h => h) (Or.inl ⟨by rfl,?_⟩) ?_ ?_
          rotate_left
          ·intro w'
           go_simp
           with_reducible rfl
          rotate_left
          ·simp only [Act.put,q12,q22,q32,i64_w,i32_w]
           rfl
          refine one_ (i:=3) (N:=some 21) #[Y2,Y2,Y2,Y2,Z2,Z2,Z2,Z2,Z2,Z2,Z2,Z2,Z2,Z2,Z2,Z2,Z2,Z2,Z2,Z2,Z2,Z2,Z2,Z2,Z2,Z2,Z2,Z2,Z2,Z2,Z2,Z2,Z2,Z2,Z2,Z2,Z2,Z2] rfl rfl (one_of HT_.out (by kernel_rfl)) (by decide) (fun K hK => ?_)
          refine goes_ Try.func43 (by kernel_rfl) rfl #[.int .i64 (((rd_T74 l0 x3_1).f0).size : Int),.int .i64 1,.int .i64 20] (by rfl) rfl rfl (by (try simp only [List.map_toArray,List.map_cons,List.map_nil]);first | done | rfl | (simp only [List.length_drop,List.length_take];rfl)) ?_
          with_reducible refine (spec_l01In.calls (((rd_T74 l0 x3_1).f0).size : Int) 1 20 true _ A5.out).mono ?_
          rintro e w' ⟨rfl,⟨nd,rfl⟩⟩
          refine ⟨_,rfl,?_⟩
          refine hK.out _ _ ⟨(blk_cell BK122.out 0).trans rfl,(blk_cell BK122.out 1).trans rfl,(blk_cell BK122.out 2).trans rfl,(blk_cell BK122.out 3).trans rfl⟩ (fun hHeld => ?_)
          clear hK K
          refine norm_ (a':=?_) ?_ ?_
          rotate_left
          ·show Act.put _ (some 21) _ = _
           simp only [Act.put,q12,q22,q32,i64_w,i32_w]
           rfl
          refine pure_ (i:=4) (N:=some 22) (v:=?_) (a':=?_) #[Y2,Y2,Y2,Y2,Y2,Z2,Z2,Z2,Z2,Z2,Z2,Z2,Z2,Z2,Z2,Z2,Z2,Z2,Z2,Z2,Z2,Z2,Z2,Z2,Z2,Z2,Z2,Z2,Z2,Z2,Z2,Z2,Z2,Z2,Z2,Z2,Z2,Z2] rfl rfl (any_of HT_.out (by kernel_rfl)) (fun _ _ _ h => h) (Or.inl ⟨by rfl,?_⟩) ?_ ?_
          rotate_left
          ·intro w'
           go_simp
           with_reducible rfl
          rotate_left
          ·simp only [Act.put,q12,q22,q32,i64_w,i32_w]
           rfl
          refine pure_ (i:=5) (N:=some 23) (v:=?_) (a':=?_) #[Y2,Y2,Y2,Y2,Y2,Y2,Z2,Z2,Z2,Z2,Z2,Z2,Z2,Z2,Z2,Z2,Z2,Z2,Z2,Z2,Z2,Z2,Z2,Z2,Z2,Z2,Z2,Z2,Z2,Z2,Z2,Z2,Z2,Z2,Z2,Z2,Z2,Z2] rfl rfl (any_of HT_.out (by kernel_rfl)) (fun _ _ _ h => h) (Or.inl ⟨by rfl,?_⟩) ?_ ?_
          rotate_left
          ·intro w'
           go_simp
           with_reducible rfl
          rotate_left
          ·simp only [Act.put,q12,q22,q32,i64_w,i32_w]
           rfl
          refine pure_ (i:=6) (N:=some 24) (v:=?_) (a':=?_) #[Y2,Y2,Y2,Y2,Y2,Y2,Y2,Z2,Z2,Z2,Z2,Z2,Z2,Z2,Z2,Z2,Z2,Z2,Z2,Z2,Z2,Z2,Z2,Z2,Z2,Z2,Z2,Z2,Z2,Z2,Z2,Z2,Z2,Z2,Z2,Z2,Z2,Z2] rfl rfl (any_of HT_.out (by kernel_rfl)) (fun _ _ _ h => h) (Or.inl ⟨by rfl,?_⟩) ?_ ?_
          rotate_left
          ·intro w'
           go_simp
           with_reducible rfl
          rotate_left
          ·simp only [Act.put,q12,q22,q32,i64_w,i32_w]
           rfl
          refine pure_ (i:=7) (N:=some 25) (v:=?_) (a':=?_) #[Y2,Y2,Y2,Y2,Y2,Y2,Y2,Y2,Z2,Z2,Z2,Z2,Z2,Z2,Z2,Z2,Z2,Z2,Z2,Z2,Z2,Z2,Z2,Z2,Z2,Z2,Z2,Z2,Z2,Z2,Z2,Z2,Z2,Z2,Z2,Z2,Z2,Z2] rfl rfl (any_of HT_.out (by kernel_rfl)) (fun _ _ _ h => h) (Or.inl ⟨by rfl,?_⟩) ?_ ?_
          rotate_left
          ·intro w'
           go_simp
           with_reducible rfl
          rotate_left
          ·simp only [Act.put,q12,q22,q32,i64_w,i32_w]
           rfl
          refine pure_ (i:=8) (N:=some 26) (v:=?_) (a':=?_) #[Y2,Y2,Y2,Y2,Y2,Y2,Y2,Y2,Y2,Z2,Z2,Z2,Z2,Z2,Z2,Z2,Z2,Z2,Z2,Z2,Z2,Z2,Z2,Z2,Z2,Z2,Z2,Z2,Z2,Z2,Z2,Z2,Z2,Z2,Z2,Z2,Z2,Z2] rfl rfl (any_of HT_.out (by kernel_rfl)) (fun _ _ _ h => h) (Or.inl ⟨by rfl,?_⟩) ?_ ?_
          rotate_left
          ·intro w'
           go_simp
           with_reducible rfl
          rotate_left
          ·simp only [Act.put,q12,q22,q32,i64_w,i32_w]
           rfl
          refine pure_ (i:=9) (N:=some 27) (v:=undef) (a':=?_) #[Y2,Y2,Y2,Y2,Y2,Y2,Y2,Y2,Y2,Y2,Z2,Z2,Z2,Z2,Z2,Z2,Z2,Z2,Z2,Z2,Z2,Z2,Z2,Z2,Z2,Z2,Z2,Z2,Z2,Z2,Z2,Z2,Z2,Z2,Z2,Z2,Z2,Z2] rfl rfl (any_of HT_.out (by kernel_rfl)) (fun _ _ _ h => h) (Or.inr ⟨by rfl,rfl⟩) ?_ ?_
          rotate_left
          ·simp only [Act.put,q12,q22,q32,i64_w,i32_w]
           rfl
          refine pure_ (i:=10) (N:=some 28) (v:=undef) (a':=?_) #[Y2,Y2,Y2,Y2,Y2,Y2,Y2,Y2,Y2,Y2,Y2,Z2,Z2,Z2,Z2,Z2,Z2,Z2,Z2,Z2,Z2,Z2,Z2,Z2,Z2,Z2,Z2,Z2,Z2,Z2,Z2,Z2,Z2,Z2,Z2,Z2,Z2,Z2] rfl rfl (any_of HT_.out (by kernel_rfl)) (fun _ _ _ h => h) (Or.inr ⟨by rfl,rfl⟩) ?_ ?_
          rotate_left
          ·simp only [Act.put,q12,q22,q32,i64_w,i32_w]
           rfl
          refine pure_ (i:=11) (N:=some 29) (v:=undef) (a':=?_) #[Y2,Y2,Y2,Y2,Y2,Y2,Y2,Y2,Y2,Y2,Y2,Y2,Z2,Z2,Z2,Z2,Z2,Z2,Z2,Z2,Z2,Z2,Z2,Z2,Z2,Z2,Z2,Z2,Z2,Z2,Z2,Z2,Z2,Z2,Z2,Z2,Z2,Z2] rfl rfl (any_of HT_.out (by kernel_rfl)) (fun _ _ _ h => h) (Or.inr ⟨by rfl,rfl⟩) ?_ ?_
          rotate_left
          ·simp only [Act.put,q12,q22,q32,i64_w,i32_w]
           rfl
          refine pure_ (i:=12) (N:=some 30) (v:=undef) (a':=?_) #[Y2,Y2,Y2,Y2,Y2,Y2,Y2,Y2,Y2,Y2,Y2,Y2,Y2,Z2,Z2,Z2,Z2,Z2,Z2,Z2,Z2,Z2,Z2,Z2,Z2,Z2,Z2,Z2,Z2,Z2,Z2,Z2,Z2,Z2,Z2,Z2,Z2,Z2] rfl rfl (any_of HT_.out (by kernel_rfl)) (fun _ _ _ h => h) (Or.inr ⟨by rfl,rfl⟩) ?_ ?_
          rotate_left
          ·simp only [Act.put,q12,q22,q32,i64_w,i32_w]
           rfl
          refine pure_ (i:=13) (N:=some 31) (v:=undef) (a':=?_) #[Y2,Y2,Y2,Y2,Y2,Y2,Y2,Y2,Y2,Y2,Y2,Y2,Y2,Y2,Z2,Z2,Z2,Z2,Z2,Z2,Z2,Z2,Z2,Z2,Z2,Z2,Z2,Z2,Z2,Z2,Z2,Z2,Z2,Z2,Z2,Z2,Z2,Z2] rfl rfl (any_of HT_.out (by kernel_rfl)) (fun _ _ _ h => h) (Or.inr ⟨by rfl,rfl⟩) ?_ ?_
          rotate_left
          ·simp only [Act.put,q12,q22,q32,i64_w,i32_w]
           rfl
          refine pure_ (i:=14) (N:=some 32) (v:=undef) (a':=?_) #[Y2,Y2,Y2,Y2,Y2,Y2,Y2,Y2,Y2,Y2,Y2,Y2,Y2,Y2,Y2,Z2,Z2,Z2,Z2,Z2,Z2,Z2,Z2,Z2,Z2,Z2,Z2,Z2,Z2,Z2,Z2,Z2,Z2,Z2,Z2,Z2,Z2,Z2] rfl rfl (any_of HT_.out (by kernel_rfl)) (fun _ _ _ h => h) (Or.inr ⟨by rfl,rfl⟩) ?_ ?_
          rotate_left
          ·simp only [Act.put,q12,q22,q32,i64_w,i32_w]
           rfl
          refine pure_ (i:=15) (N:=some 33) (v:=undef) (a':=?_) #[Y2,Y2,Y2,Y2,Y2,Y2,Y2,Y2,Y2,Y2,Y2,Y2,Y2,Y2,Y2,Y2,Z2,Z2,Z2,Z2,Z2,Z2,Z2,Z2,Z2,Z2,Z2,Z2,Z2,Z2,Z2,Z2,Z2,Z2,Z2,Z2,Z2,Z2] rfl rfl (any_of HT_.out (by kernel_rfl)) (fun _ _ _ h => h) (Or.inr ⟨by rfl,rfl⟩) ?_ ?_
          rotate_left
          ·simp only [Act.put,q12,q22,q32,i64_w,i32_w]
           rfl
          refine pure_ (i:=16) (N:=some 34) (v:=undef) (a':=?_) #[Y2,Y2,Y2,Y2,Y2,Y2,Y2,Y2,Y2,Y2,Y2,Y2,Y2,Y2,Y2,Y2,Y2,Z2,Z2,Z2,Z2,Z2,Z2,Z2,Z2,Z2,Z2,Z2,Z2,Z2,Z2,Z2,Z2,Z2,Z2,Z2,Z2,Z2] rfl rfl (any_of HT_.out (by kernel_rfl)) (fun _ _ _ h => h) (Or.inr ⟨by rfl,rfl⟩) ?_ ?_
          rotate_left
          ·simp only [Act.put,q12,q22,q32,i64_w,i32_w]
           rfl
          refine pure_ (i:=17) (N:=some 35) (v:=undef) (a':=?_) #[Y2,Y2,Y2,Y2,Y2,Y2,Y2,Y2,Y2,Y2,Y2,Y2,Y2,Y2,Y2,Y2,Y2,Y2,Z2,Z2,Z2,Z2,Z2,Z2,Z2,Z2,Z2,Z2,Z2,Z2,Z2,Z2,Z2,Z2,Z2,Z2,Z2,Z2] rfl rfl (any_of HT_.out (by kernel_rfl)) (fun _ _ _ h => h) (Or.inr ⟨by rfl,rfl⟩) ?_ ?_
          rotate_left
          ·simp only [Act.put,q12,q22,q32,i64_w,i32_w]
           rfl
          refine pure_ (i:=18) (N:=some 36) (v:=?_) (a':=?_) #[Y2,Y2,Y2,Y2,Y2,Y2,Y2,Y2,Y2,Y2,Y2,Y2,Y2,Y2,Y2,Y2,Y2,Y2,Y2,Z2,Z2,Z2,Z2,Z2,Z2,Z2,Z2,Z2,Z2,Z2,Z2,Z2,Z2,Z2,Z2,Z2,Z2,Z2] rfl rfl (any_of HT_.out (by kernel_rfl)) (fun _ _ _ h => h) (Or.inl ⟨by rfl,?_⟩) ?_ ?_
          rotate_left
          ·intro w'
           go_simp
           with_reducible rfl
          rotate_left
          ·simp only [Act.put,q12,q22,q32,i64_w,i32_w]
           rfl
          refine pure_ (i:=19) (N:=some 37) (v:=?_) (a':=?_) #[Y2,Y2,Y2,Y2,Y2,Y2,Y2,Y2,Y2,Y2,Y2,Y2,Y2,Y2,Y2,Y2,Y2,Y2,Y2,Y2,Z2,Z2,Z2,Z2,Z2,Z2,Z2,Z2,Z2,Z2,Z2,Z2,Z2,Z2,Z2,Z2,Z2,Z2] rfl rfl (any_of HT_.out (by kernel_rfl)) (fun _ _ _ h => h) (Or.inl ⟨by rfl,?_⟩) ?_ ?_
          rotate_left
          ·intro w'
           go_simp
           with_reducible rfl
          rotate_left
          ·simp only [Act.put,q12,q22,q32,i64_w,i32_w]
           rfl
          refine pure_ (i:=20) (N:=some 38) (v:=?_) (a':=?_) #[Y2,Y2,Y2,Y2,Y2,Y2,Y2,Y2,Y2,Y2,Y2,Y2,Y2,Y2,Y2,Y2,Y2,Y2,Y2,Y2,Y2,Z2,Z2,Z2,Z2,Z2,Z2,Z2,Z2,Z2,Z2,Z2,Z2,Z2,Z2,Z2,Z2,Z2] rfl rfl (any_of HT_.out (by kernel_rfl)) (fun _ _ _ h => h) (Or.inl ⟨by rfl,?_⟩) ?_ ?_
          rotate_left
          ·intro w'
           go_simp
           with_reducible rfl
          rotate_left
          ·simp only [Act.put,q12,q22,q32,i64_w,i32_w]
           rfl
          refine pure_ (i:=21) (N:=some 39) (v:=?_) (a':=?_) #[Y2,Y2,Y2,Y2,Y2,Y2,Y2,Y2,Y2,Y2,Y2,Y2,Y2,Y2,Y2,Y2,Y2,Y2,Y2,Y2,Y2,Y2,Z2,Z2,Z2,Z2,Z2,Z2,Z2,Z2,Z2,Z2,Z2,Z2,Z2,Z2,Z2,Z2] rfl rfl (any_of HT_.out (by kernel_rfl)) (fun _ _ _ h => h) (Or.inl ⟨by rfl,?_⟩) ?_ ?_
          rotate_left
          ·intro w'
           go_simp
           with_reducible rfl
          rotate_left
          ·simp only [Act.put,q12,q22,q32,i64_w,i32_w]
           rfl
          refine take_ (i:=22) (N:=some 40) (v:=?_) (a':=?_) #[Y2,Y2,Y2,Y2,Y2,Y2,Y2,Y2,Y2,Y2,Y2,Y2,Y2,Y2,Y2,Y2,Y2,Y2,Y2,Y2,Y2,Y2,Y2,Z2,Z2,Z2,Z2,Z2,Z2,Z2,Z2,Z2,Z2,Z2,Z2,Z2,Z2,Z2] rfl rfl (take_ofW HT_.out HW_.out (by kernel_rfl)) (fun _ _ _ h => h) (Or.inl ⟨by rfl,?_⟩) hHeld ?_ ?_
          rotate_left
          ·rintro w' ⟨s0,s1,s2,s3⟩
           go_simp
           with_reducible rfl
          rotate_left
          ·simp only [Act.put,q12,q22,q32,i64_w,i32_w]
           rfl
          refine one_ (i:=23) (N:=some 41) #[Y2,Y2,Y2,Y2,Y2,Y2,Y2,Y2,Y2,Y2,Y2,Y2,Y2,Y2,Y2,Y2,Y2,Y2,Y2,Y2,Y2,Y2,Y2,Y2,Z2,Z2,Z2,Z2,Z2,Z2,Z2,Z2,Z2,Z2,Z2,Z2,Z2,Z2] rfl rfl (one_of HT_.out (by kernel_rfl)) (by decide) (fun K hK => ?_)
          refine goes_ Try.func43 (by kernel_rfl) rfl #[.int .i64 ((rd_T74 l0 x3_1).f1),.int .i64 0,.int .i64 99] (by rfl) rfl rfl (by (try simp only [List.map_toArray,List.map_cons,List.map_nil]);first | done | rfl | (simp only [List.length_drop,List.length_take];rfl)) ?_
          with_reducible refine (spec_l01In.calls ((rd_T74 l0 x3_1).f1) 0 99 true _ A38.out).mono ?_
          rintro e w' ⟨rfl,⟨nd,rfl⟩⟩
          refine ⟨_,rfl,?_⟩
          refine hK.out _ _ ⟨(blk_cell BK122.out 0).trans rfl,(blk_cell BK122.out 1).trans rfl,(blk_cell BK122.out 2).trans rfl,(blk_cell BK122.out 3).trans rfl⟩ (fun hHeld => ?_)
          clear hK K
          refine norm_ (a':=?_) ?_ ?_
          rotate_left
          ·show Act.put _ (some 41) _ = _
           simp only [Act.put,q12,q22,q32,i64_w,i32_w]
           rfl
          refine pure_ (i:=24) (N:=some 42) (v:=?_) (a':=?_) #[Y2,Y2,Y2,Y2,Y2,Y2,Y2,Y2,Y2,Y2,Y2,Y2,Y2,Y2,Y2,Y2,Y2,Y2,Y2,Y2,Y2,Y2,Y2,Y2,Y2,Z2,Z2,Z2,Z2,Z2,Z2,Z2,Z2,Z2,Z2,Z2,Z2,Z2] rfl rfl (any_of HT_.out (by kernel_rfl)) (fun _ _ _ h => h) (Or.inl ⟨by rfl,?_⟩) ?_ ?_
          rotate_left
          ·intro w'
           go_simp
           with_reducible rfl
          rotate_left
          ·simp only [Act.put,q12,q22,q32,i64_w,i32_w]
           rfl
          refine pure_ (i:=25) (N:=some 43) (v:=?_) (a':=?_) #[Y2,Y2,Y2,Y2,Y2,Y2,Y2,Y2,Y2,Y2,Y2,Y2,Y2,Y2,Y2,Y2,Y2,Y2,Y2,Y2,Y2,Y2,Y2,Y2,Y2,Y2,Z2,Z2,Z2,Z2,Z2,Z2,Z2,Z2,Z2,Z2,Z2,Z2] rfl rfl (any_of HT_.out (by kernel_rfl)) (fun _ _ _ h => h) (Or.inl ⟨by rfl,?_⟩) ?_ ?_
          rotate_left
          ·intro w'
           go_simp
           with_reducible rfl
          rotate_left
          ·simp only [Act.put,q12,q22,q32,i64_w,i32_w]
           rfl
          refine pure_ (i:=26) (N:=some 44) (v:=?_) (a':=?_) #[Y2,Y2,Y2,Y2,Y2,Y2,Y2,Y2,Y2,Y2,Y2,Y2,Y2,Y2,Y2,Y2,Y2,Y2,Y2,Y2,Y2,Y2,Y2,Y2,Y2,Y2,Y2,Z2,Z2,Z2,Z2,Z2,Z2,Z2,Z2,Z2,Z2,Z2] rfl rfl (any_of HT_.out (by kernel_rfl)) (fun _ _ _ h => h) (Or.inl ⟨by rfl,?_⟩) ?_ ?_
          rotate_left
          ·intro w'
           go_simp
           with_reducible rfl
          rotate_left
          ·simp only [Act.put,q12,q22,q32,i64_w,i32_w]
           rfl
          refine pure_ (i:=27) (N:=some 45) (v:=?_) (a':=?_) #[Y2,Y2,Y2,Y2,Y2,Y2,Y2,Y2,Y2,Y2,Y2,Y2,Y2,Y2,Y2,Y2,Y2,Y2,Y2,Y2,Y2,Y2,Y2,Y2,Y2,Y2,Y2,Y2,Z2,Z2,Z2,Z2,Z2,Z2,Z2,Z2,Z2,Z2] rfl rfl (any_of HT_.out (by kernel_rfl)) (fun _ _ _ h => h) (Or.inl ⟨by rfl,?_⟩) ?_ ?_
          rotate_left
          ·intro w'
           go_simp
           with_reducible rfl
          rotate_left
          ·simp only [Act.put,q12,q22,q32,i64_w,i32_w]
           rfl
          refine take_ (i:=28) (N:=some 46) (v:=?_) (a':=?_) #[Y2,Y2,Y2,Y2,Y2,Y2,Y2,Y2,Y2,Y2,Y2,Y2,Y2,Y2,Y2,Y2,Y2,Y2,Y2,Y2,Y2,Y2,Y2,Y2,Y2,Y2,Y2,Y2,Y2,Z2,Z2,Z2,Z2,Z2,Z2,Z2,Z2,Z2] rfl rfl (take_ofW HT_.out HW_.out (by kernel_rfl)) (fun _ _ _ h => h) (Or.inl ⟨by rfl,?_⟩) hHeld ?_ ?_
          rotate_left
          ·rintro w' ⟨s0,s1,s2,s3⟩
           go_simp
           with_reducible rfl
          rotate_left
          ·simp only [Act.put,q12,q22,q32,i64_w,i32_w]
           rfl
          refine one_ (i:=29) (N:=some 47) #[Y2,Y2,Y2,Y2,Y2,Y2,Y2,Y2,Y2,Y2,Y2,Y2,Y2,Y2,Y2,Y2,Y2,Y2,Y2,Y2,Y2,Y2,Y2,Y2,Y2,Y2,Y2,Y2,Y2,Y2,Z2,Z2,Z2,Z2,Z2,Z2,Z2,Z2] rfl rfl (one_of HT_.out (by kernel_rfl)) (by decide) (fun K hK => ?_)
          refine goes_ Try.func43 (by kernel_rfl) rfl #[.int .i64 ((rd_T74 l0 x3_1).f2),.int .i64 0,.int .i64 20000] (by rfl) rfl rfl (by (try simp only [List.map_toArray,List.map_cons,List.map_nil]);first | done | rfl | (simp only [List.length_drop,List.length_take];rfl)) ?_
          with_reducible refine (spec_l01In.calls ((rd_T74 l0 x3_1).f2) 0 20000 false _ A40.out).mono ?_
          rintro e w' ⟨rfl,⟨nd,rfl⟩⟩
          refine ⟨_,rfl,?_⟩
          refine hK.out _ _ ⟨(blk_cell BK122.out 0).trans rfl,(blk_cell BK122.out 1).trans rfl,(blk_cell BK122.out 2).trans rfl,(blk_cell BK122.out 3).trans rfl⟩ (fun hHeld => ?_)
          clear hK K
          refine norm_ (a':=?_) ?_ ?_
          rotate_left
          ·show Act.put _ (some 47) _ = _
           simp only [Act.put,q12,q22,q32,i64_w,i32_w]
           rfl
          refine pure_ (i:=30) (N:=some 48) (v:=?_) (a':=?_) #[Y2,Y2,Y2,Y2,Y2,Y2,Y2,Y2,Y2,Y2,Y2,Y2,Y2,Y2,Y2,Y2,Y2,Y2,Y2,Y2,Y2,Y2,Y2,Y2,Y2,Y2,Y2,Y2,Y2,Y2,Y2,Z2,Z2,Z2,Z2,Z2,Z2,Z2] rfl rfl (any_of HT_.out (by kernel_rfl)) (fun _ _ _ h => h) (Or.inl ⟨by rfl,?_⟩) ?_ ?_
          rotate_left
          ·intro w'
           go_simp
           with_reducible rfl
          rotate_left
          ·simp only [Act.put,q12,q22,q32,i64_w,i32_w]
           rfl
          refine pure_ (i:=31) (N:=some 49) (v:=?_) (a':=?_) #[Y2,Y2,Y2,Y2,Y2,Y2,Y2,Y2,Y2,Y2,Y2,Y2,Y2,Y2,Y2,Y2,Y2,Y2,Y2,Y2,Y2,Y2,Y2,Y2,Y2,Y2,Y2,Y2,Y2,Y2,Y2,Y2,Z2,Z2,Z2,Z2,Z2,Z2] rfl rfl (any_of HT_.out (by kernel_rfl)) (fun _ _ _ h => h) (Or.inl ⟨by rfl,?_⟩) ?_ ?_
          rotate_left
          ·intro w'
           go_simp
           with_reducible rfl
          rotate_left
          ·simp only [Act.put,q12,q22,q32,i64_w,i32_w]
           rfl
          refine pure_ (i:=32) (N:=some 50) (v:=?_) (a':=?_) #[Y2,Y2,Y2,Y2,Y2,Y2,Y2,Y2,Y2,Y2,Y2,Y2,Y2,Y2,Y2,Y2,Y2,Y2,Y2,Y2,Y2,Y2,Y2,Y2,Y2,Y2,Y2,Y2,Y2,Y2,Y2,Y2,Y2,Z2,Z2,Z2,Z2,Z2] rfl rfl (any_of HT_.out (by kernel_rfl)) (fun _ _ _ h => h) (Or.inl ⟨by rfl,?_⟩) ?_ ?_
          rotate_left
          ·intro w'
           go_simp
           with_reducible rfl
          rotate_left
          ·simp only [Act.put,q12,q22,q32,i64_w,i32_w]
           rfl
          refine pure_ (i:=33) (N:=some 51) (v:=undef) (a':=?_) #[Y2,Y2,Y2,Y2,Y2,Y2,Y2,Y2,Y2,Y2,Y2,Y2,Y2,Y2,Y2,Y2,Y2,Y2,Y2,Y2,Y2,Y2,Y2,Y2,Y2,Y2,Y2,Y2,Y2,Y2,Y2,Y2,Y2,Y2,Z2,Z2,Z2,Z2] rfl rfl (any_of HT_.out (by kernel_rfl)) (fun _ _ _ h => h) (Or.inr ⟨by rfl,rfl⟩) ?_ ?_
          rotate_left
          ·simp only [Act.put,q12,q22,q32,i64_w,i32_w]
           rfl
          refine pure_ (i:=34) (N:=some 52) (v:=undef) (a':=?_) #[Y2,Y2,Y2,Y2,Y2,Y2,Y2,Y2,Y2,Y2,Y2,Y2,Y2,Y2,Y2,Y2,Y2,Y2,Y2,Y2,Y2,Y2,Y2,Y2,Y2,Y2,Y2,Y2,Y2,Y2,Y2,Y2,Y2,Y2,Y2,Z2,Z2,Z2] rfl rfl (any_of HT_.out (by kernel_rfl)) (fun _ _ _ h => h) (Or.inr ⟨by rfl,rfl⟩) ?_ ?_
          rotate_left
          ·simp only [Act.put,q12,q22,q32,i64_w,i32_w]
           rfl
          refine pure_ (i:=35) (N:=some 53) (v:=undef) (a':=?_) #[Y2,Y2,Y2,Y2,Y2,Y2,Y2,Y2,Y2,Y2,Y2,Y2,Y2,Y2,Y2,Y2,Y2,Y2,Y2,Y2,Y2,Y2,Y2,Y2,Y2,Y2,Y2,Y2,Y2,Y2,Y2,Y2,Y2,Y2,Y2,Y2,Z2,Z2] rfl rfl (any_of HT_.out (by kernel_rfl)) (fun _ _ _ h => h) (Or.inr ⟨by rfl,rfl⟩) ?_ ?_
          rotate_left
          ·simp only [Act.put,q12,q22,q32,i64_w,i32_w]
           rfl
          refine pure_ (i:=36) (N:=some 54) (v:=undef) (a':=?_) #[Y2,Y2,Y2,Y2,Y2,Y2,Y2,Y2,Y2,Y2,Y2,Y2,Y2,Y2,Y2,Y2,Y2,Y2,Y2,Y2,Y2,Y2,Y2,Y2,Y2,Y2,Y2,Y2,Y2,Y2,Y2,Y2,Y2,Y2,Y2,Y2,Y2,Z2] rfl rfl (any_of HT_.out (by kernel_rfl)) (fun _ _ _ h => h) (Or.inr ⟨by rfl,rfl⟩) ?_ ?_
          rotate_left
          ·simp only [Act.put,q12,q22,q32,i64_w,i32_w]
           rfl
          refine pure_ (i:=37) (N:=some 55) (v:=?_) (a':=?_) #[Y2,Y2,Y2,Y2,Y2,Y2,Y2,Y2,Y2,Y2,Y2,Y2,Y2,Y2,Y2,Y2,Y2,Y2,Y2,Y2,Y2,Y2,Y2,Y2,Y2,Y2,Y2,Y2,Y2,Y2,Y2,Y2,Y2,Y2,Y2,Y2,Y2,Y2] rfl rfl (any_of HT_.out (by kernel_rfl)) (fun _ _ _ h => h) (Or.inl ⟨by rfl,?_⟩) ?_ ?_
          rotate_left
          ·intro w'
           go_simp
           with_reducible rfl
          rotate_left
          ·simp only [Act.put,q12,q22,q32,i64_w,i32_w]
           rfl
          refine done_ (done_of HT_.out (by kernel_rfl)) ?_
          try go_wp2
          go_ret
          exact ⟨by first | rfl | (simp [errW_none,errW_some] <;> rfl) | (simp [*,errW_none,errW_some] <;> rfl),by repeat (first | (with_reducible first | exact HB.out | apply below_alloc | apply pw_below_drewN | apply below_drew1 | refine below_set ?_ GE122.out) | exact HB.out)⟩
        ·replace c39:=Bool.eq_false_iff.mpr c39
         subst c39
         have H1 : (some false) = some r:=by rw [if_neg (show ¬ (false = true) by decide)] at H;exact H
         clear H
         have H:=H1
         clear H1
         obtain rfl:=Option.some.inj H
         have p121 : 0 ≤ (x3_1 : Int):=of_decide_eq_true (by first | (with_reducible assumption) | assumption)
         have q121 : x3_1 < (l0.length : Int):=of_decide_eq_true (by first | (with_reducible assumption) | assumption)
         obtain ⟨ad121,e121,hx121_0,hx121_1,hx121_2,hx121_3⟩:=at_T74 HR0.out x3_1 p121 q121
         cases e121
         replace hx121_0:=(HB.out.cell (World.block_lt_of_cell? w _ hx121_0)).trans hx121_0
         replace hx121_1:=(HB.out.cell (World.block_lt_of_cell? w _ hx121_1)).trans hx121_1
         replace hx121_2:=(HB.out.cell (World.block_lt_of_cell? w _ hx121_2)).trans hx121_2
         replace hx121_3:=(HB.out.cell (World.block_lt_of_cell? w _ hx121_3)).trans hx121_3
         replace p121:=eq_true p121
         replace q121:=eq_true q121
         try go_wp2_with (first | ((with_reducible refine gate_dst (N:=4) rfl ?_);refine box_event ?hg (N:=4) ?hd (cs:=#[.string (⟨#[]⟩ : ByteArray),.int .i64 0,.int .i64 0,.int .i64 0]) (t:=74) ?hr ?_;(case hd => rfl);(case hg => rfl);(case hr => first | (go_simp;done) | (go_simp;rfl));intro gb122 hg w56 hbox hb;have n0_:=Aside0.mk (below_step (by repeat (first | (with_reducible first | exact HB.out | apply below_alloc | apply pw_below_drewN | apply below_drew1) | exact HB.out)) hb);have n1_:=Aside0.mk (hbox);have n2_:=Aside0.mk ((by rw [hg];exact (below_size (by repeat (first | (with_reducible first | exact HB.out | apply below_alloc | apply pw_below_drewN | apply below_drew1) | exact HB.out))) : w.heap.size ≤ gb122));have n3_:=Aside0.mk ((by rw [hg];exact (below_size (by repeat (first | (with_reducible first | exact HB.out | apply below_alloc | apply pw_below_drewN | apply below_drew1) | exact HB.out))) : w.heap.size ≤ gb122));clear HB;have HB:=n0_;have BK122:=n1_;have GW122:=n2_;have GE122:=n3_;clear n0_ n1_ n2_ n3_;clear hb hbox hg;have hcz57_0 : w56.cell? ⟨gb122,0,none⟩ = some (.string (⟨#[]⟩ : ByteArray)):=(blk_cell BK122.out 0).trans rfl;have hcz57_1 : w56.cell? ⟨gb122,1,none⟩ = some (.int .i64 0):=(blk_cell BK122.out 1).trans rfl;have hcz57_2 : w56.cell? ⟨gb122,2,none⟩ = some (.int .i64 0):=(blk_cell BK122.out 2).trans rfl;have hcz57_3 : w56.cell? ⟨gb122,3,none⟩ = some (.int .i64 0):=(blk_cell BK122.out 3).trans rfl;have hfz57_0:=blk_frozen BK122.out 0;have hfz57_1:=blk_frozen BK122.out 1;have hfz57_2:=blk_frozen BK122.out 2;have hfz57_3:=blk_frozen BK122.out 3))
         have n0_ : Aside0 (((((w56.setCell ⟨gb122,0,none⟩ (.string ((rd_T74 l0 x3_1).f0))).setCell ⟨gb122,1,none⟩ (.int .i64 ((rd_T74 l0 x3_1).f1))).setCell ⟨gb122,2,none⟩ (.int .i64 ((rd_T74 l0 x3_1).f2))).setCell ⟨gb122,3,none⟩ (.int .i64 ((rd_T74 l0 x3_1).f3))).heap[gb122]? = some (.cells #[.string ((rd_T74 l0 x3_1).f0),.int .i64 ((rd_T74 l0 x3_1).f1),.int .i64 ((rd_T74 l0 x3_1).f2),.int .i64 ((rd_T74 l0 x3_1).f3)] 74 (0,0))):=⟨by (with_reducible repeat (first | refine blk_drewN ?_ _ | refine blk_drew ?_ | refine blk_alloc ?_ _));refine blk_put (cs:=#[.string ((rd_T74 l0 x3_1).f0),.int .i64 ((rd_T74 l0 x3_1).f1),.int .i64 ((rd_T74 l0 x3_1).f2),.int .i64 0]) ?_ 3 _ rfl;(with_reducible repeat (first | refine blk_drewN ?_ _ | refine blk_drew ?_ | refine blk_alloc ?_ _));refine blk_put (cs:=#[.string ((rd_T74 l0 x3_1).f0),.int .i64 ((rd_T74 l0 x3_1).f1),.int .i64 0,.int .i64 0]) ?_ 2 _ rfl;(with_reducible repeat (first | refine blk_drewN ?_ _ | refine blk_drew ?_ | refine blk_alloc ?_ _));refine blk_put (cs:=#[.string ((rd_T74 l0 x3_1).f0),.int .i64 0,.int .i64 0,.int .i64 0]) ?_ 1 _ rfl;(with_reducible repeat (first | refine blk_drewN ?_ _ | refine blk_drew ?_ | refine blk_alloc ?_ _));refine blk_put (cs:=#[.string (⟨#[]⟩ : ByteArray),.int .i64 0,.int .i64 0,.int .i64 0]) ?_ 0 _ rfl;(with_reducible repeat (first | refine blk_drewN ?_ _ | refine blk_drew ?_ | refine blk_alloc ?_ _));exact BK122.out⟩
         have n1_ : Aside0 (Below w.heap.size w ((((w56.setCell ⟨gb122,0,none⟩ (.string ((rd_T74 l0 x3_1).f0))).setCell ⟨gb122,1,none⟩ (.int .i64 ((rd_T74 l0 x3_1).f1))).setCell ⟨gb122,2,none⟩ (.int .i64 ((rd_T74 l0 x3_1).f2))).setCell ⟨gb122,3,none⟩ (.int .i64 ((rd_T74 l0 x3_1).f3)))):=⟨by repeat (first | (with_reducible first | exact HB.out | apply below_alloc | apply pw_below_drewN | apply below_drew1 | refine below_set ?_ GE122.out) | exact HB.out)⟩
         (try clear BK122)
         (try clear HB)
         generalize ((((w56.setCell ⟨gb122,0,none⟩ (.string ((rd_T74 l0 x3_1).f0))).setCell ⟨gb122,1,none⟩ (.int .i64 ((rd_T74 l0 x3_1).f1))).setCell ⟨gb122,2,none⟩ (.int .i64 ((rd_T74 l0 x3_1).f2))).setCell ⟨gb122,3,none⟩ (.int .i64 ((rd_T74 l0 x3_1).f3))) = w58 at n0_ n1_ ⊢
         have BK122:=n0_
         have HB:=n1_
         clear n0_ n1_
         have n0_:=Aside0.mk (blk_drew BK122.out)
         have n1_:=Aside0.mk (below_drew1 HB.out)
         clear BK122
         clear HB
         have BK122:=n0_
         have HB:=n1_
         clear n0_ n1_
         refine start_ (n:=38) (S:=fun w' => w'.cell? ⟨gb122,0,none⟩ = some (.string ((rd_T74 l0 x3_1).f0)) ∧ w'.cell? ⟨gb122,1,none⟩ = some (.int .i64 ((rd_T74 l0 x3_1).f1)) ∧ w'.cell? ⟨gb122,2,none⟩ = some (.int .i64 ((rd_T74 l0 x3_1).f2)) ∧ w'.cell? ⟨gb122,3,none⟩ = some (.int .i64 ((rd_T74 l0 x3_1).f3))) (ds:=[]) #[Z2,Z2,Z2,Z2,Z2,Z2,Z2,Z2,Z2,Z2,Z2,Z2,Z2,Z2,Z2,Z2,Z2,Z2,Z2,Z2,Z2,Z2,Z2,Z2,Z2,Z2,Z2,Z2,Z2,Z2,Z2,Z2,Z2,Z2,Z2,Z2,Z2,Z2] (by kernel_rfl) rfl rfl ⟨(blk_cell BK122.out 0).trans rfl,(blk_cell BK122.out 1).trans rfl,(blk_cell BK122.out 2).trans rfl,(blk_cell BK122.out 3).trans rfl⟩ (fun hHeld => ?_);refine with_tabW spec_DirOk.tab7 spec_DirOk.bits7 (fun HT_ HW_ => ?_)
         generalize w58.drew = w59 at BK122 HB hHeld ⊢
         refine pure_ (i:=0) (N:=some 18) (v:=?_) (a':=?_) #[Y2,Z2,Z2,Z2,Z2,Z2,Z2,Z2,Z2,Z2,Z2,Z2,Z2,Z2,Z2,Z2,Z2,Z2,Z2,Z2,Z2,Z2,Z2,Z2,Z2,Z2,Z2,Z2,Z2,Z2,Z2,Z2,Z2,Z2,Z2,Z2,Z2,Z2] rfl rfl (any_of HT_.out (by kernel_rfl)) (fun _ _ _ h => h) (Or.inl ⟨by rfl,?_⟩) ?_ ?_
         rotate_left
         ·intro w'
          go_simp
          with_reducible rfl
         rotate_left
         ·simp only [Act.put,q12,q22,q32,i64_w,i32_w]
          rfl
         refine take_ (i:=1) (N:=some 19) (v:=?_) (a':=?_) #[Y2,Y2,Z2,Z2,Z2,Z2,Z2,Z2,Z2,Z2,Z2,Z2,Z2,Z2,Z2,Z2,Z2,Z2,Z2,Z2,Z2,Z2,Z2,Z2,Z2,Z2,Z2,Z2,Z2,Z2,Z2,Z2,Z2,Z2,Z2,Z2,Z2,Z2] rfl rfl (take_ofW HT_.out HW_.out (by kernel_rfl)) (fun _ _ _ h => h) (Or.inl ⟨by rfl,?_⟩) hHeld ?_ ?_
         rotate_left
         ·rintro w' ⟨s0,s1,s2,s3⟩
          go_simp
          with_reducible rfl
         rotate_left
         ·simp only [Act.put,q12,q22,q32,i64_w,i32_w]
          rfl
         refine pure_ (i:=2) (N:=some 20) (v:=?_) (a':=?_) #[Y2,Y2,Y2,Z2,Z2,Z2,Z2,Z2,Z2,Z2,Z2,Z2,Z2,Z2,Z2,Z2,Z2,Z2,Z2,Z2,Z2,Z2,Z2,Z2,Z2,Z2,Z2,Z2,Z2,Z2,Z2,Z2,Z2,Z2,Z2,Z2,Z2,Z2] rfl rfl (any_of HT_.out (by kernel_rfl)) (fun _ _ _ h => h) (Or.inl ⟨by rfl,?_⟩) ?_ ?_
         rotate_left
         ·intro w'
          go_simp
          with_reducible rfl
         rotate_left
         ·simp only [Act.put,q12,q22,q32,i64_w,i32_w]
          rfl
         refine one_ (i:=3) (N:=some 21) #[Y2,Y2,Y2,Y2,Z2,Z2,Z2,Z2,Z2,Z2,Z2,Z2,Z2,Z2,Z2,Z2,Z2,Z2,Z2,Z2,Z2,Z2,Z2,Z2,Z2,Z2,Z2,Z2,Z2,Z2,Z2,Z2,Z2,Z2,Z2,Z2,Z2,Z2] rfl rfl (one_of HT_.out (by kernel_rfl)) (by decide) (fun K hK => ?_)
         refine goes_ Try.func43 (by kernel_rfl) rfl #[.int .i64 (((rd_T74 l0 x3_1).f0).size : Int),.int .i64 1,.int .i64 20] (by rfl) rfl rfl (by (try simp only [List.map_toArray,List.map_cons,List.map_nil]);first | done | rfl | (simp only [List.length_drop,List.length_take];rfl)) ?_
         with_reducible refine (spec_l01In.calls (((rd_T74 l0 x3_1).f0).size : Int) 1 20 true _ A5.out).mono ?_
         rintro e w' ⟨rfl,⟨nd,rfl⟩⟩
         refine ⟨_,rfl,?_⟩
         refine hK.out _ _ ⟨(blk_cell BK122.out 0).trans rfl,(blk_cell BK122.out 1).trans rfl,(blk_cell BK122.out 2).trans rfl,(blk_cell BK122.out 3).trans rfl⟩ (fun hHeld => ?_)
         clear hK K
         refine norm_ (a':=?_) ?_ ?_
         rotate_left
         ·show Act.put _ (some 21) _ = _
          simp only [Act.put,q12,q22,q32,i64_w,i32_w]
          rfl
         refine pure_ (i:=4) (N:=some 22) (v:=?_) (a':=?_) #[Y2,Y2,Y2,Y2,Y2,Z2,Z2,Z2,Z2,Z2,Z2,Z2,Z2,Z2,Z2,Z2,Z2,Z2,Z2,Z2,Z2,Z2,Z2,Z2,Z2,Z2,Z2,Z2,Z2,Z2,Z2,Z2,Z2,Z2,Z2,Z2,Z2,Z2] rfl rfl (any_of HT_.out (by kernel_rfl)) (fun _ _ _ h => h) (Or.inl ⟨by rfl,?_⟩) ?_ ?_
         rotate_left
         ·intro w'
          go_simp
          with_reducible rfl
         rotate_left
         ·simp only [Act.put,q12,q22,q32,i64_w,i32_w]
          rfl
         refine pure_ (i:=5) (N:=some 23) (v:=?_) (a':=?_) #[Y2,Y2,Y2,Y2,Y2,Y2,Z2,Z2,Z2,Z2,Z2,Z2,Z2,Z2,Z2,Z2,Z2,Z2,Z2,Z2,Z2,Z2,Z2,Z2,Z2,Z2,Z2,Z2,Z2,Z2,Z2,Z2,Z2,Z2,Z2,Z2,Z2,Z2] rfl rfl (any_of HT_.out (by kernel_rfl)) (fun _ _ _ h => h) (Or.inl ⟨by rfl,?_⟩) ?_ ?_
         rotate_left
         ·intro w'
          go_simp
          with_reducible rfl
         rotate_left
         ·simp only [Act.put,q12,q22,q32,i64_w,i32_w]
          rfl
         refine pure_ (i:=6) (N:=some 24) (v:=?_) (a':=?_) #[Y2,Y2,Y2,Y2,Y2,Y2,Y2,Z2,Z2,Z2,Z2,Z2,Z2,Z2,Z2,Z2,Z2,Z2,Z2,Z2,Z2,Z2,Z2,Z2,Z2,Z2,Z2,Z2,Z2,Z2,Z2,Z2,Z2,Z2,Z2,Z2,Z2,Z2] rfl rfl (any_of HT_.out (by kernel_rfl)) (fun _ _ _ h => h) (Or.inl ⟨by rfl,?_⟩) ?_ ?_
         rotate_left
         ·intro w'
          go_simp
          with_reducible rfl
         rotate_left
         ·simp only [Act.put,q12,q22,q32,i64_w,i32_w]
          rfl
         refine pure_ (i:=7) (N:=some 25) (v:=?_) (a':=?_) #[Y2,Y2,Y2,Y2,Y2,Y2,Y2,Y2,Z2,Z2,Z2,Z2,Z2,Z2,Z2,Z2,Z2,Z2,Z2,Z2,Z2,Z2,Z2,Z2,Z2,Z2,Z2,Z2,Z2,Z2,Z2,Z2,Z2,Z2,Z2,Z2,Z2,Z2] rfl rfl (any_of HT_.out (by kernel_rfl)) (fun _ _ _ h => h) (Or.inl ⟨by rfl,?_⟩) ?_ ?_
         rotate_left
         ·intro w'
          go_simp
          with_reducible rfl
         rotate_left
         ·simp only [Act.put,q12,q22,q32,i64_w,i32_w]
          rfl
         refine pure_ (i:=8) (N:=some 26) (v:=?_) (a':=?_) #[Y2,Y2,Y2,Y2,Y2,Y2,Y2,Y2,Y2,Z2,Z2,Z2,Z2,Z2,Z2,Z2,Z2,Z2,Z2,Z2,Z2,Z2,Z2,Z2,Z2,Z2,Z2,Z2,Z2,Z2,Z2,Z2,Z2,Z2,Z2,Z2,Z2,Z2] rfl rfl (any_of HT_.out (by kernel_rfl)) (fun _ _ _ h => h) (Or.inl ⟨by rfl,?_⟩) ?_ ?_
         rotate_left
         ·intro w'
          go_simp
          with_reducible rfl
         rotate_left
         ·simp only [Act.put,q12,q22,q32,i64_w,i32_w]
          rfl
         refine pure_ (i:=9) (N:=some 27) (v:=undef) (a':=?_) #[Y2,Y2,Y2,Y2,Y2,Y2,Y2,Y2,Y2,Y2,Z2,Z2,Z2,Z2,Z2,Z2,Z2,Z2,Z2,Z2,Z2,Z2,Z2,Z2,Z2,Z2,Z2,Z2,Z2,Z2,Z2,Z2,Z2,Z2,Z2,Z2,Z2,Z2] rfl rfl (any_of HT_.out (by kernel_rfl)) (fun _ _ _ h => h) (Or.inr ⟨by rfl,rfl⟩) ?_ ?_
         rotate_left
         ·simp only [Act.put,q12,q22,q32,i64_w,i32_w]
          rfl
         refine pure_ (i:=10) (N:=some 28) (v:=undef) (a':=?_) #[Y2,Y2,Y2,Y2,Y2,Y2,Y2,Y2,Y2,Y2,Y2,Z2,Z2,Z2,Z2,Z2,Z2,Z2,Z2,Z2,Z2,Z2,Z2,Z2,Z2,Z2,Z2,Z2,Z2,Z2,Z2,Z2,Z2,Z2,Z2,Z2,Z2,Z2] rfl rfl (any_of HT_.out (by kernel_rfl)) (fun _ _ _ h => h) (Or.inr ⟨by rfl,rfl⟩) ?_ ?_
         rotate_left
         ·simp only [Act.put,q12,q22,q32,i64_w,i32_w]
          rfl
         refine pure_ (i:=11) (N:=some 29) (v:=undef) (a':=?_) #[Y2,Y2,Y2,Y2,Y2,Y2,Y2,Y2,Y2,Y2,Y2,Y2,Z2,Z2,Z2,Z2,Z2,Z2,Z2,Z2,Z2,Z2,Z2,Z2,Z2,Z2,Z2,Z2,Z2,Z2,Z2,Z2,Z2,Z2,Z2,Z2,Z2,Z2] rfl rfl (any_of HT_.out (by kernel_rfl)) (fun _ _ _ h => h) (Or.inr ⟨by rfl,rfl⟩) ?_ ?_
         rotate_left
         ·simp only [Act.put,q12,q22,q32,i64_w,i32_w]
          rfl
         refine pure_ (i:=12) (N:=some 30) (v:=undef) (a':=?_) #[Y2,Y2,Y2,Y2,Y2,Y2,Y2,Y2,Y2,Y2,Y2,Y2,Y2,Z2,Z2,Z2,Z2,Z2,Z2,Z2,Z2,Z2,Z2,Z2,Z2,Z2,Z2,Z2,Z2,Z2,Z2,Z2,Z2,Z2,Z2,Z2,Z2,Z2] rfl rfl (any_of HT_.out (by kernel_rfl)) (fun _ _ _ h => h) (Or.inr ⟨by rfl,rfl⟩) ?_ ?_
         rotate_left
         ·simp only [Act.put,q12,q22,q32,i64_w,i32_w]
          rfl
         refine pure_ (i:=13) (N:=some 31) (v:=undef) (a':=?_) #[Y2,Y2,Y2,Y2,Y2,Y2,Y2,Y2,Y2,Y2,Y2,Y2,Y2,Y2,Z2,Z2,Z2,Z2,Z2,Z2,Z2,Z2,Z2,Z2,Z2,Z2,Z2,Z2,Z2,Z2,Z2,Z2,Z2,Z2,Z2,Z2,Z2,Z2] rfl rfl (any_of HT_.out (by kernel_rfl)) (fun _ _ _ h => h) (Or.inr ⟨by rfl,rfl⟩) ?_ ?_
         rotate_left
         ·simp only [Act.put,q12,q22,q32,i64_w,i32_w]
          rfl
         refine pure_ (i:=14) (N:=some 32) (v:=undef) (a':=?_) #[Y2,Y2,Y2,Y2,Y2,Y2,Y2,Y2,Y2,Y2,Y2,Y2,Y2,Y2,Y2,Z2,Z2,Z2,Z2,Z2,Z2,Z2,Z2,Z2,Z2,Z2,Z2,Z2,Z2,Z2,Z2,Z2,Z2,Z2,Z2,Z2,Z2,Z2] rfl rfl (any_of HT_.out (by kernel_rfl)) (fun _ _ _ h => h) (Or.inr ⟨by rfl,rfl⟩) ?_ ?_
         rotate_left
         ·simp only [Act.put,q12,q22,q32,i64_w,i32_w]
          rfl
         refine pure_ (i:=15) (N:=some 33) (v:=undef) (a':=?_) #[Y2,Y2,Y2,Y2,Y2,Y2,Y2,Y2,Y2,Y2,Y2,Y2,Y2,Y2,Y2,Y2,Z2,Z2,Z2,Z2,Z2,Z2,Z2,Z2,Z2,Z2,Z2,Z2,Z2,Z2,Z2,Z2,Z2,Z2,Z2,Z2,Z2,Z2] rfl rfl (any_of HT_.out (by kernel_rfl)) (fun _ _ _ h => h) (Or.inr ⟨by rfl,rfl⟩) ?_ ?_
         rotate_left
         ·simp only [Act.put,q12,q22,q32,i64_w,i32_w]
          rfl
         refine pure_ (i:=16) (N:=some 34) (v:=undef) (a':=?_) #[Y2,Y2,Y2,Y2,Y2,Y2,Y2,Y2,Y2,Y2,Y2,Y2,Y2,Y2,Y2,Y2,Y2,Z2,Z2,Z2,Z2,Z2,Z2,Z2,Z2,Z2,Z2,Z2,Z2,Z2,Z2,Z2,Z2,Z2,Z2,Z2,Z2,Z2] rfl rfl (any_of HT_.out (by kernel_rfl)) (fun _ _ _ h => h) (Or.inr ⟨by rfl,rfl⟩) ?_ ?_
         rotate_left
         ·simp only [Act.put,q12,q22,q32,i64_w,i32_w]
          rfl
         refine pure_ (i:=17) (N:=some 35) (v:=undef) (a':=?_) #[Y2,Y2,Y2,Y2,Y2,Y2,Y2,Y2,Y2,Y2,Y2,Y2,Y2,Y2,Y2,Y2,Y2,Y2,Z2,Z2,Z2,Z2,Z2,Z2,Z2,Z2,Z2,Z2,Z2,Z2,Z2,Z2,Z2,Z2,Z2,Z2,Z2,Z2] rfl rfl (any_of HT_.out (by kernel_rfl)) (fun _ _ _ h => h) (Or.inr ⟨by rfl,rfl⟩) ?_ ?_
         rotate_left
         ·simp only [Act.put,q12,q22,q32,i64_w,i32_w]
          rfl
         refine pure_ (i:=18) (N:=some 36) (v:=?_) (a':=?_) #[Y2,Y2,Y2,Y2,Y2,Y2,Y2,Y2,Y2,Y2,Y2,Y2,Y2,Y2,Y2,Y2,Y2,Y2,Y2,Z2,Z2,Z2,Z2,Z2,Z2,Z2,Z2,Z2,Z2,Z2,Z2,Z2,Z2,Z2,Z2,Z2,Z2,Z2] rfl rfl (any_of HT_.out (by kernel_rfl)) (fun _ _ _ h => h) (Or.inl ⟨by rfl,?_⟩) ?_ ?_
         rotate_left
         ·intro w'
          go_simp
          with_reducible rfl
         rotate_left
         ·simp only [Act.put,q12,q22,q32,i64_w,i32_w]
          rfl
         refine pure_ (i:=19) (N:=some 37) (v:=?_) (a':=?_) #[Y2,Y2,Y2,Y2,Y2,Y2,Y2,Y2,Y2,Y2,Y2,Y2,Y2,Y2,Y2,Y2,Y2,Y2,Y2,Y2,Z2,Z2,Z2,Z2,Z2,Z2,Z2,Z2,Z2,Z2,Z2,Z2,Z2,Z2,Z2,Z2,Z2,Z2] rfl rfl (any_of HT_.out (by kernel_rfl)) (fun _ _ _ h => h) (Or.inl ⟨by rfl,?_⟩) ?_ ?_
         rotate_left
         ·intro w'
          go_simp
          with_reducible rfl
         rotate_left
         ·simp only [Act.put,q12,q22,q32,i64_w,i32_w]
          rfl
         refine pure_ (i:=20) (N:=some 38) (v:=?_) (a':=?_) #[Y2,Y2,Y2,Y2,Y2,Y2,Y2,Y2,Y2,Y2,Y2,Y2,Y2,Y2,Y2,Y2,Y2,Y2,Y2,Y2,Y2,Z2,Z2,Z2,Z2,Z2,Z2,Z2,Z2,Z2,Z2,Z2,Z2,Z2,Z2,Z2,Z2,Z2] rfl rfl (any_of HT_.out (by kernel_rfl)) (fun _ _ _ h => h) (Or.inl ⟨by rfl,?_⟩) ?_ ?_
         rotate_left
         ·intro w'
          go_simp
          with_reducible rfl
         rotate_left
         ·simp only [Act.put,q12,q22,q32,i64_w,i32_w]
          rfl
         refine pure_ (i:=21) (N:=some 39) (v:=?_) (a':=?_) #[Y2,Y2,Y2,Y2,Y2,Y2,Y2,Y2,Y2,Y2,Y2,Y2,Y2,Y2,Y2,Y2,Y2,Y2,Y2,Y2,Y2,Y2,Z2,Z2,Z2,Z2,Z2,Z2,Z2,Z2,Z2,Z2,Z2,Z2,Z2,Z2,Z2,Z2] rfl rfl (any_of HT_.out (by kernel_rfl)) (fun _ _ _ h => h) (Or.inl ⟨by rfl,?_⟩) ?_ ?_
         rotate_left
         ·intro w'
          go_simp
          with_reducible rfl
         rotate_left
         ·simp only [Act.put,q12,q22,q32,i64_w,i32_w]
          rfl
         refine take_ (i:=22) (N:=some 40) (v:=?_) (a':=?_) #[Y2,Y2,Y2,Y2,Y2,Y2,Y2,Y2,Y2,Y2,Y2,Y2,Y2,Y2,Y2,Y2,Y2,Y2,Y2,Y2,Y2,Y2,Y2,Z2,Z2,Z2,Z2,Z2,Z2,Z2,Z2,Z2,Z2,Z2,Z2,Z2,Z2,Z2] rfl rfl (take_ofW HT_.out HW_.out (by kernel_rfl)) (fun _ _ _ h => h) (Or.inl ⟨by rfl,?_⟩) hHeld ?_ ?_
         rotate_left
         ·rintro w' ⟨s0,s1,s2,s3⟩
          go_simp
          with_reducible rfl
         rotate_left
         ·simp only [Act.put,q12,q22,q32,i64_w,i32_w]
          rfl
         refine one_ (i:=23) (N:=some 41) #[Y2,Y2,Y2,Y2,Y2,Y2,Y2,Y2,Y2,Y2,Y2,Y2,Y2,Y2,Y2,Y2,Y2,Y2,Y2,Y2,Y2,Y2,Y2,Y2,Z2,Z2,Z2,Z2,Z2,Z2,Z2,Z2,Z2,Z2,Z2,Z2,Z2,Z2] rfl rfl (one_of HT_.out (by kernel_rfl)) (by decide) (fun K hK => ?_)
         refine goes_ Try.func43 (by kernel_rfl) rfl #[.int .i64 ((rd_T74 l0 x3_1).f1),.int .i64 0,.int .i64 99] (by rfl) rfl rfl (by (try simp only [List.map_toArray,List.map_cons,List.map_nil]);first | done | rfl | (simp only [List.length_drop,List.length_take];rfl)) ?_
         with_reducible refine (spec_l01In.calls ((rd_T74 l0 x3_1).f1) 0 99 false _ A38.out).mono ?_
         rintro e w' ⟨rfl,⟨nd,rfl⟩⟩
         refine ⟨_,rfl,?_⟩
         refine hK.out _ _ ⟨(blk_cell BK122.out 0).trans rfl,(blk_cell BK122.out 1).trans rfl,(blk_cell BK122.out 2).trans rfl,(blk_cell BK122.out 3).trans rfl⟩ (fun hHeld => ?_)
         clear hK K
         refine norm_ (a':=?_) ?_ ?_
         rotate_left
         ·show Act.put _ (some 41) _ = _
          simp only [Act.put,q12,q22,q32,i64_w,i32_w]
          rfl
         refine pure_ (i:=24) (N:=some 42) (v:=?_) (a':=?_) #[Y2,Y2,Y2,Y2,Y2,Y2,Y2,Y2,Y2,Y2,Y2,Y2,Y2,Y2,Y2,Y2,Y2,Y2,Y2,Y2,Y2,Y2,Y2,Y2,Y2,Z2,Z2,Z2,Z2,Z2,Z2,Z2,Z2,Z2,Z2,Z2,Z2,Z2] rfl rfl (any_of HT_.out (by kernel_rfl)) (fun _ _ _ h => h) (Or.inl ⟨by rfl,?_⟩) ?_ ?_
         rotate_left
         ·intro w'
          go_simp
          with_reducible rfl
         rotate_left
         ·simp only [Act.put,q12,q22,q32,i64_w,i32_w]
          rfl
         refine pure_ (i:=25) (N:=some 43) (v:=?_) (a':=?_) #[Y2,Y2,Y2,Y2,Y2,Y2,Y2,Y2,Y2,Y2,Y2,Y2,Y2,Y2,Y2,Y2,Y2,Y2,Y2,Y2,Y2,Y2,Y2,Y2,Y2,Y2,Z2,Z2,Z2,Z2,Z2,Z2,Z2,Z2,Z2,Z2,Z2,Z2] rfl rfl (any_of HT_.out (by kernel_rfl)) (fun _ _ _ h => h) (Or.inl ⟨by rfl,?_⟩) ?_ ?_
         rotate_left
         ·intro w'
          go_simp
          with_reducible rfl
         rotate_left
         ·simp only [Act.put,q12,q22,q32,i64_w,i32_w]
          rfl
         refine pure_ (i:=26) (N:=some 44) (v:=?_) (a':=?_) #[Y2,Y2,Y2,Y2,Y2,Y2,Y2,Y2,Y2,Y2,Y2,Y2,Y2,Y2,Y2,Y2,Y2,Y2,Y2,Y2,Y2,Y2,Y2,Y2,Y2,Y2,Y2,Z2,Z2,Z2,Z2,Z2,Z2,Z2,Z2,Z2,Z2,Z2] rfl rfl (any_of HT_.out (by kernel_rfl)) (fun _ _ _ h => h) (Or.inl ⟨by rfl,?_⟩) ?_ ?_
         rotate_left
         ·intro w'
          go_simp
          with_reducible rfl
         rotate_left
         ·simp only [Act.put,q12,q22,q32,i64_w,i32_w]
          rfl
         refine pure_ (i:=27) (N:=some 45) (v:=undef) (a':=?_) #[Y2,Y2,Y2,Y2,Y2,Y2,Y2,Y2,Y2,Y2,Y2,Y2,Y2,Y2,Y2,Y2,Y2,Y2,Y2,Y2,Y2,Y2,Y2,Y2,Y2,Y2,Y2,Y2,Z2,Z2,Z2,Z2,Z2,Z2,Z2,Z2,Z2,Z2] rfl rfl (any_of HT_.out (by kernel_rfl)) (fun _ _ _ h => h) (Or.inr ⟨by rfl,rfl⟩) ?_ ?_
         rotate_left
         ·simp only [Act.put,q12,q22,q32,i64_w,i32_w]
          rfl
         refine pure_ (i:=28) (N:=some 46) (v:=undef) (a':=?_) #[Y2,Y2,Y2,Y2,Y2,Y2,Y2,Y2,Y2,Y2,Y2,Y2,Y2,Y2,Y2,Y2,Y2,Y2,Y2,Y2,Y2,Y2,Y2,Y2,Y2,Y2,Y2,Y2,Y2,Z2,Z2,Z2,Z2,Z2,Z2,Z2,Z2,Z2] rfl rfl (any_of HT_.out (by kernel_rfl)) (fun _ _ _ h => h) (Or.inr ⟨by rfl,rfl⟩) ?_ ?_
         rotate_left
         ·simp only [Act.put,q12,q22,q32,i64_w,i32_w]
          rfl
         refine pure_ (i:=29) (N:=some 47) (v:=undef) (a':=?_) #[Y2,Y2,Y2,Y2,Y2,Y2,Y2,Y2,Y2,Y2,Y2,Y2,Y2,Y2,Y2,Y2,Y2,Y2,Y2,Y2,Y2,Y2,Y2,Y2,Y2,Y2,Y2,Y2,Y2,Y2,Z2,Z2,Z2,Z2,Z2,Z2,Z2,Z2] rfl rfl (any_of HT_.out (by kernel_rfl)) (fun _ _ _ h => h) (Or.inr ⟨by rfl,rfl⟩) ?_ ?_
         rotate_left
         ·simp only [Act.put,q12,q22,q32,i64_w,i32_w]
          rfl
         refine pure_ (i:=30) (N:=some 48) (v:=undef) (a':=?_) #[Y2,Y2,Y2,Y2,Y2,Y2,Y2,Y2,Y2,Y2,Y2,Y2,Y2,Y2,Y2,Y2,Y2,Y2,Y2,Y2,Y2,Y2,Y2,Y2,Y2,Y2,Y2,Y2,Y2,Y2,Y2,Z2,Z2,Z2,Z2,Z2,Z2,Z2] rfl rfl (any_of HT_.out (by kernel_rfl)) (fun _ _ _ h => h) (Or.inr ⟨by rfl,rfl⟩) ?_ ?_
         rotate_left
         ·simp only [Act.put,q12,q22,q32,i64_w,i32_w]
          rfl
         refine pure_ (i:=31) (N:=some 49) (v:=?_) (a':=?_) #[Y2,Y2,Y2,Y2,Y2,Y2,Y2,Y2,Y2,Y2,Y2,Y2,Y2,Y2,Y2,Y2,Y2,Y2,Y2,Y2,Y2,Y2,Y2,Y2,Y2,Y2,Y2,Y2,Y2,Y2,Y2,Y2,Z2,Z2,Z2,Z2,Z2,Z2] rfl rfl (any_of HT_.out (by kernel_rfl)) (fun _ _ _ h => h) (Or.inl ⟨by rfl,?_⟩) ?_ ?_
         rotate_left
         ·intro w'
          go_simp
          with_reducible rfl
         rotate_left
         ·simp only [Act.put,q12,q22,q32,i64_w,i32_w]
          rfl
         refine pure_ (i:=32) (N:=some 50) (v:=?_) (a':=?_) #[Y2,Y2,Y2,Y2,Y2,Y2,Y2,Y2,Y2,Y2,Y2,Y2,Y2,Y2,Y2,Y2,Y2,Y2,Y2,Y2,Y2,Y2,Y2,Y2,Y2,Y2,Y2,Y2,Y2,Y2,Y2,Y2,Y2,Z2,Z2,Z2,Z2,Z2] rfl rfl (any_of HT_.out (by kernel_rfl)) (fun _ _ _ h => h) (Or.inl ⟨by rfl,?_⟩) ?_ ?_
         rotate_left
         ·intro w'
          go_simp
          with_reducible rfl
         rotate_left
         ·simp only [Act.put,q12,q22,q32,i64_w,i32_w]
          rfl
         refine pure_ (i:=33) (N:=some 51) (v:=undef) (a':=?_) #[Y2,Y2,Y2,Y2,Y2,Y2,Y2,Y2,Y2,Y2,Y2,Y2,Y2,Y2,Y2,Y2,Y2,Y2,Y2,Y2,Y2,Y2,Y2,Y2,Y2,Y2,Y2,Y2,Y2,Y2,Y2,Y2,Y2,Y2,Z2,Z2,Z2,Z2] rfl rfl (any_of HT_.out (by kernel_rfl)) (fun _ _ _ h => h) (Or.inr ⟨by rfl,rfl⟩) ?_ ?_
         rotate_left
         ·simp only [Act.put,q12,q22,q32,i64_w,i32_w]
          rfl
         refine pure_ (i:=34) (N:=some 52) (v:=undef) (a':=?_) #[Y2,Y2,Y2,Y2,Y2,Y2,Y2,Y2,Y2,Y2,Y2,Y2,Y2,Y2,Y2,Y2,Y2,Y2,Y2,Y2,Y2,Y2,Y2,Y2,Y2,Y2,Y2,Y2,Y2,Y2,Y2,Y2,Y2,Y2,Y2,Z2,Z2,Z2] rfl rfl (any_of HT_.out (by kernel_rfl)) (fun _ _ _ h => h) (Or.inr ⟨by rfl,rfl⟩) ?_ ?_
         rotate_left
         ·simp only [Act.put,q12,q22,q32,i64_w,i32_w]
          rfl
         refine pure_ (i:=35) (N:=some 53) (v:=undef) (a':=?_) #[Y2,Y2,Y2,Y2,Y2,Y2,Y2,Y2,Y2,Y2,Y2,Y2,Y2,Y2,Y2,Y2,Y2,Y2,Y2,Y2,Y2,Y2,Y2,Y2,Y2,Y2,Y2,Y2,Y2,Y2,Y2,Y2,Y2,Y2,Y2,Y2,Z2,Z2] rfl rfl (any_of HT_.out (by kernel_rfl)) (fun _ _ _ h => h) (Or.inr ⟨by rfl,rfl⟩) ?_ ?_
         rotate_left
         ·simp only [Act.put,q12,q22,q32,i64_w,i32_w]
          rfl
         refine pure_ (i:=36) (N:=some 54) (v:=undef) (a':=?_) #[Y2,Y2,Y2,Y2,Y2,Y2,Y2,Y2,Y2,Y2,Y2,Y2,Y2,Y2,Y2,Y2,Y2,Y2,Y2,Y2,Y2,Y2,Y2,Y2,Y2,Y2,Y2,Y2,Y2,Y2,Y2,Y2,Y2,Y2,Y2,Y2,Y2,Z2] rfl rfl (any_of HT_.out (by kernel_rfl)) (fun _ _ _ h => h) (Or.inr ⟨by rfl,rfl⟩) ?_ ?_
         rotate_left
         ·simp only [Act.put,q12,q22,q32,i64_w,i32_w]
          rfl
         refine pure_ (i:=37) (N:=some 55) (v:=?_) (a':=?_) #[Y2,Y2,Y2,Y2,Y2,Y2,Y2,Y2,Y2,Y2,Y2,Y2,Y2,Y2,Y2,Y2,Y2,Y2,Y2,Y2,Y2,Y2,Y2,Y2,Y2,Y2,Y2,Y2,Y2,Y2,Y2,Y2,Y2,Y2,Y2,Y2,Y2,Y2] rfl rfl (any_of HT_.out (by kernel_rfl)) (fun _ _ _ h => h) (Or.inl ⟨by rfl,?_⟩) ?_ ?_
         rotate_left
         ·intro w'
          go_simp
          with_reducible rfl
         rotate_left
         ·simp only [Act.put,q12,q22,q32,i64_w,i32_w]
          rfl
         refine done_ (done_of HT_.out (by kernel_rfl)) ?_
         try go_wp2
         go_ret
         exact ⟨by first | rfl | (simp [errW_none,errW_some] <;> rfl) | (simp [*,errW_none,errW_some] <;> rfl),by repeat (first | (with_reducible first | exact HB.out | apply below_alloc | apply pw_below_drewN | apply below_drew1 | refine below_set ?_ GE122.out) | exact HB.out)⟩
      ·replace c6:=Bool.eq_false_iff.mpr c6
       subst c6
       have H1 : (some false) = some r:=by rw [if_neg (show ¬ (false = true) by decide)] at H;exact H
       clear H
       have H:=H1
       clear H1
       obtain rfl:=Option.some.inj H
       have p121 : 0 ≤ (x3_1 : Int):=of_decide_eq_true (by first | (with_reducible assumption) | assumption)
       have q121 : x3_1 < (l0.length : Int):=of_decide_eq_true (by first | (with_reducible assumption) | assumption)
       obtain ⟨ad121,e121,hx121_0,hx121_1,hx121_2,hx121_3⟩:=at_T74 HR0.out x3_1 p121 q121
       cases e121
       replace hx121_0:=(HB.out.cell (World.block_lt_of_cell? w _ hx121_0)).trans hx121_0
       replace hx121_1:=(HB.out.cell (World.block_lt_of_cell? w _ hx121_1)).trans hx121_1
       replace hx121_2:=(HB.out.cell (World.block_lt_of_cell? w _ hx121_2)).trans hx121_2
       replace hx121_3:=(HB.out.cell (World.block_lt_of_cell? w _ hx121_3)).trans hx121_3
       replace p121:=eq_true p121
       replace q121:=eq_true q121
       try go_wp2_with (first | ((with_reducible refine gate_dst (N:=4) rfl ?_);refine box_event ?hg (N:=4) ?hd (cs:=#[.string (⟨#[]⟩ : ByteArray),.int .i64 0,.int .i64 0,.int .i64 0]) (t:=74) ?hr ?_;(case hd => rfl);(case hg => rfl);(case hr => first | (go_simp;done) | (go_simp;rfl));intro gb122 hg w60 hbox hb;have n0_:=Aside0.mk (below_step (by repeat (first | (with_reducible first | exact HB.out | apply below_alloc | apply pw_below_drewN | apply below_drew1) | exact HB.out)) hb);have n1_:=Aside0.mk (hbox);have n2_:=Aside0.mk ((by rw [hg];exact (below_size (by repeat (first | (with_reducible first | exact HB.out | apply below_alloc | apply pw_below_drewN | apply below_drew1) | exact HB.out))) : w.heap.size ≤ gb122));have n3_:=Aside0.mk ((by rw [hg];exact (below_size (by repeat (first | (with_reducible first | exact HB.out | apply below_alloc | apply pw_below_drewN | apply below_drew1) | exact HB.out))) : w.heap.size ≤ gb122));clear HB;have HB:=n0_;have BK122:=n1_;have GW122:=n2_;have GE122:=n3_;clear n0_ n1_ n2_ n3_;clear hb hbox hg;have hcz61_0 : w60.cell? ⟨gb122,0,none⟩ = some (.string (⟨#[]⟩ : ByteArray)):=(blk_cell BK122.out 0).trans rfl;have hcz61_1 : w60.cell? ⟨gb122,1,none⟩ = some (.int .i64 0):=(blk_cell BK122.out 1).trans rfl;have hcz61_2 : w60.cell? ⟨gb122,2,none⟩ = some (.int .i64 0):=(blk_cell BK122.out 2).trans rfl;have hcz61_3 : w60.cell? ⟨gb122,3,none⟩ = some (.int .i64 0):=(blk_cell BK122.out 3).trans rfl;have hfz61_0:=blk_frozen BK122.out 0;have hfz61_1:=blk_frozen BK122.out 1;have hfz61_2:=blk_frozen BK122.out 2;have hfz61_3:=blk_frozen BK122.out 3))
       have n0_ : Aside0 (((((w60.setCell ⟨gb122,0,none⟩ (.string ((rd_T74 l0 x3_1).f0))).setCell ⟨gb122,1,none⟩ (.int .i64 ((rd_T74 l0 x3_1).f1))).setCell ⟨gb122,2,none⟩ (.int .i64 ((rd_T74 l0 x3_1).f2))).setCell ⟨gb122,3,none⟩ (.int .i64 ((rd_T74 l0 x3_1).f3))).heap[gb122]? = some (.cells #[.string ((rd_T74 l0 x3_1).f0),.int .i64 ((rd_T74 l0 x3_1).f1),.int .i64 ((rd_T74 l0 x3_1).f2),.int .i64 ((rd_T74 l0 x3_1).f3)] 74 (0,0))):=⟨by (with_reducible repeat (first | refine blk_drewN ?_ _ | refine blk_drew ?_ | refine blk_alloc ?_ _));refine blk_put (cs:=#[.string ((rd_T74 l0 x3_1).f0),.int .i64 ((rd_T74 l0 x3_1).f1),.int .i64 ((rd_T74 l0 x3_1).f2),.int .i64 0]) ?_ 3 _ rfl;(with_reducible repeat (first | refine blk_drewN ?_ _ | refine blk_drew ?_ | refine blk_alloc ?_ _));refine blk_put (cs:=#[.string ((rd_T74 l0 x3_1).f0),.int .i64 ((rd_T74 l0 x3_1).f1),.int .i64 0,.int .i64 0]) ?_ 2 _ rfl;(with_reducible repeat (first | refine blk_drewN ?_ _ | refine blk_drew ?_ | refine blk_alloc ?_ _));refine blk_put (cs:=#[.string ((rd_T74 l0 x3_1).f0),.int .i64 0,.int .i64 0,.int .i64 0]) ?_ 1 _ rfl;(with_reducible repeat (first | refine blk_drewN ?_ _ | refine blk_drew ?_ | refine blk_alloc ?_ _));refine blk_put (cs:=#[.string (⟨#[]⟩ : ByteArray),.int .i64 0,.int .i64 0,.int .i64 0]) ?_ 0 _ rfl;(with_reducible repeat (first | refine blk_drewN ?_ _ | refine blk_drew ?_ | refine blk_alloc ?_ _));exact BK122.out⟩
       have n1_ : Aside0 (Below w.heap.size w ((((w60.setCell ⟨gb122,0,none⟩ (.string ((rd_T74 l0 x3_1).f0))).setCell ⟨gb122,1,none⟩ (.int .i64 ((rd_T74 l0 x3_1).f1))).setCell ⟨gb122,2,none⟩ (.int .i64 ((rd_T74 l0 x3_1).f2))).setCell ⟨gb122,3,none⟩ (.int .i64 ((rd_T74 l0 x3_1).f3)))):=⟨by repeat (first | (with_reducible first | exact HB.out | apply below_alloc | apply pw_below_drewN | apply below_drew1 | refine below_set ?_ GE122.out) | exact HB.out)⟩
       (try clear BK122)
       (try clear HB)
       generalize ((((w60.setCell ⟨gb122,0,none⟩ (.string ((rd_T74 l0 x3_1).f0))).setCell ⟨gb122,1,none⟩ (.int .i64 ((rd_T74 l0 x3_1).f1))).setCell ⟨gb122,2,none⟩ (.int .i64 ((rd_T74 l0 x3_1).f2))).setCell ⟨gb122,3,none⟩ (.int .i64 ((rd_T74 l0 x3_1).f3))) = w62 at n0_ n1_ ⊢
       have BK122:=n0_
       have HB:=n1_
       clear n0_ n1_
       have n0_:=Aside0.mk (blk_drew BK122.out)
       have n1_:=Aside0.mk (below_drew1 HB.out)
       clear BK122
       clear HB
       have BK122:=n0_
       have HB:=n1_
       clear n0_ n1_
       refine start_ (n:=38) (S:=fun w' => w'.cell? ⟨gb122,0,none⟩ = some (.string ((rd_T74 l0 x3_1).f0)) ∧ w'.cell? ⟨gb122,1,none⟩ = some (.int .i64 ((rd_T74 l0 x3_1).f1)) ∧ w'.cell? ⟨gb122,2,none⟩ = some (.int .i64 ((rd_T74 l0 x3_1).f2)) ∧ w'.cell? ⟨gb122,3,none⟩ = some (.int .i64 ((rd_T74 l0 x3_1).f3))) (ds:=[]) #[Z2,Z2,Z2,Z2,Z2,Z2,Z2,Z2,Z2,Z2,Z2,Z2,Z2,Z2,Z2,Z2,Z2,Z2,Z2,Z2,Z2,Z2,Z2,Z2,Z2,Z2,Z2,Z2,Z2,Z2,Z2,Z2,Z2,Z2,Z2,Z2,Z2,Z2] (by kernel_rfl) rfl rfl ⟨(blk_cell BK122.out 0).trans rfl,(blk_cell BK122.out 1).trans rfl,(blk_cell BK122.out 2).trans rfl,(blk_cell BK122.out 3).trans rfl⟩ (fun hHeld => ?_);refine with_tabW spec_DirOk.tab7 spec_DirOk.bits7 (fun HT_ HW_ => ?_)
       generalize w62.drew = w63 at BK122 HB hHeld ⊢
       refine pure_ (i:=0) (N:=some 18) (v:=?_) (a':=?_) #[Y2,Z2,Z2,Z2,Z2,Z2,Z2,Z2,Z2,Z2,Z2,Z2,Z2,Z2,Z2,Z2,Z2,Z2,Z2,Z2,Z2,Z2,Z2,Z2,Z2,Z2,Z2,Z2,Z2,Z2,Z2,Z2,Z2,Z2,Z2,Z2,Z2,Z2] rfl rfl (any_of HT_.out (by kernel_rfl)) (fun _ _ _ h => h) (Or.inl ⟨by rfl,?_⟩) ?_ ?_
       rotate_left
       ·intro w'
        go_simp
        with_reducible rfl
       rotate_left
       ·simp only [Act.put,q12,q22,q32,i64_w,i32_w]
        rfl
       refine take_ (i:=1) (N:=some 19) (v:=?_) (a':=?_) #[Y2,Y2,Z2,Z2,Z2,Z2,Z2,Z2,Z2,Z2,Z2,Z2,Z2,Z2,Z2,Z2,Z2,Z2,Z2,Z2,Z2,Z2,Z2,Z2,Z2,Z2,Z2,Z2,Z2,Z2,Z2,Z2,Z2,Z2,Z2,Z2,Z2,Z2] rfl rfl (take_ofW HT_.out HW_.out (by kernel_rfl)) (fun _ _ _ h => h) (Or.inl ⟨by rfl,?_⟩) hHeld ?_ ?_
       rotate_left
       ·rintro w' ⟨s0,s1,s2,s3⟩
        go_simp
        with_reducible rfl
       rotate_left
       ·simp only [Act.put,q12,q22,q32,i64_w,i32_w]
        rfl
       refine pure_ (i:=2) (N:=some 20) (v:=?_) (a':=?_) #[Y2,Y2,Y2,Z2,Z2,Z2,Z2,Z2,Z2,Z2,Z2,Z2,Z2,Z2,Z2,Z2,Z2,Z2,Z2,Z2,Z2,Z2,Z2,Z2,Z2,Z2,Z2,Z2,Z2,Z2,Z2,Z2,Z2,Z2,Z2,Z2,Z2,Z2] rfl rfl (any_of HT_.out (by kernel_rfl)) (fun _ _ _ h => h) (Or.inl ⟨by rfl,?_⟩) ?_ ?_
       rotate_left
       ·intro w'
        go_simp
        with_reducible rfl
       rotate_left
       ·simp only [Act.put,q12,q22,q32,i64_w,i32_w]
        rfl
       refine one_ (i:=3) (N:=some 21) #[Y2,Y2,Y2,Y2,Z2,Z2,Z2,Z2,Z2,Z2,Z2,Z2,Z2,Z2,Z2,Z2,Z2,Z2,Z2,Z2,Z2,Z2,Z2,Z2,Z2,Z2,Z2,Z2,Z2,Z2,Z2,Z2,Z2,Z2,Z2,Z2,Z2,Z2] rfl rfl (one_of HT_.out (by kernel_rfl)) (by decide) (fun K hK => ?_)
       refine goes_ Try.func43 (by kernel_rfl) rfl #[.int .i64 (((rd_T74 l0 x3_1).f0).size : Int),.int .i64 1,.int .i64 20] (by rfl) rfl rfl (by (try simp only [List.map_toArray,List.map_cons,List.map_nil]);first | done | rfl | (simp only [List.length_drop,List.length_take];rfl)) ?_
       with_reducible refine (spec_l01In.calls (((rd_T74 l0 x3_1).f0).size : Int) 1 20 false _ A5.out).mono ?_
       rintro e w' ⟨rfl,⟨nd,rfl⟩⟩
       refine ⟨_,rfl,?_⟩
       refine hK.out _ _ ⟨(blk_cell BK122.out 0).trans rfl,(blk_cell BK122.out 1).trans rfl,(blk_cell BK122.out 2).trans rfl,(blk_cell BK122.out 3).trans rfl⟩ (fun hHeld => ?_)
       clear hK K
       refine norm_ (a':=?_) ?_ ?_
       rotate_left
       ·show Act.put _ (some 21) _ = _
        simp only [Act.put,q12,q22,q32,i64_w,i32_w]
        rfl
       refine pure_ (i:=4) (N:=some 22) (v:=?_) (a':=?_) #[Y2,Y2,Y2,Y2,Y2,Z2,Z2,Z2,Z2,Z2,Z2,Z2,Z2,Z2,Z2,Z2,Z2,Z2,Z2,Z2,Z2,Z2,Z2,Z2,Z2,Z2,Z2,Z2,Z2,Z2,Z2,Z2,Z2,Z2,Z2,Z2,Z2,Z2] rfl rfl (any_of HT_.out (by kernel_rfl)) (fun _ _ _ h => h) (Or.inl ⟨by rfl,?_⟩) ?_ ?_
       rotate_left
       ·intro w'
        go_simp
        with_reducible rfl
       rotate_left
       ·simp only [Act.put,q12,q22,q32,i64_w,i32_w]
        rfl
       refine pure_ (i:=5) (N:=some 23) (v:=?_) (a':=?_) #[Y2,Y2,Y2,Y2,Y2,Y2,Z2,Z2,Z2,Z2,Z2,Z2,Z2,Z2,Z2,Z2,Z2,Z2,Z2,Z2,Z2,Z2,Z2,Z2,Z2,Z2,Z2,Z2,Z2,Z2,Z2,Z2,Z2,Z2,Z2,Z2,Z2,Z2] rfl rfl (any_of HT_.out (by kernel_rfl)) (fun _ _ _ h => h) (Or.inl ⟨by rfl,?_⟩) ?_ ?_
       rotate_left
       ·intro w'
        go_simp
        with_reducible rfl
       rotate_left
       ·simp only [Act.put,q12,q22,q32,i64_w,i32_w]
        rfl
       refine pure_ (i:=6) (N:=some 24) (v:=undef) (a':=?_) #[Y2,Y2,Y2,Y2,Y2,Y2,Y2,Z2,Z2,Z2,Z2,Z2,Z2,Z2,Z2,Z2,Z2,Z2,Z2,Z2,Z2,Z2,Z2,Z2,Z2,Z2,Z2,Z2,Z2,Z2,Z2,Z2,Z2,Z2,Z2,Z2,Z2,Z2] rfl rfl (any_of HT_.out (by kernel_rfl)) (fun _ _ _ h => h) (Or.inr ⟨by rfl,rfl⟩) ?_ ?_
       rotate_left
       ·simp only [Act.put,q12,q22,q32,i64_w,i32_w]
        rfl
       refine pure_ (i:=7) (N:=some 25) (v:=undef) (a':=?_) #[Y2,Y2,Y2,Y2,Y2,Y2,Y2,Y2,Z2,Z2,Z2,Z2,Z2,Z2,Z2,Z2,Z2,Z2,Z2,Z2,Z2,Z2,Z2,Z2,Z2,Z2,Z2,Z2,Z2,Z2,Z2,Z2,Z2,Z2,Z2,Z2,Z2,Z2] rfl rfl (any_of HT_.out (by kernel_rfl)) (fun _ _ _ h => h) (Or.inr ⟨by rfl,rfl⟩) ?_ ?_
       rotate_left
       ·simp only [Act.put,q12,q22,q32,i64_w,i32_w]
        rfl
       refine pure_ (i:=8) (N:=some 26) (v:=undef) (a':=?_) #[Y2,Y2,Y2,Y2,Y2,Y2,Y2,Y2,Y2,Z2,Z2,Z2,Z2,Z2,Z2,Z2,Z2,Z2,Z2,Z2,Z2,Z2,Z2,Z2,Z2,Z2,Z2,Z2,Z2,Z2,Z2,Z2,Z2,Z2,Z2,Z2,Z2,Z2] rfl rfl (any_of HT_.out (by kernel_rfl)) (fun _ _ _ h => h) (Or.inr ⟨by rfl,rfl⟩) ?_ ?_
       rotate_left
       ·simp only [Act.put,q12,q22,q32,i64_w,i32_w]
        rfl
       refine pure_ (i:=9) (N:=some 27) (v:=undef) (a':=?_) #[Y2,Y2,Y2,Y2,Y2,Y2,Y2,Y2,Y2,Y2,Z2,Z2,Z2,Z2,Z2,Z2,Z2,Z2,Z2,Z2,Z2,Z2,Z2,Z2,Z2,Z2,Z2,Z2,Z2,Z2,Z2,Z2,Z2,Z2,Z2,Z2,Z2,Z2] rfl rfl (any_of HT_.out (by kernel_rfl)) (fun _ _ _ h => h) (Or.inr ⟨by rfl,rfl⟩) ?_ ?_
       rotate_left
       ·simp only [Act.put,q12,q22,q32,i64_w,i32_w]
        rfl
       refine pure_ (i:=10) (N:=some 28) (v:=undef) (a':=?_) #[Y2,Y2,Y2,Y2,Y2,Y2,Y2,Y2,Y2,Y2,Y2,Z2,Z2,Z2,Z2,Z2,Z2,Z2,Z2,Z2,Z2,Z2,Z2,Z2,Z2,Z2,Z2,Z2,Z2,Z2,Z2,Z2,Z2,Z2,Z2,Z2,Z2,Z2] rfl rfl (any_of HT_.out (by kernel_rfl)) (fun _ _ _ h => h) (Or.inr ⟨by rfl,rfl⟩) ?_ ?_
       rotate_left
       ·simp only [Act.put,q12,q22,q32,i64_w,i32_w]
        rfl
       refine pure_ (i:=11) (N:=some 29) (v:=undef) (a':=?_) #[Y2,Y2,Y2,Y2,Y2,Y2,Y2,Y2,Y2,Y2,Y2,Y2,Z2,Z2,Z2,Z2,Z2,Z2,Z2,Z2,Z2,Z2,Z2,Z2,Z2,Z2,Z2,Z2,Z2,Z2,Z2,Z2,Z2,Z2,Z2,Z2,Z2,Z2] rfl rfl (any_of HT_.out (by kernel_rfl)) (fun _ _ _ h => h) (Or.inr ⟨by rfl,rfl⟩) ?_ ?_
       rotate_left
       ·simp only [Act.put,q12,q22,q32,i64_w,i32_w]
        rfl
       refine pure_ (i:=12) (N:=some 30) (v:=undef) (a':=?_) #[Y2,Y2,Y2,Y2,Y2,Y2,Y2,Y2,Y2,Y2,Y2,Y2,Y2,Z2,Z2,Z2,Z2,Z2,Z2,Z2,Z2,Z2,Z2,Z2,Z2,Z2,Z2,Z2,Z2,Z2,Z2,Z2,Z2,Z2,Z2,Z2,Z2,Z2] rfl rfl (any_of HT_.out (by kernel_rfl)) (fun _ _ _ h => h) (Or.inr ⟨by rfl,rfl⟩) ?_ ?_
       rotate_left
       ·simp only [Act.put,q12,q22,q32,i64_w,i32_w]
        rfl
       refine pure_ (i:=13) (N:=some 31) (v:=undef) (a':=?_) #[Y2,Y2,Y2,Y2,Y2,Y2,Y2,Y2,Y2,Y2,Y2,Y2,Y2,Y2,Z2,Z2,Z2,Z2,Z2,Z2,Z2,Z2,Z2,Z2,Z2,Z2,Z2,Z2,Z2,Z2,Z2,Z2,Z2,Z2,Z2,Z2,Z2,Z2] rfl rfl (any_of HT_.out (by kernel_rfl)) (fun _ _ _ h => h) (Or.inr ⟨by rfl,rfl⟩) ?_ ?_
       rotate_left
       ·simp only [Act.put,q12,q22,q32,i64_w,i32_w]
        rfl
       refine pure_ (i:=14) (N:=some 32) (v:=undef) (a':=?_) #[Y2,Y2,Y2,Y2,Y2,Y2,Y2,Y2,Y2,Y2,Y2,Y2,Y2,Y2,Y2,Z2,Z2,Z2,Z2,Z2,Z2,Z2,Z2,Z2,Z2,Z2,Z2,Z2,Z2,Z2,Z2,Z2,Z2,Z2,Z2,Z2,Z2,Z2] rfl rfl (any_of HT_.out (by kernel_rfl)) (fun _ _ _ h => h) (Or.inr ⟨by rfl,rfl⟩) ?_ ?_
       rotate_left
       ·simp only [Act.put,q12,q22,q32,i64_w,i32_w]
        rfl
       refine pure_ (i:=15) (N:=some 33) (v:=undef) (a':=?_) #[Y2,Y2,Y2,Y2,Y2,Y2,Y2,Y2,Y2,Y2,Y2,Y2,Y2,Y2,Y2,Y2,Z2,Z2,Z2,Z2,Z2,Z2,Z2,Z2,Z2,Z2,Z2,Z2,Z2,Z2,Z2,Z2,Z2,Z2,Z2,Z2,Z2,Z2] rfl rfl (any_of HT_.out (by kernel_rfl)) (fun _ _ _ h => h) (Or.inr ⟨by rfl,rfl⟩) ?_ ?_
       rotate_left
       ·simp only [Act.put,q12,q22,q32,i64_w,i32_w]
        rfl
       refine pure_ (i:=16) (N:=some 34) (v:=undef) (a':=?_) #[Y2,Y2,Y2,Y2,Y2,Y2,Y2,Y2,Y2,Y2,Y2,Y2,Y2,Y2,Y2,Y2,Y2,Z2,Z2,Z2,Z2,Z2,Z2,Z2,Z2,Z2,Z2,Z2,Z2,Z2,Z2,Z2,Z2,Z2,Z2,Z2,Z2,Z2] rfl rfl (any_of HT_.out (by kernel_rfl)) (fun _ _ _ h => h) (Or.inr ⟨by rfl,rfl⟩) ?_ ?_
       rotate_left
       ·simp only [Act.put,q12,q22,q32,i64_w,i32_w]
        rfl
       refine pure_ (i:=17) (N:=some 35) (v:=undef) (a':=?_) #[Y2,Y2,Y2,Y2,Y2,Y2,Y2,Y2,Y2,Y2,Y2,Y2,Y2,Y2,Y2,Y2,Y2,Y2,Z2,Z2,Z2,Z2,Z2,Z2,Z2,Z2,Z2,Z2,Z2,Z2,Z2,Z2,Z2,Z2,Z2,Z2,Z2,Z2] rfl rfl (any_of HT_.out (by kernel_rfl)) (fun _ _ _ h => h) (Or.inr ⟨by rfl,rfl⟩) ?_ ?_
       rotate_left
       ·simp only [Act.put,q12,q22,q32,i64_w,i32_w]
        rfl
       refine pure_ (i:=18) (N:=some 36) (v:=undef) (a':=?_) #[Y2,Y2,Y2,Y2,Y2,Y2,Y2,Y2,Y2,Y2,Y2,Y2,Y2,Y2,Y2,Y2,Y2,Y2,Y2,Z2,Z2,Z2,Z2,Z2,Z2,Z2,Z2,Z2,Z2,Z2,Z2,Z2,Z2,Z2,Z2,Z2,Z2,Z2] rfl rfl (any_of HT_.out (by kernel_rfl)) (fun _ _ _ h => h) (Or.inr ⟨by rfl,rfl⟩) ?_ ?_
       rotate_left
       ·simp only [Act.put,q12,q22,q32,i64_w,i32_w]
        rfl
       refine pure_ (i:=19) (N:=some 37) (v:=?_) (a':=?_) #[Y2,Y2,Y2,Y2,Y2,Y2,Y2,Y2,Y2,Y2,Y2,Y2,Y2,Y2,Y2,Y2,Y2,Y2,Y2,Y2,Z2,Z2,Z2,Z2,Z2,Z2,Z2,Z2,Z2,Z2,Z2,Z2,Z2,Z2,Z2,Z2,Z2,Z2] rfl rfl (any_of HT_.out (by kernel_rfl)) (fun _ _ _ h => h) (Or.inl ⟨by rfl,?_⟩) ?_ ?_
       rotate_left
       ·intro w'
        go_simp
        with_reducible rfl
       rotate_left
       ·simp only [Act.put,q12,q22,q32,i64_w,i32_w]
        rfl
       refine pure_ (i:=20) (N:=some 38) (v:=?_) (a':=?_) #[Y2,Y2,Y2,Y2,Y2,Y2,Y2,Y2,Y2,Y2,Y2,Y2,Y2,Y2,Y2,Y2,Y2,Y2,Y2,Y2,Y2,Z2,Z2,Z2,Z2,Z2,Z2,Z2,Z2,Z2,Z2,Z2,Z2,Z2,Z2,Z2,Z2,Z2] rfl rfl (any_of HT_.out (by kernel_rfl)) (fun _ _ _ h => h) (Or.inl ⟨by rfl,?_⟩) ?_ ?_
       rotate_left
       ·intro w'
        go_simp
        with_reducible rfl
       rotate_left
       ·simp only [Act.put,q12,q22,q32,i64_w,i32_w]
        rfl
       refine pure_ (i:=21) (N:=some 39) (v:=undef) (a':=?_) #[Y2,Y2,Y2,Y2,Y2,Y2,Y2,Y2,Y2,Y2,Y2,Y2,Y2,Y2,Y2,Y2,Y2,Y2,Y2,Y2,Y2,Y2,Z2,Z2,Z2,Z2,Z2,Z2,Z2,Z2,Z2,Z2,Z2,Z2,Z2,Z2,Z2,Z2] rfl rfl (any_of HT_.out (by kernel_rfl)) (fun _ _ _ h => h) (Or.inr ⟨by rfl,rfl⟩) ?_ ?_
       rotate_left
       ·simp only [Act.put,q12,q22,q32,i64_w,i32_w]
        rfl
       refine pure_ (i:=22) (N:=some 40) (v:=undef) (a':=?_) #[Y2,Y2,Y2,Y2,Y2,Y2,Y2,Y2,Y2,Y2,Y2,Y2,Y2,Y2,Y2,Y2,Y2,Y2,Y2,Y2,Y2,Y2,Y2,Z2,Z2,Z2,Z2,Z2,Z2,Z2,Z2,Z2,Z2,Z2,Z2,Z2,Z2,Z2] rfl rfl (any_of HT_.out (by kernel_rfl)) (fun _ _ _ h => h) (Or.inr ⟨by rfl,rfl⟩) ?_ ?_
       rotate_left
       ·simp only [Act.put,q12,q22,q32,i64_w,i32_w]
        rfl
       refine pure_ (i:=23) (N:=some 41) (v:=undef) (a':=?_) #[Y2,Y2,Y2,Y2,Y2,Y2,Y2,Y2,Y2,Y2,Y2,Y2,Y2,Y2,Y2,Y2,Y2,Y2,Y2,Y2,Y2,Y2,Y2,Y2,Z2,Z2,Z2,Z2,Z2,Z2,Z2,Z2,Z2,Z2,Z2,Z2,Z2,Z2] rfl rfl (any_of HT_.out (by kernel_rfl)) (fun _ _ _ h => h) (Or.inr ⟨by rfl,rfl⟩) ?_ ?_
       rotate_left
       ·simp only [Act.put,q12,q22,q32,i64_w,i32_w]
        rfl
       refine pure_ (i:=24) (N:=some 42) (v:=undef) (a':=?_) #[Y2,Y2,Y2,Y2,Y2,Y2,Y2,Y2,Y2,Y2,Y2,Y2,Y2,Y2,Y2,Y2,Y2,Y2,Y2,Y2,Y2,Y2,Y2,Y2,Y2,Z2,Z2,Z2,Z2,Z2,Z2,Z2,Z2,Z2,Z2,Z2,Z2,Z2] rfl rfl (any_of HT_.out (by kernel_rfl)) (fun _ _ _ h => h) (Or.inr ⟨by rfl,rfl⟩) ?_ ?_
       rotate_left
       ·simp only [Act.put,q12,q22,q32,i64_w,i32_w]
        rfl
       refine pure_ (i:=25) (N:=some 43) (v:=?_) (a':=?_) #[Y2,Y2,Y2,Y2,Y2,Y2,Y2,Y2,Y2,Y2,Y2,Y2,Y2,Y2,Y2,Y2,Y2,Y2,Y2,Y2,Y2,Y2,Y2,Y2,Y2,Y2,Z2,Z2,Z2,Z2,Z2,Z2,Z2,Z2,Z2,Z2,Z2,Z2] rfl rfl (any_of HT_.out (by kernel_rfl)) (fun _ _ _ h => h) (Or.inl ⟨by rfl,?_⟩) ?_ ?_
       rotate_left
       ·intro w'
        go_simp
        with_reducible rfl
       rotate_left
       ·simp only [Act.put,q12,q22,q32,i64_w,i32_w]
        rfl
       refine pure_ (i:=26) (N:=some 44) (v:=?_) (a':=?_) #[Y2,Y2,Y2,Y2,Y2,Y2,Y2,Y2,Y2,Y2,Y2,Y2,Y2,Y2,Y2,Y2,Y2,Y2,Y2,Y2,Y2,Y2,Y2,Y2,Y2,Y2,Y2,Z2,Z2,Z2,Z2,Z2,Z2,Z2,Z2,Z2,Z2,Z2] rfl rfl (any_of HT_.out (by kernel_rfl)) (fun _ _ _ h => h) (Or.inl ⟨by rfl,?_⟩) ?_ ?_
       rotate_left
       ·intro w'
        go_simp
        with_reducible rfl
       rotate_left
       ·simp only [Act.put,q12,q22,q32,i64_w,i32_w]
        rfl
       refine pure_ (i:=27) (N:=some 45) (v:=undef) (a':=?_) #[Y2,Y2,Y2,Y2,Y2,Y2,Y2,Y2,Y2,Y2,Y2,Y2,Y2,Y2,Y2,Y2,Y2,Y2,Y2,Y2,Y2,Y2,Y2,Y2,Y2,Y2,Y2,Y2,Z2,Z2,Z2,Z2,Z2,Z2,Z2,Z2,Z2,Z2] rfl rfl (any_of HT_.out (by kernel_rfl)) (fun _ _ _ h => h) (Or.inr ⟨by rfl,rfl⟩) ?_ ?_
       rotate_left
       ·simp only [Act.put,q12,q22,q32,i64_w,i32_w]
        rfl
       refine pure_ (i:=28) (N:=some 46) (v:=undef) (a':=?_) #[Y2,Y2,Y2,Y2,Y2,Y2,Y2,Y2,Y2,Y2,Y2,Y2,Y2,Y2,Y2,Y2,Y2,Y2,Y2,Y2,Y2,Y2,Y2,Y2,Y2,Y2,Y2,Y2,Y2,Z2,Z2,Z2,Z2,Z2,Z2,Z2,Z2,Z2] rfl rfl (any_of HT_.out (by kernel_rfl)) (fun _ _ _ h => h) (Or.inr ⟨by rfl,rfl⟩) ?_ ?_
       rotate_left
       ·simp only [Act.put,q12,q22,q32,i64_w,i32_w]
        rfl
       refine pure_ (i:=29) (N:=some 47) (v:=undef) (a':=?_) #[Y2,Y2,Y2,Y2,Y2,Y2,Y2,Y2,Y2,Y2,Y2,Y2,Y2,Y2,Y2,Y2,Y2,Y2,Y2,Y2,Y2,Y2,Y2,Y2,Y2,Y2,Y2,Y2,Y2,Y2,Z2,Z2,Z2,Z2,Z2,Z2,Z2,Z2] rfl rfl (any_of HT_.out (by kernel_rfl)) (fun _ _ _ h => h) (Or.inr ⟨by rfl,rfl⟩) ?_ ?_
       rotate_left
       ·simp only [Act.put,q12,q22,q32,i64_w,i32_w]
        rfl
       refine pure_ (i:=30) (N:=some 48) (v:=undef) (a':=?_) #[Y2,Y2,Y2,Y2,Y2,Y2,Y2,Y2,Y2,Y2,Y2,Y2,Y2,Y2,Y2,Y2,Y2,Y2,Y2,Y2,Y2,Y2,Y2,Y2,Y2,Y2,Y2,Y2,Y2,Y2,Y2,Z2,Z2,Z2,Z2,Z2,Z2,Z2] rfl rfl (any_of HT_.out (by kernel_rfl)) (fun _ _ _ h => h) (Or.inr ⟨by rfl,rfl⟩) ?_ ?_
       rotate_left
       ·simp only [Act.put,q12,q22,q32,i64_w,i32_w]
        rfl
       refine pure_ (i:=31) (N:=some 49) (v:=?_) (a':=?_) #[Y2,Y2,Y2,Y2,Y2,Y2,Y2,Y2,Y2,Y2,Y2,Y2,Y2,Y2,Y2,Y2,Y2,Y2,Y2,Y2,Y2,Y2,Y2,Y2,Y2,Y2,Y2,Y2,Y2,Y2,Y2,Y2,Z2,Z2,Z2,Z2,Z2,Z2] rfl rfl (any_of HT_.out (by kernel_rfl)) (fun _ _ _ h => h) (Or.inl ⟨by rfl,?_⟩) ?_ ?_
       rotate_left
       ·intro w'
        go_simp
        with_reducible rfl
       rotate_left
       ·simp only [Act.put,q12,q22,q32,i64_w,i32_w]
        rfl
       refine pure_ (i:=32) (N:=some 50) (v:=?_) (a':=?_) #[Y2,Y2,Y2,Y2,Y2,Y2,Y2,Y2,Y2,Y2,Y2,Y2,Y2,Y2,Y2,Y2,Y2,Y2,Y2,Y2,Y2,Y2,Y2,Y2,Y2,Y2,Y2,Y2,Y2,Y2,Y2,Y2,Y2,Z2,Z2,Z2,Z2,Z2] rfl rfl (any_of HT_.out (by kernel_rfl)) (fun _ _ _ h => h) (Or.inl ⟨by rfl,?_⟩) ?_ ?_
       rotate_left
       ·intro w'
        go_simp
        with_reducible rfl
       rotate_left
       ·simp only [Act.put,q12,q22,q32,i64_w,i32_w]
        rfl
       refine pure_ (i:=33) (N:=some 51) (v:=undef) (a':=?_) #[Y2,Y2,Y2,Y2,Y2,Y2,Y2,Y2,Y2,Y2,Y2,Y2,Y2,Y2,Y2,Y2,Y2,Y2,Y2,Y2,Y2,Y2,Y2,Y2,Y2,Y2,Y2,Y2,Y2,Y2,Y2,Y2,Y2,Y2,Z2,Z2,Z2,Z2] rfl rfl (any_of HT_.out (by kernel_rfl)) (fun _ _ _ h => h) (Or.inr ⟨by rfl,rfl⟩) ?_ ?_
       rotate_left
       ·simp only [Act.put,q12,q22,q32,i64_w,i32_w]
        rfl
       refine pure_ (i:=34) (N:=some 52) (v:=undef) (a':=?_) #[Y2,Y2,Y2,Y2,Y2,Y2,Y2,Y2,Y2,Y2,Y2,Y2,Y2,Y2,Y2,Y2,Y2,Y2,Y2,Y2,Y2,Y2,Y2,Y2,Y2,Y2,Y2,Y2,Y2,Y2,Y2,Y2,Y2,Y2,Y2,Z2,Z2,Z2] rfl rfl (any_of HT_.out (by kernel_rfl)) (fun _ _ _ h => h) (Or.inr ⟨by rfl,rfl⟩) ?_ ?_
       rotate_left
       ·simp only [Act.put,q12,q22,q32,i64_w,i32_w]
        rfl
       refine pure_ (i:=35) (N:=some 53) (v:=undef) (a':=?_) #[Y2,Y2,Y2,Y2,Y2,Y2,Y2,Y2,Y2,Y2,Y2,Y2,Y2,Y2,Y2,Y2,Y2,Y2,Y2,Y2,Y2,Y2,Y2,Y2,Y2,Y2,Y2,Y2,Y2,Y2,Y2,Y2,Y2,Y2,Y2,Y2,Z2,Z2] rfl rfl (any_of HT_.out (by kernel_rfl)) (fun _ _ _ h => h) (Or.inr ⟨by rfl,rfl⟩) ?_ ?_
       rotate_left
       ·simp only [Act.put,q12,q22,q32,i64_w,i32_w]
        rfl
       refine pure_ (i:=36) (N:=some 54) (v:=undef) (a':=?_) #[Y2,Y2,Y2,Y2,Y2,Y2,Y2,Y2,Y2,Y2,Y2,Y2,Y2,Y2,Y2,Y2,Y2,Y2,Y2,Y2,Y2,Y2,Y2,Y2,Y2,Y2,Y2,Y2,Y2,Y2,Y2,Y2,Y2,Y2,Y2,Y2,Y2,Z2] rfl rfl (any_of HT_.out (by kernel_rfl)) (fun _ _ _ h => h) (Or.inr ⟨by rfl,rfl⟩) ?_ ?_
       rotate_left
       ·simp only [Act.put,q12,q22,q32,i64_w,i32_w]
        rfl
       refine pure_ (i:=37) (N:=some 55) (v:=?_) (a':=?_) #[Y2,Y2,Y2,Y2,Y2,Y2,Y2,Y2,Y2,Y2,Y2,Y2,Y2,Y2,Y2,Y2,Y2,Y2,Y2,Y2,Y2,Y2,Y2,Y2,Y2,Y2,Y2,Y2,Y2,Y2,Y2,Y2,Y2,Y2,Y2,Y2,Y2,Y2] rfl rfl (any_of HT_.out (by kernel_rfl)) (fun _ _ _ h => h) (Or.inl ⟨by rfl,?_⟩) ?_ ?_
       rotate_left
       ·intro w'
        go_simp
        with_reducible rfl
       rotate_left
       ·simp only [Act.put,q12,q22,q32,i64_w,i32_w]
        rfl
       refine done_ (done_of HT_.out (by kernel_rfl)) ?_
       try go_wp2
       go_ret
       exact ⟨by first | rfl | (simp [errW_none,errW_some] <;> rfl) | (simp [*,errW_none,errW_some] <;> rfl),by repeat (first | (with_reducible first | exact HB.out | apply below_alloc | apply pw_below_drewN | apply below_drew1 | refine below_set ?_ GE122.out) | exact HB.out)⟩
     ·rw [if_neg c4] at H
      exact absurd H (by simp)
    ·rw [if_neg c3] at H
     have c3b0 : decide (x3_1 < (l0.length : Int)) = false:=decide_eq_false c3
     clear c3
     obtain rfl:=Option.some.inj H
     go_wp2
     go_ret
     exact ⟨by first | rfl | (simp [errW_none,errW_some] <;> rfl) | (simp [*,errW_none,errW_some] <;> rfl),by repeat (first | (with_reducible first | exact HB.out | apply below_alloc | apply pw_below_drewN | apply below_drew1) | exact HB.out)⟩

end Go.Proofs.Ytliemdoegicbhaa.PFnExactHintText
