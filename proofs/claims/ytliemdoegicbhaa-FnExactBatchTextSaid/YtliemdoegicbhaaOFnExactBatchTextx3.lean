/- Walks of functions that the law FnExactBatchText reaches, turned by this session from a print of which a part did not build; what was changed is listed in wip/patches of the proofs' repo. -/
import Derived.Test.YtliemdoegicbhaaOFnExactBatchTextx0
import Derived.Test.YtliemdoegicbhaaOFnExactBatchTextx2
namespace Go.Proofs.Ytliemdoegicbhaa.PFnExactBatchText
open Go.RowKit Go.Proofs.YtliemdoegicbhaaW.PrintWords Go.Proofs.YtliemdoegicbhaaW.PrintLast Go.Proofs.YtliemdoegicbhaaW.PrintMore
attribute [local go_sem] max2_int min2_int max_two min_two max_three min_three max_four min_four   -- for this text's walks alone
set_option linter.unusedVariables false
set_option linter.unusedSimpArgs false

theorem q13 {α : Type} (l : List α) (i : Nat) (a : α) : l.toArray.setIfInBounds i a = (l.set i a).toArray := by simp
theorem q23 {α : Type} (x y : α) (l : List α) : (x :: l).set 0 y = y :: l := List.set_cons_zero ..
theorem q33 {α : Type} (x y : α) (l : List α) (n : Nat) : (x :: l).set (n + 1) y = x :: l.set n y := List.set_cons_succ ..

abbrev Y3:Bool:=true
abbrev Z3:Bool:=false
/-! ### spec_BatchOk: function 22 -/
mutual
def spec_BatchOk.j0 : Nat → Bool → Int → List (S86) → Option (Bool)
 | 0,_,_,_ => none
 | k + 1,x15,x132000,x132001 => if x15 = true then (some false) else (spec_BatchOk.l0 k 0 x132000 x132001)
def spec_BatchOk.l0 : Nat → Int → Int → List (S86) → Option (Bool)
 | 0,_,_,_ => none
 | k + 1,x3,x132000,x132001 => if x3 < (x132001.length : Int) then (if 0 ≤ x3 then ((spec_l01In.f (((rd_T86 x132001 x3).f0).size : Int) 1 20).bind fun t136 => (if t136 = true then (if x3 > 0 then (if 0 ≤ (wrap64 (x3 - 1)) then (if (wrap64 (x3 - 1)) < (x132001.length : Int) then (if ((Op.bytesLess (((rd_T86 x132001 (wrap64 (x3 - 1))).f0).toList) (((rd_T86 x132001 x3).f0).toList)) = true) then (if (((rd_T86 x132001 x3).f1).size : Int) > 2000 then (some false) else (if (rd_T86 x132001 x3).f2 = true then (if ((rd_T86 x132001 x3).f1).toList = ([] : List UInt8) then (spec_BatchOk.l0 k (wrap64 (x3 + 1)) x132000 x132001) else (some false)) else (spec_BatchOk.l0 k (wrap64 (x3 + 1)) x132000 x132001))) else (some false)) else (none)) else (none)) else (if (((rd_T86 x132001 x3).f1).size : Int) > 2000 then (some false) else (if (rd_T86 x132001 x3).f2 = true then (if ((rd_T86 x132001 x3).f1).toList = ([] : List UInt8) then (spec_BatchOk.l0 k (wrap64 (x3 + 1)) x132000 x132001) else (some false)) else (spec_BatchOk.l0 k (wrap64 (x3 + 1)) x132000 x132001)))) else (some false))) else (none)) else (some true)
end
def spec_BatchOk.f (k : Nat) (a0_0 : Int) (l0_1 : List (S86)) : Option (Bool):=(spec_l01In.f a0_0 0 1000000000).bind fun t132 => (if t132 = true then ((spec_l01In.f (l0_1.length : Int) 1 40).bind fun t133 => (spec_BatchOk.j0 k (!t133) a0_0 l0_1)) else (spec_BatchOk.j0 k true a0_0 l0_1))
theorem spec_BatchOk.mono_l : ∀ k,(∀ y0 y1 y2,LeO (spec_BatchOk.j0 k y0 y1 y2) (spec_BatchOk.j0 (k + 1) y0 y1 y2)) ∧ (∀ y0 y1 y2,LeO (spec_BatchOk.l0 k y0 y1 y2) (spec_BatchOk.l0 (k + 1) y0 y1 y2))
 | 0 => ⟨fun _ _ _ r h => by simp [spec_BatchOk.j0] at h,fun _ _ _ r h => by simp [spec_BatchOk.l0] at h⟩
 | k + 1 => by
  obtain ⟨ih0,ih1⟩:=spec_BatchOk.mono_l k
  refine ⟨?_,?_⟩
  ·intro y0 y1 y2
   unfold spec_BatchOk.j0
   repeat' first
   | (with_reducible exact ih0 _ _ _)
   | (with_reducible exact ih1 _ _ _)
   | (with_reducible exact LeO.refl _)
   | (with_reducible exact LeO.none _)
   | (with_reducible refine LeO.ite ?_ ?_)
   | (with_reducible refine LeO.bind ?_ (fun _ => ?_))
   | exact ih0 _ _ _
   | exact ih1 _ _ _
   | exact LeO.none _
   | refine LeO.ite ?_ ?_
   | refine LeO.bind ?_ (fun _ => ?_)
  ·intro y0 y1 y2
   unfold spec_BatchOk.l0
   repeat' first
   | (with_reducible exact ih0 _ _ _)
   | (with_reducible exact ih1 _ _ _)
   | (with_reducible exact LeO.refl _)
   | (with_reducible exact LeO.none _)
   | (with_reducible refine LeO.ite ?_ ?_)
   | (with_reducible refine LeO.bind ?_ (fun _ => ?_))
   | exact ih0 _ _ _
   | exact ih1 _ _ _
   | exact LeO.none _
   | refine LeO.ite ?_ ?_
   | refine LeO.bind ?_ (fun _ => ?_)
theorem spec_BatchOk.mono : ∀ a0 a1 k,LeO (spec_BatchOk.f k a0 a1) (spec_BatchOk.f (k + 1) a0 a1):=by
 intro a0 a1 k
 obtain ⟨ih0,ih1⟩:=spec_BatchOk.mono_l k
 unfold spec_BatchOk.f
 repeat' first
   | (with_reducible exact ih0 _ _ _)
   | (with_reducible exact ih1 _ _ _)
   | (with_reducible exact LeO.refl _)
   | (with_reducible exact LeO.none _)
   | (with_reducible refine LeO.ite ?_ ?_)
   | (with_reducible refine LeO.bind ?_ (fun _ => ?_))
   | exact ih0 _ _ _
   | exact ih1 _ _ _
   | exact LeO.none _
   | refine LeO.ite ?_ ?_
   | refine LeO.bind ?_ (fun _ => ?_)
def spec_BatchOk.T7 : Bool × List (List Nat × List Nat):=(true,[([],[]),([0],[0]),([1],[1]),([2],[2]),([3],[3]),([4,3],[4]),([5],[5]),([6,5],[5,6]),([7,5,5],[5,7]),([8],[8]),([9,8],[8,9]),([8],[8]),([11,8],[8,11]),([10,12,8],[8,10,12]),([13,8],[8,13]),([14,8],[8,14]),([8],[8]),([16,8],[8,16]),([15,17,8],[8,15,17]),([8,18,5],[5,8,18]),([5,19],[5,19]),([20,8],[20]),([21],[21]),([22,21],[21,22]),([23,21],[21,23]),([24,21],[21,24]),([21,25],[21,25]),([26,21],[26]),([27],[27]),([28,27],[27,28]),([29,27,27],[27,29]),([30],[30]),([31,30],[30,31]),([32,30],[30,32]),([30,33,27],[27,30,33]),([27,34],[27,34])])
def spec_BatchOk.B7 : List Nat:=[0,1,3,7,15,31,63,127,255,511,1023,511,2559,8191,16383,32767,511,66047,262143,524287,1048575,2097151,4194303,8388607,16777215,33554431,67108863,134217727,268435455,536870911,1073741823,2147483647,4294967295,8589934591,17179869183,34359738367]
theorem spec_BatchOk.tab7 : rtab .any (opsOf Try.f22 7) = spec_BatchOk.T7:=by kernel_rfl
theorem spec_BatchOk.bits7 : waitsOk spec_BatchOk.T7.2 spec_BatchOk.B7 = true:=by kernel_rfl
set_option maxHeartbeats 8000000 in
set_option maxRecDepth 100000 in
theorem spec_BatchOk.calls (k : Nat) (a0_0 : Int) (A0_1 : Option Addr) (c0_1 : Nat) (l0_1 : List (S86)) (r : Bool) (w : World) (hr0_1 : Kd.C k86 w A0_1 l0_1.length l0_1) (hc0_1 : l0_1.length ≤ c0_1) (h : spec_BatchOk.f k a0_0 l0_1 = some r) :
  Calls Try.prog 22 #[.agg #[.int .i64 a0_0,.slice A0_1 l0_1.length c0_1]] w fun e w' => e = .returned (.bool r) ∧ Below w.heap.size w w':=by
 have hu47:=Try.underlying47
 have hu86:=Try.underlying86
 have HR0_1:=Aside0.mk hr0_1
 have HC0_1:=Aside0.mk hc0_1
 clear hr0_1 hc0_1
 have HB:=Aside0.mk (Below.refl w.heap.size w)
 have H : ((spec_l01In.f a0_0 0 1000000000).bind fun t132 => (if t132 = true then ((spec_l01In.f (l0_1.length : Int) 1 40).bind fun t133 => (spec_BatchOk.j0 k (!t133) a0_0 l0_1)) else (spec_BatchOk.j0 k true a0_0 l0_1))) = some r:=h
 clear h
 have HC2:=Aside0.mk H
 clear H
 go_enter Try.func22,Try.ntmps22
 go_upto_region 1 with (first | ((with_reducible refine gate_dst (N:=1) rfl ?_);(try (refine gate_guard (by rfl) ?_;dsimp only));refine box_event ?hg (N:=1) ?hd (cs:=#[.int .i64 a0_0,.slice A0_1 l0_1.length c0_1]) (t:=47) ?hr ?_;(case hd => rfl);(case hg => rfl);(case hr => first | (go_simp;done) | (go_simp;rfl));intro gb131 hg w3 hbox hb;have n0_:=Aside0.mk (below_step (by repeat (first | (with_reducible first | exact HB.out | apply below_alloc | apply pw_below_drewN | apply below_drew1) | exact HB.out)) hb);have n1_:=Aside0.mk (hbox);have n2_:=Aside0.mk ((by rw [hg];exact (below_size (by repeat (first | (with_reducible first | exact HB.out | apply below_alloc | apply pw_below_drewN | apply below_drew1) | exact HB.out))) : w.heap.size ≤ gb131));have n3_:=Aside0.mk ((by rw [hg];exact (below_size (by repeat (first | (with_reducible first | exact HB.out | apply below_alloc | apply pw_below_drewN | apply below_drew1) | exact HB.out))) : w.heap.size ≤ gb131));clear HB;have HB:=n0_;have BK131:=n1_;have GW131:=n2_;have GE131:=n3_;clear n0_ n1_ n2_ n3_;clear hb hbox hg))
 (try simp only [Act.put,q13,q23,q33])
 go_cut [15] (fun v15 wc => ∃ (kq : Nat) (x15_1 : Bool),v15 = .bool x15_1 ∧ Aside0 (spec_BatchOk.j0 kq x15_1 a0_0 l0_1 = some r) ∧ Aside0 (kq ≤ k) ∧ Aside0 (wc.heap[gb131]? = some (.cells #[.int .i64 a0_0,(.slice A0_1 l0_1.length c0_1)] 47 (0,0))) ∧ Aside0 (Below w.heap.size w wc))
 case first =>
  have H:=HC2.out
  clear HC2
  replace H:=Option.bind_eq_some_iff.mp H
  obtain ⟨t132,A40,H⟩:=H
  replace H : (if t132 = true then ((spec_l01In.f (l0_1.length : Int) 1 40).bind fun t133 => (spec_BatchOk.j0 k (!t133) a0_0 l0_1)) else (spec_BatchOk.j0 k true a0_0 l0_1)) = some r:=H
  have A4:=Aside0.mk A40
  clear A40
  by_cases c5 : t132 = true
  ·subst c5
   have H1 : ((spec_l01In.f (l0_1.length : Int) 1 40).bind fun t133 => (spec_BatchOk.j0 k (!t133) a0_0 l0_1)) = some r:=by rw [if_pos rfl] at H;exact H
   clear H
   have H:=H1
   clear H1
   replace H:=Option.bind_eq_some_iff.mp H
   obtain ⟨t133,A60,H⟩:=H
   replace H : (spec_BatchOk.j0 k (!t133) a0_0 l0_1) = some r:=H
   have A6:=Aside0.mk A60
   clear A60
   have H':=Aside0.mk H
   clear H
   have hcz7_0 : w3.cell? ⟨gb131,0,none⟩ = some (.int .i64 a0_0):=(blk_cell BK131.out 0).trans rfl
   have hcz7_1 : w3.cell? ⟨gb131,1,none⟩ = some (.slice A0_1 l0_1.length c0_1):=(blk_cell BK131.out 1).trans rfl
   have hfz7_0:=blk_frozen BK131.out 0
   have hfz7_1:=blk_frozen BK131.out 1
   go_wp2_with (first | ((with_reducible refine gate_callee (f:=43) rfl ?_);refine goesL_ (some 7) rfl rfl Try.func43 (by kernel_rfl) rfl #[.int .i64 a0_0,.int .i64 0,.int .i64 1000000000] rfl (by (try simp only [List.map_toArray,List.map_cons,List.map_nil]);first | done | rfl | (simp only [List.length_drop,List.length_take];rfl)) ?_;(with_reducible refine (spec_l01In.calls a0_0 0 1000000000 true _ A4.out).mono ?_);rintro e w' ⟨rfl,⟨nd,rfl⟩⟩;refine ⟨_,rfl,?_⟩) | (go_at_call 43;(with_reducible refine (spec_l01In.calls (l0_1.length : Int) 1 40 t133 _ A6.out).mono ?_);rintro e w' ⟨rfl,⟨nd,rfl⟩⟩))
   go_meet
   case rel => exact ⟨_,(!t133),(by first | rfl | (simp;done) | (simp [*];done)),H',⟨by first | omega | exact Nat.le_refl _⟩,⟨by (with_reducible repeat (first | refine blk_drewN ?_ _ | refine blk_drew ?_ | refine blk_alloc ?_ _));exact BK131.out⟩,⟨by repeat (first | (with_reducible first | exact HB.out | apply below_alloc | apply pw_below_drewN | apply below_drew1 | refine below_set ?_ GE131.out) | exact HB.out)⟩⟩
  ·replace c5:=Bool.eq_false_iff.mpr c5
   subst c5
   have H1 : (spec_BatchOk.j0 k true a0_0 l0_1) = some r:=by rw [if_neg (show ¬ (false = true) by decide)] at H;exact H
   clear H
   have H:=H1
   clear H1
   have H':=Aside0.mk H
   clear H
   have hcz8_0 : w3.cell? ⟨gb131,0,none⟩ = some (.int .i64 a0_0):=(blk_cell BK131.out 0).trans rfl
   have hcz8_1 : w3.cell? ⟨gb131,1,none⟩ = some (.slice A0_1 l0_1.length c0_1):=(blk_cell BK131.out 1).trans rfl
   have hfz8_0:=blk_frozen BK131.out 0
   have hfz8_1:=blk_frozen BK131.out 1
   go_wp2_with (first | ((with_reducible refine gate_callee (f:=43) rfl ?_);refine goesL_ (some 7) rfl rfl Try.func43 (by kernel_rfl) rfl #[.int .i64 a0_0,.int .i64 0,.int .i64 1000000000] rfl (by (try simp only [List.map_toArray,List.map_cons,List.map_nil]);first | done | rfl | (simp only [List.length_drop,List.length_take];rfl)) ?_;(with_reducible refine (spec_l01In.calls a0_0 0 1000000000 false _ A4.out).mono ?_);rintro e w' ⟨rfl,⟨nd,rfl⟩⟩;refine ⟨_,rfl,?_⟩))
   go_meet
   case rel => exact ⟨_,(true),(by first | rfl | (simp;done) | (simp [*];done)),H',⟨by first | omega | exact Nat.le_refl _⟩,⟨by (with_reducible repeat (first | refine blk_drewN ?_ _ | refine blk_drew ?_ | refine blk_alloc ?_ _));exact BK131.out⟩,⟨by repeat (first | (with_reducible first | exact HB.out | apply below_alloc | apply pw_below_drewN | apply below_drew1 | refine below_set ?_ GE131.out) | exact HB.out)⟩⟩
 case rest =>
  clear HC2
  try clear c2
  try clear p2
  try clear c4
  try clear c5
  try clear hcz7_0
  try clear hcz7_1
  try clear hcz8_0
  try clear hcz8_1
  try clear hfz7_0
  try clear hfz7_1
  try clear hfz8_0
  try clear hfz8_1
  obtain ⟨kq,x15_1,rfl,HA,HJ1,BK131,HB⟩:=hcut
  cases kq with
  | zero => exact absurd HA.out (by simp [spec_BatchOk.j0])
  | succ kj1 =>
   have H:=HA.out
   clear HA
   simp only [spec_BatchOk.j0] at H
   by_cases c9 : x15_1 = true
   ·subst c9
    have H1 : (some false) = some r:=by rw [if_pos rfl] at H;exact H
    clear H
    have H:=H1
    clear H1
    obtain rfl:=Option.some.inj H
    go_wp2
    go_ret
    exact ⟨by first | rfl | (simp [errW_none,errW_some] <;> rfl) | (simp [*,errW_none,errW_some] <;> rfl),by repeat (first | (with_reducible first | exact HB.out | apply below_alloc | apply pw_below_drewN | apply below_drew1 | refine below_set ?_ GE131.out) | exact HB.out)⟩
   ·replace c9:=Bool.eq_false_iff.mpr c9
    subst c9
    have H1 : (spec_BatchOk.l0 kj1 0 a0_0 l0_1) = some r:=by rw [if_neg (show ¬ (false = true) by decide)] at H;exact H
    clear H
    have H:=H1
    clear H1
    have H':=Aside0.mk H
    clear H
    go_wp2
    go_loopg [3] kj1 (fun kq v3 w' => ∃ (x3_2 : Int),v3 = .int .i64 x3_2 ∧ Aside0 (spec_BatchOk.l0 kq x3_2 a0_0 l0_1 = some r) ∧ Aside0 (kq ≤ kj1) ∧ Aside0 (w'.heap[gb131]? = some (.cells #[.int .i64 a0_0,(.slice A0_1 l0_1.length c0_1)] 47 (0,0))) ∧ Aside0 (Below w.heap.size w w'))
    case atStart => exact ⟨(0),(by first | rfl | (simp;done) | (simp [*];done)),H',⟨Nat.le_refl _⟩,⟨by (with_reducible repeat (first | refine blk_drewN ?_ _ | refine blk_drew ?_ | refine blk_alloc ?_ _));exact BK131.out⟩,⟨by repeat (first | (with_reducible first | exact HB.out | apply below_alloc | apply pw_below_drewN | apply below_drew1 | refine below_set ?_ GE131.out) | exact HB.out)⟩⟩
    case round =>
     clear H'
     try clear c2
     try clear p2
     try clear c4
     try clear c5
     try clear c9
     try clear hcz7_0
     try clear hcz7_1
     try clear hcz8_0
     try clear hcz8_1
     try clear hfz7_0
     try clear hfz7_1
     try clear hfz8_0
     try clear hfz8_1
     try clear p2
     obtain ⟨x3_2,rfl,HA,HK2,BK131,HB⟩:=hrel
     cases gk with
     | zero => exact absurd HA.out (by simp [spec_BatchOk.l0])
     | succ k2 =>
      have H:=HA.out
      clear HA
      simp only [spec_BatchOk.l0] at H
      by_cases c10 : x3_2 < (l0_1.length : Int)
      ·rw [if_pos c10] at H
       have c10b0 : decide (x3_2 < (l0_1.length : Int)) = true:=decide_eq_true c10
       clear c10
       by_cases c11 : 0 ≤ x3_2
       ·rw [if_pos c11] at H
        have c11b0 : decide (0 ≤ x3_2) = true:=decide_eq_true c11
        clear c11
        replace H:=Option.bind_eq_some_iff.mp H
        obtain ⟨t136,A120,H⟩:=H
        replace H : (if t136 = true then (if x3_2 > 0 then (if 0 ≤ (wrap64 (x3_2 - 1)) then (if (wrap64 (x3_2 - 1)) < (l0_1.length : Int) then (if ((Op.bytesLess (((rd_T86 l0_1 (wrap64 (x3_2 - 1))).f0).toList) (((rd_T86 l0_1 x3_2).f0).toList)) = true) then (if (((rd_T86 l0_1 x3_2).f1).size : Int) > 2000 then (some false) else (if (rd_T86 l0_1 x3_2).f2 = true then (if ((rd_T86 l0_1 x3_2).f1).toList = ([] : List UInt8) then (spec_BatchOk.l0 k2 (wrap64 (x3_2 + 1)) a0_0 l0_1) else (some false)) else (spec_BatchOk.l0 k2 (wrap64 (x3_2 + 1)) a0_0 l0_1))) else (some false)) else (none)) else (none)) else (if (((rd_T86 l0_1 x3_2).f1).size : Int) > 2000 then (some false) else (if (rd_T86 l0_1 x3_2).f2 = true then (if ((rd_T86 l0_1 x3_2).f1).toList = ([] : List UInt8) then (spec_BatchOk.l0 k2 (wrap64 (x3_2 + 1)) a0_0 l0_1) else (some false)) else (spec_BatchOk.l0 k2 (wrap64 (x3_2 + 1)) a0_0 l0_1)))) else (some false)) = some r:=H
        have A12:=Aside0.mk A120
        clear A120
        by_cases c13 : t136 = true
        ·subst c13
         have H1 : (if x3_2 > 0 then (if 0 ≤ (wrap64 (x3_2 - 1)) then (if (wrap64 (x3_2 - 1)) < (l0_1.length : Int) then (if ((Op.bytesLess (((rd_T86 l0_1 (wrap64 (x3_2 - 1))).f0).toList) (((rd_T86 l0_1 x3_2).f0).toList)) = true) then (if (((rd_T86 l0_1 x3_2).f1).size : Int) > 2000 then (some false) else (if (rd_T86 l0_1 x3_2).f2 = true then (if ((rd_T86 l0_1 x3_2).f1).toList = ([] : List UInt8) then (spec_BatchOk.l0 k2 (wrap64 (x3_2 + 1)) a0_0 l0_1) else (some false)) else (spec_BatchOk.l0 k2 (wrap64 (x3_2 + 1)) a0_0 l0_1))) else (some false)) else (none)) else (none)) else (if (((rd_T86 l0_1 x3_2).f1).size : Int) > 2000 then (some false) else (if (rd_T86 l0_1 x3_2).f2 = true then (if ((rd_T86 l0_1 x3_2).f1).toList = ([] : List UInt8) then (spec_BatchOk.l0 k2 (wrap64 (x3_2 + 1)) a0_0 l0_1) else (some false)) else (spec_BatchOk.l0 k2 (wrap64 (x3_2 + 1)) a0_0 l0_1)))) = some r:=by rw [if_pos rfl] at H;exact H
         clear H
         have H:=H1
         clear H1
         by_cases c14 : x3_2 > 0
         ·rw [if_pos c14] at H
          have c14b0 : decide (0 < x3_2) = true:=decide_eq_true c14
          clear c14
          obtain ⟨ji15,hji15⟩ : ∃ j_ : Int,(wrap64 (x3_2 - 1)) = j_:=⟨_,rfl⟩
          replace H : (if 0 ≤ (ji15) then (if (ji15) < (l0_1.length : Int) then (if ((Op.bytesLess (((rd_T86 l0_1 (ji15)).f0).toList) (((rd_T86 l0_1 x3_2).f0).toList)) = true) then (if (((rd_T86 l0_1 x3_2).f1).size : Int) > 2000 then (some false) else (if (rd_T86 l0_1 x3_2).f2 = true then (if ((rd_T86 l0_1 x3_2).f1).toList = ([] : List UInt8) then (spec_BatchOk.l0 k2 (wrap64 (x3_2 + 1)) a0_0 l0_1) else (some false)) else (spec_BatchOk.l0 k2 (wrap64 (x3_2 + 1)) a0_0 l0_1))) else (some false)) else (none)) else (none)) = some r:=by first | (rw [hji15] at H;exact H) | (simp only [hji15] at H ⊢;exact H)
          (try rw [hji15] at A12)
          have hji15w : (IntKind.i64.wrap (x3_2 - 1)) = ji15:=(i64_w _).trans hji15
          by_cases c16 : 0 ≤ (ji15)
          ·rw [if_pos c16] at H
           have c16b0 : decide (0 ≤ (ji15)) = true:=decide_eq_true c16
           clear c16
           by_cases c17 : (ji15) < (l0_1.length : Int)
           ·rw [if_pos c17] at H
            have c17b0 : decide ((ji15) < (l0_1.length : Int)) = true:=decide_eq_true c17
            clear c17
            by_cases c18 : ((Op.bytesLess (((rd_T86 l0_1 (ji15)).f0).toList) (((rd_T86 l0_1 x3_2).f0).toList)) = true)
            ·rw [if_pos c18] at H
             have c18b0 : (Op.bytesLess (((rd_T86 l0_1 (ji15)).f0).toList) (((rd_T86 l0_1 x3_2).f0).toList)) = true:=c18
             clear c18
             by_cases c19 : (((rd_T86 l0_1 x3_2).f1).size : Int) > 2000
             ·rw [if_pos c19] at H
              have c19b0 : decide (2000 < (((rd_T86 l0_1 x3_2).f1).size : Int)) = true:=decide_eq_true c19
              have c19b1 : decide (2000 < ((rd_T86 l0_1 x3_2).f1).size) = true:=decide_eq_true (by omega)
              clear c19
              obtain rfl:=Option.some.inj H
              have hcz20_0 : wr.cell? ⟨gb131,0,none⟩ = some (.int .i64 a0_0):=(blk_cell BK131.out 0).trans rfl
              have hcz20_1 : wr.cell? ⟨gb131,1,none⟩ = some (.slice A0_1 l0_1.length c0_1):=(blk_cell BK131.out 1).trans rfl
              have hfz20_0:=blk_frozen BK131.out 0
              have hfz20_1:=blk_frozen BK131.out 1
              have p134 : 0 ≤ (x3_2 : Int):=of_decide_eq_true (by first | (with_reducible assumption) | assumption)
              have q134 : x3_2 < (l0_1.length : Int):=of_decide_eq_true (by first | (with_reducible assumption) | assumption)
              obtain ⟨ad134,e134,hx134_0,hx134_1,hx134_2⟩:=at_T86 HR0_1.out x3_2 p134 q134
              cases e134
              replace hx134_0:=(HB.out.cell (World.block_lt_of_cell? w _ hx134_0)).trans hx134_0
              replace hx134_1:=(HB.out.cell (World.block_lt_of_cell? w _ hx134_1)).trans hx134_1
              replace hx134_2:=(HB.out.cell (World.block_lt_of_cell? w _ hx134_2)).trans hx134_2
              replace p134:=eq_true p134
              replace q134:=eq_true q134
              try go_wp2_with (first | ((with_reducible refine gate_dst (N:=4) rfl ?_);(try (refine gate_guard (by rfl) ?_;dsimp only));refine box_event ?hg (N:=4) ?hd (cs:=#[.string (⟨#[]⟩ : ByteArray),.string (⟨#[]⟩ : ByteArray),.bool false]) (t:=86) ?hr ?_;(case hd => rfl);(case hg => rfl);(case hr => first | (go_simp;done) | (go_simp;rfl));intro gb135 hg w21 hbox hb;have n0_:=Aside0.mk (blk_below (g:=gb131) (o:=.cells #[.int .i64 a0_0,.slice (some ad134) l0_1.length c0_1] 47 (0,0)) (by (with_reducible repeat (first | refine blk_drewN ?_ _ | refine blk_drew ?_ | refine blk_alloc ?_ _));exact BK131.out) hb);have n1_:=Aside0.mk (below_step (by repeat (first | (with_reducible first | exact HB.out | apply below_alloc | apply pw_below_drewN | apply below_drew1 | refine below_set ?_ GE131.out) | exact HB.out)) hb);have n2_:=Aside0.mk (hbox);have n3_:=Aside0.mk ((by rw [hg];exact (below_size (by repeat (first | (with_reducible first | exact HB.out | apply below_alloc | apply pw_below_drewN | apply below_drew1 | refine below_set ?_ GE131.out) | exact HB.out))) : w.heap.size ≤ gb135));have n4_:=Aside0.mk ((by rw [hg];exact (below_size (by repeat (first | (with_reducible first | exact HB.out | apply below_alloc | apply pw_below_drewN | apply below_drew1 | refine below_set ?_ GE131.out) | exact HB.out))) : w.heap.size ≤ gb135));have n5_:=Aside0.mk ((by rw [hg];exact Nat.ne_of_lt (blk_lt (g:=gb131) (o:=.cells #[.int .i64 a0_0,.slice (some ad134) l0_1.length c0_1] 47 (0,0)) (by (with_reducible repeat (first | refine blk_drewN ?_ _ | refine blk_drew ?_ | refine blk_alloc ?_ _));exact BK131.out)) : gb131 ≠ gb135));have n6_:=Aside0.mk ((by rw [hg];exact Nat.ne_of_gt (blk_lt (g:=gb131) (o:=.cells #[.int .i64 a0_0,.slice (some ad134) l0_1.length c0_1] 47 (0,0)) (by (with_reducible repeat (first | refine blk_drewN ?_ _ | refine blk_drew ?_ | refine blk_alloc ?_ _));exact BK131.out)) : gb135 ≠ gb131));clear BK131;clear HB;have BK131:=n0_;have HB:=n1_;have BK135:=n2_;have GW135:=n3_;have GE135:=n4_;have NB131_135:=n5_;have NB135_131:=n6_;clear n0_ n1_ n2_ n3_ n4_ n5_ n6_;clear hb hbox hg;have hnb22:=NB135_131.out;have hnc22:=NB131_135.out;have hcz23_0 : w21.cell? ⟨gb135,0,none⟩ = some (.string (⟨#[]⟩ : ByteArray)):=(blk_cell BK135.out 0).trans rfl;have hcz23_1 : w21.cell? ⟨gb135,1,none⟩ = some (.string (⟨#[]⟩ : ByteArray)):=(blk_cell BK135.out 1).trans rfl;have hcz23_2 : w21.cell? ⟨gb135,2,none⟩ = some (.bool false):=(blk_cell BK135.out 2).trans rfl;have hfz23_0:=blk_frozen BK135.out 0;have hfz23_1:=blk_frozen BK135.out 1;have hfz23_2:=blk_frozen BK135.out 2))
              have n0_ : Aside0 ((((w21.setCell ⟨gb135,0,none⟩ (.string ((rd_T86 l0_1 x3_2).f0))).setCell ⟨gb135,1,none⟩ (.string ((rd_T86 l0_1 x3_2).f1))).setCell ⟨gb135,2,none⟩ (.bool ((rd_T86 l0_1 x3_2).f2))).heap[gb131]? = some (.cells #[.int .i64 a0_0,.slice (some ad134) l0_1.length c0_1] 47 (0,0))):=⟨by (with_reducible repeat (first | refine blk_drewN ?_ _ | refine blk_drew ?_ | refine blk_alloc ?_ _));refine blk_far ?_ NB131_135.out _;(with_reducible repeat (first | refine blk_drewN ?_ _ | refine blk_drew ?_ | refine blk_alloc ?_ _));refine blk_far ?_ NB131_135.out _;(with_reducible repeat (first | refine blk_drewN ?_ _ | refine blk_drew ?_ | refine blk_alloc ?_ _));refine blk_far ?_ NB131_135.out _;(with_reducible repeat (first | refine blk_drewN ?_ _ | refine blk_drew ?_ | refine blk_alloc ?_ _));exact BK131.out⟩
              have n1_ : Aside0 ((((w21.setCell ⟨gb135,0,none⟩ (.string ((rd_T86 l0_1 x3_2).f0))).setCell ⟨gb135,1,none⟩ (.string ((rd_T86 l0_1 x3_2).f1))).setCell ⟨gb135,2,none⟩ (.bool ((rd_T86 l0_1 x3_2).f2))).heap[gb135]? = some (.cells #[.string ((rd_T86 l0_1 x3_2).f0),.string ((rd_T86 l0_1 x3_2).f1),.bool ((rd_T86 l0_1 x3_2).f2)] 86 (0,0))):=⟨by (with_reducible repeat (first | refine blk_drewN ?_ _ | refine blk_drew ?_ | refine blk_alloc ?_ _));refine blk_put (cs:=#[.string ((rd_T86 l0_1 x3_2).f0),.string ((rd_T86 l0_1 x3_2).f1),.bool false]) ?_ 2 _ rfl;(with_reducible repeat (first | refine blk_drewN ?_ _ | refine blk_drew ?_ | refine blk_alloc ?_ _));refine blk_put (cs:=#[.string ((rd_T86 l0_1 x3_2).f0),.string (⟨#[]⟩ : ByteArray),.bool false]) ?_ 1 _ rfl;(with_reducible repeat (first | refine blk_drewN ?_ _ | refine blk_drew ?_ | refine blk_alloc ?_ _));refine blk_put (cs:=#[.string (⟨#[]⟩ : ByteArray),.string (⟨#[]⟩ : ByteArray),.bool false]) ?_ 0 _ rfl;(with_reducible repeat (first | refine blk_drewN ?_ _ | refine blk_drew ?_ | refine blk_alloc ?_ _));exact BK135.out⟩
              have n2_ : Aside0 (Below w.heap.size w (((w21.setCell ⟨gb135,0,none⟩ (.string ((rd_T86 l0_1 x3_2).f0))).setCell ⟨gb135,1,none⟩ (.string ((rd_T86 l0_1 x3_2).f1))).setCell ⟨gb135,2,none⟩ (.bool ((rd_T86 l0_1 x3_2).f2)))):=⟨by repeat (first | (with_reducible first | exact HB.out | apply below_alloc | apply pw_below_drewN | apply below_drew1 | refine below_set ?_ GE131.out | refine below_set ?_ GE135.out) | exact HB.out)⟩
              (try clear BK131)
              (try clear BK135)
              (try clear HB)
              generalize (((w21.setCell ⟨gb135,0,none⟩ (.string ((rd_T86 l0_1 x3_2).f0))).setCell ⟨gb135,1,none⟩ (.string ((rd_T86 l0_1 x3_2).f1))).setCell ⟨gb135,2,none⟩ (.bool ((rd_T86 l0_1 x3_2).f2))) = w24 at n0_ n1_ n2_ ⊢
              have BK131:=n0_
              have BK135:=n1_
              have HB:=n2_
              clear n0_ n1_ n2_
              have n0_:=Aside0.mk (blk_drew BK131.out)
              have n1_:=Aside0.mk (blk_drew BK135.out)
              have n2_:=Aside0.mk (below_drew1 HB.out)
              clear BK131
              clear BK135
              clear HB
              have BK131:=n0_
              have BK135:=n1_
              have HB:=n2_
              clear n0_ n1_ n2_
              have p137 : 0 ≤ ((ji15) : Int):=of_decide_eq_true (by first | (with_reducible assumption) | assumption)
              have q137 : (ji15) < (l0_1.length : Int):=of_decide_eq_true (by first | (with_reducible assumption) | assumption)
              obtain ⟨ad137,e137,hx137_0,hx137_1,hx137_2⟩:=at_T86 HR0_1.out (ji15) p137 q137
              have hw137_2:=hx137_2
              have hw137_1:=hx137_1
              have hw137_0:=hx137_0
              obtain rfl : ad134 = ad137:=(by injection e137)
              replace hx137_0:=(HB.out.cell (World.block_lt_of_cell? w _ hx137_0)).trans hx137_0
              replace hx137_1:=(HB.out.cell (World.block_lt_of_cell? w _ hx137_1)).trans hx137_1
              replace hx137_2:=(HB.out.cell (World.block_lt_of_cell? w _ hx137_2)).trans hx137_2
              replace p137:=eq_true p137
              replace q137:=eq_true q137
              refine start_ (n:=36) (S:=fun w' => w'.cell? ⟨gb135,0,none⟩ = some (.string ((rd_T86 l0_1 x3_2).f0)) ∧ w'.cell? ⟨gb135,1,none⟩ = some (.string ((rd_T86 l0_1 x3_2).f1)) ∧ w'.cell? ⟨gb135,2,none⟩ = some (.bool ((rd_T86 l0_1 x3_2).f2)) ∧ w'.cell? ⟨gb131,0,none⟩ = some (.int .i64 a0_0) ∧ w'.cell? ⟨gb131,1,none⟩ = some (.slice (some ad134) l0_1.length c0_1) ∧ w'.cell? (ad134.add (((ji15)).toNat * 3)) = some (.string ((rd_T86 l0_1 (ji15)).f0)) ∧ w'.cell? ⟨(ad134.add (((ji15)).toNat * 3)).block,(ad134.add (((ji15)).toNat * 3)).off + 1,none⟩ = some (.string ((rd_T86 l0_1 (ji15)).f1)) ∧ w'.cell? ⟨(ad134.add (((ji15)).toNat * 3)).block,(ad134.add (((ji15)).toNat * 3)).off + 2,none⟩ = some (.bool ((rd_T86 l0_1 (ji15)).f2))) (ds:=[]) #[Z3,Z3,Z3,Z3,Z3,Z3,Z3,Z3,Z3,Z3,Z3,Z3,Z3,Z3,Z3,Z3,Z3,Z3,Z3,Z3,Z3,Z3,Z3,Z3,Z3,Z3,Z3,Z3,Z3,Z3,Z3,Z3,Z3,Z3,Z3,Z3] (by kernel_rfl) rfl rfl ⟨(blk_cell BK135.out 0).trans rfl,(blk_cell BK135.out 1).trans rfl,(blk_cell BK135.out 2).trans rfl,(blk_cell BK131.out 0).trans rfl,(blk_cell BK131.out 1).trans rfl,((HB.out.cell (World.block_lt_of_cell? w _ hw137_0)).trans hw137_0),((HB.out.cell (World.block_lt_of_cell? w _ hw137_1)).trans hw137_1),((HB.out.cell (World.block_lt_of_cell? w _ hw137_2)).trans hw137_2)⟩ (fun hHeld => ?_);refine with_tabW spec_BatchOk.tab7 spec_BatchOk.bits7 (fun HT_ HW_ => ?_)
              generalize w24.drew = w25 at BK131 BK135 HB hx137_0 hx137_1 hx137_2 hHeld ⊢
              refine pure_ (i:=0) (N:=some 28) (v:=?_) (a':=?_) #[Y3,Z3,Z3,Z3,Z3,Z3,Z3,Z3,Z3,Z3,Z3,Z3,Z3,Z3,Z3,Z3,Z3,Z3,Z3,Z3,Z3,Z3,Z3,Z3,Z3,Z3,Z3,Z3,Z3,Z3,Z3,Z3,Z3,Z3,Z3,Z3] rfl rfl (any_of HT_.out (by kernel_rfl)) (fun _ _ _ h => h) (Or.inl ⟨by rfl,?_⟩) ?_ ?_;rotate_left
              ·intro w';go_simp;with_reducible rfl
              rotate_left
              ·simp only [Act.put,q13,q23,q33,i64_w,i32_w];rfl
              refine take_ (i:=1) (N:=some 29) (v:=?_) (a':=?_) #[Y3,Y3,Z3,Z3,Z3,Z3,Z3,Z3,Z3,Z3,Z3,Z3,Z3,Z3,Z3,Z3,Z3,Z3,Z3,Z3,Z3,Z3,Z3,Z3,Z3,Z3,Z3,Z3,Z3,Z3,Z3,Z3,Z3,Z3,Z3,Z3] rfl rfl (take_ofW HT_.out HW_.out (by kernel_rfl)) (fun _ _ _ h => h) (Or.inl ⟨by rfl,?_⟩) hHeld ?_ ?_;rotate_left
              ·rintro w' ⟨s0,s1,s2,s3,s4,s5,s6,s7⟩
               go_simp
               with_reducible rfl
              rotate_left
              ·simp only [Act.put,q13,q23,q33,i64_w,i32_w];rfl
              refine pure_ (i:=2) (N:=some 30) (v:=?_) (a':=?_) #[Y3,Y3,Y3,Z3,Z3,Z3,Z3,Z3,Z3,Z3,Z3,Z3,Z3,Z3,Z3,Z3,Z3,Z3,Z3,Z3,Z3,Z3,Z3,Z3,Z3,Z3,Z3,Z3,Z3,Z3,Z3,Z3,Z3,Z3,Z3,Z3] rfl rfl (any_of HT_.out (by kernel_rfl)) (fun _ _ _ h => h) (Or.inl ⟨by rfl,?_⟩) ?_ ?_;rotate_left
              ·intro w';go_simp;with_reducible rfl
              rotate_left
              ·simp only [Act.put,q13,q23,q33,i64_w,i32_w];rfl
              refine one_ (i:=3) (N:=some 31) #[Y3,Y3,Y3,Y3,Z3,Z3,Z3,Z3,Z3,Z3,Z3,Z3,Z3,Z3,Z3,Z3,Z3,Z3,Z3,Z3,Z3,Z3,Z3,Z3,Z3,Z3,Z3,Z3,Z3,Z3,Z3,Z3,Z3,Z3,Z3,Z3] rfl rfl (one_of HT_.out (by kernel_rfl)) (by decide) (fun K hK => ?_)
              refine goes_ Try.func43 (by kernel_rfl) rfl #[.int .i64 (((rd_T86 l0_1 x3_2).f0).size : Int),.int .i64 1,.int .i64 20] (by rfl) rfl rfl (by (try simp only [List.map_toArray,List.map_cons,List.map_nil]);first | done | rfl | (simp only [List.length_drop,List.length_take];rfl)) ?_
              with_reducible refine (spec_l01In.calls (((rd_T86 l0_1 x3_2).f0).size : Int) 1 20 true _ A12.out).mono ?_
              rintro e w' ⟨rfl,⟨nd,rfl⟩⟩
              refine ⟨_,rfl,?_⟩
              refine hK.out _ _ ⟨(blk_cell BK135.out 0).trans rfl,(blk_cell BK135.out 1).trans rfl,(blk_cell BK135.out 2).trans rfl,(blk_cell BK131.out 0).trans rfl,(blk_cell BK131.out 1).trans rfl,((HB.out.cell (World.block_lt_of_cell? w _ hw137_0)).trans hw137_0),((HB.out.cell (World.block_lt_of_cell? w _ hw137_1)).trans hw137_1),((HB.out.cell (World.block_lt_of_cell? w _ hw137_2)).trans hw137_2)⟩ (fun hHeld => ?_)
              clear hK K
              refine norm_ (a':=?_) ?_ ?_;rotate_left
              ·show Act.put _ (some 31) _ = _;simp only [Act.put,q13,q23,q33,i64_w,i32_w];rfl
              refine pure_ (i:=4) (N:=some 32) (v:=?_) (a':=?_) #[Y3,Y3,Y3,Y3,Y3,Z3,Z3,Z3,Z3,Z3,Z3,Z3,Z3,Z3,Z3,Z3,Z3,Z3,Z3,Z3,Z3,Z3,Z3,Z3,Z3,Z3,Z3,Z3,Z3,Z3,Z3,Z3,Z3,Z3,Z3,Z3] rfl rfl (any_of HT_.out (by kernel_rfl)) (fun _ _ _ h => h) (Or.inl ⟨by rfl,?_⟩) ?_ ?_;rotate_left
              ·intro w';go_simp;with_reducible rfl
              rotate_left
              ·simp only [Act.put,q13,q23,q33,i64_w,i32_w];rfl
              refine pure_ (i:=5) (N:=some 33) (v:=?_) (a':=?_) #[Y3,Y3,Y3,Y3,Y3,Y3,Z3,Z3,Z3,Z3,Z3,Z3,Z3,Z3,Z3,Z3,Z3,Z3,Z3,Z3,Z3,Z3,Z3,Z3,Z3,Z3,Z3,Z3,Z3,Z3,Z3,Z3,Z3,Z3,Z3,Z3] rfl rfl (any_of HT_.out (by kernel_rfl)) (fun _ _ _ h => h) (Or.inl ⟨by rfl,?_⟩) ?_ ?_;rotate_left
              ·intro w';go_simp;with_reducible rfl
              rotate_left
              ·simp only [Act.put,q13,q23,q33,i64_w,i32_w];rfl
              refine pure_ (i:=6) (N:=some 34) (v:=?_) (a':=?_) #[Y3,Y3,Y3,Y3,Y3,Y3,Y3,Z3,Z3,Z3,Z3,Z3,Z3,Z3,Z3,Z3,Z3,Z3,Z3,Z3,Z3,Z3,Z3,Z3,Z3,Z3,Z3,Z3,Z3,Z3,Z3,Z3,Z3,Z3,Z3,Z3] rfl rfl (any_of HT_.out (by kernel_rfl)) (fun _ _ _ h => h) (Or.inl ⟨by rfl,?_⟩) ?_ ?_;rotate_left
              ·intro w';go_simp;with_reducible rfl
              rotate_left
              ·simp only [Act.put,q13,q23,q33,i64_w,i32_w];rfl
              refine pure_ (i:=7) (N:=some 35) (v:=?_) (a':=?_) #[Y3,Y3,Y3,Y3,Y3,Y3,Y3,Y3,Z3,Z3,Z3,Z3,Z3,Z3,Z3,Z3,Z3,Z3,Z3,Z3,Z3,Z3,Z3,Z3,Z3,Z3,Z3,Z3,Z3,Z3,Z3,Z3,Z3,Z3,Z3,Z3] rfl rfl (any_of HT_.out (by kernel_rfl)) (fun _ _ _ h => h) (Or.inl ⟨by rfl,?_⟩) ?_ ?_;rotate_left
              ·intro w';go_simp;with_reducible rfl
              rotate_left
              ·simp only [Act.put,q13,q23,q33,i64_w,i32_w];rfl
              refine pure_ (i:=8) (N:=some 36) (v:=?_) (a':=?_) #[Y3,Y3,Y3,Y3,Y3,Y3,Y3,Y3,Y3,Z3,Z3,Z3,Z3,Z3,Z3,Z3,Z3,Z3,Z3,Z3,Z3,Z3,Z3,Z3,Z3,Z3,Z3,Z3,Z3,Z3,Z3,Z3,Z3,Z3,Z3,Z3] rfl rfl (any_of HT_.out (by kernel_rfl)) (fun _ _ _ h => h) (Or.inl ⟨by rfl,?_⟩) ?_ ?_;rotate_left
              ·intro w';go_simp;with_reducible rfl
              rotate_left
              ·simp only [Act.put,q13,q23,q33,i64_w,i32_w];rfl
              refine pure_ (i:=9) (N:=some 37) (v:=?_) (a':=?_) #[Y3,Y3,Y3,Y3,Y3,Y3,Y3,Y3,Y3,Y3,Z3,Z3,Z3,Z3,Z3,Z3,Z3,Z3,Z3,Z3,Z3,Z3,Z3,Z3,Z3,Z3,Z3,Z3,Z3,Z3,Z3,Z3,Z3,Z3,Z3,Z3] rfl rfl (any_of HT_.out (by kernel_rfl)) (fun _ _ _ h => h) (Or.inl ⟨by rfl,?_⟩) ?_ ?_;rotate_left
              ·intro w';go_simp;with_reducible rfl
              rotate_left
              ·simp only [Act.put,q13,q23,q33,i64_w,i32_w];rfl
              refine pure_ (i:=11) (N:=some 39) (v:=?_) (a':=?_) #[Y3,Y3,Y3,Y3,Y3,Y3,Y3,Y3,Y3,Y3,Z3,Y3,Z3,Z3,Z3,Z3,Z3,Z3,Z3,Z3,Z3,Z3,Z3,Z3,Z3,Z3,Z3,Z3,Z3,Z3,Z3,Z3,Z3,Z3,Z3,Z3] rfl rfl (any_of HT_.out (by kernel_rfl)) (fun _ _ _ h => h) (Or.inl ⟨by rfl,?_⟩) ?_ ?_;rotate_left
              ·intro w';go_simp;with_reducible rfl
              rotate_left
              ·simp only [Act.put,q13,q23,q33,i64_w,i32_w];rfl
              refine pure_ (i:=12) (N:=some 40) (v:=?_) (a':=?_) #[Y3,Y3,Y3,Y3,Y3,Y3,Y3,Y3,Y3,Y3,Z3,Y3,Y3,Z3,Z3,Z3,Z3,Z3,Z3,Z3,Z3,Z3,Z3,Z3,Z3,Z3,Z3,Z3,Z3,Z3,Z3,Z3,Z3,Z3,Z3,Z3] rfl rfl (any_of HT_.out (by kernel_rfl)) (fun _ _ _ h => h) (Or.inl ⟨by rfl,?_⟩) ?_ ?_;rotate_left
              ·intro w';go_simp;with_reducible rfl
              rotate_left
              ·simp only [Act.put,q13,q23,q33,i64_w,i32_w];rfl
              refine pure_ (i:=16) (N:=some 44) (v:=?_) (a':=?_) #[Y3,Y3,Y3,Y3,Y3,Y3,Y3,Y3,Y3,Y3,Z3,Y3,Y3,Z3,Z3,Z3,Y3,Z3,Z3,Z3,Z3,Z3,Z3,Z3,Z3,Z3,Z3,Z3,Z3,Z3,Z3,Z3,Z3,Z3,Z3,Z3] rfl rfl (any_of HT_.out (by kernel_rfl)) (fun _ _ _ h => h) (Or.inl ⟨by rfl,?_⟩) ?_ ?_;rotate_left
              ·intro w';go_simp;with_reducible rfl
              rotate_left
              ·simp only [Act.put,q13,q23,q33,i64_w,i32_w];rfl
              refine take_ (i:=10) (N:=some 38) (v:=?_) (a':=?_) #[Y3,Y3,Y3,Y3,Y3,Y3,Y3,Y3,Y3,Y3,Y3,Y3,Y3,Z3,Z3,Z3,Y3,Z3,Z3,Z3,Z3,Z3,Z3,Z3,Z3,Z3,Z3,Z3,Z3,Z3,Z3,Z3,Z3,Z3,Z3,Z3] rfl rfl (take_ofW HT_.out HW_.out (by kernel_rfl)) (fun _ _ _ h => h) (Or.inl ⟨by rfl,?_⟩) hHeld ?_ ?_;rotate_left
              ·rintro w' ⟨s0,s1,s2,s3,s4,s5,s6,s7⟩
               go_simp
               with_reducible rfl
              rotate_left
              ·simp only [Act.put,q13,q23,q33,i64_w,i32_w];rfl
              refine pure_ (i:=13) (N:=some 41) (v:=?_) (a':=?_) #[Y3,Y3,Y3,Y3,Y3,Y3,Y3,Y3,Y3,Y3,Y3,Y3,Y3,Y3,Z3,Z3,Y3,Z3,Z3,Z3,Z3,Z3,Z3,Z3,Z3,Z3,Z3,Z3,Z3,Z3,Z3,Z3,Z3,Z3,Z3,Z3] rfl rfl (any_of HT_.out (by kernel_rfl)) (fun _ _ _ h => h) (Or.inl ⟨by rfl,?_⟩) ?_ ?_;rotate_left
              ·intro w';go_simp;with_reducible rfl
              rotate_left
              ·simp only [Act.put,q13,q23,q33,i64_w,i32_w];rfl
              refine pure_ (i:=14) (N:=some 42) (v:=?_) (a':=?_) #[Y3,Y3,Y3,Y3,Y3,Y3,Y3,Y3,Y3,Y3,Y3,Y3,Y3,Y3,Y3,Z3,Y3,Z3,Z3,Z3,Z3,Z3,Z3,Z3,Z3,Z3,Z3,Z3,Z3,Z3,Z3,Z3,Z3,Z3,Z3,Z3] rfl rfl (any_of HT_.out (by kernel_rfl)) (fun _ _ _ h => h) (Or.inl ⟨by rfl,?_⟩) ?_ ?_;rotate_left
              ·intro w';go_simp;with_reducible rfl
              rotate_left
              ·simp only [Act.put,q13,q23,q33,i64_w,i32_w];rfl
              refine take_ (i:=15) (N:=some 43) (v:=?_) (a':=?_) #[Y3,Y3,Y3,Y3,Y3,Y3,Y3,Y3,Y3,Y3,Y3,Y3,Y3,Y3,Y3,Y3,Y3,Z3,Z3,Z3,Z3,Z3,Z3,Z3,Z3,Z3,Z3,Z3,Z3,Z3,Z3,Z3,Z3,Z3,Z3,Z3] rfl rfl (take_ofW HT_.out HW_.out (by kernel_rfl)) (fun _ _ _ h => h) (Or.inl ⟨by rfl,?_⟩) hHeld ?_ ?_;rotate_left
              ·rintro w' ⟨s0,s1,s2,s3,s4,s5,s6,s7⟩
               go_simp
               with_reducible rfl
              rotate_left
              ·simp only [Act.put,q13,q23,q33,i64_w,i32_w];rfl
              refine take_ (i:=17) (N:=some 45) (v:=?_) (a':=?_) #[Y3,Y3,Y3,Y3,Y3,Y3,Y3,Y3,Y3,Y3,Y3,Y3,Y3,Y3,Y3,Y3,Y3,Y3,Z3,Z3,Z3,Z3,Z3,Z3,Z3,Z3,Z3,Z3,Z3,Z3,Z3,Z3,Z3,Z3,Z3,Z3] rfl rfl (take_ofW HT_.out HW_.out (by kernel_rfl)) (fun _ _ _ h => h) (Or.inl ⟨by rfl,?_⟩) hHeld ?_ ?_;rotate_left
              ·rintro w' ⟨s0,s1,s2,s3,s4,s5,s6,s7⟩
               go_simp
               with_reducible rfl
              rotate_left
              ·simp only [Act.put,q13,q23,q33,i64_w,i32_w];rfl
              refine pure_ (i:=18) (N:=some 46) (v:=?_) (a':=?_) #[Y3,Y3,Y3,Y3,Y3,Y3,Y3,Y3,Y3,Y3,Y3,Y3,Y3,Y3,Y3,Y3,Y3,Y3,Y3,Z3,Z3,Z3,Z3,Z3,Z3,Z3,Z3,Z3,Z3,Z3,Z3,Z3,Z3,Z3,Z3,Z3] rfl rfl (any_of HT_.out (by kernel_rfl)) (fun _ _ _ h => h) (Or.inl ⟨by rfl,?_⟩) ?_ ?_;rotate_left
              ·intro w';go_simp;with_reducible rfl
              rotate_left
              ·simp only [Act.put,q13,q23,q33,i64_w,i32_w];rfl
              refine pure_ (i:=19) (N:=some 47) (v:=?_) (a':=?_) #[Y3,Y3,Y3,Y3,Y3,Y3,Y3,Y3,Y3,Y3,Y3,Y3,Y3,Y3,Y3,Y3,Y3,Y3,Y3,Y3,Z3,Z3,Z3,Z3,Z3,Z3,Z3,Z3,Z3,Z3,Z3,Z3,Z3,Z3,Z3,Z3] rfl rfl (any_of HT_.out (by kernel_rfl)) (fun _ _ _ h => h) (Or.inl ⟨by rfl,?_⟩) ?_ ?_;rotate_left
              ·intro w';go_simp;with_reducible rfl
              rotate_left
              ·simp only [Act.put,q13,q23,q33,i64_w,i32_w];rfl
              refine pure_ (i:=20) (N:=some 48) (v:=?_) (a':=?_) #[Y3,Y3,Y3,Y3,Y3,Y3,Y3,Y3,Y3,Y3,Y3,Y3,Y3,Y3,Y3,Y3,Y3,Y3,Y3,Y3,Y3,Z3,Z3,Z3,Z3,Z3,Z3,Z3,Z3,Z3,Z3,Z3,Z3,Z3,Z3,Z3] rfl rfl (any_of HT_.out (by kernel_rfl)) (fun _ _ _ h => h) (Or.inl ⟨by rfl,?_⟩) ?_ ?_;rotate_left
              ·intro w';go_simp;with_reducible rfl
              rotate_left
              ·simp only [Act.put,q13,q23,q33,i64_w,i32_w];rfl
              refine pure_ (i:=21) (N:=some 49) (v:=?_) (a':=?_) #[Y3,Y3,Y3,Y3,Y3,Y3,Y3,Y3,Y3,Y3,Y3,Y3,Y3,Y3,Y3,Y3,Y3,Y3,Y3,Y3,Y3,Y3,Z3,Z3,Z3,Z3,Z3,Z3,Z3,Z3,Z3,Z3,Z3,Z3,Z3,Z3] rfl rfl (any_of HT_.out (by kernel_rfl)) (fun _ _ _ h => h) (Or.inl ⟨by rfl,?_⟩) ?_ ?_;rotate_left
              ·intro w';go_simp;with_reducible rfl
              rotate_left
              ·simp only [Act.put,q13,q23,q33,i64_w,i32_w];rfl
              refine pure_ (i:=22) (N:=some 50) (v:=?_) (a':=?_) #[Y3,Y3,Y3,Y3,Y3,Y3,Y3,Y3,Y3,Y3,Y3,Y3,Y3,Y3,Y3,Y3,Y3,Y3,Y3,Y3,Y3,Y3,Y3,Z3,Z3,Z3,Z3,Z3,Z3,Z3,Z3,Z3,Z3,Z3,Z3,Z3] rfl rfl (any_of HT_.out (by kernel_rfl)) (fun _ _ _ h => h) (Or.inl ⟨by rfl,?_⟩) ?_ ?_;rotate_left
              ·intro w';go_simp;with_reducible rfl
              rotate_left
              ·simp only [Act.put,q13,q23,q33,i64_w,i32_w];rfl
              refine take_ (i:=23) (N:=some 51) (v:=?_) (a':=?_) #[Y3,Y3,Y3,Y3,Y3,Y3,Y3,Y3,Y3,Y3,Y3,Y3,Y3,Y3,Y3,Y3,Y3,Y3,Y3,Y3,Y3,Y3,Y3,Y3,Z3,Z3,Z3,Z3,Z3,Z3,Z3,Z3,Z3,Z3,Z3,Z3] rfl rfl (take_ofW HT_.out HW_.out (by kernel_rfl)) (fun _ _ _ h => h) (Or.inl ⟨by rfl,?_⟩) hHeld ?_ ?_;rotate_left
              ·rintro w' ⟨s0,s1,s2,s3,s4,s5,s6,s7⟩
               go_simp
               with_reducible rfl
              rotate_left
              ·simp only [Act.put,q13,q23,q33,i64_w,i32_w];rfl
              refine pure_ (i:=24) (N:=some 52) (v:=?_) (a':=?_) #[Y3,Y3,Y3,Y3,Y3,Y3,Y3,Y3,Y3,Y3,Y3,Y3,Y3,Y3,Y3,Y3,Y3,Y3,Y3,Y3,Y3,Y3,Y3,Y3,Y3,Z3,Z3,Z3,Z3,Z3,Z3,Z3,Z3,Z3,Z3,Z3] rfl rfl (any_of HT_.out (by kernel_rfl)) (fun _ _ _ h => h) (Or.inl ⟨by rfl,?_⟩) ?_ ?_;rotate_left
              ·intro w';go_simp;with_reducible rfl
              rotate_left
              ·simp only [Act.put,q13,q23,q33,i64_w,i32_w];rfl
              refine pure_ (i:=25) (N:=some 53) (v:=?_) (a':=?_) #[Y3,Y3,Y3,Y3,Y3,Y3,Y3,Y3,Y3,Y3,Y3,Y3,Y3,Y3,Y3,Y3,Y3,Y3,Y3,Y3,Y3,Y3,Y3,Y3,Y3,Y3,Z3,Z3,Z3,Z3,Z3,Z3,Z3,Z3,Z3,Z3] rfl rfl (any_of HT_.out (by kernel_rfl)) (fun _ _ _ h => h) (Or.inl ⟨by rfl,?_⟩) ?_ ?_;rotate_left
              ·intro w';go_simp;with_reducible rfl
              rotate_left
              ·simp only [Act.put,q13,q23,q33,i64_w,i32_w];rfl
              refine pure_ (i:=26) (N:=some 54) (v:=?_) (a':=?_) #[Y3,Y3,Y3,Y3,Y3,Y3,Y3,Y3,Y3,Y3,Y3,Y3,Y3,Y3,Y3,Y3,Y3,Y3,Y3,Y3,Y3,Y3,Y3,Y3,Y3,Y3,Y3,Z3,Z3,Z3,Z3,Z3,Z3,Z3,Z3,Z3] rfl rfl (any_of HT_.out (by kernel_rfl)) (fun _ _ _ h => h) (Or.inl ⟨by rfl,?_⟩) ?_ ?_;rotate_left
              ·intro w';go_simp;with_reducible rfl
              rotate_left
              ·simp only [Act.put,q13,q23,q33,i64_w,i32_w];rfl
              refine pure_ (i:=27) (N:=some 55) (v:=?_) (a':=?_) #[Y3,Y3,Y3,Y3,Y3,Y3,Y3,Y3,Y3,Y3,Y3,Y3,Y3,Y3,Y3,Y3,Y3,Y3,Y3,Y3,Y3,Y3,Y3,Y3,Y3,Y3,Y3,Y3,Z3,Z3,Z3,Z3,Z3,Z3,Z3,Z3] rfl rfl (any_of HT_.out (by kernel_rfl)) (fun _ _ _ h => h) (Or.inl ⟨by rfl,?_⟩) ?_ ?_;rotate_left
              ·intro w';go_simp;with_reducible rfl
              rotate_left
              ·simp only [Act.put,q13,q23,q33,i64_w,i32_w];rfl
              refine pure_ (i:=28) (N:=some 56) (v:=undef) (a':=?_) #[Y3,Y3,Y3,Y3,Y3,Y3,Y3,Y3,Y3,Y3,Y3,Y3,Y3,Y3,Y3,Y3,Y3,Y3,Y3,Y3,Y3,Y3,Y3,Y3,Y3,Y3,Y3,Y3,Y3,Z3,Z3,Z3,Z3,Z3,Z3,Z3] rfl rfl (any_of HT_.out (by kernel_rfl)) (fun _ _ _ h => h) (Or.inr ⟨by rfl,rfl⟩) ?_ ?_;rotate_left
              ·simp only [Act.put,q13,q23,q33,i64_w,i32_w];rfl
              refine pure_ (i:=29) (N:=some 57) (v:=undef) (a':=?_) #[Y3,Y3,Y3,Y3,Y3,Y3,Y3,Y3,Y3,Y3,Y3,Y3,Y3,Y3,Y3,Y3,Y3,Y3,Y3,Y3,Y3,Y3,Y3,Y3,Y3,Y3,Y3,Y3,Y3,Y3,Z3,Z3,Z3,Z3,Z3,Z3] rfl rfl (any_of HT_.out (by kernel_rfl)) (fun _ _ _ h => h) (Or.inr ⟨by rfl,rfl⟩) ?_ ?_;rotate_left
              ·simp only [Act.put,q13,q23,q33,i64_w,i32_w];rfl
              refine pure_ (i:=30) (N:=some 58) (v:=undef) (a':=?_) #[Y3,Y3,Y3,Y3,Y3,Y3,Y3,Y3,Y3,Y3,Y3,Y3,Y3,Y3,Y3,Y3,Y3,Y3,Y3,Y3,Y3,Y3,Y3,Y3,Y3,Y3,Y3,Y3,Y3,Y3,Y3,Z3,Z3,Z3,Z3,Z3] rfl rfl (any_of HT_.out (by kernel_rfl)) (fun _ _ _ h => h) (Or.inr ⟨by rfl,rfl⟩) ?_ ?_;rotate_left
              ·simp only [Act.put,q13,q23,q33,i64_w,i32_w];rfl
              refine pure_ (i:=31) (N:=some 59) (v:=undef) (a':=?_) #[Y3,Y3,Y3,Y3,Y3,Y3,Y3,Y3,Y3,Y3,Y3,Y3,Y3,Y3,Y3,Y3,Y3,Y3,Y3,Y3,Y3,Y3,Y3,Y3,Y3,Y3,Y3,Y3,Y3,Y3,Y3,Y3,Z3,Z3,Z3,Z3] rfl rfl (any_of HT_.out (by kernel_rfl)) (fun _ _ _ h => h) (Or.inr ⟨by rfl,rfl⟩) ?_ ?_;rotate_left
              ·simp only [Act.put,q13,q23,q33,i64_w,i32_w];rfl
              refine pure_ (i:=32) (N:=some 60) (v:=undef) (a':=?_) #[Y3,Y3,Y3,Y3,Y3,Y3,Y3,Y3,Y3,Y3,Y3,Y3,Y3,Y3,Y3,Y3,Y3,Y3,Y3,Y3,Y3,Y3,Y3,Y3,Y3,Y3,Y3,Y3,Y3,Y3,Y3,Y3,Y3,Z3,Z3,Z3] rfl rfl (any_of HT_.out (by kernel_rfl)) (fun _ _ _ h => h) (Or.inr ⟨by rfl,rfl⟩) ?_ ?_;rotate_left
              ·simp only [Act.put,q13,q23,q33,i64_w,i32_w];rfl
              refine pure_ (i:=33) (N:=some 61) (v:=undef) (a':=?_) #[Y3,Y3,Y3,Y3,Y3,Y3,Y3,Y3,Y3,Y3,Y3,Y3,Y3,Y3,Y3,Y3,Y3,Y3,Y3,Y3,Y3,Y3,Y3,Y3,Y3,Y3,Y3,Y3,Y3,Y3,Y3,Y3,Y3,Y3,Z3,Z3] rfl rfl (any_of HT_.out (by kernel_rfl)) (fun _ _ _ h => h) (Or.inr ⟨by rfl,rfl⟩) ?_ ?_;rotate_left
              ·simp only [Act.put,q13,q23,q33,i64_w,i32_w];rfl
              refine pure_ (i:=34) (N:=some 62) (v:=undef) (a':=?_) #[Y3,Y3,Y3,Y3,Y3,Y3,Y3,Y3,Y3,Y3,Y3,Y3,Y3,Y3,Y3,Y3,Y3,Y3,Y3,Y3,Y3,Y3,Y3,Y3,Y3,Y3,Y3,Y3,Y3,Y3,Y3,Y3,Y3,Y3,Y3,Z3] rfl rfl (any_of HT_.out (by kernel_rfl)) (fun _ _ _ h => h) (Or.inr ⟨by rfl,rfl⟩) ?_ ?_;rotate_left
              ·simp only [Act.put,q13,q23,q33,i64_w,i32_w];rfl
              refine pure_ (i:=35) (N:=some 63) (v:=?_) (a':=?_) #[Y3,Y3,Y3,Y3,Y3,Y3,Y3,Y3,Y3,Y3,Y3,Y3,Y3,Y3,Y3,Y3,Y3,Y3,Y3,Y3,Y3,Y3,Y3,Y3,Y3,Y3,Y3,Y3,Y3,Y3,Y3,Y3,Y3,Y3,Y3,Y3] rfl rfl (any_of HT_.out (by kernel_rfl)) (fun _ _ _ h => h) (Or.inl ⟨by rfl,?_⟩) ?_ ?_;rotate_left
              ·intro w';go_simp;with_reducible rfl
              rotate_left
              ·simp only [Act.put,q13,q23,q33,i64_w,i32_w];rfl
              refine done_ (done_of HT_.out (by kernel_rfl)) ?_
              try go_wp2
              go_ret
              exact ⟨by first | rfl | (simp [errW_none,errW_some] <;> rfl) | (simp only [← hji15];first | rfl | (simp [errW_none,errW_some] <;> rfl)) | (simp [*,errW_none,errW_some] <;> rfl),by repeat (first | (with_reducible first | exact HB.out | apply below_alloc | apply pw_below_drewN | apply below_drew1 | refine below_set ?_ GE131.out | refine below_set ?_ GE135.out) | exact HB.out)⟩
             ·rw [if_neg c19] at H
              have c19b0 : decide (2000 < (((rd_T86 l0_1 x3_2).f1).size : Int)) = false:=decide_eq_false c19
              have c19b1 : decide (2000 < ((rd_T86 l0_1 x3_2).f1).size) = false:=decide_eq_false (by omega)
              clear c19
              obtain ⟨bq26,hbq26⟩ : ∃ b_ : Bool,b_ = ((rd_T86 l0_1 x3_2).f2):=⟨_,rfl⟩
              replace H : (if bq26 = true then (if ((rd_T86 l0_1 x3_2).f1).toList = ([] : List UInt8) then (spec_BatchOk.l0 k2 (wrap64 (x3_2 + 1)) a0_0 l0_1) else (some false)) else (spec_BatchOk.l0 k2 (wrap64 (x3_2 + 1)) a0_0 l0_1)) = some r:=by rw [← hbq26] at H;exact H
              have Nbq26:=Aside0.mk hbq26
              clear hbq26
              by_cases c27 : bq26 = true
              ·subst c27
               have H1 : (if ((rd_T86 l0_1 x3_2).f1).toList = ([] : List UInt8) then (spec_BatchOk.l0 k2 (wrap64 (x3_2 + 1)) a0_0 l0_1) else (some false)) = some r:=by rw [if_pos rfl] at H;exact H
               clear H
               have H:=H1
               clear H1
               by_cases c28 : ((rd_T86 l0_1 x3_2).f1).toList = ([] : List UInt8)
               ·rw [if_pos c28] at H
                have c28b0 : (((rd_T86 l0_1 x3_2).f1).toList == ([] : List UInt8)) = true:=beq_iff_eq.mpr c28
                have c28b1 : (((rd_T86 l0_1 x3_2).f1).toList != ([] : List UInt8)) = false:=bne_eq_false_iff_eq.mpr c28
                clear c28
                have H':=Aside0.mk H
                clear H
                have hcz29_0 : wr.cell? ⟨gb131,0,none⟩ = some (.int .i64 a0_0):=(blk_cell BK131.out 0).trans rfl
                have hcz29_1 : wr.cell? ⟨gb131,1,none⟩ = some (.slice A0_1 l0_1.length c0_1):=(blk_cell BK131.out 1).trans rfl
                have hfz29_0:=blk_frozen BK131.out 0
                have hfz29_1:=blk_frozen BK131.out 1
                have p134 : 0 ≤ (x3_2 : Int):=of_decide_eq_true (by first | (with_reducible assumption) | assumption)
                have q134 : x3_2 < (l0_1.length : Int):=of_decide_eq_true (by first | (with_reducible assumption) | assumption)
                obtain ⟨ad134,e134,hx134_0,hx134_1,hx134_2⟩:=at_T86 HR0_1.out x3_2 p134 q134
                (try rw [← Nbq26.out] at hx134_2)
                cases e134
                replace hx134_0:=(HB.out.cell (World.block_lt_of_cell? w _ hx134_0)).trans hx134_0
                replace hx134_1:=(HB.out.cell (World.block_lt_of_cell? w _ hx134_1)).trans hx134_1
                replace hx134_2:=(HB.out.cell (World.block_lt_of_cell? w _ hx134_2)).trans hx134_2
                replace p134:=eq_true p134
                replace q134:=eq_true q134
                try go_wp2_with (first | ((with_reducible refine gate_dst (N:=4) rfl ?_);(try (refine gate_guard (by rfl) ?_;dsimp only));refine box_event ?hg (N:=4) ?hd (cs:=#[.string (⟨#[]⟩ : ByteArray),.string (⟨#[]⟩ : ByteArray),.bool false]) (t:=86) ?hr ?_;(case hd => rfl);(case hg => rfl);(case hr => first | (go_simp;done) | (go_simp;rfl));intro gb135 hg w30 hbox hb;have n0_:=Aside0.mk (blk_below (g:=gb131) (o:=.cells #[.int .i64 a0_0,.slice (some ad134) l0_1.length c0_1] 47 (0,0)) (by (with_reducible repeat (first | refine blk_drewN ?_ _ | refine blk_drew ?_ | refine blk_alloc ?_ _));exact BK131.out) hb);have n1_:=Aside0.mk (below_step (by repeat (first | (with_reducible first | exact HB.out | apply below_alloc | apply pw_below_drewN | apply below_drew1 | refine below_set ?_ GE131.out) | exact HB.out)) hb);have n2_:=Aside0.mk (hbox);have n3_:=Aside0.mk ((by rw [hg];exact (below_size (by repeat (first | (with_reducible first | exact HB.out | apply below_alloc | apply pw_below_drewN | apply below_drew1 | refine below_set ?_ GE131.out) | exact HB.out))) : w.heap.size ≤ gb135));have n4_:=Aside0.mk ((by rw [hg];exact (below_size (by repeat (first | (with_reducible first | exact HB.out | apply below_alloc | apply pw_below_drewN | apply below_drew1 | refine below_set ?_ GE131.out) | exact HB.out))) : w.heap.size ≤ gb135));have n5_:=Aside0.mk ((by rw [hg];exact Nat.ne_of_lt (blk_lt (g:=gb131) (o:=.cells #[.int .i64 a0_0,.slice (some ad134) l0_1.length c0_1] 47 (0,0)) (by (with_reducible repeat (first | refine blk_drewN ?_ _ | refine blk_drew ?_ | refine blk_alloc ?_ _));exact BK131.out)) : gb131 ≠ gb135));have n6_:=Aside0.mk ((by rw [hg];exact Nat.ne_of_gt (blk_lt (g:=gb131) (o:=.cells #[.int .i64 a0_0,.slice (some ad134) l0_1.length c0_1] 47 (0,0)) (by (with_reducible repeat (first | refine blk_drewN ?_ _ | refine blk_drew ?_ | refine blk_alloc ?_ _));exact BK131.out)) : gb135 ≠ gb131));clear BK131;clear HB;have BK131:=n0_;have HB:=n1_;have BK135:=n2_;have GW135:=n3_;have GE135:=n4_;have NB131_135:=n5_;have NB135_131:=n6_;clear n0_ n1_ n2_ n3_ n4_ n5_ n6_;clear hb hbox hg;have hnb31:=NB135_131.out;have hnc31:=NB131_135.out;have hcz32_0 : w30.cell? ⟨gb135,0,none⟩ = some (.string (⟨#[]⟩ : ByteArray)):=(blk_cell BK135.out 0).trans rfl;have hcz32_1 : w30.cell? ⟨gb135,1,none⟩ = some (.string (⟨#[]⟩ : ByteArray)):=(blk_cell BK135.out 1).trans rfl;have hcz32_2 : w30.cell? ⟨gb135,2,none⟩ = some (.bool false):=(blk_cell BK135.out 2).trans rfl;have hfz32_0:=blk_frozen BK135.out 0;have hfz32_1:=blk_frozen BK135.out 1;have hfz32_2:=blk_frozen BK135.out 2))
                have n0_ : Aside0 ((((w30.setCell ⟨gb135,0,none⟩ (.string ((rd_T86 l0_1 x3_2).f0))).setCell ⟨gb135,1,none⟩ (.string ((rd_T86 l0_1 x3_2).f1))).setCell ⟨gb135,2,none⟩ (.bool true)).heap[gb131]? = some (.cells #[.int .i64 a0_0,.slice (some ad134) l0_1.length c0_1] 47 (0,0))):=⟨by (with_reducible repeat (first | refine blk_drewN ?_ _ | refine blk_drew ?_ | refine blk_alloc ?_ _));refine blk_far ?_ NB131_135.out _;(with_reducible repeat (first | refine blk_drewN ?_ _ | refine blk_drew ?_ | refine blk_alloc ?_ _));refine blk_far ?_ NB131_135.out _;(with_reducible repeat (first | refine blk_drewN ?_ _ | refine blk_drew ?_ | refine blk_alloc ?_ _));refine blk_far ?_ NB131_135.out _;(with_reducible repeat (first | refine blk_drewN ?_ _ | refine blk_drew ?_ | refine blk_alloc ?_ _));exact BK131.out⟩
                have n1_ : Aside0 ((((w30.setCell ⟨gb135,0,none⟩ (.string ((rd_T86 l0_1 x3_2).f0))).setCell ⟨gb135,1,none⟩ (.string ((rd_T86 l0_1 x3_2).f1))).setCell ⟨gb135,2,none⟩ (.bool true)).heap[gb135]? = some (.cells #[.string ((rd_T86 l0_1 x3_2).f0),.string ((rd_T86 l0_1 x3_2).f1),.bool true] 86 (0,0))):=⟨by (with_reducible repeat (first | refine blk_drewN ?_ _ | refine blk_drew ?_ | refine blk_alloc ?_ _));refine blk_put (cs:=#[.string ((rd_T86 l0_1 x3_2).f0),.string ((rd_T86 l0_1 x3_2).f1),.bool false]) ?_ 2 _ rfl;(with_reducible repeat (first | refine blk_drewN ?_ _ | refine blk_drew ?_ | refine blk_alloc ?_ _));refine blk_put (cs:=#[.string ((rd_T86 l0_1 x3_2).f0),.string (⟨#[]⟩ : ByteArray),.bool false]) ?_ 1 _ rfl;(with_reducible repeat (first | refine blk_drewN ?_ _ | refine blk_drew ?_ | refine blk_alloc ?_ _));refine blk_put (cs:=#[.string (⟨#[]⟩ : ByteArray),.string (⟨#[]⟩ : ByteArray),.bool false]) ?_ 0 _ rfl;(with_reducible repeat (first | refine blk_drewN ?_ _ | refine blk_drew ?_ | refine blk_alloc ?_ _));exact BK135.out⟩
                have n2_ : Aside0 (Below w.heap.size w (((w30.setCell ⟨gb135,0,none⟩ (.string ((rd_T86 l0_1 x3_2).f0))).setCell ⟨gb135,1,none⟩ (.string ((rd_T86 l0_1 x3_2).f1))).setCell ⟨gb135,2,none⟩ (.bool true))):=⟨by repeat (first | (with_reducible first | exact HB.out | apply below_alloc | apply pw_below_drewN | apply below_drew1 | refine below_set ?_ GE131.out | refine below_set ?_ GE135.out) | exact HB.out)⟩
                (try clear BK131)
                (try clear BK135)
                (try clear HB)
                generalize (((w30.setCell ⟨gb135,0,none⟩ (.string ((rd_T86 l0_1 x3_2).f0))).setCell ⟨gb135,1,none⟩ (.string ((rd_T86 l0_1 x3_2).f1))).setCell ⟨gb135,2,none⟩ (.bool true)) = w33 at n0_ n1_ n2_ ⊢
                have BK131:=n0_
                have BK135:=n1_
                have HB:=n2_
                clear n0_ n1_ n2_
                have n0_:=Aside0.mk (blk_drew BK131.out)
                have n1_:=Aside0.mk (blk_drew BK135.out)
                have n2_:=Aside0.mk (below_drew1 HB.out)
                clear BK131
                clear BK135
                clear HB
                have BK131:=n0_
                have BK135:=n1_
                have HB:=n2_
                clear n0_ n1_ n2_
                have p137 : 0 ≤ ((ji15) : Int):=of_decide_eq_true (by first | (with_reducible assumption) | assumption)
                have q137 : (ji15) < (l0_1.length : Int):=of_decide_eq_true (by first | (with_reducible assumption) | assumption)
                obtain ⟨ad137,e137,hx137_0,hx137_1,hx137_2⟩:=at_T86 HR0_1.out (ji15) p137 q137
                have hw137_2:=hx137_2
                have hw137_1:=hx137_1
                have hw137_0:=hx137_0
                (try rw [← Nbq26.out] at hx137_2)
                obtain rfl : ad134 = ad137:=(by injection e137)
                replace hx137_0:=(HB.out.cell (World.block_lt_of_cell? w _ hx137_0)).trans hx137_0
                replace hx137_1:=(HB.out.cell (World.block_lt_of_cell? w _ hx137_1)).trans hx137_1
                replace hx137_2:=(HB.out.cell (World.block_lt_of_cell? w _ hx137_2)).trans hx137_2
                replace p137:=eq_true p137
                replace q137:=eq_true q137
                refine start_ (n:=36) (S:=fun w' => w'.cell? ⟨gb135,0,none⟩ = some (.string ((rd_T86 l0_1 x3_2).f0)) ∧ w'.cell? ⟨gb135,1,none⟩ = some (.string ((rd_T86 l0_1 x3_2).f1)) ∧ w'.cell? ⟨gb135,2,none⟩ = some (.bool true) ∧ w'.cell? ⟨gb131,0,none⟩ = some (.int .i64 a0_0) ∧ w'.cell? ⟨gb131,1,none⟩ = some (.slice (some ad134) l0_1.length c0_1) ∧ w'.cell? (ad134.add (((ji15)).toNat * 3)) = some (.string ((rd_T86 l0_1 (ji15)).f0)) ∧ w'.cell? ⟨(ad134.add (((ji15)).toNat * 3)).block,(ad134.add (((ji15)).toNat * 3)).off + 1,none⟩ = some (.string ((rd_T86 l0_1 (ji15)).f1)) ∧ w'.cell? ⟨(ad134.add (((ji15)).toNat * 3)).block,(ad134.add (((ji15)).toNat * 3)).off + 2,none⟩ = some (.bool ((rd_T86 l0_1 (ji15)).f2))) (ds:=[]) #[Z3,Z3,Z3,Z3,Z3,Z3,Z3,Z3,Z3,Z3,Z3,Z3,Z3,Z3,Z3,Z3,Z3,Z3,Z3,Z3,Z3,Z3,Z3,Z3,Z3,Z3,Z3,Z3,Z3,Z3,Z3,Z3,Z3,Z3,Z3,Z3] (by kernel_rfl) rfl rfl ⟨(blk_cell BK135.out 0).trans rfl,(blk_cell BK135.out 1).trans rfl,(blk_cell BK135.out 2).trans rfl,(blk_cell BK131.out 0).trans rfl,(blk_cell BK131.out 1).trans rfl,((HB.out.cell (World.block_lt_of_cell? w _ hw137_0)).trans hw137_0),((HB.out.cell (World.block_lt_of_cell? w _ hw137_1)).trans hw137_1),((HB.out.cell (World.block_lt_of_cell? w _ hw137_2)).trans hw137_2)⟩ (fun hHeld => ?_);refine with_tabW spec_BatchOk.tab7 spec_BatchOk.bits7 (fun HT_ HW_ => ?_)
                generalize w33.drew = w34 at BK131 BK135 HB hx137_0 hx137_1 hx137_2 hHeld ⊢
                refine pure_ (i:=0) (N:=some 28) (v:=?_) (a':=?_) #[Y3,Z3,Z3,Z3,Z3,Z3,Z3,Z3,Z3,Z3,Z3,Z3,Z3,Z3,Z3,Z3,Z3,Z3,Z3,Z3,Z3,Z3,Z3,Z3,Z3,Z3,Z3,Z3,Z3,Z3,Z3,Z3,Z3,Z3,Z3,Z3] rfl rfl (any_of HT_.out (by kernel_rfl)) (fun _ _ _ h => h) (Or.inl ⟨by rfl,?_⟩) ?_ ?_;rotate_left
                ·intro w';go_simp;with_reducible rfl
                rotate_left
                ·simp only [Act.put,q13,q23,q33,i64_w,i32_w];rfl
                refine take_ (i:=1) (N:=some 29) (v:=?_) (a':=?_) #[Y3,Y3,Z3,Z3,Z3,Z3,Z3,Z3,Z3,Z3,Z3,Z3,Z3,Z3,Z3,Z3,Z3,Z3,Z3,Z3,Z3,Z3,Z3,Z3,Z3,Z3,Z3,Z3,Z3,Z3,Z3,Z3,Z3,Z3,Z3,Z3] rfl rfl (take_ofW HT_.out HW_.out (by kernel_rfl)) (fun _ _ _ h => h) (Or.inl ⟨by rfl,?_⟩) hHeld ?_ ?_;rotate_left
                ·rintro w' ⟨s0,s1,s2,s3,s4,s5,s6,s7⟩
                 go_simp
                 with_reducible rfl
                rotate_left
                ·simp only [Act.put,q13,q23,q33,i64_w,i32_w];rfl
                refine pure_ (i:=2) (N:=some 30) (v:=?_) (a':=?_) #[Y3,Y3,Y3,Z3,Z3,Z3,Z3,Z3,Z3,Z3,Z3,Z3,Z3,Z3,Z3,Z3,Z3,Z3,Z3,Z3,Z3,Z3,Z3,Z3,Z3,Z3,Z3,Z3,Z3,Z3,Z3,Z3,Z3,Z3,Z3,Z3] rfl rfl (any_of HT_.out (by kernel_rfl)) (fun _ _ _ h => h) (Or.inl ⟨by rfl,?_⟩) ?_ ?_;rotate_left
                ·intro w';go_simp;with_reducible rfl
                rotate_left
                ·simp only [Act.put,q13,q23,q33,i64_w,i32_w];rfl
                refine one_ (i:=3) (N:=some 31) #[Y3,Y3,Y3,Y3,Z3,Z3,Z3,Z3,Z3,Z3,Z3,Z3,Z3,Z3,Z3,Z3,Z3,Z3,Z3,Z3,Z3,Z3,Z3,Z3,Z3,Z3,Z3,Z3,Z3,Z3,Z3,Z3,Z3,Z3,Z3,Z3] rfl rfl (one_of HT_.out (by kernel_rfl)) (by decide) (fun K hK => ?_)
                refine goes_ Try.func43 (by kernel_rfl) rfl #[.int .i64 (((rd_T86 l0_1 x3_2).f0).size : Int),.int .i64 1,.int .i64 20] (by rfl) rfl rfl (by (try simp only [List.map_toArray,List.map_cons,List.map_nil]);first | done | rfl | (simp only [List.length_drop,List.length_take];rfl)) ?_
                with_reducible refine (spec_l01In.calls (((rd_T86 l0_1 x3_2).f0).size : Int) 1 20 true _ A12.out).mono ?_
                rintro e w' ⟨rfl,⟨nd,rfl⟩⟩
                refine ⟨_,rfl,?_⟩
                refine hK.out _ _ ⟨(blk_cell BK135.out 0).trans rfl,(blk_cell BK135.out 1).trans rfl,(blk_cell BK135.out 2).trans rfl,(blk_cell BK131.out 0).trans rfl,(blk_cell BK131.out 1).trans rfl,((HB.out.cell (World.block_lt_of_cell? w _ hw137_0)).trans hw137_0),((HB.out.cell (World.block_lt_of_cell? w _ hw137_1)).trans hw137_1),((HB.out.cell (World.block_lt_of_cell? w _ hw137_2)).trans hw137_2)⟩ (fun hHeld => ?_)
                clear hK K
                refine norm_ (a':=?_) ?_ ?_;rotate_left
                ·show Act.put _ (some 31) _ = _;simp only [Act.put,q13,q23,q33,i64_w,i32_w];rfl
                refine pure_ (i:=4) (N:=some 32) (v:=?_) (a':=?_) #[Y3,Y3,Y3,Y3,Y3,Z3,Z3,Z3,Z3,Z3,Z3,Z3,Z3,Z3,Z3,Z3,Z3,Z3,Z3,Z3,Z3,Z3,Z3,Z3,Z3,Z3,Z3,Z3,Z3,Z3,Z3,Z3,Z3,Z3,Z3,Z3] rfl rfl (any_of HT_.out (by kernel_rfl)) (fun _ _ _ h => h) (Or.inl ⟨by rfl,?_⟩) ?_ ?_;rotate_left
                ·intro w';go_simp;with_reducible rfl
                rotate_left
                ·simp only [Act.put,q13,q23,q33,i64_w,i32_w];rfl
                refine pure_ (i:=5) (N:=some 33) (v:=?_) (a':=?_) #[Y3,Y3,Y3,Y3,Y3,Y3,Z3,Z3,Z3,Z3,Z3,Z3,Z3,Z3,Z3,Z3,Z3,Z3,Z3,Z3,Z3,Z3,Z3,Z3,Z3,Z3,Z3,Z3,Z3,Z3,Z3,Z3,Z3,Z3,Z3,Z3] rfl rfl (any_of HT_.out (by kernel_rfl)) (fun _ _ _ h => h) (Or.inl ⟨by rfl,?_⟩) ?_ ?_;rotate_left
                ·intro w';go_simp;with_reducible rfl
                rotate_left
                ·simp only [Act.put,q13,q23,q33,i64_w,i32_w];rfl
                refine pure_ (i:=6) (N:=some 34) (v:=?_) (a':=?_) #[Y3,Y3,Y3,Y3,Y3,Y3,Y3,Z3,Z3,Z3,Z3,Z3,Z3,Z3,Z3,Z3,Z3,Z3,Z3,Z3,Z3,Z3,Z3,Z3,Z3,Z3,Z3,Z3,Z3,Z3,Z3,Z3,Z3,Z3,Z3,Z3] rfl rfl (any_of HT_.out (by kernel_rfl)) (fun _ _ _ h => h) (Or.inl ⟨by rfl,?_⟩) ?_ ?_;rotate_left
                ·intro w';go_simp;with_reducible rfl
                rotate_left
                ·simp only [Act.put,q13,q23,q33,i64_w,i32_w];rfl
                refine pure_ (i:=7) (N:=some 35) (v:=?_) (a':=?_) #[Y3,Y3,Y3,Y3,Y3,Y3,Y3,Y3,Z3,Z3,Z3,Z3,Z3,Z3,Z3,Z3,Z3,Z3,Z3,Z3,Z3,Z3,Z3,Z3,Z3,Z3,Z3,Z3,Z3,Z3,Z3,Z3,Z3,Z3,Z3,Z3] rfl rfl (any_of HT_.out (by kernel_rfl)) (fun _ _ _ h => h) (Or.inl ⟨by rfl,?_⟩) ?_ ?_;rotate_left
                ·intro w';go_simp;with_reducible rfl
                rotate_left
                ·simp only [Act.put,q13,q23,q33,i64_w,i32_w];rfl
                refine pure_ (i:=8) (N:=some 36) (v:=?_) (a':=?_) #[Y3,Y3,Y3,Y3,Y3,Y3,Y3,Y3,Y3,Z3,Z3,Z3,Z3,Z3,Z3,Z3,Z3,Z3,Z3,Z3,Z3,Z3,Z3,Z3,Z3,Z3,Z3,Z3,Z3,Z3,Z3,Z3,Z3,Z3,Z3,Z3] rfl rfl (any_of HT_.out (by kernel_rfl)) (fun _ _ _ h => h) (Or.inl ⟨by rfl,?_⟩) ?_ ?_;rotate_left
                ·intro w';go_simp;with_reducible rfl
                rotate_left
                ·simp only [Act.put,q13,q23,q33,i64_w,i32_w];rfl
                refine pure_ (i:=9) (N:=some 37) (v:=?_) (a':=?_) #[Y3,Y3,Y3,Y3,Y3,Y3,Y3,Y3,Y3,Y3,Z3,Z3,Z3,Z3,Z3,Z3,Z3,Z3,Z3,Z3,Z3,Z3,Z3,Z3,Z3,Z3,Z3,Z3,Z3,Z3,Z3,Z3,Z3,Z3,Z3,Z3] rfl rfl (any_of HT_.out (by kernel_rfl)) (fun _ _ _ h => h) (Or.inl ⟨by rfl,?_⟩) ?_ ?_;rotate_left
                ·intro w';go_simp;with_reducible rfl
                rotate_left
                ·simp only [Act.put,q13,q23,q33,i64_w,i32_w];rfl
                refine pure_ (i:=11) (N:=some 39) (v:=?_) (a':=?_) #[Y3,Y3,Y3,Y3,Y3,Y3,Y3,Y3,Y3,Y3,Z3,Y3,Z3,Z3,Z3,Z3,Z3,Z3,Z3,Z3,Z3,Z3,Z3,Z3,Z3,Z3,Z3,Z3,Z3,Z3,Z3,Z3,Z3,Z3,Z3,Z3] rfl rfl (any_of HT_.out (by kernel_rfl)) (fun _ _ _ h => h) (Or.inl ⟨by rfl,?_⟩) ?_ ?_;rotate_left
                ·intro w';go_simp;with_reducible rfl
                rotate_left
                ·simp only [Act.put,q13,q23,q33,i64_w,i32_w];rfl
                refine pure_ (i:=12) (N:=some 40) (v:=?_) (a':=?_) #[Y3,Y3,Y3,Y3,Y3,Y3,Y3,Y3,Y3,Y3,Z3,Y3,Y3,Z3,Z3,Z3,Z3,Z3,Z3,Z3,Z3,Z3,Z3,Z3,Z3,Z3,Z3,Z3,Z3,Z3,Z3,Z3,Z3,Z3,Z3,Z3] rfl rfl (any_of HT_.out (by kernel_rfl)) (fun _ _ _ h => h) (Or.inl ⟨by rfl,?_⟩) ?_ ?_;rotate_left
                ·intro w';go_simp;with_reducible rfl
                rotate_left
                ·simp only [Act.put,q13,q23,q33,i64_w,i32_w];rfl
                refine pure_ (i:=16) (N:=some 44) (v:=?_) (a':=?_) #[Y3,Y3,Y3,Y3,Y3,Y3,Y3,Y3,Y3,Y3,Z3,Y3,Y3,Z3,Z3,Z3,Y3,Z3,Z3,Z3,Z3,Z3,Z3,Z3,Z3,Z3,Z3,Z3,Z3,Z3,Z3,Z3,Z3,Z3,Z3,Z3] rfl rfl (any_of HT_.out (by kernel_rfl)) (fun _ _ _ h => h) (Or.inl ⟨by rfl,?_⟩) ?_ ?_;rotate_left
                ·intro w';go_simp;with_reducible rfl
                rotate_left
                ·simp only [Act.put,q13,q23,q33,i64_w,i32_w];rfl
                refine take_ (i:=10) (N:=some 38) (v:=?_) (a':=?_) #[Y3,Y3,Y3,Y3,Y3,Y3,Y3,Y3,Y3,Y3,Y3,Y3,Y3,Z3,Z3,Z3,Y3,Z3,Z3,Z3,Z3,Z3,Z3,Z3,Z3,Z3,Z3,Z3,Z3,Z3,Z3,Z3,Z3,Z3,Z3,Z3] rfl rfl (take_ofW HT_.out HW_.out (by kernel_rfl)) (fun _ _ _ h => h) (Or.inl ⟨by rfl,?_⟩) hHeld ?_ ?_;rotate_left
                ·rintro w' ⟨s0,s1,s2,s3,s4,s5,s6,s7⟩
                 go_simp
                 with_reducible rfl
                rotate_left
                ·simp only [Act.put,q13,q23,q33,i64_w,i32_w];rfl
                refine pure_ (i:=13) (N:=some 41) (v:=?_) (a':=?_) #[Y3,Y3,Y3,Y3,Y3,Y3,Y3,Y3,Y3,Y3,Y3,Y3,Y3,Y3,Z3,Z3,Y3,Z3,Z3,Z3,Z3,Z3,Z3,Z3,Z3,Z3,Z3,Z3,Z3,Z3,Z3,Z3,Z3,Z3,Z3,Z3] rfl rfl (any_of HT_.out (by kernel_rfl)) (fun _ _ _ h => h) (Or.inl ⟨by rfl,?_⟩) ?_ ?_;rotate_left
                ·intro w';go_simp;with_reducible rfl
                rotate_left
                ·simp only [Act.put,q13,q23,q33,i64_w,i32_w];rfl
                refine pure_ (i:=14) (N:=some 42) (v:=?_) (a':=?_) #[Y3,Y3,Y3,Y3,Y3,Y3,Y3,Y3,Y3,Y3,Y3,Y3,Y3,Y3,Y3,Z3,Y3,Z3,Z3,Z3,Z3,Z3,Z3,Z3,Z3,Z3,Z3,Z3,Z3,Z3,Z3,Z3,Z3,Z3,Z3,Z3] rfl rfl (any_of HT_.out (by kernel_rfl)) (fun _ _ _ h => h) (Or.inl ⟨by rfl,?_⟩) ?_ ?_;rotate_left
                ·intro w';go_simp;with_reducible rfl
                rotate_left
                ·simp only [Act.put,q13,q23,q33,i64_w,i32_w];rfl
                refine take_ (i:=15) (N:=some 43) (v:=?_) (a':=?_) #[Y3,Y3,Y3,Y3,Y3,Y3,Y3,Y3,Y3,Y3,Y3,Y3,Y3,Y3,Y3,Y3,Y3,Z3,Z3,Z3,Z3,Z3,Z3,Z3,Z3,Z3,Z3,Z3,Z3,Z3,Z3,Z3,Z3,Z3,Z3,Z3] rfl rfl (take_ofW HT_.out HW_.out (by kernel_rfl)) (fun _ _ _ h => h) (Or.inl ⟨by rfl,?_⟩) hHeld ?_ ?_;rotate_left
                ·rintro w' ⟨s0,s1,s2,s3,s4,s5,s6,s7⟩
                 go_simp
                 with_reducible rfl
                rotate_left
                ·simp only [Act.put,q13,q23,q33,i64_w,i32_w];rfl
                refine take_ (i:=17) (N:=some 45) (v:=?_) (a':=?_) #[Y3,Y3,Y3,Y3,Y3,Y3,Y3,Y3,Y3,Y3,Y3,Y3,Y3,Y3,Y3,Y3,Y3,Y3,Z3,Z3,Z3,Z3,Z3,Z3,Z3,Z3,Z3,Z3,Z3,Z3,Z3,Z3,Z3,Z3,Z3,Z3] rfl rfl (take_ofW HT_.out HW_.out (by kernel_rfl)) (fun _ _ _ h => h) (Or.inl ⟨by rfl,?_⟩) hHeld ?_ ?_;rotate_left
                ·rintro w' ⟨s0,s1,s2,s3,s4,s5,s6,s7⟩
                 go_simp
                 with_reducible rfl
                rotate_left
                ·simp only [Act.put,q13,q23,q33,i64_w,i32_w];rfl
                refine pure_ (i:=18) (N:=some 46) (v:=?_) (a':=?_) #[Y3,Y3,Y3,Y3,Y3,Y3,Y3,Y3,Y3,Y3,Y3,Y3,Y3,Y3,Y3,Y3,Y3,Y3,Y3,Z3,Z3,Z3,Z3,Z3,Z3,Z3,Z3,Z3,Z3,Z3,Z3,Z3,Z3,Z3,Z3,Z3] rfl rfl (any_of HT_.out (by kernel_rfl)) (fun _ _ _ h => h) (Or.inl ⟨by rfl,?_⟩) ?_ ?_;rotate_left
                ·intro w';go_simp;with_reducible rfl
                rotate_left
                ·simp only [Act.put,q13,q23,q33,i64_w,i32_w];rfl
                refine pure_ (i:=19) (N:=some 47) (v:=?_) (a':=?_) #[Y3,Y3,Y3,Y3,Y3,Y3,Y3,Y3,Y3,Y3,Y3,Y3,Y3,Y3,Y3,Y3,Y3,Y3,Y3,Y3,Z3,Z3,Z3,Z3,Z3,Z3,Z3,Z3,Z3,Z3,Z3,Z3,Z3,Z3,Z3,Z3] rfl rfl (any_of HT_.out (by kernel_rfl)) (fun _ _ _ h => h) (Or.inl ⟨by rfl,?_⟩) ?_ ?_;rotate_left
                ·intro w';go_simp;with_reducible rfl
                rotate_left
                ·simp only [Act.put,q13,q23,q33,i64_w,i32_w];rfl
                refine pure_ (i:=20) (N:=some 48) (v:=?_) (a':=?_) #[Y3,Y3,Y3,Y3,Y3,Y3,Y3,Y3,Y3,Y3,Y3,Y3,Y3,Y3,Y3,Y3,Y3,Y3,Y3,Y3,Y3,Z3,Z3,Z3,Z3,Z3,Z3,Z3,Z3,Z3,Z3,Z3,Z3,Z3,Z3,Z3] rfl rfl (any_of HT_.out (by kernel_rfl)) (fun _ _ _ h => h) (Or.inl ⟨by rfl,?_⟩) ?_ ?_;rotate_left
                ·intro w';go_simp;with_reducible rfl
                rotate_left
                ·simp only [Act.put,q13,q23,q33,i64_w,i32_w];rfl
                refine pure_ (i:=21) (N:=some 49) (v:=?_) (a':=?_) #[Y3,Y3,Y3,Y3,Y3,Y3,Y3,Y3,Y3,Y3,Y3,Y3,Y3,Y3,Y3,Y3,Y3,Y3,Y3,Y3,Y3,Y3,Z3,Z3,Z3,Z3,Z3,Z3,Z3,Z3,Z3,Z3,Z3,Z3,Z3,Z3] rfl rfl (any_of HT_.out (by kernel_rfl)) (fun _ _ _ h => h) (Or.inl ⟨by rfl,?_⟩) ?_ ?_;rotate_left
                ·intro w';go_simp;with_reducible rfl
                rotate_left
                ·simp only [Act.put,q13,q23,q33,i64_w,i32_w];rfl
                refine pure_ (i:=22) (N:=some 50) (v:=?_) (a':=?_) #[Y3,Y3,Y3,Y3,Y3,Y3,Y3,Y3,Y3,Y3,Y3,Y3,Y3,Y3,Y3,Y3,Y3,Y3,Y3,Y3,Y3,Y3,Y3,Z3,Z3,Z3,Z3,Z3,Z3,Z3,Z3,Z3,Z3,Z3,Z3,Z3] rfl rfl (any_of HT_.out (by kernel_rfl)) (fun _ _ _ h => h) (Or.inl ⟨by rfl,?_⟩) ?_ ?_;rotate_left
                ·intro w';go_simp;with_reducible rfl
                rotate_left
                ·simp only [Act.put,q13,q23,q33,i64_w,i32_w];rfl
                refine take_ (i:=23) (N:=some 51) (v:=?_) (a':=?_) #[Y3,Y3,Y3,Y3,Y3,Y3,Y3,Y3,Y3,Y3,Y3,Y3,Y3,Y3,Y3,Y3,Y3,Y3,Y3,Y3,Y3,Y3,Y3,Y3,Z3,Z3,Z3,Z3,Z3,Z3,Z3,Z3,Z3,Z3,Z3,Z3] rfl rfl (take_ofW HT_.out HW_.out (by kernel_rfl)) (fun _ _ _ h => h) (Or.inl ⟨by rfl,?_⟩) hHeld ?_ ?_;rotate_left
                ·rintro w' ⟨s0,s1,s2,s3,s4,s5,s6,s7⟩
                 go_simp
                 with_reducible rfl
                rotate_left
                ·simp only [Act.put,q13,q23,q33,i64_w,i32_w];rfl
                refine pure_ (i:=24) (N:=some 52) (v:=?_) (a':=?_) #[Y3,Y3,Y3,Y3,Y3,Y3,Y3,Y3,Y3,Y3,Y3,Y3,Y3,Y3,Y3,Y3,Y3,Y3,Y3,Y3,Y3,Y3,Y3,Y3,Y3,Z3,Z3,Z3,Z3,Z3,Z3,Z3,Z3,Z3,Z3,Z3] rfl rfl (any_of HT_.out (by kernel_rfl)) (fun _ _ _ h => h) (Or.inl ⟨by rfl,?_⟩) ?_ ?_;rotate_left
                ·intro w';go_simp;with_reducible rfl
                rotate_left
                ·simp only [Act.put,q13,q23,q33,i64_w,i32_w];rfl
                refine pure_ (i:=25) (N:=some 53) (v:=?_) (a':=?_) #[Y3,Y3,Y3,Y3,Y3,Y3,Y3,Y3,Y3,Y3,Y3,Y3,Y3,Y3,Y3,Y3,Y3,Y3,Y3,Y3,Y3,Y3,Y3,Y3,Y3,Y3,Z3,Z3,Z3,Z3,Z3,Z3,Z3,Z3,Z3,Z3] rfl rfl (any_of HT_.out (by kernel_rfl)) (fun _ _ _ h => h) (Or.inl ⟨by rfl,?_⟩) ?_ ?_;rotate_left
                ·intro w';go_simp;with_reducible rfl
                rotate_left
                ·simp only [Act.put,q13,q23,q33,i64_w,i32_w];rfl
                refine pure_ (i:=26) (N:=some 54) (v:=?_) (a':=?_) #[Y3,Y3,Y3,Y3,Y3,Y3,Y3,Y3,Y3,Y3,Y3,Y3,Y3,Y3,Y3,Y3,Y3,Y3,Y3,Y3,Y3,Y3,Y3,Y3,Y3,Y3,Y3,Z3,Z3,Z3,Z3,Z3,Z3,Z3,Z3,Z3] rfl rfl (any_of HT_.out (by kernel_rfl)) (fun _ _ _ h => h) (Or.inl ⟨by rfl,?_⟩) ?_ ?_;rotate_left
                ·intro w';go_simp;with_reducible rfl
                rotate_left
                ·simp only [Act.put,q13,q23,q33,i64_w,i32_w];rfl
                refine pure_ (i:=27) (N:=some 55) (v:=?_) (a':=?_) #[Y3,Y3,Y3,Y3,Y3,Y3,Y3,Y3,Y3,Y3,Y3,Y3,Y3,Y3,Y3,Y3,Y3,Y3,Y3,Y3,Y3,Y3,Y3,Y3,Y3,Y3,Y3,Y3,Z3,Z3,Z3,Z3,Z3,Z3,Z3,Z3] rfl rfl (any_of HT_.out (by kernel_rfl)) (fun _ _ _ h => h) (Or.inl ⟨by rfl,?_⟩) ?_ ?_;rotate_left
                ·intro w';go_simp;with_reducible rfl
                rotate_left
                ·simp only [Act.put,q13,q23,q33,i64_w,i32_w];rfl
                refine pure_ (i:=28) (N:=some 56) (v:=?_) (a':=?_) #[Y3,Y3,Y3,Y3,Y3,Y3,Y3,Y3,Y3,Y3,Y3,Y3,Y3,Y3,Y3,Y3,Y3,Y3,Y3,Y3,Y3,Y3,Y3,Y3,Y3,Y3,Y3,Y3,Y3,Z3,Z3,Z3,Z3,Z3,Z3,Z3] rfl rfl (any_of HT_.out (by kernel_rfl)) (fun _ _ _ h => h) (Or.inl ⟨by rfl,?_⟩) ?_ ?_;rotate_left
                ·intro w';go_simp;with_reducible rfl
                rotate_left
                ·simp only [Act.put,q13,q23,q33,i64_w,i32_w];rfl
                refine take_ (i:=29) (N:=some 57) (v:=?_) (a':=?_) #[Y3,Y3,Y3,Y3,Y3,Y3,Y3,Y3,Y3,Y3,Y3,Y3,Y3,Y3,Y3,Y3,Y3,Y3,Y3,Y3,Y3,Y3,Y3,Y3,Y3,Y3,Y3,Y3,Y3,Y3,Z3,Z3,Z3,Z3,Z3,Z3] rfl rfl (take_ofW HT_.out HW_.out (by kernel_rfl)) (fun _ _ _ h => h) (Or.inl ⟨by rfl,?_⟩) hHeld ?_ ?_;rotate_left
                ·rintro w' ⟨s0,s1,s2,s3,s4,s5,s6,s7⟩
                 go_simp
                 with_reducible rfl
                rotate_left
                ·simp only [Act.put,q13,q23,q33,i64_w,i32_w];rfl
                refine pure_ (i:=30) (N:=some 58) (v:=?_) (a':=?_) #[Y3,Y3,Y3,Y3,Y3,Y3,Y3,Y3,Y3,Y3,Y3,Y3,Y3,Y3,Y3,Y3,Y3,Y3,Y3,Y3,Y3,Y3,Y3,Y3,Y3,Y3,Y3,Y3,Y3,Y3,Y3,Z3,Z3,Z3,Z3,Z3] rfl rfl (any_of HT_.out (by kernel_rfl)) (fun _ _ _ h => h) (Or.inl ⟨by rfl,?_⟩) ?_ ?_;rotate_left
                ·intro w';go_simp;with_reducible rfl
                rotate_left
                ·simp only [Act.put,q13,q23,q33,i64_w,i32_w];rfl
                refine pure_ (i:=31) (N:=some 59) (v:=?_) (a':=?_) #[Y3,Y3,Y3,Y3,Y3,Y3,Y3,Y3,Y3,Y3,Y3,Y3,Y3,Y3,Y3,Y3,Y3,Y3,Y3,Y3,Y3,Y3,Y3,Y3,Y3,Y3,Y3,Y3,Y3,Y3,Y3,Y3,Z3,Z3,Z3,Z3] rfl rfl (any_of HT_.out (by kernel_rfl)) (fun _ _ _ h => h) (Or.inl ⟨by rfl,?_⟩) ?_ ?_;rotate_left
                ·intro w';go_simp;with_reducible rfl
                rotate_left
                ·simp only [Act.put,q13,q23,q33,i64_w,i32_w];rfl
                refine take_ (i:=32) (N:=some 60) (v:=?_) (a':=?_) #[Y3,Y3,Y3,Y3,Y3,Y3,Y3,Y3,Y3,Y3,Y3,Y3,Y3,Y3,Y3,Y3,Y3,Y3,Y3,Y3,Y3,Y3,Y3,Y3,Y3,Y3,Y3,Y3,Y3,Y3,Y3,Y3,Y3,Z3,Z3,Z3] rfl rfl (take_ofW HT_.out HW_.out (by kernel_rfl)) (fun _ _ _ h => h) (Or.inl ⟨by rfl,?_⟩) hHeld ?_ ?_;rotate_left
                ·rintro w' ⟨s0,s1,s2,s3,s4,s5,s6,s7⟩
                 go_simp
                 with_reducible rfl
                rotate_left
                ·simp only [Act.put,q13,q23,q33,i64_w,i32_w];rfl
                refine pure_ (i:=33) (N:=some 61) (v:=?_) (a':=?_) #[Y3,Y3,Y3,Y3,Y3,Y3,Y3,Y3,Y3,Y3,Y3,Y3,Y3,Y3,Y3,Y3,Y3,Y3,Y3,Y3,Y3,Y3,Y3,Y3,Y3,Y3,Y3,Y3,Y3,Y3,Y3,Y3,Y3,Y3,Z3,Z3] rfl rfl (any_of HT_.out (by kernel_rfl)) (fun _ _ _ h => h) (Or.inl ⟨by rfl,?_⟩) ?_ ?_;rotate_left
                ·intro w';go_simp;with_reducible rfl
                rotate_left
                ·simp only [Act.put,q13,q23,q33,i64_w,i32_w];rfl
                refine pure_ (i:=34) (N:=some 62) (v:=?_) (a':=?_) #[Y3,Y3,Y3,Y3,Y3,Y3,Y3,Y3,Y3,Y3,Y3,Y3,Y3,Y3,Y3,Y3,Y3,Y3,Y3,Y3,Y3,Y3,Y3,Y3,Y3,Y3,Y3,Y3,Y3,Y3,Y3,Y3,Y3,Y3,Y3,Z3] rfl rfl (any_of HT_.out (by kernel_rfl)) (fun _ _ _ h => h) (Or.inl ⟨by rfl,?_⟩) ?_ ?_;rotate_left
                ·intro w';go_simp;with_reducible rfl
                rotate_left
                ·simp only [Act.put,q13,q23,q33,i64_w,i32_w];rfl
                refine pure_ (i:=35) (N:=some 63) (v:=?_) (a':=?_) #[Y3,Y3,Y3,Y3,Y3,Y3,Y3,Y3,Y3,Y3,Y3,Y3,Y3,Y3,Y3,Y3,Y3,Y3,Y3,Y3,Y3,Y3,Y3,Y3,Y3,Y3,Y3,Y3,Y3,Y3,Y3,Y3,Y3,Y3,Y3,Y3] rfl rfl (any_of HT_.out (by kernel_rfl)) (fun _ _ _ h => h) (Or.inl ⟨by rfl,?_⟩) ?_ ?_;rotate_left
                ·intro w';go_simp;with_reducible rfl
                rotate_left
                ·simp only [Act.put,q13,q23,q33,i64_w,i32_w];rfl
                refine done_ (done_of HT_.out (by kernel_rfl)) ?_
                try go_wp2
                go_roundg k2
                case measure => have:=HJ1.out;have:=HK2.out;omega
                case rel => exact ⟨(wrap64 (x3_2 + 1)),(by first | rfl | (simp;done) | (simp [*];done)),H',⟨by have:=HJ1.out;have:=HK2.out;omega⟩,⟨by (with_reducible repeat (first | refine blk_drewN ?_ _ | refine blk_drew ?_ | refine blk_alloc ?_ _));exact BK131.out⟩,⟨by repeat (first | (with_reducible first | exact HB.out | apply below_alloc | apply pw_below_drewN | apply below_drew1 | refine below_set ?_ GE131.out | refine below_set ?_ GE135.out) | exact HB.out)⟩⟩
               ·rw [if_neg c28] at H
                have c28b0 : (((rd_T86 l0_1 x3_2).f1).toList == ([] : List UInt8)) = false:=beq_eq_false_iff_ne.mpr c28
                have c28b1 : (((rd_T86 l0_1 x3_2).f1).toList != ([] : List UInt8)) = true:=bne_iff_ne.mpr c28
                obtain rfl:=Option.some.inj H
                have hcz35_0 : wr.cell? ⟨gb131,0,none⟩ = some (.int .i64 a0_0):=(blk_cell BK131.out 0).trans rfl
                have hcz35_1 : wr.cell? ⟨gb131,1,none⟩ = some (.slice A0_1 l0_1.length c0_1):=(blk_cell BK131.out 1).trans rfl
                have hfz35_0:=blk_frozen BK131.out 0
                have hfz35_1:=blk_frozen BK131.out 1
                have p134 : 0 ≤ (x3_2 : Int):=of_decide_eq_true (by first | (with_reducible assumption) | assumption)
                have q134 : x3_2 < (l0_1.length : Int):=of_decide_eq_true (by first | (with_reducible assumption) | assumption)
                obtain ⟨ad134,e134,hx134_0,hx134_1,hx134_2⟩:=at_T86 HR0_1.out x3_2 p134 q134
                (try rw [← Nbq26.out] at hx134_2)
                cases e134
                replace hx134_0:=(HB.out.cell (World.block_lt_of_cell? w _ hx134_0)).trans hx134_0
                replace hx134_1:=(HB.out.cell (World.block_lt_of_cell? w _ hx134_1)).trans hx134_1
                replace hx134_2:=(HB.out.cell (World.block_lt_of_cell? w _ hx134_2)).trans hx134_2
                replace p134:=eq_true p134
                replace q134:=eq_true q134
                try go_wp2_with (first | ((with_reducible refine gate_dst (N:=4) rfl ?_);(try (refine gate_guard (by rfl) ?_;dsimp only));refine box_event ?hg (N:=4) ?hd (cs:=#[.string (⟨#[]⟩ : ByteArray),.string (⟨#[]⟩ : ByteArray),.bool false]) (t:=86) ?hr ?_;(case hd => rfl);(case hg => rfl);(case hr => first | (go_simp;done) | (go_simp;rfl));intro gb135 hg w36 hbox hb;have n0_:=Aside0.mk (blk_below (g:=gb131) (o:=.cells #[.int .i64 a0_0,.slice (some ad134) l0_1.length c0_1] 47 (0,0)) (by (with_reducible repeat (first | refine blk_drewN ?_ _ | refine blk_drew ?_ | refine blk_alloc ?_ _));exact BK131.out) hb);have n1_:=Aside0.mk (below_step (by repeat (first | (with_reducible first | exact HB.out | apply below_alloc | apply pw_below_drewN | apply below_drew1 | refine below_set ?_ GE131.out) | exact HB.out)) hb);have n2_:=Aside0.mk (hbox);have n3_:=Aside0.mk ((by rw [hg];exact (below_size (by repeat (first | (with_reducible first | exact HB.out | apply below_alloc | apply pw_below_drewN | apply below_drew1 | refine below_set ?_ GE131.out) | exact HB.out))) : w.heap.size ≤ gb135));have n4_:=Aside0.mk ((by rw [hg];exact (below_size (by repeat (first | (with_reducible first | exact HB.out | apply below_alloc | apply pw_below_drewN | apply below_drew1 | refine below_set ?_ GE131.out) | exact HB.out))) : w.heap.size ≤ gb135));have n5_:=Aside0.mk ((by rw [hg];exact Nat.ne_of_lt (blk_lt (g:=gb131) (o:=.cells #[.int .i64 a0_0,.slice (some ad134) l0_1.length c0_1] 47 (0,0)) (by (with_reducible repeat (first | refine blk_drewN ?_ _ | refine blk_drew ?_ | refine blk_alloc ?_ _));exact BK131.out)) : gb131 ≠ gb135));have n6_:=Aside0.mk ((by rw [hg];exact Nat.ne_of_gt (blk_lt (g:=gb131) (o:=.cells #[.int .i64 a0_0,.slice (some ad134) l0_1.length c0_1] 47 (0,0)) (by (with_reducible repeat (first | refine blk_drewN ?_ _ | refine blk_drew ?_ | refine blk_alloc ?_ _));exact BK131.out)) : gb135 ≠ gb131));clear BK131;clear HB;have BK131:=n0_;have HB:=n1_;have BK135:=n2_;have GW135:=n3_;have GE135:=n4_;have NB131_135:=n5_;have NB135_131:=n6_;clear n0_ n1_ n2_ n3_ n4_ n5_ n6_;clear hb hbox hg;have hnb37:=NB135_131.out;have hnc37:=NB131_135.out;have hcz38_0 : w36.cell? ⟨gb135,0,none⟩ = some (.string (⟨#[]⟩ : ByteArray)):=(blk_cell BK135.out 0).trans rfl;have hcz38_1 : w36.cell? ⟨gb135,1,none⟩ = some (.string (⟨#[]⟩ : ByteArray)):=(blk_cell BK135.out 1).trans rfl;have hcz38_2 : w36.cell? ⟨gb135,2,none⟩ = some (.bool false):=(blk_cell BK135.out 2).trans rfl;have hfz38_0:=blk_frozen BK135.out 0;have hfz38_1:=blk_frozen BK135.out 1;have hfz38_2:=blk_frozen BK135.out 2))
                have n0_ : Aside0 ((((w36.setCell ⟨gb135,0,none⟩ (.string ((rd_T86 l0_1 x3_2).f0))).setCell ⟨gb135,1,none⟩ (.string ((rd_T86 l0_1 x3_2).f1))).setCell ⟨gb135,2,none⟩ (.bool true)).heap[gb131]? = some (.cells #[.int .i64 a0_0,.slice (some ad134) l0_1.length c0_1] 47 (0,0))):=⟨by (with_reducible repeat (first | refine blk_drewN ?_ _ | refine blk_drew ?_ | refine blk_alloc ?_ _));refine blk_far ?_ NB131_135.out _;(with_reducible repeat (first | refine blk_drewN ?_ _ | refine blk_drew ?_ | refine blk_alloc ?_ _));refine blk_far ?_ NB131_135.out _;(with_reducible repeat (first | refine blk_drewN ?_ _ | refine blk_drew ?_ | refine blk_alloc ?_ _));refine blk_far ?_ NB131_135.out _;(with_reducible repeat (first | refine blk_drewN ?_ _ | refine blk_drew ?_ | refine blk_alloc ?_ _));exact BK131.out⟩
                have n1_ : Aside0 ((((w36.setCell ⟨gb135,0,none⟩ (.string ((rd_T86 l0_1 x3_2).f0))).setCell ⟨gb135,1,none⟩ (.string ((rd_T86 l0_1 x3_2).f1))).setCell ⟨gb135,2,none⟩ (.bool true)).heap[gb135]? = some (.cells #[.string ((rd_T86 l0_1 x3_2).f0),.string ((rd_T86 l0_1 x3_2).f1),.bool true] 86 (0,0))):=⟨by (with_reducible repeat (first | refine blk_drewN ?_ _ | refine blk_drew ?_ | refine blk_alloc ?_ _));refine blk_put (cs:=#[.string ((rd_T86 l0_1 x3_2).f0),.string ((rd_T86 l0_1 x3_2).f1),.bool false]) ?_ 2 _ rfl;(with_reducible repeat (first | refine blk_drewN ?_ _ | refine blk_drew ?_ | refine blk_alloc ?_ _));refine blk_put (cs:=#[.string ((rd_T86 l0_1 x3_2).f0),.string (⟨#[]⟩ : ByteArray),.bool false]) ?_ 1 _ rfl;(with_reducible repeat (first | refine blk_drewN ?_ _ | refine blk_drew ?_ | refine blk_alloc ?_ _));refine blk_put (cs:=#[.string (⟨#[]⟩ : ByteArray),.string (⟨#[]⟩ : ByteArray),.bool false]) ?_ 0 _ rfl;(with_reducible repeat (first | refine blk_drewN ?_ _ | refine blk_drew ?_ | refine blk_alloc ?_ _));exact BK135.out⟩
                have n2_ : Aside0 (Below w.heap.size w (((w36.setCell ⟨gb135,0,none⟩ (.string ((rd_T86 l0_1 x3_2).f0))).setCell ⟨gb135,1,none⟩ (.string ((rd_T86 l0_1 x3_2).f1))).setCell ⟨gb135,2,none⟩ (.bool true))):=⟨by repeat (first | (with_reducible first | exact HB.out | apply below_alloc | apply pw_below_drewN | apply below_drew1 | refine below_set ?_ GE131.out | refine below_set ?_ GE135.out) | exact HB.out)⟩
                (try clear BK131)
                (try clear BK135)
                (try clear HB)
                generalize (((w36.setCell ⟨gb135,0,none⟩ (.string ((rd_T86 l0_1 x3_2).f0))).setCell ⟨gb135,1,none⟩ (.string ((rd_T86 l0_1 x3_2).f1))).setCell ⟨gb135,2,none⟩ (.bool true)) = w39 at n0_ n1_ n2_ ⊢
                have BK131:=n0_
                have BK135:=n1_
                have HB:=n2_
                clear n0_ n1_ n2_
                have n0_:=Aside0.mk (blk_drew BK131.out)
                have n1_:=Aside0.mk (blk_drew BK135.out)
                have n2_:=Aside0.mk (below_drew1 HB.out)
                clear BK131
                clear BK135
                clear HB
                have BK131:=n0_
                have BK135:=n1_
                have HB:=n2_
                clear n0_ n1_ n2_
                have p137 : 0 ≤ ((ji15) : Int):=of_decide_eq_true (by first | (with_reducible assumption) | assumption)
                have q137 : (ji15) < (l0_1.length : Int):=of_decide_eq_true (by first | (with_reducible assumption) | assumption)
                obtain ⟨ad137,e137,hx137_0,hx137_1,hx137_2⟩:=at_T86 HR0_1.out (ji15) p137 q137
                have hw137_2:=hx137_2
                have hw137_1:=hx137_1
                have hw137_0:=hx137_0
                (try rw [← Nbq26.out] at hx137_2)
                obtain rfl : ad134 = ad137:=(by injection e137)
                replace hx137_0:=(HB.out.cell (World.block_lt_of_cell? w _ hx137_0)).trans hx137_0
                replace hx137_1:=(HB.out.cell (World.block_lt_of_cell? w _ hx137_1)).trans hx137_1
                replace hx137_2:=(HB.out.cell (World.block_lt_of_cell? w _ hx137_2)).trans hx137_2
                replace p137:=eq_true p137
                replace q137:=eq_true q137
                refine start_ (n:=36) (S:=fun w' => w'.cell? ⟨gb135,0,none⟩ = some (.string ((rd_T86 l0_1 x3_2).f0)) ∧ w'.cell? ⟨gb135,1,none⟩ = some (.string ((rd_T86 l0_1 x3_2).f1)) ∧ w'.cell? ⟨gb135,2,none⟩ = some (.bool true) ∧ w'.cell? ⟨gb131,0,none⟩ = some (.int .i64 a0_0) ∧ w'.cell? ⟨gb131,1,none⟩ = some (.slice (some ad134) l0_1.length c0_1) ∧ w'.cell? (ad134.add (((ji15)).toNat * 3)) = some (.string ((rd_T86 l0_1 (ji15)).f0)) ∧ w'.cell? ⟨(ad134.add (((ji15)).toNat * 3)).block,(ad134.add (((ji15)).toNat * 3)).off + 1,none⟩ = some (.string ((rd_T86 l0_1 (ji15)).f1)) ∧ w'.cell? ⟨(ad134.add (((ji15)).toNat * 3)).block,(ad134.add (((ji15)).toNat * 3)).off + 2,none⟩ = some (.bool ((rd_T86 l0_1 (ji15)).f2))) (ds:=[]) #[Z3,Z3,Z3,Z3,Z3,Z3,Z3,Z3,Z3,Z3,Z3,Z3,Z3,Z3,Z3,Z3,Z3,Z3,Z3,Z3,Z3,Z3,Z3,Z3,Z3,Z3,Z3,Z3,Z3,Z3,Z3,Z3,Z3,Z3,Z3,Z3] (by kernel_rfl) rfl rfl ⟨(blk_cell BK135.out 0).trans rfl,(blk_cell BK135.out 1).trans rfl,(blk_cell BK135.out 2).trans rfl,(blk_cell BK131.out 0).trans rfl,(blk_cell BK131.out 1).trans rfl,((HB.out.cell (World.block_lt_of_cell? w _ hw137_0)).trans hw137_0),((HB.out.cell (World.block_lt_of_cell? w _ hw137_1)).trans hw137_1),((HB.out.cell (World.block_lt_of_cell? w _ hw137_2)).trans hw137_2)⟩ (fun hHeld => ?_);refine with_tabW spec_BatchOk.tab7 spec_BatchOk.bits7 (fun HT_ HW_ => ?_)
                generalize w39.drew = w40 at BK131 BK135 HB hx137_0 hx137_1 hx137_2 hHeld ⊢
                refine pure_ (i:=0) (N:=some 28) (v:=?_) (a':=?_) #[Y3,Z3,Z3,Z3,Z3,Z3,Z3,Z3,Z3,Z3,Z3,Z3,Z3,Z3,Z3,Z3,Z3,Z3,Z3,Z3,Z3,Z3,Z3,Z3,Z3,Z3,Z3,Z3,Z3,Z3,Z3,Z3,Z3,Z3,Z3,Z3] rfl rfl (any_of HT_.out (by kernel_rfl)) (fun _ _ _ h => h) (Or.inl ⟨by rfl,?_⟩) ?_ ?_;rotate_left
                ·intro w';go_simp;with_reducible rfl
                rotate_left
                ·simp only [Act.put,q13,q23,q33,i64_w,i32_w];rfl
                refine take_ (i:=1) (N:=some 29) (v:=?_) (a':=?_) #[Y3,Y3,Z3,Z3,Z3,Z3,Z3,Z3,Z3,Z3,Z3,Z3,Z3,Z3,Z3,Z3,Z3,Z3,Z3,Z3,Z3,Z3,Z3,Z3,Z3,Z3,Z3,Z3,Z3,Z3,Z3,Z3,Z3,Z3,Z3,Z3] rfl rfl (take_ofW HT_.out HW_.out (by kernel_rfl)) (fun _ _ _ h => h) (Or.inl ⟨by rfl,?_⟩) hHeld ?_ ?_;rotate_left
                ·rintro w' ⟨s0,s1,s2,s3,s4,s5,s6,s7⟩
                 go_simp
                 with_reducible rfl
                rotate_left
                ·simp only [Act.put,q13,q23,q33,i64_w,i32_w];rfl
                refine pure_ (i:=2) (N:=some 30) (v:=?_) (a':=?_) #[Y3,Y3,Y3,Z3,Z3,Z3,Z3,Z3,Z3,Z3,Z3,Z3,Z3,Z3,Z3,Z3,Z3,Z3,Z3,Z3,Z3,Z3,Z3,Z3,Z3,Z3,Z3,Z3,Z3,Z3,Z3,Z3,Z3,Z3,Z3,Z3] rfl rfl (any_of HT_.out (by kernel_rfl)) (fun _ _ _ h => h) (Or.inl ⟨by rfl,?_⟩) ?_ ?_;rotate_left
                ·intro w';go_simp;with_reducible rfl
                rotate_left
                ·simp only [Act.put,q13,q23,q33,i64_w,i32_w];rfl
                refine one_ (i:=3) (N:=some 31) #[Y3,Y3,Y3,Y3,Z3,Z3,Z3,Z3,Z3,Z3,Z3,Z3,Z3,Z3,Z3,Z3,Z3,Z3,Z3,Z3,Z3,Z3,Z3,Z3,Z3,Z3,Z3,Z3,Z3,Z3,Z3,Z3,Z3,Z3,Z3,Z3] rfl rfl (one_of HT_.out (by kernel_rfl)) (by decide) (fun K hK => ?_)
                refine goes_ Try.func43 (by kernel_rfl) rfl #[.int .i64 (((rd_T86 l0_1 x3_2).f0).size : Int),.int .i64 1,.int .i64 20] (by rfl) rfl rfl (by (try simp only [List.map_toArray,List.map_cons,List.map_nil]);first | done | rfl | (simp only [List.length_drop,List.length_take];rfl)) ?_
                with_reducible refine (spec_l01In.calls (((rd_T86 l0_1 x3_2).f0).size : Int) 1 20 true _ A12.out).mono ?_
                rintro e w' ⟨rfl,⟨nd,rfl⟩⟩
                refine ⟨_,rfl,?_⟩
                refine hK.out _ _ ⟨(blk_cell BK135.out 0).trans rfl,(blk_cell BK135.out 1).trans rfl,(blk_cell BK135.out 2).trans rfl,(blk_cell BK131.out 0).trans rfl,(blk_cell BK131.out 1).trans rfl,((HB.out.cell (World.block_lt_of_cell? w _ hw137_0)).trans hw137_0),((HB.out.cell (World.block_lt_of_cell? w _ hw137_1)).trans hw137_1),((HB.out.cell (World.block_lt_of_cell? w _ hw137_2)).trans hw137_2)⟩ (fun hHeld => ?_)
                clear hK K
                refine norm_ (a':=?_) ?_ ?_;rotate_left
                ·show Act.put _ (some 31) _ = _;simp only [Act.put,q13,q23,q33,i64_w,i32_w];rfl
                refine pure_ (i:=4) (N:=some 32) (v:=?_) (a':=?_) #[Y3,Y3,Y3,Y3,Y3,Z3,Z3,Z3,Z3,Z3,Z3,Z3,Z3,Z3,Z3,Z3,Z3,Z3,Z3,Z3,Z3,Z3,Z3,Z3,Z3,Z3,Z3,Z3,Z3,Z3,Z3,Z3,Z3,Z3,Z3,Z3] rfl rfl (any_of HT_.out (by kernel_rfl)) (fun _ _ _ h => h) (Or.inl ⟨by rfl,?_⟩) ?_ ?_;rotate_left
                ·intro w';go_simp;with_reducible rfl
                rotate_left
                ·simp only [Act.put,q13,q23,q33,i64_w,i32_w];rfl
                refine pure_ (i:=5) (N:=some 33) (v:=?_) (a':=?_) #[Y3,Y3,Y3,Y3,Y3,Y3,Z3,Z3,Z3,Z3,Z3,Z3,Z3,Z3,Z3,Z3,Z3,Z3,Z3,Z3,Z3,Z3,Z3,Z3,Z3,Z3,Z3,Z3,Z3,Z3,Z3,Z3,Z3,Z3,Z3,Z3] rfl rfl (any_of HT_.out (by kernel_rfl)) (fun _ _ _ h => h) (Or.inl ⟨by rfl,?_⟩) ?_ ?_;rotate_left
                ·intro w';go_simp;with_reducible rfl
                rotate_left
                ·simp only [Act.put,q13,q23,q33,i64_w,i32_w];rfl
                refine pure_ (i:=6) (N:=some 34) (v:=?_) (a':=?_) #[Y3,Y3,Y3,Y3,Y3,Y3,Y3,Z3,Z3,Z3,Z3,Z3,Z3,Z3,Z3,Z3,Z3,Z3,Z3,Z3,Z3,Z3,Z3,Z3,Z3,Z3,Z3,Z3,Z3,Z3,Z3,Z3,Z3,Z3,Z3,Z3] rfl rfl (any_of HT_.out (by kernel_rfl)) (fun _ _ _ h => h) (Or.inl ⟨by rfl,?_⟩) ?_ ?_;rotate_left
                ·intro w';go_simp;with_reducible rfl
                rotate_left
                ·simp only [Act.put,q13,q23,q33,i64_w,i32_w];rfl
                refine pure_ (i:=7) (N:=some 35) (v:=?_) (a':=?_) #[Y3,Y3,Y3,Y3,Y3,Y3,Y3,Y3,Z3,Z3,Z3,Z3,Z3,Z3,Z3,Z3,Z3,Z3,Z3,Z3,Z3,Z3,Z3,Z3,Z3,Z3,Z3,Z3,Z3,Z3,Z3,Z3,Z3,Z3,Z3,Z3] rfl rfl (any_of HT_.out (by kernel_rfl)) (fun _ _ _ h => h) (Or.inl ⟨by rfl,?_⟩) ?_ ?_;rotate_left
                ·intro w';go_simp;with_reducible rfl
                rotate_left
                ·simp only [Act.put,q13,q23,q33,i64_w,i32_w];rfl
                refine pure_ (i:=8) (N:=some 36) (v:=?_) (a':=?_) #[Y3,Y3,Y3,Y3,Y3,Y3,Y3,Y3,Y3,Z3,Z3,Z3,Z3,Z3,Z3,Z3,Z3,Z3,Z3,Z3,Z3,Z3,Z3,Z3,Z3,Z3,Z3,Z3,Z3,Z3,Z3,Z3,Z3,Z3,Z3,Z3] rfl rfl (any_of HT_.out (by kernel_rfl)) (fun _ _ _ h => h) (Or.inl ⟨by rfl,?_⟩) ?_ ?_;rotate_left
                ·intro w';go_simp;with_reducible rfl
                rotate_left
                ·simp only [Act.put,q13,q23,q33,i64_w,i32_w];rfl
                refine pure_ (i:=9) (N:=some 37) (v:=?_) (a':=?_) #[Y3,Y3,Y3,Y3,Y3,Y3,Y3,Y3,Y3,Y3,Z3,Z3,Z3,Z3,Z3,Z3,Z3,Z3,Z3,Z3,Z3,Z3,Z3,Z3,Z3,Z3,Z3,Z3,Z3,Z3,Z3,Z3,Z3,Z3,Z3,Z3] rfl rfl (any_of HT_.out (by kernel_rfl)) (fun _ _ _ h => h) (Or.inl ⟨by rfl,?_⟩) ?_ ?_;rotate_left
                ·intro w';go_simp;with_reducible rfl
                rotate_left
                ·simp only [Act.put,q13,q23,q33,i64_w,i32_w];rfl
                refine pure_ (i:=11) (N:=some 39) (v:=?_) (a':=?_) #[Y3,Y3,Y3,Y3,Y3,Y3,Y3,Y3,Y3,Y3,Z3,Y3,Z3,Z3,Z3,Z3,Z3,Z3,Z3,Z3,Z3,Z3,Z3,Z3,Z3,Z3,Z3,Z3,Z3,Z3,Z3,Z3,Z3,Z3,Z3,Z3] rfl rfl (any_of HT_.out (by kernel_rfl)) (fun _ _ _ h => h) (Or.inl ⟨by rfl,?_⟩) ?_ ?_;rotate_left
                ·intro w';go_simp;with_reducible rfl
                rotate_left
                ·simp only [Act.put,q13,q23,q33,i64_w,i32_w];rfl
                refine pure_ (i:=12) (N:=some 40) (v:=?_) (a':=?_) #[Y3,Y3,Y3,Y3,Y3,Y3,Y3,Y3,Y3,Y3,Z3,Y3,Y3,Z3,Z3,Z3,Z3,Z3,Z3,Z3,Z3,Z3,Z3,Z3,Z3,Z3,Z3,Z3,Z3,Z3,Z3,Z3,Z3,Z3,Z3,Z3] rfl rfl (any_of HT_.out (by kernel_rfl)) (fun _ _ _ h => h) (Or.inl ⟨by rfl,?_⟩) ?_ ?_;rotate_left
                ·intro w';go_simp;with_reducible rfl
                rotate_left
                ·simp only [Act.put,q13,q23,q33,i64_w,i32_w];rfl
                refine pure_ (i:=16) (N:=some 44) (v:=?_) (a':=?_) #[Y3,Y3,Y3,Y3,Y3,Y3,Y3,Y3,Y3,Y3,Z3,Y3,Y3,Z3,Z3,Z3,Y3,Z3,Z3,Z3,Z3,Z3,Z3,Z3,Z3,Z3,Z3,Z3,Z3,Z3,Z3,Z3,Z3,Z3,Z3,Z3] rfl rfl (any_of HT_.out (by kernel_rfl)) (fun _ _ _ h => h) (Or.inl ⟨by rfl,?_⟩) ?_ ?_;rotate_left
                ·intro w';go_simp;with_reducible rfl
                rotate_left
                ·simp only [Act.put,q13,q23,q33,i64_w,i32_w];rfl
                refine take_ (i:=10) (N:=some 38) (v:=?_) (a':=?_) #[Y3,Y3,Y3,Y3,Y3,Y3,Y3,Y3,Y3,Y3,Y3,Y3,Y3,Z3,Z3,Z3,Y3,Z3,Z3,Z3,Z3,Z3,Z3,Z3,Z3,Z3,Z3,Z3,Z3,Z3,Z3,Z3,Z3,Z3,Z3,Z3] rfl rfl (take_ofW HT_.out HW_.out (by kernel_rfl)) (fun _ _ _ h => h) (Or.inl ⟨by rfl,?_⟩) hHeld ?_ ?_;rotate_left
                ·rintro w' ⟨s0,s1,s2,s3,s4,s5,s6,s7⟩
                 go_simp
                 with_reducible rfl
                rotate_left
                ·simp only [Act.put,q13,q23,q33,i64_w,i32_w];rfl
                refine pure_ (i:=13) (N:=some 41) (v:=?_) (a':=?_) #[Y3,Y3,Y3,Y3,Y3,Y3,Y3,Y3,Y3,Y3,Y3,Y3,Y3,Y3,Z3,Z3,Y3,Z3,Z3,Z3,Z3,Z3,Z3,Z3,Z3,Z3,Z3,Z3,Z3,Z3,Z3,Z3,Z3,Z3,Z3,Z3] rfl rfl (any_of HT_.out (by kernel_rfl)) (fun _ _ _ h => h) (Or.inl ⟨by rfl,?_⟩) ?_ ?_;rotate_left
                ·intro w';go_simp;with_reducible rfl
                rotate_left
                ·simp only [Act.put,q13,q23,q33,i64_w,i32_w];rfl
                refine pure_ (i:=14) (N:=some 42) (v:=?_) (a':=?_) #[Y3,Y3,Y3,Y3,Y3,Y3,Y3,Y3,Y3,Y3,Y3,Y3,Y3,Y3,Y3,Z3,Y3,Z3,Z3,Z3,Z3,Z3,Z3,Z3,Z3,Z3,Z3,Z3,Z3,Z3,Z3,Z3,Z3,Z3,Z3,Z3] rfl rfl (any_of HT_.out (by kernel_rfl)) (fun _ _ _ h => h) (Or.inl ⟨by rfl,?_⟩) ?_ ?_;rotate_left
                ·intro w';go_simp;with_reducible rfl
                rotate_left
                ·simp only [Act.put,q13,q23,q33,i64_w,i32_w];rfl
                refine take_ (i:=15) (N:=some 43) (v:=?_) (a':=?_) #[Y3,Y3,Y3,Y3,Y3,Y3,Y3,Y3,Y3,Y3,Y3,Y3,Y3,Y3,Y3,Y3,Y3,Z3,Z3,Z3,Z3,Z3,Z3,Z3,Z3,Z3,Z3,Z3,Z3,Z3,Z3,Z3,Z3,Z3,Z3,Z3] rfl rfl (take_ofW HT_.out HW_.out (by kernel_rfl)) (fun _ _ _ h => h) (Or.inl ⟨by rfl,?_⟩) hHeld ?_ ?_;rotate_left
                ·rintro w' ⟨s0,s1,s2,s3,s4,s5,s6,s7⟩
                 go_simp
                 with_reducible rfl
                rotate_left
                ·simp only [Act.put,q13,q23,q33,i64_w,i32_w];rfl
                refine take_ (i:=17) (N:=some 45) (v:=?_) (a':=?_) #[Y3,Y3,Y3,Y3,Y3,Y3,Y3,Y3,Y3,Y3,Y3,Y3,Y3,Y3,Y3,Y3,Y3,Y3,Z3,Z3,Z3,Z3,Z3,Z3,Z3,Z3,Z3,Z3,Z3,Z3,Z3,Z3,Z3,Z3,Z3,Z3] rfl rfl (take_ofW HT_.out HW_.out (by kernel_rfl)) (fun _ _ _ h => h) (Or.inl ⟨by rfl,?_⟩) hHeld ?_ ?_;rotate_left
                ·rintro w' ⟨s0,s1,s2,s3,s4,s5,s6,s7⟩
                 go_simp
                 with_reducible rfl
                rotate_left
                ·simp only [Act.put,q13,q23,q33,i64_w,i32_w];rfl
                refine pure_ (i:=18) (N:=some 46) (v:=?_) (a':=?_) #[Y3,Y3,Y3,Y3,Y3,Y3,Y3,Y3,Y3,Y3,Y3,Y3,Y3,Y3,Y3,Y3,Y3,Y3,Y3,Z3,Z3,Z3,Z3,Z3,Z3,Z3,Z3,Z3,Z3,Z3,Z3,Z3,Z3,Z3,Z3,Z3] rfl rfl (any_of HT_.out (by kernel_rfl)) (fun _ _ _ h => h) (Or.inl ⟨by rfl,?_⟩) ?_ ?_;rotate_left
                ·intro w';go_simp;with_reducible rfl
                rotate_left
                ·simp only [Act.put,q13,q23,q33,i64_w,i32_w];rfl
                refine pure_ (i:=19) (N:=some 47) (v:=?_) (a':=?_) #[Y3,Y3,Y3,Y3,Y3,Y3,Y3,Y3,Y3,Y3,Y3,Y3,Y3,Y3,Y3,Y3,Y3,Y3,Y3,Y3,Z3,Z3,Z3,Z3,Z3,Z3,Z3,Z3,Z3,Z3,Z3,Z3,Z3,Z3,Z3,Z3] rfl rfl (any_of HT_.out (by kernel_rfl)) (fun _ _ _ h => h) (Or.inl ⟨by rfl,?_⟩) ?_ ?_;rotate_left
                ·intro w';go_simp;with_reducible rfl
                rotate_left
                ·simp only [Act.put,q13,q23,q33,i64_w,i32_w];rfl
                refine pure_ (i:=20) (N:=some 48) (v:=?_) (a':=?_) #[Y3,Y3,Y3,Y3,Y3,Y3,Y3,Y3,Y3,Y3,Y3,Y3,Y3,Y3,Y3,Y3,Y3,Y3,Y3,Y3,Y3,Z3,Z3,Z3,Z3,Z3,Z3,Z3,Z3,Z3,Z3,Z3,Z3,Z3,Z3,Z3] rfl rfl (any_of HT_.out (by kernel_rfl)) (fun _ _ _ h => h) (Or.inl ⟨by rfl,?_⟩) ?_ ?_;rotate_left
                ·intro w';go_simp;with_reducible rfl
                rotate_left
                ·simp only [Act.put,q13,q23,q33,i64_w,i32_w];rfl
                refine pure_ (i:=21) (N:=some 49) (v:=?_) (a':=?_) #[Y3,Y3,Y3,Y3,Y3,Y3,Y3,Y3,Y3,Y3,Y3,Y3,Y3,Y3,Y3,Y3,Y3,Y3,Y3,Y3,Y3,Y3,Z3,Z3,Z3,Z3,Z3,Z3,Z3,Z3,Z3,Z3,Z3,Z3,Z3,Z3] rfl rfl (any_of HT_.out (by kernel_rfl)) (fun _ _ _ h => h) (Or.inl ⟨by rfl,?_⟩) ?_ ?_;rotate_left
                ·intro w';go_simp;with_reducible rfl
                rotate_left
                ·simp only [Act.put,q13,q23,q33,i64_w,i32_w];rfl
                refine pure_ (i:=22) (N:=some 50) (v:=?_) (a':=?_) #[Y3,Y3,Y3,Y3,Y3,Y3,Y3,Y3,Y3,Y3,Y3,Y3,Y3,Y3,Y3,Y3,Y3,Y3,Y3,Y3,Y3,Y3,Y3,Z3,Z3,Z3,Z3,Z3,Z3,Z3,Z3,Z3,Z3,Z3,Z3,Z3] rfl rfl (any_of HT_.out (by kernel_rfl)) (fun _ _ _ h => h) (Or.inl ⟨by rfl,?_⟩) ?_ ?_;rotate_left
                ·intro w';go_simp;with_reducible rfl
                rotate_left
                ·simp only [Act.put,q13,q23,q33,i64_w,i32_w];rfl
                refine take_ (i:=23) (N:=some 51) (v:=?_) (a':=?_) #[Y3,Y3,Y3,Y3,Y3,Y3,Y3,Y3,Y3,Y3,Y3,Y3,Y3,Y3,Y3,Y3,Y3,Y3,Y3,Y3,Y3,Y3,Y3,Y3,Z3,Z3,Z3,Z3,Z3,Z3,Z3,Z3,Z3,Z3,Z3,Z3] rfl rfl (take_ofW HT_.out HW_.out (by kernel_rfl)) (fun _ _ _ h => h) (Or.inl ⟨by rfl,?_⟩) hHeld ?_ ?_;rotate_left
                ·rintro w' ⟨s0,s1,s2,s3,s4,s5,s6,s7⟩
                 go_simp
                 with_reducible rfl
                rotate_left
                ·simp only [Act.put,q13,q23,q33,i64_w,i32_w];rfl
                refine pure_ (i:=24) (N:=some 52) (v:=?_) (a':=?_) #[Y3,Y3,Y3,Y3,Y3,Y3,Y3,Y3,Y3,Y3,Y3,Y3,Y3,Y3,Y3,Y3,Y3,Y3,Y3,Y3,Y3,Y3,Y3,Y3,Y3,Z3,Z3,Z3,Z3,Z3,Z3,Z3,Z3,Z3,Z3,Z3] rfl rfl (any_of HT_.out (by kernel_rfl)) (fun _ _ _ h => h) (Or.inl ⟨by rfl,?_⟩) ?_ ?_;rotate_left
                ·intro w';go_simp;with_reducible rfl
                rotate_left
                ·simp only [Act.put,q13,q23,q33,i64_w,i32_w];rfl
                refine pure_ (i:=25) (N:=some 53) (v:=?_) (a':=?_) #[Y3,Y3,Y3,Y3,Y3,Y3,Y3,Y3,Y3,Y3,Y3,Y3,Y3,Y3,Y3,Y3,Y3,Y3,Y3,Y3,Y3,Y3,Y3,Y3,Y3,Y3,Z3,Z3,Z3,Z3,Z3,Z3,Z3,Z3,Z3,Z3] rfl rfl (any_of HT_.out (by kernel_rfl)) (fun _ _ _ h => h) (Or.inl ⟨by rfl,?_⟩) ?_ ?_;rotate_left
                ·intro w';go_simp;with_reducible rfl
                rotate_left
                ·simp only [Act.put,q13,q23,q33,i64_w,i32_w];rfl
                refine pure_ (i:=26) (N:=some 54) (v:=?_) (a':=?_) #[Y3,Y3,Y3,Y3,Y3,Y3,Y3,Y3,Y3,Y3,Y3,Y3,Y3,Y3,Y3,Y3,Y3,Y3,Y3,Y3,Y3,Y3,Y3,Y3,Y3,Y3,Y3,Z3,Z3,Z3,Z3,Z3,Z3,Z3,Z3,Z3] rfl rfl (any_of HT_.out (by kernel_rfl)) (fun _ _ _ h => h) (Or.inl ⟨by rfl,?_⟩) ?_ ?_;rotate_left
                ·intro w';go_simp;with_reducible rfl
                rotate_left
                ·simp only [Act.put,q13,q23,q33,i64_w,i32_w];rfl
                refine pure_ (i:=27) (N:=some 55) (v:=?_) (a':=?_) #[Y3,Y3,Y3,Y3,Y3,Y3,Y3,Y3,Y3,Y3,Y3,Y3,Y3,Y3,Y3,Y3,Y3,Y3,Y3,Y3,Y3,Y3,Y3,Y3,Y3,Y3,Y3,Y3,Z3,Z3,Z3,Z3,Z3,Z3,Z3,Z3] rfl rfl (any_of HT_.out (by kernel_rfl)) (fun _ _ _ h => h) (Or.inl ⟨by rfl,?_⟩) ?_ ?_;rotate_left
                ·intro w';go_simp;with_reducible rfl
                rotate_left
                ·simp only [Act.put,q13,q23,q33,i64_w,i32_w];rfl
                refine pure_ (i:=28) (N:=some 56) (v:=?_) (a':=?_) #[Y3,Y3,Y3,Y3,Y3,Y3,Y3,Y3,Y3,Y3,Y3,Y3,Y3,Y3,Y3,Y3,Y3,Y3,Y3,Y3,Y3,Y3,Y3,Y3,Y3,Y3,Y3,Y3,Y3,Z3,Z3,Z3,Z3,Z3,Z3,Z3] rfl rfl (any_of HT_.out (by kernel_rfl)) (fun _ _ _ h => h) (Or.inl ⟨by rfl,?_⟩) ?_ ?_;rotate_left
                ·intro w';go_simp;with_reducible rfl
                rotate_left
                ·simp only [Act.put,q13,q23,q33,i64_w,i32_w];rfl
                refine take_ (i:=29) (N:=some 57) (v:=?_) (a':=?_) #[Y3,Y3,Y3,Y3,Y3,Y3,Y3,Y3,Y3,Y3,Y3,Y3,Y3,Y3,Y3,Y3,Y3,Y3,Y3,Y3,Y3,Y3,Y3,Y3,Y3,Y3,Y3,Y3,Y3,Y3,Z3,Z3,Z3,Z3,Z3,Z3] rfl rfl (take_ofW HT_.out HW_.out (by kernel_rfl)) (fun _ _ _ h => h) (Or.inl ⟨by rfl,?_⟩) hHeld ?_ ?_;rotate_left
                ·rintro w' ⟨s0,s1,s2,s3,s4,s5,s6,s7⟩
                 go_simp
                 with_reducible rfl
                rotate_left
                ·simp only [Act.put,q13,q23,q33,i64_w,i32_w];rfl
                refine pure_ (i:=30) (N:=some 58) (v:=?_) (a':=?_) #[Y3,Y3,Y3,Y3,Y3,Y3,Y3,Y3,Y3,Y3,Y3,Y3,Y3,Y3,Y3,Y3,Y3,Y3,Y3,Y3,Y3,Y3,Y3,Y3,Y3,Y3,Y3,Y3,Y3,Y3,Y3,Z3,Z3,Z3,Z3,Z3] rfl rfl (any_of HT_.out (by kernel_rfl)) (fun _ _ _ h => h) (Or.inl ⟨by rfl,?_⟩) ?_ ?_;rotate_left
                ·intro w';go_simp;with_reducible rfl
                rotate_left
                ·simp only [Act.put,q13,q23,q33,i64_w,i32_w];rfl
                refine pure_ (i:=31) (N:=some 59) (v:=?_) (a':=?_) #[Y3,Y3,Y3,Y3,Y3,Y3,Y3,Y3,Y3,Y3,Y3,Y3,Y3,Y3,Y3,Y3,Y3,Y3,Y3,Y3,Y3,Y3,Y3,Y3,Y3,Y3,Y3,Y3,Y3,Y3,Y3,Y3,Z3,Z3,Z3,Z3] rfl rfl (any_of HT_.out (by kernel_rfl)) (fun _ _ _ h => h) (Or.inl ⟨by rfl,?_⟩) ?_ ?_;rotate_left
                ·intro w';go_simp;with_reducible rfl
                rotate_left
                ·simp only [Act.put,q13,q23,q33,i64_w,i32_w];rfl
                refine take_ (i:=32) (N:=some 60) (v:=?_) (a':=?_) #[Y3,Y3,Y3,Y3,Y3,Y3,Y3,Y3,Y3,Y3,Y3,Y3,Y3,Y3,Y3,Y3,Y3,Y3,Y3,Y3,Y3,Y3,Y3,Y3,Y3,Y3,Y3,Y3,Y3,Y3,Y3,Y3,Y3,Z3,Z3,Z3] rfl rfl (take_ofW HT_.out HW_.out (by kernel_rfl)) (fun _ _ _ h => h) (Or.inl ⟨by rfl,?_⟩) hHeld ?_ ?_;rotate_left
                ·rintro w' ⟨s0,s1,s2,s3,s4,s5,s6,s7⟩
                 go_simp
                 with_reducible rfl
                rotate_left
                ·simp only [Act.put,q13,q23,q33,i64_w,i32_w];rfl
                refine pure_ (i:=33) (N:=some 61) (v:=?_) (a':=?_) #[Y3,Y3,Y3,Y3,Y3,Y3,Y3,Y3,Y3,Y3,Y3,Y3,Y3,Y3,Y3,Y3,Y3,Y3,Y3,Y3,Y3,Y3,Y3,Y3,Y3,Y3,Y3,Y3,Y3,Y3,Y3,Y3,Y3,Y3,Z3,Z3] rfl rfl (any_of HT_.out (by kernel_rfl)) (fun _ _ _ h => h) (Or.inl ⟨by rfl,?_⟩) ?_ ?_;rotate_left
                ·intro w';go_simp;with_reducible rfl
                rotate_left
                ·simp only [Act.put,q13,q23,q33,i64_w,i32_w];rfl
                refine pure_ (i:=34) (N:=some 62) (v:=?_) (a':=?_) #[Y3,Y3,Y3,Y3,Y3,Y3,Y3,Y3,Y3,Y3,Y3,Y3,Y3,Y3,Y3,Y3,Y3,Y3,Y3,Y3,Y3,Y3,Y3,Y3,Y3,Y3,Y3,Y3,Y3,Y3,Y3,Y3,Y3,Y3,Y3,Z3] rfl rfl (any_of HT_.out (by kernel_rfl)) (fun _ _ _ h => h) (Or.inl ⟨by rfl,?_⟩) ?_ ?_;rotate_left
                ·intro w';go_simp;with_reducible rfl
                rotate_left
                ·simp only [Act.put,q13,q23,q33,i64_w,i32_w];rfl
                refine pure_ (i:=35) (N:=some 63) (v:=?_) (a':=?_) #[Y3,Y3,Y3,Y3,Y3,Y3,Y3,Y3,Y3,Y3,Y3,Y3,Y3,Y3,Y3,Y3,Y3,Y3,Y3,Y3,Y3,Y3,Y3,Y3,Y3,Y3,Y3,Y3,Y3,Y3,Y3,Y3,Y3,Y3,Y3,Y3] rfl rfl (any_of HT_.out (by kernel_rfl)) (fun _ _ _ h => h) (Or.inl ⟨by rfl,?_⟩) ?_ ?_;rotate_left
                ·intro w';go_simp;with_reducible rfl
                rotate_left
                ·simp only [Act.put,q13,q23,q33,i64_w,i32_w];rfl
                refine done_ (done_of HT_.out (by kernel_rfl)) ?_
                try go_wp2
                go_ret
                exact ⟨by first | rfl | (simp [errW_none,errW_some] <;> rfl) | (simp only [← hji15];first | rfl | (simp [errW_none,errW_some] <;> rfl)) | (simp [*,errW_none,errW_some] <;> rfl),by repeat (first | (with_reducible first | exact HB.out | apply below_alloc | apply pw_below_drewN | apply below_drew1 | refine below_set ?_ GE131.out | refine below_set ?_ GE135.out) | exact HB.out)⟩
              ·replace c27:=Bool.eq_false_iff.mpr c27
               subst c27
               have H1 : (spec_BatchOk.l0 k2 (wrap64 (x3_2 + 1)) a0_0 l0_1) = some r:=by rw [if_neg (show ¬ (false = true) by decide)] at H;exact H
               clear H
               have H:=H1
               clear H1
               have H':=Aside0.mk H
               clear H
               have hcz41_0 : wr.cell? ⟨gb131,0,none⟩ = some (.int .i64 a0_0):=(blk_cell BK131.out 0).trans rfl
               have hcz41_1 : wr.cell? ⟨gb131,1,none⟩ = some (.slice A0_1 l0_1.length c0_1):=(blk_cell BK131.out 1).trans rfl
               have hfz41_0:=blk_frozen BK131.out 0
               have hfz41_1:=blk_frozen BK131.out 1
               have p134 : 0 ≤ (x3_2 : Int):=of_decide_eq_true (by first | (with_reducible assumption) | assumption)
               have q134 : x3_2 < (l0_1.length : Int):=of_decide_eq_true (by first | (with_reducible assumption) | assumption)
               obtain ⟨ad134,e134,hx134_0,hx134_1,hx134_2⟩:=at_T86 HR0_1.out x3_2 p134 q134
               (try rw [← Nbq26.out] at hx134_2)
               cases e134
               replace hx134_0:=(HB.out.cell (World.block_lt_of_cell? w _ hx134_0)).trans hx134_0
               replace hx134_1:=(HB.out.cell (World.block_lt_of_cell? w _ hx134_1)).trans hx134_1
               replace hx134_2:=(HB.out.cell (World.block_lt_of_cell? w _ hx134_2)).trans hx134_2
               replace p134:=eq_true p134
               replace q134:=eq_true q134
               try go_wp2_with (first | ((with_reducible refine gate_dst (N:=4) rfl ?_);(try (refine gate_guard (by rfl) ?_;dsimp only));refine box_event ?hg (N:=4) ?hd (cs:=#[.string (⟨#[]⟩ : ByteArray),.string (⟨#[]⟩ : ByteArray),.bool false]) (t:=86) ?hr ?_;(case hd => rfl);(case hg => rfl);(case hr => first | (go_simp;done) | (go_simp;rfl));intro gb135 hg w42 hbox hb;have n0_:=Aside0.mk (blk_below (g:=gb131) (o:=.cells #[.int .i64 a0_0,.slice (some ad134) l0_1.length c0_1] 47 (0,0)) (by (with_reducible repeat (first | refine blk_drewN ?_ _ | refine blk_drew ?_ | refine blk_alloc ?_ _));exact BK131.out) hb);have n1_:=Aside0.mk (below_step (by repeat (first | (with_reducible first | exact HB.out | apply below_alloc | apply pw_below_drewN | apply below_drew1 | refine below_set ?_ GE131.out) | exact HB.out)) hb);have n2_:=Aside0.mk (hbox);have n3_:=Aside0.mk ((by rw [hg];exact (below_size (by repeat (first | (with_reducible first | exact HB.out | apply below_alloc | apply pw_below_drewN | apply below_drew1 | refine below_set ?_ GE131.out) | exact HB.out))) : w.heap.size ≤ gb135));have n4_:=Aside0.mk ((by rw [hg];exact (below_size (by repeat (first | (with_reducible first | exact HB.out | apply below_alloc | apply pw_below_drewN | apply below_drew1 | refine below_set ?_ GE131.out) | exact HB.out))) : w.heap.size ≤ gb135));have n5_:=Aside0.mk ((by rw [hg];exact Nat.ne_of_lt (blk_lt (g:=gb131) (o:=.cells #[.int .i64 a0_0,.slice (some ad134) l0_1.length c0_1] 47 (0,0)) (by (with_reducible repeat (first | refine blk_drewN ?_ _ | refine blk_drew ?_ | refine blk_alloc ?_ _));exact BK131.out)) : gb131 ≠ gb135));have n6_:=Aside0.mk ((by rw [hg];exact Nat.ne_of_gt (blk_lt (g:=gb131) (o:=.cells #[.int .i64 a0_0,.slice (some ad134) l0_1.length c0_1] 47 (0,0)) (by (with_reducible repeat (first | refine blk_drewN ?_ _ | refine blk_drew ?_ | refine blk_alloc ?_ _));exact BK131.out)) : gb135 ≠ gb131));clear BK131;clear HB;have BK131:=n0_;have HB:=n1_;have BK135:=n2_;have GW135:=n3_;have GE135:=n4_;have NB131_135:=n5_;have NB135_131:=n6_;clear n0_ n1_ n2_ n3_ n4_ n5_ n6_;clear hb hbox hg;have hnb43:=NB135_131.out;have hnc43:=NB131_135.out;have hcz44_0 : w42.cell? ⟨gb135,0,none⟩ = some (.string (⟨#[]⟩ : ByteArray)):=(blk_cell BK135.out 0).trans rfl;have hcz44_1 : w42.cell? ⟨gb135,1,none⟩ = some (.string (⟨#[]⟩ : ByteArray)):=(blk_cell BK135.out 1).trans rfl;have hcz44_2 : w42.cell? ⟨gb135,2,none⟩ = some (.bool false):=(blk_cell BK135.out 2).trans rfl;have hfz44_0:=blk_frozen BK135.out 0;have hfz44_1:=blk_frozen BK135.out 1;have hfz44_2:=blk_frozen BK135.out 2))
               have n0_ : Aside0 ((((w42.setCell ⟨gb135,0,none⟩ (.string ((rd_T86 l0_1 x3_2).f0))).setCell ⟨gb135,1,none⟩ (.string ((rd_T86 l0_1 x3_2).f1))).setCell ⟨gb135,2,none⟩ (.bool false)).heap[gb131]? = some (.cells #[.int .i64 a0_0,.slice (some ad134) l0_1.length c0_1] 47 (0,0))):=⟨by (with_reducible repeat (first | refine blk_drewN ?_ _ | refine blk_drew ?_ | refine blk_alloc ?_ _));refine blk_far ?_ NB131_135.out _;(with_reducible repeat (first | refine blk_drewN ?_ _ | refine blk_drew ?_ | refine blk_alloc ?_ _));refine blk_far ?_ NB131_135.out _;(with_reducible repeat (first | refine blk_drewN ?_ _ | refine blk_drew ?_ | refine blk_alloc ?_ _));refine blk_far ?_ NB131_135.out _;(with_reducible repeat (first | refine blk_drewN ?_ _ | refine blk_drew ?_ | refine blk_alloc ?_ _));exact BK131.out⟩
               have n1_ : Aside0 ((((w42.setCell ⟨gb135,0,none⟩ (.string ((rd_T86 l0_1 x3_2).f0))).setCell ⟨gb135,1,none⟩ (.string ((rd_T86 l0_1 x3_2).f1))).setCell ⟨gb135,2,none⟩ (.bool false)).heap[gb135]? = some (.cells #[.string ((rd_T86 l0_1 x3_2).f0),.string ((rd_T86 l0_1 x3_2).f1),.bool false] 86 (0,0))):=⟨by (with_reducible repeat (first | refine blk_drewN ?_ _ | refine blk_drew ?_ | refine blk_alloc ?_ _));refine blk_put (cs:=#[.string ((rd_T86 l0_1 x3_2).f0),.string ((rd_T86 l0_1 x3_2).f1),.bool false]) ?_ 2 _ rfl;(with_reducible repeat (first | refine blk_drewN ?_ _ | refine blk_drew ?_ | refine blk_alloc ?_ _));refine blk_put (cs:=#[.string ((rd_T86 l0_1 x3_2).f0),.string (⟨#[]⟩ : ByteArray),.bool false]) ?_ 1 _ rfl;(with_reducible repeat (first | refine blk_drewN ?_ _ | refine blk_drew ?_ | refine blk_alloc ?_ _));refine blk_put (cs:=#[.string (⟨#[]⟩ : ByteArray),.string (⟨#[]⟩ : ByteArray),.bool false]) ?_ 0 _ rfl;(with_reducible repeat (first | refine blk_drewN ?_ _ | refine blk_drew ?_ | refine blk_alloc ?_ _));exact BK135.out⟩
               have n2_ : Aside0 (Below w.heap.size w (((w42.setCell ⟨gb135,0,none⟩ (.string ((rd_T86 l0_1 x3_2).f0))).setCell ⟨gb135,1,none⟩ (.string ((rd_T86 l0_1 x3_2).f1))).setCell ⟨gb135,2,none⟩ (.bool false))):=⟨by repeat (first | (with_reducible first | exact HB.out | apply below_alloc | apply pw_below_drewN | apply below_drew1 | refine below_set ?_ GE131.out | refine below_set ?_ GE135.out) | exact HB.out)⟩
               (try clear BK131)
               (try clear BK135)
               (try clear HB)
               generalize (((w42.setCell ⟨gb135,0,none⟩ (.string ((rd_T86 l0_1 x3_2).f0))).setCell ⟨gb135,1,none⟩ (.string ((rd_T86 l0_1 x3_2).f1))).setCell ⟨gb135,2,none⟩ (.bool false)) = w45 at n0_ n1_ n2_ ⊢
               have BK131:=n0_
               have BK135:=n1_
               have HB:=n2_
               clear n0_ n1_ n2_
               have n0_:=Aside0.mk (blk_drew BK131.out)
               have n1_:=Aside0.mk (blk_drew BK135.out)
               have n2_:=Aside0.mk (below_drew1 HB.out)
               clear BK131
               clear BK135
               clear HB
               have BK131:=n0_
               have BK135:=n1_
               have HB:=n2_
               clear n0_ n1_ n2_
               have p137 : 0 ≤ ((ji15) : Int):=of_decide_eq_true (by first | (with_reducible assumption) | assumption)
               have q137 : (ji15) < (l0_1.length : Int):=of_decide_eq_true (by first | (with_reducible assumption) | assumption)
               obtain ⟨ad137,e137,hx137_0,hx137_1,hx137_2⟩:=at_T86 HR0_1.out (ji15) p137 q137
               have hw137_2:=hx137_2
               have hw137_1:=hx137_1
               have hw137_0:=hx137_0
               (try rw [← Nbq26.out] at hx137_2)
               obtain rfl : ad134 = ad137:=(by injection e137)
               replace hx137_0:=(HB.out.cell (World.block_lt_of_cell? w _ hx137_0)).trans hx137_0
               replace hx137_1:=(HB.out.cell (World.block_lt_of_cell? w _ hx137_1)).trans hx137_1
               replace hx137_2:=(HB.out.cell (World.block_lt_of_cell? w _ hx137_2)).trans hx137_2
               replace p137:=eq_true p137
               replace q137:=eq_true q137
               refine start_ (n:=36) (S:=fun w' => w'.cell? ⟨gb135,0,none⟩ = some (.string ((rd_T86 l0_1 x3_2).f0)) ∧ w'.cell? ⟨gb135,1,none⟩ = some (.string ((rd_T86 l0_1 x3_2).f1)) ∧ w'.cell? ⟨gb135,2,none⟩ = some (.bool false) ∧ w'.cell? ⟨gb131,0,none⟩ = some (.int .i64 a0_0) ∧ w'.cell? ⟨gb131,1,none⟩ = some (.slice (some ad134) l0_1.length c0_1) ∧ w'.cell? (ad134.add (((ji15)).toNat * 3)) = some (.string ((rd_T86 l0_1 (ji15)).f0)) ∧ w'.cell? ⟨(ad134.add (((ji15)).toNat * 3)).block,(ad134.add (((ji15)).toNat * 3)).off + 1,none⟩ = some (.string ((rd_T86 l0_1 (ji15)).f1)) ∧ w'.cell? ⟨(ad134.add (((ji15)).toNat * 3)).block,(ad134.add (((ji15)).toNat * 3)).off + 2,none⟩ = some (.bool ((rd_T86 l0_1 (ji15)).f2))) (ds:=[]) #[Z3,Z3,Z3,Z3,Z3,Z3,Z3,Z3,Z3,Z3,Z3,Z3,Z3,Z3,Z3,Z3,Z3,Z3,Z3,Z3,Z3,Z3,Z3,Z3,Z3,Z3,Z3,Z3,Z3,Z3,Z3,Z3,Z3,Z3,Z3,Z3] (by kernel_rfl) rfl rfl ⟨(blk_cell BK135.out 0).trans rfl,(blk_cell BK135.out 1).trans rfl,(blk_cell BK135.out 2).trans rfl,(blk_cell BK131.out 0).trans rfl,(blk_cell BK131.out 1).trans rfl,((HB.out.cell (World.block_lt_of_cell? w _ hw137_0)).trans hw137_0),((HB.out.cell (World.block_lt_of_cell? w _ hw137_1)).trans hw137_1),((HB.out.cell (World.block_lt_of_cell? w _ hw137_2)).trans hw137_2)⟩ (fun hHeld => ?_);refine with_tabW spec_BatchOk.tab7 spec_BatchOk.bits7 (fun HT_ HW_ => ?_)
               generalize w45.drew = w46 at BK131 BK135 HB hx137_0 hx137_1 hx137_2 hHeld ⊢
               refine pure_ (i:=0) (N:=some 28) (v:=?_) (a':=?_) #[Y3,Z3,Z3,Z3,Z3,Z3,Z3,Z3,Z3,Z3,Z3,Z3,Z3,Z3,Z3,Z3,Z3,Z3,Z3,Z3,Z3,Z3,Z3,Z3,Z3,Z3,Z3,Z3,Z3,Z3,Z3,Z3,Z3,Z3,Z3,Z3] rfl rfl (any_of HT_.out (by kernel_rfl)) (fun _ _ _ h => h) (Or.inl ⟨by rfl,?_⟩) ?_ ?_;rotate_left
               ·intro w';go_simp;with_reducible rfl
               rotate_left
               ·simp only [Act.put,q13,q23,q33,i64_w,i32_w];rfl
               refine take_ (i:=1) (N:=some 29) (v:=?_) (a':=?_) #[Y3,Y3,Z3,Z3,Z3,Z3,Z3,Z3,Z3,Z3,Z3,Z3,Z3,Z3,Z3,Z3,Z3,Z3,Z3,Z3,Z3,Z3,Z3,Z3,Z3,Z3,Z3,Z3,Z3,Z3,Z3,Z3,Z3,Z3,Z3,Z3] rfl rfl (take_ofW HT_.out HW_.out (by kernel_rfl)) (fun _ _ _ h => h) (Or.inl ⟨by rfl,?_⟩) hHeld ?_ ?_;rotate_left
               ·rintro w' ⟨s0,s1,s2,s3,s4,s5,s6,s7⟩
                go_simp
                with_reducible rfl
               rotate_left
               ·simp only [Act.put,q13,q23,q33,i64_w,i32_w];rfl
               refine pure_ (i:=2) (N:=some 30) (v:=?_) (a':=?_) #[Y3,Y3,Y3,Z3,Z3,Z3,Z3,Z3,Z3,Z3,Z3,Z3,Z3,Z3,Z3,Z3,Z3,Z3,Z3,Z3,Z3,Z3,Z3,Z3,Z3,Z3,Z3,Z3,Z3,Z3,Z3,Z3,Z3,Z3,Z3,Z3] rfl rfl (any_of HT_.out (by kernel_rfl)) (fun _ _ _ h => h) (Or.inl ⟨by rfl,?_⟩) ?_ ?_;rotate_left
               ·intro w';go_simp;with_reducible rfl
               rotate_left
               ·simp only [Act.put,q13,q23,q33,i64_w,i32_w];rfl
               refine one_ (i:=3) (N:=some 31) #[Y3,Y3,Y3,Y3,Z3,Z3,Z3,Z3,Z3,Z3,Z3,Z3,Z3,Z3,Z3,Z3,Z3,Z3,Z3,Z3,Z3,Z3,Z3,Z3,Z3,Z3,Z3,Z3,Z3,Z3,Z3,Z3,Z3,Z3,Z3,Z3] rfl rfl (one_of HT_.out (by kernel_rfl)) (by decide) (fun K hK => ?_)
               refine goes_ Try.func43 (by kernel_rfl) rfl #[.int .i64 (((rd_T86 l0_1 x3_2).f0).size : Int),.int .i64 1,.int .i64 20] (by rfl) rfl rfl (by (try simp only [List.map_toArray,List.map_cons,List.map_nil]);first | done | rfl | (simp only [List.length_drop,List.length_take];rfl)) ?_
               with_reducible refine (spec_l01In.calls (((rd_T86 l0_1 x3_2).f0).size : Int) 1 20 true _ A12.out).mono ?_
               rintro e w' ⟨rfl,⟨nd,rfl⟩⟩
               refine ⟨_,rfl,?_⟩
               refine hK.out _ _ ⟨(blk_cell BK135.out 0).trans rfl,(blk_cell BK135.out 1).trans rfl,(blk_cell BK135.out 2).trans rfl,(blk_cell BK131.out 0).trans rfl,(blk_cell BK131.out 1).trans rfl,((HB.out.cell (World.block_lt_of_cell? w _ hw137_0)).trans hw137_0),((HB.out.cell (World.block_lt_of_cell? w _ hw137_1)).trans hw137_1),((HB.out.cell (World.block_lt_of_cell? w _ hw137_2)).trans hw137_2)⟩ (fun hHeld => ?_)
               clear hK K
               refine norm_ (a':=?_) ?_ ?_;rotate_left
               ·show Act.put _ (some 31) _ = _;simp only [Act.put,q13,q23,q33,i64_w,i32_w];rfl
               refine pure_ (i:=4) (N:=some 32) (v:=?_) (a':=?_) #[Y3,Y3,Y3,Y3,Y3,Z3,Z3,Z3,Z3,Z3,Z3,Z3,Z3,Z3,Z3,Z3,Z3,Z3,Z3,Z3,Z3,Z3,Z3,Z3,Z3,Z3,Z3,Z3,Z3,Z3,Z3,Z3,Z3,Z3,Z3,Z3] rfl rfl (any_of HT_.out (by kernel_rfl)) (fun _ _ _ h => h) (Or.inl ⟨by rfl,?_⟩) ?_ ?_;rotate_left
               ·intro w';go_simp;with_reducible rfl
               rotate_left
               ·simp only [Act.put,q13,q23,q33,i64_w,i32_w];rfl
               refine pure_ (i:=5) (N:=some 33) (v:=?_) (a':=?_) #[Y3,Y3,Y3,Y3,Y3,Y3,Z3,Z3,Z3,Z3,Z3,Z3,Z3,Z3,Z3,Z3,Z3,Z3,Z3,Z3,Z3,Z3,Z3,Z3,Z3,Z3,Z3,Z3,Z3,Z3,Z3,Z3,Z3,Z3,Z3,Z3] rfl rfl (any_of HT_.out (by kernel_rfl)) (fun _ _ _ h => h) (Or.inl ⟨by rfl,?_⟩) ?_ ?_;rotate_left
               ·intro w';go_simp;with_reducible rfl
               rotate_left
               ·simp only [Act.put,q13,q23,q33,i64_w,i32_w];rfl
               refine pure_ (i:=6) (N:=some 34) (v:=?_) (a':=?_) #[Y3,Y3,Y3,Y3,Y3,Y3,Y3,Z3,Z3,Z3,Z3,Z3,Z3,Z3,Z3,Z3,Z3,Z3,Z3,Z3,Z3,Z3,Z3,Z3,Z3,Z3,Z3,Z3,Z3,Z3,Z3,Z3,Z3,Z3,Z3,Z3] rfl rfl (any_of HT_.out (by kernel_rfl)) (fun _ _ _ h => h) (Or.inl ⟨by rfl,?_⟩) ?_ ?_;rotate_left
               ·intro w';go_simp;with_reducible rfl
               rotate_left
               ·simp only [Act.put,q13,q23,q33,i64_w,i32_w];rfl
               refine pure_ (i:=7) (N:=some 35) (v:=?_) (a':=?_) #[Y3,Y3,Y3,Y3,Y3,Y3,Y3,Y3,Z3,Z3,Z3,Z3,Z3,Z3,Z3,Z3,Z3,Z3,Z3,Z3,Z3,Z3,Z3,Z3,Z3,Z3,Z3,Z3,Z3,Z3,Z3,Z3,Z3,Z3,Z3,Z3] rfl rfl (any_of HT_.out (by kernel_rfl)) (fun _ _ _ h => h) (Or.inl ⟨by rfl,?_⟩) ?_ ?_;rotate_left
               ·intro w';go_simp;with_reducible rfl
               rotate_left
               ·simp only [Act.put,q13,q23,q33,i64_w,i32_w];rfl
               refine pure_ (i:=8) (N:=some 36) (v:=?_) (a':=?_) #[Y3,Y3,Y3,Y3,Y3,Y3,Y3,Y3,Y3,Z3,Z3,Z3,Z3,Z3,Z3,Z3,Z3,Z3,Z3,Z3,Z3,Z3,Z3,Z3,Z3,Z3,Z3,Z3,Z3,Z3,Z3,Z3,Z3,Z3,Z3,Z3] rfl rfl (any_of HT_.out (by kernel_rfl)) (fun _ _ _ h => h) (Or.inl ⟨by rfl,?_⟩) ?_ ?_;rotate_left
               ·intro w';go_simp;with_reducible rfl
               rotate_left
               ·simp only [Act.put,q13,q23,q33,i64_w,i32_w];rfl
               refine pure_ (i:=9) (N:=some 37) (v:=?_) (a':=?_) #[Y3,Y3,Y3,Y3,Y3,Y3,Y3,Y3,Y3,Y3,Z3,Z3,Z3,Z3,Z3,Z3,Z3,Z3,Z3,Z3,Z3,Z3,Z3,Z3,Z3,Z3,Z3,Z3,Z3,Z3,Z3,Z3,Z3,Z3,Z3,Z3] rfl rfl (any_of HT_.out (by kernel_rfl)) (fun _ _ _ h => h) (Or.inl ⟨by rfl,?_⟩) ?_ ?_;rotate_left
               ·intro w';go_simp;with_reducible rfl
               rotate_left
               ·simp only [Act.put,q13,q23,q33,i64_w,i32_w];rfl
               refine pure_ (i:=11) (N:=some 39) (v:=?_) (a':=?_) #[Y3,Y3,Y3,Y3,Y3,Y3,Y3,Y3,Y3,Y3,Z3,Y3,Z3,Z3,Z3,Z3,Z3,Z3,Z3,Z3,Z3,Z3,Z3,Z3,Z3,Z3,Z3,Z3,Z3,Z3,Z3,Z3,Z3,Z3,Z3,Z3] rfl rfl (any_of HT_.out (by kernel_rfl)) (fun _ _ _ h => h) (Or.inl ⟨by rfl,?_⟩) ?_ ?_;rotate_left
               ·intro w';go_simp;with_reducible rfl
               rotate_left
               ·simp only [Act.put,q13,q23,q33,i64_w,i32_w];rfl
               refine pure_ (i:=12) (N:=some 40) (v:=?_) (a':=?_) #[Y3,Y3,Y3,Y3,Y3,Y3,Y3,Y3,Y3,Y3,Z3,Y3,Y3,Z3,Z3,Z3,Z3,Z3,Z3,Z3,Z3,Z3,Z3,Z3,Z3,Z3,Z3,Z3,Z3,Z3,Z3,Z3,Z3,Z3,Z3,Z3] rfl rfl (any_of HT_.out (by kernel_rfl)) (fun _ _ _ h => h) (Or.inl ⟨by rfl,?_⟩) ?_ ?_;rotate_left
               ·intro w';go_simp;with_reducible rfl
               rotate_left
               ·simp only [Act.put,q13,q23,q33,i64_w,i32_w];rfl
               refine pure_ (i:=16) (N:=some 44) (v:=?_) (a':=?_) #[Y3,Y3,Y3,Y3,Y3,Y3,Y3,Y3,Y3,Y3,Z3,Y3,Y3,Z3,Z3,Z3,Y3,Z3,Z3,Z3,Z3,Z3,Z3,Z3,Z3,Z3,Z3,Z3,Z3,Z3,Z3,Z3,Z3,Z3,Z3,Z3] rfl rfl (any_of HT_.out (by kernel_rfl)) (fun _ _ _ h => h) (Or.inl ⟨by rfl,?_⟩) ?_ ?_;rotate_left
               ·intro w';go_simp;with_reducible rfl
               rotate_left
               ·simp only [Act.put,q13,q23,q33,i64_w,i32_w];rfl
               refine take_ (i:=10) (N:=some 38) (v:=?_) (a':=?_) #[Y3,Y3,Y3,Y3,Y3,Y3,Y3,Y3,Y3,Y3,Y3,Y3,Y3,Z3,Z3,Z3,Y3,Z3,Z3,Z3,Z3,Z3,Z3,Z3,Z3,Z3,Z3,Z3,Z3,Z3,Z3,Z3,Z3,Z3,Z3,Z3] rfl rfl (take_ofW HT_.out HW_.out (by kernel_rfl)) (fun _ _ _ h => h) (Or.inl ⟨by rfl,?_⟩) hHeld ?_ ?_;rotate_left
               ·rintro w' ⟨s0,s1,s2,s3,s4,s5,s6,s7⟩
                go_simp
                with_reducible rfl
               rotate_left
               ·simp only [Act.put,q13,q23,q33,i64_w,i32_w];rfl
               refine pure_ (i:=13) (N:=some 41) (v:=?_) (a':=?_) #[Y3,Y3,Y3,Y3,Y3,Y3,Y3,Y3,Y3,Y3,Y3,Y3,Y3,Y3,Z3,Z3,Y3,Z3,Z3,Z3,Z3,Z3,Z3,Z3,Z3,Z3,Z3,Z3,Z3,Z3,Z3,Z3,Z3,Z3,Z3,Z3] rfl rfl (any_of HT_.out (by kernel_rfl)) (fun _ _ _ h => h) (Or.inl ⟨by rfl,?_⟩) ?_ ?_;rotate_left
               ·intro w';go_simp;with_reducible rfl
               rotate_left
               ·simp only [Act.put,q13,q23,q33,i64_w,i32_w];rfl
               refine pure_ (i:=14) (N:=some 42) (v:=?_) (a':=?_) #[Y3,Y3,Y3,Y3,Y3,Y3,Y3,Y3,Y3,Y3,Y3,Y3,Y3,Y3,Y3,Z3,Y3,Z3,Z3,Z3,Z3,Z3,Z3,Z3,Z3,Z3,Z3,Z3,Z3,Z3,Z3,Z3,Z3,Z3,Z3,Z3] rfl rfl (any_of HT_.out (by kernel_rfl)) (fun _ _ _ h => h) (Or.inl ⟨by rfl,?_⟩) ?_ ?_;rotate_left
               ·intro w';go_simp;with_reducible rfl
               rotate_left
               ·simp only [Act.put,q13,q23,q33,i64_w,i32_w];rfl
               refine take_ (i:=15) (N:=some 43) (v:=?_) (a':=?_) #[Y3,Y3,Y3,Y3,Y3,Y3,Y3,Y3,Y3,Y3,Y3,Y3,Y3,Y3,Y3,Y3,Y3,Z3,Z3,Z3,Z3,Z3,Z3,Z3,Z3,Z3,Z3,Z3,Z3,Z3,Z3,Z3,Z3,Z3,Z3,Z3] rfl rfl (take_ofW HT_.out HW_.out (by kernel_rfl)) (fun _ _ _ h => h) (Or.inl ⟨by rfl,?_⟩) hHeld ?_ ?_;rotate_left
               ·rintro w' ⟨s0,s1,s2,s3,s4,s5,s6,s7⟩
                go_simp
                with_reducible rfl
               rotate_left
               ·simp only [Act.put,q13,q23,q33,i64_w,i32_w];rfl
               refine take_ (i:=17) (N:=some 45) (v:=?_) (a':=?_) #[Y3,Y3,Y3,Y3,Y3,Y3,Y3,Y3,Y3,Y3,Y3,Y3,Y3,Y3,Y3,Y3,Y3,Y3,Z3,Z3,Z3,Z3,Z3,Z3,Z3,Z3,Z3,Z3,Z3,Z3,Z3,Z3,Z3,Z3,Z3,Z3] rfl rfl (take_ofW HT_.out HW_.out (by kernel_rfl)) (fun _ _ _ h => h) (Or.inl ⟨by rfl,?_⟩) hHeld ?_ ?_;rotate_left
               ·rintro w' ⟨s0,s1,s2,s3,s4,s5,s6,s7⟩
                go_simp
                with_reducible rfl
               rotate_left
               ·simp only [Act.put,q13,q23,q33,i64_w,i32_w];rfl
               refine pure_ (i:=18) (N:=some 46) (v:=?_) (a':=?_) #[Y3,Y3,Y3,Y3,Y3,Y3,Y3,Y3,Y3,Y3,Y3,Y3,Y3,Y3,Y3,Y3,Y3,Y3,Y3,Z3,Z3,Z3,Z3,Z3,Z3,Z3,Z3,Z3,Z3,Z3,Z3,Z3,Z3,Z3,Z3,Z3] rfl rfl (any_of HT_.out (by kernel_rfl)) (fun _ _ _ h => h) (Or.inl ⟨by rfl,?_⟩) ?_ ?_;rotate_left
               ·intro w';go_simp;with_reducible rfl
               rotate_left
               ·simp only [Act.put,q13,q23,q33,i64_w,i32_w];rfl
               refine pure_ (i:=19) (N:=some 47) (v:=?_) (a':=?_) #[Y3,Y3,Y3,Y3,Y3,Y3,Y3,Y3,Y3,Y3,Y3,Y3,Y3,Y3,Y3,Y3,Y3,Y3,Y3,Y3,Z3,Z3,Z3,Z3,Z3,Z3,Z3,Z3,Z3,Z3,Z3,Z3,Z3,Z3,Z3,Z3] rfl rfl (any_of HT_.out (by kernel_rfl)) (fun _ _ _ h => h) (Or.inl ⟨by rfl,?_⟩) ?_ ?_;rotate_left
               ·intro w';go_simp;with_reducible rfl
               rotate_left
               ·simp only [Act.put,q13,q23,q33,i64_w,i32_w];rfl
               refine pure_ (i:=20) (N:=some 48) (v:=?_) (a':=?_) #[Y3,Y3,Y3,Y3,Y3,Y3,Y3,Y3,Y3,Y3,Y3,Y3,Y3,Y3,Y3,Y3,Y3,Y3,Y3,Y3,Y3,Z3,Z3,Z3,Z3,Z3,Z3,Z3,Z3,Z3,Z3,Z3,Z3,Z3,Z3,Z3] rfl rfl (any_of HT_.out (by kernel_rfl)) (fun _ _ _ h => h) (Or.inl ⟨by rfl,?_⟩) ?_ ?_;rotate_left
               ·intro w';go_simp;with_reducible rfl
               rotate_left
               ·simp only [Act.put,q13,q23,q33,i64_w,i32_w];rfl
               refine pure_ (i:=21) (N:=some 49) (v:=?_) (a':=?_) #[Y3,Y3,Y3,Y3,Y3,Y3,Y3,Y3,Y3,Y3,Y3,Y3,Y3,Y3,Y3,Y3,Y3,Y3,Y3,Y3,Y3,Y3,Z3,Z3,Z3,Z3,Z3,Z3,Z3,Z3,Z3,Z3,Z3,Z3,Z3,Z3] rfl rfl (any_of HT_.out (by kernel_rfl)) (fun _ _ _ h => h) (Or.inl ⟨by rfl,?_⟩) ?_ ?_;rotate_left
               ·intro w';go_simp;with_reducible rfl
               rotate_left
               ·simp only [Act.put,q13,q23,q33,i64_w,i32_w];rfl
               refine pure_ (i:=22) (N:=some 50) (v:=?_) (a':=?_) #[Y3,Y3,Y3,Y3,Y3,Y3,Y3,Y3,Y3,Y3,Y3,Y3,Y3,Y3,Y3,Y3,Y3,Y3,Y3,Y3,Y3,Y3,Y3,Z3,Z3,Z3,Z3,Z3,Z3,Z3,Z3,Z3,Z3,Z3,Z3,Z3] rfl rfl (any_of HT_.out (by kernel_rfl)) (fun _ _ _ h => h) (Or.inl ⟨by rfl,?_⟩) ?_ ?_;rotate_left
               ·intro w';go_simp;with_reducible rfl
               rotate_left
               ·simp only [Act.put,q13,q23,q33,i64_w,i32_w];rfl
               refine take_ (i:=23) (N:=some 51) (v:=?_) (a':=?_) #[Y3,Y3,Y3,Y3,Y3,Y3,Y3,Y3,Y3,Y3,Y3,Y3,Y3,Y3,Y3,Y3,Y3,Y3,Y3,Y3,Y3,Y3,Y3,Y3,Z3,Z3,Z3,Z3,Z3,Z3,Z3,Z3,Z3,Z3,Z3,Z3] rfl rfl (take_ofW HT_.out HW_.out (by kernel_rfl)) (fun _ _ _ h => h) (Or.inl ⟨by rfl,?_⟩) hHeld ?_ ?_;rotate_left
               ·rintro w' ⟨s0,s1,s2,s3,s4,s5,s6,s7⟩
                go_simp
                with_reducible rfl
               rotate_left
               ·simp only [Act.put,q13,q23,q33,i64_w,i32_w];rfl
               refine pure_ (i:=24) (N:=some 52) (v:=?_) (a':=?_) #[Y3,Y3,Y3,Y3,Y3,Y3,Y3,Y3,Y3,Y3,Y3,Y3,Y3,Y3,Y3,Y3,Y3,Y3,Y3,Y3,Y3,Y3,Y3,Y3,Y3,Z3,Z3,Z3,Z3,Z3,Z3,Z3,Z3,Z3,Z3,Z3] rfl rfl (any_of HT_.out (by kernel_rfl)) (fun _ _ _ h => h) (Or.inl ⟨by rfl,?_⟩) ?_ ?_;rotate_left
               ·intro w';go_simp;with_reducible rfl
               rotate_left
               ·simp only [Act.put,q13,q23,q33,i64_w,i32_w];rfl
               refine pure_ (i:=25) (N:=some 53) (v:=?_) (a':=?_) #[Y3,Y3,Y3,Y3,Y3,Y3,Y3,Y3,Y3,Y3,Y3,Y3,Y3,Y3,Y3,Y3,Y3,Y3,Y3,Y3,Y3,Y3,Y3,Y3,Y3,Y3,Z3,Z3,Z3,Z3,Z3,Z3,Z3,Z3,Z3,Z3] rfl rfl (any_of HT_.out (by kernel_rfl)) (fun _ _ _ h => h) (Or.inl ⟨by rfl,?_⟩) ?_ ?_;rotate_left
               ·intro w';go_simp;with_reducible rfl
               rotate_left
               ·simp only [Act.put,q13,q23,q33,i64_w,i32_w];rfl
               refine pure_ (i:=26) (N:=some 54) (v:=?_) (a':=?_) #[Y3,Y3,Y3,Y3,Y3,Y3,Y3,Y3,Y3,Y3,Y3,Y3,Y3,Y3,Y3,Y3,Y3,Y3,Y3,Y3,Y3,Y3,Y3,Y3,Y3,Y3,Y3,Z3,Z3,Z3,Z3,Z3,Z3,Z3,Z3,Z3] rfl rfl (any_of HT_.out (by kernel_rfl)) (fun _ _ _ h => h) (Or.inl ⟨by rfl,?_⟩) ?_ ?_;rotate_left
               ·intro w';go_simp;with_reducible rfl
               rotate_left
               ·simp only [Act.put,q13,q23,q33,i64_w,i32_w];rfl
               refine pure_ (i:=27) (N:=some 55) (v:=?_) (a':=?_) #[Y3,Y3,Y3,Y3,Y3,Y3,Y3,Y3,Y3,Y3,Y3,Y3,Y3,Y3,Y3,Y3,Y3,Y3,Y3,Y3,Y3,Y3,Y3,Y3,Y3,Y3,Y3,Y3,Z3,Z3,Z3,Z3,Z3,Z3,Z3,Z3] rfl rfl (any_of HT_.out (by kernel_rfl)) (fun _ _ _ h => h) (Or.inl ⟨by rfl,?_⟩) ?_ ?_;rotate_left
               ·intro w';go_simp;with_reducible rfl
               rotate_left
               ·simp only [Act.put,q13,q23,q33,i64_w,i32_w];rfl
               refine pure_ (i:=28) (N:=some 56) (v:=?_) (a':=?_) #[Y3,Y3,Y3,Y3,Y3,Y3,Y3,Y3,Y3,Y3,Y3,Y3,Y3,Y3,Y3,Y3,Y3,Y3,Y3,Y3,Y3,Y3,Y3,Y3,Y3,Y3,Y3,Y3,Y3,Z3,Z3,Z3,Z3,Z3,Z3,Z3] rfl rfl (any_of HT_.out (by kernel_rfl)) (fun _ _ _ h => h) (Or.inl ⟨by rfl,?_⟩) ?_ ?_;rotate_left
               ·intro w';go_simp;with_reducible rfl
               rotate_left
               ·simp only [Act.put,q13,q23,q33,i64_w,i32_w];rfl
               refine take_ (i:=29) (N:=some 57) (v:=?_) (a':=?_) #[Y3,Y3,Y3,Y3,Y3,Y3,Y3,Y3,Y3,Y3,Y3,Y3,Y3,Y3,Y3,Y3,Y3,Y3,Y3,Y3,Y3,Y3,Y3,Y3,Y3,Y3,Y3,Y3,Y3,Y3,Z3,Z3,Z3,Z3,Z3,Z3] rfl rfl (take_ofW HT_.out HW_.out (by kernel_rfl)) (fun _ _ _ h => h) (Or.inl ⟨by rfl,?_⟩) hHeld ?_ ?_;rotate_left
               ·rintro w' ⟨s0,s1,s2,s3,s4,s5,s6,s7⟩
                go_simp
                with_reducible rfl
               rotate_left
               ·simp only [Act.put,q13,q23,q33,i64_w,i32_w];rfl
               refine pure_ (i:=30) (N:=some 58) (v:=?_) (a':=?_) #[Y3,Y3,Y3,Y3,Y3,Y3,Y3,Y3,Y3,Y3,Y3,Y3,Y3,Y3,Y3,Y3,Y3,Y3,Y3,Y3,Y3,Y3,Y3,Y3,Y3,Y3,Y3,Y3,Y3,Y3,Y3,Z3,Z3,Z3,Z3,Z3] rfl rfl (any_of HT_.out (by kernel_rfl)) (fun _ _ _ h => h) (Or.inl ⟨by rfl,?_⟩) ?_ ?_;rotate_left
               ·intro w';go_simp;with_reducible rfl
               rotate_left
               ·simp only [Act.put,q13,q23,q33,i64_w,i32_w];rfl
               refine pure_ (i:=31) (N:=some 59) (v:=undef) (a':=?_) #[Y3,Y3,Y3,Y3,Y3,Y3,Y3,Y3,Y3,Y3,Y3,Y3,Y3,Y3,Y3,Y3,Y3,Y3,Y3,Y3,Y3,Y3,Y3,Y3,Y3,Y3,Y3,Y3,Y3,Y3,Y3,Y3,Z3,Z3,Z3,Z3] rfl rfl (any_of HT_.out (by kernel_rfl)) (fun _ _ _ h => h) (Or.inr ⟨by rfl,rfl⟩) ?_ ?_;rotate_left
               ·simp only [Act.put,q13,q23,q33,i64_w,i32_w];rfl
               refine pure_ (i:=32) (N:=some 60) (v:=undef) (a':=?_) #[Y3,Y3,Y3,Y3,Y3,Y3,Y3,Y3,Y3,Y3,Y3,Y3,Y3,Y3,Y3,Y3,Y3,Y3,Y3,Y3,Y3,Y3,Y3,Y3,Y3,Y3,Y3,Y3,Y3,Y3,Y3,Y3,Y3,Z3,Z3,Z3] rfl rfl (any_of HT_.out (by kernel_rfl)) (fun _ _ _ h => h) (Or.inr ⟨by rfl,rfl⟩) ?_ ?_;rotate_left
               ·simp only [Act.put,q13,q23,q33,i64_w,i32_w];rfl
               refine pure_ (i:=33) (N:=some 61) (v:=undef) (a':=?_) #[Y3,Y3,Y3,Y3,Y3,Y3,Y3,Y3,Y3,Y3,Y3,Y3,Y3,Y3,Y3,Y3,Y3,Y3,Y3,Y3,Y3,Y3,Y3,Y3,Y3,Y3,Y3,Y3,Y3,Y3,Y3,Y3,Y3,Y3,Z3,Z3] rfl rfl (any_of HT_.out (by kernel_rfl)) (fun _ _ _ h => h) (Or.inr ⟨by rfl,rfl⟩) ?_ ?_;rotate_left
               ·simp only [Act.put,q13,q23,q33,i64_w,i32_w];rfl
               refine pure_ (i:=34) (N:=some 62) (v:=?_) (a':=?_) #[Y3,Y3,Y3,Y3,Y3,Y3,Y3,Y3,Y3,Y3,Y3,Y3,Y3,Y3,Y3,Y3,Y3,Y3,Y3,Y3,Y3,Y3,Y3,Y3,Y3,Y3,Y3,Y3,Y3,Y3,Y3,Y3,Y3,Y3,Y3,Z3] rfl rfl (any_of HT_.out (by kernel_rfl)) (fun _ _ _ h => h) (Or.inl ⟨by rfl,?_⟩) ?_ ?_;rotate_left
               ·intro w';go_simp;with_reducible rfl
               rotate_left
               ·simp only [Act.put,q13,q23,q33,i64_w,i32_w];rfl
               refine pure_ (i:=35) (N:=some 63) (v:=?_) (a':=?_) #[Y3,Y3,Y3,Y3,Y3,Y3,Y3,Y3,Y3,Y3,Y3,Y3,Y3,Y3,Y3,Y3,Y3,Y3,Y3,Y3,Y3,Y3,Y3,Y3,Y3,Y3,Y3,Y3,Y3,Y3,Y3,Y3,Y3,Y3,Y3,Y3] rfl rfl (any_of HT_.out (by kernel_rfl)) (fun _ _ _ h => h) (Or.inl ⟨by rfl,?_⟩) ?_ ?_;rotate_left
               ·intro w';go_simp;with_reducible rfl
               rotate_left
               ·simp only [Act.put,q13,q23,q33,i64_w,i32_w];rfl
               refine done_ (done_of HT_.out (by kernel_rfl)) ?_
               try go_wp2
               go_roundg k2
               case measure => have:=HJ1.out;have:=HK2.out;omega
               case rel => exact ⟨(wrap64 (x3_2 + 1)),(by first | rfl | (simp;done) | (simp [*];done)),H',⟨by have:=HJ1.out;have:=HK2.out;omega⟩,⟨by (with_reducible repeat (first | refine blk_drewN ?_ _ | refine blk_drew ?_ | refine blk_alloc ?_ _));exact BK131.out⟩,⟨by repeat (first | (with_reducible first | exact HB.out | apply below_alloc | apply pw_below_drewN | apply below_drew1 | refine below_set ?_ GE131.out | refine below_set ?_ GE135.out) | exact HB.out)⟩⟩
            ·rw [if_neg c18] at H
             have c18b0 : (Op.bytesLess (((rd_T86 l0_1 (ji15)).f0).toList) (((rd_T86 l0_1 x3_2).f0).toList)) = false:=by simpa using c18
             clear c18
             obtain rfl:=Option.some.inj H
             have hcz47_0 : wr.cell? ⟨gb131,0,none⟩ = some (.int .i64 a0_0):=(blk_cell BK131.out 0).trans rfl
             have hcz47_1 : wr.cell? ⟨gb131,1,none⟩ = some (.slice A0_1 l0_1.length c0_1):=(blk_cell BK131.out 1).trans rfl
             have hfz47_0:=blk_frozen BK131.out 0
             have hfz47_1:=blk_frozen BK131.out 1
             have p134 : 0 ≤ (x3_2 : Int):=of_decide_eq_true (by first | (with_reducible assumption) | assumption)
             have q134 : x3_2 < (l0_1.length : Int):=of_decide_eq_true (by first | (with_reducible assumption) | assumption)
             obtain ⟨ad134,e134,hx134_0,hx134_1,hx134_2⟩:=at_T86 HR0_1.out x3_2 p134 q134
             cases e134
             replace hx134_0:=(HB.out.cell (World.block_lt_of_cell? w _ hx134_0)).trans hx134_0
             replace hx134_1:=(HB.out.cell (World.block_lt_of_cell? w _ hx134_1)).trans hx134_1
             replace hx134_2:=(HB.out.cell (World.block_lt_of_cell? w _ hx134_2)).trans hx134_2
             replace p134:=eq_true p134
             replace q134:=eq_true q134
             try go_wp2_with (first | ((with_reducible refine gate_dst (N:=4) rfl ?_);(try (refine gate_guard (by rfl) ?_;dsimp only));refine box_event ?hg (N:=4) ?hd (cs:=#[.string (⟨#[]⟩ : ByteArray),.string (⟨#[]⟩ : ByteArray),.bool false]) (t:=86) ?hr ?_;(case hd => rfl);(case hg => rfl);(case hr => first | (go_simp;done) | (go_simp;rfl));intro gb135 hg w48 hbox hb;have n0_:=Aside0.mk (blk_below (g:=gb131) (o:=.cells #[.int .i64 a0_0,.slice (some ad134) l0_1.length c0_1] 47 (0,0)) (by (with_reducible repeat (first | refine blk_drewN ?_ _ | refine blk_drew ?_ | refine blk_alloc ?_ _));exact BK131.out) hb);have n1_:=Aside0.mk (below_step (by repeat (first | (with_reducible first | exact HB.out | apply below_alloc | apply pw_below_drewN | apply below_drew1 | refine below_set ?_ GE131.out) | exact HB.out)) hb);have n2_:=Aside0.mk (hbox);have n3_:=Aside0.mk ((by rw [hg];exact (below_size (by repeat (first | (with_reducible first | exact HB.out | apply below_alloc | apply pw_below_drewN | apply below_drew1 | refine below_set ?_ GE131.out) | exact HB.out))) : w.heap.size ≤ gb135));have n4_:=Aside0.mk ((by rw [hg];exact (below_size (by repeat (first | (with_reducible first | exact HB.out | apply below_alloc | apply pw_below_drewN | apply below_drew1 | refine below_set ?_ GE131.out) | exact HB.out))) : w.heap.size ≤ gb135));have n5_:=Aside0.mk ((by rw [hg];exact Nat.ne_of_lt (blk_lt (g:=gb131) (o:=.cells #[.int .i64 a0_0,.slice (some ad134) l0_1.length c0_1] 47 (0,0)) (by (with_reducible repeat (first | refine blk_drewN ?_ _ | refine blk_drew ?_ | refine blk_alloc ?_ _));exact BK131.out)) : gb131 ≠ gb135));have n6_:=Aside0.mk ((by rw [hg];exact Nat.ne_of_gt (blk_lt (g:=gb131) (o:=.cells #[.int .i64 a0_0,.slice (some ad134) l0_1.length c0_1] 47 (0,0)) (by (with_reducible repeat (first | refine blk_drewN ?_ _ | refine blk_drew ?_ | refine blk_alloc ?_ _));exact BK131.out)) : gb135 ≠ gb131));clear BK131;clear HB;have BK131:=n0_;have HB:=n1_;have BK135:=n2_;have GW135:=n3_;have GE135:=n4_;have NB131_135:=n5_;have NB135_131:=n6_;clear n0_ n1_ n2_ n3_ n4_ n5_ n6_;clear hb hbox hg;have hnb49:=NB135_131.out;have hnc49:=NB131_135.out;have hcz50_0 : w48.cell? ⟨gb135,0,none⟩ = some (.string (⟨#[]⟩ : ByteArray)):=(blk_cell BK135.out 0).trans rfl;have hcz50_1 : w48.cell? ⟨gb135,1,none⟩ = some (.string (⟨#[]⟩ : ByteArray)):=(blk_cell BK135.out 1).trans rfl;have hcz50_2 : w48.cell? ⟨gb135,2,none⟩ = some (.bool false):=(blk_cell BK135.out 2).trans rfl;have hfz50_0:=blk_frozen BK135.out 0;have hfz50_1:=blk_frozen BK135.out 1;have hfz50_2:=blk_frozen BK135.out 2))
             have n0_ : Aside0 ((((w48.setCell ⟨gb135,0,none⟩ (.string ((rd_T86 l0_1 x3_2).f0))).setCell ⟨gb135,1,none⟩ (.string ((rd_T86 l0_1 x3_2).f1))).setCell ⟨gb135,2,none⟩ (.bool ((rd_T86 l0_1 x3_2).f2))).heap[gb131]? = some (.cells #[.int .i64 a0_0,.slice (some ad134) l0_1.length c0_1] 47 (0,0))):=⟨by (with_reducible repeat (first | refine blk_drewN ?_ _ | refine blk_drew ?_ | refine blk_alloc ?_ _));refine blk_far ?_ NB131_135.out _;(with_reducible repeat (first | refine blk_drewN ?_ _ | refine blk_drew ?_ | refine blk_alloc ?_ _));refine blk_far ?_ NB131_135.out _;(with_reducible repeat (first | refine blk_drewN ?_ _ | refine blk_drew ?_ | refine blk_alloc ?_ _));refine blk_far ?_ NB131_135.out _;(with_reducible repeat (first | refine blk_drewN ?_ _ | refine blk_drew ?_ | refine blk_alloc ?_ _));exact BK131.out⟩
             have n1_ : Aside0 ((((w48.setCell ⟨gb135,0,none⟩ (.string ((rd_T86 l0_1 x3_2).f0))).setCell ⟨gb135,1,none⟩ (.string ((rd_T86 l0_1 x3_2).f1))).setCell ⟨gb135,2,none⟩ (.bool ((rd_T86 l0_1 x3_2).f2))).heap[gb135]? = some (.cells #[.string ((rd_T86 l0_1 x3_2).f0),.string ((rd_T86 l0_1 x3_2).f1),.bool ((rd_T86 l0_1 x3_2).f2)] 86 (0,0))):=⟨by (with_reducible repeat (first | refine blk_drewN ?_ _ | refine blk_drew ?_ | refine blk_alloc ?_ _));refine blk_put (cs:=#[.string ((rd_T86 l0_1 x3_2).f0),.string ((rd_T86 l0_1 x3_2).f1),.bool false]) ?_ 2 _ rfl;(with_reducible repeat (first | refine blk_drewN ?_ _ | refine blk_drew ?_ | refine blk_alloc ?_ _));refine blk_put (cs:=#[.string ((rd_T86 l0_1 x3_2).f0),.string (⟨#[]⟩ : ByteArray),.bool false]) ?_ 1 _ rfl;(with_reducible repeat (first | refine blk_drewN ?_ _ | refine blk_drew ?_ | refine blk_alloc ?_ _));refine blk_put (cs:=#[.string (⟨#[]⟩ : ByteArray),.string (⟨#[]⟩ : ByteArray),.bool false]) ?_ 0 _ rfl;(with_reducible repeat (first | refine blk_drewN ?_ _ | refine blk_drew ?_ | refine blk_alloc ?_ _));exact BK135.out⟩
             have n2_ : Aside0 (Below w.heap.size w (((w48.setCell ⟨gb135,0,none⟩ (.string ((rd_T86 l0_1 x3_2).f0))).setCell ⟨gb135,1,none⟩ (.string ((rd_T86 l0_1 x3_2).f1))).setCell ⟨gb135,2,none⟩ (.bool ((rd_T86 l0_1 x3_2).f2)))):=⟨by repeat (first | (with_reducible first | exact HB.out | apply below_alloc | apply pw_below_drewN | apply below_drew1 | refine below_set ?_ GE131.out | refine below_set ?_ GE135.out) | exact HB.out)⟩
             (try clear BK131)
             (try clear BK135)
             (try clear HB)
             generalize (((w48.setCell ⟨gb135,0,none⟩ (.string ((rd_T86 l0_1 x3_2).f0))).setCell ⟨gb135,1,none⟩ (.string ((rd_T86 l0_1 x3_2).f1))).setCell ⟨gb135,2,none⟩ (.bool ((rd_T86 l0_1 x3_2).f2))) = w51 at n0_ n1_ n2_ ⊢
             have BK131:=n0_
             have BK135:=n1_
             have HB:=n2_
             clear n0_ n1_ n2_
             have n0_:=Aside0.mk (blk_drew BK131.out)
             have n1_:=Aside0.mk (blk_drew BK135.out)
             have n2_:=Aside0.mk (below_drew1 HB.out)
             clear BK131
             clear BK135
             clear HB
             have BK131:=n0_
             have BK135:=n1_
             have HB:=n2_
             clear n0_ n1_ n2_
             have p137 : 0 ≤ ((ji15) : Int):=of_decide_eq_true (by first | (with_reducible assumption) | assumption)
             have q137 : (ji15) < (l0_1.length : Int):=of_decide_eq_true (by first | (with_reducible assumption) | assumption)
             obtain ⟨ad137,e137,hx137_0,hx137_1,hx137_2⟩:=at_T86 HR0_1.out (ji15) p137 q137
             have hw137_2:=hx137_2
             have hw137_1:=hx137_1
             have hw137_0:=hx137_0
             obtain rfl : ad134 = ad137:=(by injection e137)
             replace hx137_0:=(HB.out.cell (World.block_lt_of_cell? w _ hx137_0)).trans hx137_0
             replace hx137_1:=(HB.out.cell (World.block_lt_of_cell? w _ hx137_1)).trans hx137_1
             replace hx137_2:=(HB.out.cell (World.block_lt_of_cell? w _ hx137_2)).trans hx137_2
             replace p137:=eq_true p137
             replace q137:=eq_true q137
             refine start_ (n:=36) (S:=fun w' => w'.cell? ⟨gb135,0,none⟩ = some (.string ((rd_T86 l0_1 x3_2).f0)) ∧ w'.cell? ⟨gb135,1,none⟩ = some (.string ((rd_T86 l0_1 x3_2).f1)) ∧ w'.cell? ⟨gb135,2,none⟩ = some (.bool ((rd_T86 l0_1 x3_2).f2)) ∧ w'.cell? ⟨gb131,0,none⟩ = some (.int .i64 a0_0) ∧ w'.cell? ⟨gb131,1,none⟩ = some (.slice (some ad134) l0_1.length c0_1) ∧ w'.cell? (ad134.add (((ji15)).toNat * 3)) = some (.string ((rd_T86 l0_1 (ji15)).f0)) ∧ w'.cell? ⟨(ad134.add (((ji15)).toNat * 3)).block,(ad134.add (((ji15)).toNat * 3)).off + 1,none⟩ = some (.string ((rd_T86 l0_1 (ji15)).f1)) ∧ w'.cell? ⟨(ad134.add (((ji15)).toNat * 3)).block,(ad134.add (((ji15)).toNat * 3)).off + 2,none⟩ = some (.bool ((rd_T86 l0_1 (ji15)).f2))) (ds:=[]) #[Z3,Z3,Z3,Z3,Z3,Z3,Z3,Z3,Z3,Z3,Z3,Z3,Z3,Z3,Z3,Z3,Z3,Z3,Z3,Z3,Z3,Z3,Z3,Z3,Z3,Z3,Z3,Z3,Z3,Z3,Z3,Z3,Z3,Z3,Z3,Z3] (by kernel_rfl) rfl rfl ⟨(blk_cell BK135.out 0).trans rfl,(blk_cell BK135.out 1).trans rfl,(blk_cell BK135.out 2).trans rfl,(blk_cell BK131.out 0).trans rfl,(blk_cell BK131.out 1).trans rfl,((HB.out.cell (World.block_lt_of_cell? w _ hw137_0)).trans hw137_0),((HB.out.cell (World.block_lt_of_cell? w _ hw137_1)).trans hw137_1),((HB.out.cell (World.block_lt_of_cell? w _ hw137_2)).trans hw137_2)⟩ (fun hHeld => ?_);refine with_tabW spec_BatchOk.tab7 spec_BatchOk.bits7 (fun HT_ HW_ => ?_)
             generalize w51.drew = w52 at BK131 BK135 HB hx137_0 hx137_1 hx137_2 hHeld ⊢
             refine pure_ (i:=0) (N:=some 28) (v:=?_) (a':=?_) #[Y3,Z3,Z3,Z3,Z3,Z3,Z3,Z3,Z3,Z3,Z3,Z3,Z3,Z3,Z3,Z3,Z3,Z3,Z3,Z3,Z3,Z3,Z3,Z3,Z3,Z3,Z3,Z3,Z3,Z3,Z3,Z3,Z3,Z3,Z3,Z3] rfl rfl (any_of HT_.out (by kernel_rfl)) (fun _ _ _ h => h) (Or.inl ⟨by rfl,?_⟩) ?_ ?_;rotate_left
             ·intro w';go_simp;with_reducible rfl
             rotate_left
             ·simp only [Act.put,q13,q23,q33,i64_w,i32_w];rfl
             refine take_ (i:=1) (N:=some 29) (v:=?_) (a':=?_) #[Y3,Y3,Z3,Z3,Z3,Z3,Z3,Z3,Z3,Z3,Z3,Z3,Z3,Z3,Z3,Z3,Z3,Z3,Z3,Z3,Z3,Z3,Z3,Z3,Z3,Z3,Z3,Z3,Z3,Z3,Z3,Z3,Z3,Z3,Z3,Z3] rfl rfl (take_ofW HT_.out HW_.out (by kernel_rfl)) (fun _ _ _ h => h) (Or.inl ⟨by rfl,?_⟩) hHeld ?_ ?_;rotate_left
             ·rintro w' ⟨s0,s1,s2,s3,s4,s5,s6,s7⟩
              go_simp
              with_reducible rfl
             rotate_left
             ·simp only [Act.put,q13,q23,q33,i64_w,i32_w];rfl
             refine pure_ (i:=2) (N:=some 30) (v:=?_) (a':=?_) #[Y3,Y3,Y3,Z3,Z3,Z3,Z3,Z3,Z3,Z3,Z3,Z3,Z3,Z3,Z3,Z3,Z3,Z3,Z3,Z3,Z3,Z3,Z3,Z3,Z3,Z3,Z3,Z3,Z3,Z3,Z3,Z3,Z3,Z3,Z3,Z3] rfl rfl (any_of HT_.out (by kernel_rfl)) (fun _ _ _ h => h) (Or.inl ⟨by rfl,?_⟩) ?_ ?_;rotate_left
             ·intro w';go_simp;with_reducible rfl
             rotate_left
             ·simp only [Act.put,q13,q23,q33,i64_w,i32_w];rfl
             refine one_ (i:=3) (N:=some 31) #[Y3,Y3,Y3,Y3,Z3,Z3,Z3,Z3,Z3,Z3,Z3,Z3,Z3,Z3,Z3,Z3,Z3,Z3,Z3,Z3,Z3,Z3,Z3,Z3,Z3,Z3,Z3,Z3,Z3,Z3,Z3,Z3,Z3,Z3,Z3,Z3] rfl rfl (one_of HT_.out (by kernel_rfl)) (by decide) (fun K hK => ?_)
             refine goes_ Try.func43 (by kernel_rfl) rfl #[.int .i64 (((rd_T86 l0_1 x3_2).f0).size : Int),.int .i64 1,.int .i64 20] (by rfl) rfl rfl (by (try simp only [List.map_toArray,List.map_cons,List.map_nil]);first | done | rfl | (simp only [List.length_drop,List.length_take];rfl)) ?_
             with_reducible refine (spec_l01In.calls (((rd_T86 l0_1 x3_2).f0).size : Int) 1 20 true _ A12.out).mono ?_
             rintro e w' ⟨rfl,⟨nd,rfl⟩⟩
             refine ⟨_,rfl,?_⟩
             refine hK.out _ _ ⟨(blk_cell BK135.out 0).trans rfl,(blk_cell BK135.out 1).trans rfl,(blk_cell BK135.out 2).trans rfl,(blk_cell BK131.out 0).trans rfl,(blk_cell BK131.out 1).trans rfl,((HB.out.cell (World.block_lt_of_cell? w _ hw137_0)).trans hw137_0),((HB.out.cell (World.block_lt_of_cell? w _ hw137_1)).trans hw137_1),((HB.out.cell (World.block_lt_of_cell? w _ hw137_2)).trans hw137_2)⟩ (fun hHeld => ?_)
             clear hK K
             refine norm_ (a':=?_) ?_ ?_;rotate_left
             ·show Act.put _ (some 31) _ = _;simp only [Act.put,q13,q23,q33,i64_w,i32_w];rfl
             refine pure_ (i:=4) (N:=some 32) (v:=?_) (a':=?_) #[Y3,Y3,Y3,Y3,Y3,Z3,Z3,Z3,Z3,Z3,Z3,Z3,Z3,Z3,Z3,Z3,Z3,Z3,Z3,Z3,Z3,Z3,Z3,Z3,Z3,Z3,Z3,Z3,Z3,Z3,Z3,Z3,Z3,Z3,Z3,Z3] rfl rfl (any_of HT_.out (by kernel_rfl)) (fun _ _ _ h => h) (Or.inl ⟨by rfl,?_⟩) ?_ ?_;rotate_left
             ·intro w';go_simp;with_reducible rfl
             rotate_left
             ·simp only [Act.put,q13,q23,q33,i64_w,i32_w];rfl
             refine pure_ (i:=5) (N:=some 33) (v:=?_) (a':=?_) #[Y3,Y3,Y3,Y3,Y3,Y3,Z3,Z3,Z3,Z3,Z3,Z3,Z3,Z3,Z3,Z3,Z3,Z3,Z3,Z3,Z3,Z3,Z3,Z3,Z3,Z3,Z3,Z3,Z3,Z3,Z3,Z3,Z3,Z3,Z3,Z3] rfl rfl (any_of HT_.out (by kernel_rfl)) (fun _ _ _ h => h) (Or.inl ⟨by rfl,?_⟩) ?_ ?_;rotate_left
             ·intro w';go_simp;with_reducible rfl
             rotate_left
             ·simp only [Act.put,q13,q23,q33,i64_w,i32_w];rfl
             refine pure_ (i:=6) (N:=some 34) (v:=?_) (a':=?_) #[Y3,Y3,Y3,Y3,Y3,Y3,Y3,Z3,Z3,Z3,Z3,Z3,Z3,Z3,Z3,Z3,Z3,Z3,Z3,Z3,Z3,Z3,Z3,Z3,Z3,Z3,Z3,Z3,Z3,Z3,Z3,Z3,Z3,Z3,Z3,Z3] rfl rfl (any_of HT_.out (by kernel_rfl)) (fun _ _ _ h => h) (Or.inl ⟨by rfl,?_⟩) ?_ ?_;rotate_left
             ·intro w';go_simp;with_reducible rfl
             rotate_left
             ·simp only [Act.put,q13,q23,q33,i64_w,i32_w];rfl
             refine pure_ (i:=7) (N:=some 35) (v:=?_) (a':=?_) #[Y3,Y3,Y3,Y3,Y3,Y3,Y3,Y3,Z3,Z3,Z3,Z3,Z3,Z3,Z3,Z3,Z3,Z3,Z3,Z3,Z3,Z3,Z3,Z3,Z3,Z3,Z3,Z3,Z3,Z3,Z3,Z3,Z3,Z3,Z3,Z3] rfl rfl (any_of HT_.out (by kernel_rfl)) (fun _ _ _ h => h) (Or.inl ⟨by rfl,?_⟩) ?_ ?_;rotate_left
             ·intro w';go_simp;with_reducible rfl
             rotate_left
             ·simp only [Act.put,q13,q23,q33,i64_w,i32_w];rfl
             refine pure_ (i:=8) (N:=some 36) (v:=?_) (a':=?_) #[Y3,Y3,Y3,Y3,Y3,Y3,Y3,Y3,Y3,Z3,Z3,Z3,Z3,Z3,Z3,Z3,Z3,Z3,Z3,Z3,Z3,Z3,Z3,Z3,Z3,Z3,Z3,Z3,Z3,Z3,Z3,Z3,Z3,Z3,Z3,Z3] rfl rfl (any_of HT_.out (by kernel_rfl)) (fun _ _ _ h => h) (Or.inl ⟨by rfl,?_⟩) ?_ ?_;rotate_left
             ·intro w';go_simp;with_reducible rfl
             rotate_left
             ·simp only [Act.put,q13,q23,q33,i64_w,i32_w];rfl
             refine pure_ (i:=9) (N:=some 37) (v:=?_) (a':=?_) #[Y3,Y3,Y3,Y3,Y3,Y3,Y3,Y3,Y3,Y3,Z3,Z3,Z3,Z3,Z3,Z3,Z3,Z3,Z3,Z3,Z3,Z3,Z3,Z3,Z3,Z3,Z3,Z3,Z3,Z3,Z3,Z3,Z3,Z3,Z3,Z3] rfl rfl (any_of HT_.out (by kernel_rfl)) (fun _ _ _ h => h) (Or.inl ⟨by rfl,?_⟩) ?_ ?_;rotate_left
             ·intro w';go_simp;with_reducible rfl
             rotate_left
             ·simp only [Act.put,q13,q23,q33,i64_w,i32_w];rfl
             refine pure_ (i:=11) (N:=some 39) (v:=?_) (a':=?_) #[Y3,Y3,Y3,Y3,Y3,Y3,Y3,Y3,Y3,Y3,Z3,Y3,Z3,Z3,Z3,Z3,Z3,Z3,Z3,Z3,Z3,Z3,Z3,Z3,Z3,Z3,Z3,Z3,Z3,Z3,Z3,Z3,Z3,Z3,Z3,Z3] rfl rfl (any_of HT_.out (by kernel_rfl)) (fun _ _ _ h => h) (Or.inl ⟨by rfl,?_⟩) ?_ ?_;rotate_left
             ·intro w';go_simp;with_reducible rfl
             rotate_left
             ·simp only [Act.put,q13,q23,q33,i64_w,i32_w];rfl
             refine pure_ (i:=12) (N:=some 40) (v:=?_) (a':=?_) #[Y3,Y3,Y3,Y3,Y3,Y3,Y3,Y3,Y3,Y3,Z3,Y3,Y3,Z3,Z3,Z3,Z3,Z3,Z3,Z3,Z3,Z3,Z3,Z3,Z3,Z3,Z3,Z3,Z3,Z3,Z3,Z3,Z3,Z3,Z3,Z3] rfl rfl (any_of HT_.out (by kernel_rfl)) (fun _ _ _ h => h) (Or.inl ⟨by rfl,?_⟩) ?_ ?_;rotate_left
             ·intro w';go_simp;with_reducible rfl
             rotate_left
             ·simp only [Act.put,q13,q23,q33,i64_w,i32_w];rfl
             refine pure_ (i:=16) (N:=some 44) (v:=?_) (a':=?_) #[Y3,Y3,Y3,Y3,Y3,Y3,Y3,Y3,Y3,Y3,Z3,Y3,Y3,Z3,Z3,Z3,Y3,Z3,Z3,Z3,Z3,Z3,Z3,Z3,Z3,Z3,Z3,Z3,Z3,Z3,Z3,Z3,Z3,Z3,Z3,Z3] rfl rfl (any_of HT_.out (by kernel_rfl)) (fun _ _ _ h => h) (Or.inl ⟨by rfl,?_⟩) ?_ ?_;rotate_left
             ·intro w';go_simp;with_reducible rfl
             rotate_left
             ·simp only [Act.put,q13,q23,q33,i64_w,i32_w];rfl
             refine take_ (i:=10) (N:=some 38) (v:=?_) (a':=?_) #[Y3,Y3,Y3,Y3,Y3,Y3,Y3,Y3,Y3,Y3,Y3,Y3,Y3,Z3,Z3,Z3,Y3,Z3,Z3,Z3,Z3,Z3,Z3,Z3,Z3,Z3,Z3,Z3,Z3,Z3,Z3,Z3,Z3,Z3,Z3,Z3] rfl rfl (take_ofW HT_.out HW_.out (by kernel_rfl)) (fun _ _ _ h => h) (Or.inl ⟨by rfl,?_⟩) hHeld ?_ ?_;rotate_left
             ·rintro w' ⟨s0,s1,s2,s3,s4,s5,s6,s7⟩
              go_simp
              with_reducible rfl
             rotate_left
             ·simp only [Act.put,q13,q23,q33,i64_w,i32_w];rfl
             refine pure_ (i:=13) (N:=some 41) (v:=?_) (a':=?_) #[Y3,Y3,Y3,Y3,Y3,Y3,Y3,Y3,Y3,Y3,Y3,Y3,Y3,Y3,Z3,Z3,Y3,Z3,Z3,Z3,Z3,Z3,Z3,Z3,Z3,Z3,Z3,Z3,Z3,Z3,Z3,Z3,Z3,Z3,Z3,Z3] rfl rfl (any_of HT_.out (by kernel_rfl)) (fun _ _ _ h => h) (Or.inl ⟨by rfl,?_⟩) ?_ ?_;rotate_left
             ·intro w';go_simp;with_reducible rfl
             rotate_left
             ·simp only [Act.put,q13,q23,q33,i64_w,i32_w];rfl
             refine pure_ (i:=14) (N:=some 42) (v:=?_) (a':=?_) #[Y3,Y3,Y3,Y3,Y3,Y3,Y3,Y3,Y3,Y3,Y3,Y3,Y3,Y3,Y3,Z3,Y3,Z3,Z3,Z3,Z3,Z3,Z3,Z3,Z3,Z3,Z3,Z3,Z3,Z3,Z3,Z3,Z3,Z3,Z3,Z3] rfl rfl (any_of HT_.out (by kernel_rfl)) (fun _ _ _ h => h) (Or.inl ⟨by rfl,?_⟩) ?_ ?_;rotate_left
             ·intro w';go_simp;with_reducible rfl
             rotate_left
             ·simp only [Act.put,q13,q23,q33,i64_w,i32_w];rfl
             refine take_ (i:=15) (N:=some 43) (v:=?_) (a':=?_) #[Y3,Y3,Y3,Y3,Y3,Y3,Y3,Y3,Y3,Y3,Y3,Y3,Y3,Y3,Y3,Y3,Y3,Z3,Z3,Z3,Z3,Z3,Z3,Z3,Z3,Z3,Z3,Z3,Z3,Z3,Z3,Z3,Z3,Z3,Z3,Z3] rfl rfl (take_ofW HT_.out HW_.out (by kernel_rfl)) (fun _ _ _ h => h) (Or.inl ⟨by rfl,?_⟩) hHeld ?_ ?_;rotate_left
             ·rintro w' ⟨s0,s1,s2,s3,s4,s5,s6,s7⟩
              go_simp
              with_reducible rfl
             rotate_left
             ·simp only [Act.put,q13,q23,q33,i64_w,i32_w];rfl
             refine take_ (i:=17) (N:=some 45) (v:=?_) (a':=?_) #[Y3,Y3,Y3,Y3,Y3,Y3,Y3,Y3,Y3,Y3,Y3,Y3,Y3,Y3,Y3,Y3,Y3,Y3,Z3,Z3,Z3,Z3,Z3,Z3,Z3,Z3,Z3,Z3,Z3,Z3,Z3,Z3,Z3,Z3,Z3,Z3] rfl rfl (take_ofW HT_.out HW_.out (by kernel_rfl)) (fun _ _ _ h => h) (Or.inl ⟨by rfl,?_⟩) hHeld ?_ ?_;rotate_left
             ·rintro w' ⟨s0,s1,s2,s3,s4,s5,s6,s7⟩
              go_simp
              with_reducible rfl
             rotate_left
             ·simp only [Act.put,q13,q23,q33,i64_w,i32_w];rfl
             refine pure_ (i:=18) (N:=some 46) (v:=?_) (a':=?_) #[Y3,Y3,Y3,Y3,Y3,Y3,Y3,Y3,Y3,Y3,Y3,Y3,Y3,Y3,Y3,Y3,Y3,Y3,Y3,Z3,Z3,Z3,Z3,Z3,Z3,Z3,Z3,Z3,Z3,Z3,Z3,Z3,Z3,Z3,Z3,Z3] rfl rfl (any_of HT_.out (by kernel_rfl)) (fun _ _ _ h => h) (Or.inl ⟨by rfl,?_⟩) ?_ ?_;rotate_left
             ·intro w';go_simp;with_reducible rfl
             rotate_left
             ·simp only [Act.put,q13,q23,q33,i64_w,i32_w];rfl
             refine pure_ (i:=19) (N:=some 47) (v:=?_) (a':=?_) #[Y3,Y3,Y3,Y3,Y3,Y3,Y3,Y3,Y3,Y3,Y3,Y3,Y3,Y3,Y3,Y3,Y3,Y3,Y3,Y3,Z3,Z3,Z3,Z3,Z3,Z3,Z3,Z3,Z3,Z3,Z3,Z3,Z3,Z3,Z3,Z3] rfl rfl (any_of HT_.out (by kernel_rfl)) (fun _ _ _ h => h) (Or.inl ⟨by rfl,?_⟩) ?_ ?_;rotate_left
             ·intro w';go_simp;with_reducible rfl
             rotate_left
             ·simp only [Act.put,q13,q23,q33,i64_w,i32_w];rfl
             refine pure_ (i:=20) (N:=some 48) (v:=?_) (a':=?_) #[Y3,Y3,Y3,Y3,Y3,Y3,Y3,Y3,Y3,Y3,Y3,Y3,Y3,Y3,Y3,Y3,Y3,Y3,Y3,Y3,Y3,Z3,Z3,Z3,Z3,Z3,Z3,Z3,Z3,Z3,Z3,Z3,Z3,Z3,Z3,Z3] rfl rfl (any_of HT_.out (by kernel_rfl)) (fun _ _ _ h => h) (Or.inl ⟨by rfl,?_⟩) ?_ ?_;rotate_left
             ·intro w';go_simp;with_reducible rfl
             rotate_left
             ·simp only [Act.put,q13,q23,q33,i64_w,i32_w];rfl
             refine pure_ (i:=21) (N:=some 49) (v:=?_) (a':=?_) #[Y3,Y3,Y3,Y3,Y3,Y3,Y3,Y3,Y3,Y3,Y3,Y3,Y3,Y3,Y3,Y3,Y3,Y3,Y3,Y3,Y3,Y3,Z3,Z3,Z3,Z3,Z3,Z3,Z3,Z3,Z3,Z3,Z3,Z3,Z3,Z3] rfl rfl (any_of HT_.out (by kernel_rfl)) (fun _ _ _ h => h) (Or.inl ⟨by rfl,?_⟩) ?_ ?_;rotate_left
             ·intro w';go_simp;with_reducible rfl
             rotate_left
             ·simp only [Act.put,q13,q23,q33,i64_w,i32_w];rfl
             refine pure_ (i:=22) (N:=some 50) (v:=undef) (a':=?_) #[Y3,Y3,Y3,Y3,Y3,Y3,Y3,Y3,Y3,Y3,Y3,Y3,Y3,Y3,Y3,Y3,Y3,Y3,Y3,Y3,Y3,Y3,Y3,Z3,Z3,Z3,Z3,Z3,Z3,Z3,Z3,Z3,Z3,Z3,Z3,Z3] rfl rfl (any_of HT_.out (by kernel_rfl)) (fun _ _ _ h => h) (Or.inr ⟨by rfl,rfl⟩) ?_ ?_;rotate_left
             ·simp only [Act.put,q13,q23,q33,i64_w,i32_w];rfl
             refine pure_ (i:=23) (N:=some 51) (v:=undef) (a':=?_) #[Y3,Y3,Y3,Y3,Y3,Y3,Y3,Y3,Y3,Y3,Y3,Y3,Y3,Y3,Y3,Y3,Y3,Y3,Y3,Y3,Y3,Y3,Y3,Y3,Z3,Z3,Z3,Z3,Z3,Z3,Z3,Z3,Z3,Z3,Z3,Z3] rfl rfl (any_of HT_.out (by kernel_rfl)) (fun _ _ _ h => h) (Or.inr ⟨by rfl,rfl⟩) ?_ ?_;rotate_left
             ·simp only [Act.put,q13,q23,q33,i64_w,i32_w];rfl
             refine pure_ (i:=24) (N:=some 52) (v:=undef) (a':=?_) #[Y3,Y3,Y3,Y3,Y3,Y3,Y3,Y3,Y3,Y3,Y3,Y3,Y3,Y3,Y3,Y3,Y3,Y3,Y3,Y3,Y3,Y3,Y3,Y3,Y3,Z3,Z3,Z3,Z3,Z3,Z3,Z3,Z3,Z3,Z3,Z3] rfl rfl (any_of HT_.out (by kernel_rfl)) (fun _ _ _ h => h) (Or.inr ⟨by rfl,rfl⟩) ?_ ?_;rotate_left
             ·simp only [Act.put,q13,q23,q33,i64_w,i32_w];rfl
             refine pure_ (i:=25) (N:=some 53) (v:=undef) (a':=?_) #[Y3,Y3,Y3,Y3,Y3,Y3,Y3,Y3,Y3,Y3,Y3,Y3,Y3,Y3,Y3,Y3,Y3,Y3,Y3,Y3,Y3,Y3,Y3,Y3,Y3,Y3,Z3,Z3,Z3,Z3,Z3,Z3,Z3,Z3,Z3,Z3] rfl rfl (any_of HT_.out (by kernel_rfl)) (fun _ _ _ h => h) (Or.inr ⟨by rfl,rfl⟩) ?_ ?_;rotate_left
             ·simp only [Act.put,q13,q23,q33,i64_w,i32_w];rfl
             refine pure_ (i:=26) (N:=some 54) (v:=?_) (a':=?_) #[Y3,Y3,Y3,Y3,Y3,Y3,Y3,Y3,Y3,Y3,Y3,Y3,Y3,Y3,Y3,Y3,Y3,Y3,Y3,Y3,Y3,Y3,Y3,Y3,Y3,Y3,Y3,Z3,Z3,Z3,Z3,Z3,Z3,Z3,Z3,Z3] rfl rfl (any_of HT_.out (by kernel_rfl)) (fun _ _ _ h => h) (Or.inl ⟨by rfl,?_⟩) ?_ ?_;rotate_left
             ·intro w';go_simp;with_reducible rfl
             rotate_left
             ·simp only [Act.put,q13,q23,q33,i64_w,i32_w];rfl
             refine pure_ (i:=27) (N:=some 55) (v:=?_) (a':=?_) #[Y3,Y3,Y3,Y3,Y3,Y3,Y3,Y3,Y3,Y3,Y3,Y3,Y3,Y3,Y3,Y3,Y3,Y3,Y3,Y3,Y3,Y3,Y3,Y3,Y3,Y3,Y3,Y3,Z3,Z3,Z3,Z3,Z3,Z3,Z3,Z3] rfl rfl (any_of HT_.out (by kernel_rfl)) (fun _ _ _ h => h) (Or.inl ⟨by rfl,?_⟩) ?_ ?_;rotate_left
             ·intro w';go_simp;with_reducible rfl
             rotate_left
             ·simp only [Act.put,q13,q23,q33,i64_w,i32_w];rfl
             refine pure_ (i:=28) (N:=some 56) (v:=undef) (a':=?_) #[Y3,Y3,Y3,Y3,Y3,Y3,Y3,Y3,Y3,Y3,Y3,Y3,Y3,Y3,Y3,Y3,Y3,Y3,Y3,Y3,Y3,Y3,Y3,Y3,Y3,Y3,Y3,Y3,Y3,Z3,Z3,Z3,Z3,Z3,Z3,Z3] rfl rfl (any_of HT_.out (by kernel_rfl)) (fun _ _ _ h => h) (Or.inr ⟨by rfl,rfl⟩) ?_ ?_;rotate_left
             ·simp only [Act.put,q13,q23,q33,i64_w,i32_w];rfl
             refine pure_ (i:=29) (N:=some 57) (v:=undef) (a':=?_) #[Y3,Y3,Y3,Y3,Y3,Y3,Y3,Y3,Y3,Y3,Y3,Y3,Y3,Y3,Y3,Y3,Y3,Y3,Y3,Y3,Y3,Y3,Y3,Y3,Y3,Y3,Y3,Y3,Y3,Y3,Z3,Z3,Z3,Z3,Z3,Z3] rfl rfl (any_of HT_.out (by kernel_rfl)) (fun _ _ _ h => h) (Or.inr ⟨by rfl,rfl⟩) ?_ ?_;rotate_left
             ·simp only [Act.put,q13,q23,q33,i64_w,i32_w];rfl
             refine pure_ (i:=30) (N:=some 58) (v:=undef) (a':=?_) #[Y3,Y3,Y3,Y3,Y3,Y3,Y3,Y3,Y3,Y3,Y3,Y3,Y3,Y3,Y3,Y3,Y3,Y3,Y3,Y3,Y3,Y3,Y3,Y3,Y3,Y3,Y3,Y3,Y3,Y3,Y3,Z3,Z3,Z3,Z3,Z3] rfl rfl (any_of HT_.out (by kernel_rfl)) (fun _ _ _ h => h) (Or.inr ⟨by rfl,rfl⟩) ?_ ?_;rotate_left
             ·simp only [Act.put,q13,q23,q33,i64_w,i32_w];rfl
             refine pure_ (i:=31) (N:=some 59) (v:=undef) (a':=?_) #[Y3,Y3,Y3,Y3,Y3,Y3,Y3,Y3,Y3,Y3,Y3,Y3,Y3,Y3,Y3,Y3,Y3,Y3,Y3,Y3,Y3,Y3,Y3,Y3,Y3,Y3,Y3,Y3,Y3,Y3,Y3,Y3,Z3,Z3,Z3,Z3] rfl rfl (any_of HT_.out (by kernel_rfl)) (fun _ _ _ h => h) (Or.inr ⟨by rfl,rfl⟩) ?_ ?_;rotate_left
             ·simp only [Act.put,q13,q23,q33,i64_w,i32_w];rfl
             refine pure_ (i:=32) (N:=some 60) (v:=undef) (a':=?_) #[Y3,Y3,Y3,Y3,Y3,Y3,Y3,Y3,Y3,Y3,Y3,Y3,Y3,Y3,Y3,Y3,Y3,Y3,Y3,Y3,Y3,Y3,Y3,Y3,Y3,Y3,Y3,Y3,Y3,Y3,Y3,Y3,Y3,Z3,Z3,Z3] rfl rfl (any_of HT_.out (by kernel_rfl)) (fun _ _ _ h => h) (Or.inr ⟨by rfl,rfl⟩) ?_ ?_;rotate_left
             ·simp only [Act.put,q13,q23,q33,i64_w,i32_w];rfl
             refine pure_ (i:=33) (N:=some 61) (v:=undef) (a':=?_) #[Y3,Y3,Y3,Y3,Y3,Y3,Y3,Y3,Y3,Y3,Y3,Y3,Y3,Y3,Y3,Y3,Y3,Y3,Y3,Y3,Y3,Y3,Y3,Y3,Y3,Y3,Y3,Y3,Y3,Y3,Y3,Y3,Y3,Y3,Z3,Z3] rfl rfl (any_of HT_.out (by kernel_rfl)) (fun _ _ _ h => h) (Or.inr ⟨by rfl,rfl⟩) ?_ ?_;rotate_left
             ·simp only [Act.put,q13,q23,q33,i64_w,i32_w];rfl
             refine pure_ (i:=34) (N:=some 62) (v:=undef) (a':=?_) #[Y3,Y3,Y3,Y3,Y3,Y3,Y3,Y3,Y3,Y3,Y3,Y3,Y3,Y3,Y3,Y3,Y3,Y3,Y3,Y3,Y3,Y3,Y3,Y3,Y3,Y3,Y3,Y3,Y3,Y3,Y3,Y3,Y3,Y3,Y3,Z3] rfl rfl (any_of HT_.out (by kernel_rfl)) (fun _ _ _ h => h) (Or.inr ⟨by rfl,rfl⟩) ?_ ?_;rotate_left
             ·simp only [Act.put,q13,q23,q33,i64_w,i32_w];rfl
             refine pure_ (i:=35) (N:=some 63) (v:=?_) (a':=?_) #[Y3,Y3,Y3,Y3,Y3,Y3,Y3,Y3,Y3,Y3,Y3,Y3,Y3,Y3,Y3,Y3,Y3,Y3,Y3,Y3,Y3,Y3,Y3,Y3,Y3,Y3,Y3,Y3,Y3,Y3,Y3,Y3,Y3,Y3,Y3,Y3] rfl rfl (any_of HT_.out (by kernel_rfl)) (fun _ _ _ h => h) (Or.inl ⟨by rfl,?_⟩) ?_ ?_;rotate_left
             ·intro w';go_simp;with_reducible rfl
             rotate_left
             ·simp only [Act.put,q13,q23,q33,i64_w,i32_w];rfl
             refine done_ (done_of HT_.out (by kernel_rfl)) ?_
             try go_wp2
             go_ret
             exact ⟨by first | rfl | (simp [errW_none,errW_some] <;> rfl) | (simp only [← hji15];first | rfl | (simp [errW_none,errW_some] <;> rfl)) | (simp [*,errW_none,errW_some] <;> rfl),by repeat (first | (with_reducible first | exact HB.out | apply below_alloc | apply pw_below_drewN | apply below_drew1 | refine below_set ?_ GE131.out | refine below_set ?_ GE135.out) | exact HB.out)⟩
           ·rw [if_neg c17] at H
            exact absurd H (by simp)
          ·rw [if_neg c16] at H
           exact absurd H (by simp)
         ·rw [if_neg c14] at H
          have c14b0 : decide (0 < x3_2) = false:=decide_eq_false c14
          clear c14
          by_cases c53 : (((rd_T86 l0_1 x3_2).f1).size : Int) > 2000
          ·rw [if_pos c53] at H
           have c53b0 : decide (2000 < (((rd_T86 l0_1 x3_2).f1).size : Int)) = true:=decide_eq_true c53
           have c53b1 : decide (2000 < ((rd_T86 l0_1 x3_2).f1).size) = true:=decide_eq_true (by omega)
           clear c53
           obtain rfl:=Option.some.inj H
           have hcz54_0 : wr.cell? ⟨gb131,0,none⟩ = some (.int .i64 a0_0):=(blk_cell BK131.out 0).trans rfl
           have hcz54_1 : wr.cell? ⟨gb131,1,none⟩ = some (.slice A0_1 l0_1.length c0_1):=(blk_cell BK131.out 1).trans rfl
           have hfz54_0:=blk_frozen BK131.out 0
           have hfz54_1:=blk_frozen BK131.out 1
           have p134 : 0 ≤ (x3_2 : Int):=of_decide_eq_true (by first | (with_reducible assumption) | assumption)
           have q134 : x3_2 < (l0_1.length : Int):=of_decide_eq_true (by first | (with_reducible assumption) | assumption)
           obtain ⟨ad134,e134,hx134_0,hx134_1,hx134_2⟩:=at_T86 HR0_1.out x3_2 p134 q134
           cases e134
           replace hx134_0:=(HB.out.cell (World.block_lt_of_cell? w _ hx134_0)).trans hx134_0
           replace hx134_1:=(HB.out.cell (World.block_lt_of_cell? w _ hx134_1)).trans hx134_1
           replace hx134_2:=(HB.out.cell (World.block_lt_of_cell? w _ hx134_2)).trans hx134_2
           replace p134:=eq_true p134
           replace q134:=eq_true q134
           try go_wp2_with (first | ((with_reducible refine gate_dst (N:=4) rfl ?_);(try (refine gate_guard (by rfl) ?_;dsimp only));refine box_event ?hg (N:=4) ?hd (cs:=#[.string (⟨#[]⟩ : ByteArray),.string (⟨#[]⟩ : ByteArray),.bool false]) (t:=86) ?hr ?_;(case hd => rfl);(case hg => rfl);(case hr => first | (go_simp;done) | (go_simp;rfl));intro gb135 hg w55 hbox hb;have n0_:=Aside0.mk (blk_below (g:=gb131) (o:=.cells #[.int .i64 a0_0,.slice (some ad134) l0_1.length c0_1] 47 (0,0)) (by (with_reducible repeat (first | refine blk_drewN ?_ _ | refine blk_drew ?_ | refine blk_alloc ?_ _));exact BK131.out) hb);have n1_:=Aside0.mk (below_step (by repeat (first | (with_reducible first | exact HB.out | apply below_alloc | apply pw_below_drewN | apply below_drew1 | refine below_set ?_ GE131.out) | exact HB.out)) hb);have n2_:=Aside0.mk (hbox);have n3_:=Aside0.mk ((by rw [hg];exact (below_size (by repeat (first | (with_reducible first | exact HB.out | apply below_alloc | apply pw_below_drewN | apply below_drew1 | refine below_set ?_ GE131.out) | exact HB.out))) : w.heap.size ≤ gb135));have n4_:=Aside0.mk ((by rw [hg];exact (below_size (by repeat (first | (with_reducible first | exact HB.out | apply below_alloc | apply pw_below_drewN | apply below_drew1 | refine below_set ?_ GE131.out) | exact HB.out))) : w.heap.size ≤ gb135));have n5_:=Aside0.mk ((by rw [hg];exact Nat.ne_of_lt (blk_lt (g:=gb131) (o:=.cells #[.int .i64 a0_0,.slice (some ad134) l0_1.length c0_1] 47 (0,0)) (by (with_reducible repeat (first | refine blk_drewN ?_ _ | refine blk_drew ?_ | refine blk_alloc ?_ _));exact BK131.out)) : gb131 ≠ gb135));have n6_:=Aside0.mk ((by rw [hg];exact Nat.ne_of_gt (blk_lt (g:=gb131) (o:=.cells #[.int .i64 a0_0,.slice (some ad134) l0_1.length c0_1] 47 (0,0)) (by (with_reducible repeat (first | refine blk_drewN ?_ _ | refine blk_drew ?_ | refine blk_alloc ?_ _));exact BK131.out)) : gb135 ≠ gb131));clear BK131;clear HB;have BK131:=n0_;have HB:=n1_;have BK135:=n2_;have GW135:=n3_;have GE135:=n4_;have NB131_135:=n5_;have NB135_131:=n6_;clear n0_ n1_ n2_ n3_ n4_ n5_ n6_;clear hb hbox hg;have hnb56:=NB135_131.out;have hnc56:=NB131_135.out;have hcz57_0 : w55.cell? ⟨gb135,0,none⟩ = some (.string (⟨#[]⟩ : ByteArray)):=(blk_cell BK135.out 0).trans rfl;have hcz57_1 : w55.cell? ⟨gb135,1,none⟩ = some (.string (⟨#[]⟩ : ByteArray)):=(blk_cell BK135.out 1).trans rfl;have hcz57_2 : w55.cell? ⟨gb135,2,none⟩ = some (.bool false):=(blk_cell BK135.out 2).trans rfl;have hfz57_0:=blk_frozen BK135.out 0;have hfz57_1:=blk_frozen BK135.out 1;have hfz57_2:=blk_frozen BK135.out 2))
           have n0_ : Aside0 ((((w55.setCell ⟨gb135,0,none⟩ (.string ((rd_T86 l0_1 x3_2).f0))).setCell ⟨gb135,1,none⟩ (.string ((rd_T86 l0_1 x3_2).f1))).setCell ⟨gb135,2,none⟩ (.bool ((rd_T86 l0_1 x3_2).f2))).heap[gb131]? = some (.cells #[.int .i64 a0_0,.slice (some ad134) l0_1.length c0_1] 47 (0,0))):=⟨by (with_reducible repeat (first | refine blk_drewN ?_ _ | refine blk_drew ?_ | refine blk_alloc ?_ _));refine blk_far ?_ NB131_135.out _;(with_reducible repeat (first | refine blk_drewN ?_ _ | refine blk_drew ?_ | refine blk_alloc ?_ _));refine blk_far ?_ NB131_135.out _;(with_reducible repeat (first | refine blk_drewN ?_ _ | refine blk_drew ?_ | refine blk_alloc ?_ _));refine blk_far ?_ NB131_135.out _;(with_reducible repeat (first | refine blk_drewN ?_ _ | refine blk_drew ?_ | refine blk_alloc ?_ _));exact BK131.out⟩
           have n1_ : Aside0 ((((w55.setCell ⟨gb135,0,none⟩ (.string ((rd_T86 l0_1 x3_2).f0))).setCell ⟨gb135,1,none⟩ (.string ((rd_T86 l0_1 x3_2).f1))).setCell ⟨gb135,2,none⟩ (.bool ((rd_T86 l0_1 x3_2).f2))).heap[gb135]? = some (.cells #[.string ((rd_T86 l0_1 x3_2).f0),.string ((rd_T86 l0_1 x3_2).f1),.bool ((rd_T86 l0_1 x3_2).f2)] 86 (0,0))):=⟨by (with_reducible repeat (first | refine blk_drewN ?_ _ | refine blk_drew ?_ | refine blk_alloc ?_ _));refine blk_put (cs:=#[.string ((rd_T86 l0_1 x3_2).f0),.string ((rd_T86 l0_1 x3_2).f1),.bool false]) ?_ 2 _ rfl;(with_reducible repeat (first | refine blk_drewN ?_ _ | refine blk_drew ?_ | refine blk_alloc ?_ _));refine blk_put (cs:=#[.string ((rd_T86 l0_1 x3_2).f0),.string (⟨#[]⟩ : ByteArray),.bool false]) ?_ 1 _ rfl;(with_reducible repeat (first | refine blk_drewN ?_ _ | refine blk_drew ?_ | refine blk_alloc ?_ _));refine blk_put (cs:=#[.string (⟨#[]⟩ : ByteArray),.string (⟨#[]⟩ : ByteArray),.bool false]) ?_ 0 _ rfl;(with_reducible repeat (first | refine blk_drewN ?_ _ | refine blk_drew ?_ | refine blk_alloc ?_ _));exact BK135.out⟩
           have n2_ : Aside0 (Below w.heap.size w (((w55.setCell ⟨gb135,0,none⟩ (.string ((rd_T86 l0_1 x3_2).f0))).setCell ⟨gb135,1,none⟩ (.string ((rd_T86 l0_1 x3_2).f1))).setCell ⟨gb135,2,none⟩ (.bool ((rd_T86 l0_1 x3_2).f2)))):=⟨by repeat (first | (with_reducible first | exact HB.out | apply below_alloc | apply pw_below_drewN | apply below_drew1 | refine below_set ?_ GE131.out | refine below_set ?_ GE135.out) | exact HB.out)⟩
           (try clear BK131)
           (try clear BK135)
           (try clear HB)
           generalize (((w55.setCell ⟨gb135,0,none⟩ (.string ((rd_T86 l0_1 x3_2).f0))).setCell ⟨gb135,1,none⟩ (.string ((rd_T86 l0_1 x3_2).f1))).setCell ⟨gb135,2,none⟩ (.bool ((rd_T86 l0_1 x3_2).f2))) = w58 at n0_ n1_ n2_ ⊢
           have BK131:=n0_
           have BK135:=n1_
           have HB:=n2_
           clear n0_ n1_ n2_
           have n0_:=Aside0.mk (blk_drew BK131.out)
           have n1_:=Aside0.mk (blk_drew BK135.out)
           have n2_:=Aside0.mk (below_drew1 HB.out)
           clear BK131
           clear BK135
           clear HB
           have BK131:=n0_
           have BK135:=n1_
           have HB:=n2_
           clear n0_ n1_ n2_
           refine start_ (n:=36) (S:=fun w' => w'.cell? ⟨gb135,0,none⟩ = some (.string ((rd_T86 l0_1 x3_2).f0)) ∧ w'.cell? ⟨gb135,1,none⟩ = some (.string ((rd_T86 l0_1 x3_2).f1)) ∧ w'.cell? ⟨gb135,2,none⟩ = some (.bool ((rd_T86 l0_1 x3_2).f2))) (ds:=[]) #[Z3,Z3,Z3,Z3,Z3,Z3,Z3,Z3,Z3,Z3,Z3,Z3,Z3,Z3,Z3,Z3,Z3,Z3,Z3,Z3,Z3,Z3,Z3,Z3,Z3,Z3,Z3,Z3,Z3,Z3,Z3,Z3,Z3,Z3,Z3,Z3] (by kernel_rfl) rfl rfl ⟨(blk_cell BK135.out 0).trans rfl,(blk_cell BK135.out 1).trans rfl,(blk_cell BK135.out 2).trans rfl⟩ (fun hHeld => ?_);refine with_tabW spec_BatchOk.tab7 spec_BatchOk.bits7 (fun HT_ HW_ => ?_)
           generalize w58.drew = w59 at BK131 BK135 HB hHeld ⊢
           refine pure_ (i:=0) (N:=some 28) (v:=?_) (a':=?_) #[Y3,Z3,Z3,Z3,Z3,Z3,Z3,Z3,Z3,Z3,Z3,Z3,Z3,Z3,Z3,Z3,Z3,Z3,Z3,Z3,Z3,Z3,Z3,Z3,Z3,Z3,Z3,Z3,Z3,Z3,Z3,Z3,Z3,Z3,Z3,Z3] rfl rfl (any_of HT_.out (by kernel_rfl)) (fun _ _ _ h => h) (Or.inl ⟨by rfl,?_⟩) ?_ ?_;rotate_left
           ·intro w';go_simp;with_reducible rfl
           rotate_left
           ·simp only [Act.put,q13,q23,q33,i64_w,i32_w];rfl
           refine take_ (i:=1) (N:=some 29) (v:=?_) (a':=?_) #[Y3,Y3,Z3,Z3,Z3,Z3,Z3,Z3,Z3,Z3,Z3,Z3,Z3,Z3,Z3,Z3,Z3,Z3,Z3,Z3,Z3,Z3,Z3,Z3,Z3,Z3,Z3,Z3,Z3,Z3,Z3,Z3,Z3,Z3,Z3,Z3] rfl rfl (take_ofW HT_.out HW_.out (by kernel_rfl)) (fun _ _ _ h => h) (Or.inl ⟨by rfl,?_⟩) hHeld ?_ ?_;rotate_left
           ·rintro w' ⟨s0,s1,s2⟩
            go_simp
            with_reducible rfl
           rotate_left
           ·simp only [Act.put,q13,q23,q33,i64_w,i32_w];rfl
           refine pure_ (i:=2) (N:=some 30) (v:=?_) (a':=?_) #[Y3,Y3,Y3,Z3,Z3,Z3,Z3,Z3,Z3,Z3,Z3,Z3,Z3,Z3,Z3,Z3,Z3,Z3,Z3,Z3,Z3,Z3,Z3,Z3,Z3,Z3,Z3,Z3,Z3,Z3,Z3,Z3,Z3,Z3,Z3,Z3] rfl rfl (any_of HT_.out (by kernel_rfl)) (fun _ _ _ h => h) (Or.inl ⟨by rfl,?_⟩) ?_ ?_;rotate_left
           ·intro w';go_simp;with_reducible rfl
           rotate_left
           ·simp only [Act.put,q13,q23,q33,i64_w,i32_w];rfl
           refine one_ (i:=3) (N:=some 31) #[Y3,Y3,Y3,Y3,Z3,Z3,Z3,Z3,Z3,Z3,Z3,Z3,Z3,Z3,Z3,Z3,Z3,Z3,Z3,Z3,Z3,Z3,Z3,Z3,Z3,Z3,Z3,Z3,Z3,Z3,Z3,Z3,Z3,Z3,Z3,Z3] rfl rfl (one_of HT_.out (by kernel_rfl)) (by decide) (fun K hK => ?_)
           refine goes_ Try.func43 (by kernel_rfl) rfl #[.int .i64 (((rd_T86 l0_1 x3_2).f0).size : Int),.int .i64 1,.int .i64 20] (by rfl) rfl rfl (by (try simp only [List.map_toArray,List.map_cons,List.map_nil]);first | done | rfl | (simp only [List.length_drop,List.length_take];rfl)) ?_
           with_reducible refine (spec_l01In.calls (((rd_T86 l0_1 x3_2).f0).size : Int) 1 20 true _ A12.out).mono ?_
           rintro e w' ⟨rfl,⟨nd,rfl⟩⟩
           refine ⟨_,rfl,?_⟩
           refine hK.out _ _ ⟨(blk_cell BK135.out 0).trans rfl,(blk_cell BK135.out 1).trans rfl,(blk_cell BK135.out 2).trans rfl⟩ (fun hHeld => ?_)
           clear hK K
           refine norm_ (a':=?_) ?_ ?_;rotate_left
           ·show Act.put _ (some 31) _ = _;simp only [Act.put,q13,q23,q33,i64_w,i32_w];rfl
           refine pure_ (i:=4) (N:=some 32) (v:=?_) (a':=?_) #[Y3,Y3,Y3,Y3,Y3,Z3,Z3,Z3,Z3,Z3,Z3,Z3,Z3,Z3,Z3,Z3,Z3,Z3,Z3,Z3,Z3,Z3,Z3,Z3,Z3,Z3,Z3,Z3,Z3,Z3,Z3,Z3,Z3,Z3,Z3,Z3] rfl rfl (any_of HT_.out (by kernel_rfl)) (fun _ _ _ h => h) (Or.inl ⟨by rfl,?_⟩) ?_ ?_;rotate_left
           ·intro w';go_simp;with_reducible rfl
           rotate_left
           ·simp only [Act.put,q13,q23,q33,i64_w,i32_w];rfl
           refine pure_ (i:=5) (N:=some 33) (v:=?_) (a':=?_) #[Y3,Y3,Y3,Y3,Y3,Y3,Z3,Z3,Z3,Z3,Z3,Z3,Z3,Z3,Z3,Z3,Z3,Z3,Z3,Z3,Z3,Z3,Z3,Z3,Z3,Z3,Z3,Z3,Z3,Z3,Z3,Z3,Z3,Z3,Z3,Z3] rfl rfl (any_of HT_.out (by kernel_rfl)) (fun _ _ _ h => h) (Or.inl ⟨by rfl,?_⟩) ?_ ?_;rotate_left
           ·intro w';go_simp;with_reducible rfl
           rotate_left
           ·simp only [Act.put,q13,q23,q33,i64_w,i32_w];rfl
           refine pure_ (i:=6) (N:=some 34) (v:=?_) (a':=?_) #[Y3,Y3,Y3,Y3,Y3,Y3,Y3,Z3,Z3,Z3,Z3,Z3,Z3,Z3,Z3,Z3,Z3,Z3,Z3,Z3,Z3,Z3,Z3,Z3,Z3,Z3,Z3,Z3,Z3,Z3,Z3,Z3,Z3,Z3,Z3,Z3] rfl rfl (any_of HT_.out (by kernel_rfl)) (fun _ _ _ h => h) (Or.inl ⟨by rfl,?_⟩) ?_ ?_;rotate_left
           ·intro w';go_simp;with_reducible rfl
           rotate_left
           ·simp only [Act.put,q13,q23,q33,i64_w,i32_w];rfl
           refine pure_ (i:=7) (N:=some 35) (v:=?_) (a':=?_) #[Y3,Y3,Y3,Y3,Y3,Y3,Y3,Y3,Z3,Z3,Z3,Z3,Z3,Z3,Z3,Z3,Z3,Z3,Z3,Z3,Z3,Z3,Z3,Z3,Z3,Z3,Z3,Z3,Z3,Z3,Z3,Z3,Z3,Z3,Z3,Z3] rfl rfl (any_of HT_.out (by kernel_rfl)) (fun _ _ _ h => h) (Or.inl ⟨by rfl,?_⟩) ?_ ?_;rotate_left
           ·intro w';go_simp;with_reducible rfl
           rotate_left
           ·simp only [Act.put,q13,q23,q33,i64_w,i32_w];rfl
           refine pure_ (i:=8) (N:=some 36) (v:=?_) (a':=?_) #[Y3,Y3,Y3,Y3,Y3,Y3,Y3,Y3,Y3,Z3,Z3,Z3,Z3,Z3,Z3,Z3,Z3,Z3,Z3,Z3,Z3,Z3,Z3,Z3,Z3,Z3,Z3,Z3,Z3,Z3,Z3,Z3,Z3,Z3,Z3,Z3] rfl rfl (any_of HT_.out (by kernel_rfl)) (fun _ _ _ h => h) (Or.inl ⟨by rfl,?_⟩) ?_ ?_;rotate_left
           ·intro w';go_simp;with_reducible rfl
           rotate_left
           ·simp only [Act.put,q13,q23,q33,i64_w,i32_w];rfl
           refine pure_ (i:=9) (N:=some 37) (v:=undef) (a':=?_) #[Y3,Y3,Y3,Y3,Y3,Y3,Y3,Y3,Y3,Y3,Z3,Z3,Z3,Z3,Z3,Z3,Z3,Z3,Z3,Z3,Z3,Z3,Z3,Z3,Z3,Z3,Z3,Z3,Z3,Z3,Z3,Z3,Z3,Z3,Z3,Z3] rfl rfl (any_of HT_.out (by kernel_rfl)) (fun _ _ _ h => h) (Or.inr ⟨by rfl,rfl⟩) ?_ ?_;rotate_left
           ·simp only [Act.put,q13,q23,q33,i64_w,i32_w];rfl
           refine pure_ (i:=10) (N:=some 38) (v:=undef) (a':=?_) #[Y3,Y3,Y3,Y3,Y3,Y3,Y3,Y3,Y3,Y3,Y3,Z3,Z3,Z3,Z3,Z3,Z3,Z3,Z3,Z3,Z3,Z3,Z3,Z3,Z3,Z3,Z3,Z3,Z3,Z3,Z3,Z3,Z3,Z3,Z3,Z3] rfl rfl (any_of HT_.out (by kernel_rfl)) (fun _ _ _ h => h) (Or.inr ⟨by rfl,rfl⟩) ?_ ?_;rotate_left
           ·simp only [Act.put,q13,q23,q33,i64_w,i32_w];rfl
           refine pure_ (i:=11) (N:=some 39) (v:=undef) (a':=?_) #[Y3,Y3,Y3,Y3,Y3,Y3,Y3,Y3,Y3,Y3,Y3,Y3,Z3,Z3,Z3,Z3,Z3,Z3,Z3,Z3,Z3,Z3,Z3,Z3,Z3,Z3,Z3,Z3,Z3,Z3,Z3,Z3,Z3,Z3,Z3,Z3] rfl rfl (any_of HT_.out (by kernel_rfl)) (fun _ _ _ h => h) (Or.inr ⟨by rfl,rfl⟩) ?_ ?_;rotate_left
           ·simp only [Act.put,q13,q23,q33,i64_w,i32_w];rfl
           refine pure_ (i:=12) (N:=some 40) (v:=undef) (a':=?_) #[Y3,Y3,Y3,Y3,Y3,Y3,Y3,Y3,Y3,Y3,Y3,Y3,Y3,Z3,Z3,Z3,Z3,Z3,Z3,Z3,Z3,Z3,Z3,Z3,Z3,Z3,Z3,Z3,Z3,Z3,Z3,Z3,Z3,Z3,Z3,Z3] rfl rfl (any_of HT_.out (by kernel_rfl)) (fun _ _ _ h => h) (Or.inr ⟨by rfl,rfl⟩) ?_ ?_;rotate_left
           ·simp only [Act.put,q13,q23,q33,i64_w,i32_w];rfl
           refine pure_ (i:=13) (N:=some 41) (v:=undef) (a':=?_) #[Y3,Y3,Y3,Y3,Y3,Y3,Y3,Y3,Y3,Y3,Y3,Y3,Y3,Y3,Z3,Z3,Z3,Z3,Z3,Z3,Z3,Z3,Z3,Z3,Z3,Z3,Z3,Z3,Z3,Z3,Z3,Z3,Z3,Z3,Z3,Z3] rfl rfl (any_of HT_.out (by kernel_rfl)) (fun _ _ _ h => h) (Or.inr ⟨by rfl,rfl⟩) ?_ ?_;rotate_left
           ·simp only [Act.put,q13,q23,q33,i64_w,i32_w];rfl
           refine pure_ (i:=14) (N:=some 42) (v:=undef) (a':=?_) #[Y3,Y3,Y3,Y3,Y3,Y3,Y3,Y3,Y3,Y3,Y3,Y3,Y3,Y3,Y3,Z3,Z3,Z3,Z3,Z3,Z3,Z3,Z3,Z3,Z3,Z3,Z3,Z3,Z3,Z3,Z3,Z3,Z3,Z3,Z3,Z3] rfl rfl (any_of HT_.out (by kernel_rfl)) (fun _ _ _ h => h) (Or.inr ⟨by rfl,rfl⟩) ?_ ?_;rotate_left
           ·simp only [Act.put,q13,q23,q33,i64_w,i32_w];rfl
           refine pure_ (i:=15) (N:=some 43) (v:=undef) (a':=?_) #[Y3,Y3,Y3,Y3,Y3,Y3,Y3,Y3,Y3,Y3,Y3,Y3,Y3,Y3,Y3,Y3,Z3,Z3,Z3,Z3,Z3,Z3,Z3,Z3,Z3,Z3,Z3,Z3,Z3,Z3,Z3,Z3,Z3,Z3,Z3,Z3] rfl rfl (any_of HT_.out (by kernel_rfl)) (fun _ _ _ h => h) (Or.inr ⟨by rfl,rfl⟩) ?_ ?_;rotate_left
           ·simp only [Act.put,q13,q23,q33,i64_w,i32_w];rfl
           refine pure_ (i:=16) (N:=some 44) (v:=undef) (a':=?_) #[Y3,Y3,Y3,Y3,Y3,Y3,Y3,Y3,Y3,Y3,Y3,Y3,Y3,Y3,Y3,Y3,Y3,Z3,Z3,Z3,Z3,Z3,Z3,Z3,Z3,Z3,Z3,Z3,Z3,Z3,Z3,Z3,Z3,Z3,Z3,Z3] rfl rfl (any_of HT_.out (by kernel_rfl)) (fun _ _ _ h => h) (Or.inr ⟨by rfl,rfl⟩) ?_ ?_;rotate_left
           ·simp only [Act.put,q13,q23,q33,i64_w,i32_w];rfl
           refine pure_ (i:=17) (N:=some 45) (v:=undef) (a':=?_) #[Y3,Y3,Y3,Y3,Y3,Y3,Y3,Y3,Y3,Y3,Y3,Y3,Y3,Y3,Y3,Y3,Y3,Y3,Z3,Z3,Z3,Z3,Z3,Z3,Z3,Z3,Z3,Z3,Z3,Z3,Z3,Z3,Z3,Z3,Z3,Z3] rfl rfl (any_of HT_.out (by kernel_rfl)) (fun _ _ _ h => h) (Or.inr ⟨by rfl,rfl⟩) ?_ ?_;rotate_left
           ·simp only [Act.put,q13,q23,q33,i64_w,i32_w];rfl
           refine pure_ (i:=18) (N:=some 46) (v:=undef) (a':=?_) #[Y3,Y3,Y3,Y3,Y3,Y3,Y3,Y3,Y3,Y3,Y3,Y3,Y3,Y3,Y3,Y3,Y3,Y3,Y3,Z3,Z3,Z3,Z3,Z3,Z3,Z3,Z3,Z3,Z3,Z3,Z3,Z3,Z3,Z3,Z3,Z3] rfl rfl (any_of HT_.out (by kernel_rfl)) (fun _ _ _ h => h) (Or.inr ⟨by rfl,rfl⟩) ?_ ?_;rotate_left
           ·simp only [Act.put,q13,q23,q33,i64_w,i32_w];rfl
           refine pure_ (i:=19) (N:=some 47) (v:=?_) (a':=?_) #[Y3,Y3,Y3,Y3,Y3,Y3,Y3,Y3,Y3,Y3,Y3,Y3,Y3,Y3,Y3,Y3,Y3,Y3,Y3,Y3,Z3,Z3,Z3,Z3,Z3,Z3,Z3,Z3,Z3,Z3,Z3,Z3,Z3,Z3,Z3,Z3] rfl rfl (any_of HT_.out (by kernel_rfl)) (fun _ _ _ h => h) (Or.inl ⟨by rfl,?_⟩) ?_ ?_;rotate_left
           ·intro w';go_simp;with_reducible rfl
           rotate_left
           ·simp only [Act.put,q13,q23,q33,i64_w,i32_w];rfl
           refine pure_ (i:=20) (N:=some 48) (v:=?_) (a':=?_) #[Y3,Y3,Y3,Y3,Y3,Y3,Y3,Y3,Y3,Y3,Y3,Y3,Y3,Y3,Y3,Y3,Y3,Y3,Y3,Y3,Y3,Z3,Z3,Z3,Z3,Z3,Z3,Z3,Z3,Z3,Z3,Z3,Z3,Z3,Z3,Z3] rfl rfl (any_of HT_.out (by kernel_rfl)) (fun _ _ _ h => h) (Or.inl ⟨by rfl,?_⟩) ?_ ?_;rotate_left
           ·intro w';go_simp;with_reducible rfl
           rotate_left
           ·simp only [Act.put,q13,q23,q33,i64_w,i32_w];rfl
           refine pure_ (i:=21) (N:=some 49) (v:=?_) (a':=?_) #[Y3,Y3,Y3,Y3,Y3,Y3,Y3,Y3,Y3,Y3,Y3,Y3,Y3,Y3,Y3,Y3,Y3,Y3,Y3,Y3,Y3,Y3,Z3,Z3,Z3,Z3,Z3,Z3,Z3,Z3,Z3,Z3,Z3,Z3,Z3,Z3] rfl rfl (any_of HT_.out (by kernel_rfl)) (fun _ _ _ h => h) (Or.inl ⟨by rfl,?_⟩) ?_ ?_;rotate_left
           ·intro w';go_simp;with_reducible rfl
           rotate_left
           ·simp only [Act.put,q13,q23,q33,i64_w,i32_w];rfl
           refine pure_ (i:=22) (N:=some 50) (v:=?_) (a':=?_) #[Y3,Y3,Y3,Y3,Y3,Y3,Y3,Y3,Y3,Y3,Y3,Y3,Y3,Y3,Y3,Y3,Y3,Y3,Y3,Y3,Y3,Y3,Y3,Z3,Z3,Z3,Z3,Z3,Z3,Z3,Z3,Z3,Z3,Z3,Z3,Z3] rfl rfl (any_of HT_.out (by kernel_rfl)) (fun _ _ _ h => h) (Or.inl ⟨by rfl,?_⟩) ?_ ?_;rotate_left
           ·intro w';go_simp;with_reducible rfl
           rotate_left
           ·simp only [Act.put,q13,q23,q33,i64_w,i32_w];rfl
           refine take_ (i:=23) (N:=some 51) (v:=?_) (a':=?_) #[Y3,Y3,Y3,Y3,Y3,Y3,Y3,Y3,Y3,Y3,Y3,Y3,Y3,Y3,Y3,Y3,Y3,Y3,Y3,Y3,Y3,Y3,Y3,Y3,Z3,Z3,Z3,Z3,Z3,Z3,Z3,Z3,Z3,Z3,Z3,Z3] rfl rfl (take_ofW HT_.out HW_.out (by kernel_rfl)) (fun _ _ _ h => h) (Or.inl ⟨by rfl,?_⟩) hHeld ?_ ?_;rotate_left
           ·rintro w' ⟨s0,s1,s2⟩
            go_simp
            with_reducible rfl
           rotate_left
           ·simp only [Act.put,q13,q23,q33,i64_w,i32_w];rfl
           refine pure_ (i:=24) (N:=some 52) (v:=?_) (a':=?_) #[Y3,Y3,Y3,Y3,Y3,Y3,Y3,Y3,Y3,Y3,Y3,Y3,Y3,Y3,Y3,Y3,Y3,Y3,Y3,Y3,Y3,Y3,Y3,Y3,Y3,Z3,Z3,Z3,Z3,Z3,Z3,Z3,Z3,Z3,Z3,Z3] rfl rfl (any_of HT_.out (by kernel_rfl)) (fun _ _ _ h => h) (Or.inl ⟨by rfl,?_⟩) ?_ ?_;rotate_left
           ·intro w';go_simp;with_reducible rfl
           rotate_left
           ·simp only [Act.put,q13,q23,q33,i64_w,i32_w];rfl
           refine pure_ (i:=25) (N:=some 53) (v:=?_) (a':=?_) #[Y3,Y3,Y3,Y3,Y3,Y3,Y3,Y3,Y3,Y3,Y3,Y3,Y3,Y3,Y3,Y3,Y3,Y3,Y3,Y3,Y3,Y3,Y3,Y3,Y3,Y3,Z3,Z3,Z3,Z3,Z3,Z3,Z3,Z3,Z3,Z3] rfl rfl (any_of HT_.out (by kernel_rfl)) (fun _ _ _ h => h) (Or.inl ⟨by rfl,?_⟩) ?_ ?_;rotate_left
           ·intro w';go_simp;with_reducible rfl
           rotate_left
           ·simp only [Act.put,q13,q23,q33,i64_w,i32_w];rfl
           refine pure_ (i:=26) (N:=some 54) (v:=?_) (a':=?_) #[Y3,Y3,Y3,Y3,Y3,Y3,Y3,Y3,Y3,Y3,Y3,Y3,Y3,Y3,Y3,Y3,Y3,Y3,Y3,Y3,Y3,Y3,Y3,Y3,Y3,Y3,Y3,Z3,Z3,Z3,Z3,Z3,Z3,Z3,Z3,Z3] rfl rfl (any_of HT_.out (by kernel_rfl)) (fun _ _ _ h => h) (Or.inl ⟨by rfl,?_⟩) ?_ ?_;rotate_left
           ·intro w';go_simp;with_reducible rfl
           rotate_left
           ·simp only [Act.put,q13,q23,q33,i64_w,i32_w];rfl
           refine pure_ (i:=27) (N:=some 55) (v:=?_) (a':=?_) #[Y3,Y3,Y3,Y3,Y3,Y3,Y3,Y3,Y3,Y3,Y3,Y3,Y3,Y3,Y3,Y3,Y3,Y3,Y3,Y3,Y3,Y3,Y3,Y3,Y3,Y3,Y3,Y3,Z3,Z3,Z3,Z3,Z3,Z3,Z3,Z3] rfl rfl (any_of HT_.out (by kernel_rfl)) (fun _ _ _ h => h) (Or.inl ⟨by rfl,?_⟩) ?_ ?_;rotate_left
           ·intro w';go_simp;with_reducible rfl
           rotate_left
           ·simp only [Act.put,q13,q23,q33,i64_w,i32_w];rfl
           refine pure_ (i:=28) (N:=some 56) (v:=undef) (a':=?_) #[Y3,Y3,Y3,Y3,Y3,Y3,Y3,Y3,Y3,Y3,Y3,Y3,Y3,Y3,Y3,Y3,Y3,Y3,Y3,Y3,Y3,Y3,Y3,Y3,Y3,Y3,Y3,Y3,Y3,Z3,Z3,Z3,Z3,Z3,Z3,Z3] rfl rfl (any_of HT_.out (by kernel_rfl)) (fun _ _ _ h => h) (Or.inr ⟨by rfl,rfl⟩) ?_ ?_;rotate_left
           ·simp only [Act.put,q13,q23,q33,i64_w,i32_w];rfl
           refine pure_ (i:=29) (N:=some 57) (v:=undef) (a':=?_) #[Y3,Y3,Y3,Y3,Y3,Y3,Y3,Y3,Y3,Y3,Y3,Y3,Y3,Y3,Y3,Y3,Y3,Y3,Y3,Y3,Y3,Y3,Y3,Y3,Y3,Y3,Y3,Y3,Y3,Y3,Z3,Z3,Z3,Z3,Z3,Z3] rfl rfl (any_of HT_.out (by kernel_rfl)) (fun _ _ _ h => h) (Or.inr ⟨by rfl,rfl⟩) ?_ ?_;rotate_left
           ·simp only [Act.put,q13,q23,q33,i64_w,i32_w];rfl
           refine pure_ (i:=30) (N:=some 58) (v:=undef) (a':=?_) #[Y3,Y3,Y3,Y3,Y3,Y3,Y3,Y3,Y3,Y3,Y3,Y3,Y3,Y3,Y3,Y3,Y3,Y3,Y3,Y3,Y3,Y3,Y3,Y3,Y3,Y3,Y3,Y3,Y3,Y3,Y3,Z3,Z3,Z3,Z3,Z3] rfl rfl (any_of HT_.out (by kernel_rfl)) (fun _ _ _ h => h) (Or.inr ⟨by rfl,rfl⟩) ?_ ?_;rotate_left
           ·simp only [Act.put,q13,q23,q33,i64_w,i32_w];rfl
           refine pure_ (i:=31) (N:=some 59) (v:=undef) (a':=?_) #[Y3,Y3,Y3,Y3,Y3,Y3,Y3,Y3,Y3,Y3,Y3,Y3,Y3,Y3,Y3,Y3,Y3,Y3,Y3,Y3,Y3,Y3,Y3,Y3,Y3,Y3,Y3,Y3,Y3,Y3,Y3,Y3,Z3,Z3,Z3,Z3] rfl rfl (any_of HT_.out (by kernel_rfl)) (fun _ _ _ h => h) (Or.inr ⟨by rfl,rfl⟩) ?_ ?_;rotate_left
           ·simp only [Act.put,q13,q23,q33,i64_w,i32_w];rfl
           refine pure_ (i:=32) (N:=some 60) (v:=undef) (a':=?_) #[Y3,Y3,Y3,Y3,Y3,Y3,Y3,Y3,Y3,Y3,Y3,Y3,Y3,Y3,Y3,Y3,Y3,Y3,Y3,Y3,Y3,Y3,Y3,Y3,Y3,Y3,Y3,Y3,Y3,Y3,Y3,Y3,Y3,Z3,Z3,Z3] rfl rfl (any_of HT_.out (by kernel_rfl)) (fun _ _ _ h => h) (Or.inr ⟨by rfl,rfl⟩) ?_ ?_;rotate_left
           ·simp only [Act.put,q13,q23,q33,i64_w,i32_w];rfl
           refine pure_ (i:=33) (N:=some 61) (v:=undef) (a':=?_) #[Y3,Y3,Y3,Y3,Y3,Y3,Y3,Y3,Y3,Y3,Y3,Y3,Y3,Y3,Y3,Y3,Y3,Y3,Y3,Y3,Y3,Y3,Y3,Y3,Y3,Y3,Y3,Y3,Y3,Y3,Y3,Y3,Y3,Y3,Z3,Z3] rfl rfl (any_of HT_.out (by kernel_rfl)) (fun _ _ _ h => h) (Or.inr ⟨by rfl,rfl⟩) ?_ ?_;rotate_left
           ·simp only [Act.put,q13,q23,q33,i64_w,i32_w];rfl
           refine pure_ (i:=34) (N:=some 62) (v:=undef) (a':=?_) #[Y3,Y3,Y3,Y3,Y3,Y3,Y3,Y3,Y3,Y3,Y3,Y3,Y3,Y3,Y3,Y3,Y3,Y3,Y3,Y3,Y3,Y3,Y3,Y3,Y3,Y3,Y3,Y3,Y3,Y3,Y3,Y3,Y3,Y3,Y3,Z3] rfl rfl (any_of HT_.out (by kernel_rfl)) (fun _ _ _ h => h) (Or.inr ⟨by rfl,rfl⟩) ?_ ?_;rotate_left
           ·simp only [Act.put,q13,q23,q33,i64_w,i32_w];rfl
           refine pure_ (i:=35) (N:=some 63) (v:=?_) (a':=?_) #[Y3,Y3,Y3,Y3,Y3,Y3,Y3,Y3,Y3,Y3,Y3,Y3,Y3,Y3,Y3,Y3,Y3,Y3,Y3,Y3,Y3,Y3,Y3,Y3,Y3,Y3,Y3,Y3,Y3,Y3,Y3,Y3,Y3,Y3,Y3,Y3] rfl rfl (any_of HT_.out (by kernel_rfl)) (fun _ _ _ h => h) (Or.inl ⟨by rfl,?_⟩) ?_ ?_;rotate_left
           ·intro w';go_simp;with_reducible rfl
           rotate_left
           ·simp only [Act.put,q13,q23,q33,i64_w,i32_w];rfl
           refine done_ (done_of HT_.out (by kernel_rfl)) ?_
           try go_wp2
           go_ret
           exact ⟨by first | rfl | (simp [errW_none,errW_some] <;> rfl) | (simp [*,errW_none,errW_some] <;> rfl),by repeat (first | (with_reducible first | exact HB.out | apply below_alloc | apply pw_below_drewN | apply below_drew1 | refine below_set ?_ GE131.out | refine below_set ?_ GE135.out) | exact HB.out)⟩
          ·rw [if_neg c53] at H
           have c53b0 : decide (2000 < (((rd_T86 l0_1 x3_2).f1).size : Int)) = false:=decide_eq_false c53
           have c53b1 : decide (2000 < ((rd_T86 l0_1 x3_2).f1).size) = false:=decide_eq_false (by omega)
           clear c53
           obtain ⟨bq60,hbq60⟩ : ∃ b_ : Bool,b_ = ((rd_T86 l0_1 x3_2).f2):=⟨_,rfl⟩
           replace H : (if bq60 = true then (if ((rd_T86 l0_1 x3_2).f1).toList = ([] : List UInt8) then (spec_BatchOk.l0 k2 (wrap64 (x3_2 + 1)) a0_0 l0_1) else (some false)) else (spec_BatchOk.l0 k2 (wrap64 (x3_2 + 1)) a0_0 l0_1)) = some r:=by rw [← hbq60] at H;exact H
           have Nbq60:=Aside0.mk hbq60
           clear hbq60
           by_cases c61 : bq60 = true
           ·subst c61
            have H1 : (if ((rd_T86 l0_1 x3_2).f1).toList = ([] : List UInt8) then (spec_BatchOk.l0 k2 (wrap64 (x3_2 + 1)) a0_0 l0_1) else (some false)) = some r:=by rw [if_pos rfl] at H;exact H
            clear H
            have H:=H1
            clear H1
            by_cases c62 : ((rd_T86 l0_1 x3_2).f1).toList = ([] : List UInt8)
            ·rw [if_pos c62] at H
             have c62b0 : (((rd_T86 l0_1 x3_2).f1).toList == ([] : List UInt8)) = true:=beq_iff_eq.mpr c62
             have c62b1 : (((rd_T86 l0_1 x3_2).f1).toList != ([] : List UInt8)) = false:=bne_eq_false_iff_eq.mpr c62
             clear c62
             have H':=Aside0.mk H
             clear H
             have hcz63_0 : wr.cell? ⟨gb131,0,none⟩ = some (.int .i64 a0_0):=(blk_cell BK131.out 0).trans rfl
             have hcz63_1 : wr.cell? ⟨gb131,1,none⟩ = some (.slice A0_1 l0_1.length c0_1):=(blk_cell BK131.out 1).trans rfl
             have hfz63_0:=blk_frozen BK131.out 0
             have hfz63_1:=blk_frozen BK131.out 1
             have p134 : 0 ≤ (x3_2 : Int):=of_decide_eq_true (by first | (with_reducible assumption) | assumption)
             have q134 : x3_2 < (l0_1.length : Int):=of_decide_eq_true (by first | (with_reducible assumption) | assumption)
             obtain ⟨ad134,e134,hx134_0,hx134_1,hx134_2⟩:=at_T86 HR0_1.out x3_2 p134 q134
             (try rw [← Nbq60.out] at hx134_2)
             cases e134
             replace hx134_0:=(HB.out.cell (World.block_lt_of_cell? w _ hx134_0)).trans hx134_0
             replace hx134_1:=(HB.out.cell (World.block_lt_of_cell? w _ hx134_1)).trans hx134_1
             replace hx134_2:=(HB.out.cell (World.block_lt_of_cell? w _ hx134_2)).trans hx134_2
             replace p134:=eq_true p134
             replace q134:=eq_true q134
             try go_wp2_with (first | ((with_reducible refine gate_dst (N:=4) rfl ?_);(try (refine gate_guard (by rfl) ?_;dsimp only));refine box_event ?hg (N:=4) ?hd (cs:=#[.string (⟨#[]⟩ : ByteArray),.string (⟨#[]⟩ : ByteArray),.bool false]) (t:=86) ?hr ?_;(case hd => rfl);(case hg => rfl);(case hr => first | (go_simp;done) | (go_simp;rfl));intro gb135 hg w64 hbox hb;have n0_:=Aside0.mk (blk_below (g:=gb131) (o:=.cells #[.int .i64 a0_0,.slice (some ad134) l0_1.length c0_1] 47 (0,0)) (by (with_reducible repeat (first | refine blk_drewN ?_ _ | refine blk_drew ?_ | refine blk_alloc ?_ _));exact BK131.out) hb);have n1_:=Aside0.mk (below_step (by repeat (first | (with_reducible first | exact HB.out | apply below_alloc | apply pw_below_drewN | apply below_drew1 | refine below_set ?_ GE131.out) | exact HB.out)) hb);have n2_:=Aside0.mk (hbox);have n3_:=Aside0.mk ((by rw [hg];exact (below_size (by repeat (first | (with_reducible first | exact HB.out | apply below_alloc | apply pw_below_drewN | apply below_drew1 | refine below_set ?_ GE131.out) | exact HB.out))) : w.heap.size ≤ gb135));have n4_:=Aside0.mk ((by rw [hg];exact (below_size (by repeat (first | (with_reducible first | exact HB.out | apply below_alloc | apply pw_below_drewN | apply below_drew1 | refine below_set ?_ GE131.out) | exact HB.out))) : w.heap.size ≤ gb135));have n5_:=Aside0.mk ((by rw [hg];exact Nat.ne_of_lt (blk_lt (g:=gb131) (o:=.cells #[.int .i64 a0_0,.slice (some ad134) l0_1.length c0_1] 47 (0,0)) (by (with_reducible repeat (first | refine blk_drewN ?_ _ | refine blk_drew ?_ | refine blk_alloc ?_ _));exact BK131.out)) : gb131 ≠ gb135));have n6_:=Aside0.mk ((by rw [hg];exact Nat.ne_of_gt (blk_lt (g:=gb131) (o:=.cells #[.int .i64 a0_0,.slice (some ad134) l0_1.length c0_1] 47 (0,0)) (by (with_reducible repeat (first | refine blk_drewN ?_ _ | refine blk_drew ?_ | refine blk_alloc ?_ _));exact BK131.out)) : gb135 ≠ gb131));clear BK131;clear HB;have BK131:=n0_;have HB:=n1_;have BK135:=n2_;have GW135:=n3_;have GE135:=n4_;have NB131_135:=n5_;have NB135_131:=n6_;clear n0_ n1_ n2_ n3_ n4_ n5_ n6_;clear hb hbox hg;have hnb65:=NB135_131.out;have hnc65:=NB131_135.out;have hcz66_0 : w64.cell? ⟨gb135,0,none⟩ = some (.string (⟨#[]⟩ : ByteArray)):=(blk_cell BK135.out 0).trans rfl;have hcz66_1 : w64.cell? ⟨gb135,1,none⟩ = some (.string (⟨#[]⟩ : ByteArray)):=(blk_cell BK135.out 1).trans rfl;have hcz66_2 : w64.cell? ⟨gb135,2,none⟩ = some (.bool false):=(blk_cell BK135.out 2).trans rfl;have hfz66_0:=blk_frozen BK135.out 0;have hfz66_1:=blk_frozen BK135.out 1;have hfz66_2:=blk_frozen BK135.out 2))
             have n0_ : Aside0 ((((w64.setCell ⟨gb135,0,none⟩ (.string ((rd_T86 l0_1 x3_2).f0))).setCell ⟨gb135,1,none⟩ (.string ((rd_T86 l0_1 x3_2).f1))).setCell ⟨gb135,2,none⟩ (.bool true)).heap[gb131]? = some (.cells #[.int .i64 a0_0,.slice (some ad134) l0_1.length c0_1] 47 (0,0))):=⟨by (with_reducible repeat (first | refine blk_drewN ?_ _ | refine blk_drew ?_ | refine blk_alloc ?_ _));refine blk_far ?_ NB131_135.out _;(with_reducible repeat (first | refine blk_drewN ?_ _ | refine blk_drew ?_ | refine blk_alloc ?_ _));refine blk_far ?_ NB131_135.out _;(with_reducible repeat (first | refine blk_drewN ?_ _ | refine blk_drew ?_ | refine blk_alloc ?_ _));refine blk_far ?_ NB131_135.out _;(with_reducible repeat (first | refine blk_drewN ?_ _ | refine blk_drew ?_ | refine blk_alloc ?_ _));exact BK131.out⟩
             have n1_ : Aside0 ((((w64.setCell ⟨gb135,0,none⟩ (.string ((rd_T86 l0_1 x3_2).f0))).setCell ⟨gb135,1,none⟩ (.string ((rd_T86 l0_1 x3_2).f1))).setCell ⟨gb135,2,none⟩ (.bool true)).heap[gb135]? = some (.cells #[.string ((rd_T86 l0_1 x3_2).f0),.string ((rd_T86 l0_1 x3_2).f1),.bool true] 86 (0,0))):=⟨by (with_reducible repeat (first | refine blk_drewN ?_ _ | refine blk_drew ?_ | refine blk_alloc ?_ _));refine blk_put (cs:=#[.string ((rd_T86 l0_1 x3_2).f0),.string ((rd_T86 l0_1 x3_2).f1),.bool false]) ?_ 2 _ rfl;(with_reducible repeat (first | refine blk_drewN ?_ _ | refine blk_drew ?_ | refine blk_alloc ?_ _));refine blk_put (cs:=#[.string ((rd_T86 l0_1 x3_2).f0),.string (⟨#[]⟩ : ByteArray),.bool false]) ?_ 1 _ rfl;(with_reducible repeat (first | refine blk_drewN ?_ _ | refine blk_drew ?_ | refine blk_alloc ?_ _));refine blk_put (cs:=#[.string (⟨#[]⟩ : ByteArray),.string (⟨#[]⟩ : ByteArray),.bool false]) ?_ 0 _ rfl;(with_reducible repeat (first | refine blk_drewN ?_ _ | refine blk_drew ?_ | refine blk_alloc ?_ _));exact BK135.out⟩
             have n2_ : Aside0 (Below w.heap.size w (((w64.setCell ⟨gb135,0,none⟩ (.string ((rd_T86 l0_1 x3_2).f0))).setCell ⟨gb135,1,none⟩ (.string ((rd_T86 l0_1 x3_2).f1))).setCell ⟨gb135,2,none⟩ (.bool true))):=⟨by repeat (first | (with_reducible first | exact HB.out | apply below_alloc | apply pw_below_drewN | apply below_drew1 | refine below_set ?_ GE131.out | refine below_set ?_ GE135.out) | exact HB.out)⟩
             (try clear BK131)
             (try clear BK135)
             (try clear HB)
             generalize (((w64.setCell ⟨gb135,0,none⟩ (.string ((rd_T86 l0_1 x3_2).f0))).setCell ⟨gb135,1,none⟩ (.string ((rd_T86 l0_1 x3_2).f1))).setCell ⟨gb135,2,none⟩ (.bool true)) = w67 at n0_ n1_ n2_ ⊢
             have BK131:=n0_
             have BK135:=n1_
             have HB:=n2_
             clear n0_ n1_ n2_
             have n0_:=Aside0.mk (blk_drew BK131.out)
             have n1_:=Aside0.mk (blk_drew BK135.out)
             have n2_:=Aside0.mk (below_drew1 HB.out)
             clear BK131
             clear BK135
             clear HB
             have BK131:=n0_
             have BK135:=n1_
             have HB:=n2_
             clear n0_ n1_ n2_
             refine start_ (n:=36) (S:=fun w' => w'.cell? ⟨gb135,0,none⟩ = some (.string ((rd_T86 l0_1 x3_2).f0)) ∧ w'.cell? ⟨gb135,1,none⟩ = some (.string ((rd_T86 l0_1 x3_2).f1)) ∧ w'.cell? ⟨gb135,2,none⟩ = some (.bool true)) (ds:=[]) #[Z3,Z3,Z3,Z3,Z3,Z3,Z3,Z3,Z3,Z3,Z3,Z3,Z3,Z3,Z3,Z3,Z3,Z3,Z3,Z3,Z3,Z3,Z3,Z3,Z3,Z3,Z3,Z3,Z3,Z3,Z3,Z3,Z3,Z3,Z3,Z3] (by kernel_rfl) rfl rfl ⟨(blk_cell BK135.out 0).trans rfl,(blk_cell BK135.out 1).trans rfl,(blk_cell BK135.out 2).trans rfl⟩ (fun hHeld => ?_);refine with_tabW spec_BatchOk.tab7 spec_BatchOk.bits7 (fun HT_ HW_ => ?_)
             generalize w67.drew = w68 at BK131 BK135 HB hHeld ⊢
             refine pure_ (i:=0) (N:=some 28) (v:=?_) (a':=?_) #[Y3,Z3,Z3,Z3,Z3,Z3,Z3,Z3,Z3,Z3,Z3,Z3,Z3,Z3,Z3,Z3,Z3,Z3,Z3,Z3,Z3,Z3,Z3,Z3,Z3,Z3,Z3,Z3,Z3,Z3,Z3,Z3,Z3,Z3,Z3,Z3] rfl rfl (any_of HT_.out (by kernel_rfl)) (fun _ _ _ h => h) (Or.inl ⟨by rfl,?_⟩) ?_ ?_;rotate_left
             ·intro w';go_simp;with_reducible rfl
             rotate_left
             ·simp only [Act.put,q13,q23,q33,i64_w,i32_w];rfl
             refine take_ (i:=1) (N:=some 29) (v:=?_) (a':=?_) #[Y3,Y3,Z3,Z3,Z3,Z3,Z3,Z3,Z3,Z3,Z3,Z3,Z3,Z3,Z3,Z3,Z3,Z3,Z3,Z3,Z3,Z3,Z3,Z3,Z3,Z3,Z3,Z3,Z3,Z3,Z3,Z3,Z3,Z3,Z3,Z3] rfl rfl (take_ofW HT_.out HW_.out (by kernel_rfl)) (fun _ _ _ h => h) (Or.inl ⟨by rfl,?_⟩) hHeld ?_ ?_;rotate_left
             ·rintro w' ⟨s0,s1,s2⟩
              go_simp
              with_reducible rfl
             rotate_left
             ·simp only [Act.put,q13,q23,q33,i64_w,i32_w];rfl
             refine pure_ (i:=2) (N:=some 30) (v:=?_) (a':=?_) #[Y3,Y3,Y3,Z3,Z3,Z3,Z3,Z3,Z3,Z3,Z3,Z3,Z3,Z3,Z3,Z3,Z3,Z3,Z3,Z3,Z3,Z3,Z3,Z3,Z3,Z3,Z3,Z3,Z3,Z3,Z3,Z3,Z3,Z3,Z3,Z3] rfl rfl (any_of HT_.out (by kernel_rfl)) (fun _ _ _ h => h) (Or.inl ⟨by rfl,?_⟩) ?_ ?_;rotate_left
             ·intro w';go_simp;with_reducible rfl
             rotate_left
             ·simp only [Act.put,q13,q23,q33,i64_w,i32_w];rfl
             refine one_ (i:=3) (N:=some 31) #[Y3,Y3,Y3,Y3,Z3,Z3,Z3,Z3,Z3,Z3,Z3,Z3,Z3,Z3,Z3,Z3,Z3,Z3,Z3,Z3,Z3,Z3,Z3,Z3,Z3,Z3,Z3,Z3,Z3,Z3,Z3,Z3,Z3,Z3,Z3,Z3] rfl rfl (one_of HT_.out (by kernel_rfl)) (by decide) (fun K hK => ?_)
             refine goes_ Try.func43 (by kernel_rfl) rfl #[.int .i64 (((rd_T86 l0_1 x3_2).f0).size : Int),.int .i64 1,.int .i64 20] (by rfl) rfl rfl (by (try simp only [List.map_toArray,List.map_cons,List.map_nil]);first | done | rfl | (simp only [List.length_drop,List.length_take];rfl)) ?_
             with_reducible refine (spec_l01In.calls (((rd_T86 l0_1 x3_2).f0).size : Int) 1 20 true _ A12.out).mono ?_
             rintro e w' ⟨rfl,⟨nd,rfl⟩⟩
             refine ⟨_,rfl,?_⟩
             refine hK.out _ _ ⟨(blk_cell BK135.out 0).trans rfl,(blk_cell BK135.out 1).trans rfl,(blk_cell BK135.out 2).trans rfl⟩ (fun hHeld => ?_)
             clear hK K
             refine norm_ (a':=?_) ?_ ?_;rotate_left
             ·show Act.put _ (some 31) _ = _;simp only [Act.put,q13,q23,q33,i64_w,i32_w];rfl
             refine pure_ (i:=4) (N:=some 32) (v:=?_) (a':=?_) #[Y3,Y3,Y3,Y3,Y3,Z3,Z3,Z3,Z3,Z3,Z3,Z3,Z3,Z3,Z3,Z3,Z3,Z3,Z3,Z3,Z3,Z3,Z3,Z3,Z3,Z3,Z3,Z3,Z3,Z3,Z3,Z3,Z3,Z3,Z3,Z3] rfl rfl (any_of HT_.out (by kernel_rfl)) (fun _ _ _ h => h) (Or.inl ⟨by rfl,?_⟩) ?_ ?_;rotate_left
             ·intro w';go_simp;with_reducible rfl
             rotate_left
             ·simp only [Act.put,q13,q23,q33,i64_w,i32_w];rfl
             refine pure_ (i:=5) (N:=some 33) (v:=?_) (a':=?_) #[Y3,Y3,Y3,Y3,Y3,Y3,Z3,Z3,Z3,Z3,Z3,Z3,Z3,Z3,Z3,Z3,Z3,Z3,Z3,Z3,Z3,Z3,Z3,Z3,Z3,Z3,Z3,Z3,Z3,Z3,Z3,Z3,Z3,Z3,Z3,Z3] rfl rfl (any_of HT_.out (by kernel_rfl)) (fun _ _ _ h => h) (Or.inl ⟨by rfl,?_⟩) ?_ ?_;rotate_left
             ·intro w';go_simp;with_reducible rfl
             rotate_left
             ·simp only [Act.put,q13,q23,q33,i64_w,i32_w];rfl
             refine pure_ (i:=6) (N:=some 34) (v:=?_) (a':=?_) #[Y3,Y3,Y3,Y3,Y3,Y3,Y3,Z3,Z3,Z3,Z3,Z3,Z3,Z3,Z3,Z3,Z3,Z3,Z3,Z3,Z3,Z3,Z3,Z3,Z3,Z3,Z3,Z3,Z3,Z3,Z3,Z3,Z3,Z3,Z3,Z3] rfl rfl (any_of HT_.out (by kernel_rfl)) (fun _ _ _ h => h) (Or.inl ⟨by rfl,?_⟩) ?_ ?_;rotate_left
             ·intro w';go_simp;with_reducible rfl
             rotate_left
             ·simp only [Act.put,q13,q23,q33,i64_w,i32_w];rfl
             refine pure_ (i:=7) (N:=some 35) (v:=?_) (a':=?_) #[Y3,Y3,Y3,Y3,Y3,Y3,Y3,Y3,Z3,Z3,Z3,Z3,Z3,Z3,Z3,Z3,Z3,Z3,Z3,Z3,Z3,Z3,Z3,Z3,Z3,Z3,Z3,Z3,Z3,Z3,Z3,Z3,Z3,Z3,Z3,Z3] rfl rfl (any_of HT_.out (by kernel_rfl)) (fun _ _ _ h => h) (Or.inl ⟨by rfl,?_⟩) ?_ ?_;rotate_left
             ·intro w';go_simp;with_reducible rfl
             rotate_left
             ·simp only [Act.put,q13,q23,q33,i64_w,i32_w];rfl
             refine pure_ (i:=8) (N:=some 36) (v:=?_) (a':=?_) #[Y3,Y3,Y3,Y3,Y3,Y3,Y3,Y3,Y3,Z3,Z3,Z3,Z3,Z3,Z3,Z3,Z3,Z3,Z3,Z3,Z3,Z3,Z3,Z3,Z3,Z3,Z3,Z3,Z3,Z3,Z3,Z3,Z3,Z3,Z3,Z3] rfl rfl (any_of HT_.out (by kernel_rfl)) (fun _ _ _ h => h) (Or.inl ⟨by rfl,?_⟩) ?_ ?_;rotate_left
             ·intro w';go_simp;with_reducible rfl
             rotate_left
             ·simp only [Act.put,q13,q23,q33,i64_w,i32_w];rfl
             refine pure_ (i:=9) (N:=some 37) (v:=undef) (a':=?_) #[Y3,Y3,Y3,Y3,Y3,Y3,Y3,Y3,Y3,Y3,Z3,Z3,Z3,Z3,Z3,Z3,Z3,Z3,Z3,Z3,Z3,Z3,Z3,Z3,Z3,Z3,Z3,Z3,Z3,Z3,Z3,Z3,Z3,Z3,Z3,Z3] rfl rfl (any_of HT_.out (by kernel_rfl)) (fun _ _ _ h => h) (Or.inr ⟨by rfl,rfl⟩) ?_ ?_;rotate_left
             ·simp only [Act.put,q13,q23,q33,i64_w,i32_w];rfl
             refine pure_ (i:=10) (N:=some 38) (v:=undef) (a':=?_) #[Y3,Y3,Y3,Y3,Y3,Y3,Y3,Y3,Y3,Y3,Y3,Z3,Z3,Z3,Z3,Z3,Z3,Z3,Z3,Z3,Z3,Z3,Z3,Z3,Z3,Z3,Z3,Z3,Z3,Z3,Z3,Z3,Z3,Z3,Z3,Z3] rfl rfl (any_of HT_.out (by kernel_rfl)) (fun _ _ _ h => h) (Or.inr ⟨by rfl,rfl⟩) ?_ ?_;rotate_left
             ·simp only [Act.put,q13,q23,q33,i64_w,i32_w];rfl
             refine pure_ (i:=11) (N:=some 39) (v:=undef) (a':=?_) #[Y3,Y3,Y3,Y3,Y3,Y3,Y3,Y3,Y3,Y3,Y3,Y3,Z3,Z3,Z3,Z3,Z3,Z3,Z3,Z3,Z3,Z3,Z3,Z3,Z3,Z3,Z3,Z3,Z3,Z3,Z3,Z3,Z3,Z3,Z3,Z3] rfl rfl (any_of HT_.out (by kernel_rfl)) (fun _ _ _ h => h) (Or.inr ⟨by rfl,rfl⟩) ?_ ?_;rotate_left
             ·simp only [Act.put,q13,q23,q33,i64_w,i32_w];rfl
             refine pure_ (i:=12) (N:=some 40) (v:=undef) (a':=?_) #[Y3,Y3,Y3,Y3,Y3,Y3,Y3,Y3,Y3,Y3,Y3,Y3,Y3,Z3,Z3,Z3,Z3,Z3,Z3,Z3,Z3,Z3,Z3,Z3,Z3,Z3,Z3,Z3,Z3,Z3,Z3,Z3,Z3,Z3,Z3,Z3] rfl rfl (any_of HT_.out (by kernel_rfl)) (fun _ _ _ h => h) (Or.inr ⟨by rfl,rfl⟩) ?_ ?_;rotate_left
             ·simp only [Act.put,q13,q23,q33,i64_w,i32_w];rfl
             refine pure_ (i:=13) (N:=some 41) (v:=undef) (a':=?_) #[Y3,Y3,Y3,Y3,Y3,Y3,Y3,Y3,Y3,Y3,Y3,Y3,Y3,Y3,Z3,Z3,Z3,Z3,Z3,Z3,Z3,Z3,Z3,Z3,Z3,Z3,Z3,Z3,Z3,Z3,Z3,Z3,Z3,Z3,Z3,Z3] rfl rfl (any_of HT_.out (by kernel_rfl)) (fun _ _ _ h => h) (Or.inr ⟨by rfl,rfl⟩) ?_ ?_;rotate_left
             ·simp only [Act.put,q13,q23,q33,i64_w,i32_w];rfl
             refine pure_ (i:=14) (N:=some 42) (v:=undef) (a':=?_) #[Y3,Y3,Y3,Y3,Y3,Y3,Y3,Y3,Y3,Y3,Y3,Y3,Y3,Y3,Y3,Z3,Z3,Z3,Z3,Z3,Z3,Z3,Z3,Z3,Z3,Z3,Z3,Z3,Z3,Z3,Z3,Z3,Z3,Z3,Z3,Z3] rfl rfl (any_of HT_.out (by kernel_rfl)) (fun _ _ _ h => h) (Or.inr ⟨by rfl,rfl⟩) ?_ ?_;rotate_left
             ·simp only [Act.put,q13,q23,q33,i64_w,i32_w];rfl
             refine pure_ (i:=15) (N:=some 43) (v:=undef) (a':=?_) #[Y3,Y3,Y3,Y3,Y3,Y3,Y3,Y3,Y3,Y3,Y3,Y3,Y3,Y3,Y3,Y3,Z3,Z3,Z3,Z3,Z3,Z3,Z3,Z3,Z3,Z3,Z3,Z3,Z3,Z3,Z3,Z3,Z3,Z3,Z3,Z3] rfl rfl (any_of HT_.out (by kernel_rfl)) (fun _ _ _ h => h) (Or.inr ⟨by rfl,rfl⟩) ?_ ?_;rotate_left
             ·simp only [Act.put,q13,q23,q33,i64_w,i32_w];rfl
             refine pure_ (i:=16) (N:=some 44) (v:=undef) (a':=?_) #[Y3,Y3,Y3,Y3,Y3,Y3,Y3,Y3,Y3,Y3,Y3,Y3,Y3,Y3,Y3,Y3,Y3,Z3,Z3,Z3,Z3,Z3,Z3,Z3,Z3,Z3,Z3,Z3,Z3,Z3,Z3,Z3,Z3,Z3,Z3,Z3] rfl rfl (any_of HT_.out (by kernel_rfl)) (fun _ _ _ h => h) (Or.inr ⟨by rfl,rfl⟩) ?_ ?_;rotate_left
             ·simp only [Act.put,q13,q23,q33,i64_w,i32_w];rfl
             refine pure_ (i:=17) (N:=some 45) (v:=undef) (a':=?_) #[Y3,Y3,Y3,Y3,Y3,Y3,Y3,Y3,Y3,Y3,Y3,Y3,Y3,Y3,Y3,Y3,Y3,Y3,Z3,Z3,Z3,Z3,Z3,Z3,Z3,Z3,Z3,Z3,Z3,Z3,Z3,Z3,Z3,Z3,Z3,Z3] rfl rfl (any_of HT_.out (by kernel_rfl)) (fun _ _ _ h => h) (Or.inr ⟨by rfl,rfl⟩) ?_ ?_;rotate_left
             ·simp only [Act.put,q13,q23,q33,i64_w,i32_w];rfl
             refine pure_ (i:=18) (N:=some 46) (v:=undef) (a':=?_) #[Y3,Y3,Y3,Y3,Y3,Y3,Y3,Y3,Y3,Y3,Y3,Y3,Y3,Y3,Y3,Y3,Y3,Y3,Y3,Z3,Z3,Z3,Z3,Z3,Z3,Z3,Z3,Z3,Z3,Z3,Z3,Z3,Z3,Z3,Z3,Z3] rfl rfl (any_of HT_.out (by kernel_rfl)) (fun _ _ _ h => h) (Or.inr ⟨by rfl,rfl⟩) ?_ ?_;rotate_left
             ·simp only [Act.put,q13,q23,q33,i64_w,i32_w];rfl
             refine pure_ (i:=19) (N:=some 47) (v:=?_) (a':=?_) #[Y3,Y3,Y3,Y3,Y3,Y3,Y3,Y3,Y3,Y3,Y3,Y3,Y3,Y3,Y3,Y3,Y3,Y3,Y3,Y3,Z3,Z3,Z3,Z3,Z3,Z3,Z3,Z3,Z3,Z3,Z3,Z3,Z3,Z3,Z3,Z3] rfl rfl (any_of HT_.out (by kernel_rfl)) (fun _ _ _ h => h) (Or.inl ⟨by rfl,?_⟩) ?_ ?_;rotate_left
             ·intro w';go_simp;with_reducible rfl
             rotate_left
             ·simp only [Act.put,q13,q23,q33,i64_w,i32_w];rfl
             refine pure_ (i:=20) (N:=some 48) (v:=?_) (a':=?_) #[Y3,Y3,Y3,Y3,Y3,Y3,Y3,Y3,Y3,Y3,Y3,Y3,Y3,Y3,Y3,Y3,Y3,Y3,Y3,Y3,Y3,Z3,Z3,Z3,Z3,Z3,Z3,Z3,Z3,Z3,Z3,Z3,Z3,Z3,Z3,Z3] rfl rfl (any_of HT_.out (by kernel_rfl)) (fun _ _ _ h => h) (Or.inl ⟨by rfl,?_⟩) ?_ ?_;rotate_left
             ·intro w';go_simp;with_reducible rfl
             rotate_left
             ·simp only [Act.put,q13,q23,q33,i64_w,i32_w];rfl
             refine pure_ (i:=21) (N:=some 49) (v:=?_) (a':=?_) #[Y3,Y3,Y3,Y3,Y3,Y3,Y3,Y3,Y3,Y3,Y3,Y3,Y3,Y3,Y3,Y3,Y3,Y3,Y3,Y3,Y3,Y3,Z3,Z3,Z3,Z3,Z3,Z3,Z3,Z3,Z3,Z3,Z3,Z3,Z3,Z3] rfl rfl (any_of HT_.out (by kernel_rfl)) (fun _ _ _ h => h) (Or.inl ⟨by rfl,?_⟩) ?_ ?_;rotate_left
             ·intro w';go_simp;with_reducible rfl
             rotate_left
             ·simp only [Act.put,q13,q23,q33,i64_w,i32_w];rfl
             refine pure_ (i:=22) (N:=some 50) (v:=?_) (a':=?_) #[Y3,Y3,Y3,Y3,Y3,Y3,Y3,Y3,Y3,Y3,Y3,Y3,Y3,Y3,Y3,Y3,Y3,Y3,Y3,Y3,Y3,Y3,Y3,Z3,Z3,Z3,Z3,Z3,Z3,Z3,Z3,Z3,Z3,Z3,Z3,Z3] rfl rfl (any_of HT_.out (by kernel_rfl)) (fun _ _ _ h => h) (Or.inl ⟨by rfl,?_⟩) ?_ ?_;rotate_left
             ·intro w';go_simp;with_reducible rfl
             rotate_left
             ·simp only [Act.put,q13,q23,q33,i64_w,i32_w];rfl
             refine take_ (i:=23) (N:=some 51) (v:=?_) (a':=?_) #[Y3,Y3,Y3,Y3,Y3,Y3,Y3,Y3,Y3,Y3,Y3,Y3,Y3,Y3,Y3,Y3,Y3,Y3,Y3,Y3,Y3,Y3,Y3,Y3,Z3,Z3,Z3,Z3,Z3,Z3,Z3,Z3,Z3,Z3,Z3,Z3] rfl rfl (take_ofW HT_.out HW_.out (by kernel_rfl)) (fun _ _ _ h => h) (Or.inl ⟨by rfl,?_⟩) hHeld ?_ ?_;rotate_left
             ·rintro w' ⟨s0,s1,s2⟩
              go_simp
              with_reducible rfl
             rotate_left
             ·simp only [Act.put,q13,q23,q33,i64_w,i32_w];rfl
             refine pure_ (i:=24) (N:=some 52) (v:=?_) (a':=?_) #[Y3,Y3,Y3,Y3,Y3,Y3,Y3,Y3,Y3,Y3,Y3,Y3,Y3,Y3,Y3,Y3,Y3,Y3,Y3,Y3,Y3,Y3,Y3,Y3,Y3,Z3,Z3,Z3,Z3,Z3,Z3,Z3,Z3,Z3,Z3,Z3] rfl rfl (any_of HT_.out (by kernel_rfl)) (fun _ _ _ h => h) (Or.inl ⟨by rfl,?_⟩) ?_ ?_;rotate_left
             ·intro w';go_simp;with_reducible rfl
             rotate_left
             ·simp only [Act.put,q13,q23,q33,i64_w,i32_w];rfl
             refine pure_ (i:=25) (N:=some 53) (v:=?_) (a':=?_) #[Y3,Y3,Y3,Y3,Y3,Y3,Y3,Y3,Y3,Y3,Y3,Y3,Y3,Y3,Y3,Y3,Y3,Y3,Y3,Y3,Y3,Y3,Y3,Y3,Y3,Y3,Z3,Z3,Z3,Z3,Z3,Z3,Z3,Z3,Z3,Z3] rfl rfl (any_of HT_.out (by kernel_rfl)) (fun _ _ _ h => h) (Or.inl ⟨by rfl,?_⟩) ?_ ?_;rotate_left
             ·intro w';go_simp;with_reducible rfl
             rotate_left
             ·simp only [Act.put,q13,q23,q33,i64_w,i32_w];rfl
             refine pure_ (i:=26) (N:=some 54) (v:=?_) (a':=?_) #[Y3,Y3,Y3,Y3,Y3,Y3,Y3,Y3,Y3,Y3,Y3,Y3,Y3,Y3,Y3,Y3,Y3,Y3,Y3,Y3,Y3,Y3,Y3,Y3,Y3,Y3,Y3,Z3,Z3,Z3,Z3,Z3,Z3,Z3,Z3,Z3] rfl rfl (any_of HT_.out (by kernel_rfl)) (fun _ _ _ h => h) (Or.inl ⟨by rfl,?_⟩) ?_ ?_;rotate_left
             ·intro w';go_simp;with_reducible rfl
             rotate_left
             ·simp only [Act.put,q13,q23,q33,i64_w,i32_w];rfl
             refine pure_ (i:=27) (N:=some 55) (v:=?_) (a':=?_) #[Y3,Y3,Y3,Y3,Y3,Y3,Y3,Y3,Y3,Y3,Y3,Y3,Y3,Y3,Y3,Y3,Y3,Y3,Y3,Y3,Y3,Y3,Y3,Y3,Y3,Y3,Y3,Y3,Z3,Z3,Z3,Z3,Z3,Z3,Z3,Z3] rfl rfl (any_of HT_.out (by kernel_rfl)) (fun _ _ _ h => h) (Or.inl ⟨by rfl,?_⟩) ?_ ?_;rotate_left
             ·intro w';go_simp;with_reducible rfl
             rotate_left
             ·simp only [Act.put,q13,q23,q33,i64_w,i32_w];rfl
             refine pure_ (i:=28) (N:=some 56) (v:=?_) (a':=?_) #[Y3,Y3,Y3,Y3,Y3,Y3,Y3,Y3,Y3,Y3,Y3,Y3,Y3,Y3,Y3,Y3,Y3,Y3,Y3,Y3,Y3,Y3,Y3,Y3,Y3,Y3,Y3,Y3,Y3,Z3,Z3,Z3,Z3,Z3,Z3,Z3] rfl rfl (any_of HT_.out (by kernel_rfl)) (fun _ _ _ h => h) (Or.inl ⟨by rfl,?_⟩) ?_ ?_;rotate_left
             ·intro w';go_simp;with_reducible rfl
             rotate_left
             ·simp only [Act.put,q13,q23,q33,i64_w,i32_w];rfl
             refine take_ (i:=29) (N:=some 57) (v:=?_) (a':=?_) #[Y3,Y3,Y3,Y3,Y3,Y3,Y3,Y3,Y3,Y3,Y3,Y3,Y3,Y3,Y3,Y3,Y3,Y3,Y3,Y3,Y3,Y3,Y3,Y3,Y3,Y3,Y3,Y3,Y3,Y3,Z3,Z3,Z3,Z3,Z3,Z3] rfl rfl (take_ofW HT_.out HW_.out (by kernel_rfl)) (fun _ _ _ h => h) (Or.inl ⟨by rfl,?_⟩) hHeld ?_ ?_;rotate_left
             ·rintro w' ⟨s0,s1,s2⟩
              go_simp
              with_reducible rfl
             rotate_left
             ·simp only [Act.put,q13,q23,q33,i64_w,i32_w];rfl
             refine pure_ (i:=30) (N:=some 58) (v:=?_) (a':=?_) #[Y3,Y3,Y3,Y3,Y3,Y3,Y3,Y3,Y3,Y3,Y3,Y3,Y3,Y3,Y3,Y3,Y3,Y3,Y3,Y3,Y3,Y3,Y3,Y3,Y3,Y3,Y3,Y3,Y3,Y3,Y3,Z3,Z3,Z3,Z3,Z3] rfl rfl (any_of HT_.out (by kernel_rfl)) (fun _ _ _ h => h) (Or.inl ⟨by rfl,?_⟩) ?_ ?_;rotate_left
             ·intro w';go_simp;with_reducible rfl
             rotate_left
             ·simp only [Act.put,q13,q23,q33,i64_w,i32_w];rfl
             refine pure_ (i:=31) (N:=some 59) (v:=?_) (a':=?_) #[Y3,Y3,Y3,Y3,Y3,Y3,Y3,Y3,Y3,Y3,Y3,Y3,Y3,Y3,Y3,Y3,Y3,Y3,Y3,Y3,Y3,Y3,Y3,Y3,Y3,Y3,Y3,Y3,Y3,Y3,Y3,Y3,Z3,Z3,Z3,Z3] rfl rfl (any_of HT_.out (by kernel_rfl)) (fun _ _ _ h => h) (Or.inl ⟨by rfl,?_⟩) ?_ ?_;rotate_left
             ·intro w';go_simp;with_reducible rfl
             rotate_left
             ·simp only [Act.put,q13,q23,q33,i64_w,i32_w];rfl
             refine take_ (i:=32) (N:=some 60) (v:=?_) (a':=?_) #[Y3,Y3,Y3,Y3,Y3,Y3,Y3,Y3,Y3,Y3,Y3,Y3,Y3,Y3,Y3,Y3,Y3,Y3,Y3,Y3,Y3,Y3,Y3,Y3,Y3,Y3,Y3,Y3,Y3,Y3,Y3,Y3,Y3,Z3,Z3,Z3] rfl rfl (take_ofW HT_.out HW_.out (by kernel_rfl)) (fun _ _ _ h => h) (Or.inl ⟨by rfl,?_⟩) hHeld ?_ ?_;rotate_left
             ·rintro w' ⟨s0,s1,s2⟩
              go_simp
              with_reducible rfl
             rotate_left
             ·simp only [Act.put,q13,q23,q33,i64_w,i32_w];rfl
             refine pure_ (i:=33) (N:=some 61) (v:=?_) (a':=?_) #[Y3,Y3,Y3,Y3,Y3,Y3,Y3,Y3,Y3,Y3,Y3,Y3,Y3,Y3,Y3,Y3,Y3,Y3,Y3,Y3,Y3,Y3,Y3,Y3,Y3,Y3,Y3,Y3,Y3,Y3,Y3,Y3,Y3,Y3,Z3,Z3] rfl rfl (any_of HT_.out (by kernel_rfl)) (fun _ _ _ h => h) (Or.inl ⟨by rfl,?_⟩) ?_ ?_;rotate_left
             ·intro w';go_simp;with_reducible rfl
             rotate_left
             ·simp only [Act.put,q13,q23,q33,i64_w,i32_w];rfl
             refine pure_ (i:=34) (N:=some 62) (v:=?_) (a':=?_) #[Y3,Y3,Y3,Y3,Y3,Y3,Y3,Y3,Y3,Y3,Y3,Y3,Y3,Y3,Y3,Y3,Y3,Y3,Y3,Y3,Y3,Y3,Y3,Y3,Y3,Y3,Y3,Y3,Y3,Y3,Y3,Y3,Y3,Y3,Y3,Z3] rfl rfl (any_of HT_.out (by kernel_rfl)) (fun _ _ _ h => h) (Or.inl ⟨by rfl,?_⟩) ?_ ?_;rotate_left
             ·intro w';go_simp;with_reducible rfl
             rotate_left
             ·simp only [Act.put,q13,q23,q33,i64_w,i32_w];rfl
             refine pure_ (i:=35) (N:=some 63) (v:=?_) (a':=?_) #[Y3,Y3,Y3,Y3,Y3,Y3,Y3,Y3,Y3,Y3,Y3,Y3,Y3,Y3,Y3,Y3,Y3,Y3,Y3,Y3,Y3,Y3,Y3,Y3,Y3,Y3,Y3,Y3,Y3,Y3,Y3,Y3,Y3,Y3,Y3,Y3] rfl rfl (any_of HT_.out (by kernel_rfl)) (fun _ _ _ h => h) (Or.inl ⟨by rfl,?_⟩) ?_ ?_;rotate_left
             ·intro w';go_simp;with_reducible rfl
             rotate_left
             ·simp only [Act.put,q13,q23,q33,i64_w,i32_w];rfl
             refine done_ (done_of HT_.out (by kernel_rfl)) ?_
             try go_wp2
             go_roundg k2
             case measure => have:=HJ1.out;have:=HK2.out;omega
             case rel => exact ⟨(wrap64 (x3_2 + 1)),(by first | rfl | (simp;done) | (simp [*];done)),H',⟨by have:=HJ1.out;have:=HK2.out;omega⟩,⟨by (with_reducible repeat (first | refine blk_drewN ?_ _ | refine blk_drew ?_ | refine blk_alloc ?_ _));exact BK131.out⟩,⟨by repeat (first | (with_reducible first | exact HB.out | apply below_alloc | apply pw_below_drewN | apply below_drew1 | refine below_set ?_ GE131.out | refine below_set ?_ GE135.out) | exact HB.out)⟩⟩
            ·rw [if_neg c62] at H
             have c62b0 : (((rd_T86 l0_1 x3_2).f1).toList == ([] : List UInt8)) = false:=beq_eq_false_iff_ne.mpr c62
             have c62b1 : (((rd_T86 l0_1 x3_2).f1).toList != ([] : List UInt8)) = true:=bne_iff_ne.mpr c62
             obtain rfl:=Option.some.inj H
             have hcz69_0 : wr.cell? ⟨gb131,0,none⟩ = some (.int .i64 a0_0):=(blk_cell BK131.out 0).trans rfl
             have hcz69_1 : wr.cell? ⟨gb131,1,none⟩ = some (.slice A0_1 l0_1.length c0_1):=(blk_cell BK131.out 1).trans rfl
             have hfz69_0:=blk_frozen BK131.out 0
             have hfz69_1:=blk_frozen BK131.out 1
             have p134 : 0 ≤ (x3_2 : Int):=of_decide_eq_true (by first | (with_reducible assumption) | assumption)
             have q134 : x3_2 < (l0_1.length : Int):=of_decide_eq_true (by first | (with_reducible assumption) | assumption)
             obtain ⟨ad134,e134,hx134_0,hx134_1,hx134_2⟩:=at_T86 HR0_1.out x3_2 p134 q134
             (try rw [← Nbq60.out] at hx134_2)
             cases e134
             replace hx134_0:=(HB.out.cell (World.block_lt_of_cell? w _ hx134_0)).trans hx134_0
             replace hx134_1:=(HB.out.cell (World.block_lt_of_cell? w _ hx134_1)).trans hx134_1
             replace hx134_2:=(HB.out.cell (World.block_lt_of_cell? w _ hx134_2)).trans hx134_2
             replace p134:=eq_true p134
             replace q134:=eq_true q134
             try go_wp2_with (first | ((with_reducible refine gate_dst (N:=4) rfl ?_);(try (refine gate_guard (by rfl) ?_;dsimp only));refine box_event ?hg (N:=4) ?hd (cs:=#[.string (⟨#[]⟩ : ByteArray),.string (⟨#[]⟩ : ByteArray),.bool false]) (t:=86) ?hr ?_;(case hd => rfl);(case hg => rfl);(case hr => first | (go_simp;done) | (go_simp;rfl));intro gb135 hg w70 hbox hb;have n0_:=Aside0.mk (blk_below (g:=gb131) (o:=.cells #[.int .i64 a0_0,.slice (some ad134) l0_1.length c0_1] 47 (0,0)) (by (with_reducible repeat (first | refine blk_drewN ?_ _ | refine blk_drew ?_ | refine blk_alloc ?_ _));exact BK131.out) hb);have n1_:=Aside0.mk (below_step (by repeat (first | (with_reducible first | exact HB.out | apply below_alloc | apply pw_below_drewN | apply below_drew1 | refine below_set ?_ GE131.out) | exact HB.out)) hb);have n2_:=Aside0.mk (hbox);have n3_:=Aside0.mk ((by rw [hg];exact (below_size (by repeat (first | (with_reducible first | exact HB.out | apply below_alloc | apply pw_below_drewN | apply below_drew1 | refine below_set ?_ GE131.out) | exact HB.out))) : w.heap.size ≤ gb135));have n4_:=Aside0.mk ((by rw [hg];exact (below_size (by repeat (first | (with_reducible first | exact HB.out | apply below_alloc | apply pw_below_drewN | apply below_drew1 | refine below_set ?_ GE131.out) | exact HB.out))) : w.heap.size ≤ gb135));have n5_:=Aside0.mk ((by rw [hg];exact Nat.ne_of_lt (blk_lt (g:=gb131) (o:=.cells #[.int .i64 a0_0,.slice (some ad134) l0_1.length c0_1] 47 (0,0)) (by (with_reducible repeat (first | refine blk_drewN ?_ _ | refine blk_drew ?_ | refine blk_alloc ?_ _));exact BK131.out)) : gb131 ≠ gb135));have n6_:=Aside0.mk ((by rw [hg];exact Nat.ne_of_gt (blk_lt (g:=gb131) (o:=.cells #[.int .i64 a0_0,.slice (some ad134) l0_1.length c0_1] 47 (0,0)) (by (with_reducible repeat (first | refine blk_drewN ?_ _ | refine blk_drew ?_ | refine blk_alloc ?_ _));exact BK131.out)) : gb135 ≠ gb131));clear BK131;clear HB;have BK131:=n0_;have HB:=n1_;have BK135:=n2_;have GW135:=n3_;have GE135:=n4_;have NB131_135:=n5_;have NB135_131:=n6_;clear n0_ n1_ n2_ n3_ n4_ n5_ n6_;clear hb hbox hg;have hnb71:=NB135_131.out;have hnc71:=NB131_135.out;have hcz72_0 : w70.cell? ⟨gb135,0,none⟩ = some (.string (⟨#[]⟩ : ByteArray)):=(blk_cell BK135.out 0).trans rfl;have hcz72_1 : w70.cell? ⟨gb135,1,none⟩ = some (.string (⟨#[]⟩ : ByteArray)):=(blk_cell BK135.out 1).trans rfl;have hcz72_2 : w70.cell? ⟨gb135,2,none⟩ = some (.bool false):=(blk_cell BK135.out 2).trans rfl;have hfz72_0:=blk_frozen BK135.out 0;have hfz72_1:=blk_frozen BK135.out 1;have hfz72_2:=blk_frozen BK135.out 2))
             have n0_ : Aside0 ((((w70.setCell ⟨gb135,0,none⟩ (.string ((rd_T86 l0_1 x3_2).f0))).setCell ⟨gb135,1,none⟩ (.string ((rd_T86 l0_1 x3_2).f1))).setCell ⟨gb135,2,none⟩ (.bool true)).heap[gb131]? = some (.cells #[.int .i64 a0_0,.slice (some ad134) l0_1.length c0_1] 47 (0,0))):=⟨by (with_reducible repeat (first | refine blk_drewN ?_ _ | refine blk_drew ?_ | refine blk_alloc ?_ _));refine blk_far ?_ NB131_135.out _;(with_reducible repeat (first | refine blk_drewN ?_ _ | refine blk_drew ?_ | refine blk_alloc ?_ _));refine blk_far ?_ NB131_135.out _;(with_reducible repeat (first | refine blk_drewN ?_ _ | refine blk_drew ?_ | refine blk_alloc ?_ _));refine blk_far ?_ NB131_135.out _;(with_reducible repeat (first | refine blk_drewN ?_ _ | refine blk_drew ?_ | refine blk_alloc ?_ _));exact BK131.out⟩
             have n1_ : Aside0 ((((w70.setCell ⟨gb135,0,none⟩ (.string ((rd_T86 l0_1 x3_2).f0))).setCell ⟨gb135,1,none⟩ (.string ((rd_T86 l0_1 x3_2).f1))).setCell ⟨gb135,2,none⟩ (.bool true)).heap[gb135]? = some (.cells #[.string ((rd_T86 l0_1 x3_2).f0),.string ((rd_T86 l0_1 x3_2).f1),.bool true] 86 (0,0))):=⟨by (with_reducible repeat (first | refine blk_drewN ?_ _ | refine blk_drew ?_ | refine blk_alloc ?_ _));refine blk_put (cs:=#[.string ((rd_T86 l0_1 x3_2).f0),.string ((rd_T86 l0_1 x3_2).f1),.bool false]) ?_ 2 _ rfl;(with_reducible repeat (first | refine blk_drewN ?_ _ | refine blk_drew ?_ | refine blk_alloc ?_ _));refine blk_put (cs:=#[.string ((rd_T86 l0_1 x3_2).f0),.string (⟨#[]⟩ : ByteArray),.bool false]) ?_ 1 _ rfl;(with_reducible repeat (first | refine blk_drewN ?_ _ | refine blk_drew ?_ | refine blk_alloc ?_ _));refine blk_put (cs:=#[.string (⟨#[]⟩ : ByteArray),.string (⟨#[]⟩ : ByteArray),.bool false]) ?_ 0 _ rfl;(with_reducible repeat (first | refine blk_drewN ?_ _ | refine blk_drew ?_ | refine blk_alloc ?_ _));exact BK135.out⟩
             have n2_ : Aside0 (Below w.heap.size w (((w70.setCell ⟨gb135,0,none⟩ (.string ((rd_T86 l0_1 x3_2).f0))).setCell ⟨gb135,1,none⟩ (.string ((rd_T86 l0_1 x3_2).f1))).setCell ⟨gb135,2,none⟩ (.bool true))):=⟨by repeat (first | (with_reducible first | exact HB.out | apply below_alloc | apply pw_below_drewN | apply below_drew1 | refine below_set ?_ GE131.out | refine below_set ?_ GE135.out) | exact HB.out)⟩
             (try clear BK131)
             (try clear BK135)
             (try clear HB)
             generalize (((w70.setCell ⟨gb135,0,none⟩ (.string ((rd_T86 l0_1 x3_2).f0))).setCell ⟨gb135,1,none⟩ (.string ((rd_T86 l0_1 x3_2).f1))).setCell ⟨gb135,2,none⟩ (.bool true)) = w73 at n0_ n1_ n2_ ⊢
             have BK131:=n0_
             have BK135:=n1_
             have HB:=n2_
             clear n0_ n1_ n2_
             have n0_:=Aside0.mk (blk_drew BK131.out)
             have n1_:=Aside0.mk (blk_drew BK135.out)
             have n2_:=Aside0.mk (below_drew1 HB.out)
             clear BK131
             clear BK135
             clear HB
             have BK131:=n0_
             have BK135:=n1_
             have HB:=n2_
             clear n0_ n1_ n2_
             refine start_ (n:=36) (S:=fun w' => w'.cell? ⟨gb135,0,none⟩ = some (.string ((rd_T86 l0_1 x3_2).f0)) ∧ w'.cell? ⟨gb135,1,none⟩ = some (.string ((rd_T86 l0_1 x3_2).f1)) ∧ w'.cell? ⟨gb135,2,none⟩ = some (.bool true)) (ds:=[]) #[Z3,Z3,Z3,Z3,Z3,Z3,Z3,Z3,Z3,Z3,Z3,Z3,Z3,Z3,Z3,Z3,Z3,Z3,Z3,Z3,Z3,Z3,Z3,Z3,Z3,Z3,Z3,Z3,Z3,Z3,Z3,Z3,Z3,Z3,Z3,Z3] (by kernel_rfl) rfl rfl ⟨(blk_cell BK135.out 0).trans rfl,(blk_cell BK135.out 1).trans rfl,(blk_cell BK135.out 2).trans rfl⟩ (fun hHeld => ?_);refine with_tabW spec_BatchOk.tab7 spec_BatchOk.bits7 (fun HT_ HW_ => ?_)
             generalize w73.drew = w74 at BK131 BK135 HB hHeld ⊢
             refine pure_ (i:=0) (N:=some 28) (v:=?_) (a':=?_) #[Y3,Z3,Z3,Z3,Z3,Z3,Z3,Z3,Z3,Z3,Z3,Z3,Z3,Z3,Z3,Z3,Z3,Z3,Z3,Z3,Z3,Z3,Z3,Z3,Z3,Z3,Z3,Z3,Z3,Z3,Z3,Z3,Z3,Z3,Z3,Z3] rfl rfl (any_of HT_.out (by kernel_rfl)) (fun _ _ _ h => h) (Or.inl ⟨by rfl,?_⟩) ?_ ?_;rotate_left
             ·intro w';go_simp;with_reducible rfl
             rotate_left
             ·simp only [Act.put,q13,q23,q33,i64_w,i32_w];rfl
             refine take_ (i:=1) (N:=some 29) (v:=?_) (a':=?_) #[Y3,Y3,Z3,Z3,Z3,Z3,Z3,Z3,Z3,Z3,Z3,Z3,Z3,Z3,Z3,Z3,Z3,Z3,Z3,Z3,Z3,Z3,Z3,Z3,Z3,Z3,Z3,Z3,Z3,Z3,Z3,Z3,Z3,Z3,Z3,Z3] rfl rfl (take_ofW HT_.out HW_.out (by kernel_rfl)) (fun _ _ _ h => h) (Or.inl ⟨by rfl,?_⟩) hHeld ?_ ?_;rotate_left
             ·rintro w' ⟨s0,s1,s2⟩
              go_simp
              with_reducible rfl
             rotate_left
             ·simp only [Act.put,q13,q23,q33,i64_w,i32_w];rfl
             refine pure_ (i:=2) (N:=some 30) (v:=?_) (a':=?_) #[Y3,Y3,Y3,Z3,Z3,Z3,Z3,Z3,Z3,Z3,Z3,Z3,Z3,Z3,Z3,Z3,Z3,Z3,Z3,Z3,Z3,Z3,Z3,Z3,Z3,Z3,Z3,Z3,Z3,Z3,Z3,Z3,Z3,Z3,Z3,Z3] rfl rfl (any_of HT_.out (by kernel_rfl)) (fun _ _ _ h => h) (Or.inl ⟨by rfl,?_⟩) ?_ ?_;rotate_left
             ·intro w';go_simp;with_reducible rfl
             rotate_left
             ·simp only [Act.put,q13,q23,q33,i64_w,i32_w];rfl
             refine one_ (i:=3) (N:=some 31) #[Y3,Y3,Y3,Y3,Z3,Z3,Z3,Z3,Z3,Z3,Z3,Z3,Z3,Z3,Z3,Z3,Z3,Z3,Z3,Z3,Z3,Z3,Z3,Z3,Z3,Z3,Z3,Z3,Z3,Z3,Z3,Z3,Z3,Z3,Z3,Z3] rfl rfl (one_of HT_.out (by kernel_rfl)) (by decide) (fun K hK => ?_)
             refine goes_ Try.func43 (by kernel_rfl) rfl #[.int .i64 (((rd_T86 l0_1 x3_2).f0).size : Int),.int .i64 1,.int .i64 20] (by rfl) rfl rfl (by (try simp only [List.map_toArray,List.map_cons,List.map_nil]);first | done | rfl | (simp only [List.length_drop,List.length_take];rfl)) ?_
             with_reducible refine (spec_l01In.calls (((rd_T86 l0_1 x3_2).f0).size : Int) 1 20 true _ A12.out).mono ?_
             rintro e w' ⟨rfl,⟨nd,rfl⟩⟩
             refine ⟨_,rfl,?_⟩
             refine hK.out _ _ ⟨(blk_cell BK135.out 0).trans rfl,(blk_cell BK135.out 1).trans rfl,(blk_cell BK135.out 2).trans rfl⟩ (fun hHeld => ?_)
             clear hK K
             refine norm_ (a':=?_) ?_ ?_;rotate_left
             ·show Act.put _ (some 31) _ = _;simp only [Act.put,q13,q23,q33,i64_w,i32_w];rfl
             refine pure_ (i:=4) (N:=some 32) (v:=?_) (a':=?_) #[Y3,Y3,Y3,Y3,Y3,Z3,Z3,Z3,Z3,Z3,Z3,Z3,Z3,Z3,Z3,Z3,Z3,Z3,Z3,Z3,Z3,Z3,Z3,Z3,Z3,Z3,Z3,Z3,Z3,Z3,Z3,Z3,Z3,Z3,Z3,Z3] rfl rfl (any_of HT_.out (by kernel_rfl)) (fun _ _ _ h => h) (Or.inl ⟨by rfl,?_⟩) ?_ ?_;rotate_left
             ·intro w';go_simp;with_reducible rfl
             rotate_left
             ·simp only [Act.put,q13,q23,q33,i64_w,i32_w];rfl
             refine pure_ (i:=5) (N:=some 33) (v:=?_) (a':=?_) #[Y3,Y3,Y3,Y3,Y3,Y3,Z3,Z3,Z3,Z3,Z3,Z3,Z3,Z3,Z3,Z3,Z3,Z3,Z3,Z3,Z3,Z3,Z3,Z3,Z3,Z3,Z3,Z3,Z3,Z3,Z3,Z3,Z3,Z3,Z3,Z3] rfl rfl (any_of HT_.out (by kernel_rfl)) (fun _ _ _ h => h) (Or.inl ⟨by rfl,?_⟩) ?_ ?_;rotate_left
             ·intro w';go_simp;with_reducible rfl
             rotate_left
             ·simp only [Act.put,q13,q23,q33,i64_w,i32_w];rfl
             refine pure_ (i:=6) (N:=some 34) (v:=?_) (a':=?_) #[Y3,Y3,Y3,Y3,Y3,Y3,Y3,Z3,Z3,Z3,Z3,Z3,Z3,Z3,Z3,Z3,Z3,Z3,Z3,Z3,Z3,Z3,Z3,Z3,Z3,Z3,Z3,Z3,Z3,Z3,Z3,Z3,Z3,Z3,Z3,Z3] rfl rfl (any_of HT_.out (by kernel_rfl)) (fun _ _ _ h => h) (Or.inl ⟨by rfl,?_⟩) ?_ ?_;rotate_left
             ·intro w';go_simp;with_reducible rfl
             rotate_left
             ·simp only [Act.put,q13,q23,q33,i64_w,i32_w];rfl
             refine pure_ (i:=7) (N:=some 35) (v:=?_) (a':=?_) #[Y3,Y3,Y3,Y3,Y3,Y3,Y3,Y3,Z3,Z3,Z3,Z3,Z3,Z3,Z3,Z3,Z3,Z3,Z3,Z3,Z3,Z3,Z3,Z3,Z3,Z3,Z3,Z3,Z3,Z3,Z3,Z3,Z3,Z3,Z3,Z3] rfl rfl (any_of HT_.out (by kernel_rfl)) (fun _ _ _ h => h) (Or.inl ⟨by rfl,?_⟩) ?_ ?_;rotate_left
             ·intro w';go_simp;with_reducible rfl
             rotate_left
             ·simp only [Act.put,q13,q23,q33,i64_w,i32_w];rfl
             refine pure_ (i:=8) (N:=some 36) (v:=?_) (a':=?_) #[Y3,Y3,Y3,Y3,Y3,Y3,Y3,Y3,Y3,Z3,Z3,Z3,Z3,Z3,Z3,Z3,Z3,Z3,Z3,Z3,Z3,Z3,Z3,Z3,Z3,Z3,Z3,Z3,Z3,Z3,Z3,Z3,Z3,Z3,Z3,Z3] rfl rfl (any_of HT_.out (by kernel_rfl)) (fun _ _ _ h => h) (Or.inl ⟨by rfl,?_⟩) ?_ ?_;rotate_left
             ·intro w';go_simp;with_reducible rfl
             rotate_left
             ·simp only [Act.put,q13,q23,q33,i64_w,i32_w];rfl
             refine pure_ (i:=9) (N:=some 37) (v:=undef) (a':=?_) #[Y3,Y3,Y3,Y3,Y3,Y3,Y3,Y3,Y3,Y3,Z3,Z3,Z3,Z3,Z3,Z3,Z3,Z3,Z3,Z3,Z3,Z3,Z3,Z3,Z3,Z3,Z3,Z3,Z3,Z3,Z3,Z3,Z3,Z3,Z3,Z3] rfl rfl (any_of HT_.out (by kernel_rfl)) (fun _ _ _ h => h) (Or.inr ⟨by rfl,rfl⟩) ?_ ?_;rotate_left
             ·simp only [Act.put,q13,q23,q33,i64_w,i32_w];rfl
             refine pure_ (i:=10) (N:=some 38) (v:=undef) (a':=?_) #[Y3,Y3,Y3,Y3,Y3,Y3,Y3,Y3,Y3,Y3,Y3,Z3,Z3,Z3,Z3,Z3,Z3,Z3,Z3,Z3,Z3,Z3,Z3,Z3,Z3,Z3,Z3,Z3,Z3,Z3,Z3,Z3,Z3,Z3,Z3,Z3] rfl rfl (any_of HT_.out (by kernel_rfl)) (fun _ _ _ h => h) (Or.inr ⟨by rfl,rfl⟩) ?_ ?_;rotate_left
             ·simp only [Act.put,q13,q23,q33,i64_w,i32_w];rfl
             refine pure_ (i:=11) (N:=some 39) (v:=undef) (a':=?_) #[Y3,Y3,Y3,Y3,Y3,Y3,Y3,Y3,Y3,Y3,Y3,Y3,Z3,Z3,Z3,Z3,Z3,Z3,Z3,Z3,Z3,Z3,Z3,Z3,Z3,Z3,Z3,Z3,Z3,Z3,Z3,Z3,Z3,Z3,Z3,Z3] rfl rfl (any_of HT_.out (by kernel_rfl)) (fun _ _ _ h => h) (Or.inr ⟨by rfl,rfl⟩) ?_ ?_;rotate_left
             ·simp only [Act.put,q13,q23,q33,i64_w,i32_w];rfl
             refine pure_ (i:=12) (N:=some 40) (v:=undef) (a':=?_) #[Y3,Y3,Y3,Y3,Y3,Y3,Y3,Y3,Y3,Y3,Y3,Y3,Y3,Z3,Z3,Z3,Z3,Z3,Z3,Z3,Z3,Z3,Z3,Z3,Z3,Z3,Z3,Z3,Z3,Z3,Z3,Z3,Z3,Z3,Z3,Z3] rfl rfl (any_of HT_.out (by kernel_rfl)) (fun _ _ _ h => h) (Or.inr ⟨by rfl,rfl⟩) ?_ ?_;rotate_left
             ·simp only [Act.put,q13,q23,q33,i64_w,i32_w];rfl
             refine pure_ (i:=13) (N:=some 41) (v:=undef) (a':=?_) #[Y3,Y3,Y3,Y3,Y3,Y3,Y3,Y3,Y3,Y3,Y3,Y3,Y3,Y3,Z3,Z3,Z3,Z3,Z3,Z3,Z3,Z3,Z3,Z3,Z3,Z3,Z3,Z3,Z3,Z3,Z3,Z3,Z3,Z3,Z3,Z3] rfl rfl (any_of HT_.out (by kernel_rfl)) (fun _ _ _ h => h) (Or.inr ⟨by rfl,rfl⟩) ?_ ?_;rotate_left
             ·simp only [Act.put,q13,q23,q33,i64_w,i32_w];rfl
             refine pure_ (i:=14) (N:=some 42) (v:=undef) (a':=?_) #[Y3,Y3,Y3,Y3,Y3,Y3,Y3,Y3,Y3,Y3,Y3,Y3,Y3,Y3,Y3,Z3,Z3,Z3,Z3,Z3,Z3,Z3,Z3,Z3,Z3,Z3,Z3,Z3,Z3,Z3,Z3,Z3,Z3,Z3,Z3,Z3] rfl rfl (any_of HT_.out (by kernel_rfl)) (fun _ _ _ h => h) (Or.inr ⟨by rfl,rfl⟩) ?_ ?_;rotate_left
             ·simp only [Act.put,q13,q23,q33,i64_w,i32_w];rfl
             refine pure_ (i:=15) (N:=some 43) (v:=undef) (a':=?_) #[Y3,Y3,Y3,Y3,Y3,Y3,Y3,Y3,Y3,Y3,Y3,Y3,Y3,Y3,Y3,Y3,Z3,Z3,Z3,Z3,Z3,Z3,Z3,Z3,Z3,Z3,Z3,Z3,Z3,Z3,Z3,Z3,Z3,Z3,Z3,Z3] rfl rfl (any_of HT_.out (by kernel_rfl)) (fun _ _ _ h => h) (Or.inr ⟨by rfl,rfl⟩) ?_ ?_;rotate_left
             ·simp only [Act.put,q13,q23,q33,i64_w,i32_w];rfl
             refine pure_ (i:=16) (N:=some 44) (v:=undef) (a':=?_) #[Y3,Y3,Y3,Y3,Y3,Y3,Y3,Y3,Y3,Y3,Y3,Y3,Y3,Y3,Y3,Y3,Y3,Z3,Z3,Z3,Z3,Z3,Z3,Z3,Z3,Z3,Z3,Z3,Z3,Z3,Z3,Z3,Z3,Z3,Z3,Z3] rfl rfl (any_of HT_.out (by kernel_rfl)) (fun _ _ _ h => h) (Or.inr ⟨by rfl,rfl⟩) ?_ ?_;rotate_left
             ·simp only [Act.put,q13,q23,q33,i64_w,i32_w];rfl
             refine pure_ (i:=17) (N:=some 45) (v:=undef) (a':=?_) #[Y3,Y3,Y3,Y3,Y3,Y3,Y3,Y3,Y3,Y3,Y3,Y3,Y3,Y3,Y3,Y3,Y3,Y3,Z3,Z3,Z3,Z3,Z3,Z3,Z3,Z3,Z3,Z3,Z3,Z3,Z3,Z3,Z3,Z3,Z3,Z3] rfl rfl (any_of HT_.out (by kernel_rfl)) (fun _ _ _ h => h) (Or.inr ⟨by rfl,rfl⟩) ?_ ?_;rotate_left
             ·simp only [Act.put,q13,q23,q33,i64_w,i32_w];rfl
             refine pure_ (i:=18) (N:=some 46) (v:=undef) (a':=?_) #[Y3,Y3,Y3,Y3,Y3,Y3,Y3,Y3,Y3,Y3,Y3,Y3,Y3,Y3,Y3,Y3,Y3,Y3,Y3,Z3,Z3,Z3,Z3,Z3,Z3,Z3,Z3,Z3,Z3,Z3,Z3,Z3,Z3,Z3,Z3,Z3] rfl rfl (any_of HT_.out (by kernel_rfl)) (fun _ _ _ h => h) (Or.inr ⟨by rfl,rfl⟩) ?_ ?_;rotate_left
             ·simp only [Act.put,q13,q23,q33,i64_w,i32_w];rfl
             refine pure_ (i:=19) (N:=some 47) (v:=?_) (a':=?_) #[Y3,Y3,Y3,Y3,Y3,Y3,Y3,Y3,Y3,Y3,Y3,Y3,Y3,Y3,Y3,Y3,Y3,Y3,Y3,Y3,Z3,Z3,Z3,Z3,Z3,Z3,Z3,Z3,Z3,Z3,Z3,Z3,Z3,Z3,Z3,Z3] rfl rfl (any_of HT_.out (by kernel_rfl)) (fun _ _ _ h => h) (Or.inl ⟨by rfl,?_⟩) ?_ ?_;rotate_left
             ·intro w';go_simp;with_reducible rfl
             rotate_left
             ·simp only [Act.put,q13,q23,q33,i64_w,i32_w];rfl
             refine pure_ (i:=20) (N:=some 48) (v:=?_) (a':=?_) #[Y3,Y3,Y3,Y3,Y3,Y3,Y3,Y3,Y3,Y3,Y3,Y3,Y3,Y3,Y3,Y3,Y3,Y3,Y3,Y3,Y3,Z3,Z3,Z3,Z3,Z3,Z3,Z3,Z3,Z3,Z3,Z3,Z3,Z3,Z3,Z3] rfl rfl (any_of HT_.out (by kernel_rfl)) (fun _ _ _ h => h) (Or.inl ⟨by rfl,?_⟩) ?_ ?_;rotate_left
             ·intro w';go_simp;with_reducible rfl
             rotate_left
             ·simp only [Act.put,q13,q23,q33,i64_w,i32_w];rfl
             refine pure_ (i:=21) (N:=some 49) (v:=?_) (a':=?_) #[Y3,Y3,Y3,Y3,Y3,Y3,Y3,Y3,Y3,Y3,Y3,Y3,Y3,Y3,Y3,Y3,Y3,Y3,Y3,Y3,Y3,Y3,Z3,Z3,Z3,Z3,Z3,Z3,Z3,Z3,Z3,Z3,Z3,Z3,Z3,Z3] rfl rfl (any_of HT_.out (by kernel_rfl)) (fun _ _ _ h => h) (Or.inl ⟨by rfl,?_⟩) ?_ ?_;rotate_left
             ·intro w';go_simp;with_reducible rfl
             rotate_left
             ·simp only [Act.put,q13,q23,q33,i64_w,i32_w];rfl
             refine pure_ (i:=22) (N:=some 50) (v:=?_) (a':=?_) #[Y3,Y3,Y3,Y3,Y3,Y3,Y3,Y3,Y3,Y3,Y3,Y3,Y3,Y3,Y3,Y3,Y3,Y3,Y3,Y3,Y3,Y3,Y3,Z3,Z3,Z3,Z3,Z3,Z3,Z3,Z3,Z3,Z3,Z3,Z3,Z3] rfl rfl (any_of HT_.out (by kernel_rfl)) (fun _ _ _ h => h) (Or.inl ⟨by rfl,?_⟩) ?_ ?_;rotate_left
             ·intro w';go_simp;with_reducible rfl
             rotate_left
             ·simp only [Act.put,q13,q23,q33,i64_w,i32_w];rfl
             refine take_ (i:=23) (N:=some 51) (v:=?_) (a':=?_) #[Y3,Y3,Y3,Y3,Y3,Y3,Y3,Y3,Y3,Y3,Y3,Y3,Y3,Y3,Y3,Y3,Y3,Y3,Y3,Y3,Y3,Y3,Y3,Y3,Z3,Z3,Z3,Z3,Z3,Z3,Z3,Z3,Z3,Z3,Z3,Z3] rfl rfl (take_ofW HT_.out HW_.out (by kernel_rfl)) (fun _ _ _ h => h) (Or.inl ⟨by rfl,?_⟩) hHeld ?_ ?_;rotate_left
             ·rintro w' ⟨s0,s1,s2⟩
              go_simp
              with_reducible rfl
             rotate_left
             ·simp only [Act.put,q13,q23,q33,i64_w,i32_w];rfl
             refine pure_ (i:=24) (N:=some 52) (v:=?_) (a':=?_) #[Y3,Y3,Y3,Y3,Y3,Y3,Y3,Y3,Y3,Y3,Y3,Y3,Y3,Y3,Y3,Y3,Y3,Y3,Y3,Y3,Y3,Y3,Y3,Y3,Y3,Z3,Z3,Z3,Z3,Z3,Z3,Z3,Z3,Z3,Z3,Z3] rfl rfl (any_of HT_.out (by kernel_rfl)) (fun _ _ _ h => h) (Or.inl ⟨by rfl,?_⟩) ?_ ?_;rotate_left
             ·intro w';go_simp;with_reducible rfl
             rotate_left
             ·simp only [Act.put,q13,q23,q33,i64_w,i32_w];rfl
             refine pure_ (i:=25) (N:=some 53) (v:=?_) (a':=?_) #[Y3,Y3,Y3,Y3,Y3,Y3,Y3,Y3,Y3,Y3,Y3,Y3,Y3,Y3,Y3,Y3,Y3,Y3,Y3,Y3,Y3,Y3,Y3,Y3,Y3,Y3,Z3,Z3,Z3,Z3,Z3,Z3,Z3,Z3,Z3,Z3] rfl rfl (any_of HT_.out (by kernel_rfl)) (fun _ _ _ h => h) (Or.inl ⟨by rfl,?_⟩) ?_ ?_;rotate_left
             ·intro w';go_simp;with_reducible rfl
             rotate_left
             ·simp only [Act.put,q13,q23,q33,i64_w,i32_w];rfl
             refine pure_ (i:=26) (N:=some 54) (v:=?_) (a':=?_) #[Y3,Y3,Y3,Y3,Y3,Y3,Y3,Y3,Y3,Y3,Y3,Y3,Y3,Y3,Y3,Y3,Y3,Y3,Y3,Y3,Y3,Y3,Y3,Y3,Y3,Y3,Y3,Z3,Z3,Z3,Z3,Z3,Z3,Z3,Z3,Z3] rfl rfl (any_of HT_.out (by kernel_rfl)) (fun _ _ _ h => h) (Or.inl ⟨by rfl,?_⟩) ?_ ?_;rotate_left
             ·intro w';go_simp;with_reducible rfl
             rotate_left
             ·simp only [Act.put,q13,q23,q33,i64_w,i32_w];rfl
             refine pure_ (i:=27) (N:=some 55) (v:=?_) (a':=?_) #[Y3,Y3,Y3,Y3,Y3,Y3,Y3,Y3,Y3,Y3,Y3,Y3,Y3,Y3,Y3,Y3,Y3,Y3,Y3,Y3,Y3,Y3,Y3,Y3,Y3,Y3,Y3,Y3,Z3,Z3,Z3,Z3,Z3,Z3,Z3,Z3] rfl rfl (any_of HT_.out (by kernel_rfl)) (fun _ _ _ h => h) (Or.inl ⟨by rfl,?_⟩) ?_ ?_;rotate_left
             ·intro w';go_simp;with_reducible rfl
             rotate_left
             ·simp only [Act.put,q13,q23,q33,i64_w,i32_w];rfl
             refine pure_ (i:=28) (N:=some 56) (v:=?_) (a':=?_) #[Y3,Y3,Y3,Y3,Y3,Y3,Y3,Y3,Y3,Y3,Y3,Y3,Y3,Y3,Y3,Y3,Y3,Y3,Y3,Y3,Y3,Y3,Y3,Y3,Y3,Y3,Y3,Y3,Y3,Z3,Z3,Z3,Z3,Z3,Z3,Z3] rfl rfl (any_of HT_.out (by kernel_rfl)) (fun _ _ _ h => h) (Or.inl ⟨by rfl,?_⟩) ?_ ?_;rotate_left
             ·intro w';go_simp;with_reducible rfl
             rotate_left
             ·simp only [Act.put,q13,q23,q33,i64_w,i32_w];rfl
             refine take_ (i:=29) (N:=some 57) (v:=?_) (a':=?_) #[Y3,Y3,Y3,Y3,Y3,Y3,Y3,Y3,Y3,Y3,Y3,Y3,Y3,Y3,Y3,Y3,Y3,Y3,Y3,Y3,Y3,Y3,Y3,Y3,Y3,Y3,Y3,Y3,Y3,Y3,Z3,Z3,Z3,Z3,Z3,Z3] rfl rfl (take_ofW HT_.out HW_.out (by kernel_rfl)) (fun _ _ _ h => h) (Or.inl ⟨by rfl,?_⟩) hHeld ?_ ?_;rotate_left
             ·rintro w' ⟨s0,s1,s2⟩
              go_simp
              with_reducible rfl
             rotate_left
             ·simp only [Act.put,q13,q23,q33,i64_w,i32_w];rfl
             refine pure_ (i:=30) (N:=some 58) (v:=?_) (a':=?_) #[Y3,Y3,Y3,Y3,Y3,Y3,Y3,Y3,Y3,Y3,Y3,Y3,Y3,Y3,Y3,Y3,Y3,Y3,Y3,Y3,Y3,Y3,Y3,Y3,Y3,Y3,Y3,Y3,Y3,Y3,Y3,Z3,Z3,Z3,Z3,Z3] rfl rfl (any_of HT_.out (by kernel_rfl)) (fun _ _ _ h => h) (Or.inl ⟨by rfl,?_⟩) ?_ ?_;rotate_left
             ·intro w';go_simp;with_reducible rfl
             rotate_left
             ·simp only [Act.put,q13,q23,q33,i64_w,i32_w];rfl
             refine pure_ (i:=31) (N:=some 59) (v:=?_) (a':=?_) #[Y3,Y3,Y3,Y3,Y3,Y3,Y3,Y3,Y3,Y3,Y3,Y3,Y3,Y3,Y3,Y3,Y3,Y3,Y3,Y3,Y3,Y3,Y3,Y3,Y3,Y3,Y3,Y3,Y3,Y3,Y3,Y3,Z3,Z3,Z3,Z3] rfl rfl (any_of HT_.out (by kernel_rfl)) (fun _ _ _ h => h) (Or.inl ⟨by rfl,?_⟩) ?_ ?_;rotate_left
             ·intro w';go_simp;with_reducible rfl
             rotate_left
             ·simp only [Act.put,q13,q23,q33,i64_w,i32_w];rfl
             refine take_ (i:=32) (N:=some 60) (v:=?_) (a':=?_) #[Y3,Y3,Y3,Y3,Y3,Y3,Y3,Y3,Y3,Y3,Y3,Y3,Y3,Y3,Y3,Y3,Y3,Y3,Y3,Y3,Y3,Y3,Y3,Y3,Y3,Y3,Y3,Y3,Y3,Y3,Y3,Y3,Y3,Z3,Z3,Z3] rfl rfl (take_ofW HT_.out HW_.out (by kernel_rfl)) (fun _ _ _ h => h) (Or.inl ⟨by rfl,?_⟩) hHeld ?_ ?_;rotate_left
             ·rintro w' ⟨s0,s1,s2⟩
              go_simp
              with_reducible rfl
             rotate_left
             ·simp only [Act.put,q13,q23,q33,i64_w,i32_w];rfl
             refine pure_ (i:=33) (N:=some 61) (v:=?_) (a':=?_) #[Y3,Y3,Y3,Y3,Y3,Y3,Y3,Y3,Y3,Y3,Y3,Y3,Y3,Y3,Y3,Y3,Y3,Y3,Y3,Y3,Y3,Y3,Y3,Y3,Y3,Y3,Y3,Y3,Y3,Y3,Y3,Y3,Y3,Y3,Z3,Z3] rfl rfl (any_of HT_.out (by kernel_rfl)) (fun _ _ _ h => h) (Or.inl ⟨by rfl,?_⟩) ?_ ?_;rotate_left
             ·intro w';go_simp;with_reducible rfl
             rotate_left
             ·simp only [Act.put,q13,q23,q33,i64_w,i32_w];rfl
             refine pure_ (i:=34) (N:=some 62) (v:=?_) (a':=?_) #[Y3,Y3,Y3,Y3,Y3,Y3,Y3,Y3,Y3,Y3,Y3,Y3,Y3,Y3,Y3,Y3,Y3,Y3,Y3,Y3,Y3,Y3,Y3,Y3,Y3,Y3,Y3,Y3,Y3,Y3,Y3,Y3,Y3,Y3,Y3,Z3] rfl rfl (any_of HT_.out (by kernel_rfl)) (fun _ _ _ h => h) (Or.inl ⟨by rfl,?_⟩) ?_ ?_;rotate_left
             ·intro w';go_simp;with_reducible rfl
             rotate_left
             ·simp only [Act.put,q13,q23,q33,i64_w,i32_w];rfl
             refine pure_ (i:=35) (N:=some 63) (v:=?_) (a':=?_) #[Y3,Y3,Y3,Y3,Y3,Y3,Y3,Y3,Y3,Y3,Y3,Y3,Y3,Y3,Y3,Y3,Y3,Y3,Y3,Y3,Y3,Y3,Y3,Y3,Y3,Y3,Y3,Y3,Y3,Y3,Y3,Y3,Y3,Y3,Y3,Y3] rfl rfl (any_of HT_.out (by kernel_rfl)) (fun _ _ _ h => h) (Or.inl ⟨by rfl,?_⟩) ?_ ?_;rotate_left
             ·intro w';go_simp;with_reducible rfl
             rotate_left
             ·simp only [Act.put,q13,q23,q33,i64_w,i32_w];rfl
             refine done_ (done_of HT_.out (by kernel_rfl)) ?_
             try go_wp2
             go_ret
             exact ⟨by first | rfl | (simp [errW_none,errW_some] <;> rfl) | (simp [*,errW_none,errW_some] <;> rfl),by repeat (first | (with_reducible first | exact HB.out | apply below_alloc | apply pw_below_drewN | apply below_drew1 | refine below_set ?_ GE131.out | refine below_set ?_ GE135.out) | exact HB.out)⟩
           ·replace c61:=Bool.eq_false_iff.mpr c61
            subst c61
            have H1 : (spec_BatchOk.l0 k2 (wrap64 (x3_2 + 1)) a0_0 l0_1) = some r:=by rw [if_neg (show ¬ (false = true) by decide)] at H;exact H
            clear H
            have H:=H1
            clear H1
            have H':=Aside0.mk H
            clear H
            have hcz75_0 : wr.cell? ⟨gb131,0,none⟩ = some (.int .i64 a0_0):=(blk_cell BK131.out 0).trans rfl
            have hcz75_1 : wr.cell? ⟨gb131,1,none⟩ = some (.slice A0_1 l0_1.length c0_1):=(blk_cell BK131.out 1).trans rfl
            have hfz75_0:=blk_frozen BK131.out 0
            have hfz75_1:=blk_frozen BK131.out 1
            have p134 : 0 ≤ (x3_2 : Int):=of_decide_eq_true (by first | (with_reducible assumption) | assumption)
            have q134 : x3_2 < (l0_1.length : Int):=of_decide_eq_true (by first | (with_reducible assumption) | assumption)
            obtain ⟨ad134,e134,hx134_0,hx134_1,hx134_2⟩:=at_T86 HR0_1.out x3_2 p134 q134
            (try rw [← Nbq60.out] at hx134_2)
            cases e134
            replace hx134_0:=(HB.out.cell (World.block_lt_of_cell? w _ hx134_0)).trans hx134_0
            replace hx134_1:=(HB.out.cell (World.block_lt_of_cell? w _ hx134_1)).trans hx134_1
            replace hx134_2:=(HB.out.cell (World.block_lt_of_cell? w _ hx134_2)).trans hx134_2
            replace p134:=eq_true p134
            replace q134:=eq_true q134
            try go_wp2_with (first | ((with_reducible refine gate_dst (N:=4) rfl ?_);(try (refine gate_guard (by rfl) ?_;dsimp only));refine box_event ?hg (N:=4) ?hd (cs:=#[.string (⟨#[]⟩ : ByteArray),.string (⟨#[]⟩ : ByteArray),.bool false]) (t:=86) ?hr ?_;(case hd => rfl);(case hg => rfl);(case hr => first | (go_simp;done) | (go_simp;rfl));intro gb135 hg w76 hbox hb;have n0_:=Aside0.mk (blk_below (g:=gb131) (o:=.cells #[.int .i64 a0_0,.slice (some ad134) l0_1.length c0_1] 47 (0,0)) (by (with_reducible repeat (first | refine blk_drewN ?_ _ | refine blk_drew ?_ | refine blk_alloc ?_ _));exact BK131.out) hb);have n1_:=Aside0.mk (below_step (by repeat (first | (with_reducible first | exact HB.out | apply below_alloc | apply pw_below_drewN | apply below_drew1 | refine below_set ?_ GE131.out) | exact HB.out)) hb);have n2_:=Aside0.mk (hbox);have n3_:=Aside0.mk ((by rw [hg];exact (below_size (by repeat (first | (with_reducible first | exact HB.out | apply below_alloc | apply pw_below_drewN | apply below_drew1 | refine below_set ?_ GE131.out) | exact HB.out))) : w.heap.size ≤ gb135));have n4_:=Aside0.mk ((by rw [hg];exact (below_size (by repeat (first | (with_reducible first | exact HB.out | apply below_alloc | apply pw_below_drewN | apply below_drew1 | refine below_set ?_ GE131.out) | exact HB.out))) : w.heap.size ≤ gb135));have n5_:=Aside0.mk ((by rw [hg];exact Nat.ne_of_lt (blk_lt (g:=gb131) (o:=.cells #[.int .i64 a0_0,.slice (some ad134) l0_1.length c0_1] 47 (0,0)) (by (with_reducible repeat (first | refine blk_drewN ?_ _ | refine blk_drew ?_ | refine blk_alloc ?_ _));exact BK131.out)) : gb131 ≠ gb135));have n6_:=Aside0.mk ((by rw [hg];exact Nat.ne_of_gt (blk_lt (g:=gb131) (o:=.cells #[.int .i64 a0_0,.slice (some ad134) l0_1.length c0_1] 47 (0,0)) (by (with_reducible repeat (first | refine blk_drewN ?_ _ | refine blk_drew ?_ | refine blk_alloc ?_ _));exact BK131.out)) : gb135 ≠ gb131));clear BK131;clear HB;have BK131:=n0_;have HB:=n1_;have BK135:=n2_;have GW135:=n3_;have GE135:=n4_;have NB131_135:=n5_;have NB135_131:=n6_;clear n0_ n1_ n2_ n3_ n4_ n5_ n6_;clear hb hbox hg;have hnb77:=NB135_131.out;have hnc77:=NB131_135.out;have hcz78_0 : w76.cell? ⟨gb135,0,none⟩ = some (.string (⟨#[]⟩ : ByteArray)):=(blk_cell BK135.out 0).trans rfl;have hcz78_1 : w76.cell? ⟨gb135,1,none⟩ = some (.string (⟨#[]⟩ : ByteArray)):=(blk_cell BK135.out 1).trans rfl;have hcz78_2 : w76.cell? ⟨gb135,2,none⟩ = some (.bool false):=(blk_cell BK135.out 2).trans rfl;have hfz78_0:=blk_frozen BK135.out 0;have hfz78_1:=blk_frozen BK135.out 1;have hfz78_2:=blk_frozen BK135.out 2))
            have n0_ : Aside0 ((((w76.setCell ⟨gb135,0,none⟩ (.string ((rd_T86 l0_1 x3_2).f0))).setCell ⟨gb135,1,none⟩ (.string ((rd_T86 l0_1 x3_2).f1))).setCell ⟨gb135,2,none⟩ (.bool false)).heap[gb131]? = some (.cells #[.int .i64 a0_0,.slice (some ad134) l0_1.length c0_1] 47 (0,0))):=⟨by (with_reducible repeat (first | refine blk_drewN ?_ _ | refine blk_drew ?_ | refine blk_alloc ?_ _));refine blk_far ?_ NB131_135.out _;(with_reducible repeat (first | refine blk_drewN ?_ _ | refine blk_drew ?_ | refine blk_alloc ?_ _));refine blk_far ?_ NB131_135.out _;(with_reducible repeat (first | refine blk_drewN ?_ _ | refine blk_drew ?_ | refine blk_alloc ?_ _));refine blk_far ?_ NB131_135.out _;(with_reducible repeat (first | refine blk_drewN ?_ _ | refine blk_drew ?_ | refine blk_alloc ?_ _));exact BK131.out⟩
            have n1_ : Aside0 ((((w76.setCell ⟨gb135,0,none⟩ (.string ((rd_T86 l0_1 x3_2).f0))).setCell ⟨gb135,1,none⟩ (.string ((rd_T86 l0_1 x3_2).f1))).setCell ⟨gb135,2,none⟩ (.bool false)).heap[gb135]? = some (.cells #[.string ((rd_T86 l0_1 x3_2).f0),.string ((rd_T86 l0_1 x3_2).f1),.bool false] 86 (0,0))):=⟨by (with_reducible repeat (first | refine blk_drewN ?_ _ | refine blk_drew ?_ | refine blk_alloc ?_ _));refine blk_put (cs:=#[.string ((rd_T86 l0_1 x3_2).f0),.string ((rd_T86 l0_1 x3_2).f1),.bool false]) ?_ 2 _ rfl;(with_reducible repeat (first | refine blk_drewN ?_ _ | refine blk_drew ?_ | refine blk_alloc ?_ _));refine blk_put (cs:=#[.string ((rd_T86 l0_1 x3_2).f0),.string (⟨#[]⟩ : ByteArray),.bool false]) ?_ 1 _ rfl;(with_reducible repeat (first | refine blk_drewN ?_ _ | refine blk_drew ?_ | refine blk_alloc ?_ _));refine blk_put (cs:=#[.string (⟨#[]⟩ : ByteArray),.string (⟨#[]⟩ : ByteArray),.bool false]) ?_ 0 _ rfl;(with_reducible repeat (first | refine blk_drewN ?_ _ | refine blk_drew ?_ | refine blk_alloc ?_ _));exact BK135.out⟩
            have n2_ : Aside0 (Below w.heap.size w (((w76.setCell ⟨gb135,0,none⟩ (.string ((rd_T86 l0_1 x3_2).f0))).setCell ⟨gb135,1,none⟩ (.string ((rd_T86 l0_1 x3_2).f1))).setCell ⟨gb135,2,none⟩ (.bool false))):=⟨by repeat (first | (with_reducible first | exact HB.out | apply below_alloc | apply pw_below_drewN | apply below_drew1 | refine below_set ?_ GE131.out | refine below_set ?_ GE135.out) | exact HB.out)⟩
            (try clear BK131)
            (try clear BK135)
            (try clear HB)
            generalize (((w76.setCell ⟨gb135,0,none⟩ (.string ((rd_T86 l0_1 x3_2).f0))).setCell ⟨gb135,1,none⟩ (.string ((rd_T86 l0_1 x3_2).f1))).setCell ⟨gb135,2,none⟩ (.bool false)) = w79 at n0_ n1_ n2_ ⊢
            have BK131:=n0_
            have BK135:=n1_
            have HB:=n2_
            clear n0_ n1_ n2_
            have n0_:=Aside0.mk (blk_drew BK131.out)
            have n1_:=Aside0.mk (blk_drew BK135.out)
            have n2_:=Aside0.mk (below_drew1 HB.out)
            clear BK131
            clear BK135
            clear HB
            have BK131:=n0_
            have BK135:=n1_
            have HB:=n2_
            clear n0_ n1_ n2_
            refine start_ (n:=36) (S:=fun w' => w'.cell? ⟨gb135,0,none⟩ = some (.string ((rd_T86 l0_1 x3_2).f0)) ∧ w'.cell? ⟨gb135,1,none⟩ = some (.string ((rd_T86 l0_1 x3_2).f1)) ∧ w'.cell? ⟨gb135,2,none⟩ = some (.bool false)) (ds:=[]) #[Z3,Z3,Z3,Z3,Z3,Z3,Z3,Z3,Z3,Z3,Z3,Z3,Z3,Z3,Z3,Z3,Z3,Z3,Z3,Z3,Z3,Z3,Z3,Z3,Z3,Z3,Z3,Z3,Z3,Z3,Z3,Z3,Z3,Z3,Z3,Z3] (by kernel_rfl) rfl rfl ⟨(blk_cell BK135.out 0).trans rfl,(blk_cell BK135.out 1).trans rfl,(blk_cell BK135.out 2).trans rfl⟩ (fun hHeld => ?_);refine with_tabW spec_BatchOk.tab7 spec_BatchOk.bits7 (fun HT_ HW_ => ?_)
            generalize w79.drew = w80 at BK131 BK135 HB hHeld ⊢
            refine pure_ (i:=0) (N:=some 28) (v:=?_) (a':=?_) #[Y3,Z3,Z3,Z3,Z3,Z3,Z3,Z3,Z3,Z3,Z3,Z3,Z3,Z3,Z3,Z3,Z3,Z3,Z3,Z3,Z3,Z3,Z3,Z3,Z3,Z3,Z3,Z3,Z3,Z3,Z3,Z3,Z3,Z3,Z3,Z3] rfl rfl (any_of HT_.out (by kernel_rfl)) (fun _ _ _ h => h) (Or.inl ⟨by rfl,?_⟩) ?_ ?_;rotate_left
            ·intro w';go_simp;with_reducible rfl
            rotate_left
            ·simp only [Act.put,q13,q23,q33,i64_w,i32_w];rfl
            refine take_ (i:=1) (N:=some 29) (v:=?_) (a':=?_) #[Y3,Y3,Z3,Z3,Z3,Z3,Z3,Z3,Z3,Z3,Z3,Z3,Z3,Z3,Z3,Z3,Z3,Z3,Z3,Z3,Z3,Z3,Z3,Z3,Z3,Z3,Z3,Z3,Z3,Z3,Z3,Z3,Z3,Z3,Z3,Z3] rfl rfl (take_ofW HT_.out HW_.out (by kernel_rfl)) (fun _ _ _ h => h) (Or.inl ⟨by rfl,?_⟩) hHeld ?_ ?_;rotate_left
            ·rintro w' ⟨s0,s1,s2⟩
             go_simp
             with_reducible rfl
            rotate_left
            ·simp only [Act.put,q13,q23,q33,i64_w,i32_w];rfl
            refine pure_ (i:=2) (N:=some 30) (v:=?_) (a':=?_) #[Y3,Y3,Y3,Z3,Z3,Z3,Z3,Z3,Z3,Z3,Z3,Z3,Z3,Z3,Z3,Z3,Z3,Z3,Z3,Z3,Z3,Z3,Z3,Z3,Z3,Z3,Z3,Z3,Z3,Z3,Z3,Z3,Z3,Z3,Z3,Z3] rfl rfl (any_of HT_.out (by kernel_rfl)) (fun _ _ _ h => h) (Or.inl ⟨by rfl,?_⟩) ?_ ?_;rotate_left
            ·intro w';go_simp;with_reducible rfl
            rotate_left
            ·simp only [Act.put,q13,q23,q33,i64_w,i32_w];rfl
            refine one_ (i:=3) (N:=some 31) #[Y3,Y3,Y3,Y3,Z3,Z3,Z3,Z3,Z3,Z3,Z3,Z3,Z3,Z3,Z3,Z3,Z3,Z3,Z3,Z3,Z3,Z3,Z3,Z3,Z3,Z3,Z3,Z3,Z3,Z3,Z3,Z3,Z3,Z3,Z3,Z3] rfl rfl (one_of HT_.out (by kernel_rfl)) (by decide) (fun K hK => ?_)
            refine goes_ Try.func43 (by kernel_rfl) rfl #[.int .i64 (((rd_T86 l0_1 x3_2).f0).size : Int),.int .i64 1,.int .i64 20] (by rfl) rfl rfl (by (try simp only [List.map_toArray,List.map_cons,List.map_nil]);first | done | rfl | (simp only [List.length_drop,List.length_take];rfl)) ?_
            with_reducible refine (spec_l01In.calls (((rd_T86 l0_1 x3_2).f0).size : Int) 1 20 true _ A12.out).mono ?_
            rintro e w' ⟨rfl,⟨nd,rfl⟩⟩
            refine ⟨_,rfl,?_⟩
            refine hK.out _ _ ⟨(blk_cell BK135.out 0).trans rfl,(blk_cell BK135.out 1).trans rfl,(blk_cell BK135.out 2).trans rfl⟩ (fun hHeld => ?_)
            clear hK K
            refine norm_ (a':=?_) ?_ ?_;rotate_left
            ·show Act.put _ (some 31) _ = _;simp only [Act.put,q13,q23,q33,i64_w,i32_w];rfl
            refine pure_ (i:=4) (N:=some 32) (v:=?_) (a':=?_) #[Y3,Y3,Y3,Y3,Y3,Z3,Z3,Z3,Z3,Z3,Z3,Z3,Z3,Z3,Z3,Z3,Z3,Z3,Z3,Z3,Z3,Z3,Z3,Z3,Z3,Z3,Z3,Z3,Z3,Z3,Z3,Z3,Z3,Z3,Z3,Z3] rfl rfl (any_of HT_.out (by kernel_rfl)) (fun _ _ _ h => h) (Or.inl ⟨by rfl,?_⟩) ?_ ?_;rotate_left
            ·intro w';go_simp;with_reducible rfl
            rotate_left
            ·simp only [Act.put,q13,q23,q33,i64_w,i32_w];rfl
            refine pure_ (i:=5) (N:=some 33) (v:=?_) (a':=?_) #[Y3,Y3,Y3,Y3,Y3,Y3,Z3,Z3,Z3,Z3,Z3,Z3,Z3,Z3,Z3,Z3,Z3,Z3,Z3,Z3,Z3,Z3,Z3,Z3,Z3,Z3,Z3,Z3,Z3,Z3,Z3,Z3,Z3,Z3,Z3,Z3] rfl rfl (any_of HT_.out (by kernel_rfl)) (fun _ _ _ h => h) (Or.inl ⟨by rfl,?_⟩) ?_ ?_;rotate_left
            ·intro w';go_simp;with_reducible rfl
            rotate_left
            ·simp only [Act.put,q13,q23,q33,i64_w,i32_w];rfl
            refine pure_ (i:=6) (N:=some 34) (v:=?_) (a':=?_) #[Y3,Y3,Y3,Y3,Y3,Y3,Y3,Z3,Z3,Z3,Z3,Z3,Z3,Z3,Z3,Z3,Z3,Z3,Z3,Z3,Z3,Z3,Z3,Z3,Z3,Z3,Z3,Z3,Z3,Z3,Z3,Z3,Z3,Z3,Z3,Z3] rfl rfl (any_of HT_.out (by kernel_rfl)) (fun _ _ _ h => h) (Or.inl ⟨by rfl,?_⟩) ?_ ?_;rotate_left
            ·intro w';go_simp;with_reducible rfl
            rotate_left
            ·simp only [Act.put,q13,q23,q33,i64_w,i32_w];rfl
            refine pure_ (i:=7) (N:=some 35) (v:=?_) (a':=?_) #[Y3,Y3,Y3,Y3,Y3,Y3,Y3,Y3,Z3,Z3,Z3,Z3,Z3,Z3,Z3,Z3,Z3,Z3,Z3,Z3,Z3,Z3,Z3,Z3,Z3,Z3,Z3,Z3,Z3,Z3,Z3,Z3,Z3,Z3,Z3,Z3] rfl rfl (any_of HT_.out (by kernel_rfl)) (fun _ _ _ h => h) (Or.inl ⟨by rfl,?_⟩) ?_ ?_;rotate_left
            ·intro w';go_simp;with_reducible rfl
            rotate_left
            ·simp only [Act.put,q13,q23,q33,i64_w,i32_w];rfl
            refine pure_ (i:=8) (N:=some 36) (v:=?_) (a':=?_) #[Y3,Y3,Y3,Y3,Y3,Y3,Y3,Y3,Y3,Z3,Z3,Z3,Z3,Z3,Z3,Z3,Z3,Z3,Z3,Z3,Z3,Z3,Z3,Z3,Z3,Z3,Z3,Z3,Z3,Z3,Z3,Z3,Z3,Z3,Z3,Z3] rfl rfl (any_of HT_.out (by kernel_rfl)) (fun _ _ _ h => h) (Or.inl ⟨by rfl,?_⟩) ?_ ?_;rotate_left
            ·intro w';go_simp;with_reducible rfl
            rotate_left
            ·simp only [Act.put,q13,q23,q33,i64_w,i32_w];rfl
            refine pure_ (i:=9) (N:=some 37) (v:=undef) (a':=?_) #[Y3,Y3,Y3,Y3,Y3,Y3,Y3,Y3,Y3,Y3,Z3,Z3,Z3,Z3,Z3,Z3,Z3,Z3,Z3,Z3,Z3,Z3,Z3,Z3,Z3,Z3,Z3,Z3,Z3,Z3,Z3,Z3,Z3,Z3,Z3,Z3] rfl rfl (any_of HT_.out (by kernel_rfl)) (fun _ _ _ h => h) (Or.inr ⟨by rfl,rfl⟩) ?_ ?_;rotate_left
            ·simp only [Act.put,q13,q23,q33,i64_w,i32_w];rfl
            refine pure_ (i:=10) (N:=some 38) (v:=undef) (a':=?_) #[Y3,Y3,Y3,Y3,Y3,Y3,Y3,Y3,Y3,Y3,Y3,Z3,Z3,Z3,Z3,Z3,Z3,Z3,Z3,Z3,Z3,Z3,Z3,Z3,Z3,Z3,Z3,Z3,Z3,Z3,Z3,Z3,Z3,Z3,Z3,Z3] rfl rfl (any_of HT_.out (by kernel_rfl)) (fun _ _ _ h => h) (Or.inr ⟨by rfl,rfl⟩) ?_ ?_;rotate_left
            ·simp only [Act.put,q13,q23,q33,i64_w,i32_w];rfl
            refine pure_ (i:=11) (N:=some 39) (v:=undef) (a':=?_) #[Y3,Y3,Y3,Y3,Y3,Y3,Y3,Y3,Y3,Y3,Y3,Y3,Z3,Z3,Z3,Z3,Z3,Z3,Z3,Z3,Z3,Z3,Z3,Z3,Z3,Z3,Z3,Z3,Z3,Z3,Z3,Z3,Z3,Z3,Z3,Z3] rfl rfl (any_of HT_.out (by kernel_rfl)) (fun _ _ _ h => h) (Or.inr ⟨by rfl,rfl⟩) ?_ ?_;rotate_left
            ·simp only [Act.put,q13,q23,q33,i64_w,i32_w];rfl
            refine pure_ (i:=12) (N:=some 40) (v:=undef) (a':=?_) #[Y3,Y3,Y3,Y3,Y3,Y3,Y3,Y3,Y3,Y3,Y3,Y3,Y3,Z3,Z3,Z3,Z3,Z3,Z3,Z3,Z3,Z3,Z3,Z3,Z3,Z3,Z3,Z3,Z3,Z3,Z3,Z3,Z3,Z3,Z3,Z3] rfl rfl (any_of HT_.out (by kernel_rfl)) (fun _ _ _ h => h) (Or.inr ⟨by rfl,rfl⟩) ?_ ?_;rotate_left
            ·simp only [Act.put,q13,q23,q33,i64_w,i32_w];rfl
            refine pure_ (i:=13) (N:=some 41) (v:=undef) (a':=?_) #[Y3,Y3,Y3,Y3,Y3,Y3,Y3,Y3,Y3,Y3,Y3,Y3,Y3,Y3,Z3,Z3,Z3,Z3,Z3,Z3,Z3,Z3,Z3,Z3,Z3,Z3,Z3,Z3,Z3,Z3,Z3,Z3,Z3,Z3,Z3,Z3] rfl rfl (any_of HT_.out (by kernel_rfl)) (fun _ _ _ h => h) (Or.inr ⟨by rfl,rfl⟩) ?_ ?_;rotate_left
            ·simp only [Act.put,q13,q23,q33,i64_w,i32_w];rfl
            refine pure_ (i:=14) (N:=some 42) (v:=undef) (a':=?_) #[Y3,Y3,Y3,Y3,Y3,Y3,Y3,Y3,Y3,Y3,Y3,Y3,Y3,Y3,Y3,Z3,Z3,Z3,Z3,Z3,Z3,Z3,Z3,Z3,Z3,Z3,Z3,Z3,Z3,Z3,Z3,Z3,Z3,Z3,Z3,Z3] rfl rfl (any_of HT_.out (by kernel_rfl)) (fun _ _ _ h => h) (Or.inr ⟨by rfl,rfl⟩) ?_ ?_;rotate_left
            ·simp only [Act.put,q13,q23,q33,i64_w,i32_w];rfl
            refine pure_ (i:=15) (N:=some 43) (v:=undef) (a':=?_) #[Y3,Y3,Y3,Y3,Y3,Y3,Y3,Y3,Y3,Y3,Y3,Y3,Y3,Y3,Y3,Y3,Z3,Z3,Z3,Z3,Z3,Z3,Z3,Z3,Z3,Z3,Z3,Z3,Z3,Z3,Z3,Z3,Z3,Z3,Z3,Z3] rfl rfl (any_of HT_.out (by kernel_rfl)) (fun _ _ _ h => h) (Or.inr ⟨by rfl,rfl⟩) ?_ ?_;rotate_left
            ·simp only [Act.put,q13,q23,q33,i64_w,i32_w];rfl
            refine pure_ (i:=16) (N:=some 44) (v:=undef) (a':=?_) #[Y3,Y3,Y3,Y3,Y3,Y3,Y3,Y3,Y3,Y3,Y3,Y3,Y3,Y3,Y3,Y3,Y3,Z3,Z3,Z3,Z3,Z3,Z3,Z3,Z3,Z3,Z3,Z3,Z3,Z3,Z3,Z3,Z3,Z3,Z3,Z3] rfl rfl (any_of HT_.out (by kernel_rfl)) (fun _ _ _ h => h) (Or.inr ⟨by rfl,rfl⟩) ?_ ?_;rotate_left
            ·simp only [Act.put,q13,q23,q33,i64_w,i32_w];rfl
            refine pure_ (i:=17) (N:=some 45) (v:=undef) (a':=?_) #[Y3,Y3,Y3,Y3,Y3,Y3,Y3,Y3,Y3,Y3,Y3,Y3,Y3,Y3,Y3,Y3,Y3,Y3,Z3,Z3,Z3,Z3,Z3,Z3,Z3,Z3,Z3,Z3,Z3,Z3,Z3,Z3,Z3,Z3,Z3,Z3] rfl rfl (any_of HT_.out (by kernel_rfl)) (fun _ _ _ h => h) (Or.inr ⟨by rfl,rfl⟩) ?_ ?_;rotate_left
            ·simp only [Act.put,q13,q23,q33,i64_w,i32_w];rfl
            refine pure_ (i:=18) (N:=some 46) (v:=undef) (a':=?_) #[Y3,Y3,Y3,Y3,Y3,Y3,Y3,Y3,Y3,Y3,Y3,Y3,Y3,Y3,Y3,Y3,Y3,Y3,Y3,Z3,Z3,Z3,Z3,Z3,Z3,Z3,Z3,Z3,Z3,Z3,Z3,Z3,Z3,Z3,Z3,Z3] rfl rfl (any_of HT_.out (by kernel_rfl)) (fun _ _ _ h => h) (Or.inr ⟨by rfl,rfl⟩) ?_ ?_;rotate_left
            ·simp only [Act.put,q13,q23,q33,i64_w,i32_w];rfl
            refine pure_ (i:=19) (N:=some 47) (v:=?_) (a':=?_) #[Y3,Y3,Y3,Y3,Y3,Y3,Y3,Y3,Y3,Y3,Y3,Y3,Y3,Y3,Y3,Y3,Y3,Y3,Y3,Y3,Z3,Z3,Z3,Z3,Z3,Z3,Z3,Z3,Z3,Z3,Z3,Z3,Z3,Z3,Z3,Z3] rfl rfl (any_of HT_.out (by kernel_rfl)) (fun _ _ _ h => h) (Or.inl ⟨by rfl,?_⟩) ?_ ?_;rotate_left
            ·intro w';go_simp;with_reducible rfl
            rotate_left
            ·simp only [Act.put,q13,q23,q33,i64_w,i32_w];rfl
            refine pure_ (i:=20) (N:=some 48) (v:=?_) (a':=?_) #[Y3,Y3,Y3,Y3,Y3,Y3,Y3,Y3,Y3,Y3,Y3,Y3,Y3,Y3,Y3,Y3,Y3,Y3,Y3,Y3,Y3,Z3,Z3,Z3,Z3,Z3,Z3,Z3,Z3,Z3,Z3,Z3,Z3,Z3,Z3,Z3] rfl rfl (any_of HT_.out (by kernel_rfl)) (fun _ _ _ h => h) (Or.inl ⟨by rfl,?_⟩) ?_ ?_;rotate_left
            ·intro w';go_simp;with_reducible rfl
            rotate_left
            ·simp only [Act.put,q13,q23,q33,i64_w,i32_w];rfl
            refine pure_ (i:=21) (N:=some 49) (v:=?_) (a':=?_) #[Y3,Y3,Y3,Y3,Y3,Y3,Y3,Y3,Y3,Y3,Y3,Y3,Y3,Y3,Y3,Y3,Y3,Y3,Y3,Y3,Y3,Y3,Z3,Z3,Z3,Z3,Z3,Z3,Z3,Z3,Z3,Z3,Z3,Z3,Z3,Z3] rfl rfl (any_of HT_.out (by kernel_rfl)) (fun _ _ _ h => h) (Or.inl ⟨by rfl,?_⟩) ?_ ?_;rotate_left
            ·intro w';go_simp;with_reducible rfl
            rotate_left
            ·simp only [Act.put,q13,q23,q33,i64_w,i32_w];rfl
            refine pure_ (i:=22) (N:=some 50) (v:=?_) (a':=?_) #[Y3,Y3,Y3,Y3,Y3,Y3,Y3,Y3,Y3,Y3,Y3,Y3,Y3,Y3,Y3,Y3,Y3,Y3,Y3,Y3,Y3,Y3,Y3,Z3,Z3,Z3,Z3,Z3,Z3,Z3,Z3,Z3,Z3,Z3,Z3,Z3] rfl rfl (any_of HT_.out (by kernel_rfl)) (fun _ _ _ h => h) (Or.inl ⟨by rfl,?_⟩) ?_ ?_;rotate_left
            ·intro w';go_simp;with_reducible rfl
            rotate_left
            ·simp only [Act.put,q13,q23,q33,i64_w,i32_w];rfl
            refine take_ (i:=23) (N:=some 51) (v:=?_) (a':=?_) #[Y3,Y3,Y3,Y3,Y3,Y3,Y3,Y3,Y3,Y3,Y3,Y3,Y3,Y3,Y3,Y3,Y3,Y3,Y3,Y3,Y3,Y3,Y3,Y3,Z3,Z3,Z3,Z3,Z3,Z3,Z3,Z3,Z3,Z3,Z3,Z3] rfl rfl (take_ofW HT_.out HW_.out (by kernel_rfl)) (fun _ _ _ h => h) (Or.inl ⟨by rfl,?_⟩) hHeld ?_ ?_;rotate_left
            ·rintro w' ⟨s0,s1,s2⟩
             go_simp
             with_reducible rfl
            rotate_left
            ·simp only [Act.put,q13,q23,q33,i64_w,i32_w];rfl
            refine pure_ (i:=24) (N:=some 52) (v:=?_) (a':=?_) #[Y3,Y3,Y3,Y3,Y3,Y3,Y3,Y3,Y3,Y3,Y3,Y3,Y3,Y3,Y3,Y3,Y3,Y3,Y3,Y3,Y3,Y3,Y3,Y3,Y3,Z3,Z3,Z3,Z3,Z3,Z3,Z3,Z3,Z3,Z3,Z3] rfl rfl (any_of HT_.out (by kernel_rfl)) (fun _ _ _ h => h) (Or.inl ⟨by rfl,?_⟩) ?_ ?_;rotate_left
            ·intro w';go_simp;with_reducible rfl
            rotate_left
            ·simp only [Act.put,q13,q23,q33,i64_w,i32_w];rfl
            refine pure_ (i:=25) (N:=some 53) (v:=?_) (a':=?_) #[Y3,Y3,Y3,Y3,Y3,Y3,Y3,Y3,Y3,Y3,Y3,Y3,Y3,Y3,Y3,Y3,Y3,Y3,Y3,Y3,Y3,Y3,Y3,Y3,Y3,Y3,Z3,Z3,Z3,Z3,Z3,Z3,Z3,Z3,Z3,Z3] rfl rfl (any_of HT_.out (by kernel_rfl)) (fun _ _ _ h => h) (Or.inl ⟨by rfl,?_⟩) ?_ ?_;rotate_left
            ·intro w';go_simp;with_reducible rfl
            rotate_left
            ·simp only [Act.put,q13,q23,q33,i64_w,i32_w];rfl
            refine pure_ (i:=26) (N:=some 54) (v:=?_) (a':=?_) #[Y3,Y3,Y3,Y3,Y3,Y3,Y3,Y3,Y3,Y3,Y3,Y3,Y3,Y3,Y3,Y3,Y3,Y3,Y3,Y3,Y3,Y3,Y3,Y3,Y3,Y3,Y3,Z3,Z3,Z3,Z3,Z3,Z3,Z3,Z3,Z3] rfl rfl (any_of HT_.out (by kernel_rfl)) (fun _ _ _ h => h) (Or.inl ⟨by rfl,?_⟩) ?_ ?_;rotate_left
            ·intro w';go_simp;with_reducible rfl
            rotate_left
            ·simp only [Act.put,q13,q23,q33,i64_w,i32_w];rfl
            refine pure_ (i:=27) (N:=some 55) (v:=?_) (a':=?_) #[Y3,Y3,Y3,Y3,Y3,Y3,Y3,Y3,Y3,Y3,Y3,Y3,Y3,Y3,Y3,Y3,Y3,Y3,Y3,Y3,Y3,Y3,Y3,Y3,Y3,Y3,Y3,Y3,Z3,Z3,Z3,Z3,Z3,Z3,Z3,Z3] rfl rfl (any_of HT_.out (by kernel_rfl)) (fun _ _ _ h => h) (Or.inl ⟨by rfl,?_⟩) ?_ ?_;rotate_left
            ·intro w';go_simp;with_reducible rfl
            rotate_left
            ·simp only [Act.put,q13,q23,q33,i64_w,i32_w];rfl
            refine pure_ (i:=28) (N:=some 56) (v:=?_) (a':=?_) #[Y3,Y3,Y3,Y3,Y3,Y3,Y3,Y3,Y3,Y3,Y3,Y3,Y3,Y3,Y3,Y3,Y3,Y3,Y3,Y3,Y3,Y3,Y3,Y3,Y3,Y3,Y3,Y3,Y3,Z3,Z3,Z3,Z3,Z3,Z3,Z3] rfl rfl (any_of HT_.out (by kernel_rfl)) (fun _ _ _ h => h) (Or.inl ⟨by rfl,?_⟩) ?_ ?_;rotate_left
            ·intro w';go_simp;with_reducible rfl
            rotate_left
            ·simp only [Act.put,q13,q23,q33,i64_w,i32_w];rfl
            refine take_ (i:=29) (N:=some 57) (v:=?_) (a':=?_) #[Y3,Y3,Y3,Y3,Y3,Y3,Y3,Y3,Y3,Y3,Y3,Y3,Y3,Y3,Y3,Y3,Y3,Y3,Y3,Y3,Y3,Y3,Y3,Y3,Y3,Y3,Y3,Y3,Y3,Y3,Z3,Z3,Z3,Z3,Z3,Z3] rfl rfl (take_ofW HT_.out HW_.out (by kernel_rfl)) (fun _ _ _ h => h) (Or.inl ⟨by rfl,?_⟩) hHeld ?_ ?_;rotate_left
            ·rintro w' ⟨s0,s1,s2⟩
             go_simp
             with_reducible rfl
            rotate_left
            ·simp only [Act.put,q13,q23,q33,i64_w,i32_w];rfl
            refine pure_ (i:=30) (N:=some 58) (v:=?_) (a':=?_) #[Y3,Y3,Y3,Y3,Y3,Y3,Y3,Y3,Y3,Y3,Y3,Y3,Y3,Y3,Y3,Y3,Y3,Y3,Y3,Y3,Y3,Y3,Y3,Y3,Y3,Y3,Y3,Y3,Y3,Y3,Y3,Z3,Z3,Z3,Z3,Z3] rfl rfl (any_of HT_.out (by kernel_rfl)) (fun _ _ _ h => h) (Or.inl ⟨by rfl,?_⟩) ?_ ?_;rotate_left
            ·intro w';go_simp;with_reducible rfl
            rotate_left
            ·simp only [Act.put,q13,q23,q33,i64_w,i32_w];rfl
            refine pure_ (i:=31) (N:=some 59) (v:=undef) (a':=?_) #[Y3,Y3,Y3,Y3,Y3,Y3,Y3,Y3,Y3,Y3,Y3,Y3,Y3,Y3,Y3,Y3,Y3,Y3,Y3,Y3,Y3,Y3,Y3,Y3,Y3,Y3,Y3,Y3,Y3,Y3,Y3,Y3,Z3,Z3,Z3,Z3] rfl rfl (any_of HT_.out (by kernel_rfl)) (fun _ _ _ h => h) (Or.inr ⟨by rfl,rfl⟩) ?_ ?_;rotate_left
            ·simp only [Act.put,q13,q23,q33,i64_w,i32_w];rfl
            refine pure_ (i:=32) (N:=some 60) (v:=undef) (a':=?_) #[Y3,Y3,Y3,Y3,Y3,Y3,Y3,Y3,Y3,Y3,Y3,Y3,Y3,Y3,Y3,Y3,Y3,Y3,Y3,Y3,Y3,Y3,Y3,Y3,Y3,Y3,Y3,Y3,Y3,Y3,Y3,Y3,Y3,Z3,Z3,Z3] rfl rfl (any_of HT_.out (by kernel_rfl)) (fun _ _ _ h => h) (Or.inr ⟨by rfl,rfl⟩) ?_ ?_;rotate_left
            ·simp only [Act.put,q13,q23,q33,i64_w,i32_w];rfl
            refine pure_ (i:=33) (N:=some 61) (v:=undef) (a':=?_) #[Y3,Y3,Y3,Y3,Y3,Y3,Y3,Y3,Y3,Y3,Y3,Y3,Y3,Y3,Y3,Y3,Y3,Y3,Y3,Y3,Y3,Y3,Y3,Y3,Y3,Y3,Y3,Y3,Y3,Y3,Y3,Y3,Y3,Y3,Z3,Z3] rfl rfl (any_of HT_.out (by kernel_rfl)) (fun _ _ _ h => h) (Or.inr ⟨by rfl,rfl⟩) ?_ ?_;rotate_left
            ·simp only [Act.put,q13,q23,q33,i64_w,i32_w];rfl
            refine pure_ (i:=34) (N:=some 62) (v:=?_) (a':=?_) #[Y3,Y3,Y3,Y3,Y3,Y3,Y3,Y3,Y3,Y3,Y3,Y3,Y3,Y3,Y3,Y3,Y3,Y3,Y3,Y3,Y3,Y3,Y3,Y3,Y3,Y3,Y3,Y3,Y3,Y3,Y3,Y3,Y3,Y3,Y3,Z3] rfl rfl (any_of HT_.out (by kernel_rfl)) (fun _ _ _ h => h) (Or.inl ⟨by rfl,?_⟩) ?_ ?_;rotate_left
            ·intro w';go_simp;with_reducible rfl
            rotate_left
            ·simp only [Act.put,q13,q23,q33,i64_w,i32_w];rfl
            refine pure_ (i:=35) (N:=some 63) (v:=?_) (a':=?_) #[Y3,Y3,Y3,Y3,Y3,Y3,Y3,Y3,Y3,Y3,Y3,Y3,Y3,Y3,Y3,Y3,Y3,Y3,Y3,Y3,Y3,Y3,Y3,Y3,Y3,Y3,Y3,Y3,Y3,Y3,Y3,Y3,Y3,Y3,Y3,Y3] rfl rfl (any_of HT_.out (by kernel_rfl)) (fun _ _ _ h => h) (Or.inl ⟨by rfl,?_⟩) ?_ ?_;rotate_left
            ·intro w';go_simp;with_reducible rfl
            rotate_left
            ·simp only [Act.put,q13,q23,q33,i64_w,i32_w];rfl
            refine done_ (done_of HT_.out (by kernel_rfl)) ?_
            try go_wp2
            go_roundg k2
            case measure => have:=HJ1.out;have:=HK2.out;omega
            case rel => exact ⟨(wrap64 (x3_2 + 1)),(by first | rfl | (simp;done) | (simp [*];done)),H',⟨by have:=HJ1.out;have:=HK2.out;omega⟩,⟨by (with_reducible repeat (first | refine blk_drewN ?_ _ | refine blk_drew ?_ | refine blk_alloc ?_ _));exact BK131.out⟩,⟨by repeat (first | (with_reducible first | exact HB.out | apply below_alloc | apply pw_below_drewN | apply below_drew1 | refine below_set ?_ GE131.out | refine below_set ?_ GE135.out) | exact HB.out)⟩⟩
        ·replace c13:=Bool.eq_false_iff.mpr c13
         subst c13
         have H1 : (some false) = some r:=by rw [if_neg (show ¬ (false = true) by decide)] at H;exact H
         clear H
         have H:=H1
         clear H1
         obtain rfl:=Option.some.inj H
         have hcz81_0 : wr.cell? ⟨gb131,0,none⟩ = some (.int .i64 a0_0):=(blk_cell BK131.out 0).trans rfl
         have hcz81_1 : wr.cell? ⟨gb131,1,none⟩ = some (.slice A0_1 l0_1.length c0_1):=(blk_cell BK131.out 1).trans rfl
         have hfz81_0:=blk_frozen BK131.out 0
         have hfz81_1:=blk_frozen BK131.out 1
         have p134 : 0 ≤ (x3_2 : Int):=of_decide_eq_true (by first | (with_reducible assumption) | assumption)
         have q134 : x3_2 < (l0_1.length : Int):=of_decide_eq_true (by first | (with_reducible assumption) | assumption)
         obtain ⟨ad134,e134,hx134_0,hx134_1,hx134_2⟩:=at_T86 HR0_1.out x3_2 p134 q134
         cases e134
         replace hx134_0:=(HB.out.cell (World.block_lt_of_cell? w _ hx134_0)).trans hx134_0
         replace hx134_1:=(HB.out.cell (World.block_lt_of_cell? w _ hx134_1)).trans hx134_1
         replace hx134_2:=(HB.out.cell (World.block_lt_of_cell? w _ hx134_2)).trans hx134_2
         replace p134:=eq_true p134
         replace q134:=eq_true q134
         try go_wp2_with (first | ((with_reducible refine gate_dst (N:=4) rfl ?_);(try (refine gate_guard (by rfl) ?_;dsimp only));refine box_event ?hg (N:=4) ?hd (cs:=#[.string (⟨#[]⟩ : ByteArray),.string (⟨#[]⟩ : ByteArray),.bool false]) (t:=86) ?hr ?_;(case hd => rfl);(case hg => rfl);(case hr => first | (go_simp;done) | (go_simp;rfl));intro gb135 hg w82 hbox hb;have n0_:=Aside0.mk (blk_below (g:=gb131) (o:=.cells #[.int .i64 a0_0,.slice (some ad134) l0_1.length c0_1] 47 (0,0)) (by (with_reducible repeat (first | refine blk_drewN ?_ _ | refine blk_drew ?_ | refine blk_alloc ?_ _));exact BK131.out) hb);have n1_:=Aside0.mk (below_step (by repeat (first | (with_reducible first | exact HB.out | apply below_alloc | apply pw_below_drewN | apply below_drew1 | refine below_set ?_ GE131.out) | exact HB.out)) hb);have n2_:=Aside0.mk (hbox);have n3_:=Aside0.mk ((by rw [hg];exact (below_size (by repeat (first | (with_reducible first | exact HB.out | apply below_alloc | apply pw_below_drewN | apply below_drew1 | refine below_set ?_ GE131.out) | exact HB.out))) : w.heap.size ≤ gb135));have n4_:=Aside0.mk ((by rw [hg];exact (below_size (by repeat (first | (with_reducible first | exact HB.out | apply below_alloc | apply pw_below_drewN | apply below_drew1 | refine below_set ?_ GE131.out) | exact HB.out))) : w.heap.size ≤ gb135));have n5_:=Aside0.mk ((by rw [hg];exact Nat.ne_of_lt (blk_lt (g:=gb131) (o:=.cells #[.int .i64 a0_0,.slice (some ad134) l0_1.length c0_1] 47 (0,0)) (by (with_reducible repeat (first | refine blk_drewN ?_ _ | refine blk_drew ?_ | refine blk_alloc ?_ _));exact BK131.out)) : gb131 ≠ gb135));have n6_:=Aside0.mk ((by rw [hg];exact Nat.ne_of_gt (blk_lt (g:=gb131) (o:=.cells #[.int .i64 a0_0,.slice (some ad134) l0_1.length c0_1] 47 (0,0)) (by (with_reducible repeat (first | refine blk_drewN ?_ _ | refine blk_drew ?_ | refine blk_alloc ?_ _));exact BK131.out)) : gb135 ≠ gb131));clear BK131;clear HB;have BK131:=n0_;have HB:=n1_;have BK135:=n2_;have GW135:=n3_;have GE135:=n4_;have NB131_135:=n5_;have NB135_131:=n6_;clear n0_ n1_ n2_ n3_ n4_ n5_ n6_;clear hb hbox hg;have hnb83:=NB135_131.out;have hnc83:=NB131_135.out;have hcz84_0 : w82.cell? ⟨gb135,0,none⟩ = some (.string (⟨#[]⟩ : ByteArray)):=(blk_cell BK135.out 0).trans rfl;have hcz84_1 : w82.cell? ⟨gb135,1,none⟩ = some (.string (⟨#[]⟩ : ByteArray)):=(blk_cell BK135.out 1).trans rfl;have hcz84_2 : w82.cell? ⟨gb135,2,none⟩ = some (.bool false):=(blk_cell BK135.out 2).trans rfl;have hfz84_0:=blk_frozen BK135.out 0;have hfz84_1:=blk_frozen BK135.out 1;have hfz84_2:=blk_frozen BK135.out 2))
         have n0_ : Aside0 ((((w82.setCell ⟨gb135,0,none⟩ (.string ((rd_T86 l0_1 x3_2).f0))).setCell ⟨gb135,1,none⟩ (.string ((rd_T86 l0_1 x3_2).f1))).setCell ⟨gb135,2,none⟩ (.bool ((rd_T86 l0_1 x3_2).f2))).heap[gb131]? = some (.cells #[.int .i64 a0_0,.slice (some ad134) l0_1.length c0_1] 47 (0,0))):=⟨by (with_reducible repeat (first | refine blk_drewN ?_ _ | refine blk_drew ?_ | refine blk_alloc ?_ _));refine blk_far ?_ NB131_135.out _;(with_reducible repeat (first | refine blk_drewN ?_ _ | refine blk_drew ?_ | refine blk_alloc ?_ _));refine blk_far ?_ NB131_135.out _;(with_reducible repeat (first | refine blk_drewN ?_ _ | refine blk_drew ?_ | refine blk_alloc ?_ _));refine blk_far ?_ NB131_135.out _;(with_reducible repeat (first | refine blk_drewN ?_ _ | refine blk_drew ?_ | refine blk_alloc ?_ _));exact BK131.out⟩
         have n1_ : Aside0 ((((w82.setCell ⟨gb135,0,none⟩ (.string ((rd_T86 l0_1 x3_2).f0))).setCell ⟨gb135,1,none⟩ (.string ((rd_T86 l0_1 x3_2).f1))).setCell ⟨gb135,2,none⟩ (.bool ((rd_T86 l0_1 x3_2).f2))).heap[gb135]? = some (.cells #[.string ((rd_T86 l0_1 x3_2).f0),.string ((rd_T86 l0_1 x3_2).f1),.bool ((rd_T86 l0_1 x3_2).f2)] 86 (0,0))):=⟨by (with_reducible repeat (first | refine blk_drewN ?_ _ | refine blk_drew ?_ | refine blk_alloc ?_ _));refine blk_put (cs:=#[.string ((rd_T86 l0_1 x3_2).f0),.string ((rd_T86 l0_1 x3_2).f1),.bool false]) ?_ 2 _ rfl;(with_reducible repeat (first | refine blk_drewN ?_ _ | refine blk_drew ?_ | refine blk_alloc ?_ _));refine blk_put (cs:=#[.string ((rd_T86 l0_1 x3_2).f0),.string (⟨#[]⟩ : ByteArray),.bool false]) ?_ 1 _ rfl;(with_reducible repeat (first | refine blk_drewN ?_ _ | refine blk_drew ?_ | refine blk_alloc ?_ _));refine blk_put (cs:=#[.string (⟨#[]⟩ : ByteArray),.string (⟨#[]⟩ : ByteArray),.bool false]) ?_ 0 _ rfl;(with_reducible repeat (first | refine blk_drewN ?_ _ | refine blk_drew ?_ | refine blk_alloc ?_ _));exact BK135.out⟩
         have n2_ : Aside0 (Below w.heap.size w (((w82.setCell ⟨gb135,0,none⟩ (.string ((rd_T86 l0_1 x3_2).f0))).setCell ⟨gb135,1,none⟩ (.string ((rd_T86 l0_1 x3_2).f1))).setCell ⟨gb135,2,none⟩ (.bool ((rd_T86 l0_1 x3_2).f2)))):=⟨by repeat (first | (with_reducible first | exact HB.out | apply below_alloc | apply pw_below_drewN | apply below_drew1 | refine below_set ?_ GE131.out | refine below_set ?_ GE135.out) | exact HB.out)⟩
         (try clear BK131)
         (try clear BK135)
         (try clear HB)
         generalize (((w82.setCell ⟨gb135,0,none⟩ (.string ((rd_T86 l0_1 x3_2).f0))).setCell ⟨gb135,1,none⟩ (.string ((rd_T86 l0_1 x3_2).f1))).setCell ⟨gb135,2,none⟩ (.bool ((rd_T86 l0_1 x3_2).f2))) = w85 at n0_ n1_ n2_ ⊢
         have BK131:=n0_
         have BK135:=n1_
         have HB:=n2_
         clear n0_ n1_ n2_
         have n0_:=Aside0.mk (blk_drew BK131.out)
         have n1_:=Aside0.mk (blk_drew BK135.out)
         have n2_:=Aside0.mk (below_drew1 HB.out)
         clear BK131
         clear BK135
         clear HB
         have BK131:=n0_
         have BK135:=n1_
         have HB:=n2_
         clear n0_ n1_ n2_
         refine start_ (n:=36) (S:=fun w' => w'.cell? ⟨gb135,0,none⟩ = some (.string ((rd_T86 l0_1 x3_2).f0)) ∧ w'.cell? ⟨gb135,1,none⟩ = some (.string ((rd_T86 l0_1 x3_2).f1)) ∧ w'.cell? ⟨gb135,2,none⟩ = some (.bool ((rd_T86 l0_1 x3_2).f2))) (ds:=[]) #[Z3,Z3,Z3,Z3,Z3,Z3,Z3,Z3,Z3,Z3,Z3,Z3,Z3,Z3,Z3,Z3,Z3,Z3,Z3,Z3,Z3,Z3,Z3,Z3,Z3,Z3,Z3,Z3,Z3,Z3,Z3,Z3,Z3,Z3,Z3,Z3] (by kernel_rfl) rfl rfl ⟨(blk_cell BK135.out 0).trans rfl,(blk_cell BK135.out 1).trans rfl,(blk_cell BK135.out 2).trans rfl⟩ (fun hHeld => ?_);refine with_tabW spec_BatchOk.tab7 spec_BatchOk.bits7 (fun HT_ HW_ => ?_)
         generalize w85.drew = w86 at BK131 BK135 HB hHeld ⊢
         refine pure_ (i:=0) (N:=some 28) (v:=?_) (a':=?_) #[Y3,Z3,Z3,Z3,Z3,Z3,Z3,Z3,Z3,Z3,Z3,Z3,Z3,Z3,Z3,Z3,Z3,Z3,Z3,Z3,Z3,Z3,Z3,Z3,Z3,Z3,Z3,Z3,Z3,Z3,Z3,Z3,Z3,Z3,Z3,Z3] rfl rfl (any_of HT_.out (by kernel_rfl)) (fun _ _ _ h => h) (Or.inl ⟨by rfl,?_⟩) ?_ ?_;rotate_left
         ·intro w';go_simp;with_reducible rfl
         rotate_left
         ·simp only [Act.put,q13,q23,q33,i64_w,i32_w];rfl
         refine take_ (i:=1) (N:=some 29) (v:=?_) (a':=?_) #[Y3,Y3,Z3,Z3,Z3,Z3,Z3,Z3,Z3,Z3,Z3,Z3,Z3,Z3,Z3,Z3,Z3,Z3,Z3,Z3,Z3,Z3,Z3,Z3,Z3,Z3,Z3,Z3,Z3,Z3,Z3,Z3,Z3,Z3,Z3,Z3] rfl rfl (take_ofW HT_.out HW_.out (by kernel_rfl)) (fun _ _ _ h => h) (Or.inl ⟨by rfl,?_⟩) hHeld ?_ ?_;rotate_left
         ·rintro w' ⟨s0,s1,s2⟩
          go_simp
          with_reducible rfl
         rotate_left
         ·simp only [Act.put,q13,q23,q33,i64_w,i32_w];rfl
         refine pure_ (i:=2) (N:=some 30) (v:=?_) (a':=?_) #[Y3,Y3,Y3,Z3,Z3,Z3,Z3,Z3,Z3,Z3,Z3,Z3,Z3,Z3,Z3,Z3,Z3,Z3,Z3,Z3,Z3,Z3,Z3,Z3,Z3,Z3,Z3,Z3,Z3,Z3,Z3,Z3,Z3,Z3,Z3,Z3] rfl rfl (any_of HT_.out (by kernel_rfl)) (fun _ _ _ h => h) (Or.inl ⟨by rfl,?_⟩) ?_ ?_;rotate_left
         ·intro w';go_simp;with_reducible rfl
         rotate_left
         ·simp only [Act.put,q13,q23,q33,i64_w,i32_w];rfl
         refine one_ (i:=3) (N:=some 31) #[Y3,Y3,Y3,Y3,Z3,Z3,Z3,Z3,Z3,Z3,Z3,Z3,Z3,Z3,Z3,Z3,Z3,Z3,Z3,Z3,Z3,Z3,Z3,Z3,Z3,Z3,Z3,Z3,Z3,Z3,Z3,Z3,Z3,Z3,Z3,Z3] rfl rfl (one_of HT_.out (by kernel_rfl)) (by decide) (fun K hK => ?_)
         refine goes_ Try.func43 (by kernel_rfl) rfl #[.int .i64 (((rd_T86 l0_1 x3_2).f0).size : Int),.int .i64 1,.int .i64 20] (by rfl) rfl rfl (by (try simp only [List.map_toArray,List.map_cons,List.map_nil]);first | done | rfl | (simp only [List.length_drop,List.length_take];rfl)) ?_
         with_reducible refine (spec_l01In.calls (((rd_T86 l0_1 x3_2).f0).size : Int) 1 20 false _ A12.out).mono ?_
         rintro e w' ⟨rfl,⟨nd,rfl⟩⟩
         refine ⟨_,rfl,?_⟩
         refine hK.out _ _ ⟨(blk_cell BK135.out 0).trans rfl,(blk_cell BK135.out 1).trans rfl,(blk_cell BK135.out 2).trans rfl⟩ (fun hHeld => ?_)
         clear hK K
         refine norm_ (a':=?_) ?_ ?_;rotate_left
         ·show Act.put _ (some 31) _ = _;simp only [Act.put,q13,q23,q33,i64_w,i32_w];rfl
         refine pure_ (i:=4) (N:=some 32) (v:=?_) (a':=?_) #[Y3,Y3,Y3,Y3,Y3,Z3,Z3,Z3,Z3,Z3,Z3,Z3,Z3,Z3,Z3,Z3,Z3,Z3,Z3,Z3,Z3,Z3,Z3,Z3,Z3,Z3,Z3,Z3,Z3,Z3,Z3,Z3,Z3,Z3,Z3,Z3] rfl rfl (any_of HT_.out (by kernel_rfl)) (fun _ _ _ h => h) (Or.inl ⟨by rfl,?_⟩) ?_ ?_;rotate_left
         ·intro w';go_simp;with_reducible rfl
         rotate_left
         ·simp only [Act.put,q13,q23,q33,i64_w,i32_w];rfl
         refine pure_ (i:=5) (N:=some 33) (v:=?_) (a':=?_) #[Y3,Y3,Y3,Y3,Y3,Y3,Z3,Z3,Z3,Z3,Z3,Z3,Z3,Z3,Z3,Z3,Z3,Z3,Z3,Z3,Z3,Z3,Z3,Z3,Z3,Z3,Z3,Z3,Z3,Z3,Z3,Z3,Z3,Z3,Z3,Z3] rfl rfl (any_of HT_.out (by kernel_rfl)) (fun _ _ _ h => h) (Or.inl ⟨by rfl,?_⟩) ?_ ?_;rotate_left
         ·intro w';go_simp;with_reducible rfl
         rotate_left
         ·simp only [Act.put,q13,q23,q33,i64_w,i32_w];rfl
         refine pure_ (i:=6) (N:=some 34) (v:=undef) (a':=?_) #[Y3,Y3,Y3,Y3,Y3,Y3,Y3,Z3,Z3,Z3,Z3,Z3,Z3,Z3,Z3,Z3,Z3,Z3,Z3,Z3,Z3,Z3,Z3,Z3,Z3,Z3,Z3,Z3,Z3,Z3,Z3,Z3,Z3,Z3,Z3,Z3] rfl rfl (any_of HT_.out (by kernel_rfl)) (fun _ _ _ h => h) (Or.inr ⟨by rfl,rfl⟩) ?_ ?_;rotate_left
         ·simp only [Act.put,q13,q23,q33,i64_w,i32_w];rfl
         refine pure_ (i:=7) (N:=some 35) (v:=undef) (a':=?_) #[Y3,Y3,Y3,Y3,Y3,Y3,Y3,Y3,Z3,Z3,Z3,Z3,Z3,Z3,Z3,Z3,Z3,Z3,Z3,Z3,Z3,Z3,Z3,Z3,Z3,Z3,Z3,Z3,Z3,Z3,Z3,Z3,Z3,Z3,Z3,Z3] rfl rfl (any_of HT_.out (by kernel_rfl)) (fun _ _ _ h => h) (Or.inr ⟨by rfl,rfl⟩) ?_ ?_;rotate_left
         ·simp only [Act.put,q13,q23,q33,i64_w,i32_w];rfl
         refine pure_ (i:=8) (N:=some 36) (v:=undef) (a':=?_) #[Y3,Y3,Y3,Y3,Y3,Y3,Y3,Y3,Y3,Z3,Z3,Z3,Z3,Z3,Z3,Z3,Z3,Z3,Z3,Z3,Z3,Z3,Z3,Z3,Z3,Z3,Z3,Z3,Z3,Z3,Z3,Z3,Z3,Z3,Z3,Z3] rfl rfl (any_of HT_.out (by kernel_rfl)) (fun _ _ _ h => h) (Or.inr ⟨by rfl,rfl⟩) ?_ ?_;rotate_left
         ·simp only [Act.put,q13,q23,q33,i64_w,i32_w];rfl
         refine pure_ (i:=9) (N:=some 37) (v:=undef) (a':=?_) #[Y3,Y3,Y3,Y3,Y3,Y3,Y3,Y3,Y3,Y3,Z3,Z3,Z3,Z3,Z3,Z3,Z3,Z3,Z3,Z3,Z3,Z3,Z3,Z3,Z3,Z3,Z3,Z3,Z3,Z3,Z3,Z3,Z3,Z3,Z3,Z3] rfl rfl (any_of HT_.out (by kernel_rfl)) (fun _ _ _ h => h) (Or.inr ⟨by rfl,rfl⟩) ?_ ?_;rotate_left
         ·simp only [Act.put,q13,q23,q33,i64_w,i32_w];rfl
         refine pure_ (i:=10) (N:=some 38) (v:=undef) (a':=?_) #[Y3,Y3,Y3,Y3,Y3,Y3,Y3,Y3,Y3,Y3,Y3,Z3,Z3,Z3,Z3,Z3,Z3,Z3,Z3,Z3,Z3,Z3,Z3,Z3,Z3,Z3,Z3,Z3,Z3,Z3,Z3,Z3,Z3,Z3,Z3,Z3] rfl rfl (any_of HT_.out (by kernel_rfl)) (fun _ _ _ h => h) (Or.inr ⟨by rfl,rfl⟩) ?_ ?_;rotate_left
         ·simp only [Act.put,q13,q23,q33,i64_w,i32_w];rfl
         refine pure_ (i:=11) (N:=some 39) (v:=undef) (a':=?_) #[Y3,Y3,Y3,Y3,Y3,Y3,Y3,Y3,Y3,Y3,Y3,Y3,Z3,Z3,Z3,Z3,Z3,Z3,Z3,Z3,Z3,Z3,Z3,Z3,Z3,Z3,Z3,Z3,Z3,Z3,Z3,Z3,Z3,Z3,Z3,Z3] rfl rfl (any_of HT_.out (by kernel_rfl)) (fun _ _ _ h => h) (Or.inr ⟨by rfl,rfl⟩) ?_ ?_;rotate_left
         ·simp only [Act.put,q13,q23,q33,i64_w,i32_w];rfl
         refine pure_ (i:=12) (N:=some 40) (v:=undef) (a':=?_) #[Y3,Y3,Y3,Y3,Y3,Y3,Y3,Y3,Y3,Y3,Y3,Y3,Y3,Z3,Z3,Z3,Z3,Z3,Z3,Z3,Z3,Z3,Z3,Z3,Z3,Z3,Z3,Z3,Z3,Z3,Z3,Z3,Z3,Z3,Z3,Z3] rfl rfl (any_of HT_.out (by kernel_rfl)) (fun _ _ _ h => h) (Or.inr ⟨by rfl,rfl⟩) ?_ ?_;rotate_left
         ·simp only [Act.put,q13,q23,q33,i64_w,i32_w];rfl
         refine pure_ (i:=13) (N:=some 41) (v:=undef) (a':=?_) #[Y3,Y3,Y3,Y3,Y3,Y3,Y3,Y3,Y3,Y3,Y3,Y3,Y3,Y3,Z3,Z3,Z3,Z3,Z3,Z3,Z3,Z3,Z3,Z3,Z3,Z3,Z3,Z3,Z3,Z3,Z3,Z3,Z3,Z3,Z3,Z3] rfl rfl (any_of HT_.out (by kernel_rfl)) (fun _ _ _ h => h) (Or.inr ⟨by rfl,rfl⟩) ?_ ?_;rotate_left
         ·simp only [Act.put,q13,q23,q33,i64_w,i32_w];rfl
         refine pure_ (i:=14) (N:=some 42) (v:=undef) (a':=?_) #[Y3,Y3,Y3,Y3,Y3,Y3,Y3,Y3,Y3,Y3,Y3,Y3,Y3,Y3,Y3,Z3,Z3,Z3,Z3,Z3,Z3,Z3,Z3,Z3,Z3,Z3,Z3,Z3,Z3,Z3,Z3,Z3,Z3,Z3,Z3,Z3] rfl rfl (any_of HT_.out (by kernel_rfl)) (fun _ _ _ h => h) (Or.inr ⟨by rfl,rfl⟩) ?_ ?_;rotate_left
         ·simp only [Act.put,q13,q23,q33,i64_w,i32_w];rfl
         refine pure_ (i:=15) (N:=some 43) (v:=undef) (a':=?_) #[Y3,Y3,Y3,Y3,Y3,Y3,Y3,Y3,Y3,Y3,Y3,Y3,Y3,Y3,Y3,Y3,Z3,Z3,Z3,Z3,Z3,Z3,Z3,Z3,Z3,Z3,Z3,Z3,Z3,Z3,Z3,Z3,Z3,Z3,Z3,Z3] rfl rfl (any_of HT_.out (by kernel_rfl)) (fun _ _ _ h => h) (Or.inr ⟨by rfl,rfl⟩) ?_ ?_;rotate_left
         ·simp only [Act.put,q13,q23,q33,i64_w,i32_w];rfl
         refine pure_ (i:=16) (N:=some 44) (v:=undef) (a':=?_) #[Y3,Y3,Y3,Y3,Y3,Y3,Y3,Y3,Y3,Y3,Y3,Y3,Y3,Y3,Y3,Y3,Y3,Z3,Z3,Z3,Z3,Z3,Z3,Z3,Z3,Z3,Z3,Z3,Z3,Z3,Z3,Z3,Z3,Z3,Z3,Z3] rfl rfl (any_of HT_.out (by kernel_rfl)) (fun _ _ _ h => h) (Or.inr ⟨by rfl,rfl⟩) ?_ ?_;rotate_left
         ·simp only [Act.put,q13,q23,q33,i64_w,i32_w];rfl
         refine pure_ (i:=17) (N:=some 45) (v:=undef) (a':=?_) #[Y3,Y3,Y3,Y3,Y3,Y3,Y3,Y3,Y3,Y3,Y3,Y3,Y3,Y3,Y3,Y3,Y3,Y3,Z3,Z3,Z3,Z3,Z3,Z3,Z3,Z3,Z3,Z3,Z3,Z3,Z3,Z3,Z3,Z3,Z3,Z3] rfl rfl (any_of HT_.out (by kernel_rfl)) (fun _ _ _ h => h) (Or.inr ⟨by rfl,rfl⟩) ?_ ?_;rotate_left
         ·simp only [Act.put,q13,q23,q33,i64_w,i32_w];rfl
         refine pure_ (i:=18) (N:=some 46) (v:=undef) (a':=?_) #[Y3,Y3,Y3,Y3,Y3,Y3,Y3,Y3,Y3,Y3,Y3,Y3,Y3,Y3,Y3,Y3,Y3,Y3,Y3,Z3,Z3,Z3,Z3,Z3,Z3,Z3,Z3,Z3,Z3,Z3,Z3,Z3,Z3,Z3,Z3,Z3] rfl rfl (any_of HT_.out (by kernel_rfl)) (fun _ _ _ h => h) (Or.inr ⟨by rfl,rfl⟩) ?_ ?_;rotate_left
         ·simp only [Act.put,q13,q23,q33,i64_w,i32_w];rfl
         refine pure_ (i:=19) (N:=some 47) (v:=undef) (a':=?_) #[Y3,Y3,Y3,Y3,Y3,Y3,Y3,Y3,Y3,Y3,Y3,Y3,Y3,Y3,Y3,Y3,Y3,Y3,Y3,Y3,Z3,Z3,Z3,Z3,Z3,Z3,Z3,Z3,Z3,Z3,Z3,Z3,Z3,Z3,Z3,Z3] rfl rfl (any_of HT_.out (by kernel_rfl)) (fun _ _ _ h => h) (Or.inr ⟨by rfl,rfl⟩) ?_ ?_;rotate_left
         ·simp only [Act.put,q13,q23,q33,i64_w,i32_w];rfl
         refine pure_ (i:=20) (N:=some 48) (v:=?_) (a':=?_) #[Y3,Y3,Y3,Y3,Y3,Y3,Y3,Y3,Y3,Y3,Y3,Y3,Y3,Y3,Y3,Y3,Y3,Y3,Y3,Y3,Y3,Z3,Z3,Z3,Z3,Z3,Z3,Z3,Z3,Z3,Z3,Z3,Z3,Z3,Z3,Z3] rfl rfl (any_of HT_.out (by kernel_rfl)) (fun _ _ _ h => h) (Or.inl ⟨by rfl,?_⟩) ?_ ?_;rotate_left
         ·intro w';go_simp;with_reducible rfl
         rotate_left
         ·simp only [Act.put,q13,q23,q33,i64_w,i32_w];rfl
         refine pure_ (i:=21) (N:=some 49) (v:=?_) (a':=?_) #[Y3,Y3,Y3,Y3,Y3,Y3,Y3,Y3,Y3,Y3,Y3,Y3,Y3,Y3,Y3,Y3,Y3,Y3,Y3,Y3,Y3,Y3,Z3,Z3,Z3,Z3,Z3,Z3,Z3,Z3,Z3,Z3,Z3,Z3,Z3,Z3] rfl rfl (any_of HT_.out (by kernel_rfl)) (fun _ _ _ h => h) (Or.inl ⟨by rfl,?_⟩) ?_ ?_;rotate_left
         ·intro w';go_simp;with_reducible rfl
         rotate_left
         ·simp only [Act.put,q13,q23,q33,i64_w,i32_w];rfl
         refine pure_ (i:=22) (N:=some 50) (v:=undef) (a':=?_) #[Y3,Y3,Y3,Y3,Y3,Y3,Y3,Y3,Y3,Y3,Y3,Y3,Y3,Y3,Y3,Y3,Y3,Y3,Y3,Y3,Y3,Y3,Y3,Z3,Z3,Z3,Z3,Z3,Z3,Z3,Z3,Z3,Z3,Z3,Z3,Z3] rfl rfl (any_of HT_.out (by kernel_rfl)) (fun _ _ _ h => h) (Or.inr ⟨by rfl,rfl⟩) ?_ ?_;rotate_left
         ·simp only [Act.put,q13,q23,q33,i64_w,i32_w];rfl
         refine pure_ (i:=23) (N:=some 51) (v:=undef) (a':=?_) #[Y3,Y3,Y3,Y3,Y3,Y3,Y3,Y3,Y3,Y3,Y3,Y3,Y3,Y3,Y3,Y3,Y3,Y3,Y3,Y3,Y3,Y3,Y3,Y3,Z3,Z3,Z3,Z3,Z3,Z3,Z3,Z3,Z3,Z3,Z3,Z3] rfl rfl (any_of HT_.out (by kernel_rfl)) (fun _ _ _ h => h) (Or.inr ⟨by rfl,rfl⟩) ?_ ?_;rotate_left
         ·simp only [Act.put,q13,q23,q33,i64_w,i32_w];rfl
         refine pure_ (i:=24) (N:=some 52) (v:=undef) (a':=?_) #[Y3,Y3,Y3,Y3,Y3,Y3,Y3,Y3,Y3,Y3,Y3,Y3,Y3,Y3,Y3,Y3,Y3,Y3,Y3,Y3,Y3,Y3,Y3,Y3,Y3,Z3,Z3,Z3,Z3,Z3,Z3,Z3,Z3,Z3,Z3,Z3] rfl rfl (any_of HT_.out (by kernel_rfl)) (fun _ _ _ h => h) (Or.inr ⟨by rfl,rfl⟩) ?_ ?_;rotate_left
         ·simp only [Act.put,q13,q23,q33,i64_w,i32_w];rfl
         refine pure_ (i:=25) (N:=some 53) (v:=undef) (a':=?_) #[Y3,Y3,Y3,Y3,Y3,Y3,Y3,Y3,Y3,Y3,Y3,Y3,Y3,Y3,Y3,Y3,Y3,Y3,Y3,Y3,Y3,Y3,Y3,Y3,Y3,Y3,Z3,Z3,Z3,Z3,Z3,Z3,Z3,Z3,Z3,Z3] rfl rfl (any_of HT_.out (by kernel_rfl)) (fun _ _ _ h => h) (Or.inr ⟨by rfl,rfl⟩) ?_ ?_;rotate_left
         ·simp only [Act.put,q13,q23,q33,i64_w,i32_w];rfl
         refine pure_ (i:=26) (N:=some 54) (v:=?_) (a':=?_) #[Y3,Y3,Y3,Y3,Y3,Y3,Y3,Y3,Y3,Y3,Y3,Y3,Y3,Y3,Y3,Y3,Y3,Y3,Y3,Y3,Y3,Y3,Y3,Y3,Y3,Y3,Y3,Z3,Z3,Z3,Z3,Z3,Z3,Z3,Z3,Z3] rfl rfl (any_of HT_.out (by kernel_rfl)) (fun _ _ _ h => h) (Or.inl ⟨by rfl,?_⟩) ?_ ?_;rotate_left
         ·intro w';go_simp;with_reducible rfl
         rotate_left
         ·simp only [Act.put,q13,q23,q33,i64_w,i32_w];rfl
         refine pure_ (i:=27) (N:=some 55) (v:=?_) (a':=?_) #[Y3,Y3,Y3,Y3,Y3,Y3,Y3,Y3,Y3,Y3,Y3,Y3,Y3,Y3,Y3,Y3,Y3,Y3,Y3,Y3,Y3,Y3,Y3,Y3,Y3,Y3,Y3,Y3,Z3,Z3,Z3,Z3,Z3,Z3,Z3,Z3] rfl rfl (any_of HT_.out (by kernel_rfl)) (fun _ _ _ h => h) (Or.inl ⟨by rfl,?_⟩) ?_ ?_;rotate_left
         ·intro w';go_simp;with_reducible rfl
         rotate_left
         ·simp only [Act.put,q13,q23,q33,i64_w,i32_w];rfl
         refine pure_ (i:=28) (N:=some 56) (v:=undef) (a':=?_) #[Y3,Y3,Y3,Y3,Y3,Y3,Y3,Y3,Y3,Y3,Y3,Y3,Y3,Y3,Y3,Y3,Y3,Y3,Y3,Y3,Y3,Y3,Y3,Y3,Y3,Y3,Y3,Y3,Y3,Z3,Z3,Z3,Z3,Z3,Z3,Z3] rfl rfl (any_of HT_.out (by kernel_rfl)) (fun _ _ _ h => h) (Or.inr ⟨by rfl,rfl⟩) ?_ ?_;rotate_left
         ·simp only [Act.put,q13,q23,q33,i64_w,i32_w];rfl
         refine pure_ (i:=29) (N:=some 57) (v:=undef) (a':=?_) #[Y3,Y3,Y3,Y3,Y3,Y3,Y3,Y3,Y3,Y3,Y3,Y3,Y3,Y3,Y3,Y3,Y3,Y3,Y3,Y3,Y3,Y3,Y3,Y3,Y3,Y3,Y3,Y3,Y3,Y3,Z3,Z3,Z3,Z3,Z3,Z3] rfl rfl (any_of HT_.out (by kernel_rfl)) (fun _ _ _ h => h) (Or.inr ⟨by rfl,rfl⟩) ?_ ?_;rotate_left
         ·simp only [Act.put,q13,q23,q33,i64_w,i32_w];rfl
         refine pure_ (i:=30) (N:=some 58) (v:=undef) (a':=?_) #[Y3,Y3,Y3,Y3,Y3,Y3,Y3,Y3,Y3,Y3,Y3,Y3,Y3,Y3,Y3,Y3,Y3,Y3,Y3,Y3,Y3,Y3,Y3,Y3,Y3,Y3,Y3,Y3,Y3,Y3,Y3,Z3,Z3,Z3,Z3,Z3] rfl rfl (any_of HT_.out (by kernel_rfl)) (fun _ _ _ h => h) (Or.inr ⟨by rfl,rfl⟩) ?_ ?_;rotate_left
         ·simp only [Act.put,q13,q23,q33,i64_w,i32_w];rfl
         refine pure_ (i:=31) (N:=some 59) (v:=undef) (a':=?_) #[Y3,Y3,Y3,Y3,Y3,Y3,Y3,Y3,Y3,Y3,Y3,Y3,Y3,Y3,Y3,Y3,Y3,Y3,Y3,Y3,Y3,Y3,Y3,Y3,Y3,Y3,Y3,Y3,Y3,Y3,Y3,Y3,Z3,Z3,Z3,Z3] rfl rfl (any_of HT_.out (by kernel_rfl)) (fun _ _ _ h => h) (Or.inr ⟨by rfl,rfl⟩) ?_ ?_;rotate_left
         ·simp only [Act.put,q13,q23,q33,i64_w,i32_w];rfl
         refine pure_ (i:=32) (N:=some 60) (v:=undef) (a':=?_) #[Y3,Y3,Y3,Y3,Y3,Y3,Y3,Y3,Y3,Y3,Y3,Y3,Y3,Y3,Y3,Y3,Y3,Y3,Y3,Y3,Y3,Y3,Y3,Y3,Y3,Y3,Y3,Y3,Y3,Y3,Y3,Y3,Y3,Z3,Z3,Z3] rfl rfl (any_of HT_.out (by kernel_rfl)) (fun _ _ _ h => h) (Or.inr ⟨by rfl,rfl⟩) ?_ ?_;rotate_left
         ·simp only [Act.put,q13,q23,q33,i64_w,i32_w];rfl
         refine pure_ (i:=33) (N:=some 61) (v:=undef) (a':=?_) #[Y3,Y3,Y3,Y3,Y3,Y3,Y3,Y3,Y3,Y3,Y3,Y3,Y3,Y3,Y3,Y3,Y3,Y3,Y3,Y3,Y3,Y3,Y3,Y3,Y3,Y3,Y3,Y3,Y3,Y3,Y3,Y3,Y3,Y3,Z3,Z3] rfl rfl (any_of HT_.out (by kernel_rfl)) (fun _ _ _ h => h) (Or.inr ⟨by rfl,rfl⟩) ?_ ?_;rotate_left
         ·simp only [Act.put,q13,q23,q33,i64_w,i32_w];rfl
         refine pure_ (i:=34) (N:=some 62) (v:=undef) (a':=?_) #[Y3,Y3,Y3,Y3,Y3,Y3,Y3,Y3,Y3,Y3,Y3,Y3,Y3,Y3,Y3,Y3,Y3,Y3,Y3,Y3,Y3,Y3,Y3,Y3,Y3,Y3,Y3,Y3,Y3,Y3,Y3,Y3,Y3,Y3,Y3,Z3] rfl rfl (any_of HT_.out (by kernel_rfl)) (fun _ _ _ h => h) (Or.inr ⟨by rfl,rfl⟩) ?_ ?_;rotate_left
         ·simp only [Act.put,q13,q23,q33,i64_w,i32_w];rfl
         refine pure_ (i:=35) (N:=some 63) (v:=?_) (a':=?_) #[Y3,Y3,Y3,Y3,Y3,Y3,Y3,Y3,Y3,Y3,Y3,Y3,Y3,Y3,Y3,Y3,Y3,Y3,Y3,Y3,Y3,Y3,Y3,Y3,Y3,Y3,Y3,Y3,Y3,Y3,Y3,Y3,Y3,Y3,Y3,Y3] rfl rfl (any_of HT_.out (by kernel_rfl)) (fun _ _ _ h => h) (Or.inl ⟨by rfl,?_⟩) ?_ ?_;rotate_left
         ·intro w';go_simp;with_reducible rfl
         rotate_left
         ·simp only [Act.put,q13,q23,q33,i64_w,i32_w];rfl
         refine done_ (done_of HT_.out (by kernel_rfl)) ?_
         try go_wp2
         go_ret
         exact ⟨by first | rfl | (simp [errW_none,errW_some] <;> rfl) | (simp [*,errW_none,errW_some] <;> rfl),by repeat (first | (with_reducible first | exact HB.out | apply below_alloc | apply pw_below_drewN | apply below_drew1 | refine below_set ?_ GE131.out | refine below_set ?_ GE135.out) | exact HB.out)⟩
       ·rw [if_neg c11] at H
        exact absurd H (by simp)
      ·rw [if_neg c10] at H
       have c10b0 : decide (x3_2 < (l0_1.length : Int)) = false:=decide_eq_false c10
       clear c10
       obtain rfl:=Option.some.inj H
       have hcz87_0 : wr.cell? ⟨gb131,0,none⟩ = some (.int .i64 a0_0):=(blk_cell BK131.out 0).trans rfl
       have hcz87_1 : wr.cell? ⟨gb131,1,none⟩ = some (.slice A0_1 l0_1.length c0_1):=(blk_cell BK131.out 1).trans rfl
       have hfz87_0:=blk_frozen BK131.out 0
       have hfz87_1:=blk_frozen BK131.out 1
       go_wp2
       go_ret
       exact ⟨by first | rfl | (simp [errW_none,errW_some] <;> rfl) | (simp [*,errW_none,errW_some] <;> rfl),by repeat (first | (with_reducible first | exact HB.out | apply below_alloc | apply pw_below_drewN | apply below_drew1 | refine below_set ?_ GE131.out) | exact HB.out)⟩

end Go.Proofs.Ytliemdoegicbhaa.PFnExactBatchText
