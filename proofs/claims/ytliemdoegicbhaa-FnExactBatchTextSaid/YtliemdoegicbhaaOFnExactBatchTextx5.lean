/- Walks of functions that the law FnExactBatchText reaches, turned by this session from a print of which a part did not build; what was changed is listed in wip/patches of the proofs' repo. -/
import Derived.Test.YtliemdoegicbhaaOFnExactBatchTextx0
import Derived.Test.YtliemdoegicbhaaOFnExactBatchTextx4
namespace Go.Proofs.Ytliemdoegicbhaa.PFnExactBatchText
open Go.RowKit Go.Proofs.YtliemdoegicbhaaW.PrintWords Go.Proofs.YtliemdoegicbhaaW.PrintLast Go.Proofs.YtliemdoegicbhaaW.PrintMore
attribute [local go_sem] max2_int min2_int max_two min_two max_three min_three max_four min_four   -- for this text's walks alone
set_option linter.unusedVariables false
set_option linter.unusedSimpArgs false

theorem q15 {α : Type} (l : List α) (i : Nat) (a : α) : l.toArray.setIfInBounds i a = (l.set i a).toArray := by simp
theorem q25 {α : Type} (x y : α) (l : List α) : (x :: l).set 0 y = y :: l := List.set_cons_zero ..
theorem q35 {α : Type} (x y : α) (l : List α) (n : Nat) : (x :: l).set (n + 1) y = x :: l.set n y := List.set_cons_succ ..

abbrev Y5:Bool:=true
abbrev Z5:Bool:=false
/-! ### impl_BatchOk: function 24 -/
def impl_BatchOk.l0 : Nat → List (S86) → Int → Int → Int → List (S86) → Option (Bool)
 | 0,_,_,_,_,_ => none
 | k + 1,x6,x7,x8,x168000,x168001 => if x8 < x7 then (if 0 ≤ x8 then (if x8 < (x6.length : Int) then ((impl_keyOk.f ((rd_T86 x6 x8).f0)).bind fun t170 => (if t170 = true then (if (((rd_T86 x6 x8).f1).size : Int) > 2000 then (some false) else (if (rd_T86 x6 x8).f2 = true then (if ((rd_T86 x6 x8).f1).toList = ([] : List UInt8) then (if x8 > 0 then (if 0 ≤ (wrap64 (x8 - 1)) then (if (wrap64 (x8 - 1)) < (x168001.length : Int) then (if ((Op.bytesLess (((rd_T86 x168001 (wrap64 (x8 - 1))).f0).toList) (((rd_T86 x6 x8).f0).toList)) = true) then (impl_BatchOk.l0 k x6 x7 (wrap64 (x8 + 1)) x168000 x168001) else (some false)) else (none)) else (none)) else (impl_BatchOk.l0 k x6 x7 (wrap64 (x8 + 1)) x168000 x168001)) else (some false)) else (if x8 > 0 then (if 0 ≤ (wrap64 (x8 - 1)) then (if (wrap64 (x8 - 1)) < (x168001.length : Int) then (if ((Op.bytesLess (((rd_T86 x168001 (wrap64 (x8 - 1))).f0).toList) (((rd_T86 x6 x8).f0).toList)) = true) then (impl_BatchOk.l0 k x6 x7 (wrap64 (x8 + 1)) x168000 x168001) else (some false)) else (none)) else (none)) else (impl_BatchOk.l0 k x6 x7 (wrap64 (x8 + 1)) x168000 x168001)))) else (some false))) else (none)) else (none)) else ((impl_within.f x168000 0 1000000000).bind fun t173 => (if t173 = true then ((impl_within.f (x168001.length : Int) 1 40).bind fun t174 => (some t174)) else (some false)))
def impl_BatchOk.f (k : Nat) (a0_0 : Int) (l0_1 : List (S86)) : Option (Bool):=impl_BatchOk.l0 k l0_1 (l0_1.length : Int) 0 a0_0 l0_1
theorem impl_BatchOk.mono_l : ∀ k,(∀ y0 y1 y2 y3 y4,LeO (impl_BatchOk.l0 k y0 y1 y2 y3 y4) (impl_BatchOk.l0 (k + 1) y0 y1 y2 y3 y4))
 | 0 => fun _ _ _ _ _ r h => by simp [impl_BatchOk.l0] at h
 | k + 1 => by
  have ih0:=impl_BatchOk.mono_l k
  ·intro y0 y1 y2 y3 y4
   unfold impl_BatchOk.l0
   repeat' first
   | (with_reducible exact ih0 _ _ _ _ _)
   | (with_reducible exact LeO.refl _)
   | (with_reducible exact LeO.none _)
   | (with_reducible refine LeO.ite ?_ ?_)
   | (with_reducible refine LeO.bind ?_ (fun _ => ?_))
   | exact ih0 _ _ _ _ _
   | exact LeO.none _
   | refine LeO.ite ?_ ?_
   | refine LeO.bind ?_ (fun _ => ?_)
theorem impl_BatchOk.mono : ∀ a0 a1 k,LeO (impl_BatchOk.f k a0 a1) (impl_BatchOk.f (k + 1) a0 a1):=by
 intro a0 a1 k
 have ih0:=impl_BatchOk.mono_l k
 unfold impl_BatchOk.f
 repeat' first
   | (with_reducible exact ih0 _ _ _ _ _)
   | (with_reducible exact LeO.refl _)
   | (with_reducible exact LeO.none _)
   | (with_reducible refine LeO.ite ?_ ?_)
   | (with_reducible refine LeO.bind ?_ (fun _ => ?_))
   | exact ih0 _ _ _ _ _
   | exact LeO.none _
   | refine LeO.ite ?_ ?_
   | refine LeO.bind ?_ (fun _ => ?_)
def impl_BatchOk.T4 : Bool × List (List Nat × List Nat):=(true,[([],[]),([0],[0]),([1],[1]),([2],[2]),([3,2],[3]),([4],[4]),([5,4],[4,5]),([6,4],[4,6]),([7,4],[4,7]),([4,8],[4,8]),([9,4],[9]),([10],[10]),([11,10],[10,11]),([12,10,10],[10,12]),([13],[13]),([14,13],[13,14]),([15,13],[13,15]),([13,16,10],[10,13,16]),([10,17],[10,17]),([18,13],[18]),([19],[19]),([20,19],[19,20]),([21,19,19],[19,21]),([22],[22]),([23,22],[22,23]),([22],[22]),([25,22],[22,25]),([24,26,22],[22,24,26]),([27,22],[22,27]),([28,22],[22,28]),([22],[22]),([30,22],[22,30]),([29,31,22],[22,29,31]),([22,32,19],[19,22,32]),([19,33],[19,33])])
def impl_BatchOk.B4 : List Nat:=[0,1,3,7,15,31,63,127,255,511,1023,2047,4095,8191,16383,32767,65535,131071,262143,524287,1048575,2097151,4194303,8388607,16777215,8388607,41943039,134217727,268435455,536870911,8388607,1082130431,4294967295,8589934591,17179869183]
theorem impl_BatchOk.tab4 : rtab .any (opsOf Try.f24 4) = impl_BatchOk.T4:=by kernel_rfl
theorem impl_BatchOk.bits4 : waitsOk impl_BatchOk.T4.2 impl_BatchOk.B4 = true:=by kernel_rfl
set_option maxHeartbeats 8000000 in
set_option maxRecDepth 100000 in
theorem impl_BatchOk.calls (k : Nat) (a0_0 : Int) (A0_1 : Option Addr) (c0_1 : Nat) (l0_1 : List (S86)) (r : Bool) (w : World) (hr0_1 : Kd.C k86 w A0_1 l0_1.length l0_1) (hc0_1 : l0_1.length ≤ c0_1) (h : impl_BatchOk.f k a0_0 l0_1 = some r) :
  Calls Try.prog 24 #[.agg #[.int .i64 a0_0,.slice A0_1 l0_1.length c0_1]] w fun e w' => e = .returned (.bool r) ∧ Below w.heap.size w w':=by
 have hu47:=Try.underlying47
 have hu86:=Try.underlying86
 have HR0_1:=Aside0.mk hr0_1
 have HC0_1:=Aside0.mk hc0_1
 clear hr0_1 hc0_1
 have HB:=Aside0.mk (Below.refl w.heap.size w)
 have H : (impl_BatchOk.l0 k l0_1 (l0_1.length : Int) 0 a0_0 l0_1) = some r:=h
 clear h
 have H':=Aside0.mk H
 clear H
 go_enter Try.func24,Try.ntmps24
 go_wp2_with (first | ((with_reducible refine gate_dst (N:=1) rfl ?_);(try (refine gate_guard (by rfl) ?_;dsimp only));refine box_event ?hg (N:=1) ?hd (cs:=#[.int .i64 a0_0,.slice A0_1 l0_1.length c0_1]) (t:=47) ?hr ?_;(case hd => rfl);(case hg => rfl);(case hr => first | (go_simp;done) | (go_simp;rfl));intro gb167 hg w2 hbox hb;have n0_:=Aside0.mk (below_step (by repeat (first | (with_reducible first | exact HB.out | apply below_alloc | apply pw_below_drewN | apply below_drew1) | exact HB.out)) hb);have n1_:=Aside0.mk (hbox);have n2_:=Aside0.mk ((by rw [hg];exact (below_size (by repeat (first | (with_reducible first | exact HB.out | apply below_alloc | apply pw_below_drewN | apply below_drew1) | exact HB.out))) : w.heap.size ≤ gb167));have n3_:=Aside0.mk ((by rw [hg];exact (below_size (by repeat (first | (with_reducible first | exact HB.out | apply below_alloc | apply pw_below_drewN | apply below_drew1) | exact HB.out))) : w.heap.size ≤ gb167));clear HB;have HB:=n0_;have BK167:=n1_;have GW167:=n2_;have GE167:=n3_;clear n0_ n1_ n2_ n3_;clear hb hbox hg;have hcz3_0 : w2.cell? ⟨gb167,0,none⟩ = some (.int .i64 a0_0):=(blk_cell BK167.out 0).trans rfl;have hcz3_1 : w2.cell? ⟨gb167,1,none⟩ = some (.slice A0_1 l0_1.length c0_1):=(blk_cell BK167.out 1).trans rfl;have hfz3_0:=blk_frozen BK167.out 0;have hfz3_1:=blk_frozen BK167.out 1))
 go_loopg [8] k (fun kq v8 w' => ∃ (x8_1 : Int),v8 = .int .i64 x8_1 ∧ Aside0 (impl_BatchOk.l0 kq l0_1 (l0_1.length : Int) x8_1 a0_0 l0_1 = some r) ∧ Aside0 (kq ≤ k) ∧ Aside0 (w'.heap[gb167]? = some (.cells #[.int .i64 a0_0,(.slice A0_1 l0_1.length c0_1)] 47 (0,0))) ∧ Aside0 (Below w.heap.size w w'))
 case atStart => exact ⟨(0),(by first | rfl | (simp;done) | (simp [*];done)),H',⟨Nat.le_refl _⟩,⟨by (with_reducible repeat (first | refine blk_drewN ?_ _ | refine blk_drew ?_ | refine blk_alloc ?_ _));exact BK167.out⟩,⟨by repeat (first | (with_reducible first | exact HB.out | apply below_alloc | apply pw_below_drewN | apply below_drew1 | refine below_set ?_ GE167.out) | exact HB.out)⟩⟩
 case round =>
  clear H'
  try clear c2
  try clear p2
  try clear hcz3_0
  try clear hcz3_1
  try clear hfz3_0
  try clear hfz3_1
  obtain ⟨x8_1,rfl,HA,HK1,BK167,HB⟩:=hrel
  cases gk with
  | zero => exact absurd HA.out (by simp [impl_BatchOk.l0])
  | succ k1 =>
   have H:=HA.out
   clear HA
   simp only [impl_BatchOk.l0] at H
   by_cases c4 : x8_1 < (l0_1.length : Int)
   ·rw [if_pos c4] at H
    have c4b0 : decide (x8_1 < (l0_1.length : Int)) = true:=decide_eq_true c4
    clear c4
    by_cases c5 : 0 ≤ x8_1
    ·rw [if_pos c5] at H
     have c5b0 : decide (0 ≤ x8_1) = true:=decide_eq_true c5
     clear c5
     by_cases c6 : x8_1 < (l0_1.length : Int)
     ·rw [if_pos c6] at H
      have c6b0 : decide (x8_1 < (l0_1.length : Int)) = true:=decide_eq_true c6
      clear c6
      replace H:=Option.bind_eq_some_iff.mp H
      obtain ⟨t170,A70,H⟩:=H
      replace H : (if t170 = true then (if (((rd_T86 l0_1 x8_1).f1).size : Int) > 2000 then (some false) else (if (rd_T86 l0_1 x8_1).f2 = true then (if ((rd_T86 l0_1 x8_1).f1).toList = ([] : List UInt8) then (if x8_1 > 0 then (if 0 ≤ (wrap64 (x8_1 - 1)) then (if (wrap64 (x8_1 - 1)) < (l0_1.length : Int) then (if ((Op.bytesLess (((rd_T86 l0_1 (wrap64 (x8_1 - 1))).f0).toList) (((rd_T86 l0_1 x8_1).f0).toList)) = true) then (impl_BatchOk.l0 k1 l0_1 (l0_1.length : Int) (wrap64 (x8_1 + 1)) a0_0 l0_1) else (some false)) else (none)) else (none)) else (impl_BatchOk.l0 k1 l0_1 (l0_1.length : Int) (wrap64 (x8_1 + 1)) a0_0 l0_1)) else (some false)) else (if x8_1 > 0 then (if 0 ≤ (wrap64 (x8_1 - 1)) then (if (wrap64 (x8_1 - 1)) < (l0_1.length : Int) then (if ((Op.bytesLess (((rd_T86 l0_1 (wrap64 (x8_1 - 1))).f0).toList) (((rd_T86 l0_1 x8_1).f0).toList)) = true) then (impl_BatchOk.l0 k1 l0_1 (l0_1.length : Int) (wrap64 (x8_1 + 1)) a0_0 l0_1) else (some false)) else (none)) else (none)) else (impl_BatchOk.l0 k1 l0_1 (l0_1.length : Int) (wrap64 (x8_1 + 1)) a0_0 l0_1)))) else (some false)) = some r:=H
      have A7:=Aside0.mk A70
      clear A70
      by_cases c8 : t170 = true
      ·subst c8
       have H1 : (if (((rd_T86 l0_1 x8_1).f1).size : Int) > 2000 then (some false) else (if (rd_T86 l0_1 x8_1).f2 = true then (if ((rd_T86 l0_1 x8_1).f1).toList = ([] : List UInt8) then (if x8_1 > 0 then (if 0 ≤ (wrap64 (x8_1 - 1)) then (if (wrap64 (x8_1 - 1)) < (l0_1.length : Int) then (if ((Op.bytesLess (((rd_T86 l0_1 (wrap64 (x8_1 - 1))).f0).toList) (((rd_T86 l0_1 x8_1).f0).toList)) = true) then (impl_BatchOk.l0 k1 l0_1 (l0_1.length : Int) (wrap64 (x8_1 + 1)) a0_0 l0_1) else (some false)) else (none)) else (none)) else (impl_BatchOk.l0 k1 l0_1 (l0_1.length : Int) (wrap64 (x8_1 + 1)) a0_0 l0_1)) else (some false)) else (if x8_1 > 0 then (if 0 ≤ (wrap64 (x8_1 - 1)) then (if (wrap64 (x8_1 - 1)) < (l0_1.length : Int) then (if ((Op.bytesLess (((rd_T86 l0_1 (wrap64 (x8_1 - 1))).f0).toList) (((rd_T86 l0_1 x8_1).f0).toList)) = true) then (impl_BatchOk.l0 k1 l0_1 (l0_1.length : Int) (wrap64 (x8_1 + 1)) a0_0 l0_1) else (some false)) else (none)) else (none)) else (impl_BatchOk.l0 k1 l0_1 (l0_1.length : Int) (wrap64 (x8_1 + 1)) a0_0 l0_1)))) = some r:=by rw [if_pos rfl] at H;exact H
       clear H
       have H:=H1
       clear H1
       by_cases c9 : (((rd_T86 l0_1 x8_1).f1).size : Int) > 2000
       ·rw [if_pos c9] at H
        have c9b0 : decide (2000 < (((rd_T86 l0_1 x8_1).f1).size : Int)) = true:=decide_eq_true c9
        have c9b1 : decide (2000 < ((rd_T86 l0_1 x8_1).f1).size) = true:=decide_eq_true (by omega)
        clear c9
        obtain rfl:=Option.some.inj H
        have p168 : 0 ≤ (x8_1 : Int):=of_decide_eq_true (by first | (with_reducible assumption) | assumption)
        have q168 : x8_1 < (l0_1.length : Int):=of_decide_eq_true (by first | (with_reducible assumption) | assumption)
        obtain ⟨ad168,e168,hx168_0,hx168_1,hx168_2⟩:=at_T86 HR0_1.out x8_1 p168 q168
        cases e168
        replace hx168_0:=(HB.out.cell (World.block_lt_of_cell? w _ hx168_0)).trans hx168_0
        replace hx168_1:=(HB.out.cell (World.block_lt_of_cell? w _ hx168_1)).trans hx168_1
        replace hx168_2:=(HB.out.cell (World.block_lt_of_cell? w _ hx168_2)).trans hx168_2
        replace p168:=eq_true p168
        replace q168:=eq_true q168
        try go_wp2_with (first | ((with_reducible refine gate_dst (N:=4) rfl ?_);(try (refine gate_guard (by rfl) ?_;dsimp only));refine box_event ?hg (N:=4) ?hd (cs:=#[.string (⟨#[]⟩ : ByteArray),.string (⟨#[]⟩ : ByteArray),.bool false]) (t:=86) ?hr ?_;(case hd => rfl);(case hg => rfl);(case hr => first | (go_simp;done) | (go_simp;rfl));intro gb169 hg w10 hbox hb;have n0_:=Aside0.mk (blk_below (g:=gb167) (o:=.cells #[.int .i64 a0_0,.slice (some ad168) l0_1.length c0_1] 47 (0,0)) (by (with_reducible repeat (first | refine blk_drewN ?_ _ | refine blk_drew ?_ | refine blk_alloc ?_ _));exact BK167.out) hb);have n1_:=Aside0.mk (below_step (by repeat (first | (with_reducible first | exact HB.out | apply below_alloc | apply pw_below_drewN | apply below_drew1 | refine below_set ?_ GE167.out) | exact HB.out)) hb);have n2_:=Aside0.mk (hbox);have n3_:=Aside0.mk ((by rw [hg];exact (below_size (by repeat (first | (with_reducible first | exact HB.out | apply below_alloc | apply pw_below_drewN | apply below_drew1 | refine below_set ?_ GE167.out) | exact HB.out))) : w.heap.size ≤ gb169));have n4_:=Aside0.mk ((by rw [hg];exact (below_size (by repeat (first | (with_reducible first | exact HB.out | apply below_alloc | apply pw_below_drewN | apply below_drew1 | refine below_set ?_ GE167.out) | exact HB.out))) : w.heap.size ≤ gb169));have n5_:=Aside0.mk ((by rw [hg];exact Nat.ne_of_lt (blk_lt (g:=gb167) (o:=.cells #[.int .i64 a0_0,.slice (some ad168) l0_1.length c0_1] 47 (0,0)) (by (with_reducible repeat (first | refine blk_drewN ?_ _ | refine blk_drew ?_ | refine blk_alloc ?_ _));exact BK167.out)) : gb167 ≠ gb169));have n6_:=Aside0.mk ((by rw [hg];exact Nat.ne_of_gt (blk_lt (g:=gb167) (o:=.cells #[.int .i64 a0_0,.slice (some ad168) l0_1.length c0_1] 47 (0,0)) (by (with_reducible repeat (first | refine blk_drewN ?_ _ | refine blk_drew ?_ | refine blk_alloc ?_ _));exact BK167.out)) : gb169 ≠ gb167));clear BK167;clear HB;have BK167:=n0_;have HB:=n1_;have BK169:=n2_;have GW169:=n3_;have GE169:=n4_;have NB167_169:=n5_;have NB169_167:=n6_;clear n0_ n1_ n2_ n3_ n4_ n5_ n6_;clear hb hbox hg;have hnb11:=NB169_167.out;have hnc11:=NB167_169.out;have hcz12_0 : w10.cell? ⟨gb169,0,none⟩ = some (.string (⟨#[]⟩ : ByteArray)):=(blk_cell BK169.out 0).trans rfl;have hcz12_1 : w10.cell? ⟨gb169,1,none⟩ = some (.string (⟨#[]⟩ : ByteArray)):=(blk_cell BK169.out 1).trans rfl;have hcz12_2 : w10.cell? ⟨gb169,2,none⟩ = some (.bool false):=(blk_cell BK169.out 2).trans rfl;have hfz12_0:=blk_frozen BK169.out 0;have hfz12_1:=blk_frozen BK169.out 1;have hfz12_2:=blk_frozen BK169.out 2))
        have n0_ : Aside0 ((((w10.setCell ⟨gb169,0,none⟩ (.string ((rd_T86 l0_1 x8_1).f0))).setCell ⟨gb169,1,none⟩ (.string ((rd_T86 l0_1 x8_1).f1))).setCell ⟨gb169,2,none⟩ (.bool ((rd_T86 l0_1 x8_1).f2))).heap[gb167]? = some (.cells #[.int .i64 a0_0,.slice (some ad168) l0_1.length c0_1] 47 (0,0))):=⟨by (with_reducible repeat (first | refine blk_drewN ?_ _ | refine blk_drew ?_ | refine blk_alloc ?_ _));refine blk_far ?_ NB167_169.out _;(with_reducible repeat (first | refine blk_drewN ?_ _ | refine blk_drew ?_ | refine blk_alloc ?_ _));refine blk_far ?_ NB167_169.out _;(with_reducible repeat (first | refine blk_drewN ?_ _ | refine blk_drew ?_ | refine blk_alloc ?_ _));refine blk_far ?_ NB167_169.out _;(with_reducible repeat (first | refine blk_drewN ?_ _ | refine blk_drew ?_ | refine blk_alloc ?_ _));exact BK167.out⟩
        have n1_ : Aside0 ((((w10.setCell ⟨gb169,0,none⟩ (.string ((rd_T86 l0_1 x8_1).f0))).setCell ⟨gb169,1,none⟩ (.string ((rd_T86 l0_1 x8_1).f1))).setCell ⟨gb169,2,none⟩ (.bool ((rd_T86 l0_1 x8_1).f2))).heap[gb169]? = some (.cells #[.string ((rd_T86 l0_1 x8_1).f0),.string ((rd_T86 l0_1 x8_1).f1),.bool ((rd_T86 l0_1 x8_1).f2)] 86 (0,0))):=⟨by (with_reducible repeat (first | refine blk_drewN ?_ _ | refine blk_drew ?_ | refine blk_alloc ?_ _));refine blk_put (cs:=#[.string ((rd_T86 l0_1 x8_1).f0),.string ((rd_T86 l0_1 x8_1).f1),.bool false]) ?_ 2 _ rfl;(with_reducible repeat (first | refine blk_drewN ?_ _ | refine blk_drew ?_ | refine blk_alloc ?_ _));refine blk_put (cs:=#[.string ((rd_T86 l0_1 x8_1).f0),.string (⟨#[]⟩ : ByteArray),.bool false]) ?_ 1 _ rfl;(with_reducible repeat (first | refine blk_drewN ?_ _ | refine blk_drew ?_ | refine blk_alloc ?_ _));refine blk_put (cs:=#[.string (⟨#[]⟩ : ByteArray),.string (⟨#[]⟩ : ByteArray),.bool false]) ?_ 0 _ rfl;(with_reducible repeat (first | refine blk_drewN ?_ _ | refine blk_drew ?_ | refine blk_alloc ?_ _));exact BK169.out⟩
        have n2_ : Aside0 (Below w.heap.size w (((w10.setCell ⟨gb169,0,none⟩ (.string ((rd_T86 l0_1 x8_1).f0))).setCell ⟨gb169,1,none⟩ (.string ((rd_T86 l0_1 x8_1).f1))).setCell ⟨gb169,2,none⟩ (.bool ((rd_T86 l0_1 x8_1).f2)))):=⟨by repeat (first | (with_reducible first | exact HB.out | apply below_alloc | apply pw_below_drewN | apply below_drew1 | refine below_set ?_ GE167.out | refine below_set ?_ GE169.out) | exact HB.out)⟩
        (try clear BK167)
        (try clear BK169)
        (try clear HB)
        generalize (((w10.setCell ⟨gb169,0,none⟩ (.string ((rd_T86 l0_1 x8_1).f0))).setCell ⟨gb169,1,none⟩ (.string ((rd_T86 l0_1 x8_1).f1))).setCell ⟨gb169,2,none⟩ (.bool ((rd_T86 l0_1 x8_1).f2))) = w13 at n0_ n1_ n2_ ⊢
        have BK167:=n0_
        have BK169:=n1_
        have HB:=n2_
        clear n0_ n1_ n2_
        have n0_:=Aside0.mk (blk_drew BK167.out)
        have n1_:=Aside0.mk (blk_drew BK169.out)
        have n2_:=Aside0.mk (below_drew1 HB.out)
        clear BK167
        clear BK169
        clear HB
        have BK167:=n0_
        have BK169:=n1_
        have HB:=n2_
        clear n0_ n1_ n2_
        refine start_ (n:=35) (S:=fun w' => w'.cell? ⟨gb169,0,none⟩ = some (.string ((rd_T86 l0_1 x8_1).f0)) ∧ w'.cell? ⟨gb169,1,none⟩ = some (.string ((rd_T86 l0_1 x8_1).f1)) ∧ w'.cell? ⟨gb169,2,none⟩ = some (.bool ((rd_T86 l0_1 x8_1).f2))) (ds:=[]) #[Z5,Z5,Z5,Z5,Z5,Z5,Z5,Z5,Z5,Z5,Z5,Z5,Z5,Z5,Z5,Z5,Z5,Z5,Z5,Z5,Z5,Z5,Z5,Z5,Z5,Z5,Z5,Z5,Z5,Z5,Z5,Z5,Z5,Z5,Z5] (by kernel_rfl) rfl rfl ⟨(blk_cell BK169.out 0).trans rfl,(blk_cell BK169.out 1).trans rfl,(blk_cell BK169.out 2).trans rfl⟩ (fun hHeld => ?_);refine with_tabW impl_BatchOk.tab4 impl_BatchOk.bits4 (fun HT_ HW_ => ?_)
        generalize w13.drew = w14 at BK167 BK169 HB hHeld ⊢
        refine pure_ (i:=0) (N:=some 13) (v:=?_) (a':=?_) #[Y5,Z5,Z5,Z5,Z5,Z5,Z5,Z5,Z5,Z5,Z5,Z5,Z5,Z5,Z5,Z5,Z5,Z5,Z5,Z5,Z5,Z5,Z5,Z5,Z5,Z5,Z5,Z5,Z5,Z5,Z5,Z5,Z5,Z5,Z5] rfl rfl (any_of HT_.out (by kernel_rfl)) (fun _ _ _ h => h) (Or.inl ⟨by rfl,?_⟩) ?_ ?_;rotate_left
        ·intro w';go_simp;with_reducible rfl
        rotate_left
        ·simp only [Act.put,q15,q25,q35,i64_w,i32_w];rfl
        refine take_ (i:=1) (N:=some 14) (v:=?_) (a':=?_) #[Y5,Y5,Z5,Z5,Z5,Z5,Z5,Z5,Z5,Z5,Z5,Z5,Z5,Z5,Z5,Z5,Z5,Z5,Z5,Z5,Z5,Z5,Z5,Z5,Z5,Z5,Z5,Z5,Z5,Z5,Z5,Z5,Z5,Z5,Z5] rfl rfl (take_ofW HT_.out HW_.out (by kernel_rfl)) (fun _ _ _ h => h) (Or.inl ⟨by rfl,?_⟩) hHeld ?_ ?_;rotate_left
        ·rintro w' ⟨s0,s1,s2⟩
         go_simp
         with_reducible rfl
        rotate_left
        ·simp only [Act.put,q15,q25,q35,i64_w,i32_w];rfl
        refine one_ (i:=2) (N:=some 15) #[Y5,Y5,Y5,Z5,Z5,Z5,Z5,Z5,Z5,Z5,Z5,Z5,Z5,Z5,Z5,Z5,Z5,Z5,Z5,Z5,Z5,Z5,Z5,Z5,Z5,Z5,Z5,Z5,Z5,Z5,Z5,Z5,Z5,Z5,Z5] rfl rfl (one_of HT_.out (by kernel_rfl)) (by decide) (fun K hK => ?_)
        refine goes_ Try.func45 (by kernel_rfl) rfl #[.string ((rd_T86 l0_1 x8_1).f0)] (by rfl) rfl rfl (by (try simp only [List.map_toArray,List.map_cons,List.map_nil]);first | done | rfl | (simp only [List.length_drop,List.length_take];rfl)) ?_
        with_reducible refine (impl_keyOk.calls ((rd_T86 l0_1 x8_1).f0) true _ A7.out).mono ?_
        rintro e w' ⟨rfl,⟨nd,rfl⟩⟩
        refine ⟨_,rfl,?_⟩
        refine hK.out _ _ ⟨(blk_cell BK169.out 0).trans rfl,(blk_cell BK169.out 1).trans rfl,(blk_cell BK169.out 2).trans rfl⟩ (fun hHeld => ?_)
        clear hK K
        refine norm_ (a':=?_) ?_ ?_;rotate_left
        ·show Act.put _ (some 15) _ = _;simp only [Act.put,q15,q25,q35,i64_w,i32_w];rfl
        refine pure_ (i:=3) (N:=some 16) (v:=?_) (a':=?_) #[Y5,Y5,Y5,Y5,Z5,Z5,Z5,Z5,Z5,Z5,Z5,Z5,Z5,Z5,Z5,Z5,Z5,Z5,Z5,Z5,Z5,Z5,Z5,Z5,Z5,Z5,Z5,Z5,Z5,Z5,Z5,Z5,Z5,Z5,Z5] rfl rfl (any_of HT_.out (by kernel_rfl)) (fun _ _ _ h => h) (Or.inl ⟨by rfl,?_⟩) ?_ ?_;rotate_left
        ·intro w';go_simp;with_reducible rfl
        rotate_left
        ·simp only [Act.put,q15,q25,q35,i64_w,i32_w];rfl
        refine pure_ (i:=4) (N:=some 17) (v:=?_) (a':=?_) #[Y5,Y5,Y5,Y5,Y5,Z5,Z5,Z5,Z5,Z5,Z5,Z5,Z5,Z5,Z5,Z5,Z5,Z5,Z5,Z5,Z5,Z5,Z5,Z5,Z5,Z5,Z5,Z5,Z5,Z5,Z5,Z5,Z5,Z5,Z5] rfl rfl (any_of HT_.out (by kernel_rfl)) (fun _ _ _ h => h) (Or.inl ⟨by rfl,?_⟩) ?_ ?_;rotate_left
        ·intro w';go_simp;with_reducible rfl
        rotate_left
        ·simp only [Act.put,q15,q25,q35,i64_w,i32_w];rfl
        refine pure_ (i:=5) (N:=some 18) (v:=?_) (a':=?_) #[Y5,Y5,Y5,Y5,Y5,Y5,Z5,Z5,Z5,Z5,Z5,Z5,Z5,Z5,Z5,Z5,Z5,Z5,Z5,Z5,Z5,Z5,Z5,Z5,Z5,Z5,Z5,Z5,Z5,Z5,Z5,Z5,Z5,Z5,Z5] rfl rfl (any_of HT_.out (by kernel_rfl)) (fun _ _ _ h => h) (Or.inl ⟨by rfl,?_⟩) ?_ ?_;rotate_left
        ·intro w';go_simp;with_reducible rfl
        rotate_left
        ·simp only [Act.put,q15,q25,q35,i64_w,i32_w];rfl
        refine take_ (i:=6) (N:=some 19) (v:=?_) (a':=?_) #[Y5,Y5,Y5,Y5,Y5,Y5,Y5,Z5,Z5,Z5,Z5,Z5,Z5,Z5,Z5,Z5,Z5,Z5,Z5,Z5,Z5,Z5,Z5,Z5,Z5,Z5,Z5,Z5,Z5,Z5,Z5,Z5,Z5,Z5,Z5] rfl rfl (take_ofW HT_.out HW_.out (by kernel_rfl)) (fun _ _ _ h => h) (Or.inl ⟨by rfl,?_⟩) hHeld ?_ ?_;rotate_left
        ·rintro w' ⟨s0,s1,s2⟩
         go_simp
         with_reducible rfl
        rotate_left
        ·simp only [Act.put,q15,q25,q35,i64_w,i32_w];rfl
        refine pure_ (i:=7) (N:=some 20) (v:=?_) (a':=?_) #[Y5,Y5,Y5,Y5,Y5,Y5,Y5,Y5,Z5,Z5,Z5,Z5,Z5,Z5,Z5,Z5,Z5,Z5,Z5,Z5,Z5,Z5,Z5,Z5,Z5,Z5,Z5,Z5,Z5,Z5,Z5,Z5,Z5,Z5,Z5] rfl rfl (any_of HT_.out (by kernel_rfl)) (fun _ _ _ h => h) (Or.inl ⟨by rfl,?_⟩) ?_ ?_;rotate_left
        ·intro w';go_simp;with_reducible rfl
        rotate_left
        ·simp only [Act.put,q15,q25,q35,i64_w,i32_w];rfl
        refine pure_ (i:=8) (N:=some 21) (v:=?_) (a':=?_) #[Y5,Y5,Y5,Y5,Y5,Y5,Y5,Y5,Y5,Z5,Z5,Z5,Z5,Z5,Z5,Z5,Z5,Z5,Z5,Z5,Z5,Z5,Z5,Z5,Z5,Z5,Z5,Z5,Z5,Z5,Z5,Z5,Z5,Z5,Z5] rfl rfl (any_of HT_.out (by kernel_rfl)) (fun _ _ _ h => h) (Or.inl ⟨by rfl,?_⟩) ?_ ?_;rotate_left
        ·intro w';go_simp;with_reducible rfl
        rotate_left
        ·simp only [Act.put,q15,q25,q35,i64_w,i32_w];rfl
        refine pure_ (i:=9) (N:=some 22) (v:=?_) (a':=?_) #[Y5,Y5,Y5,Y5,Y5,Y5,Y5,Y5,Y5,Y5,Z5,Z5,Z5,Z5,Z5,Z5,Z5,Z5,Z5,Z5,Z5,Z5,Z5,Z5,Z5,Z5,Z5,Z5,Z5,Z5,Z5,Z5,Z5,Z5,Z5] rfl rfl (any_of HT_.out (by kernel_rfl)) (fun _ _ _ h => h) (Or.inl ⟨by rfl,?_⟩) ?_ ?_;rotate_left
        ·intro w';go_simp;with_reducible rfl
        rotate_left
        ·simp only [Act.put,q15,q25,q35,i64_w,i32_w];rfl
        refine pure_ (i:=10) (N:=some 23) (v:=?_) (a':=?_) #[Y5,Y5,Y5,Y5,Y5,Y5,Y5,Y5,Y5,Y5,Y5,Z5,Z5,Z5,Z5,Z5,Z5,Z5,Z5,Z5,Z5,Z5,Z5,Z5,Z5,Z5,Z5,Z5,Z5,Z5,Z5,Z5,Z5,Z5,Z5] rfl rfl (any_of HT_.out (by kernel_rfl)) (fun _ _ _ h => h) (Or.inl ⟨by rfl,?_⟩) ?_ ?_;rotate_left
        ·intro w';go_simp;with_reducible rfl
        rotate_left
        ·simp only [Act.put,q15,q25,q35,i64_w,i32_w];rfl
        refine pure_ (i:=11) (N:=some 24) (v:=undef) (a':=?_) #[Y5,Y5,Y5,Y5,Y5,Y5,Y5,Y5,Y5,Y5,Y5,Y5,Z5,Z5,Z5,Z5,Z5,Z5,Z5,Z5,Z5,Z5,Z5,Z5,Z5,Z5,Z5,Z5,Z5,Z5,Z5,Z5,Z5,Z5,Z5] rfl rfl (any_of HT_.out (by kernel_rfl)) (fun _ _ _ h => h) (Or.inr ⟨by rfl,rfl⟩) ?_ ?_;rotate_left
        ·simp only [Act.put,q15,q25,q35,i64_w,i32_w];rfl
        refine pure_ (i:=12) (N:=some 25) (v:=undef) (a':=?_) #[Y5,Y5,Y5,Y5,Y5,Y5,Y5,Y5,Y5,Y5,Y5,Y5,Y5,Z5,Z5,Z5,Z5,Z5,Z5,Z5,Z5,Z5,Z5,Z5,Z5,Z5,Z5,Z5,Z5,Z5,Z5,Z5,Z5,Z5,Z5] rfl rfl (any_of HT_.out (by kernel_rfl)) (fun _ _ _ h => h) (Or.inr ⟨by rfl,rfl⟩) ?_ ?_;rotate_left
        ·simp only [Act.put,q15,q25,q35,i64_w,i32_w];rfl
        refine pure_ (i:=13) (N:=some 26) (v:=undef) (a':=?_) #[Y5,Y5,Y5,Y5,Y5,Y5,Y5,Y5,Y5,Y5,Y5,Y5,Y5,Y5,Z5,Z5,Z5,Z5,Z5,Z5,Z5,Z5,Z5,Z5,Z5,Z5,Z5,Z5,Z5,Z5,Z5,Z5,Z5,Z5,Z5] rfl rfl (any_of HT_.out (by kernel_rfl)) (fun _ _ _ h => h) (Or.inr ⟨by rfl,rfl⟩) ?_ ?_;rotate_left
        ·simp only [Act.put,q15,q25,q35,i64_w,i32_w];rfl
        refine pure_ (i:=14) (N:=some 27) (v:=undef) (a':=?_) #[Y5,Y5,Y5,Y5,Y5,Y5,Y5,Y5,Y5,Y5,Y5,Y5,Y5,Y5,Y5,Z5,Z5,Z5,Z5,Z5,Z5,Z5,Z5,Z5,Z5,Z5,Z5,Z5,Z5,Z5,Z5,Z5,Z5,Z5,Z5] rfl rfl (any_of HT_.out (by kernel_rfl)) (fun _ _ _ h => h) (Or.inr ⟨by rfl,rfl⟩) ?_ ?_;rotate_left
        ·simp only [Act.put,q15,q25,q35,i64_w,i32_w];rfl
        refine pure_ (i:=15) (N:=some 28) (v:=undef) (a':=?_) #[Y5,Y5,Y5,Y5,Y5,Y5,Y5,Y5,Y5,Y5,Y5,Y5,Y5,Y5,Y5,Y5,Z5,Z5,Z5,Z5,Z5,Z5,Z5,Z5,Z5,Z5,Z5,Z5,Z5,Z5,Z5,Z5,Z5,Z5,Z5] rfl rfl (any_of HT_.out (by kernel_rfl)) (fun _ _ _ h => h) (Or.inr ⟨by rfl,rfl⟩) ?_ ?_;rotate_left
        ·simp only [Act.put,q15,q25,q35,i64_w,i32_w];rfl
        refine pure_ (i:=16) (N:=some 29) (v:=undef) (a':=?_) #[Y5,Y5,Y5,Y5,Y5,Y5,Y5,Y5,Y5,Y5,Y5,Y5,Y5,Y5,Y5,Y5,Y5,Z5,Z5,Z5,Z5,Z5,Z5,Z5,Z5,Z5,Z5,Z5,Z5,Z5,Z5,Z5,Z5,Z5,Z5] rfl rfl (any_of HT_.out (by kernel_rfl)) (fun _ _ _ h => h) (Or.inr ⟨by rfl,rfl⟩) ?_ ?_;rotate_left
        ·simp only [Act.put,q15,q25,q35,i64_w,i32_w];rfl
        refine pure_ (i:=17) (N:=some 30) (v:=undef) (a':=?_) #[Y5,Y5,Y5,Y5,Y5,Y5,Y5,Y5,Y5,Y5,Y5,Y5,Y5,Y5,Y5,Y5,Y5,Y5,Z5,Z5,Z5,Z5,Z5,Z5,Z5,Z5,Z5,Z5,Z5,Z5,Z5,Z5,Z5,Z5,Z5] rfl rfl (any_of HT_.out (by kernel_rfl)) (fun _ _ _ h => h) (Or.inr ⟨by rfl,rfl⟩) ?_ ?_;rotate_left
        ·simp only [Act.put,q15,q25,q35,i64_w,i32_w];rfl
        refine pure_ (i:=18) (N:=some 31) (v:=?_) (a':=?_) #[Y5,Y5,Y5,Y5,Y5,Y5,Y5,Y5,Y5,Y5,Y5,Y5,Y5,Y5,Y5,Y5,Y5,Y5,Y5,Z5,Z5,Z5,Z5,Z5,Z5,Z5,Z5,Z5,Z5,Z5,Z5,Z5,Z5,Z5,Z5] rfl rfl (any_of HT_.out (by kernel_rfl)) (fun _ _ _ h => h) (Or.inl ⟨by rfl,?_⟩) ?_ ?_;rotate_left
        ·intro w';go_simp;with_reducible rfl
        rotate_left
        ·simp only [Act.put,q15,q25,q35,i64_w,i32_w];rfl
        refine pure_ (i:=19) (N:=some 32) (v:=?_) (a':=?_) #[Y5,Y5,Y5,Y5,Y5,Y5,Y5,Y5,Y5,Y5,Y5,Y5,Y5,Y5,Y5,Y5,Y5,Y5,Y5,Y5,Z5,Z5,Z5,Z5,Z5,Z5,Z5,Z5,Z5,Z5,Z5,Z5,Z5,Z5,Z5] rfl rfl (any_of HT_.out (by kernel_rfl)) (fun _ _ _ h => h) (Or.inl ⟨by rfl,?_⟩) ?_ ?_;rotate_left
        ·intro w';go_simp;with_reducible rfl
        rotate_left
        ·simp only [Act.put,q15,q25,q35,i64_w,i32_w];rfl
        refine pure_ (i:=20) (N:=some 33) (v:=undef) (a':=?_) #[Y5,Y5,Y5,Y5,Y5,Y5,Y5,Y5,Y5,Y5,Y5,Y5,Y5,Y5,Y5,Y5,Y5,Y5,Y5,Y5,Y5,Z5,Z5,Z5,Z5,Z5,Z5,Z5,Z5,Z5,Z5,Z5,Z5,Z5,Z5] rfl rfl (any_of HT_.out (by kernel_rfl)) (fun _ _ _ h => h) (Or.inr ⟨by rfl,rfl⟩) ?_ ?_;rotate_left
        ·simp only [Act.put,q15,q25,q35,i64_w,i32_w];rfl
        refine pure_ (i:=21) (N:=some 34) (v:=undef) (a':=?_) #[Y5,Y5,Y5,Y5,Y5,Y5,Y5,Y5,Y5,Y5,Y5,Y5,Y5,Y5,Y5,Y5,Y5,Y5,Y5,Y5,Y5,Y5,Z5,Z5,Z5,Z5,Z5,Z5,Z5,Z5,Z5,Z5,Z5,Z5,Z5] rfl rfl (any_of HT_.out (by kernel_rfl)) (fun _ _ _ h => h) (Or.inr ⟨by rfl,rfl⟩) ?_ ?_;rotate_left
        ·simp only [Act.put,q15,q25,q35,i64_w,i32_w];rfl
        refine pure_ (i:=22) (N:=some 35) (v:=undef) (a':=?_) #[Y5,Y5,Y5,Y5,Y5,Y5,Y5,Y5,Y5,Y5,Y5,Y5,Y5,Y5,Y5,Y5,Y5,Y5,Y5,Y5,Y5,Y5,Y5,Z5,Z5,Z5,Z5,Z5,Z5,Z5,Z5,Z5,Z5,Z5,Z5] rfl rfl (any_of HT_.out (by kernel_rfl)) (fun _ _ _ h => h) (Or.inr ⟨by rfl,rfl⟩) ?_ ?_;rotate_left
        ·simp only [Act.put,q15,q25,q35,i64_w,i32_w];rfl
        refine pure_ (i:=23) (N:=some 36) (v:=undef) (a':=?_) #[Y5,Y5,Y5,Y5,Y5,Y5,Y5,Y5,Y5,Y5,Y5,Y5,Y5,Y5,Y5,Y5,Y5,Y5,Y5,Y5,Y5,Y5,Y5,Y5,Z5,Z5,Z5,Z5,Z5,Z5,Z5,Z5,Z5,Z5,Z5] rfl rfl (any_of HT_.out (by kernel_rfl)) (fun _ _ _ h => h) (Or.inr ⟨by rfl,rfl⟩) ?_ ?_;rotate_left
        ·simp only [Act.put,q15,q25,q35,i64_w,i32_w];rfl
        refine pure_ (i:=24) (N:=some 37) (v:=undef) (a':=?_) #[Y5,Y5,Y5,Y5,Y5,Y5,Y5,Y5,Y5,Y5,Y5,Y5,Y5,Y5,Y5,Y5,Y5,Y5,Y5,Y5,Y5,Y5,Y5,Y5,Y5,Z5,Z5,Z5,Z5,Z5,Z5,Z5,Z5,Z5,Z5] rfl rfl (any_of HT_.out (by kernel_rfl)) (fun _ _ _ h => h) (Or.inr ⟨by rfl,rfl⟩) ?_ ?_;rotate_left
        ·simp only [Act.put,q15,q25,q35,i64_w,i32_w];rfl
        refine pure_ (i:=25) (N:=some 38) (v:=undef) (a':=?_) #[Y5,Y5,Y5,Y5,Y5,Y5,Y5,Y5,Y5,Y5,Y5,Y5,Y5,Y5,Y5,Y5,Y5,Y5,Y5,Y5,Y5,Y5,Y5,Y5,Y5,Y5,Z5,Z5,Z5,Z5,Z5,Z5,Z5,Z5,Z5] rfl rfl (any_of HT_.out (by kernel_rfl)) (fun _ _ _ h => h) (Or.inr ⟨by rfl,rfl⟩) ?_ ?_;rotate_left
        ·simp only [Act.put,q15,q25,q35,i64_w,i32_w];rfl
        refine pure_ (i:=26) (N:=some 39) (v:=undef) (a':=?_) #[Y5,Y5,Y5,Y5,Y5,Y5,Y5,Y5,Y5,Y5,Y5,Y5,Y5,Y5,Y5,Y5,Y5,Y5,Y5,Y5,Y5,Y5,Y5,Y5,Y5,Y5,Y5,Z5,Z5,Z5,Z5,Z5,Z5,Z5,Z5] rfl rfl (any_of HT_.out (by kernel_rfl)) (fun _ _ _ h => h) (Or.inr ⟨by rfl,rfl⟩) ?_ ?_;rotate_left
        ·simp only [Act.put,q15,q25,q35,i64_w,i32_w];rfl
        refine pure_ (i:=27) (N:=some 40) (v:=undef) (a':=?_) #[Y5,Y5,Y5,Y5,Y5,Y5,Y5,Y5,Y5,Y5,Y5,Y5,Y5,Y5,Y5,Y5,Y5,Y5,Y5,Y5,Y5,Y5,Y5,Y5,Y5,Y5,Y5,Y5,Z5,Z5,Z5,Z5,Z5,Z5,Z5] rfl rfl (any_of HT_.out (by kernel_rfl)) (fun _ _ _ h => h) (Or.inr ⟨by rfl,rfl⟩) ?_ ?_;rotate_left
        ·simp only [Act.put,q15,q25,q35,i64_w,i32_w];rfl
        refine pure_ (i:=28) (N:=some 41) (v:=undef) (a':=?_) #[Y5,Y5,Y5,Y5,Y5,Y5,Y5,Y5,Y5,Y5,Y5,Y5,Y5,Y5,Y5,Y5,Y5,Y5,Y5,Y5,Y5,Y5,Y5,Y5,Y5,Y5,Y5,Y5,Y5,Z5,Z5,Z5,Z5,Z5,Z5] rfl rfl (any_of HT_.out (by kernel_rfl)) (fun _ _ _ h => h) (Or.inr ⟨by rfl,rfl⟩) ?_ ?_;rotate_left
        ·simp only [Act.put,q15,q25,q35,i64_w,i32_w];rfl
        refine pure_ (i:=29) (N:=some 42) (v:=undef) (a':=?_) #[Y5,Y5,Y5,Y5,Y5,Y5,Y5,Y5,Y5,Y5,Y5,Y5,Y5,Y5,Y5,Y5,Y5,Y5,Y5,Y5,Y5,Y5,Y5,Y5,Y5,Y5,Y5,Y5,Y5,Y5,Z5,Z5,Z5,Z5,Z5] rfl rfl (any_of HT_.out (by kernel_rfl)) (fun _ _ _ h => h) (Or.inr ⟨by rfl,rfl⟩) ?_ ?_;rotate_left
        ·simp only [Act.put,q15,q25,q35,i64_w,i32_w];rfl
        refine pure_ (i:=30) (N:=some 43) (v:=undef) (a':=?_) #[Y5,Y5,Y5,Y5,Y5,Y5,Y5,Y5,Y5,Y5,Y5,Y5,Y5,Y5,Y5,Y5,Y5,Y5,Y5,Y5,Y5,Y5,Y5,Y5,Y5,Y5,Y5,Y5,Y5,Y5,Y5,Z5,Z5,Z5,Z5] rfl rfl (any_of HT_.out (by kernel_rfl)) (fun _ _ _ h => h) (Or.inr ⟨by rfl,rfl⟩) ?_ ?_;rotate_left
        ·simp only [Act.put,q15,q25,q35,i64_w,i32_w];rfl
        refine pure_ (i:=31) (N:=some 44) (v:=undef) (a':=?_) #[Y5,Y5,Y5,Y5,Y5,Y5,Y5,Y5,Y5,Y5,Y5,Y5,Y5,Y5,Y5,Y5,Y5,Y5,Y5,Y5,Y5,Y5,Y5,Y5,Y5,Y5,Y5,Y5,Y5,Y5,Y5,Y5,Z5,Z5,Z5] rfl rfl (any_of HT_.out (by kernel_rfl)) (fun _ _ _ h => h) (Or.inr ⟨by rfl,rfl⟩) ?_ ?_;rotate_left
        ·simp only [Act.put,q15,q25,q35,i64_w,i32_w];rfl
        refine pure_ (i:=32) (N:=some 45) (v:=undef) (a':=?_) #[Y5,Y5,Y5,Y5,Y5,Y5,Y5,Y5,Y5,Y5,Y5,Y5,Y5,Y5,Y5,Y5,Y5,Y5,Y5,Y5,Y5,Y5,Y5,Y5,Y5,Y5,Y5,Y5,Y5,Y5,Y5,Y5,Y5,Z5,Z5] rfl rfl (any_of HT_.out (by kernel_rfl)) (fun _ _ _ h => h) (Or.inr ⟨by rfl,rfl⟩) ?_ ?_;rotate_left
        ·simp only [Act.put,q15,q25,q35,i64_w,i32_w];rfl
        refine pure_ (i:=33) (N:=some 46) (v:=undef) (a':=?_) #[Y5,Y5,Y5,Y5,Y5,Y5,Y5,Y5,Y5,Y5,Y5,Y5,Y5,Y5,Y5,Y5,Y5,Y5,Y5,Y5,Y5,Y5,Y5,Y5,Y5,Y5,Y5,Y5,Y5,Y5,Y5,Y5,Y5,Y5,Z5] rfl rfl (any_of HT_.out (by kernel_rfl)) (fun _ _ _ h => h) (Or.inr ⟨by rfl,rfl⟩) ?_ ?_;rotate_left
        ·simp only [Act.put,q15,q25,q35,i64_w,i32_w];rfl
        refine pure_ (i:=34) (N:=some 47) (v:=?_) (a':=?_) #[Y5,Y5,Y5,Y5,Y5,Y5,Y5,Y5,Y5,Y5,Y5,Y5,Y5,Y5,Y5,Y5,Y5,Y5,Y5,Y5,Y5,Y5,Y5,Y5,Y5,Y5,Y5,Y5,Y5,Y5,Y5,Y5,Y5,Y5,Y5] rfl rfl (any_of HT_.out (by kernel_rfl)) (fun _ _ _ h => h) (Or.inl ⟨by rfl,?_⟩) ?_ ?_;rotate_left
        ·intro w';go_simp;with_reducible rfl
        rotate_left
        ·simp only [Act.put,q15,q25,q35,i64_w,i32_w];rfl
        refine done_ (done_of HT_.out (by kernel_rfl)) ?_
        try go_wp2
        go_ret
        exact ⟨by first | rfl | (simp [errW_none,errW_some] <;> rfl) | (simp [*,errW_none,errW_some] <;> rfl),by repeat (first | (with_reducible first | exact HB.out | apply below_alloc | apply pw_below_drewN | apply below_drew1 | refine below_set ?_ GE167.out | refine below_set ?_ GE169.out) | exact HB.out)⟩
       ·rw [if_neg c9] at H
        have c9b0 : decide (2000 < (((rd_T86 l0_1 x8_1).f1).size : Int)) = false:=decide_eq_false c9
        have c9b1 : decide (2000 < ((rd_T86 l0_1 x8_1).f1).size) = false:=decide_eq_false (by omega)
        clear c9
        obtain ⟨bq15,hbq15⟩ : ∃ b_ : Bool,b_ = ((rd_T86 l0_1 x8_1).f2):=⟨_,rfl⟩
        replace H : (if bq15 = true then (if ((rd_T86 l0_1 x8_1).f1).toList = ([] : List UInt8) then (if x8_1 > 0 then (if 0 ≤ (wrap64 (x8_1 - 1)) then (if (wrap64 (x8_1 - 1)) < (l0_1.length : Int) then (if ((Op.bytesLess (((rd_T86 l0_1 (wrap64 (x8_1 - 1))).f0).toList) (((rd_T86 l0_1 x8_1).f0).toList)) = true) then (impl_BatchOk.l0 k1 l0_1 (l0_1.length : Int) (wrap64 (x8_1 + 1)) a0_0 l0_1) else (some false)) else (none)) else (none)) else (impl_BatchOk.l0 k1 l0_1 (l0_1.length : Int) (wrap64 (x8_1 + 1)) a0_0 l0_1)) else (some false)) else (if x8_1 > 0 then (if 0 ≤ (wrap64 (x8_1 - 1)) then (if (wrap64 (x8_1 - 1)) < (l0_1.length : Int) then (if ((Op.bytesLess (((rd_T86 l0_1 (wrap64 (x8_1 - 1))).f0).toList) (((rd_T86 l0_1 x8_1).f0).toList)) = true) then (impl_BatchOk.l0 k1 l0_1 (l0_1.length : Int) (wrap64 (x8_1 + 1)) a0_0 l0_1) else (some false)) else (none)) else (none)) else (impl_BatchOk.l0 k1 l0_1 (l0_1.length : Int) (wrap64 (x8_1 + 1)) a0_0 l0_1))) = some r:=by rw [← hbq15] at H;exact H
        have Nbq15:=Aside0.mk hbq15
        clear hbq15
        by_cases c16 : bq15 = true
        ·subst c16
         have H1 : (if ((rd_T86 l0_1 x8_1).f1).toList = ([] : List UInt8) then (if x8_1 > 0 then (if 0 ≤ (wrap64 (x8_1 - 1)) then (if (wrap64 (x8_1 - 1)) < (l0_1.length : Int) then (if ((Op.bytesLess (((rd_T86 l0_1 (wrap64 (x8_1 - 1))).f0).toList) (((rd_T86 l0_1 x8_1).f0).toList)) = true) then (impl_BatchOk.l0 k1 l0_1 (l0_1.length : Int) (wrap64 (x8_1 + 1)) a0_0 l0_1) else (some false)) else (none)) else (none)) else (impl_BatchOk.l0 k1 l0_1 (l0_1.length : Int) (wrap64 (x8_1 + 1)) a0_0 l0_1)) else (some false)) = some r:=by rw [if_pos rfl] at H;exact H
         clear H
         have H:=H1
         clear H1
         by_cases c17 : ((rd_T86 l0_1 x8_1).f1).toList = ([] : List UInt8)
         ·rw [if_pos c17] at H
          have c17b0 : (((rd_T86 l0_1 x8_1).f1).toList == ([] : List UInt8)) = true:=beq_iff_eq.mpr c17
          have c17b1 : (((rd_T86 l0_1 x8_1).f1).toList != ([] : List UInt8)) = false:=bne_eq_false_iff_eq.mpr c17
          clear c17
          by_cases c18 : x8_1 > 0
          ·rw [if_pos c18] at H
           have c18b0 : decide (0 < x8_1) = true:=decide_eq_true c18
           clear c18
           obtain ⟨ji19,hji19⟩ : ∃ j_ : Int,(wrap64 (x8_1 - 1)) = j_:=⟨_,rfl⟩
           replace H : (if 0 ≤ (ji19) then (if (ji19) < (l0_1.length : Int) then (if ((Op.bytesLess (((rd_T86 l0_1 (ji19)).f0).toList) (((rd_T86 l0_1 x8_1).f0).toList)) = true) then (impl_BatchOk.l0 k1 l0_1 (l0_1.length : Int) (wrap64 (x8_1 + 1)) a0_0 l0_1) else (some false)) else (none)) else (none)) = some r:=by first | (rw [hji19] at H;exact H) | (simp only [hji19] at H ⊢;exact H)
           (try rw [hji19] at A7)
           have hji19w : (IntKind.i64.wrap (x8_1 - 1)) = ji19:=(i64_w _).trans hji19
           by_cases c20 : 0 ≤ (ji19)
           ·rw [if_pos c20] at H
            have c20b0 : decide (0 ≤ (ji19)) = true:=decide_eq_true c20
            clear c20
            by_cases c21 : (ji19) < (l0_1.length : Int)
            ·rw [if_pos c21] at H
             have c21b0 : decide ((ji19) < (l0_1.length : Int)) = true:=decide_eq_true c21
             clear c21
             by_cases c22 : ((Op.bytesLess (((rd_T86 l0_1 (ji19)).f0).toList) (((rd_T86 l0_1 x8_1).f0).toList)) = true)
             ·rw [if_pos c22] at H
              have c22b0 : (Op.bytesLess (((rd_T86 l0_1 (ji19)).f0).toList) (((rd_T86 l0_1 x8_1).f0).toList)) = true:=c22
              clear c22
              have H':=Aside0.mk H
              clear H
              have p168 : 0 ≤ (x8_1 : Int):=of_decide_eq_true (by first | (with_reducible assumption) | assumption)
              have q168 : x8_1 < (l0_1.length : Int):=of_decide_eq_true (by first | (with_reducible assumption) | assumption)
              obtain ⟨ad168,e168,hx168_0,hx168_1,hx168_2⟩:=at_T86 HR0_1.out x8_1 p168 q168
              (try rw [← Nbq15.out] at hx168_2)
              cases e168
              replace hx168_0:=(HB.out.cell (World.block_lt_of_cell? w _ hx168_0)).trans hx168_0
              replace hx168_1:=(HB.out.cell (World.block_lt_of_cell? w _ hx168_1)).trans hx168_1
              replace hx168_2:=(HB.out.cell (World.block_lt_of_cell? w _ hx168_2)).trans hx168_2
              replace p168:=eq_true p168
              replace q168:=eq_true q168
              try go_wp2_with (first | ((with_reducible refine gate_dst (N:=4) rfl ?_);(try (refine gate_guard (by rfl) ?_;dsimp only));refine box_event ?hg (N:=4) ?hd (cs:=#[.string (⟨#[]⟩ : ByteArray),.string (⟨#[]⟩ : ByteArray),.bool false]) (t:=86) ?hr ?_;(case hd => rfl);(case hg => rfl);(case hr => first | (go_simp;done) | (go_simp;rfl));intro gb169 hg w23 hbox hb;have n0_:=Aside0.mk (blk_below (g:=gb167) (o:=.cells #[.int .i64 a0_0,.slice (some ad168) l0_1.length c0_1] 47 (0,0)) (by (with_reducible repeat (first | refine blk_drewN ?_ _ | refine blk_drew ?_ | refine blk_alloc ?_ _));exact BK167.out) hb);have n1_:=Aside0.mk (below_step (by repeat (first | (with_reducible first | exact HB.out | apply below_alloc | apply pw_below_drewN | apply below_drew1 | refine below_set ?_ GE167.out) | exact HB.out)) hb);have n2_:=Aside0.mk (hbox);have n3_:=Aside0.mk ((by rw [hg];exact (below_size (by repeat (first | (with_reducible first | exact HB.out | apply below_alloc | apply pw_below_drewN | apply below_drew1 | refine below_set ?_ GE167.out) | exact HB.out))) : w.heap.size ≤ gb169));have n4_:=Aside0.mk ((by rw [hg];exact (below_size (by repeat (first | (with_reducible first | exact HB.out | apply below_alloc | apply pw_below_drewN | apply below_drew1 | refine below_set ?_ GE167.out) | exact HB.out))) : w.heap.size ≤ gb169));have n5_:=Aside0.mk ((by rw [hg];exact Nat.ne_of_lt (blk_lt (g:=gb167) (o:=.cells #[.int .i64 a0_0,.slice (some ad168) l0_1.length c0_1] 47 (0,0)) (by (with_reducible repeat (first | refine blk_drewN ?_ _ | refine blk_drew ?_ | refine blk_alloc ?_ _));exact BK167.out)) : gb167 ≠ gb169));have n6_:=Aside0.mk ((by rw [hg];exact Nat.ne_of_gt (blk_lt (g:=gb167) (o:=.cells #[.int .i64 a0_0,.slice (some ad168) l0_1.length c0_1] 47 (0,0)) (by (with_reducible repeat (first | refine blk_drewN ?_ _ | refine blk_drew ?_ | refine blk_alloc ?_ _));exact BK167.out)) : gb169 ≠ gb167));clear BK167;clear HB;have BK167:=n0_;have HB:=n1_;have BK169:=n2_;have GW169:=n3_;have GE169:=n4_;have NB167_169:=n5_;have NB169_167:=n6_;clear n0_ n1_ n2_ n3_ n4_ n5_ n6_;clear hb hbox hg;have hnb24:=NB169_167.out;have hnc24:=NB167_169.out;have hcz25_0 : w23.cell? ⟨gb169,0,none⟩ = some (.string (⟨#[]⟩ : ByteArray)):=(blk_cell BK169.out 0).trans rfl;have hcz25_1 : w23.cell? ⟨gb169,1,none⟩ = some (.string (⟨#[]⟩ : ByteArray)):=(blk_cell BK169.out 1).trans rfl;have hcz25_2 : w23.cell? ⟨gb169,2,none⟩ = some (.bool false):=(blk_cell BK169.out 2).trans rfl;have hfz25_0:=blk_frozen BK169.out 0;have hfz25_1:=blk_frozen BK169.out 1;have hfz25_2:=blk_frozen BK169.out 2))
              have n0_ : Aside0 ((((w23.setCell ⟨gb169,0,none⟩ (.string ((rd_T86 l0_1 x8_1).f0))).setCell ⟨gb169,1,none⟩ (.string ((rd_T86 l0_1 x8_1).f1))).setCell ⟨gb169,2,none⟩ (.bool true)).heap[gb167]? = some (.cells #[.int .i64 a0_0,.slice (some ad168) l0_1.length c0_1] 47 (0,0))):=⟨by (with_reducible repeat (first | refine blk_drewN ?_ _ | refine blk_drew ?_ | refine blk_alloc ?_ _));refine blk_far ?_ NB167_169.out _;(with_reducible repeat (first | refine blk_drewN ?_ _ | refine blk_drew ?_ | refine blk_alloc ?_ _));refine blk_far ?_ NB167_169.out _;(with_reducible repeat (first | refine blk_drewN ?_ _ | refine blk_drew ?_ | refine blk_alloc ?_ _));refine blk_far ?_ NB167_169.out _;(with_reducible repeat (first | refine blk_drewN ?_ _ | refine blk_drew ?_ | refine blk_alloc ?_ _));exact BK167.out⟩
              have n1_ : Aside0 ((((w23.setCell ⟨gb169,0,none⟩ (.string ((rd_T86 l0_1 x8_1).f0))).setCell ⟨gb169,1,none⟩ (.string ((rd_T86 l0_1 x8_1).f1))).setCell ⟨gb169,2,none⟩ (.bool true)).heap[gb169]? = some (.cells #[.string ((rd_T86 l0_1 x8_1).f0),.string ((rd_T86 l0_1 x8_1).f1),.bool true] 86 (0,0))):=⟨by (with_reducible repeat (first | refine blk_drewN ?_ _ | refine blk_drew ?_ | refine blk_alloc ?_ _));refine blk_put (cs:=#[.string ((rd_T86 l0_1 x8_1).f0),.string ((rd_T86 l0_1 x8_1).f1),.bool false]) ?_ 2 _ rfl;(with_reducible repeat (first | refine blk_drewN ?_ _ | refine blk_drew ?_ | refine blk_alloc ?_ _));refine blk_put (cs:=#[.string ((rd_T86 l0_1 x8_1).f0),.string (⟨#[]⟩ : ByteArray),.bool false]) ?_ 1 _ rfl;(with_reducible repeat (first | refine blk_drewN ?_ _ | refine blk_drew ?_ | refine blk_alloc ?_ _));refine blk_put (cs:=#[.string (⟨#[]⟩ : ByteArray),.string (⟨#[]⟩ : ByteArray),.bool false]) ?_ 0 _ rfl;(with_reducible repeat (first | refine blk_drewN ?_ _ | refine blk_drew ?_ | refine blk_alloc ?_ _));exact BK169.out⟩
              have n2_ : Aside0 (Below w.heap.size w (((w23.setCell ⟨gb169,0,none⟩ (.string ((rd_T86 l0_1 x8_1).f0))).setCell ⟨gb169,1,none⟩ (.string ((rd_T86 l0_1 x8_1).f1))).setCell ⟨gb169,2,none⟩ (.bool true))):=⟨by repeat (first | (with_reducible first | exact HB.out | apply below_alloc | apply pw_below_drewN | apply below_drew1 | refine below_set ?_ GE167.out | refine below_set ?_ GE169.out) | exact HB.out)⟩
              (try clear BK167)
              (try clear BK169)
              (try clear HB)
              generalize (((w23.setCell ⟨gb169,0,none⟩ (.string ((rd_T86 l0_1 x8_1).f0))).setCell ⟨gb169,1,none⟩ (.string ((rd_T86 l0_1 x8_1).f1))).setCell ⟨gb169,2,none⟩ (.bool true)) = w26 at n0_ n1_ n2_ ⊢
              have BK167:=n0_
              have BK169:=n1_
              have HB:=n2_
              clear n0_ n1_ n2_
              have n0_:=Aside0.mk (blk_drew BK167.out)
              have n1_:=Aside0.mk (blk_drew BK169.out)
              have n2_:=Aside0.mk (below_drew1 HB.out)
              clear BK167
              clear BK169
              clear HB
              have BK167:=n0_
              have BK169:=n1_
              have HB:=n2_
              clear n0_ n1_ n2_
              have p171 : 0 ≤ ((ji19) : Int):=of_decide_eq_true (by first | (with_reducible assumption) | assumption)
              have q171 : (ji19) < (l0_1.length : Int):=of_decide_eq_true (by first | (with_reducible assumption) | assumption)
              obtain ⟨ad171,e171,hx171_0,hx171_1,hx171_2⟩:=at_T86 HR0_1.out (ji19) p171 q171
              have hw171_2:=hx171_2
              have hw171_1:=hx171_1
              have hw171_0:=hx171_0
              (try rw [← Nbq15.out] at hx171_2)
              obtain rfl : ad168 = ad171:=(by injection e171)
              replace hx171_0:=(HB.out.cell (World.block_lt_of_cell? w _ hx171_0)).trans hx171_0
              replace hx171_1:=(HB.out.cell (World.block_lt_of_cell? w _ hx171_1)).trans hx171_1
              replace hx171_2:=(HB.out.cell (World.block_lt_of_cell? w _ hx171_2)).trans hx171_2
              replace p171:=eq_true p171
              replace q171:=eq_true q171
              refine start_ (n:=35) (S:=fun w' => w'.cell? ⟨gb169,0,none⟩ = some (.string ((rd_T86 l0_1 x8_1).f0)) ∧ w'.cell? ⟨gb169,1,none⟩ = some (.string ((rd_T86 l0_1 x8_1).f1)) ∧ w'.cell? ⟨gb169,2,none⟩ = some (.bool true) ∧ w'.cell? ⟨gb167,0,none⟩ = some (.int .i64 a0_0) ∧ w'.cell? ⟨gb167,1,none⟩ = some (.slice (some ad168) l0_1.length c0_1) ∧ w'.cell? (ad168.add (((ji19)).toNat * 3)) = some (.string ((rd_T86 l0_1 (ji19)).f0)) ∧ w'.cell? ⟨(ad168.add (((ji19)).toNat * 3)).block,(ad168.add (((ji19)).toNat * 3)).off + 1,none⟩ = some (.string ((rd_T86 l0_1 (ji19)).f1)) ∧ w'.cell? ⟨(ad168.add (((ji19)).toNat * 3)).block,(ad168.add (((ji19)).toNat * 3)).off + 2,none⟩ = some (.bool ((rd_T86 l0_1 (ji19)).f2))) (ds:=[]) #[Z5,Z5,Z5,Z5,Z5,Z5,Z5,Z5,Z5,Z5,Z5,Z5,Z5,Z5,Z5,Z5,Z5,Z5,Z5,Z5,Z5,Z5,Z5,Z5,Z5,Z5,Z5,Z5,Z5,Z5,Z5,Z5,Z5,Z5,Z5] (by kernel_rfl) rfl rfl ⟨(blk_cell BK169.out 0).trans rfl,(blk_cell BK169.out 1).trans rfl,(blk_cell BK169.out 2).trans rfl,(blk_cell BK167.out 0).trans rfl,(blk_cell BK167.out 1).trans rfl,((HB.out.cell (World.block_lt_of_cell? w _ hw171_0)).trans hw171_0),((HB.out.cell (World.block_lt_of_cell? w _ hw171_1)).trans hw171_1),((HB.out.cell (World.block_lt_of_cell? w _ hw171_2)).trans hw171_2)⟩ (fun hHeld => ?_);refine with_tabW impl_BatchOk.tab4 impl_BatchOk.bits4 (fun HT_ HW_ => ?_)
              generalize w26.drew = w27 at BK167 BK169 HB hx171_0 hx171_1 hx171_2 hHeld ⊢
              refine pure_ (i:=0) (N:=some 13) (v:=?_) (a':=?_) #[Y5,Z5,Z5,Z5,Z5,Z5,Z5,Z5,Z5,Z5,Z5,Z5,Z5,Z5,Z5,Z5,Z5,Z5,Z5,Z5,Z5,Z5,Z5,Z5,Z5,Z5,Z5,Z5,Z5,Z5,Z5,Z5,Z5,Z5,Z5] rfl rfl (any_of HT_.out (by kernel_rfl)) (fun _ _ _ h => h) (Or.inl ⟨by rfl,?_⟩) ?_ ?_;rotate_left
              ·intro w';go_simp;with_reducible rfl
              rotate_left
              ·simp only [Act.put,q15,q25,q35,i64_w,i32_w];rfl
              refine take_ (i:=1) (N:=some 14) (v:=?_) (a':=?_) #[Y5,Y5,Z5,Z5,Z5,Z5,Z5,Z5,Z5,Z5,Z5,Z5,Z5,Z5,Z5,Z5,Z5,Z5,Z5,Z5,Z5,Z5,Z5,Z5,Z5,Z5,Z5,Z5,Z5,Z5,Z5,Z5,Z5,Z5,Z5] rfl rfl (take_ofW HT_.out HW_.out (by kernel_rfl)) (fun _ _ _ h => h) (Or.inl ⟨by rfl,?_⟩) hHeld ?_ ?_;rotate_left
              ·rintro w' ⟨s0,s1,s2,s3,s4,s5,s6,s7⟩
               go_simp
               with_reducible rfl
              rotate_left
              ·simp only [Act.put,q15,q25,q35,i64_w,i32_w];rfl
              refine one_ (i:=2) (N:=some 15) #[Y5,Y5,Y5,Z5,Z5,Z5,Z5,Z5,Z5,Z5,Z5,Z5,Z5,Z5,Z5,Z5,Z5,Z5,Z5,Z5,Z5,Z5,Z5,Z5,Z5,Z5,Z5,Z5,Z5,Z5,Z5,Z5,Z5,Z5,Z5] rfl rfl (one_of HT_.out (by kernel_rfl)) (by decide) (fun K hK => ?_)
              refine goes_ Try.func45 (by kernel_rfl) rfl #[.string ((rd_T86 l0_1 x8_1).f0)] (by rfl) rfl rfl (by (try simp only [List.map_toArray,List.map_cons,List.map_nil]);first | done | rfl | (simp only [List.length_drop,List.length_take];rfl)) ?_
              with_reducible refine (impl_keyOk.calls ((rd_T86 l0_1 x8_1).f0) true _ A7.out).mono ?_
              rintro e w' ⟨rfl,⟨nd,rfl⟩⟩
              refine ⟨_,rfl,?_⟩
              refine hK.out _ _ ⟨(blk_cell BK169.out 0).trans rfl,(blk_cell BK169.out 1).trans rfl,(blk_cell BK169.out 2).trans rfl,(blk_cell BK167.out 0).trans rfl,(blk_cell BK167.out 1).trans rfl,((HB.out.cell (World.block_lt_of_cell? w _ hw171_0)).trans hw171_0),((HB.out.cell (World.block_lt_of_cell? w _ hw171_1)).trans hw171_1),((HB.out.cell (World.block_lt_of_cell? w _ hw171_2)).trans hw171_2)⟩ (fun hHeld => ?_)
              clear hK K
              refine norm_ (a':=?_) ?_ ?_;rotate_left
              ·show Act.put _ (some 15) _ = _;simp only [Act.put,q15,q25,q35,i64_w,i32_w];rfl
              refine pure_ (i:=3) (N:=some 16) (v:=?_) (a':=?_) #[Y5,Y5,Y5,Y5,Z5,Z5,Z5,Z5,Z5,Z5,Z5,Z5,Z5,Z5,Z5,Z5,Z5,Z5,Z5,Z5,Z5,Z5,Z5,Z5,Z5,Z5,Z5,Z5,Z5,Z5,Z5,Z5,Z5,Z5,Z5] rfl rfl (any_of HT_.out (by kernel_rfl)) (fun _ _ _ h => h) (Or.inl ⟨by rfl,?_⟩) ?_ ?_;rotate_left
              ·intro w';go_simp;with_reducible rfl
              rotate_left
              ·simp only [Act.put,q15,q25,q35,i64_w,i32_w];rfl
              refine pure_ (i:=4) (N:=some 17) (v:=?_) (a':=?_) #[Y5,Y5,Y5,Y5,Y5,Z5,Z5,Z5,Z5,Z5,Z5,Z5,Z5,Z5,Z5,Z5,Z5,Z5,Z5,Z5,Z5,Z5,Z5,Z5,Z5,Z5,Z5,Z5,Z5,Z5,Z5,Z5,Z5,Z5,Z5] rfl rfl (any_of HT_.out (by kernel_rfl)) (fun _ _ _ h => h) (Or.inl ⟨by rfl,?_⟩) ?_ ?_;rotate_left
              ·intro w';go_simp;with_reducible rfl
              rotate_left
              ·simp only [Act.put,q15,q25,q35,i64_w,i32_w];rfl
              refine pure_ (i:=5) (N:=some 18) (v:=?_) (a':=?_) #[Y5,Y5,Y5,Y5,Y5,Y5,Z5,Z5,Z5,Z5,Z5,Z5,Z5,Z5,Z5,Z5,Z5,Z5,Z5,Z5,Z5,Z5,Z5,Z5,Z5,Z5,Z5,Z5,Z5,Z5,Z5,Z5,Z5,Z5,Z5] rfl rfl (any_of HT_.out (by kernel_rfl)) (fun _ _ _ h => h) (Or.inl ⟨by rfl,?_⟩) ?_ ?_;rotate_left
              ·intro w';go_simp;with_reducible rfl
              rotate_left
              ·simp only [Act.put,q15,q25,q35,i64_w,i32_w];rfl
              refine take_ (i:=6) (N:=some 19) (v:=?_) (a':=?_) #[Y5,Y5,Y5,Y5,Y5,Y5,Y5,Z5,Z5,Z5,Z5,Z5,Z5,Z5,Z5,Z5,Z5,Z5,Z5,Z5,Z5,Z5,Z5,Z5,Z5,Z5,Z5,Z5,Z5,Z5,Z5,Z5,Z5,Z5,Z5] rfl rfl (take_ofW HT_.out HW_.out (by kernel_rfl)) (fun _ _ _ h => h) (Or.inl ⟨by rfl,?_⟩) hHeld ?_ ?_;rotate_left
              ·rintro w' ⟨s0,s1,s2,s3,s4,s5,s6,s7⟩
               go_simp
               with_reducible rfl
              rotate_left
              ·simp only [Act.put,q15,q25,q35,i64_w,i32_w];rfl
              refine pure_ (i:=7) (N:=some 20) (v:=?_) (a':=?_) #[Y5,Y5,Y5,Y5,Y5,Y5,Y5,Y5,Z5,Z5,Z5,Z5,Z5,Z5,Z5,Z5,Z5,Z5,Z5,Z5,Z5,Z5,Z5,Z5,Z5,Z5,Z5,Z5,Z5,Z5,Z5,Z5,Z5,Z5,Z5] rfl rfl (any_of HT_.out (by kernel_rfl)) (fun _ _ _ h => h) (Or.inl ⟨by rfl,?_⟩) ?_ ?_;rotate_left
              ·intro w';go_simp;with_reducible rfl
              rotate_left
              ·simp only [Act.put,q15,q25,q35,i64_w,i32_w];rfl
              refine pure_ (i:=8) (N:=some 21) (v:=?_) (a':=?_) #[Y5,Y5,Y5,Y5,Y5,Y5,Y5,Y5,Y5,Z5,Z5,Z5,Z5,Z5,Z5,Z5,Z5,Z5,Z5,Z5,Z5,Z5,Z5,Z5,Z5,Z5,Z5,Z5,Z5,Z5,Z5,Z5,Z5,Z5,Z5] rfl rfl (any_of HT_.out (by kernel_rfl)) (fun _ _ _ h => h) (Or.inl ⟨by rfl,?_⟩) ?_ ?_;rotate_left
              ·intro w';go_simp;with_reducible rfl
              rotate_left
              ·simp only [Act.put,q15,q25,q35,i64_w,i32_w];rfl
              refine pure_ (i:=9) (N:=some 22) (v:=?_) (a':=?_) #[Y5,Y5,Y5,Y5,Y5,Y5,Y5,Y5,Y5,Y5,Z5,Z5,Z5,Z5,Z5,Z5,Z5,Z5,Z5,Z5,Z5,Z5,Z5,Z5,Z5,Z5,Z5,Z5,Z5,Z5,Z5,Z5,Z5,Z5,Z5] rfl rfl (any_of HT_.out (by kernel_rfl)) (fun _ _ _ h => h) (Or.inl ⟨by rfl,?_⟩) ?_ ?_;rotate_left
              ·intro w';go_simp;with_reducible rfl
              rotate_left
              ·simp only [Act.put,q15,q25,q35,i64_w,i32_w];rfl
              refine pure_ (i:=10) (N:=some 23) (v:=?_) (a':=?_) #[Y5,Y5,Y5,Y5,Y5,Y5,Y5,Y5,Y5,Y5,Y5,Z5,Z5,Z5,Z5,Z5,Z5,Z5,Z5,Z5,Z5,Z5,Z5,Z5,Z5,Z5,Z5,Z5,Z5,Z5,Z5,Z5,Z5,Z5,Z5] rfl rfl (any_of HT_.out (by kernel_rfl)) (fun _ _ _ h => h) (Or.inl ⟨by rfl,?_⟩) ?_ ?_;rotate_left
              ·intro w';go_simp;with_reducible rfl
              rotate_left
              ·simp only [Act.put,q15,q25,q35,i64_w,i32_w];rfl
              refine pure_ (i:=11) (N:=some 24) (v:=?_) (a':=?_) #[Y5,Y5,Y5,Y5,Y5,Y5,Y5,Y5,Y5,Y5,Y5,Y5,Z5,Z5,Z5,Z5,Z5,Z5,Z5,Z5,Z5,Z5,Z5,Z5,Z5,Z5,Z5,Z5,Z5,Z5,Z5,Z5,Z5,Z5,Z5] rfl rfl (any_of HT_.out (by kernel_rfl)) (fun _ _ _ h => h) (Or.inl ⟨by rfl,?_⟩) ?_ ?_;rotate_left
              ·intro w';go_simp;with_reducible rfl
              rotate_left
              ·simp only [Act.put,q15,q25,q35,i64_w,i32_w];rfl
              refine take_ (i:=12) (N:=some 25) (v:=?_) (a':=?_) #[Y5,Y5,Y5,Y5,Y5,Y5,Y5,Y5,Y5,Y5,Y5,Y5,Y5,Z5,Z5,Z5,Z5,Z5,Z5,Z5,Z5,Z5,Z5,Z5,Z5,Z5,Z5,Z5,Z5,Z5,Z5,Z5,Z5,Z5,Z5] rfl rfl (take_ofW HT_.out HW_.out (by kernel_rfl)) (fun _ _ _ h => h) (Or.inl ⟨by rfl,?_⟩) hHeld ?_ ?_;rotate_left
              ·rintro w' ⟨s0,s1,s2,s3,s4,s5,s6,s7⟩
               go_simp
               with_reducible rfl
              rotate_left
              ·simp only [Act.put,q15,q25,q35,i64_w,i32_w];rfl
              refine pure_ (i:=13) (N:=some 26) (v:=?_) (a':=?_) #[Y5,Y5,Y5,Y5,Y5,Y5,Y5,Y5,Y5,Y5,Y5,Y5,Y5,Y5,Z5,Z5,Z5,Z5,Z5,Z5,Z5,Z5,Z5,Z5,Z5,Z5,Z5,Z5,Z5,Z5,Z5,Z5,Z5,Z5,Z5] rfl rfl (any_of HT_.out (by kernel_rfl)) (fun _ _ _ h => h) (Or.inl ⟨by rfl,?_⟩) ?_ ?_;rotate_left
              ·intro w';go_simp;with_reducible rfl
              rotate_left
              ·simp only [Act.put,q15,q25,q35,i64_w,i32_w];rfl
              refine pure_ (i:=14) (N:=some 27) (v:=?_) (a':=?_) #[Y5,Y5,Y5,Y5,Y5,Y5,Y5,Y5,Y5,Y5,Y5,Y5,Y5,Y5,Y5,Z5,Z5,Z5,Z5,Z5,Z5,Z5,Z5,Z5,Z5,Z5,Z5,Z5,Z5,Z5,Z5,Z5,Z5,Z5,Z5] rfl rfl (any_of HT_.out (by kernel_rfl)) (fun _ _ _ h => h) (Or.inl ⟨by rfl,?_⟩) ?_ ?_;rotate_left
              ·intro w';go_simp;with_reducible rfl
              rotate_left
              ·simp only [Act.put,q15,q25,q35,i64_w,i32_w];rfl
              refine take_ (i:=15) (N:=some 28) (v:=?_) (a':=?_) #[Y5,Y5,Y5,Y5,Y5,Y5,Y5,Y5,Y5,Y5,Y5,Y5,Y5,Y5,Y5,Y5,Z5,Z5,Z5,Z5,Z5,Z5,Z5,Z5,Z5,Z5,Z5,Z5,Z5,Z5,Z5,Z5,Z5,Z5,Z5] rfl rfl (take_ofW HT_.out HW_.out (by kernel_rfl)) (fun _ _ _ h => h) (Or.inl ⟨by rfl,?_⟩) hHeld ?_ ?_;rotate_left
              ·rintro w' ⟨s0,s1,s2,s3,s4,s5,s6,s7⟩
               go_simp
               with_reducible rfl
              rotate_left
              ·simp only [Act.put,q15,q25,q35,i64_w,i32_w];rfl
              refine pure_ (i:=16) (N:=some 29) (v:=?_) (a':=?_) #[Y5,Y5,Y5,Y5,Y5,Y5,Y5,Y5,Y5,Y5,Y5,Y5,Y5,Y5,Y5,Y5,Y5,Z5,Z5,Z5,Z5,Z5,Z5,Z5,Z5,Z5,Z5,Z5,Z5,Z5,Z5,Z5,Z5,Z5,Z5] rfl rfl (any_of HT_.out (by kernel_rfl)) (fun _ _ _ h => h) (Or.inl ⟨by rfl,?_⟩) ?_ ?_;rotate_left
              ·intro w';go_simp;with_reducible rfl
              rotate_left
              ·simp only [Act.put,q15,q25,q35,i64_w,i32_w];rfl
              refine pure_ (i:=17) (N:=some 30) (v:=?_) (a':=?_) #[Y5,Y5,Y5,Y5,Y5,Y5,Y5,Y5,Y5,Y5,Y5,Y5,Y5,Y5,Y5,Y5,Y5,Y5,Z5,Z5,Z5,Z5,Z5,Z5,Z5,Z5,Z5,Z5,Z5,Z5,Z5,Z5,Z5,Z5,Z5] rfl rfl (any_of HT_.out (by kernel_rfl)) (fun _ _ _ h => h) (Or.inl ⟨by rfl,?_⟩) ?_ ?_;rotate_left
              ·intro w';go_simp;with_reducible rfl
              rotate_left
              ·simp only [Act.put,q15,q25,q35,i64_w,i32_w];rfl
              refine pure_ (i:=18) (N:=some 31) (v:=?_) (a':=?_) #[Y5,Y5,Y5,Y5,Y5,Y5,Y5,Y5,Y5,Y5,Y5,Y5,Y5,Y5,Y5,Y5,Y5,Y5,Y5,Z5,Z5,Z5,Z5,Z5,Z5,Z5,Z5,Z5,Z5,Z5,Z5,Z5,Z5,Z5,Z5] rfl rfl (any_of HT_.out (by kernel_rfl)) (fun _ _ _ h => h) (Or.inl ⟨by rfl,?_⟩) ?_ ?_;rotate_left
              ·intro w';go_simp;with_reducible rfl
              rotate_left
              ·simp only [Act.put,q15,q25,q35,i64_w,i32_w];rfl
              refine pure_ (i:=19) (N:=some 32) (v:=?_) (a':=?_) #[Y5,Y5,Y5,Y5,Y5,Y5,Y5,Y5,Y5,Y5,Y5,Y5,Y5,Y5,Y5,Y5,Y5,Y5,Y5,Y5,Z5,Z5,Z5,Z5,Z5,Z5,Z5,Z5,Z5,Z5,Z5,Z5,Z5,Z5,Z5] rfl rfl (any_of HT_.out (by kernel_rfl)) (fun _ _ _ h => h) (Or.inl ⟨by rfl,?_⟩) ?_ ?_;rotate_left
              ·intro w';go_simp;with_reducible rfl
              rotate_left
              ·simp only [Act.put,q15,q25,q35,i64_w,i32_w];rfl
              refine pure_ (i:=20) (N:=some 33) (v:=?_) (a':=?_) #[Y5,Y5,Y5,Y5,Y5,Y5,Y5,Y5,Y5,Y5,Y5,Y5,Y5,Y5,Y5,Y5,Y5,Y5,Y5,Y5,Y5,Z5,Z5,Z5,Z5,Z5,Z5,Z5,Z5,Z5,Z5,Z5,Z5,Z5,Z5] rfl rfl (any_of HT_.out (by kernel_rfl)) (fun _ _ _ h => h) (Or.inl ⟨by rfl,?_⟩) ?_ ?_;rotate_left
              ·intro w';go_simp;with_reducible rfl
              rotate_left
              ·simp only [Act.put,q15,q25,q35,i64_w,i32_w];rfl
              refine pure_ (i:=21) (N:=some 34) (v:=?_) (a':=?_) #[Y5,Y5,Y5,Y5,Y5,Y5,Y5,Y5,Y5,Y5,Y5,Y5,Y5,Y5,Y5,Y5,Y5,Y5,Y5,Y5,Y5,Y5,Z5,Z5,Z5,Z5,Z5,Z5,Z5,Z5,Z5,Z5,Z5,Z5,Z5] rfl rfl (any_of HT_.out (by kernel_rfl)) (fun _ _ _ h => h) (Or.inl ⟨by rfl,?_⟩) ?_ ?_;rotate_left
              ·intro w';go_simp;with_reducible rfl
              rotate_left
              ·simp only [Act.put,q15,q25,q35,i64_w,i32_w];rfl
              refine pure_ (i:=22) (N:=some 35) (v:=?_) (a':=?_) #[Y5,Y5,Y5,Y5,Y5,Y5,Y5,Y5,Y5,Y5,Y5,Y5,Y5,Y5,Y5,Y5,Y5,Y5,Y5,Y5,Y5,Y5,Y5,Z5,Z5,Z5,Z5,Z5,Z5,Z5,Z5,Z5,Z5,Z5,Z5] rfl rfl (any_of HT_.out (by kernel_rfl)) (fun _ _ _ h => h) (Or.inl ⟨by rfl,?_⟩) ?_ ?_;rotate_left
              ·intro w';go_simp;with_reducible rfl
              rotate_left
              ·simp only [Act.put,q15,q25,q35,i64_w,i32_w];rfl
              refine pure_ (i:=23) (N:=some 36) (v:=?_) (a':=?_) #[Y5,Y5,Y5,Y5,Y5,Y5,Y5,Y5,Y5,Y5,Y5,Y5,Y5,Y5,Y5,Y5,Y5,Y5,Y5,Y5,Y5,Y5,Y5,Y5,Z5,Z5,Z5,Z5,Z5,Z5,Z5,Z5,Z5,Z5,Z5] rfl rfl (any_of HT_.out (by kernel_rfl)) (fun _ _ _ h => h) (Or.inl ⟨by rfl,?_⟩) ?_ ?_;rotate_left
              ·intro w';go_simp;with_reducible rfl
              rotate_left
              ·simp only [Act.put,q15,q25,q35,i64_w,i32_w];rfl
              refine pure_ (i:=25) (N:=some 38) (v:=?_) (a':=?_) #[Y5,Y5,Y5,Y5,Y5,Y5,Y5,Y5,Y5,Y5,Y5,Y5,Y5,Y5,Y5,Y5,Y5,Y5,Y5,Y5,Y5,Y5,Y5,Y5,Z5,Y5,Z5,Z5,Z5,Z5,Z5,Z5,Z5,Z5,Z5] rfl rfl (any_of HT_.out (by kernel_rfl)) (fun _ _ _ h => h) (Or.inl ⟨by rfl,?_⟩) ?_ ?_;rotate_left
              ·intro w';go_simp;with_reducible rfl
              rotate_left
              ·simp only [Act.put,q15,q25,q35,i64_w,i32_w];rfl
              refine pure_ (i:=26) (N:=some 39) (v:=?_) (a':=?_) #[Y5,Y5,Y5,Y5,Y5,Y5,Y5,Y5,Y5,Y5,Y5,Y5,Y5,Y5,Y5,Y5,Y5,Y5,Y5,Y5,Y5,Y5,Y5,Y5,Z5,Y5,Y5,Z5,Z5,Z5,Z5,Z5,Z5,Z5,Z5] rfl rfl (any_of HT_.out (by kernel_rfl)) (fun _ _ _ h => h) (Or.inl ⟨by rfl,?_⟩) ?_ ?_;rotate_left
              ·intro w';go_simp;with_reducible rfl
              rotate_left
              ·simp only [Act.put,q15,q25,q35,i64_w,i32_w];rfl
              refine pure_ (i:=30) (N:=some 43) (v:=?_) (a':=?_) #[Y5,Y5,Y5,Y5,Y5,Y5,Y5,Y5,Y5,Y5,Y5,Y5,Y5,Y5,Y5,Y5,Y5,Y5,Y5,Y5,Y5,Y5,Y5,Y5,Z5,Y5,Y5,Z5,Z5,Z5,Y5,Z5,Z5,Z5,Z5] rfl rfl (any_of HT_.out (by kernel_rfl)) (fun _ _ _ h => h) (Or.inl ⟨by rfl,?_⟩) ?_ ?_;rotate_left
              ·intro w';go_simp;with_reducible rfl
              rotate_left
              ·simp only [Act.put,q15,q25,q35,i64_w,i32_w];rfl
              refine take_ (i:=24) (N:=some 37) (v:=?_) (a':=?_) #[Y5,Y5,Y5,Y5,Y5,Y5,Y5,Y5,Y5,Y5,Y5,Y5,Y5,Y5,Y5,Y5,Y5,Y5,Y5,Y5,Y5,Y5,Y5,Y5,Y5,Y5,Y5,Z5,Z5,Z5,Y5,Z5,Z5,Z5,Z5] rfl rfl (take_ofW HT_.out HW_.out (by kernel_rfl)) (fun _ _ _ h => h) (Or.inl ⟨by rfl,?_⟩) hHeld ?_ ?_;rotate_left
              ·rintro w' ⟨s0,s1,s2,s3,s4,s5,s6,s7⟩
               go_simp
               with_reducible rfl
              rotate_left
              ·simp only [Act.put,q15,q25,q35,i64_w,i32_w];rfl
              refine pure_ (i:=27) (N:=some 40) (v:=?_) (a':=?_) #[Y5,Y5,Y5,Y5,Y5,Y5,Y5,Y5,Y5,Y5,Y5,Y5,Y5,Y5,Y5,Y5,Y5,Y5,Y5,Y5,Y5,Y5,Y5,Y5,Y5,Y5,Y5,Y5,Z5,Z5,Y5,Z5,Z5,Z5,Z5] rfl rfl (any_of HT_.out (by kernel_rfl)) (fun _ _ _ h => h) (Or.inl ⟨by rfl,?_⟩) ?_ ?_;rotate_left
              ·intro w';go_simp;with_reducible rfl
              rotate_left
              ·simp only [Act.put,q15,q25,q35,i64_w,i32_w];rfl
              refine pure_ (i:=28) (N:=some 41) (v:=?_) (a':=?_) #[Y5,Y5,Y5,Y5,Y5,Y5,Y5,Y5,Y5,Y5,Y5,Y5,Y5,Y5,Y5,Y5,Y5,Y5,Y5,Y5,Y5,Y5,Y5,Y5,Y5,Y5,Y5,Y5,Y5,Z5,Y5,Z5,Z5,Z5,Z5] rfl rfl (any_of HT_.out (by kernel_rfl)) (fun _ _ _ h => h) (Or.inl ⟨by rfl,?_⟩) ?_ ?_;rotate_left
              ·intro w';go_simp;with_reducible rfl
              rotate_left
              ·simp only [Act.put,q15,q25,q35,i64_w,i32_w];rfl
              refine take_ (i:=29) (N:=some 42) (v:=?_) (a':=?_) #[Y5,Y5,Y5,Y5,Y5,Y5,Y5,Y5,Y5,Y5,Y5,Y5,Y5,Y5,Y5,Y5,Y5,Y5,Y5,Y5,Y5,Y5,Y5,Y5,Y5,Y5,Y5,Y5,Y5,Y5,Y5,Z5,Z5,Z5,Z5] rfl rfl (take_ofW HT_.out HW_.out (by kernel_rfl)) (fun _ _ _ h => h) (Or.inl ⟨by rfl,?_⟩) hHeld ?_ ?_;rotate_left
              ·rintro w' ⟨s0,s1,s2,s3,s4,s5,s6,s7⟩
               go_simp
               with_reducible rfl
              rotate_left
              ·simp only [Act.put,q15,q25,q35,i64_w,i32_w];rfl
              refine take_ (i:=31) (N:=some 44) (v:=?_) (a':=?_) #[Y5,Y5,Y5,Y5,Y5,Y5,Y5,Y5,Y5,Y5,Y5,Y5,Y5,Y5,Y5,Y5,Y5,Y5,Y5,Y5,Y5,Y5,Y5,Y5,Y5,Y5,Y5,Y5,Y5,Y5,Y5,Y5,Z5,Z5,Z5] rfl rfl (take_ofW HT_.out HW_.out (by kernel_rfl)) (fun _ _ _ h => h) (Or.inl ⟨by rfl,?_⟩) hHeld ?_ ?_;rotate_left
              ·rintro w' ⟨s0,s1,s2,s3,s4,s5,s6,s7⟩
               go_simp
               with_reducible rfl
              rotate_left
              ·simp only [Act.put,q15,q25,q35,i64_w,i32_w];rfl
              refine pure_ (i:=32) (N:=some 45) (v:=?_) (a':=?_) #[Y5,Y5,Y5,Y5,Y5,Y5,Y5,Y5,Y5,Y5,Y5,Y5,Y5,Y5,Y5,Y5,Y5,Y5,Y5,Y5,Y5,Y5,Y5,Y5,Y5,Y5,Y5,Y5,Y5,Y5,Y5,Y5,Y5,Z5,Z5] rfl rfl (any_of HT_.out (by kernel_rfl)) (fun _ _ _ h => h) (Or.inl ⟨by rfl,?_⟩) ?_ ?_;rotate_left
              ·intro w';go_simp;with_reducible rfl
              rotate_left
              ·simp only [Act.put,q15,q25,q35,i64_w,i32_w];rfl
              refine pure_ (i:=33) (N:=some 46) (v:=?_) (a':=?_) #[Y5,Y5,Y5,Y5,Y5,Y5,Y5,Y5,Y5,Y5,Y5,Y5,Y5,Y5,Y5,Y5,Y5,Y5,Y5,Y5,Y5,Y5,Y5,Y5,Y5,Y5,Y5,Y5,Y5,Y5,Y5,Y5,Y5,Y5,Z5] rfl rfl (any_of HT_.out (by kernel_rfl)) (fun _ _ _ h => h) (Or.inl ⟨by rfl,?_⟩) ?_ ?_;rotate_left
              ·intro w';go_simp;with_reducible rfl
              rotate_left
              ·simp only [Act.put,q15,q25,q35,i64_w,i32_w];rfl
              refine pure_ (i:=34) (N:=some 47) (v:=?_) (a':=?_) #[Y5,Y5,Y5,Y5,Y5,Y5,Y5,Y5,Y5,Y5,Y5,Y5,Y5,Y5,Y5,Y5,Y5,Y5,Y5,Y5,Y5,Y5,Y5,Y5,Y5,Y5,Y5,Y5,Y5,Y5,Y5,Y5,Y5,Y5,Y5] rfl rfl (any_of HT_.out (by kernel_rfl)) (fun _ _ _ h => h) (Or.inl ⟨by rfl,?_⟩) ?_ ?_;rotate_left
              ·intro w';go_simp;with_reducible rfl
              rotate_left
              ·simp only [Act.put,q15,q25,q35,i64_w,i32_w];rfl
              refine done_ (done_of HT_.out (by kernel_rfl)) ?_
              try go_wp2
              go_roundg k1
              case measure => have:=HK1.out;omega
              case rel => exact ⟨(wrap64 (x8_1 + 1)),(by first | rfl | (simp;done) | (simp [*];done)),H',⟨by have:=HK1.out;omega⟩,⟨by (with_reducible repeat (first | refine blk_drewN ?_ _ | refine blk_drew ?_ | refine blk_alloc ?_ _));exact BK167.out⟩,⟨by repeat (first | (with_reducible first | exact HB.out | apply below_alloc | apply pw_below_drewN | apply below_drew1 | refine below_set ?_ GE167.out | refine below_set ?_ GE169.out) | exact HB.out)⟩⟩
             ·rw [if_neg c22] at H
              have c22b0 : (Op.bytesLess (((rd_T86 l0_1 (ji19)).f0).toList) (((rd_T86 l0_1 x8_1).f0).toList)) = false:=by simpa using c22
              clear c22
              obtain rfl:=Option.some.inj H
              have p168 : 0 ≤ (x8_1 : Int):=of_decide_eq_true (by first | (with_reducible assumption) | assumption)
              have q168 : x8_1 < (l0_1.length : Int):=of_decide_eq_true (by first | (with_reducible assumption) | assumption)
              obtain ⟨ad168,e168,hx168_0,hx168_1,hx168_2⟩:=at_T86 HR0_1.out x8_1 p168 q168
              (try rw [← Nbq15.out] at hx168_2)
              cases e168
              replace hx168_0:=(HB.out.cell (World.block_lt_of_cell? w _ hx168_0)).trans hx168_0
              replace hx168_1:=(HB.out.cell (World.block_lt_of_cell? w _ hx168_1)).trans hx168_1
              replace hx168_2:=(HB.out.cell (World.block_lt_of_cell? w _ hx168_2)).trans hx168_2
              replace p168:=eq_true p168
              replace q168:=eq_true q168
              try go_wp2_with (first | ((with_reducible refine gate_dst (N:=4) rfl ?_);(try (refine gate_guard (by rfl) ?_;dsimp only));refine box_event ?hg (N:=4) ?hd (cs:=#[.string (⟨#[]⟩ : ByteArray),.string (⟨#[]⟩ : ByteArray),.bool false]) (t:=86) ?hr ?_;(case hd => rfl);(case hg => rfl);(case hr => first | (go_simp;done) | (go_simp;rfl));intro gb169 hg w28 hbox hb;have n0_:=Aside0.mk (blk_below (g:=gb167) (o:=.cells #[.int .i64 a0_0,.slice (some ad168) l0_1.length c0_1] 47 (0,0)) (by (with_reducible repeat (first | refine blk_drewN ?_ _ | refine blk_drew ?_ | refine blk_alloc ?_ _));exact BK167.out) hb);have n1_:=Aside0.mk (below_step (by repeat (first | (with_reducible first | exact HB.out | apply below_alloc | apply pw_below_drewN | apply below_drew1 | refine below_set ?_ GE167.out) | exact HB.out)) hb);have n2_:=Aside0.mk (hbox);have n3_:=Aside0.mk ((by rw [hg];exact (below_size (by repeat (first | (with_reducible first | exact HB.out | apply below_alloc | apply pw_below_drewN | apply below_drew1 | refine below_set ?_ GE167.out) | exact HB.out))) : w.heap.size ≤ gb169));have n4_:=Aside0.mk ((by rw [hg];exact (below_size (by repeat (first | (with_reducible first | exact HB.out | apply below_alloc | apply pw_below_drewN | apply below_drew1 | refine below_set ?_ GE167.out) | exact HB.out))) : w.heap.size ≤ gb169));have n5_:=Aside0.mk ((by rw [hg];exact Nat.ne_of_lt (blk_lt (g:=gb167) (o:=.cells #[.int .i64 a0_0,.slice (some ad168) l0_1.length c0_1] 47 (0,0)) (by (with_reducible repeat (first | refine blk_drewN ?_ _ | refine blk_drew ?_ | refine blk_alloc ?_ _));exact BK167.out)) : gb167 ≠ gb169));have n6_:=Aside0.mk ((by rw [hg];exact Nat.ne_of_gt (blk_lt (g:=gb167) (o:=.cells #[.int .i64 a0_0,.slice (some ad168) l0_1.length c0_1] 47 (0,0)) (by (with_reducible repeat (first | refine blk_drewN ?_ _ | refine blk_drew ?_ | refine blk_alloc ?_ _));exact BK167.out)) : gb169 ≠ gb167));clear BK167;clear HB;have BK167:=n0_;have HB:=n1_;have BK169:=n2_;have GW169:=n3_;have GE169:=n4_;have NB167_169:=n5_;have NB169_167:=n6_;clear n0_ n1_ n2_ n3_ n4_ n5_ n6_;clear hb hbox hg;have hnb29:=NB169_167.out;have hnc29:=NB167_169.out;have hcz30_0 : w28.cell? ⟨gb169,0,none⟩ = some (.string (⟨#[]⟩ : ByteArray)):=(blk_cell BK169.out 0).trans rfl;have hcz30_1 : w28.cell? ⟨gb169,1,none⟩ = some (.string (⟨#[]⟩ : ByteArray)):=(blk_cell BK169.out 1).trans rfl;have hcz30_2 : w28.cell? ⟨gb169,2,none⟩ = some (.bool false):=(blk_cell BK169.out 2).trans rfl;have hfz30_0:=blk_frozen BK169.out 0;have hfz30_1:=blk_frozen BK169.out 1;have hfz30_2:=blk_frozen BK169.out 2))
              have n0_ : Aside0 ((((w28.setCell ⟨gb169,0,none⟩ (.string ((rd_T86 l0_1 x8_1).f0))).setCell ⟨gb169,1,none⟩ (.string ((rd_T86 l0_1 x8_1).f1))).setCell ⟨gb169,2,none⟩ (.bool true)).heap[gb167]? = some (.cells #[.int .i64 a0_0,.slice (some ad168) l0_1.length c0_1] 47 (0,0))):=⟨by (with_reducible repeat (first | refine blk_drewN ?_ _ | refine blk_drew ?_ | refine blk_alloc ?_ _));refine blk_far ?_ NB167_169.out _;(with_reducible repeat (first | refine blk_drewN ?_ _ | refine blk_drew ?_ | refine blk_alloc ?_ _));refine blk_far ?_ NB167_169.out _;(with_reducible repeat (first | refine blk_drewN ?_ _ | refine blk_drew ?_ | refine blk_alloc ?_ _));refine blk_far ?_ NB167_169.out _;(with_reducible repeat (first | refine blk_drewN ?_ _ | refine blk_drew ?_ | refine blk_alloc ?_ _));exact BK167.out⟩
              have n1_ : Aside0 ((((w28.setCell ⟨gb169,0,none⟩ (.string ((rd_T86 l0_1 x8_1).f0))).setCell ⟨gb169,1,none⟩ (.string ((rd_T86 l0_1 x8_1).f1))).setCell ⟨gb169,2,none⟩ (.bool true)).heap[gb169]? = some (.cells #[.string ((rd_T86 l0_1 x8_1).f0),.string ((rd_T86 l0_1 x8_1).f1),.bool true] 86 (0,0))):=⟨by (with_reducible repeat (first | refine blk_drewN ?_ _ | refine blk_drew ?_ | refine blk_alloc ?_ _));refine blk_put (cs:=#[.string ((rd_T86 l0_1 x8_1).f0),.string ((rd_T86 l0_1 x8_1).f1),.bool false]) ?_ 2 _ rfl;(with_reducible repeat (first | refine blk_drewN ?_ _ | refine blk_drew ?_ | refine blk_alloc ?_ _));refine blk_put (cs:=#[.string ((rd_T86 l0_1 x8_1).f0),.string (⟨#[]⟩ : ByteArray),.bool false]) ?_ 1 _ rfl;(with_reducible repeat (first | refine blk_drewN ?_ _ | refine blk_drew ?_ | refine blk_alloc ?_ _));refine blk_put (cs:=#[.string (⟨#[]⟩ : ByteArray),.string (⟨#[]⟩ : ByteArray),.bool false]) ?_ 0 _ rfl;(with_reducible repeat (first | refine blk_drewN ?_ _ | refine blk_drew ?_ | refine blk_alloc ?_ _));exact BK169.out⟩
              have n2_ : Aside0 (Below w.heap.size w (((w28.setCell ⟨gb169,0,none⟩ (.string ((rd_T86 l0_1 x8_1).f0))).setCell ⟨gb169,1,none⟩ (.string ((rd_T86 l0_1 x8_1).f1))).setCell ⟨gb169,2,none⟩ (.bool true))):=⟨by repeat (first | (with_reducible first | exact HB.out | apply below_alloc | apply pw_below_drewN | apply below_drew1 | refine below_set ?_ GE167.out | refine below_set ?_ GE169.out) | exact HB.out)⟩
              (try clear BK167)
              (try clear BK169)
              (try clear HB)
              generalize (((w28.setCell ⟨gb169,0,none⟩ (.string ((rd_T86 l0_1 x8_1).f0))).setCell ⟨gb169,1,none⟩ (.string ((rd_T86 l0_1 x8_1).f1))).setCell ⟨gb169,2,none⟩ (.bool true)) = w31 at n0_ n1_ n2_ ⊢
              have BK167:=n0_
              have BK169:=n1_
              have HB:=n2_
              clear n0_ n1_ n2_
              have n0_:=Aside0.mk (blk_drew BK167.out)
              have n1_:=Aside0.mk (blk_drew BK169.out)
              have n2_:=Aside0.mk (below_drew1 HB.out)
              clear BK167
              clear BK169
              clear HB
              have BK167:=n0_
              have BK169:=n1_
              have HB:=n2_
              clear n0_ n1_ n2_
              have p171 : 0 ≤ ((ji19) : Int):=of_decide_eq_true (by first | (with_reducible assumption) | assumption)
              have q171 : (ji19) < (l0_1.length : Int):=of_decide_eq_true (by first | (with_reducible assumption) | assumption)
              obtain ⟨ad171,e171,hx171_0,hx171_1,hx171_2⟩:=at_T86 HR0_1.out (ji19) p171 q171
              have hw171_2:=hx171_2
              have hw171_1:=hx171_1
              have hw171_0:=hx171_0
              (try rw [← Nbq15.out] at hx171_2)
              obtain rfl : ad168 = ad171:=(by injection e171)
              replace hx171_0:=(HB.out.cell (World.block_lt_of_cell? w _ hx171_0)).trans hx171_0
              replace hx171_1:=(HB.out.cell (World.block_lt_of_cell? w _ hx171_1)).trans hx171_1
              replace hx171_2:=(HB.out.cell (World.block_lt_of_cell? w _ hx171_2)).trans hx171_2
              replace p171:=eq_true p171
              replace q171:=eq_true q171
              refine start_ (n:=35) (S:=fun w' => w'.cell? ⟨gb169,0,none⟩ = some (.string ((rd_T86 l0_1 x8_1).f0)) ∧ w'.cell? ⟨gb169,1,none⟩ = some (.string ((rd_T86 l0_1 x8_1).f1)) ∧ w'.cell? ⟨gb169,2,none⟩ = some (.bool true) ∧ w'.cell? ⟨gb167,0,none⟩ = some (.int .i64 a0_0) ∧ w'.cell? ⟨gb167,1,none⟩ = some (.slice (some ad168) l0_1.length c0_1) ∧ w'.cell? (ad168.add (((ji19)).toNat * 3)) = some (.string ((rd_T86 l0_1 (ji19)).f0)) ∧ w'.cell? ⟨(ad168.add (((ji19)).toNat * 3)).block,(ad168.add (((ji19)).toNat * 3)).off + 1,none⟩ = some (.string ((rd_T86 l0_1 (ji19)).f1)) ∧ w'.cell? ⟨(ad168.add (((ji19)).toNat * 3)).block,(ad168.add (((ji19)).toNat * 3)).off + 2,none⟩ = some (.bool ((rd_T86 l0_1 (ji19)).f2))) (ds:=[]) #[Z5,Z5,Z5,Z5,Z5,Z5,Z5,Z5,Z5,Z5,Z5,Z5,Z5,Z5,Z5,Z5,Z5,Z5,Z5,Z5,Z5,Z5,Z5,Z5,Z5,Z5,Z5,Z5,Z5,Z5,Z5,Z5,Z5,Z5,Z5] (by kernel_rfl) rfl rfl ⟨(blk_cell BK169.out 0).trans rfl,(blk_cell BK169.out 1).trans rfl,(blk_cell BK169.out 2).trans rfl,(blk_cell BK167.out 0).trans rfl,(blk_cell BK167.out 1).trans rfl,((HB.out.cell (World.block_lt_of_cell? w _ hw171_0)).trans hw171_0),((HB.out.cell (World.block_lt_of_cell? w _ hw171_1)).trans hw171_1),((HB.out.cell (World.block_lt_of_cell? w _ hw171_2)).trans hw171_2)⟩ (fun hHeld => ?_);refine with_tabW impl_BatchOk.tab4 impl_BatchOk.bits4 (fun HT_ HW_ => ?_)
              generalize w31.drew = w32 at BK167 BK169 HB hx171_0 hx171_1 hx171_2 hHeld ⊢
              refine pure_ (i:=0) (N:=some 13) (v:=?_) (a':=?_) #[Y5,Z5,Z5,Z5,Z5,Z5,Z5,Z5,Z5,Z5,Z5,Z5,Z5,Z5,Z5,Z5,Z5,Z5,Z5,Z5,Z5,Z5,Z5,Z5,Z5,Z5,Z5,Z5,Z5,Z5,Z5,Z5,Z5,Z5,Z5] rfl rfl (any_of HT_.out (by kernel_rfl)) (fun _ _ _ h => h) (Or.inl ⟨by rfl,?_⟩) ?_ ?_;rotate_left
              ·intro w';go_simp;with_reducible rfl
              rotate_left
              ·simp only [Act.put,q15,q25,q35,i64_w,i32_w];rfl
              refine take_ (i:=1) (N:=some 14) (v:=?_) (a':=?_) #[Y5,Y5,Z5,Z5,Z5,Z5,Z5,Z5,Z5,Z5,Z5,Z5,Z5,Z5,Z5,Z5,Z5,Z5,Z5,Z5,Z5,Z5,Z5,Z5,Z5,Z5,Z5,Z5,Z5,Z5,Z5,Z5,Z5,Z5,Z5] rfl rfl (take_ofW HT_.out HW_.out (by kernel_rfl)) (fun _ _ _ h => h) (Or.inl ⟨by rfl,?_⟩) hHeld ?_ ?_;rotate_left
              ·rintro w' ⟨s0,s1,s2,s3,s4,s5,s6,s7⟩
               go_simp
               with_reducible rfl
              rotate_left
              ·simp only [Act.put,q15,q25,q35,i64_w,i32_w];rfl
              refine one_ (i:=2) (N:=some 15) #[Y5,Y5,Y5,Z5,Z5,Z5,Z5,Z5,Z5,Z5,Z5,Z5,Z5,Z5,Z5,Z5,Z5,Z5,Z5,Z5,Z5,Z5,Z5,Z5,Z5,Z5,Z5,Z5,Z5,Z5,Z5,Z5,Z5,Z5,Z5] rfl rfl (one_of HT_.out (by kernel_rfl)) (by decide) (fun K hK => ?_)
              refine goes_ Try.func45 (by kernel_rfl) rfl #[.string ((rd_T86 l0_1 x8_1).f0)] (by rfl) rfl rfl (by (try simp only [List.map_toArray,List.map_cons,List.map_nil]);first | done | rfl | (simp only [List.length_drop,List.length_take];rfl)) ?_
              with_reducible refine (impl_keyOk.calls ((rd_T86 l0_1 x8_1).f0) true _ A7.out).mono ?_
              rintro e w' ⟨rfl,⟨nd,rfl⟩⟩
              refine ⟨_,rfl,?_⟩
              refine hK.out _ _ ⟨(blk_cell BK169.out 0).trans rfl,(blk_cell BK169.out 1).trans rfl,(blk_cell BK169.out 2).trans rfl,(blk_cell BK167.out 0).trans rfl,(blk_cell BK167.out 1).trans rfl,((HB.out.cell (World.block_lt_of_cell? w _ hw171_0)).trans hw171_0),((HB.out.cell (World.block_lt_of_cell? w _ hw171_1)).trans hw171_1),((HB.out.cell (World.block_lt_of_cell? w _ hw171_2)).trans hw171_2)⟩ (fun hHeld => ?_)
              clear hK K
              refine norm_ (a':=?_) ?_ ?_;rotate_left
              ·show Act.put _ (some 15) _ = _;simp only [Act.put,q15,q25,q35,i64_w,i32_w];rfl
              refine pure_ (i:=3) (N:=some 16) (v:=?_) (a':=?_) #[Y5,Y5,Y5,Y5,Z5,Z5,Z5,Z5,Z5,Z5,Z5,Z5,Z5,Z5,Z5,Z5,Z5,Z5,Z5,Z5,Z5,Z5,Z5,Z5,Z5,Z5,Z5,Z5,Z5,Z5,Z5,Z5,Z5,Z5,Z5] rfl rfl (any_of HT_.out (by kernel_rfl)) (fun _ _ _ h => h) (Or.inl ⟨by rfl,?_⟩) ?_ ?_;rotate_left
              ·intro w';go_simp;with_reducible rfl
              rotate_left
              ·simp only [Act.put,q15,q25,q35,i64_w,i32_w];rfl
              refine pure_ (i:=4) (N:=some 17) (v:=?_) (a':=?_) #[Y5,Y5,Y5,Y5,Y5,Z5,Z5,Z5,Z5,Z5,Z5,Z5,Z5,Z5,Z5,Z5,Z5,Z5,Z5,Z5,Z5,Z5,Z5,Z5,Z5,Z5,Z5,Z5,Z5,Z5,Z5,Z5,Z5,Z5,Z5] rfl rfl (any_of HT_.out (by kernel_rfl)) (fun _ _ _ h => h) (Or.inl ⟨by rfl,?_⟩) ?_ ?_;rotate_left
              ·intro w';go_simp;with_reducible rfl
              rotate_left
              ·simp only [Act.put,q15,q25,q35,i64_w,i32_w];rfl
              refine pure_ (i:=5) (N:=some 18) (v:=?_) (a':=?_) #[Y5,Y5,Y5,Y5,Y5,Y5,Z5,Z5,Z5,Z5,Z5,Z5,Z5,Z5,Z5,Z5,Z5,Z5,Z5,Z5,Z5,Z5,Z5,Z5,Z5,Z5,Z5,Z5,Z5,Z5,Z5,Z5,Z5,Z5,Z5] rfl rfl (any_of HT_.out (by kernel_rfl)) (fun _ _ _ h => h) (Or.inl ⟨by rfl,?_⟩) ?_ ?_;rotate_left
              ·intro w';go_simp;with_reducible rfl
              rotate_left
              ·simp only [Act.put,q15,q25,q35,i64_w,i32_w];rfl
              refine take_ (i:=6) (N:=some 19) (v:=?_) (a':=?_) #[Y5,Y5,Y5,Y5,Y5,Y5,Y5,Z5,Z5,Z5,Z5,Z5,Z5,Z5,Z5,Z5,Z5,Z5,Z5,Z5,Z5,Z5,Z5,Z5,Z5,Z5,Z5,Z5,Z5,Z5,Z5,Z5,Z5,Z5,Z5] rfl rfl (take_ofW HT_.out HW_.out (by kernel_rfl)) (fun _ _ _ h => h) (Or.inl ⟨by rfl,?_⟩) hHeld ?_ ?_;rotate_left
              ·rintro w' ⟨s0,s1,s2,s3,s4,s5,s6,s7⟩
               go_simp
               with_reducible rfl
              rotate_left
              ·simp only [Act.put,q15,q25,q35,i64_w,i32_w];rfl
              refine pure_ (i:=7) (N:=some 20) (v:=?_) (a':=?_) #[Y5,Y5,Y5,Y5,Y5,Y5,Y5,Y5,Z5,Z5,Z5,Z5,Z5,Z5,Z5,Z5,Z5,Z5,Z5,Z5,Z5,Z5,Z5,Z5,Z5,Z5,Z5,Z5,Z5,Z5,Z5,Z5,Z5,Z5,Z5] rfl rfl (any_of HT_.out (by kernel_rfl)) (fun _ _ _ h => h) (Or.inl ⟨by rfl,?_⟩) ?_ ?_;rotate_left
              ·intro w';go_simp;with_reducible rfl
              rotate_left
              ·simp only [Act.put,q15,q25,q35,i64_w,i32_w];rfl
              refine pure_ (i:=8) (N:=some 21) (v:=?_) (a':=?_) #[Y5,Y5,Y5,Y5,Y5,Y5,Y5,Y5,Y5,Z5,Z5,Z5,Z5,Z5,Z5,Z5,Z5,Z5,Z5,Z5,Z5,Z5,Z5,Z5,Z5,Z5,Z5,Z5,Z5,Z5,Z5,Z5,Z5,Z5,Z5] rfl rfl (any_of HT_.out (by kernel_rfl)) (fun _ _ _ h => h) (Or.inl ⟨by rfl,?_⟩) ?_ ?_;rotate_left
              ·intro w';go_simp;with_reducible rfl
              rotate_left
              ·simp only [Act.put,q15,q25,q35,i64_w,i32_w];rfl
              refine pure_ (i:=9) (N:=some 22) (v:=?_) (a':=?_) #[Y5,Y5,Y5,Y5,Y5,Y5,Y5,Y5,Y5,Y5,Z5,Z5,Z5,Z5,Z5,Z5,Z5,Z5,Z5,Z5,Z5,Z5,Z5,Z5,Z5,Z5,Z5,Z5,Z5,Z5,Z5,Z5,Z5,Z5,Z5] rfl rfl (any_of HT_.out (by kernel_rfl)) (fun _ _ _ h => h) (Or.inl ⟨by rfl,?_⟩) ?_ ?_;rotate_left
              ·intro w';go_simp;with_reducible rfl
              rotate_left
              ·simp only [Act.put,q15,q25,q35,i64_w,i32_w];rfl
              refine pure_ (i:=10) (N:=some 23) (v:=?_) (a':=?_) #[Y5,Y5,Y5,Y5,Y5,Y5,Y5,Y5,Y5,Y5,Y5,Z5,Z5,Z5,Z5,Z5,Z5,Z5,Z5,Z5,Z5,Z5,Z5,Z5,Z5,Z5,Z5,Z5,Z5,Z5,Z5,Z5,Z5,Z5,Z5] rfl rfl (any_of HT_.out (by kernel_rfl)) (fun _ _ _ h => h) (Or.inl ⟨by rfl,?_⟩) ?_ ?_;rotate_left
              ·intro w';go_simp;with_reducible rfl
              rotate_left
              ·simp only [Act.put,q15,q25,q35,i64_w,i32_w];rfl
              refine pure_ (i:=11) (N:=some 24) (v:=?_) (a':=?_) #[Y5,Y5,Y5,Y5,Y5,Y5,Y5,Y5,Y5,Y5,Y5,Y5,Z5,Z5,Z5,Z5,Z5,Z5,Z5,Z5,Z5,Z5,Z5,Z5,Z5,Z5,Z5,Z5,Z5,Z5,Z5,Z5,Z5,Z5,Z5] rfl rfl (any_of HT_.out (by kernel_rfl)) (fun _ _ _ h => h) (Or.inl ⟨by rfl,?_⟩) ?_ ?_;rotate_left
              ·intro w';go_simp;with_reducible rfl
              rotate_left
              ·simp only [Act.put,q15,q25,q35,i64_w,i32_w];rfl
              refine take_ (i:=12) (N:=some 25) (v:=?_) (a':=?_) #[Y5,Y5,Y5,Y5,Y5,Y5,Y5,Y5,Y5,Y5,Y5,Y5,Y5,Z5,Z5,Z5,Z5,Z5,Z5,Z5,Z5,Z5,Z5,Z5,Z5,Z5,Z5,Z5,Z5,Z5,Z5,Z5,Z5,Z5,Z5] rfl rfl (take_ofW HT_.out HW_.out (by kernel_rfl)) (fun _ _ _ h => h) (Or.inl ⟨by rfl,?_⟩) hHeld ?_ ?_;rotate_left
              ·rintro w' ⟨s0,s1,s2,s3,s4,s5,s6,s7⟩
               go_simp
               with_reducible rfl
              rotate_left
              ·simp only [Act.put,q15,q25,q35,i64_w,i32_w];rfl
              refine pure_ (i:=13) (N:=some 26) (v:=?_) (a':=?_) #[Y5,Y5,Y5,Y5,Y5,Y5,Y5,Y5,Y5,Y5,Y5,Y5,Y5,Y5,Z5,Z5,Z5,Z5,Z5,Z5,Z5,Z5,Z5,Z5,Z5,Z5,Z5,Z5,Z5,Z5,Z5,Z5,Z5,Z5,Z5] rfl rfl (any_of HT_.out (by kernel_rfl)) (fun _ _ _ h => h) (Or.inl ⟨by rfl,?_⟩) ?_ ?_;rotate_left
              ·intro w';go_simp;with_reducible rfl
              rotate_left
              ·simp only [Act.put,q15,q25,q35,i64_w,i32_w];rfl
              refine pure_ (i:=14) (N:=some 27) (v:=?_) (a':=?_) #[Y5,Y5,Y5,Y5,Y5,Y5,Y5,Y5,Y5,Y5,Y5,Y5,Y5,Y5,Y5,Z5,Z5,Z5,Z5,Z5,Z5,Z5,Z5,Z5,Z5,Z5,Z5,Z5,Z5,Z5,Z5,Z5,Z5,Z5,Z5] rfl rfl (any_of HT_.out (by kernel_rfl)) (fun _ _ _ h => h) (Or.inl ⟨by rfl,?_⟩) ?_ ?_;rotate_left
              ·intro w';go_simp;with_reducible rfl
              rotate_left
              ·simp only [Act.put,q15,q25,q35,i64_w,i32_w];rfl
              refine take_ (i:=15) (N:=some 28) (v:=?_) (a':=?_) #[Y5,Y5,Y5,Y5,Y5,Y5,Y5,Y5,Y5,Y5,Y5,Y5,Y5,Y5,Y5,Y5,Z5,Z5,Z5,Z5,Z5,Z5,Z5,Z5,Z5,Z5,Z5,Z5,Z5,Z5,Z5,Z5,Z5,Z5,Z5] rfl rfl (take_ofW HT_.out HW_.out (by kernel_rfl)) (fun _ _ _ h => h) (Or.inl ⟨by rfl,?_⟩) hHeld ?_ ?_;rotate_left
              ·rintro w' ⟨s0,s1,s2,s3,s4,s5,s6,s7⟩
               go_simp
               with_reducible rfl
              rotate_left
              ·simp only [Act.put,q15,q25,q35,i64_w,i32_w];rfl
              refine pure_ (i:=16) (N:=some 29) (v:=?_) (a':=?_) #[Y5,Y5,Y5,Y5,Y5,Y5,Y5,Y5,Y5,Y5,Y5,Y5,Y5,Y5,Y5,Y5,Y5,Z5,Z5,Z5,Z5,Z5,Z5,Z5,Z5,Z5,Z5,Z5,Z5,Z5,Z5,Z5,Z5,Z5,Z5] rfl rfl (any_of HT_.out (by kernel_rfl)) (fun _ _ _ h => h) (Or.inl ⟨by rfl,?_⟩) ?_ ?_;rotate_left
              ·intro w';go_simp;with_reducible rfl
              rotate_left
              ·simp only [Act.put,q15,q25,q35,i64_w,i32_w];rfl
              refine pure_ (i:=17) (N:=some 30) (v:=?_) (a':=?_) #[Y5,Y5,Y5,Y5,Y5,Y5,Y5,Y5,Y5,Y5,Y5,Y5,Y5,Y5,Y5,Y5,Y5,Y5,Z5,Z5,Z5,Z5,Z5,Z5,Z5,Z5,Z5,Z5,Z5,Z5,Z5,Z5,Z5,Z5,Z5] rfl rfl (any_of HT_.out (by kernel_rfl)) (fun _ _ _ h => h) (Or.inl ⟨by rfl,?_⟩) ?_ ?_;rotate_left
              ·intro w';go_simp;with_reducible rfl
              rotate_left
              ·simp only [Act.put,q15,q25,q35,i64_w,i32_w];rfl
              refine pure_ (i:=18) (N:=some 31) (v:=?_) (a':=?_) #[Y5,Y5,Y5,Y5,Y5,Y5,Y5,Y5,Y5,Y5,Y5,Y5,Y5,Y5,Y5,Y5,Y5,Y5,Y5,Z5,Z5,Z5,Z5,Z5,Z5,Z5,Z5,Z5,Z5,Z5,Z5,Z5,Z5,Z5,Z5] rfl rfl (any_of HT_.out (by kernel_rfl)) (fun _ _ _ h => h) (Or.inl ⟨by rfl,?_⟩) ?_ ?_;rotate_left
              ·intro w';go_simp;with_reducible rfl
              rotate_left
              ·simp only [Act.put,q15,q25,q35,i64_w,i32_w];rfl
              refine pure_ (i:=19) (N:=some 32) (v:=?_) (a':=?_) #[Y5,Y5,Y5,Y5,Y5,Y5,Y5,Y5,Y5,Y5,Y5,Y5,Y5,Y5,Y5,Y5,Y5,Y5,Y5,Y5,Z5,Z5,Z5,Z5,Z5,Z5,Z5,Z5,Z5,Z5,Z5,Z5,Z5,Z5,Z5] rfl rfl (any_of HT_.out (by kernel_rfl)) (fun _ _ _ h => h) (Or.inl ⟨by rfl,?_⟩) ?_ ?_;rotate_left
              ·intro w';go_simp;with_reducible rfl
              rotate_left
              ·simp only [Act.put,q15,q25,q35,i64_w,i32_w];rfl
              refine pure_ (i:=20) (N:=some 33) (v:=?_) (a':=?_) #[Y5,Y5,Y5,Y5,Y5,Y5,Y5,Y5,Y5,Y5,Y5,Y5,Y5,Y5,Y5,Y5,Y5,Y5,Y5,Y5,Y5,Z5,Z5,Z5,Z5,Z5,Z5,Z5,Z5,Z5,Z5,Z5,Z5,Z5,Z5] rfl rfl (any_of HT_.out (by kernel_rfl)) (fun _ _ _ h => h) (Or.inl ⟨by rfl,?_⟩) ?_ ?_;rotate_left
              ·intro w';go_simp;with_reducible rfl
              rotate_left
              ·simp only [Act.put,q15,q25,q35,i64_w,i32_w];rfl
              refine pure_ (i:=21) (N:=some 34) (v:=?_) (a':=?_) #[Y5,Y5,Y5,Y5,Y5,Y5,Y5,Y5,Y5,Y5,Y5,Y5,Y5,Y5,Y5,Y5,Y5,Y5,Y5,Y5,Y5,Y5,Z5,Z5,Z5,Z5,Z5,Z5,Z5,Z5,Z5,Z5,Z5,Z5,Z5] rfl rfl (any_of HT_.out (by kernel_rfl)) (fun _ _ _ h => h) (Or.inl ⟨by rfl,?_⟩) ?_ ?_;rotate_left
              ·intro w';go_simp;with_reducible rfl
              rotate_left
              ·simp only [Act.put,q15,q25,q35,i64_w,i32_w];rfl
              refine pure_ (i:=22) (N:=some 35) (v:=?_) (a':=?_) #[Y5,Y5,Y5,Y5,Y5,Y5,Y5,Y5,Y5,Y5,Y5,Y5,Y5,Y5,Y5,Y5,Y5,Y5,Y5,Y5,Y5,Y5,Y5,Z5,Z5,Z5,Z5,Z5,Z5,Z5,Z5,Z5,Z5,Z5,Z5] rfl rfl (any_of HT_.out (by kernel_rfl)) (fun _ _ _ h => h) (Or.inl ⟨by rfl,?_⟩) ?_ ?_;rotate_left
              ·intro w';go_simp;with_reducible rfl
              rotate_left
              ·simp only [Act.put,q15,q25,q35,i64_w,i32_w];rfl
              refine pure_ (i:=23) (N:=some 36) (v:=?_) (a':=?_) #[Y5,Y5,Y5,Y5,Y5,Y5,Y5,Y5,Y5,Y5,Y5,Y5,Y5,Y5,Y5,Y5,Y5,Y5,Y5,Y5,Y5,Y5,Y5,Y5,Z5,Z5,Z5,Z5,Z5,Z5,Z5,Z5,Z5,Z5,Z5] rfl rfl (any_of HT_.out (by kernel_rfl)) (fun _ _ _ h => h) (Or.inl ⟨by rfl,?_⟩) ?_ ?_;rotate_left
              ·intro w';go_simp;with_reducible rfl
              rotate_left
              ·simp only [Act.put,q15,q25,q35,i64_w,i32_w];rfl
              refine pure_ (i:=25) (N:=some 38) (v:=?_) (a':=?_) #[Y5,Y5,Y5,Y5,Y5,Y5,Y5,Y5,Y5,Y5,Y5,Y5,Y5,Y5,Y5,Y5,Y5,Y5,Y5,Y5,Y5,Y5,Y5,Y5,Z5,Y5,Z5,Z5,Z5,Z5,Z5,Z5,Z5,Z5,Z5] rfl rfl (any_of HT_.out (by kernel_rfl)) (fun _ _ _ h => h) (Or.inl ⟨by rfl,?_⟩) ?_ ?_;rotate_left
              ·intro w';go_simp;with_reducible rfl
              rotate_left
              ·simp only [Act.put,q15,q25,q35,i64_w,i32_w];rfl
              refine pure_ (i:=26) (N:=some 39) (v:=?_) (a':=?_) #[Y5,Y5,Y5,Y5,Y5,Y5,Y5,Y5,Y5,Y5,Y5,Y5,Y5,Y5,Y5,Y5,Y5,Y5,Y5,Y5,Y5,Y5,Y5,Y5,Z5,Y5,Y5,Z5,Z5,Z5,Z5,Z5,Z5,Z5,Z5] rfl rfl (any_of HT_.out (by kernel_rfl)) (fun _ _ _ h => h) (Or.inl ⟨by rfl,?_⟩) ?_ ?_;rotate_left
              ·intro w';go_simp;with_reducible rfl
              rotate_left
              ·simp only [Act.put,q15,q25,q35,i64_w,i32_w];rfl
              refine pure_ (i:=30) (N:=some 43) (v:=?_) (a':=?_) #[Y5,Y5,Y5,Y5,Y5,Y5,Y5,Y5,Y5,Y5,Y5,Y5,Y5,Y5,Y5,Y5,Y5,Y5,Y5,Y5,Y5,Y5,Y5,Y5,Z5,Y5,Y5,Z5,Z5,Z5,Y5,Z5,Z5,Z5,Z5] rfl rfl (any_of HT_.out (by kernel_rfl)) (fun _ _ _ h => h) (Or.inl ⟨by rfl,?_⟩) ?_ ?_;rotate_left
              ·intro w';go_simp;with_reducible rfl
              rotate_left
              ·simp only [Act.put,q15,q25,q35,i64_w,i32_w];rfl
              refine take_ (i:=24) (N:=some 37) (v:=?_) (a':=?_) #[Y5,Y5,Y5,Y5,Y5,Y5,Y5,Y5,Y5,Y5,Y5,Y5,Y5,Y5,Y5,Y5,Y5,Y5,Y5,Y5,Y5,Y5,Y5,Y5,Y5,Y5,Y5,Z5,Z5,Z5,Y5,Z5,Z5,Z5,Z5] rfl rfl (take_ofW HT_.out HW_.out (by kernel_rfl)) (fun _ _ _ h => h) (Or.inl ⟨by rfl,?_⟩) hHeld ?_ ?_;rotate_left
              ·rintro w' ⟨s0,s1,s2,s3,s4,s5,s6,s7⟩
               go_simp
               with_reducible rfl
              rotate_left
              ·simp only [Act.put,q15,q25,q35,i64_w,i32_w];rfl
              refine pure_ (i:=27) (N:=some 40) (v:=?_) (a':=?_) #[Y5,Y5,Y5,Y5,Y5,Y5,Y5,Y5,Y5,Y5,Y5,Y5,Y5,Y5,Y5,Y5,Y5,Y5,Y5,Y5,Y5,Y5,Y5,Y5,Y5,Y5,Y5,Y5,Z5,Z5,Y5,Z5,Z5,Z5,Z5] rfl rfl (any_of HT_.out (by kernel_rfl)) (fun _ _ _ h => h) (Or.inl ⟨by rfl,?_⟩) ?_ ?_;rotate_left
              ·intro w';go_simp;with_reducible rfl
              rotate_left
              ·simp only [Act.put,q15,q25,q35,i64_w,i32_w];rfl
              refine pure_ (i:=28) (N:=some 41) (v:=?_) (a':=?_) #[Y5,Y5,Y5,Y5,Y5,Y5,Y5,Y5,Y5,Y5,Y5,Y5,Y5,Y5,Y5,Y5,Y5,Y5,Y5,Y5,Y5,Y5,Y5,Y5,Y5,Y5,Y5,Y5,Y5,Z5,Y5,Z5,Z5,Z5,Z5] rfl rfl (any_of HT_.out (by kernel_rfl)) (fun _ _ _ h => h) (Or.inl ⟨by rfl,?_⟩) ?_ ?_;rotate_left
              ·intro w';go_simp;with_reducible rfl
              rotate_left
              ·simp only [Act.put,q15,q25,q35,i64_w,i32_w];rfl
              refine take_ (i:=29) (N:=some 42) (v:=?_) (a':=?_) #[Y5,Y5,Y5,Y5,Y5,Y5,Y5,Y5,Y5,Y5,Y5,Y5,Y5,Y5,Y5,Y5,Y5,Y5,Y5,Y5,Y5,Y5,Y5,Y5,Y5,Y5,Y5,Y5,Y5,Y5,Y5,Z5,Z5,Z5,Z5] rfl rfl (take_ofW HT_.out HW_.out (by kernel_rfl)) (fun _ _ _ h => h) (Or.inl ⟨by rfl,?_⟩) hHeld ?_ ?_;rotate_left
              ·rintro w' ⟨s0,s1,s2,s3,s4,s5,s6,s7⟩
               go_simp
               with_reducible rfl
              rotate_left
              ·simp only [Act.put,q15,q25,q35,i64_w,i32_w];rfl
              refine take_ (i:=31) (N:=some 44) (v:=?_) (a':=?_) #[Y5,Y5,Y5,Y5,Y5,Y5,Y5,Y5,Y5,Y5,Y5,Y5,Y5,Y5,Y5,Y5,Y5,Y5,Y5,Y5,Y5,Y5,Y5,Y5,Y5,Y5,Y5,Y5,Y5,Y5,Y5,Y5,Z5,Z5,Z5] rfl rfl (take_ofW HT_.out HW_.out (by kernel_rfl)) (fun _ _ _ h => h) (Or.inl ⟨by rfl,?_⟩) hHeld ?_ ?_;rotate_left
              ·rintro w' ⟨s0,s1,s2,s3,s4,s5,s6,s7⟩
               go_simp
               with_reducible rfl
              rotate_left
              ·simp only [Act.put,q15,q25,q35,i64_w,i32_w];rfl
              refine pure_ (i:=32) (N:=some 45) (v:=?_) (a':=?_) #[Y5,Y5,Y5,Y5,Y5,Y5,Y5,Y5,Y5,Y5,Y5,Y5,Y5,Y5,Y5,Y5,Y5,Y5,Y5,Y5,Y5,Y5,Y5,Y5,Y5,Y5,Y5,Y5,Y5,Y5,Y5,Y5,Y5,Z5,Z5] rfl rfl (any_of HT_.out (by kernel_rfl)) (fun _ _ _ h => h) (Or.inl ⟨by rfl,?_⟩) ?_ ?_;rotate_left
              ·intro w';go_simp;with_reducible rfl
              rotate_left
              ·simp only [Act.put,q15,q25,q35,i64_w,i32_w];rfl
              refine pure_ (i:=33) (N:=some 46) (v:=?_) (a':=?_) #[Y5,Y5,Y5,Y5,Y5,Y5,Y5,Y5,Y5,Y5,Y5,Y5,Y5,Y5,Y5,Y5,Y5,Y5,Y5,Y5,Y5,Y5,Y5,Y5,Y5,Y5,Y5,Y5,Y5,Y5,Y5,Y5,Y5,Y5,Z5] rfl rfl (any_of HT_.out (by kernel_rfl)) (fun _ _ _ h => h) (Or.inl ⟨by rfl,?_⟩) ?_ ?_;rotate_left
              ·intro w';go_simp;with_reducible rfl
              rotate_left
              ·simp only [Act.put,q15,q25,q35,i64_w,i32_w];rfl
              refine pure_ (i:=34) (N:=some 47) (v:=?_) (a':=?_) #[Y5,Y5,Y5,Y5,Y5,Y5,Y5,Y5,Y5,Y5,Y5,Y5,Y5,Y5,Y5,Y5,Y5,Y5,Y5,Y5,Y5,Y5,Y5,Y5,Y5,Y5,Y5,Y5,Y5,Y5,Y5,Y5,Y5,Y5,Y5] rfl rfl (any_of HT_.out (by kernel_rfl)) (fun _ _ _ h => h) (Or.inl ⟨by rfl,?_⟩) ?_ ?_;rotate_left
              ·intro w';go_simp;with_reducible rfl
              rotate_left
              ·simp only [Act.put,q15,q25,q35,i64_w,i32_w];rfl
              refine done_ (done_of HT_.out (by kernel_rfl)) ?_
              try go_wp2
              go_ret
              exact ⟨by first | rfl | (simp [errW_none,errW_some] <;> rfl) | (simp only [← hji19];first | rfl | (simp [errW_none,errW_some] <;> rfl)) | (simp [*,errW_none,errW_some] <;> rfl),by repeat (first | (with_reducible first | exact HB.out | apply below_alloc | apply pw_below_drewN | apply below_drew1 | refine below_set ?_ GE167.out | refine below_set ?_ GE169.out) | exact HB.out)⟩
            ·rw [if_neg c21] at H
             exact absurd H (by simp)
           ·rw [if_neg c20] at H
            exact absurd H (by simp)
          ·rw [if_neg c18] at H
           have c18b0 : decide (0 < x8_1) = false:=decide_eq_false c18
           clear c18
           have H':=Aside0.mk H
           clear H
           have p168 : 0 ≤ (x8_1 : Int):=of_decide_eq_true (by first | (with_reducible assumption) | assumption)
           have q168 : x8_1 < (l0_1.length : Int):=of_decide_eq_true (by first | (with_reducible assumption) | assumption)
           obtain ⟨ad168,e168,hx168_0,hx168_1,hx168_2⟩:=at_T86 HR0_1.out x8_1 p168 q168
           (try rw [← Nbq15.out] at hx168_2)
           cases e168
           replace hx168_0:=(HB.out.cell (World.block_lt_of_cell? w _ hx168_0)).trans hx168_0
           replace hx168_1:=(HB.out.cell (World.block_lt_of_cell? w _ hx168_1)).trans hx168_1
           replace hx168_2:=(HB.out.cell (World.block_lt_of_cell? w _ hx168_2)).trans hx168_2
           replace p168:=eq_true p168
           replace q168:=eq_true q168
           try go_wp2_with (first | ((with_reducible refine gate_dst (N:=4) rfl ?_);(try (refine gate_guard (by rfl) ?_;dsimp only));refine box_event ?hg (N:=4) ?hd (cs:=#[.string (⟨#[]⟩ : ByteArray),.string (⟨#[]⟩ : ByteArray),.bool false]) (t:=86) ?hr ?_;(case hd => rfl);(case hg => rfl);(case hr => first | (go_simp;done) | (go_simp;rfl));intro gb169 hg w33 hbox hb;have n0_:=Aside0.mk (blk_below (g:=gb167) (o:=.cells #[.int .i64 a0_0,.slice (some ad168) l0_1.length c0_1] 47 (0,0)) (by (with_reducible repeat (first | refine blk_drewN ?_ _ | refine blk_drew ?_ | refine blk_alloc ?_ _));exact BK167.out) hb);have n1_:=Aside0.mk (below_step (by repeat (first | (with_reducible first | exact HB.out | apply below_alloc | apply pw_below_drewN | apply below_drew1 | refine below_set ?_ GE167.out) | exact HB.out)) hb);have n2_:=Aside0.mk (hbox);have n3_:=Aside0.mk ((by rw [hg];exact (below_size (by repeat (first | (with_reducible first | exact HB.out | apply below_alloc | apply pw_below_drewN | apply below_drew1 | refine below_set ?_ GE167.out) | exact HB.out))) : w.heap.size ≤ gb169));have n4_:=Aside0.mk ((by rw [hg];exact (below_size (by repeat (first | (with_reducible first | exact HB.out | apply below_alloc | apply pw_below_drewN | apply below_drew1 | refine below_set ?_ GE167.out) | exact HB.out))) : w.heap.size ≤ gb169));have n5_:=Aside0.mk ((by rw [hg];exact Nat.ne_of_lt (blk_lt (g:=gb167) (o:=.cells #[.int .i64 a0_0,.slice (some ad168) l0_1.length c0_1] 47 (0,0)) (by (with_reducible repeat (first | refine blk_drewN ?_ _ | refine blk_drew ?_ | refine blk_alloc ?_ _));exact BK167.out)) : gb167 ≠ gb169));have n6_:=Aside0.mk ((by rw [hg];exact Nat.ne_of_gt (blk_lt (g:=gb167) (o:=.cells #[.int .i64 a0_0,.slice (some ad168) l0_1.length c0_1] 47 (0,0)) (by (with_reducible repeat (first | refine blk_drewN ?_ _ | refine blk_drew ?_ | refine blk_alloc ?_ _));exact BK167.out)) : gb169 ≠ gb167));clear BK167;clear HB;have BK167:=n0_;have HB:=n1_;have BK169:=n2_;have GW169:=n3_;have GE169:=n4_;have NB167_169:=n5_;have NB169_167:=n6_;clear n0_ n1_ n2_ n3_ n4_ n5_ n6_;clear hb hbox hg;have hnb34:=NB169_167.out;have hnc34:=NB167_169.out;have hcz35_0 : w33.cell? ⟨gb169,0,none⟩ = some (.string (⟨#[]⟩ : ByteArray)):=(blk_cell BK169.out 0).trans rfl;have hcz35_1 : w33.cell? ⟨gb169,1,none⟩ = some (.string (⟨#[]⟩ : ByteArray)):=(blk_cell BK169.out 1).trans rfl;have hcz35_2 : w33.cell? ⟨gb169,2,none⟩ = some (.bool false):=(blk_cell BK169.out 2).trans rfl;have hfz35_0:=blk_frozen BK169.out 0;have hfz35_1:=blk_frozen BK169.out 1;have hfz35_2:=blk_frozen BK169.out 2))
           have n0_ : Aside0 ((((w33.setCell ⟨gb169,0,none⟩ (.string ((rd_T86 l0_1 x8_1).f0))).setCell ⟨gb169,1,none⟩ (.string ((rd_T86 l0_1 x8_1).f1))).setCell ⟨gb169,2,none⟩ (.bool true)).heap[gb167]? = some (.cells #[.int .i64 a0_0,.slice (some ad168) l0_1.length c0_1] 47 (0,0))):=⟨by (with_reducible repeat (first | refine blk_drewN ?_ _ | refine blk_drew ?_ | refine blk_alloc ?_ _));refine blk_far ?_ NB167_169.out _;(with_reducible repeat (first | refine blk_drewN ?_ _ | refine blk_drew ?_ | refine blk_alloc ?_ _));refine blk_far ?_ NB167_169.out _;(with_reducible repeat (first | refine blk_drewN ?_ _ | refine blk_drew ?_ | refine blk_alloc ?_ _));refine blk_far ?_ NB167_169.out _;(with_reducible repeat (first | refine blk_drewN ?_ _ | refine blk_drew ?_ | refine blk_alloc ?_ _));exact BK167.out⟩
           have n1_ : Aside0 ((((w33.setCell ⟨gb169,0,none⟩ (.string ((rd_T86 l0_1 x8_1).f0))).setCell ⟨gb169,1,none⟩ (.string ((rd_T86 l0_1 x8_1).f1))).setCell ⟨gb169,2,none⟩ (.bool true)).heap[gb169]? = some (.cells #[.string ((rd_T86 l0_1 x8_1).f0),.string ((rd_T86 l0_1 x8_1).f1),.bool true] 86 (0,0))):=⟨by (with_reducible repeat (first | refine blk_drewN ?_ _ | refine blk_drew ?_ | refine blk_alloc ?_ _));refine blk_put (cs:=#[.string ((rd_T86 l0_1 x8_1).f0),.string ((rd_T86 l0_1 x8_1).f1),.bool false]) ?_ 2 _ rfl;(with_reducible repeat (first | refine blk_drewN ?_ _ | refine blk_drew ?_ | refine blk_alloc ?_ _));refine blk_put (cs:=#[.string ((rd_T86 l0_1 x8_1).f0),.string (⟨#[]⟩ : ByteArray),.bool false]) ?_ 1 _ rfl;(with_reducible repeat (first | refine blk_drewN ?_ _ | refine blk_drew ?_ | refine blk_alloc ?_ _));refine blk_put (cs:=#[.string (⟨#[]⟩ : ByteArray),.string (⟨#[]⟩ : ByteArray),.bool false]) ?_ 0 _ rfl;(with_reducible repeat (first | refine blk_drewN ?_ _ | refine blk_drew ?_ | refine blk_alloc ?_ _));exact BK169.out⟩
           have n2_ : Aside0 (Below w.heap.size w (((w33.setCell ⟨gb169,0,none⟩ (.string ((rd_T86 l0_1 x8_1).f0))).setCell ⟨gb169,1,none⟩ (.string ((rd_T86 l0_1 x8_1).f1))).setCell ⟨gb169,2,none⟩ (.bool true))):=⟨by repeat (first | (with_reducible first | exact HB.out | apply below_alloc | apply pw_below_drewN | apply below_drew1 | refine below_set ?_ GE167.out | refine below_set ?_ GE169.out) | exact HB.out)⟩
           (try clear BK167)
           (try clear BK169)
           (try clear HB)
           generalize (((w33.setCell ⟨gb169,0,none⟩ (.string ((rd_T86 l0_1 x8_1).f0))).setCell ⟨gb169,1,none⟩ (.string ((rd_T86 l0_1 x8_1).f1))).setCell ⟨gb169,2,none⟩ (.bool true)) = w36 at n0_ n1_ n2_ ⊢
           have BK167:=n0_
           have BK169:=n1_
           have HB:=n2_
           clear n0_ n1_ n2_
           have n0_:=Aside0.mk (blk_drew BK167.out)
           have n1_:=Aside0.mk (blk_drew BK169.out)
           have n2_:=Aside0.mk (below_drew1 HB.out)
           clear BK167
           clear BK169
           clear HB
           have BK167:=n0_
           have BK169:=n1_
           have HB:=n2_
           clear n0_ n1_ n2_
           refine start_ (n:=35) (S:=fun w' => w'.cell? ⟨gb169,0,none⟩ = some (.string ((rd_T86 l0_1 x8_1).f0)) ∧ w'.cell? ⟨gb169,1,none⟩ = some (.string ((rd_T86 l0_1 x8_1).f1)) ∧ w'.cell? ⟨gb169,2,none⟩ = some (.bool true)) (ds:=[]) #[Z5,Z5,Z5,Z5,Z5,Z5,Z5,Z5,Z5,Z5,Z5,Z5,Z5,Z5,Z5,Z5,Z5,Z5,Z5,Z5,Z5,Z5,Z5,Z5,Z5,Z5,Z5,Z5,Z5,Z5,Z5,Z5,Z5,Z5,Z5] (by kernel_rfl) rfl rfl ⟨(blk_cell BK169.out 0).trans rfl,(blk_cell BK169.out 1).trans rfl,(blk_cell BK169.out 2).trans rfl⟩ (fun hHeld => ?_);refine with_tabW impl_BatchOk.tab4 impl_BatchOk.bits4 (fun HT_ HW_ => ?_)
           generalize w36.drew = w37 at BK167 BK169 HB hHeld ⊢
           refine pure_ (i:=0) (N:=some 13) (v:=?_) (a':=?_) #[Y5,Z5,Z5,Z5,Z5,Z5,Z5,Z5,Z5,Z5,Z5,Z5,Z5,Z5,Z5,Z5,Z5,Z5,Z5,Z5,Z5,Z5,Z5,Z5,Z5,Z5,Z5,Z5,Z5,Z5,Z5,Z5,Z5,Z5,Z5] rfl rfl (any_of HT_.out (by kernel_rfl)) (fun _ _ _ h => h) (Or.inl ⟨by rfl,?_⟩) ?_ ?_;rotate_left
           ·intro w';go_simp;with_reducible rfl
           rotate_left
           ·simp only [Act.put,q15,q25,q35,i64_w,i32_w];rfl
           refine take_ (i:=1) (N:=some 14) (v:=?_) (a':=?_) #[Y5,Y5,Z5,Z5,Z5,Z5,Z5,Z5,Z5,Z5,Z5,Z5,Z5,Z5,Z5,Z5,Z5,Z5,Z5,Z5,Z5,Z5,Z5,Z5,Z5,Z5,Z5,Z5,Z5,Z5,Z5,Z5,Z5,Z5,Z5] rfl rfl (take_ofW HT_.out HW_.out (by kernel_rfl)) (fun _ _ _ h => h) (Or.inl ⟨by rfl,?_⟩) hHeld ?_ ?_;rotate_left
           ·rintro w' ⟨s0,s1,s2⟩
            go_simp
            with_reducible rfl
           rotate_left
           ·simp only [Act.put,q15,q25,q35,i64_w,i32_w];rfl
           refine one_ (i:=2) (N:=some 15) #[Y5,Y5,Y5,Z5,Z5,Z5,Z5,Z5,Z5,Z5,Z5,Z5,Z5,Z5,Z5,Z5,Z5,Z5,Z5,Z5,Z5,Z5,Z5,Z5,Z5,Z5,Z5,Z5,Z5,Z5,Z5,Z5,Z5,Z5,Z5] rfl rfl (one_of HT_.out (by kernel_rfl)) (by decide) (fun K hK => ?_)
           refine goes_ Try.func45 (by kernel_rfl) rfl #[.string ((rd_T86 l0_1 x8_1).f0)] (by rfl) rfl rfl (by (try simp only [List.map_toArray,List.map_cons,List.map_nil]);first | done | rfl | (simp only [List.length_drop,List.length_take];rfl)) ?_
           with_reducible refine (impl_keyOk.calls ((rd_T86 l0_1 x8_1).f0) true _ A7.out).mono ?_
           rintro e w' ⟨rfl,⟨nd,rfl⟩⟩
           refine ⟨_,rfl,?_⟩
           refine hK.out _ _ ⟨(blk_cell BK169.out 0).trans rfl,(blk_cell BK169.out 1).trans rfl,(blk_cell BK169.out 2).trans rfl⟩ (fun hHeld => ?_)
           clear hK K
           refine norm_ (a':=?_) ?_ ?_;rotate_left
           ·show Act.put _ (some 15) _ = _;simp only [Act.put,q15,q25,q35,i64_w,i32_w];rfl
           refine pure_ (i:=3) (N:=some 16) (v:=?_) (a':=?_) #[Y5,Y5,Y5,Y5,Z5,Z5,Z5,Z5,Z5,Z5,Z5,Z5,Z5,Z5,Z5,Z5,Z5,Z5,Z5,Z5,Z5,Z5,Z5,Z5,Z5,Z5,Z5,Z5,Z5,Z5,Z5,Z5,Z5,Z5,Z5] rfl rfl (any_of HT_.out (by kernel_rfl)) (fun _ _ _ h => h) (Or.inl ⟨by rfl,?_⟩) ?_ ?_;rotate_left
           ·intro w';go_simp;with_reducible rfl
           rotate_left
           ·simp only [Act.put,q15,q25,q35,i64_w,i32_w];rfl
           refine pure_ (i:=4) (N:=some 17) (v:=?_) (a':=?_) #[Y5,Y5,Y5,Y5,Y5,Z5,Z5,Z5,Z5,Z5,Z5,Z5,Z5,Z5,Z5,Z5,Z5,Z5,Z5,Z5,Z5,Z5,Z5,Z5,Z5,Z5,Z5,Z5,Z5,Z5,Z5,Z5,Z5,Z5,Z5] rfl rfl (any_of HT_.out (by kernel_rfl)) (fun _ _ _ h => h) (Or.inl ⟨by rfl,?_⟩) ?_ ?_;rotate_left
           ·intro w';go_simp;with_reducible rfl
           rotate_left
           ·simp only [Act.put,q15,q25,q35,i64_w,i32_w];rfl
           refine pure_ (i:=5) (N:=some 18) (v:=?_) (a':=?_) #[Y5,Y5,Y5,Y5,Y5,Y5,Z5,Z5,Z5,Z5,Z5,Z5,Z5,Z5,Z5,Z5,Z5,Z5,Z5,Z5,Z5,Z5,Z5,Z5,Z5,Z5,Z5,Z5,Z5,Z5,Z5,Z5,Z5,Z5,Z5] rfl rfl (any_of HT_.out (by kernel_rfl)) (fun _ _ _ h => h) (Or.inl ⟨by rfl,?_⟩) ?_ ?_;rotate_left
           ·intro w';go_simp;with_reducible rfl
           rotate_left
           ·simp only [Act.put,q15,q25,q35,i64_w,i32_w];rfl
           refine take_ (i:=6) (N:=some 19) (v:=?_) (a':=?_) #[Y5,Y5,Y5,Y5,Y5,Y5,Y5,Z5,Z5,Z5,Z5,Z5,Z5,Z5,Z5,Z5,Z5,Z5,Z5,Z5,Z5,Z5,Z5,Z5,Z5,Z5,Z5,Z5,Z5,Z5,Z5,Z5,Z5,Z5,Z5] rfl rfl (take_ofW HT_.out HW_.out (by kernel_rfl)) (fun _ _ _ h => h) (Or.inl ⟨by rfl,?_⟩) hHeld ?_ ?_;rotate_left
           ·rintro w' ⟨s0,s1,s2⟩
            go_simp
            with_reducible rfl
           rotate_left
           ·simp only [Act.put,q15,q25,q35,i64_w,i32_w];rfl
           refine pure_ (i:=7) (N:=some 20) (v:=?_) (a':=?_) #[Y5,Y5,Y5,Y5,Y5,Y5,Y5,Y5,Z5,Z5,Z5,Z5,Z5,Z5,Z5,Z5,Z5,Z5,Z5,Z5,Z5,Z5,Z5,Z5,Z5,Z5,Z5,Z5,Z5,Z5,Z5,Z5,Z5,Z5,Z5] rfl rfl (any_of HT_.out (by kernel_rfl)) (fun _ _ _ h => h) (Or.inl ⟨by rfl,?_⟩) ?_ ?_;rotate_left
           ·intro w';go_simp;with_reducible rfl
           rotate_left
           ·simp only [Act.put,q15,q25,q35,i64_w,i32_w];rfl
           refine pure_ (i:=8) (N:=some 21) (v:=?_) (a':=?_) #[Y5,Y5,Y5,Y5,Y5,Y5,Y5,Y5,Y5,Z5,Z5,Z5,Z5,Z5,Z5,Z5,Z5,Z5,Z5,Z5,Z5,Z5,Z5,Z5,Z5,Z5,Z5,Z5,Z5,Z5,Z5,Z5,Z5,Z5,Z5] rfl rfl (any_of HT_.out (by kernel_rfl)) (fun _ _ _ h => h) (Or.inl ⟨by rfl,?_⟩) ?_ ?_;rotate_left
           ·intro w';go_simp;with_reducible rfl
           rotate_left
           ·simp only [Act.put,q15,q25,q35,i64_w,i32_w];rfl
           refine pure_ (i:=9) (N:=some 22) (v:=?_) (a':=?_) #[Y5,Y5,Y5,Y5,Y5,Y5,Y5,Y5,Y5,Y5,Z5,Z5,Z5,Z5,Z5,Z5,Z5,Z5,Z5,Z5,Z5,Z5,Z5,Z5,Z5,Z5,Z5,Z5,Z5,Z5,Z5,Z5,Z5,Z5,Z5] rfl rfl (any_of HT_.out (by kernel_rfl)) (fun _ _ _ h => h) (Or.inl ⟨by rfl,?_⟩) ?_ ?_;rotate_left
           ·intro w';go_simp;with_reducible rfl
           rotate_left
           ·simp only [Act.put,q15,q25,q35,i64_w,i32_w];rfl
           refine pure_ (i:=10) (N:=some 23) (v:=?_) (a':=?_) #[Y5,Y5,Y5,Y5,Y5,Y5,Y5,Y5,Y5,Y5,Y5,Z5,Z5,Z5,Z5,Z5,Z5,Z5,Z5,Z5,Z5,Z5,Z5,Z5,Z5,Z5,Z5,Z5,Z5,Z5,Z5,Z5,Z5,Z5,Z5] rfl rfl (any_of HT_.out (by kernel_rfl)) (fun _ _ _ h => h) (Or.inl ⟨by rfl,?_⟩) ?_ ?_;rotate_left
           ·intro w';go_simp;with_reducible rfl
           rotate_left
           ·simp only [Act.put,q15,q25,q35,i64_w,i32_w];rfl
           refine pure_ (i:=11) (N:=some 24) (v:=?_) (a':=?_) #[Y5,Y5,Y5,Y5,Y5,Y5,Y5,Y5,Y5,Y5,Y5,Y5,Z5,Z5,Z5,Z5,Z5,Z5,Z5,Z5,Z5,Z5,Z5,Z5,Z5,Z5,Z5,Z5,Z5,Z5,Z5,Z5,Z5,Z5,Z5] rfl rfl (any_of HT_.out (by kernel_rfl)) (fun _ _ _ h => h) (Or.inl ⟨by rfl,?_⟩) ?_ ?_;rotate_left
           ·intro w';go_simp;with_reducible rfl
           rotate_left
           ·simp only [Act.put,q15,q25,q35,i64_w,i32_w];rfl
           refine take_ (i:=12) (N:=some 25) (v:=?_) (a':=?_) #[Y5,Y5,Y5,Y5,Y5,Y5,Y5,Y5,Y5,Y5,Y5,Y5,Y5,Z5,Z5,Z5,Z5,Z5,Z5,Z5,Z5,Z5,Z5,Z5,Z5,Z5,Z5,Z5,Z5,Z5,Z5,Z5,Z5,Z5,Z5] rfl rfl (take_ofW HT_.out HW_.out (by kernel_rfl)) (fun _ _ _ h => h) (Or.inl ⟨by rfl,?_⟩) hHeld ?_ ?_;rotate_left
           ·rintro w' ⟨s0,s1,s2⟩
            go_simp
            with_reducible rfl
           rotate_left
           ·simp only [Act.put,q15,q25,q35,i64_w,i32_w];rfl
           refine pure_ (i:=13) (N:=some 26) (v:=?_) (a':=?_) #[Y5,Y5,Y5,Y5,Y5,Y5,Y5,Y5,Y5,Y5,Y5,Y5,Y5,Y5,Z5,Z5,Z5,Z5,Z5,Z5,Z5,Z5,Z5,Z5,Z5,Z5,Z5,Z5,Z5,Z5,Z5,Z5,Z5,Z5,Z5] rfl rfl (any_of HT_.out (by kernel_rfl)) (fun _ _ _ h => h) (Or.inl ⟨by rfl,?_⟩) ?_ ?_;rotate_left
           ·intro w';go_simp;with_reducible rfl
           rotate_left
           ·simp only [Act.put,q15,q25,q35,i64_w,i32_w];rfl
           refine pure_ (i:=14) (N:=some 27) (v:=?_) (a':=?_) #[Y5,Y5,Y5,Y5,Y5,Y5,Y5,Y5,Y5,Y5,Y5,Y5,Y5,Y5,Y5,Z5,Z5,Z5,Z5,Z5,Z5,Z5,Z5,Z5,Z5,Z5,Z5,Z5,Z5,Z5,Z5,Z5,Z5,Z5,Z5] rfl rfl (any_of HT_.out (by kernel_rfl)) (fun _ _ _ h => h) (Or.inl ⟨by rfl,?_⟩) ?_ ?_;rotate_left
           ·intro w';go_simp;with_reducible rfl
           rotate_left
           ·simp only [Act.put,q15,q25,q35,i64_w,i32_w];rfl
           refine take_ (i:=15) (N:=some 28) (v:=?_) (a':=?_) #[Y5,Y5,Y5,Y5,Y5,Y5,Y5,Y5,Y5,Y5,Y5,Y5,Y5,Y5,Y5,Y5,Z5,Z5,Z5,Z5,Z5,Z5,Z5,Z5,Z5,Z5,Z5,Z5,Z5,Z5,Z5,Z5,Z5,Z5,Z5] rfl rfl (take_ofW HT_.out HW_.out (by kernel_rfl)) (fun _ _ _ h => h) (Or.inl ⟨by rfl,?_⟩) hHeld ?_ ?_;rotate_left
           ·rintro w' ⟨s0,s1,s2⟩
            go_simp
            with_reducible rfl
           rotate_left
           ·simp only [Act.put,q15,q25,q35,i64_w,i32_w];rfl
           refine pure_ (i:=16) (N:=some 29) (v:=?_) (a':=?_) #[Y5,Y5,Y5,Y5,Y5,Y5,Y5,Y5,Y5,Y5,Y5,Y5,Y5,Y5,Y5,Y5,Y5,Z5,Z5,Z5,Z5,Z5,Z5,Z5,Z5,Z5,Z5,Z5,Z5,Z5,Z5,Z5,Z5,Z5,Z5] rfl rfl (any_of HT_.out (by kernel_rfl)) (fun _ _ _ h => h) (Or.inl ⟨by rfl,?_⟩) ?_ ?_;rotate_left
           ·intro w';go_simp;with_reducible rfl
           rotate_left
           ·simp only [Act.put,q15,q25,q35,i64_w,i32_w];rfl
           refine pure_ (i:=17) (N:=some 30) (v:=?_) (a':=?_) #[Y5,Y5,Y5,Y5,Y5,Y5,Y5,Y5,Y5,Y5,Y5,Y5,Y5,Y5,Y5,Y5,Y5,Y5,Z5,Z5,Z5,Z5,Z5,Z5,Z5,Z5,Z5,Z5,Z5,Z5,Z5,Z5,Z5,Z5,Z5] rfl rfl (any_of HT_.out (by kernel_rfl)) (fun _ _ _ h => h) (Or.inl ⟨by rfl,?_⟩) ?_ ?_;rotate_left
           ·intro w';go_simp;with_reducible rfl
           rotate_left
           ·simp only [Act.put,q15,q25,q35,i64_w,i32_w];rfl
           refine pure_ (i:=18) (N:=some 31) (v:=?_) (a':=?_) #[Y5,Y5,Y5,Y5,Y5,Y5,Y5,Y5,Y5,Y5,Y5,Y5,Y5,Y5,Y5,Y5,Y5,Y5,Y5,Z5,Z5,Z5,Z5,Z5,Z5,Z5,Z5,Z5,Z5,Z5,Z5,Z5,Z5,Z5,Z5] rfl rfl (any_of HT_.out (by kernel_rfl)) (fun _ _ _ h => h) (Or.inl ⟨by rfl,?_⟩) ?_ ?_;rotate_left
           ·intro w';go_simp;with_reducible rfl
           rotate_left
           ·simp only [Act.put,q15,q25,q35,i64_w,i32_w];rfl
           refine pure_ (i:=19) (N:=some 32) (v:=?_) (a':=?_) #[Y5,Y5,Y5,Y5,Y5,Y5,Y5,Y5,Y5,Y5,Y5,Y5,Y5,Y5,Y5,Y5,Y5,Y5,Y5,Y5,Z5,Z5,Z5,Z5,Z5,Z5,Z5,Z5,Z5,Z5,Z5,Z5,Z5,Z5,Z5] rfl rfl (any_of HT_.out (by kernel_rfl)) (fun _ _ _ h => h) (Or.inl ⟨by rfl,?_⟩) ?_ ?_;rotate_left
           ·intro w';go_simp;with_reducible rfl
           rotate_left
           ·simp only [Act.put,q15,q25,q35,i64_w,i32_w];rfl
           refine pure_ (i:=20) (N:=some 33) (v:=?_) (a':=?_) #[Y5,Y5,Y5,Y5,Y5,Y5,Y5,Y5,Y5,Y5,Y5,Y5,Y5,Y5,Y5,Y5,Y5,Y5,Y5,Y5,Y5,Z5,Z5,Z5,Z5,Z5,Z5,Z5,Z5,Z5,Z5,Z5,Z5,Z5,Z5] rfl rfl (any_of HT_.out (by kernel_rfl)) (fun _ _ _ h => h) (Or.inl ⟨by rfl,?_⟩) ?_ ?_;rotate_left
           ·intro w';go_simp;with_reducible rfl
           rotate_left
           ·simp only [Act.put,q15,q25,q35,i64_w,i32_w];rfl
           refine pure_ (i:=21) (N:=some 34) (v:=?_) (a':=?_) #[Y5,Y5,Y5,Y5,Y5,Y5,Y5,Y5,Y5,Y5,Y5,Y5,Y5,Y5,Y5,Y5,Y5,Y5,Y5,Y5,Y5,Y5,Z5,Z5,Z5,Z5,Z5,Z5,Z5,Z5,Z5,Z5,Z5,Z5,Z5] rfl rfl (any_of HT_.out (by kernel_rfl)) (fun _ _ _ h => h) (Or.inl ⟨by rfl,?_⟩) ?_ ?_;rotate_left
           ·intro w';go_simp;with_reducible rfl
           rotate_left
           ·simp only [Act.put,q15,q25,q35,i64_w,i32_w];rfl
           refine pure_ (i:=22) (N:=some 35) (v:=?_) (a':=?_) #[Y5,Y5,Y5,Y5,Y5,Y5,Y5,Y5,Y5,Y5,Y5,Y5,Y5,Y5,Y5,Y5,Y5,Y5,Y5,Y5,Y5,Y5,Y5,Z5,Z5,Z5,Z5,Z5,Z5,Z5,Z5,Z5,Z5,Z5,Z5] rfl rfl (any_of HT_.out (by kernel_rfl)) (fun _ _ _ h => h) (Or.inl ⟨by rfl,?_⟩) ?_ ?_;rotate_left
           ·intro w';go_simp;with_reducible rfl
           rotate_left
           ·simp only [Act.put,q15,q25,q35,i64_w,i32_w];rfl
           refine pure_ (i:=23) (N:=some 36) (v:=undef) (a':=?_) #[Y5,Y5,Y5,Y5,Y5,Y5,Y5,Y5,Y5,Y5,Y5,Y5,Y5,Y5,Y5,Y5,Y5,Y5,Y5,Y5,Y5,Y5,Y5,Y5,Z5,Z5,Z5,Z5,Z5,Z5,Z5,Z5,Z5,Z5,Z5] rfl rfl (any_of HT_.out (by kernel_rfl)) (fun _ _ _ h => h) (Or.inr ⟨by rfl,rfl⟩) ?_ ?_;rotate_left
           ·simp only [Act.put,q15,q25,q35,i64_w,i32_w];rfl
           refine pure_ (i:=24) (N:=some 37) (v:=undef) (a':=?_) #[Y5,Y5,Y5,Y5,Y5,Y5,Y5,Y5,Y5,Y5,Y5,Y5,Y5,Y5,Y5,Y5,Y5,Y5,Y5,Y5,Y5,Y5,Y5,Y5,Y5,Z5,Z5,Z5,Z5,Z5,Z5,Z5,Z5,Z5,Z5] rfl rfl (any_of HT_.out (by kernel_rfl)) (fun _ _ _ h => h) (Or.inr ⟨by rfl,rfl⟩) ?_ ?_;rotate_left
           ·simp only [Act.put,q15,q25,q35,i64_w,i32_w];rfl
           refine pure_ (i:=25) (N:=some 38) (v:=undef) (a':=?_) #[Y5,Y5,Y5,Y5,Y5,Y5,Y5,Y5,Y5,Y5,Y5,Y5,Y5,Y5,Y5,Y5,Y5,Y5,Y5,Y5,Y5,Y5,Y5,Y5,Y5,Y5,Z5,Z5,Z5,Z5,Z5,Z5,Z5,Z5,Z5] rfl rfl (any_of HT_.out (by kernel_rfl)) (fun _ _ _ h => h) (Or.inr ⟨by rfl,rfl⟩) ?_ ?_;rotate_left
           ·simp only [Act.put,q15,q25,q35,i64_w,i32_w];rfl
           refine pure_ (i:=26) (N:=some 39) (v:=undef) (a':=?_) #[Y5,Y5,Y5,Y5,Y5,Y5,Y5,Y5,Y5,Y5,Y5,Y5,Y5,Y5,Y5,Y5,Y5,Y5,Y5,Y5,Y5,Y5,Y5,Y5,Y5,Y5,Y5,Z5,Z5,Z5,Z5,Z5,Z5,Z5,Z5] rfl rfl (any_of HT_.out (by kernel_rfl)) (fun _ _ _ h => h) (Or.inr ⟨by rfl,rfl⟩) ?_ ?_;rotate_left
           ·simp only [Act.put,q15,q25,q35,i64_w,i32_w];rfl
           refine pure_ (i:=27) (N:=some 40) (v:=undef) (a':=?_) #[Y5,Y5,Y5,Y5,Y5,Y5,Y5,Y5,Y5,Y5,Y5,Y5,Y5,Y5,Y5,Y5,Y5,Y5,Y5,Y5,Y5,Y5,Y5,Y5,Y5,Y5,Y5,Y5,Z5,Z5,Z5,Z5,Z5,Z5,Z5] rfl rfl (any_of HT_.out (by kernel_rfl)) (fun _ _ _ h => h) (Or.inr ⟨by rfl,rfl⟩) ?_ ?_;rotate_left
           ·simp only [Act.put,q15,q25,q35,i64_w,i32_w];rfl
           refine pure_ (i:=28) (N:=some 41) (v:=undef) (a':=?_) #[Y5,Y5,Y5,Y5,Y5,Y5,Y5,Y5,Y5,Y5,Y5,Y5,Y5,Y5,Y5,Y5,Y5,Y5,Y5,Y5,Y5,Y5,Y5,Y5,Y5,Y5,Y5,Y5,Y5,Z5,Z5,Z5,Z5,Z5,Z5] rfl rfl (any_of HT_.out (by kernel_rfl)) (fun _ _ _ h => h) (Or.inr ⟨by rfl,rfl⟩) ?_ ?_;rotate_left
           ·simp only [Act.put,q15,q25,q35,i64_w,i32_w];rfl
           refine pure_ (i:=29) (N:=some 42) (v:=undef) (a':=?_) #[Y5,Y5,Y5,Y5,Y5,Y5,Y5,Y5,Y5,Y5,Y5,Y5,Y5,Y5,Y5,Y5,Y5,Y5,Y5,Y5,Y5,Y5,Y5,Y5,Y5,Y5,Y5,Y5,Y5,Y5,Z5,Z5,Z5,Z5,Z5] rfl rfl (any_of HT_.out (by kernel_rfl)) (fun _ _ _ h => h) (Or.inr ⟨by rfl,rfl⟩) ?_ ?_;rotate_left
           ·simp only [Act.put,q15,q25,q35,i64_w,i32_w];rfl
           refine pure_ (i:=30) (N:=some 43) (v:=undef) (a':=?_) #[Y5,Y5,Y5,Y5,Y5,Y5,Y5,Y5,Y5,Y5,Y5,Y5,Y5,Y5,Y5,Y5,Y5,Y5,Y5,Y5,Y5,Y5,Y5,Y5,Y5,Y5,Y5,Y5,Y5,Y5,Y5,Z5,Z5,Z5,Z5] rfl rfl (any_of HT_.out (by kernel_rfl)) (fun _ _ _ h => h) (Or.inr ⟨by rfl,rfl⟩) ?_ ?_;rotate_left
           ·simp only [Act.put,q15,q25,q35,i64_w,i32_w];rfl
           refine pure_ (i:=31) (N:=some 44) (v:=undef) (a':=?_) #[Y5,Y5,Y5,Y5,Y5,Y5,Y5,Y5,Y5,Y5,Y5,Y5,Y5,Y5,Y5,Y5,Y5,Y5,Y5,Y5,Y5,Y5,Y5,Y5,Y5,Y5,Y5,Y5,Y5,Y5,Y5,Y5,Z5,Z5,Z5] rfl rfl (any_of HT_.out (by kernel_rfl)) (fun _ _ _ h => h) (Or.inr ⟨by rfl,rfl⟩) ?_ ?_;rotate_left
           ·simp only [Act.put,q15,q25,q35,i64_w,i32_w];rfl
           refine pure_ (i:=32) (N:=some 45) (v:=undef) (a':=?_) #[Y5,Y5,Y5,Y5,Y5,Y5,Y5,Y5,Y5,Y5,Y5,Y5,Y5,Y5,Y5,Y5,Y5,Y5,Y5,Y5,Y5,Y5,Y5,Y5,Y5,Y5,Y5,Y5,Y5,Y5,Y5,Y5,Y5,Z5,Z5] rfl rfl (any_of HT_.out (by kernel_rfl)) (fun _ _ _ h => h) (Or.inr ⟨by rfl,rfl⟩) ?_ ?_;rotate_left
           ·simp only [Act.put,q15,q25,q35,i64_w,i32_w];rfl
           refine pure_ (i:=33) (N:=some 46) (v:=?_) (a':=?_) #[Y5,Y5,Y5,Y5,Y5,Y5,Y5,Y5,Y5,Y5,Y5,Y5,Y5,Y5,Y5,Y5,Y5,Y5,Y5,Y5,Y5,Y5,Y5,Y5,Y5,Y5,Y5,Y5,Y5,Y5,Y5,Y5,Y5,Y5,Z5] rfl rfl (any_of HT_.out (by kernel_rfl)) (fun _ _ _ h => h) (Or.inl ⟨by rfl,?_⟩) ?_ ?_;rotate_left
           ·intro w';go_simp;with_reducible rfl
           rotate_left
           ·simp only [Act.put,q15,q25,q35,i64_w,i32_w];rfl
           refine pure_ (i:=34) (N:=some 47) (v:=?_) (a':=?_) #[Y5,Y5,Y5,Y5,Y5,Y5,Y5,Y5,Y5,Y5,Y5,Y5,Y5,Y5,Y5,Y5,Y5,Y5,Y5,Y5,Y5,Y5,Y5,Y5,Y5,Y5,Y5,Y5,Y5,Y5,Y5,Y5,Y5,Y5,Y5] rfl rfl (any_of HT_.out (by kernel_rfl)) (fun _ _ _ h => h) (Or.inl ⟨by rfl,?_⟩) ?_ ?_;rotate_left
           ·intro w';go_simp;with_reducible rfl
           rotate_left
           ·simp only [Act.put,q15,q25,q35,i64_w,i32_w];rfl
           refine done_ (done_of HT_.out (by kernel_rfl)) ?_
           try go_wp2
           go_roundg k1
           case measure => have:=HK1.out;omega
           case rel => exact ⟨(wrap64 (x8_1 + 1)),(by first | rfl | (simp;done) | (simp [*];done)),H',⟨by have:=HK1.out;omega⟩,⟨by (with_reducible repeat (first | refine blk_drewN ?_ _ | refine blk_drew ?_ | refine blk_alloc ?_ _));exact BK167.out⟩,⟨by repeat (first | (with_reducible first | exact HB.out | apply below_alloc | apply pw_below_drewN | apply below_drew1 | refine below_set ?_ GE167.out | refine below_set ?_ GE169.out) | exact HB.out)⟩⟩
         ·rw [if_neg c17] at H
          have c17b0 : (((rd_T86 l0_1 x8_1).f1).toList == ([] : List UInt8)) = false:=beq_eq_false_iff_ne.mpr c17
          have c17b1 : (((rd_T86 l0_1 x8_1).f1).toList != ([] : List UInt8)) = true:=bne_iff_ne.mpr c17
          obtain rfl:=Option.some.inj H
          have p168 : 0 ≤ (x8_1 : Int):=of_decide_eq_true (by first | (with_reducible assumption) | assumption)
          have q168 : x8_1 < (l0_1.length : Int):=of_decide_eq_true (by first | (with_reducible assumption) | assumption)
          obtain ⟨ad168,e168,hx168_0,hx168_1,hx168_2⟩:=at_T86 HR0_1.out x8_1 p168 q168
          (try rw [← Nbq15.out] at hx168_2)
          cases e168
          replace hx168_0:=(HB.out.cell (World.block_lt_of_cell? w _ hx168_0)).trans hx168_0
          replace hx168_1:=(HB.out.cell (World.block_lt_of_cell? w _ hx168_1)).trans hx168_1
          replace hx168_2:=(HB.out.cell (World.block_lt_of_cell? w _ hx168_2)).trans hx168_2
          replace p168:=eq_true p168
          replace q168:=eq_true q168
          try go_wp2_with (first | ((with_reducible refine gate_dst (N:=4) rfl ?_);(try (refine gate_guard (by rfl) ?_;dsimp only));refine box_event ?hg (N:=4) ?hd (cs:=#[.string (⟨#[]⟩ : ByteArray),.string (⟨#[]⟩ : ByteArray),.bool false]) (t:=86) ?hr ?_;(case hd => rfl);(case hg => rfl);(case hr => first | (go_simp;done) | (go_simp;rfl));intro gb169 hg w38 hbox hb;have n0_:=Aside0.mk (blk_below (g:=gb167) (o:=.cells #[.int .i64 a0_0,.slice (some ad168) l0_1.length c0_1] 47 (0,0)) (by (with_reducible repeat (first | refine blk_drewN ?_ _ | refine blk_drew ?_ | refine blk_alloc ?_ _));exact BK167.out) hb);have n1_:=Aside0.mk (below_step (by repeat (first | (with_reducible first | exact HB.out | apply below_alloc | apply pw_below_drewN | apply below_drew1 | refine below_set ?_ GE167.out) | exact HB.out)) hb);have n2_:=Aside0.mk (hbox);have n3_:=Aside0.mk ((by rw [hg];exact (below_size (by repeat (first | (with_reducible first | exact HB.out | apply below_alloc | apply pw_below_drewN | apply below_drew1 | refine below_set ?_ GE167.out) | exact HB.out))) : w.heap.size ≤ gb169));have n4_:=Aside0.mk ((by rw [hg];exact (below_size (by repeat (first | (with_reducible first | exact HB.out | apply below_alloc | apply pw_below_drewN | apply below_drew1 | refine below_set ?_ GE167.out) | exact HB.out))) : w.heap.size ≤ gb169));have n5_:=Aside0.mk ((by rw [hg];exact Nat.ne_of_lt (blk_lt (g:=gb167) (o:=.cells #[.int .i64 a0_0,.slice (some ad168) l0_1.length c0_1] 47 (0,0)) (by (with_reducible repeat (first | refine blk_drewN ?_ _ | refine blk_drew ?_ | refine blk_alloc ?_ _));exact BK167.out)) : gb167 ≠ gb169));have n6_:=Aside0.mk ((by rw [hg];exact Nat.ne_of_gt (blk_lt (g:=gb167) (o:=.cells #[.int .i64 a0_0,.slice (some ad168) l0_1.length c0_1] 47 (0,0)) (by (with_reducible repeat (first | refine blk_drewN ?_ _ | refine blk_drew ?_ | refine blk_alloc ?_ _));exact BK167.out)) : gb169 ≠ gb167));clear BK167;clear HB;have BK167:=n0_;have HB:=n1_;have BK169:=n2_;have GW169:=n3_;have GE169:=n4_;have NB167_169:=n5_;have NB169_167:=n6_;clear n0_ n1_ n2_ n3_ n4_ n5_ n6_;clear hb hbox hg;have hnb39:=NB169_167.out;have hnc39:=NB167_169.out;have hcz40_0 : w38.cell? ⟨gb169,0,none⟩ = some (.string (⟨#[]⟩ : ByteArray)):=(blk_cell BK169.out 0).trans rfl;have hcz40_1 : w38.cell? ⟨gb169,1,none⟩ = some (.string (⟨#[]⟩ : ByteArray)):=(blk_cell BK169.out 1).trans rfl;have hcz40_2 : w38.cell? ⟨gb169,2,none⟩ = some (.bool false):=(blk_cell BK169.out 2).trans rfl;have hfz40_0:=blk_frozen BK169.out 0;have hfz40_1:=blk_frozen BK169.out 1;have hfz40_2:=blk_frozen BK169.out 2))
          have n0_ : Aside0 ((((w38.setCell ⟨gb169,0,none⟩ (.string ((rd_T86 l0_1 x8_1).f0))).setCell ⟨gb169,1,none⟩ (.string ((rd_T86 l0_1 x8_1).f1))).setCell ⟨gb169,2,none⟩ (.bool true)).heap[gb167]? = some (.cells #[.int .i64 a0_0,.slice (some ad168) l0_1.length c0_1] 47 (0,0))):=⟨by (with_reducible repeat (first | refine blk_drewN ?_ _ | refine blk_drew ?_ | refine blk_alloc ?_ _));refine blk_far ?_ NB167_169.out _;(with_reducible repeat (first | refine blk_drewN ?_ _ | refine blk_drew ?_ | refine blk_alloc ?_ _));refine blk_far ?_ NB167_169.out _;(with_reducible repeat (first | refine blk_drewN ?_ _ | refine blk_drew ?_ | refine blk_alloc ?_ _));refine blk_far ?_ NB167_169.out _;(with_reducible repeat (first | refine blk_drewN ?_ _ | refine blk_drew ?_ | refine blk_alloc ?_ _));exact BK167.out⟩
          have n1_ : Aside0 ((((w38.setCell ⟨gb169,0,none⟩ (.string ((rd_T86 l0_1 x8_1).f0))).setCell ⟨gb169,1,none⟩ (.string ((rd_T86 l0_1 x8_1).f1))).setCell ⟨gb169,2,none⟩ (.bool true)).heap[gb169]? = some (.cells #[.string ((rd_T86 l0_1 x8_1).f0),.string ((rd_T86 l0_1 x8_1).f1),.bool true] 86 (0,0))):=⟨by (with_reducible repeat (first | refine blk_drewN ?_ _ | refine blk_drew ?_ | refine blk_alloc ?_ _));refine blk_put (cs:=#[.string ((rd_T86 l0_1 x8_1).f0),.string ((rd_T86 l0_1 x8_1).f1),.bool false]) ?_ 2 _ rfl;(with_reducible repeat (first | refine blk_drewN ?_ _ | refine blk_drew ?_ | refine blk_alloc ?_ _));refine blk_put (cs:=#[.string ((rd_T86 l0_1 x8_1).f0),.string (⟨#[]⟩ : ByteArray),.bool false]) ?_ 1 _ rfl;(with_reducible repeat (first | refine blk_drewN ?_ _ | refine blk_drew ?_ | refine blk_alloc ?_ _));refine blk_put (cs:=#[.string (⟨#[]⟩ : ByteArray),.string (⟨#[]⟩ : ByteArray),.bool false]) ?_ 0 _ rfl;(with_reducible repeat (first | refine blk_drewN ?_ _ | refine blk_drew ?_ | refine blk_alloc ?_ _));exact BK169.out⟩
          have n2_ : Aside0 (Below w.heap.size w (((w38.setCell ⟨gb169,0,none⟩ (.string ((rd_T86 l0_1 x8_1).f0))).setCell ⟨gb169,1,none⟩ (.string ((rd_T86 l0_1 x8_1).f1))).setCell ⟨gb169,2,none⟩ (.bool true))):=⟨by repeat (first | (with_reducible first | exact HB.out | apply below_alloc | apply pw_below_drewN | apply below_drew1 | refine below_set ?_ GE167.out | refine below_set ?_ GE169.out) | exact HB.out)⟩
          (try clear BK167)
          (try clear BK169)
          (try clear HB)
          generalize (((w38.setCell ⟨gb169,0,none⟩ (.string ((rd_T86 l0_1 x8_1).f0))).setCell ⟨gb169,1,none⟩ (.string ((rd_T86 l0_1 x8_1).f1))).setCell ⟨gb169,2,none⟩ (.bool true)) = w41 at n0_ n1_ n2_ ⊢
          have BK167:=n0_
          have BK169:=n1_
          have HB:=n2_
          clear n0_ n1_ n2_
          have n0_:=Aside0.mk (blk_drew BK167.out)
          have n1_:=Aside0.mk (blk_drew BK169.out)
          have n2_:=Aside0.mk (below_drew1 HB.out)
          clear BK167
          clear BK169
          clear HB
          have BK167:=n0_
          have BK169:=n1_
          have HB:=n2_
          clear n0_ n1_ n2_
          refine start_ (n:=35) (S:=fun w' => w'.cell? ⟨gb169,0,none⟩ = some (.string ((rd_T86 l0_1 x8_1).f0)) ∧ w'.cell? ⟨gb169,1,none⟩ = some (.string ((rd_T86 l0_1 x8_1).f1)) ∧ w'.cell? ⟨gb169,2,none⟩ = some (.bool true)) (ds:=[]) #[Z5,Z5,Z5,Z5,Z5,Z5,Z5,Z5,Z5,Z5,Z5,Z5,Z5,Z5,Z5,Z5,Z5,Z5,Z5,Z5,Z5,Z5,Z5,Z5,Z5,Z5,Z5,Z5,Z5,Z5,Z5,Z5,Z5,Z5,Z5] (by kernel_rfl) rfl rfl ⟨(blk_cell BK169.out 0).trans rfl,(blk_cell BK169.out 1).trans rfl,(blk_cell BK169.out 2).trans rfl⟩ (fun hHeld => ?_);refine with_tabW impl_BatchOk.tab4 impl_BatchOk.bits4 (fun HT_ HW_ => ?_)
          generalize w41.drew = w42 at BK167 BK169 HB hHeld ⊢
          refine pure_ (i:=0) (N:=some 13) (v:=?_) (a':=?_) #[Y5,Z5,Z5,Z5,Z5,Z5,Z5,Z5,Z5,Z5,Z5,Z5,Z5,Z5,Z5,Z5,Z5,Z5,Z5,Z5,Z5,Z5,Z5,Z5,Z5,Z5,Z5,Z5,Z5,Z5,Z5,Z5,Z5,Z5,Z5] rfl rfl (any_of HT_.out (by kernel_rfl)) (fun _ _ _ h => h) (Or.inl ⟨by rfl,?_⟩) ?_ ?_;rotate_left
          ·intro w';go_simp;with_reducible rfl
          rotate_left
          ·simp only [Act.put,q15,q25,q35,i64_w,i32_w];rfl
          refine take_ (i:=1) (N:=some 14) (v:=?_) (a':=?_) #[Y5,Y5,Z5,Z5,Z5,Z5,Z5,Z5,Z5,Z5,Z5,Z5,Z5,Z5,Z5,Z5,Z5,Z5,Z5,Z5,Z5,Z5,Z5,Z5,Z5,Z5,Z5,Z5,Z5,Z5,Z5,Z5,Z5,Z5,Z5] rfl rfl (take_ofW HT_.out HW_.out (by kernel_rfl)) (fun _ _ _ h => h) (Or.inl ⟨by rfl,?_⟩) hHeld ?_ ?_;rotate_left
          ·rintro w' ⟨s0,s1,s2⟩
           go_simp
           with_reducible rfl
          rotate_left
          ·simp only [Act.put,q15,q25,q35,i64_w,i32_w];rfl
          refine one_ (i:=2) (N:=some 15) #[Y5,Y5,Y5,Z5,Z5,Z5,Z5,Z5,Z5,Z5,Z5,Z5,Z5,Z5,Z5,Z5,Z5,Z5,Z5,Z5,Z5,Z5,Z5,Z5,Z5,Z5,Z5,Z5,Z5,Z5,Z5,Z5,Z5,Z5,Z5] rfl rfl (one_of HT_.out (by kernel_rfl)) (by decide) (fun K hK => ?_)
          refine goes_ Try.func45 (by kernel_rfl) rfl #[.string ((rd_T86 l0_1 x8_1).f0)] (by rfl) rfl rfl (by (try simp only [List.map_toArray,List.map_cons,List.map_nil]);first | done | rfl | (simp only [List.length_drop,List.length_take];rfl)) ?_
          with_reducible refine (impl_keyOk.calls ((rd_T86 l0_1 x8_1).f0) true _ A7.out).mono ?_
          rintro e w' ⟨rfl,⟨nd,rfl⟩⟩
          refine ⟨_,rfl,?_⟩
          refine hK.out _ _ ⟨(blk_cell BK169.out 0).trans rfl,(blk_cell BK169.out 1).trans rfl,(blk_cell BK169.out 2).trans rfl⟩ (fun hHeld => ?_)
          clear hK K
          refine norm_ (a':=?_) ?_ ?_;rotate_left
          ·show Act.put _ (some 15) _ = _;simp only [Act.put,q15,q25,q35,i64_w,i32_w];rfl
          refine pure_ (i:=3) (N:=some 16) (v:=?_) (a':=?_) #[Y5,Y5,Y5,Y5,Z5,Z5,Z5,Z5,Z5,Z5,Z5,Z5,Z5,Z5,Z5,Z5,Z5,Z5,Z5,Z5,Z5,Z5,Z5,Z5,Z5,Z5,Z5,Z5,Z5,Z5,Z5,Z5,Z5,Z5,Z5] rfl rfl (any_of HT_.out (by kernel_rfl)) (fun _ _ _ h => h) (Or.inl ⟨by rfl,?_⟩) ?_ ?_;rotate_left
          ·intro w';go_simp;with_reducible rfl
          rotate_left
          ·simp only [Act.put,q15,q25,q35,i64_w,i32_w];rfl
          refine pure_ (i:=4) (N:=some 17) (v:=?_) (a':=?_) #[Y5,Y5,Y5,Y5,Y5,Z5,Z5,Z5,Z5,Z5,Z5,Z5,Z5,Z5,Z5,Z5,Z5,Z5,Z5,Z5,Z5,Z5,Z5,Z5,Z5,Z5,Z5,Z5,Z5,Z5,Z5,Z5,Z5,Z5,Z5] rfl rfl (any_of HT_.out (by kernel_rfl)) (fun _ _ _ h => h) (Or.inl ⟨by rfl,?_⟩) ?_ ?_;rotate_left
          ·intro w';go_simp;with_reducible rfl
          rotate_left
          ·simp only [Act.put,q15,q25,q35,i64_w,i32_w];rfl
          refine pure_ (i:=5) (N:=some 18) (v:=?_) (a':=?_) #[Y5,Y5,Y5,Y5,Y5,Y5,Z5,Z5,Z5,Z5,Z5,Z5,Z5,Z5,Z5,Z5,Z5,Z5,Z5,Z5,Z5,Z5,Z5,Z5,Z5,Z5,Z5,Z5,Z5,Z5,Z5,Z5,Z5,Z5,Z5] rfl rfl (any_of HT_.out (by kernel_rfl)) (fun _ _ _ h => h) (Or.inl ⟨by rfl,?_⟩) ?_ ?_;rotate_left
          ·intro w';go_simp;with_reducible rfl
          rotate_left
          ·simp only [Act.put,q15,q25,q35,i64_w,i32_w];rfl
          refine take_ (i:=6) (N:=some 19) (v:=?_) (a':=?_) #[Y5,Y5,Y5,Y5,Y5,Y5,Y5,Z5,Z5,Z5,Z5,Z5,Z5,Z5,Z5,Z5,Z5,Z5,Z5,Z5,Z5,Z5,Z5,Z5,Z5,Z5,Z5,Z5,Z5,Z5,Z5,Z5,Z5,Z5,Z5] rfl rfl (take_ofW HT_.out HW_.out (by kernel_rfl)) (fun _ _ _ h => h) (Or.inl ⟨by rfl,?_⟩) hHeld ?_ ?_;rotate_left
          ·rintro w' ⟨s0,s1,s2⟩
           go_simp
           with_reducible rfl
          rotate_left
          ·simp only [Act.put,q15,q25,q35,i64_w,i32_w];rfl
          refine pure_ (i:=7) (N:=some 20) (v:=?_) (a':=?_) #[Y5,Y5,Y5,Y5,Y5,Y5,Y5,Y5,Z5,Z5,Z5,Z5,Z5,Z5,Z5,Z5,Z5,Z5,Z5,Z5,Z5,Z5,Z5,Z5,Z5,Z5,Z5,Z5,Z5,Z5,Z5,Z5,Z5,Z5,Z5] rfl rfl (any_of HT_.out (by kernel_rfl)) (fun _ _ _ h => h) (Or.inl ⟨by rfl,?_⟩) ?_ ?_;rotate_left
          ·intro w';go_simp;with_reducible rfl
          rotate_left
          ·simp only [Act.put,q15,q25,q35,i64_w,i32_w];rfl
          refine pure_ (i:=8) (N:=some 21) (v:=?_) (a':=?_) #[Y5,Y5,Y5,Y5,Y5,Y5,Y5,Y5,Y5,Z5,Z5,Z5,Z5,Z5,Z5,Z5,Z5,Z5,Z5,Z5,Z5,Z5,Z5,Z5,Z5,Z5,Z5,Z5,Z5,Z5,Z5,Z5,Z5,Z5,Z5] rfl rfl (any_of HT_.out (by kernel_rfl)) (fun _ _ _ h => h) (Or.inl ⟨by rfl,?_⟩) ?_ ?_;rotate_left
          ·intro w';go_simp;with_reducible rfl
          rotate_left
          ·simp only [Act.put,q15,q25,q35,i64_w,i32_w];rfl
          refine pure_ (i:=9) (N:=some 22) (v:=?_) (a':=?_) #[Y5,Y5,Y5,Y5,Y5,Y5,Y5,Y5,Y5,Y5,Z5,Z5,Z5,Z5,Z5,Z5,Z5,Z5,Z5,Z5,Z5,Z5,Z5,Z5,Z5,Z5,Z5,Z5,Z5,Z5,Z5,Z5,Z5,Z5,Z5] rfl rfl (any_of HT_.out (by kernel_rfl)) (fun _ _ _ h => h) (Or.inl ⟨by rfl,?_⟩) ?_ ?_;rotate_left
          ·intro w';go_simp;with_reducible rfl
          rotate_left
          ·simp only [Act.put,q15,q25,q35,i64_w,i32_w];rfl
          refine pure_ (i:=10) (N:=some 23) (v:=?_) (a':=?_) #[Y5,Y5,Y5,Y5,Y5,Y5,Y5,Y5,Y5,Y5,Y5,Z5,Z5,Z5,Z5,Z5,Z5,Z5,Z5,Z5,Z5,Z5,Z5,Z5,Z5,Z5,Z5,Z5,Z5,Z5,Z5,Z5,Z5,Z5,Z5] rfl rfl (any_of HT_.out (by kernel_rfl)) (fun _ _ _ h => h) (Or.inl ⟨by rfl,?_⟩) ?_ ?_;rotate_left
          ·intro w';go_simp;with_reducible rfl
          rotate_left
          ·simp only [Act.put,q15,q25,q35,i64_w,i32_w];rfl
          refine pure_ (i:=11) (N:=some 24) (v:=?_) (a':=?_) #[Y5,Y5,Y5,Y5,Y5,Y5,Y5,Y5,Y5,Y5,Y5,Y5,Z5,Z5,Z5,Z5,Z5,Z5,Z5,Z5,Z5,Z5,Z5,Z5,Z5,Z5,Z5,Z5,Z5,Z5,Z5,Z5,Z5,Z5,Z5] rfl rfl (any_of HT_.out (by kernel_rfl)) (fun _ _ _ h => h) (Or.inl ⟨by rfl,?_⟩) ?_ ?_;rotate_left
          ·intro w';go_simp;with_reducible rfl
          rotate_left
          ·simp only [Act.put,q15,q25,q35,i64_w,i32_w];rfl
          refine take_ (i:=12) (N:=some 25) (v:=?_) (a':=?_) #[Y5,Y5,Y5,Y5,Y5,Y5,Y5,Y5,Y5,Y5,Y5,Y5,Y5,Z5,Z5,Z5,Z5,Z5,Z5,Z5,Z5,Z5,Z5,Z5,Z5,Z5,Z5,Z5,Z5,Z5,Z5,Z5,Z5,Z5,Z5] rfl rfl (take_ofW HT_.out HW_.out (by kernel_rfl)) (fun _ _ _ h => h) (Or.inl ⟨by rfl,?_⟩) hHeld ?_ ?_;rotate_left
          ·rintro w' ⟨s0,s1,s2⟩
           go_simp
           with_reducible rfl
          rotate_left
          ·simp only [Act.put,q15,q25,q35,i64_w,i32_w];rfl
          refine pure_ (i:=13) (N:=some 26) (v:=?_) (a':=?_) #[Y5,Y5,Y5,Y5,Y5,Y5,Y5,Y5,Y5,Y5,Y5,Y5,Y5,Y5,Z5,Z5,Z5,Z5,Z5,Z5,Z5,Z5,Z5,Z5,Z5,Z5,Z5,Z5,Z5,Z5,Z5,Z5,Z5,Z5,Z5] rfl rfl (any_of HT_.out (by kernel_rfl)) (fun _ _ _ h => h) (Or.inl ⟨by rfl,?_⟩) ?_ ?_;rotate_left
          ·intro w';go_simp;with_reducible rfl
          rotate_left
          ·simp only [Act.put,q15,q25,q35,i64_w,i32_w];rfl
          refine pure_ (i:=14) (N:=some 27) (v:=?_) (a':=?_) #[Y5,Y5,Y5,Y5,Y5,Y5,Y5,Y5,Y5,Y5,Y5,Y5,Y5,Y5,Y5,Z5,Z5,Z5,Z5,Z5,Z5,Z5,Z5,Z5,Z5,Z5,Z5,Z5,Z5,Z5,Z5,Z5,Z5,Z5,Z5] rfl rfl (any_of HT_.out (by kernel_rfl)) (fun _ _ _ h => h) (Or.inl ⟨by rfl,?_⟩) ?_ ?_;rotate_left
          ·intro w';go_simp;with_reducible rfl
          rotate_left
          ·simp only [Act.put,q15,q25,q35,i64_w,i32_w];rfl
          refine take_ (i:=15) (N:=some 28) (v:=?_) (a':=?_) #[Y5,Y5,Y5,Y5,Y5,Y5,Y5,Y5,Y5,Y5,Y5,Y5,Y5,Y5,Y5,Y5,Z5,Z5,Z5,Z5,Z5,Z5,Z5,Z5,Z5,Z5,Z5,Z5,Z5,Z5,Z5,Z5,Z5,Z5,Z5] rfl rfl (take_ofW HT_.out HW_.out (by kernel_rfl)) (fun _ _ _ h => h) (Or.inl ⟨by rfl,?_⟩) hHeld ?_ ?_;rotate_left
          ·rintro w' ⟨s0,s1,s2⟩
           go_simp
           with_reducible rfl
          rotate_left
          ·simp only [Act.put,q15,q25,q35,i64_w,i32_w];rfl
          refine pure_ (i:=16) (N:=some 29) (v:=?_) (a':=?_) #[Y5,Y5,Y5,Y5,Y5,Y5,Y5,Y5,Y5,Y5,Y5,Y5,Y5,Y5,Y5,Y5,Y5,Z5,Z5,Z5,Z5,Z5,Z5,Z5,Z5,Z5,Z5,Z5,Z5,Z5,Z5,Z5,Z5,Z5,Z5] rfl rfl (any_of HT_.out (by kernel_rfl)) (fun _ _ _ h => h) (Or.inl ⟨by rfl,?_⟩) ?_ ?_;rotate_left
          ·intro w';go_simp;with_reducible rfl
          rotate_left
          ·simp only [Act.put,q15,q25,q35,i64_w,i32_w];rfl
          refine pure_ (i:=17) (N:=some 30) (v:=?_) (a':=?_) #[Y5,Y5,Y5,Y5,Y5,Y5,Y5,Y5,Y5,Y5,Y5,Y5,Y5,Y5,Y5,Y5,Y5,Y5,Z5,Z5,Z5,Z5,Z5,Z5,Z5,Z5,Z5,Z5,Z5,Z5,Z5,Z5,Z5,Z5,Z5] rfl rfl (any_of HT_.out (by kernel_rfl)) (fun _ _ _ h => h) (Or.inl ⟨by rfl,?_⟩) ?_ ?_;rotate_left
          ·intro w';go_simp;with_reducible rfl
          rotate_left
          ·simp only [Act.put,q15,q25,q35,i64_w,i32_w];rfl
          refine pure_ (i:=18) (N:=some 31) (v:=?_) (a':=?_) #[Y5,Y5,Y5,Y5,Y5,Y5,Y5,Y5,Y5,Y5,Y5,Y5,Y5,Y5,Y5,Y5,Y5,Y5,Y5,Z5,Z5,Z5,Z5,Z5,Z5,Z5,Z5,Z5,Z5,Z5,Z5,Z5,Z5,Z5,Z5] rfl rfl (any_of HT_.out (by kernel_rfl)) (fun _ _ _ h => h) (Or.inl ⟨by rfl,?_⟩) ?_ ?_;rotate_left
          ·intro w';go_simp;with_reducible rfl
          rotate_left
          ·simp only [Act.put,q15,q25,q35,i64_w,i32_w];rfl
          refine pure_ (i:=19) (N:=some 32) (v:=?_) (a':=?_) #[Y5,Y5,Y5,Y5,Y5,Y5,Y5,Y5,Y5,Y5,Y5,Y5,Y5,Y5,Y5,Y5,Y5,Y5,Y5,Y5,Z5,Z5,Z5,Z5,Z5,Z5,Z5,Z5,Z5,Z5,Z5,Z5,Z5,Z5,Z5] rfl rfl (any_of HT_.out (by kernel_rfl)) (fun _ _ _ h => h) (Or.inl ⟨by rfl,?_⟩) ?_ ?_;rotate_left
          ·intro w';go_simp;with_reducible rfl
          rotate_left
          ·simp only [Act.put,q15,q25,q35,i64_w,i32_w];rfl
          refine pure_ (i:=20) (N:=some 33) (v:=undef) (a':=?_) #[Y5,Y5,Y5,Y5,Y5,Y5,Y5,Y5,Y5,Y5,Y5,Y5,Y5,Y5,Y5,Y5,Y5,Y5,Y5,Y5,Y5,Z5,Z5,Z5,Z5,Z5,Z5,Z5,Z5,Z5,Z5,Z5,Z5,Z5,Z5] rfl rfl (any_of HT_.out (by kernel_rfl)) (fun _ _ _ h => h) (Or.inr ⟨by rfl,rfl⟩) ?_ ?_;rotate_left
          ·simp only [Act.put,q15,q25,q35,i64_w,i32_w];rfl
          refine pure_ (i:=21) (N:=some 34) (v:=undef) (a':=?_) #[Y5,Y5,Y5,Y5,Y5,Y5,Y5,Y5,Y5,Y5,Y5,Y5,Y5,Y5,Y5,Y5,Y5,Y5,Y5,Y5,Y5,Y5,Z5,Z5,Z5,Z5,Z5,Z5,Z5,Z5,Z5,Z5,Z5,Z5,Z5] rfl rfl (any_of HT_.out (by kernel_rfl)) (fun _ _ _ h => h) (Or.inr ⟨by rfl,rfl⟩) ?_ ?_;rotate_left
          ·simp only [Act.put,q15,q25,q35,i64_w,i32_w];rfl
          refine pure_ (i:=22) (N:=some 35) (v:=undef) (a':=?_) #[Y5,Y5,Y5,Y5,Y5,Y5,Y5,Y5,Y5,Y5,Y5,Y5,Y5,Y5,Y5,Y5,Y5,Y5,Y5,Y5,Y5,Y5,Y5,Z5,Z5,Z5,Z5,Z5,Z5,Z5,Z5,Z5,Z5,Z5,Z5] rfl rfl (any_of HT_.out (by kernel_rfl)) (fun _ _ _ h => h) (Or.inr ⟨by rfl,rfl⟩) ?_ ?_;rotate_left
          ·simp only [Act.put,q15,q25,q35,i64_w,i32_w];rfl
          refine pure_ (i:=23) (N:=some 36) (v:=undef) (a':=?_) #[Y5,Y5,Y5,Y5,Y5,Y5,Y5,Y5,Y5,Y5,Y5,Y5,Y5,Y5,Y5,Y5,Y5,Y5,Y5,Y5,Y5,Y5,Y5,Y5,Z5,Z5,Z5,Z5,Z5,Z5,Z5,Z5,Z5,Z5,Z5] rfl rfl (any_of HT_.out (by kernel_rfl)) (fun _ _ _ h => h) (Or.inr ⟨by rfl,rfl⟩) ?_ ?_;rotate_left
          ·simp only [Act.put,q15,q25,q35,i64_w,i32_w];rfl
          refine pure_ (i:=24) (N:=some 37) (v:=undef) (a':=?_) #[Y5,Y5,Y5,Y5,Y5,Y5,Y5,Y5,Y5,Y5,Y5,Y5,Y5,Y5,Y5,Y5,Y5,Y5,Y5,Y5,Y5,Y5,Y5,Y5,Y5,Z5,Z5,Z5,Z5,Z5,Z5,Z5,Z5,Z5,Z5] rfl rfl (any_of HT_.out (by kernel_rfl)) (fun _ _ _ h => h) (Or.inr ⟨by rfl,rfl⟩) ?_ ?_;rotate_left
          ·simp only [Act.put,q15,q25,q35,i64_w,i32_w];rfl
          refine pure_ (i:=25) (N:=some 38) (v:=undef) (a':=?_) #[Y5,Y5,Y5,Y5,Y5,Y5,Y5,Y5,Y5,Y5,Y5,Y5,Y5,Y5,Y5,Y5,Y5,Y5,Y5,Y5,Y5,Y5,Y5,Y5,Y5,Y5,Z5,Z5,Z5,Z5,Z5,Z5,Z5,Z5,Z5] rfl rfl (any_of HT_.out (by kernel_rfl)) (fun _ _ _ h => h) (Or.inr ⟨by rfl,rfl⟩) ?_ ?_;rotate_left
          ·simp only [Act.put,q15,q25,q35,i64_w,i32_w];rfl
          refine pure_ (i:=26) (N:=some 39) (v:=undef) (a':=?_) #[Y5,Y5,Y5,Y5,Y5,Y5,Y5,Y5,Y5,Y5,Y5,Y5,Y5,Y5,Y5,Y5,Y5,Y5,Y5,Y5,Y5,Y5,Y5,Y5,Y5,Y5,Y5,Z5,Z5,Z5,Z5,Z5,Z5,Z5,Z5] rfl rfl (any_of HT_.out (by kernel_rfl)) (fun _ _ _ h => h) (Or.inr ⟨by rfl,rfl⟩) ?_ ?_;rotate_left
          ·simp only [Act.put,q15,q25,q35,i64_w,i32_w];rfl
          refine pure_ (i:=27) (N:=some 40) (v:=undef) (a':=?_) #[Y5,Y5,Y5,Y5,Y5,Y5,Y5,Y5,Y5,Y5,Y5,Y5,Y5,Y5,Y5,Y5,Y5,Y5,Y5,Y5,Y5,Y5,Y5,Y5,Y5,Y5,Y5,Y5,Z5,Z5,Z5,Z5,Z5,Z5,Z5] rfl rfl (any_of HT_.out (by kernel_rfl)) (fun _ _ _ h => h) (Or.inr ⟨by rfl,rfl⟩) ?_ ?_;rotate_left
          ·simp only [Act.put,q15,q25,q35,i64_w,i32_w];rfl
          refine pure_ (i:=28) (N:=some 41) (v:=undef) (a':=?_) #[Y5,Y5,Y5,Y5,Y5,Y5,Y5,Y5,Y5,Y5,Y5,Y5,Y5,Y5,Y5,Y5,Y5,Y5,Y5,Y5,Y5,Y5,Y5,Y5,Y5,Y5,Y5,Y5,Y5,Z5,Z5,Z5,Z5,Z5,Z5] rfl rfl (any_of HT_.out (by kernel_rfl)) (fun _ _ _ h => h) (Or.inr ⟨by rfl,rfl⟩) ?_ ?_;rotate_left
          ·simp only [Act.put,q15,q25,q35,i64_w,i32_w];rfl
          refine pure_ (i:=29) (N:=some 42) (v:=undef) (a':=?_) #[Y5,Y5,Y5,Y5,Y5,Y5,Y5,Y5,Y5,Y5,Y5,Y5,Y5,Y5,Y5,Y5,Y5,Y5,Y5,Y5,Y5,Y5,Y5,Y5,Y5,Y5,Y5,Y5,Y5,Y5,Z5,Z5,Z5,Z5,Z5] rfl rfl (any_of HT_.out (by kernel_rfl)) (fun _ _ _ h => h) (Or.inr ⟨by rfl,rfl⟩) ?_ ?_;rotate_left
          ·simp only [Act.put,q15,q25,q35,i64_w,i32_w];rfl
          refine pure_ (i:=30) (N:=some 43) (v:=undef) (a':=?_) #[Y5,Y5,Y5,Y5,Y5,Y5,Y5,Y5,Y5,Y5,Y5,Y5,Y5,Y5,Y5,Y5,Y5,Y5,Y5,Y5,Y5,Y5,Y5,Y5,Y5,Y5,Y5,Y5,Y5,Y5,Y5,Z5,Z5,Z5,Z5] rfl rfl (any_of HT_.out (by kernel_rfl)) (fun _ _ _ h => h) (Or.inr ⟨by rfl,rfl⟩) ?_ ?_;rotate_left
          ·simp only [Act.put,q15,q25,q35,i64_w,i32_w];rfl
          refine pure_ (i:=31) (N:=some 44) (v:=undef) (a':=?_) #[Y5,Y5,Y5,Y5,Y5,Y5,Y5,Y5,Y5,Y5,Y5,Y5,Y5,Y5,Y5,Y5,Y5,Y5,Y5,Y5,Y5,Y5,Y5,Y5,Y5,Y5,Y5,Y5,Y5,Y5,Y5,Y5,Z5,Z5,Z5] rfl rfl (any_of HT_.out (by kernel_rfl)) (fun _ _ _ h => h) (Or.inr ⟨by rfl,rfl⟩) ?_ ?_;rotate_left
          ·simp only [Act.put,q15,q25,q35,i64_w,i32_w];rfl
          refine pure_ (i:=32) (N:=some 45) (v:=undef) (a':=?_) #[Y5,Y5,Y5,Y5,Y5,Y5,Y5,Y5,Y5,Y5,Y5,Y5,Y5,Y5,Y5,Y5,Y5,Y5,Y5,Y5,Y5,Y5,Y5,Y5,Y5,Y5,Y5,Y5,Y5,Y5,Y5,Y5,Y5,Z5,Z5] rfl rfl (any_of HT_.out (by kernel_rfl)) (fun _ _ _ h => h) (Or.inr ⟨by rfl,rfl⟩) ?_ ?_;rotate_left
          ·simp only [Act.put,q15,q25,q35,i64_w,i32_w];rfl
          refine pure_ (i:=33) (N:=some 46) (v:=undef) (a':=?_) #[Y5,Y5,Y5,Y5,Y5,Y5,Y5,Y5,Y5,Y5,Y5,Y5,Y5,Y5,Y5,Y5,Y5,Y5,Y5,Y5,Y5,Y5,Y5,Y5,Y5,Y5,Y5,Y5,Y5,Y5,Y5,Y5,Y5,Y5,Z5] rfl rfl (any_of HT_.out (by kernel_rfl)) (fun _ _ _ h => h) (Or.inr ⟨by rfl,rfl⟩) ?_ ?_;rotate_left
          ·simp only [Act.put,q15,q25,q35,i64_w,i32_w];rfl
          refine pure_ (i:=34) (N:=some 47) (v:=?_) (a':=?_) #[Y5,Y5,Y5,Y5,Y5,Y5,Y5,Y5,Y5,Y5,Y5,Y5,Y5,Y5,Y5,Y5,Y5,Y5,Y5,Y5,Y5,Y5,Y5,Y5,Y5,Y5,Y5,Y5,Y5,Y5,Y5,Y5,Y5,Y5,Y5] rfl rfl (any_of HT_.out (by kernel_rfl)) (fun _ _ _ h => h) (Or.inl ⟨by rfl,?_⟩) ?_ ?_;rotate_left
          ·intro w';go_simp;with_reducible rfl
          rotate_left
          ·simp only [Act.put,q15,q25,q35,i64_w,i32_w];rfl
          refine done_ (done_of HT_.out (by kernel_rfl)) ?_
          try go_wp2
          go_ret
          exact ⟨by first | rfl | (simp [errW_none,errW_some] <;> rfl) | (simp [*,errW_none,errW_some] <;> rfl),by repeat (first | (with_reducible first | exact HB.out | apply below_alloc | apply pw_below_drewN | apply below_drew1 | refine below_set ?_ GE167.out | refine below_set ?_ GE169.out) | exact HB.out)⟩
        ·replace c16:=Bool.eq_false_iff.mpr c16
         subst c16
         have H1 : (if x8_1 > 0 then (if 0 ≤ (wrap64 (x8_1 - 1)) then (if (wrap64 (x8_1 - 1)) < (l0_1.length : Int) then (if ((Op.bytesLess (((rd_T86 l0_1 (wrap64 (x8_1 - 1))).f0).toList) (((rd_T86 l0_1 x8_1).f0).toList)) = true) then (impl_BatchOk.l0 k1 l0_1 (l0_1.length : Int) (wrap64 (x8_1 + 1)) a0_0 l0_1) else (some false)) else (none)) else (none)) else (impl_BatchOk.l0 k1 l0_1 (l0_1.length : Int) (wrap64 (x8_1 + 1)) a0_0 l0_1)) = some r:=by rw [if_neg (show ¬ (false = true) by decide)] at H;exact H
         clear H
         have H:=H1
         clear H1
         by_cases c43 : x8_1 > 0
         ·rw [if_pos c43] at H
          have c43b0 : decide (0 < x8_1) = true:=decide_eq_true c43
          clear c43
          obtain ⟨ji44,hji44⟩ : ∃ j_ : Int,(wrap64 (x8_1 - 1)) = j_:=⟨_,rfl⟩
          replace H : (if 0 ≤ (ji44) then (if (ji44) < (l0_1.length : Int) then (if ((Op.bytesLess (((rd_T86 l0_1 (ji44)).f0).toList) (((rd_T86 l0_1 x8_1).f0).toList)) = true) then (impl_BatchOk.l0 k1 l0_1 (l0_1.length : Int) (wrap64 (x8_1 + 1)) a0_0 l0_1) else (some false)) else (none)) else (none)) = some r:=by first | (rw [hji44] at H;exact H) | (simp only [hji44] at H ⊢;exact H)
          (try rw [hji44] at A7)
          have hji44w : (IntKind.i64.wrap (x8_1 - 1)) = ji44:=(i64_w _).trans hji44
          by_cases c45 : 0 ≤ (ji44)
          ·rw [if_pos c45] at H
           have c45b0 : decide (0 ≤ (ji44)) = true:=decide_eq_true c45
           clear c45
           by_cases c46 : (ji44) < (l0_1.length : Int)
           ·rw [if_pos c46] at H
            have c46b0 : decide ((ji44) < (l0_1.length : Int)) = true:=decide_eq_true c46
            clear c46
            by_cases c47 : ((Op.bytesLess (((rd_T86 l0_1 (ji44)).f0).toList) (((rd_T86 l0_1 x8_1).f0).toList)) = true)
            ·rw [if_pos c47] at H
             have c47b0 : (Op.bytesLess (((rd_T86 l0_1 (ji44)).f0).toList) (((rd_T86 l0_1 x8_1).f0).toList)) = true:=c47
             clear c47
             have H':=Aside0.mk H
             clear H
             have p168 : 0 ≤ (x8_1 : Int):=of_decide_eq_true (by first | (with_reducible assumption) | assumption)
             have q168 : x8_1 < (l0_1.length : Int):=of_decide_eq_true (by first | (with_reducible assumption) | assumption)
             obtain ⟨ad168,e168,hx168_0,hx168_1,hx168_2⟩:=at_T86 HR0_1.out x8_1 p168 q168
             (try rw [← Nbq15.out] at hx168_2)
             cases e168
             replace hx168_0:=(HB.out.cell (World.block_lt_of_cell? w _ hx168_0)).trans hx168_0
             replace hx168_1:=(HB.out.cell (World.block_lt_of_cell? w _ hx168_1)).trans hx168_1
             replace hx168_2:=(HB.out.cell (World.block_lt_of_cell? w _ hx168_2)).trans hx168_2
             replace p168:=eq_true p168
             replace q168:=eq_true q168
             try go_wp2_with (first | ((with_reducible refine gate_dst (N:=4) rfl ?_);(try (refine gate_guard (by rfl) ?_;dsimp only));refine box_event ?hg (N:=4) ?hd (cs:=#[.string (⟨#[]⟩ : ByteArray),.string (⟨#[]⟩ : ByteArray),.bool false]) (t:=86) ?hr ?_;(case hd => rfl);(case hg => rfl);(case hr => first | (go_simp;done) | (go_simp;rfl));intro gb169 hg w48 hbox hb;have n0_:=Aside0.mk (blk_below (g:=gb167) (o:=.cells #[.int .i64 a0_0,.slice (some ad168) l0_1.length c0_1] 47 (0,0)) (by (with_reducible repeat (first | refine blk_drewN ?_ _ | refine blk_drew ?_ | refine blk_alloc ?_ _));exact BK167.out) hb);have n1_:=Aside0.mk (below_step (by repeat (first | (with_reducible first | exact HB.out | apply below_alloc | apply pw_below_drewN | apply below_drew1 | refine below_set ?_ GE167.out) | exact HB.out)) hb);have n2_:=Aside0.mk (hbox);have n3_:=Aside0.mk ((by rw [hg];exact (below_size (by repeat (first | (with_reducible first | exact HB.out | apply below_alloc | apply pw_below_drewN | apply below_drew1 | refine below_set ?_ GE167.out) | exact HB.out))) : w.heap.size ≤ gb169));have n4_:=Aside0.mk ((by rw [hg];exact (below_size (by repeat (first | (with_reducible first | exact HB.out | apply below_alloc | apply pw_below_drewN | apply below_drew1 | refine below_set ?_ GE167.out) | exact HB.out))) : w.heap.size ≤ gb169));have n5_:=Aside0.mk ((by rw [hg];exact Nat.ne_of_lt (blk_lt (g:=gb167) (o:=.cells #[.int .i64 a0_0,.slice (some ad168) l0_1.length c0_1] 47 (0,0)) (by (with_reducible repeat (first | refine blk_drewN ?_ _ | refine blk_drew ?_ | refine blk_alloc ?_ _));exact BK167.out)) : gb167 ≠ gb169));have n6_:=Aside0.mk ((by rw [hg];exact Nat.ne_of_gt (blk_lt (g:=gb167) (o:=.cells #[.int .i64 a0_0,.slice (some ad168) l0_1.length c0_1] 47 (0,0)) (by (with_reducible repeat (first | refine blk_drewN ?_ _ | refine blk_drew ?_ | refine blk_alloc ?_ _));exact BK167.out)) : gb169 ≠ gb167));clear BK167;clear HB;have BK167:=n0_;have HB:=n1_;have BK169:=n2_;have GW169:=n3_;have GE169:=n4_;have NB167_169:=n5_;have NB169_167:=n6_;clear n0_ n1_ n2_ n3_ n4_ n5_ n6_;clear hb hbox hg;have hnb49:=NB169_167.out;have hnc49:=NB167_169.out;have hcz50_0 : w48.cell? ⟨gb169,0,none⟩ = some (.string (⟨#[]⟩ : ByteArray)):=(blk_cell BK169.out 0).trans rfl;have hcz50_1 : w48.cell? ⟨gb169,1,none⟩ = some (.string (⟨#[]⟩ : ByteArray)):=(blk_cell BK169.out 1).trans rfl;have hcz50_2 : w48.cell? ⟨gb169,2,none⟩ = some (.bool false):=(blk_cell BK169.out 2).trans rfl;have hfz50_0:=blk_frozen BK169.out 0;have hfz50_1:=blk_frozen BK169.out 1;have hfz50_2:=blk_frozen BK169.out 2))
             have n0_ : Aside0 ((((w48.setCell ⟨gb169,0,none⟩ (.string ((rd_T86 l0_1 x8_1).f0))).setCell ⟨gb169,1,none⟩ (.string ((rd_T86 l0_1 x8_1).f1))).setCell ⟨gb169,2,none⟩ (.bool false)).heap[gb167]? = some (.cells #[.int .i64 a0_0,.slice (some ad168) l0_1.length c0_1] 47 (0,0))):=⟨by (with_reducible repeat (first | refine blk_drewN ?_ _ | refine blk_drew ?_ | refine blk_alloc ?_ _));refine blk_far ?_ NB167_169.out _;(with_reducible repeat (first | refine blk_drewN ?_ _ | refine blk_drew ?_ | refine blk_alloc ?_ _));refine blk_far ?_ NB167_169.out _;(with_reducible repeat (first | refine blk_drewN ?_ _ | refine blk_drew ?_ | refine blk_alloc ?_ _));refine blk_far ?_ NB167_169.out _;(with_reducible repeat (first | refine blk_drewN ?_ _ | refine blk_drew ?_ | refine blk_alloc ?_ _));exact BK167.out⟩
             have n1_ : Aside0 ((((w48.setCell ⟨gb169,0,none⟩ (.string ((rd_T86 l0_1 x8_1).f0))).setCell ⟨gb169,1,none⟩ (.string ((rd_T86 l0_1 x8_1).f1))).setCell ⟨gb169,2,none⟩ (.bool false)).heap[gb169]? = some (.cells #[.string ((rd_T86 l0_1 x8_1).f0),.string ((rd_T86 l0_1 x8_1).f1),.bool false] 86 (0,0))):=⟨by (with_reducible repeat (first | refine blk_drewN ?_ _ | refine blk_drew ?_ | refine blk_alloc ?_ _));refine blk_put (cs:=#[.string ((rd_T86 l0_1 x8_1).f0),.string ((rd_T86 l0_1 x8_1).f1),.bool false]) ?_ 2 _ rfl;(with_reducible repeat (first | refine blk_drewN ?_ _ | refine blk_drew ?_ | refine blk_alloc ?_ _));refine blk_put (cs:=#[.string ((rd_T86 l0_1 x8_1).f0),.string (⟨#[]⟩ : ByteArray),.bool false]) ?_ 1 _ rfl;(with_reducible repeat (first | refine blk_drewN ?_ _ | refine blk_drew ?_ | refine blk_alloc ?_ _));refine blk_put (cs:=#[.string (⟨#[]⟩ : ByteArray),.string (⟨#[]⟩ : ByteArray),.bool false]) ?_ 0 _ rfl;(with_reducible repeat (first | refine blk_drewN ?_ _ | refine blk_drew ?_ | refine blk_alloc ?_ _));exact BK169.out⟩
             have n2_ : Aside0 (Below w.heap.size w (((w48.setCell ⟨gb169,0,none⟩ (.string ((rd_T86 l0_1 x8_1).f0))).setCell ⟨gb169,1,none⟩ (.string ((rd_T86 l0_1 x8_1).f1))).setCell ⟨gb169,2,none⟩ (.bool false))):=⟨by repeat (first | (with_reducible first | exact HB.out | apply below_alloc | apply pw_below_drewN | apply below_drew1 | refine below_set ?_ GE167.out | refine below_set ?_ GE169.out) | exact HB.out)⟩
             (try clear BK167)
             (try clear BK169)
             (try clear HB)
             generalize (((w48.setCell ⟨gb169,0,none⟩ (.string ((rd_T86 l0_1 x8_1).f0))).setCell ⟨gb169,1,none⟩ (.string ((rd_T86 l0_1 x8_1).f1))).setCell ⟨gb169,2,none⟩ (.bool false)) = w51 at n0_ n1_ n2_ ⊢
             have BK167:=n0_
             have BK169:=n1_
             have HB:=n2_
             clear n0_ n1_ n2_
             have n0_:=Aside0.mk (blk_drew BK167.out)
             have n1_:=Aside0.mk (blk_drew BK169.out)
             have n2_:=Aside0.mk (below_drew1 HB.out)
             clear BK167
             clear BK169
             clear HB
             have BK167:=n0_
             have BK169:=n1_
             have HB:=n2_
             clear n0_ n1_ n2_
             have p172 : 0 ≤ ((ji44) : Int):=of_decide_eq_true (by first | (with_reducible assumption) | assumption)
             have q172 : (ji44) < (l0_1.length : Int):=of_decide_eq_true (by first | (with_reducible assumption) | assumption)
             obtain ⟨ad172,e172,hx172_0,hx172_1,hx172_2⟩:=at_T86 HR0_1.out (ji44) p172 q172
             have hw172_2:=hx172_2
             have hw172_1:=hx172_1
             have hw172_0:=hx172_0
             (try rw [← Nbq15.out] at hx172_2)
             obtain rfl : ad168 = ad172:=(by injection e172)
             replace hx172_0:=(HB.out.cell (World.block_lt_of_cell? w _ hx172_0)).trans hx172_0
             replace hx172_1:=(HB.out.cell (World.block_lt_of_cell? w _ hx172_1)).trans hx172_1
             replace hx172_2:=(HB.out.cell (World.block_lt_of_cell? w _ hx172_2)).trans hx172_2
             replace p172:=eq_true p172
             replace q172:=eq_true q172
             refine start_ (n:=35) (S:=fun w' => w'.cell? ⟨gb169,0,none⟩ = some (.string ((rd_T86 l0_1 x8_1).f0)) ∧ w'.cell? ⟨gb169,1,none⟩ = some (.string ((rd_T86 l0_1 x8_1).f1)) ∧ w'.cell? ⟨gb169,2,none⟩ = some (.bool false) ∧ w'.cell? ⟨gb167,0,none⟩ = some (.int .i64 a0_0) ∧ w'.cell? ⟨gb167,1,none⟩ = some (.slice (some ad168) l0_1.length c0_1) ∧ w'.cell? (ad168.add (((ji44)).toNat * 3)) = some (.string ((rd_T86 l0_1 (ji44)).f0)) ∧ w'.cell? ⟨(ad168.add (((ji44)).toNat * 3)).block,(ad168.add (((ji44)).toNat * 3)).off + 1,none⟩ = some (.string ((rd_T86 l0_1 (ji44)).f1)) ∧ w'.cell? ⟨(ad168.add (((ji44)).toNat * 3)).block,(ad168.add (((ji44)).toNat * 3)).off + 2,none⟩ = some (.bool ((rd_T86 l0_1 (ji44)).f2))) (ds:=[]) #[Z5,Z5,Z5,Z5,Z5,Z5,Z5,Z5,Z5,Z5,Z5,Z5,Z5,Z5,Z5,Z5,Z5,Z5,Z5,Z5,Z5,Z5,Z5,Z5,Z5,Z5,Z5,Z5,Z5,Z5,Z5,Z5,Z5,Z5,Z5] (by kernel_rfl) rfl rfl ⟨(blk_cell BK169.out 0).trans rfl,(blk_cell BK169.out 1).trans rfl,(blk_cell BK169.out 2).trans rfl,(blk_cell BK167.out 0).trans rfl,(blk_cell BK167.out 1).trans rfl,((HB.out.cell (World.block_lt_of_cell? w _ hw172_0)).trans hw172_0),((HB.out.cell (World.block_lt_of_cell? w _ hw172_1)).trans hw172_1),((HB.out.cell (World.block_lt_of_cell? w _ hw172_2)).trans hw172_2)⟩ (fun hHeld => ?_);refine with_tabW impl_BatchOk.tab4 impl_BatchOk.bits4 (fun HT_ HW_ => ?_)
             generalize w51.drew = w52 at BK167 BK169 HB hx172_0 hx172_1 hx172_2 hHeld ⊢
             refine pure_ (i:=0) (N:=some 13) (v:=?_) (a':=?_) #[Y5,Z5,Z5,Z5,Z5,Z5,Z5,Z5,Z5,Z5,Z5,Z5,Z5,Z5,Z5,Z5,Z5,Z5,Z5,Z5,Z5,Z5,Z5,Z5,Z5,Z5,Z5,Z5,Z5,Z5,Z5,Z5,Z5,Z5,Z5] rfl rfl (any_of HT_.out (by kernel_rfl)) (fun _ _ _ h => h) (Or.inl ⟨by rfl,?_⟩) ?_ ?_;rotate_left
             ·intro w';go_simp;with_reducible rfl
             rotate_left
             ·simp only [Act.put,q15,q25,q35,i64_w,i32_w];rfl
             refine take_ (i:=1) (N:=some 14) (v:=?_) (a':=?_) #[Y5,Y5,Z5,Z5,Z5,Z5,Z5,Z5,Z5,Z5,Z5,Z5,Z5,Z5,Z5,Z5,Z5,Z5,Z5,Z5,Z5,Z5,Z5,Z5,Z5,Z5,Z5,Z5,Z5,Z5,Z5,Z5,Z5,Z5,Z5] rfl rfl (take_ofW HT_.out HW_.out (by kernel_rfl)) (fun _ _ _ h => h) (Or.inl ⟨by rfl,?_⟩) hHeld ?_ ?_;rotate_left
             ·rintro w' ⟨s0,s1,s2,s3,s4,s5,s6,s7⟩
              go_simp
              with_reducible rfl
             rotate_left
             ·simp only [Act.put,q15,q25,q35,i64_w,i32_w];rfl
             refine one_ (i:=2) (N:=some 15) #[Y5,Y5,Y5,Z5,Z5,Z5,Z5,Z5,Z5,Z5,Z5,Z5,Z5,Z5,Z5,Z5,Z5,Z5,Z5,Z5,Z5,Z5,Z5,Z5,Z5,Z5,Z5,Z5,Z5,Z5,Z5,Z5,Z5,Z5,Z5] rfl rfl (one_of HT_.out (by kernel_rfl)) (by decide) (fun K hK => ?_)
             refine goes_ Try.func45 (by kernel_rfl) rfl #[.string ((rd_T86 l0_1 x8_1).f0)] (by rfl) rfl rfl (by (try simp only [List.map_toArray,List.map_cons,List.map_nil]);first | done | rfl | (simp only [List.length_drop,List.length_take];rfl)) ?_
             with_reducible refine (impl_keyOk.calls ((rd_T86 l0_1 x8_1).f0) true _ A7.out).mono ?_
             rintro e w' ⟨rfl,⟨nd,rfl⟩⟩
             refine ⟨_,rfl,?_⟩
             refine hK.out _ _ ⟨(blk_cell BK169.out 0).trans rfl,(blk_cell BK169.out 1).trans rfl,(blk_cell BK169.out 2).trans rfl,(blk_cell BK167.out 0).trans rfl,(blk_cell BK167.out 1).trans rfl,((HB.out.cell (World.block_lt_of_cell? w _ hw172_0)).trans hw172_0),((HB.out.cell (World.block_lt_of_cell? w _ hw172_1)).trans hw172_1),((HB.out.cell (World.block_lt_of_cell? w _ hw172_2)).trans hw172_2)⟩ (fun hHeld => ?_)
             clear hK K
             refine norm_ (a':=?_) ?_ ?_;rotate_left
             ·show Act.put _ (some 15) _ = _;simp only [Act.put,q15,q25,q35,i64_w,i32_w];rfl
             refine pure_ (i:=3) (N:=some 16) (v:=?_) (a':=?_) #[Y5,Y5,Y5,Y5,Z5,Z5,Z5,Z5,Z5,Z5,Z5,Z5,Z5,Z5,Z5,Z5,Z5,Z5,Z5,Z5,Z5,Z5,Z5,Z5,Z5,Z5,Z5,Z5,Z5,Z5,Z5,Z5,Z5,Z5,Z5] rfl rfl (any_of HT_.out (by kernel_rfl)) (fun _ _ _ h => h) (Or.inl ⟨by rfl,?_⟩) ?_ ?_;rotate_left
             ·intro w';go_simp;with_reducible rfl
             rotate_left
             ·simp only [Act.put,q15,q25,q35,i64_w,i32_w];rfl
             refine pure_ (i:=4) (N:=some 17) (v:=?_) (a':=?_) #[Y5,Y5,Y5,Y5,Y5,Z5,Z5,Z5,Z5,Z5,Z5,Z5,Z5,Z5,Z5,Z5,Z5,Z5,Z5,Z5,Z5,Z5,Z5,Z5,Z5,Z5,Z5,Z5,Z5,Z5,Z5,Z5,Z5,Z5,Z5] rfl rfl (any_of HT_.out (by kernel_rfl)) (fun _ _ _ h => h) (Or.inl ⟨by rfl,?_⟩) ?_ ?_;rotate_left
             ·intro w';go_simp;with_reducible rfl
             rotate_left
             ·simp only [Act.put,q15,q25,q35,i64_w,i32_w];rfl
             refine pure_ (i:=5) (N:=some 18) (v:=?_) (a':=?_) #[Y5,Y5,Y5,Y5,Y5,Y5,Z5,Z5,Z5,Z5,Z5,Z5,Z5,Z5,Z5,Z5,Z5,Z5,Z5,Z5,Z5,Z5,Z5,Z5,Z5,Z5,Z5,Z5,Z5,Z5,Z5,Z5,Z5,Z5,Z5] rfl rfl (any_of HT_.out (by kernel_rfl)) (fun _ _ _ h => h) (Or.inl ⟨by rfl,?_⟩) ?_ ?_;rotate_left
             ·intro w';go_simp;with_reducible rfl
             rotate_left
             ·simp only [Act.put,q15,q25,q35,i64_w,i32_w];rfl
             refine take_ (i:=6) (N:=some 19) (v:=?_) (a':=?_) #[Y5,Y5,Y5,Y5,Y5,Y5,Y5,Z5,Z5,Z5,Z5,Z5,Z5,Z5,Z5,Z5,Z5,Z5,Z5,Z5,Z5,Z5,Z5,Z5,Z5,Z5,Z5,Z5,Z5,Z5,Z5,Z5,Z5,Z5,Z5] rfl rfl (take_ofW HT_.out HW_.out (by kernel_rfl)) (fun _ _ _ h => h) (Or.inl ⟨by rfl,?_⟩) hHeld ?_ ?_;rotate_left
             ·rintro w' ⟨s0,s1,s2,s3,s4,s5,s6,s7⟩
              go_simp
              with_reducible rfl
             rotate_left
             ·simp only [Act.put,q15,q25,q35,i64_w,i32_w];rfl
             refine pure_ (i:=7) (N:=some 20) (v:=?_) (a':=?_) #[Y5,Y5,Y5,Y5,Y5,Y5,Y5,Y5,Z5,Z5,Z5,Z5,Z5,Z5,Z5,Z5,Z5,Z5,Z5,Z5,Z5,Z5,Z5,Z5,Z5,Z5,Z5,Z5,Z5,Z5,Z5,Z5,Z5,Z5,Z5] rfl rfl (any_of HT_.out (by kernel_rfl)) (fun _ _ _ h => h) (Or.inl ⟨by rfl,?_⟩) ?_ ?_;rotate_left
             ·intro w';go_simp;with_reducible rfl
             rotate_left
             ·simp only [Act.put,q15,q25,q35,i64_w,i32_w];rfl
             refine pure_ (i:=8) (N:=some 21) (v:=?_) (a':=?_) #[Y5,Y5,Y5,Y5,Y5,Y5,Y5,Y5,Y5,Z5,Z5,Z5,Z5,Z5,Z5,Z5,Z5,Z5,Z5,Z5,Z5,Z5,Z5,Z5,Z5,Z5,Z5,Z5,Z5,Z5,Z5,Z5,Z5,Z5,Z5] rfl rfl (any_of HT_.out (by kernel_rfl)) (fun _ _ _ h => h) (Or.inl ⟨by rfl,?_⟩) ?_ ?_;rotate_left
             ·intro w';go_simp;with_reducible rfl
             rotate_left
             ·simp only [Act.put,q15,q25,q35,i64_w,i32_w];rfl
             refine pure_ (i:=9) (N:=some 22) (v:=?_) (a':=?_) #[Y5,Y5,Y5,Y5,Y5,Y5,Y5,Y5,Y5,Y5,Z5,Z5,Z5,Z5,Z5,Z5,Z5,Z5,Z5,Z5,Z5,Z5,Z5,Z5,Z5,Z5,Z5,Z5,Z5,Z5,Z5,Z5,Z5,Z5,Z5] rfl rfl (any_of HT_.out (by kernel_rfl)) (fun _ _ _ h => h) (Or.inl ⟨by rfl,?_⟩) ?_ ?_;rotate_left
             ·intro w';go_simp;with_reducible rfl
             rotate_left
             ·simp only [Act.put,q15,q25,q35,i64_w,i32_w];rfl
             refine pure_ (i:=10) (N:=some 23) (v:=?_) (a':=?_) #[Y5,Y5,Y5,Y5,Y5,Y5,Y5,Y5,Y5,Y5,Y5,Z5,Z5,Z5,Z5,Z5,Z5,Z5,Z5,Z5,Z5,Z5,Z5,Z5,Z5,Z5,Z5,Z5,Z5,Z5,Z5,Z5,Z5,Z5,Z5] rfl rfl (any_of HT_.out (by kernel_rfl)) (fun _ _ _ h => h) (Or.inl ⟨by rfl,?_⟩) ?_ ?_;rotate_left
             ·intro w';go_simp;with_reducible rfl
             rotate_left
             ·simp only [Act.put,q15,q25,q35,i64_w,i32_w];rfl
             refine pure_ (i:=11) (N:=some 24) (v:=?_) (a':=?_) #[Y5,Y5,Y5,Y5,Y5,Y5,Y5,Y5,Y5,Y5,Y5,Y5,Z5,Z5,Z5,Z5,Z5,Z5,Z5,Z5,Z5,Z5,Z5,Z5,Z5,Z5,Z5,Z5,Z5,Z5,Z5,Z5,Z5,Z5,Z5] rfl rfl (any_of HT_.out (by kernel_rfl)) (fun _ _ _ h => h) (Or.inl ⟨by rfl,?_⟩) ?_ ?_;rotate_left
             ·intro w';go_simp;with_reducible rfl
             rotate_left
             ·simp only [Act.put,q15,q25,q35,i64_w,i32_w];rfl
             refine take_ (i:=12) (N:=some 25) (v:=?_) (a':=?_) #[Y5,Y5,Y5,Y5,Y5,Y5,Y5,Y5,Y5,Y5,Y5,Y5,Y5,Z5,Z5,Z5,Z5,Z5,Z5,Z5,Z5,Z5,Z5,Z5,Z5,Z5,Z5,Z5,Z5,Z5,Z5,Z5,Z5,Z5,Z5] rfl rfl (take_ofW HT_.out HW_.out (by kernel_rfl)) (fun _ _ _ h => h) (Or.inl ⟨by rfl,?_⟩) hHeld ?_ ?_;rotate_left
             ·rintro w' ⟨s0,s1,s2,s3,s4,s5,s6,s7⟩
              go_simp
              with_reducible rfl
             rotate_left
             ·simp only [Act.put,q15,q25,q35,i64_w,i32_w];rfl
             refine pure_ (i:=13) (N:=some 26) (v:=?_) (a':=?_) #[Y5,Y5,Y5,Y5,Y5,Y5,Y5,Y5,Y5,Y5,Y5,Y5,Y5,Y5,Z5,Z5,Z5,Z5,Z5,Z5,Z5,Z5,Z5,Z5,Z5,Z5,Z5,Z5,Z5,Z5,Z5,Z5,Z5,Z5,Z5] rfl rfl (any_of HT_.out (by kernel_rfl)) (fun _ _ _ h => h) (Or.inl ⟨by rfl,?_⟩) ?_ ?_;rotate_left
             ·intro w';go_simp;with_reducible rfl
             rotate_left
             ·simp only [Act.put,q15,q25,q35,i64_w,i32_w];rfl
             refine pure_ (i:=14) (N:=some 27) (v:=undef) (a':=?_) #[Y5,Y5,Y5,Y5,Y5,Y5,Y5,Y5,Y5,Y5,Y5,Y5,Y5,Y5,Y5,Z5,Z5,Z5,Z5,Z5,Z5,Z5,Z5,Z5,Z5,Z5,Z5,Z5,Z5,Z5,Z5,Z5,Z5,Z5,Z5] rfl rfl (any_of HT_.out (by kernel_rfl)) (fun _ _ _ h => h) (Or.inr ⟨by rfl,rfl⟩) ?_ ?_;rotate_left
             ·simp only [Act.put,q15,q25,q35,i64_w,i32_w];rfl
             refine pure_ (i:=15) (N:=some 28) (v:=undef) (a':=?_) #[Y5,Y5,Y5,Y5,Y5,Y5,Y5,Y5,Y5,Y5,Y5,Y5,Y5,Y5,Y5,Y5,Z5,Z5,Z5,Z5,Z5,Z5,Z5,Z5,Z5,Z5,Z5,Z5,Z5,Z5,Z5,Z5,Z5,Z5,Z5] rfl rfl (any_of HT_.out (by kernel_rfl)) (fun _ _ _ h => h) (Or.inr ⟨by rfl,rfl⟩) ?_ ?_;rotate_left
             ·simp only [Act.put,q15,q25,q35,i64_w,i32_w];rfl
             refine pure_ (i:=16) (N:=some 29) (v:=undef) (a':=?_) #[Y5,Y5,Y5,Y5,Y5,Y5,Y5,Y5,Y5,Y5,Y5,Y5,Y5,Y5,Y5,Y5,Y5,Z5,Z5,Z5,Z5,Z5,Z5,Z5,Z5,Z5,Z5,Z5,Z5,Z5,Z5,Z5,Z5,Z5,Z5] rfl rfl (any_of HT_.out (by kernel_rfl)) (fun _ _ _ h => h) (Or.inr ⟨by rfl,rfl⟩) ?_ ?_;rotate_left
             ·simp only [Act.put,q15,q25,q35,i64_w,i32_w];rfl
             refine pure_ (i:=17) (N:=some 30) (v:=?_) (a':=?_) #[Y5,Y5,Y5,Y5,Y5,Y5,Y5,Y5,Y5,Y5,Y5,Y5,Y5,Y5,Y5,Y5,Y5,Y5,Z5,Z5,Z5,Z5,Z5,Z5,Z5,Z5,Z5,Z5,Z5,Z5,Z5,Z5,Z5,Z5,Z5] rfl rfl (any_of HT_.out (by kernel_rfl)) (fun _ _ _ h => h) (Or.inl ⟨by rfl,?_⟩) ?_ ?_;rotate_left
             ·intro w';go_simp;with_reducible rfl
             rotate_left
             ·simp only [Act.put,q15,q25,q35,i64_w,i32_w];rfl
             refine pure_ (i:=18) (N:=some 31) (v:=?_) (a':=?_) #[Y5,Y5,Y5,Y5,Y5,Y5,Y5,Y5,Y5,Y5,Y5,Y5,Y5,Y5,Y5,Y5,Y5,Y5,Y5,Z5,Z5,Z5,Z5,Z5,Z5,Z5,Z5,Z5,Z5,Z5,Z5,Z5,Z5,Z5,Z5] rfl rfl (any_of HT_.out (by kernel_rfl)) (fun _ _ _ h => h) (Or.inl ⟨by rfl,?_⟩) ?_ ?_;rotate_left
             ·intro w';go_simp;with_reducible rfl
             rotate_left
             ·simp only [Act.put,q15,q25,q35,i64_w,i32_w];rfl
             refine pure_ (i:=19) (N:=some 32) (v:=?_) (a':=?_) #[Y5,Y5,Y5,Y5,Y5,Y5,Y5,Y5,Y5,Y5,Y5,Y5,Y5,Y5,Y5,Y5,Y5,Y5,Y5,Y5,Z5,Z5,Z5,Z5,Z5,Z5,Z5,Z5,Z5,Z5,Z5,Z5,Z5,Z5,Z5] rfl rfl (any_of HT_.out (by kernel_rfl)) (fun _ _ _ h => h) (Or.inl ⟨by rfl,?_⟩) ?_ ?_;rotate_left
             ·intro w';go_simp;with_reducible rfl
             rotate_left
             ·simp only [Act.put,q15,q25,q35,i64_w,i32_w];rfl
             refine pure_ (i:=20) (N:=some 33) (v:=?_) (a':=?_) #[Y5,Y5,Y5,Y5,Y5,Y5,Y5,Y5,Y5,Y5,Y5,Y5,Y5,Y5,Y5,Y5,Y5,Y5,Y5,Y5,Y5,Z5,Z5,Z5,Z5,Z5,Z5,Z5,Z5,Z5,Z5,Z5,Z5,Z5,Z5] rfl rfl (any_of HT_.out (by kernel_rfl)) (fun _ _ _ h => h) (Or.inl ⟨by rfl,?_⟩) ?_ ?_;rotate_left
             ·intro w';go_simp;with_reducible rfl
             rotate_left
             ·simp only [Act.put,q15,q25,q35,i64_w,i32_w];rfl
             refine pure_ (i:=21) (N:=some 34) (v:=?_) (a':=?_) #[Y5,Y5,Y5,Y5,Y5,Y5,Y5,Y5,Y5,Y5,Y5,Y5,Y5,Y5,Y5,Y5,Y5,Y5,Y5,Y5,Y5,Y5,Z5,Z5,Z5,Z5,Z5,Z5,Z5,Z5,Z5,Z5,Z5,Z5,Z5] rfl rfl (any_of HT_.out (by kernel_rfl)) (fun _ _ _ h => h) (Or.inl ⟨by rfl,?_⟩) ?_ ?_;rotate_left
             ·intro w';go_simp;with_reducible rfl
             rotate_left
             ·simp only [Act.put,q15,q25,q35,i64_w,i32_w];rfl
             refine pure_ (i:=22) (N:=some 35) (v:=?_) (a':=?_) #[Y5,Y5,Y5,Y5,Y5,Y5,Y5,Y5,Y5,Y5,Y5,Y5,Y5,Y5,Y5,Y5,Y5,Y5,Y5,Y5,Y5,Y5,Y5,Z5,Z5,Z5,Z5,Z5,Z5,Z5,Z5,Z5,Z5,Z5,Z5] rfl rfl (any_of HT_.out (by kernel_rfl)) (fun _ _ _ h => h) (Or.inl ⟨by rfl,?_⟩) ?_ ?_;rotate_left
             ·intro w';go_simp;with_reducible rfl
             rotate_left
             ·simp only [Act.put,q15,q25,q35,i64_w,i32_w];rfl
             refine pure_ (i:=23) (N:=some 36) (v:=?_) (a':=?_) #[Y5,Y5,Y5,Y5,Y5,Y5,Y5,Y5,Y5,Y5,Y5,Y5,Y5,Y5,Y5,Y5,Y5,Y5,Y5,Y5,Y5,Y5,Y5,Y5,Z5,Z5,Z5,Z5,Z5,Z5,Z5,Z5,Z5,Z5,Z5] rfl rfl (any_of HT_.out (by kernel_rfl)) (fun _ _ _ h => h) (Or.inl ⟨by rfl,?_⟩) ?_ ?_;rotate_left
             ·intro w';go_simp;with_reducible rfl
             rotate_left
             ·simp only [Act.put,q15,q25,q35,i64_w,i32_w];rfl
             refine pure_ (i:=25) (N:=some 38) (v:=?_) (a':=?_) #[Y5,Y5,Y5,Y5,Y5,Y5,Y5,Y5,Y5,Y5,Y5,Y5,Y5,Y5,Y5,Y5,Y5,Y5,Y5,Y5,Y5,Y5,Y5,Y5,Z5,Y5,Z5,Z5,Z5,Z5,Z5,Z5,Z5,Z5,Z5] rfl rfl (any_of HT_.out (by kernel_rfl)) (fun _ _ _ h => h) (Or.inl ⟨by rfl,?_⟩) ?_ ?_;rotate_left
             ·intro w';go_simp;with_reducible rfl
             rotate_left
             ·simp only [Act.put,q15,q25,q35,i64_w,i32_w];rfl
             refine pure_ (i:=26) (N:=some 39) (v:=?_) (a':=?_) #[Y5,Y5,Y5,Y5,Y5,Y5,Y5,Y5,Y5,Y5,Y5,Y5,Y5,Y5,Y5,Y5,Y5,Y5,Y5,Y5,Y5,Y5,Y5,Y5,Z5,Y5,Y5,Z5,Z5,Z5,Z5,Z5,Z5,Z5,Z5] rfl rfl (any_of HT_.out (by kernel_rfl)) (fun _ _ _ h => h) (Or.inl ⟨by rfl,?_⟩) ?_ ?_;rotate_left
             ·intro w';go_simp;with_reducible rfl
             rotate_left
             ·simp only [Act.put,q15,q25,q35,i64_w,i32_w];rfl
             refine pure_ (i:=30) (N:=some 43) (v:=?_) (a':=?_) #[Y5,Y5,Y5,Y5,Y5,Y5,Y5,Y5,Y5,Y5,Y5,Y5,Y5,Y5,Y5,Y5,Y5,Y5,Y5,Y5,Y5,Y5,Y5,Y5,Z5,Y5,Y5,Z5,Z5,Z5,Y5,Z5,Z5,Z5,Z5] rfl rfl (any_of HT_.out (by kernel_rfl)) (fun _ _ _ h => h) (Or.inl ⟨by rfl,?_⟩) ?_ ?_;rotate_left
             ·intro w';go_simp;with_reducible rfl
             rotate_left
             ·simp only [Act.put,q15,q25,q35,i64_w,i32_w];rfl
             refine take_ (i:=24) (N:=some 37) (v:=?_) (a':=?_) #[Y5,Y5,Y5,Y5,Y5,Y5,Y5,Y5,Y5,Y5,Y5,Y5,Y5,Y5,Y5,Y5,Y5,Y5,Y5,Y5,Y5,Y5,Y5,Y5,Y5,Y5,Y5,Z5,Z5,Z5,Y5,Z5,Z5,Z5,Z5] rfl rfl (take_ofW HT_.out HW_.out (by kernel_rfl)) (fun _ _ _ h => h) (Or.inl ⟨by rfl,?_⟩) hHeld ?_ ?_;rotate_left
             ·rintro w' ⟨s0,s1,s2,s3,s4,s5,s6,s7⟩
              go_simp
              with_reducible rfl
             rotate_left
             ·simp only [Act.put,q15,q25,q35,i64_w,i32_w];rfl
             refine pure_ (i:=27) (N:=some 40) (v:=?_) (a':=?_) #[Y5,Y5,Y5,Y5,Y5,Y5,Y5,Y5,Y5,Y5,Y5,Y5,Y5,Y5,Y5,Y5,Y5,Y5,Y5,Y5,Y5,Y5,Y5,Y5,Y5,Y5,Y5,Y5,Z5,Z5,Y5,Z5,Z5,Z5,Z5] rfl rfl (any_of HT_.out (by kernel_rfl)) (fun _ _ _ h => h) (Or.inl ⟨by rfl,?_⟩) ?_ ?_;rotate_left
             ·intro w';go_simp;with_reducible rfl
             rotate_left
             ·simp only [Act.put,q15,q25,q35,i64_w,i32_w];rfl
             refine pure_ (i:=28) (N:=some 41) (v:=?_) (a':=?_) #[Y5,Y5,Y5,Y5,Y5,Y5,Y5,Y5,Y5,Y5,Y5,Y5,Y5,Y5,Y5,Y5,Y5,Y5,Y5,Y5,Y5,Y5,Y5,Y5,Y5,Y5,Y5,Y5,Y5,Z5,Y5,Z5,Z5,Z5,Z5] rfl rfl (any_of HT_.out (by kernel_rfl)) (fun _ _ _ h => h) (Or.inl ⟨by rfl,?_⟩) ?_ ?_;rotate_left
             ·intro w';go_simp;with_reducible rfl
             rotate_left
             ·simp only [Act.put,q15,q25,q35,i64_w,i32_w];rfl
             refine take_ (i:=29) (N:=some 42) (v:=?_) (a':=?_) #[Y5,Y5,Y5,Y5,Y5,Y5,Y5,Y5,Y5,Y5,Y5,Y5,Y5,Y5,Y5,Y5,Y5,Y5,Y5,Y5,Y5,Y5,Y5,Y5,Y5,Y5,Y5,Y5,Y5,Y5,Y5,Z5,Z5,Z5,Z5] rfl rfl (take_ofW HT_.out HW_.out (by kernel_rfl)) (fun _ _ _ h => h) (Or.inl ⟨by rfl,?_⟩) hHeld ?_ ?_;rotate_left
             ·rintro w' ⟨s0,s1,s2,s3,s4,s5,s6,s7⟩
              go_simp
              with_reducible rfl
             rotate_left
             ·simp only [Act.put,q15,q25,q35,i64_w,i32_w];rfl
             refine take_ (i:=31) (N:=some 44) (v:=?_) (a':=?_) #[Y5,Y5,Y5,Y5,Y5,Y5,Y5,Y5,Y5,Y5,Y5,Y5,Y5,Y5,Y5,Y5,Y5,Y5,Y5,Y5,Y5,Y5,Y5,Y5,Y5,Y5,Y5,Y5,Y5,Y5,Y5,Y5,Z5,Z5,Z5] rfl rfl (take_ofW HT_.out HW_.out (by kernel_rfl)) (fun _ _ _ h => h) (Or.inl ⟨by rfl,?_⟩) hHeld ?_ ?_;rotate_left
             ·rintro w' ⟨s0,s1,s2,s3,s4,s5,s6,s7⟩
              go_simp
              with_reducible rfl
             rotate_left
             ·simp only [Act.put,q15,q25,q35,i64_w,i32_w];rfl
             refine pure_ (i:=32) (N:=some 45) (v:=?_) (a':=?_) #[Y5,Y5,Y5,Y5,Y5,Y5,Y5,Y5,Y5,Y5,Y5,Y5,Y5,Y5,Y5,Y5,Y5,Y5,Y5,Y5,Y5,Y5,Y5,Y5,Y5,Y5,Y5,Y5,Y5,Y5,Y5,Y5,Y5,Z5,Z5] rfl rfl (any_of HT_.out (by kernel_rfl)) (fun _ _ _ h => h) (Or.inl ⟨by rfl,?_⟩) ?_ ?_;rotate_left
             ·intro w';go_simp;with_reducible rfl
             rotate_left
             ·simp only [Act.put,q15,q25,q35,i64_w,i32_w];rfl
             refine pure_ (i:=33) (N:=some 46) (v:=?_) (a':=?_) #[Y5,Y5,Y5,Y5,Y5,Y5,Y5,Y5,Y5,Y5,Y5,Y5,Y5,Y5,Y5,Y5,Y5,Y5,Y5,Y5,Y5,Y5,Y5,Y5,Y5,Y5,Y5,Y5,Y5,Y5,Y5,Y5,Y5,Y5,Z5] rfl rfl (any_of HT_.out (by kernel_rfl)) (fun _ _ _ h => h) (Or.inl ⟨by rfl,?_⟩) ?_ ?_;rotate_left
             ·intro w';go_simp;with_reducible rfl
             rotate_left
             ·simp only [Act.put,q15,q25,q35,i64_w,i32_w];rfl
             refine pure_ (i:=34) (N:=some 47) (v:=?_) (a':=?_) #[Y5,Y5,Y5,Y5,Y5,Y5,Y5,Y5,Y5,Y5,Y5,Y5,Y5,Y5,Y5,Y5,Y5,Y5,Y5,Y5,Y5,Y5,Y5,Y5,Y5,Y5,Y5,Y5,Y5,Y5,Y5,Y5,Y5,Y5,Y5] rfl rfl (any_of HT_.out (by kernel_rfl)) (fun _ _ _ h => h) (Or.inl ⟨by rfl,?_⟩) ?_ ?_;rotate_left
             ·intro w';go_simp;with_reducible rfl
             rotate_left
             ·simp only [Act.put,q15,q25,q35,i64_w,i32_w];rfl
             refine done_ (done_of HT_.out (by kernel_rfl)) ?_
             try go_wp2
             go_roundg k1
             case measure => have:=HK1.out;omega
             case rel => exact ⟨(wrap64 (x8_1 + 1)),(by first | rfl | (simp;done) | (simp [*];done)),H',⟨by have:=HK1.out;omega⟩,⟨by (with_reducible repeat (first | refine blk_drewN ?_ _ | refine blk_drew ?_ | refine blk_alloc ?_ _));exact BK167.out⟩,⟨by repeat (first | (with_reducible first | exact HB.out | apply below_alloc | apply pw_below_drewN | apply below_drew1 | refine below_set ?_ GE167.out | refine below_set ?_ GE169.out) | exact HB.out)⟩⟩
            ·rw [if_neg c47] at H
             have c47b0 : (Op.bytesLess (((rd_T86 l0_1 (ji44)).f0).toList) (((rd_T86 l0_1 x8_1).f0).toList)) = false:=by simpa using c47
             clear c47
             obtain rfl:=Option.some.inj H
             have p168 : 0 ≤ (x8_1 : Int):=of_decide_eq_true (by first | (with_reducible assumption) | assumption)
             have q168 : x8_1 < (l0_1.length : Int):=of_decide_eq_true (by first | (with_reducible assumption) | assumption)
             obtain ⟨ad168,e168,hx168_0,hx168_1,hx168_2⟩:=at_T86 HR0_1.out x8_1 p168 q168
             (try rw [← Nbq15.out] at hx168_2)
             cases e168
             replace hx168_0:=(HB.out.cell (World.block_lt_of_cell? w _ hx168_0)).trans hx168_0
             replace hx168_1:=(HB.out.cell (World.block_lt_of_cell? w _ hx168_1)).trans hx168_1
             replace hx168_2:=(HB.out.cell (World.block_lt_of_cell? w _ hx168_2)).trans hx168_2
             replace p168:=eq_true p168
             replace q168:=eq_true q168
             try go_wp2_with (first | ((with_reducible refine gate_dst (N:=4) rfl ?_);(try (refine gate_guard (by rfl) ?_;dsimp only));refine box_event ?hg (N:=4) ?hd (cs:=#[.string (⟨#[]⟩ : ByteArray),.string (⟨#[]⟩ : ByteArray),.bool false]) (t:=86) ?hr ?_;(case hd => rfl);(case hg => rfl);(case hr => first | (go_simp;done) | (go_simp;rfl));intro gb169 hg w53 hbox hb;have n0_:=Aside0.mk (blk_below (g:=gb167) (o:=.cells #[.int .i64 a0_0,.slice (some ad168) l0_1.length c0_1] 47 (0,0)) (by (with_reducible repeat (first | refine blk_drewN ?_ _ | refine blk_drew ?_ | refine blk_alloc ?_ _));exact BK167.out) hb);have n1_:=Aside0.mk (below_step (by repeat (first | (with_reducible first | exact HB.out | apply below_alloc | apply pw_below_drewN | apply below_drew1 | refine below_set ?_ GE167.out) | exact HB.out)) hb);have n2_:=Aside0.mk (hbox);have n3_:=Aside0.mk ((by rw [hg];exact (below_size (by repeat (first | (with_reducible first | exact HB.out | apply below_alloc | apply pw_below_drewN | apply below_drew1 | refine below_set ?_ GE167.out) | exact HB.out))) : w.heap.size ≤ gb169));have n4_:=Aside0.mk ((by rw [hg];exact (below_size (by repeat (first | (with_reducible first | exact HB.out | apply below_alloc | apply pw_below_drewN | apply below_drew1 | refine below_set ?_ GE167.out) | exact HB.out))) : w.heap.size ≤ gb169));have n5_:=Aside0.mk ((by rw [hg];exact Nat.ne_of_lt (blk_lt (g:=gb167) (o:=.cells #[.int .i64 a0_0,.slice (some ad168) l0_1.length c0_1] 47 (0,0)) (by (with_reducible repeat (first | refine blk_drewN ?_ _ | refine blk_drew ?_ | refine blk_alloc ?_ _));exact BK167.out)) : gb167 ≠ gb169));have n6_:=Aside0.mk ((by rw [hg];exact Nat.ne_of_gt (blk_lt (g:=gb167) (o:=.cells #[.int .i64 a0_0,.slice (some ad168) l0_1.length c0_1] 47 (0,0)) (by (with_reducible repeat (first | refine blk_drewN ?_ _ | refine blk_drew ?_ | refine blk_alloc ?_ _));exact BK167.out)) : gb169 ≠ gb167));clear BK167;clear HB;have BK167:=n0_;have HB:=n1_;have BK169:=n2_;have GW169:=n3_;have GE169:=n4_;have NB167_169:=n5_;have NB169_167:=n6_;clear n0_ n1_ n2_ n3_ n4_ n5_ n6_;clear hb hbox hg;have hnb54:=NB169_167.out;have hnc54:=NB167_169.out;have hcz55_0 : w53.cell? ⟨gb169,0,none⟩ = some (.string (⟨#[]⟩ : ByteArray)):=(blk_cell BK169.out 0).trans rfl;have hcz55_1 : w53.cell? ⟨gb169,1,none⟩ = some (.string (⟨#[]⟩ : ByteArray)):=(blk_cell BK169.out 1).trans rfl;have hcz55_2 : w53.cell? ⟨gb169,2,none⟩ = some (.bool false):=(blk_cell BK169.out 2).trans rfl;have hfz55_0:=blk_frozen BK169.out 0;have hfz55_1:=blk_frozen BK169.out 1;have hfz55_2:=blk_frozen BK169.out 2))
             have n0_ : Aside0 ((((w53.setCell ⟨gb169,0,none⟩ (.string ((rd_T86 l0_1 x8_1).f0))).setCell ⟨gb169,1,none⟩ (.string ((rd_T86 l0_1 x8_1).f1))).setCell ⟨gb169,2,none⟩ (.bool false)).heap[gb167]? = some (.cells #[.int .i64 a0_0,.slice (some ad168) l0_1.length c0_1] 47 (0,0))):=⟨by (with_reducible repeat (first | refine blk_drewN ?_ _ | refine blk_drew ?_ | refine blk_alloc ?_ _));refine blk_far ?_ NB167_169.out _;(with_reducible repeat (first | refine blk_drewN ?_ _ | refine blk_drew ?_ | refine blk_alloc ?_ _));refine blk_far ?_ NB167_169.out _;(with_reducible repeat (first | refine blk_drewN ?_ _ | refine blk_drew ?_ | refine blk_alloc ?_ _));refine blk_far ?_ NB167_169.out _;(with_reducible repeat (first | refine blk_drewN ?_ _ | refine blk_drew ?_ | refine blk_alloc ?_ _));exact BK167.out⟩
             have n1_ : Aside0 ((((w53.setCell ⟨gb169,0,none⟩ (.string ((rd_T86 l0_1 x8_1).f0))).setCell ⟨gb169,1,none⟩ (.string ((rd_T86 l0_1 x8_1).f1))).setCell ⟨gb169,2,none⟩ (.bool false)).heap[gb169]? = some (.cells #[.string ((rd_T86 l0_1 x8_1).f0),.string ((rd_T86 l0_1 x8_1).f1),.bool false] 86 (0,0))):=⟨by (with_reducible repeat (first | refine blk_drewN ?_ _ | refine blk_drew ?_ | refine blk_alloc ?_ _));refine blk_put (cs:=#[.string ((rd_T86 l0_1 x8_1).f0),.string ((rd_T86 l0_1 x8_1).f1),.bool false]) ?_ 2 _ rfl;(with_reducible repeat (first | refine blk_drewN ?_ _ | refine blk_drew ?_ | refine blk_alloc ?_ _));refine blk_put (cs:=#[.string ((rd_T86 l0_1 x8_1).f0),.string (⟨#[]⟩ : ByteArray),.bool false]) ?_ 1 _ rfl;(with_reducible repeat (first | refine blk_drewN ?_ _ | refine blk_drew ?_ | refine blk_alloc ?_ _));refine blk_put (cs:=#[.string (⟨#[]⟩ : ByteArray),.string (⟨#[]⟩ : ByteArray),.bool false]) ?_ 0 _ rfl;(with_reducible repeat (first | refine blk_drewN ?_ _ | refine blk_drew ?_ | refine blk_alloc ?_ _));exact BK169.out⟩
             have n2_ : Aside0 (Below w.heap.size w (((w53.setCell ⟨gb169,0,none⟩ (.string ((rd_T86 l0_1 x8_1).f0))).setCell ⟨gb169,1,none⟩ (.string ((rd_T86 l0_1 x8_1).f1))).setCell ⟨gb169,2,none⟩ (.bool false))):=⟨by repeat (first | (with_reducible first | exact HB.out | apply below_alloc | apply pw_below_drewN | apply below_drew1 | refine below_set ?_ GE167.out | refine below_set ?_ GE169.out) | exact HB.out)⟩
             (try clear BK167)
             (try clear BK169)
             (try clear HB)
             generalize (((w53.setCell ⟨gb169,0,none⟩ (.string ((rd_T86 l0_1 x8_1).f0))).setCell ⟨gb169,1,none⟩ (.string ((rd_T86 l0_1 x8_1).f1))).setCell ⟨gb169,2,none⟩ (.bool false)) = w56 at n0_ n1_ n2_ ⊢
             have BK167:=n0_
             have BK169:=n1_
             have HB:=n2_
             clear n0_ n1_ n2_
             have n0_:=Aside0.mk (blk_drew BK167.out)
             have n1_:=Aside0.mk (blk_drew BK169.out)
             have n2_:=Aside0.mk (below_drew1 HB.out)
             clear BK167
             clear BK169
             clear HB
             have BK167:=n0_
             have BK169:=n1_
             have HB:=n2_
             clear n0_ n1_ n2_
             have p172 : 0 ≤ ((ji44) : Int):=of_decide_eq_true (by first | (with_reducible assumption) | assumption)
             have q172 : (ji44) < (l0_1.length : Int):=of_decide_eq_true (by first | (with_reducible assumption) | assumption)
             obtain ⟨ad172,e172,hx172_0,hx172_1,hx172_2⟩:=at_T86 HR0_1.out (ji44) p172 q172
             have hw172_2:=hx172_2
             have hw172_1:=hx172_1
             have hw172_0:=hx172_0
             (try rw [← Nbq15.out] at hx172_2)
             obtain rfl : ad168 = ad172:=(by injection e172)
             replace hx172_0:=(HB.out.cell (World.block_lt_of_cell? w _ hx172_0)).trans hx172_0
             replace hx172_1:=(HB.out.cell (World.block_lt_of_cell? w _ hx172_1)).trans hx172_1
             replace hx172_2:=(HB.out.cell (World.block_lt_of_cell? w _ hx172_2)).trans hx172_2
             replace p172:=eq_true p172
             replace q172:=eq_true q172
             refine start_ (n:=35) (S:=fun w' => w'.cell? ⟨gb169,0,none⟩ = some (.string ((rd_T86 l0_1 x8_1).f0)) ∧ w'.cell? ⟨gb169,1,none⟩ = some (.string ((rd_T86 l0_1 x8_1).f1)) ∧ w'.cell? ⟨gb169,2,none⟩ = some (.bool false) ∧ w'.cell? ⟨gb167,0,none⟩ = some (.int .i64 a0_0) ∧ w'.cell? ⟨gb167,1,none⟩ = some (.slice (some ad168) l0_1.length c0_1) ∧ w'.cell? (ad168.add (((ji44)).toNat * 3)) = some (.string ((rd_T86 l0_1 (ji44)).f0)) ∧ w'.cell? ⟨(ad168.add (((ji44)).toNat * 3)).block,(ad168.add (((ji44)).toNat * 3)).off + 1,none⟩ = some (.string ((rd_T86 l0_1 (ji44)).f1)) ∧ w'.cell? ⟨(ad168.add (((ji44)).toNat * 3)).block,(ad168.add (((ji44)).toNat * 3)).off + 2,none⟩ = some (.bool ((rd_T86 l0_1 (ji44)).f2))) (ds:=[]) #[Z5,Z5,Z5,Z5,Z5,Z5,Z5,Z5,Z5,Z5,Z5,Z5,Z5,Z5,Z5,Z5,Z5,Z5,Z5,Z5,Z5,Z5,Z5,Z5,Z5,Z5,Z5,Z5,Z5,Z5,Z5,Z5,Z5,Z5,Z5] (by kernel_rfl) rfl rfl ⟨(blk_cell BK169.out 0).trans rfl,(blk_cell BK169.out 1).trans rfl,(blk_cell BK169.out 2).trans rfl,(blk_cell BK167.out 0).trans rfl,(blk_cell BK167.out 1).trans rfl,((HB.out.cell (World.block_lt_of_cell? w _ hw172_0)).trans hw172_0),((HB.out.cell (World.block_lt_of_cell? w _ hw172_1)).trans hw172_1),((HB.out.cell (World.block_lt_of_cell? w _ hw172_2)).trans hw172_2)⟩ (fun hHeld => ?_);refine with_tabW impl_BatchOk.tab4 impl_BatchOk.bits4 (fun HT_ HW_ => ?_)
             generalize w56.drew = w57 at BK167 BK169 HB hx172_0 hx172_1 hx172_2 hHeld ⊢
             refine pure_ (i:=0) (N:=some 13) (v:=?_) (a':=?_) #[Y5,Z5,Z5,Z5,Z5,Z5,Z5,Z5,Z5,Z5,Z5,Z5,Z5,Z5,Z5,Z5,Z5,Z5,Z5,Z5,Z5,Z5,Z5,Z5,Z5,Z5,Z5,Z5,Z5,Z5,Z5,Z5,Z5,Z5,Z5] rfl rfl (any_of HT_.out (by kernel_rfl)) (fun _ _ _ h => h) (Or.inl ⟨by rfl,?_⟩) ?_ ?_;rotate_left
             ·intro w';go_simp;with_reducible rfl
             rotate_left
             ·simp only [Act.put,q15,q25,q35,i64_w,i32_w];rfl
             refine take_ (i:=1) (N:=some 14) (v:=?_) (a':=?_) #[Y5,Y5,Z5,Z5,Z5,Z5,Z5,Z5,Z5,Z5,Z5,Z5,Z5,Z5,Z5,Z5,Z5,Z5,Z5,Z5,Z5,Z5,Z5,Z5,Z5,Z5,Z5,Z5,Z5,Z5,Z5,Z5,Z5,Z5,Z5] rfl rfl (take_ofW HT_.out HW_.out (by kernel_rfl)) (fun _ _ _ h => h) (Or.inl ⟨by rfl,?_⟩) hHeld ?_ ?_;rotate_left
             ·rintro w' ⟨s0,s1,s2,s3,s4,s5,s6,s7⟩
              go_simp
              with_reducible rfl
             rotate_left
             ·simp only [Act.put,q15,q25,q35,i64_w,i32_w];rfl
             refine one_ (i:=2) (N:=some 15) #[Y5,Y5,Y5,Z5,Z5,Z5,Z5,Z5,Z5,Z5,Z5,Z5,Z5,Z5,Z5,Z5,Z5,Z5,Z5,Z5,Z5,Z5,Z5,Z5,Z5,Z5,Z5,Z5,Z5,Z5,Z5,Z5,Z5,Z5,Z5] rfl rfl (one_of HT_.out (by kernel_rfl)) (by decide) (fun K hK => ?_)
             refine goes_ Try.func45 (by kernel_rfl) rfl #[.string ((rd_T86 l0_1 x8_1).f0)] (by rfl) rfl rfl (by (try simp only [List.map_toArray,List.map_cons,List.map_nil]);first | done | rfl | (simp only [List.length_drop,List.length_take];rfl)) ?_
             with_reducible refine (impl_keyOk.calls ((rd_T86 l0_1 x8_1).f0) true _ A7.out).mono ?_
             rintro e w' ⟨rfl,⟨nd,rfl⟩⟩
             refine ⟨_,rfl,?_⟩
             refine hK.out _ _ ⟨(blk_cell BK169.out 0).trans rfl,(blk_cell BK169.out 1).trans rfl,(blk_cell BK169.out 2).trans rfl,(blk_cell BK167.out 0).trans rfl,(blk_cell BK167.out 1).trans rfl,((HB.out.cell (World.block_lt_of_cell? w _ hw172_0)).trans hw172_0),((HB.out.cell (World.block_lt_of_cell? w _ hw172_1)).trans hw172_1),((HB.out.cell (World.block_lt_of_cell? w _ hw172_2)).trans hw172_2)⟩ (fun hHeld => ?_)
             clear hK K
             refine norm_ (a':=?_) ?_ ?_;rotate_left
             ·show Act.put _ (some 15) _ = _;simp only [Act.put,q15,q25,q35,i64_w,i32_w];rfl
             refine pure_ (i:=3) (N:=some 16) (v:=?_) (a':=?_) #[Y5,Y5,Y5,Y5,Z5,Z5,Z5,Z5,Z5,Z5,Z5,Z5,Z5,Z5,Z5,Z5,Z5,Z5,Z5,Z5,Z5,Z5,Z5,Z5,Z5,Z5,Z5,Z5,Z5,Z5,Z5,Z5,Z5,Z5,Z5] rfl rfl (any_of HT_.out (by kernel_rfl)) (fun _ _ _ h => h) (Or.inl ⟨by rfl,?_⟩) ?_ ?_;rotate_left
             ·intro w';go_simp;with_reducible rfl
             rotate_left
             ·simp only [Act.put,q15,q25,q35,i64_w,i32_w];rfl
             refine pure_ (i:=4) (N:=some 17) (v:=?_) (a':=?_) #[Y5,Y5,Y5,Y5,Y5,Z5,Z5,Z5,Z5,Z5,Z5,Z5,Z5,Z5,Z5,Z5,Z5,Z5,Z5,Z5,Z5,Z5,Z5,Z5,Z5,Z5,Z5,Z5,Z5,Z5,Z5,Z5,Z5,Z5,Z5] rfl rfl (any_of HT_.out (by kernel_rfl)) (fun _ _ _ h => h) (Or.inl ⟨by rfl,?_⟩) ?_ ?_;rotate_left
             ·intro w';go_simp;with_reducible rfl
             rotate_left
             ·simp only [Act.put,q15,q25,q35,i64_w,i32_w];rfl
             refine pure_ (i:=5) (N:=some 18) (v:=?_) (a':=?_) #[Y5,Y5,Y5,Y5,Y5,Y5,Z5,Z5,Z5,Z5,Z5,Z5,Z5,Z5,Z5,Z5,Z5,Z5,Z5,Z5,Z5,Z5,Z5,Z5,Z5,Z5,Z5,Z5,Z5,Z5,Z5,Z5,Z5,Z5,Z5] rfl rfl (any_of HT_.out (by kernel_rfl)) (fun _ _ _ h => h) (Or.inl ⟨by rfl,?_⟩) ?_ ?_;rotate_left
             ·intro w';go_simp;with_reducible rfl
             rotate_left
             ·simp only [Act.put,q15,q25,q35,i64_w,i32_w];rfl
             refine take_ (i:=6) (N:=some 19) (v:=?_) (a':=?_) #[Y5,Y5,Y5,Y5,Y5,Y5,Y5,Z5,Z5,Z5,Z5,Z5,Z5,Z5,Z5,Z5,Z5,Z5,Z5,Z5,Z5,Z5,Z5,Z5,Z5,Z5,Z5,Z5,Z5,Z5,Z5,Z5,Z5,Z5,Z5] rfl rfl (take_ofW HT_.out HW_.out (by kernel_rfl)) (fun _ _ _ h => h) (Or.inl ⟨by rfl,?_⟩) hHeld ?_ ?_;rotate_left
             ·rintro w' ⟨s0,s1,s2,s3,s4,s5,s6,s7⟩
              go_simp
              with_reducible rfl
             rotate_left
             ·simp only [Act.put,q15,q25,q35,i64_w,i32_w];rfl
             refine pure_ (i:=7) (N:=some 20) (v:=?_) (a':=?_) #[Y5,Y5,Y5,Y5,Y5,Y5,Y5,Y5,Z5,Z5,Z5,Z5,Z5,Z5,Z5,Z5,Z5,Z5,Z5,Z5,Z5,Z5,Z5,Z5,Z5,Z5,Z5,Z5,Z5,Z5,Z5,Z5,Z5,Z5,Z5] rfl rfl (any_of HT_.out (by kernel_rfl)) (fun _ _ _ h => h) (Or.inl ⟨by rfl,?_⟩) ?_ ?_;rotate_left
             ·intro w';go_simp;with_reducible rfl
             rotate_left
             ·simp only [Act.put,q15,q25,q35,i64_w,i32_w];rfl
             refine pure_ (i:=8) (N:=some 21) (v:=?_) (a':=?_) #[Y5,Y5,Y5,Y5,Y5,Y5,Y5,Y5,Y5,Z5,Z5,Z5,Z5,Z5,Z5,Z5,Z5,Z5,Z5,Z5,Z5,Z5,Z5,Z5,Z5,Z5,Z5,Z5,Z5,Z5,Z5,Z5,Z5,Z5,Z5] rfl rfl (any_of HT_.out (by kernel_rfl)) (fun _ _ _ h => h) (Or.inl ⟨by rfl,?_⟩) ?_ ?_;rotate_left
             ·intro w';go_simp;with_reducible rfl
             rotate_left
             ·simp only [Act.put,q15,q25,q35,i64_w,i32_w];rfl
             refine pure_ (i:=9) (N:=some 22) (v:=?_) (a':=?_) #[Y5,Y5,Y5,Y5,Y5,Y5,Y5,Y5,Y5,Y5,Z5,Z5,Z5,Z5,Z5,Z5,Z5,Z5,Z5,Z5,Z5,Z5,Z5,Z5,Z5,Z5,Z5,Z5,Z5,Z5,Z5,Z5,Z5,Z5,Z5] rfl rfl (any_of HT_.out (by kernel_rfl)) (fun _ _ _ h => h) (Or.inl ⟨by rfl,?_⟩) ?_ ?_;rotate_left
             ·intro w';go_simp;with_reducible rfl
             rotate_left
             ·simp only [Act.put,q15,q25,q35,i64_w,i32_w];rfl
             refine pure_ (i:=10) (N:=some 23) (v:=?_) (a':=?_) #[Y5,Y5,Y5,Y5,Y5,Y5,Y5,Y5,Y5,Y5,Y5,Z5,Z5,Z5,Z5,Z5,Z5,Z5,Z5,Z5,Z5,Z5,Z5,Z5,Z5,Z5,Z5,Z5,Z5,Z5,Z5,Z5,Z5,Z5,Z5] rfl rfl (any_of HT_.out (by kernel_rfl)) (fun _ _ _ h => h) (Or.inl ⟨by rfl,?_⟩) ?_ ?_;rotate_left
             ·intro w';go_simp;with_reducible rfl
             rotate_left
             ·simp only [Act.put,q15,q25,q35,i64_w,i32_w];rfl
             refine pure_ (i:=11) (N:=some 24) (v:=?_) (a':=?_) #[Y5,Y5,Y5,Y5,Y5,Y5,Y5,Y5,Y5,Y5,Y5,Y5,Z5,Z5,Z5,Z5,Z5,Z5,Z5,Z5,Z5,Z5,Z5,Z5,Z5,Z5,Z5,Z5,Z5,Z5,Z5,Z5,Z5,Z5,Z5] rfl rfl (any_of HT_.out (by kernel_rfl)) (fun _ _ _ h => h) (Or.inl ⟨by rfl,?_⟩) ?_ ?_;rotate_left
             ·intro w';go_simp;with_reducible rfl
             rotate_left
             ·simp only [Act.put,q15,q25,q35,i64_w,i32_w];rfl
             refine take_ (i:=12) (N:=some 25) (v:=?_) (a':=?_) #[Y5,Y5,Y5,Y5,Y5,Y5,Y5,Y5,Y5,Y5,Y5,Y5,Y5,Z5,Z5,Z5,Z5,Z5,Z5,Z5,Z5,Z5,Z5,Z5,Z5,Z5,Z5,Z5,Z5,Z5,Z5,Z5,Z5,Z5,Z5] rfl rfl (take_ofW HT_.out HW_.out (by kernel_rfl)) (fun _ _ _ h => h) (Or.inl ⟨by rfl,?_⟩) hHeld ?_ ?_;rotate_left
             ·rintro w' ⟨s0,s1,s2,s3,s4,s5,s6,s7⟩
              go_simp
              with_reducible rfl
             rotate_left
             ·simp only [Act.put,q15,q25,q35,i64_w,i32_w];rfl
             refine pure_ (i:=13) (N:=some 26) (v:=?_) (a':=?_) #[Y5,Y5,Y5,Y5,Y5,Y5,Y5,Y5,Y5,Y5,Y5,Y5,Y5,Y5,Z5,Z5,Z5,Z5,Z5,Z5,Z5,Z5,Z5,Z5,Z5,Z5,Z5,Z5,Z5,Z5,Z5,Z5,Z5,Z5,Z5] rfl rfl (any_of HT_.out (by kernel_rfl)) (fun _ _ _ h => h) (Or.inl ⟨by rfl,?_⟩) ?_ ?_;rotate_left
             ·intro w';go_simp;with_reducible rfl
             rotate_left
             ·simp only [Act.put,q15,q25,q35,i64_w,i32_w];rfl
             refine pure_ (i:=14) (N:=some 27) (v:=undef) (a':=?_) #[Y5,Y5,Y5,Y5,Y5,Y5,Y5,Y5,Y5,Y5,Y5,Y5,Y5,Y5,Y5,Z5,Z5,Z5,Z5,Z5,Z5,Z5,Z5,Z5,Z5,Z5,Z5,Z5,Z5,Z5,Z5,Z5,Z5,Z5,Z5] rfl rfl (any_of HT_.out (by kernel_rfl)) (fun _ _ _ h => h) (Or.inr ⟨by rfl,rfl⟩) ?_ ?_;rotate_left
             ·simp only [Act.put,q15,q25,q35,i64_w,i32_w];rfl
             refine pure_ (i:=15) (N:=some 28) (v:=undef) (a':=?_) #[Y5,Y5,Y5,Y5,Y5,Y5,Y5,Y5,Y5,Y5,Y5,Y5,Y5,Y5,Y5,Y5,Z5,Z5,Z5,Z5,Z5,Z5,Z5,Z5,Z5,Z5,Z5,Z5,Z5,Z5,Z5,Z5,Z5,Z5,Z5] rfl rfl (any_of HT_.out (by kernel_rfl)) (fun _ _ _ h => h) (Or.inr ⟨by rfl,rfl⟩) ?_ ?_;rotate_left
             ·simp only [Act.put,q15,q25,q35,i64_w,i32_w];rfl
             refine pure_ (i:=16) (N:=some 29) (v:=undef) (a':=?_) #[Y5,Y5,Y5,Y5,Y5,Y5,Y5,Y5,Y5,Y5,Y5,Y5,Y5,Y5,Y5,Y5,Y5,Z5,Z5,Z5,Z5,Z5,Z5,Z5,Z5,Z5,Z5,Z5,Z5,Z5,Z5,Z5,Z5,Z5,Z5] rfl rfl (any_of HT_.out (by kernel_rfl)) (fun _ _ _ h => h) (Or.inr ⟨by rfl,rfl⟩) ?_ ?_;rotate_left
             ·simp only [Act.put,q15,q25,q35,i64_w,i32_w];rfl
             refine pure_ (i:=17) (N:=some 30) (v:=?_) (a':=?_) #[Y5,Y5,Y5,Y5,Y5,Y5,Y5,Y5,Y5,Y5,Y5,Y5,Y5,Y5,Y5,Y5,Y5,Y5,Z5,Z5,Z5,Z5,Z5,Z5,Z5,Z5,Z5,Z5,Z5,Z5,Z5,Z5,Z5,Z5,Z5] rfl rfl (any_of HT_.out (by kernel_rfl)) (fun _ _ _ h => h) (Or.inl ⟨by rfl,?_⟩) ?_ ?_;rotate_left
             ·intro w';go_simp;with_reducible rfl
             rotate_left
             ·simp only [Act.put,q15,q25,q35,i64_w,i32_w];rfl
             refine pure_ (i:=18) (N:=some 31) (v:=?_) (a':=?_) #[Y5,Y5,Y5,Y5,Y5,Y5,Y5,Y5,Y5,Y5,Y5,Y5,Y5,Y5,Y5,Y5,Y5,Y5,Y5,Z5,Z5,Z5,Z5,Z5,Z5,Z5,Z5,Z5,Z5,Z5,Z5,Z5,Z5,Z5,Z5] rfl rfl (any_of HT_.out (by kernel_rfl)) (fun _ _ _ h => h) (Or.inl ⟨by rfl,?_⟩) ?_ ?_;rotate_left
             ·intro w';go_simp;with_reducible rfl
             rotate_left
             ·simp only [Act.put,q15,q25,q35,i64_w,i32_w];rfl
             refine pure_ (i:=19) (N:=some 32) (v:=?_) (a':=?_) #[Y5,Y5,Y5,Y5,Y5,Y5,Y5,Y5,Y5,Y5,Y5,Y5,Y5,Y5,Y5,Y5,Y5,Y5,Y5,Y5,Z5,Z5,Z5,Z5,Z5,Z5,Z5,Z5,Z5,Z5,Z5,Z5,Z5,Z5,Z5] rfl rfl (any_of HT_.out (by kernel_rfl)) (fun _ _ _ h => h) (Or.inl ⟨by rfl,?_⟩) ?_ ?_;rotate_left
             ·intro w';go_simp;with_reducible rfl
             rotate_left
             ·simp only [Act.put,q15,q25,q35,i64_w,i32_w];rfl
             refine pure_ (i:=20) (N:=some 33) (v:=?_) (a':=?_) #[Y5,Y5,Y5,Y5,Y5,Y5,Y5,Y5,Y5,Y5,Y5,Y5,Y5,Y5,Y5,Y5,Y5,Y5,Y5,Y5,Y5,Z5,Z5,Z5,Z5,Z5,Z5,Z5,Z5,Z5,Z5,Z5,Z5,Z5,Z5] rfl rfl (any_of HT_.out (by kernel_rfl)) (fun _ _ _ h => h) (Or.inl ⟨by rfl,?_⟩) ?_ ?_;rotate_left
             ·intro w';go_simp;with_reducible rfl
             rotate_left
             ·simp only [Act.put,q15,q25,q35,i64_w,i32_w];rfl
             refine pure_ (i:=21) (N:=some 34) (v:=?_) (a':=?_) #[Y5,Y5,Y5,Y5,Y5,Y5,Y5,Y5,Y5,Y5,Y5,Y5,Y5,Y5,Y5,Y5,Y5,Y5,Y5,Y5,Y5,Y5,Z5,Z5,Z5,Z5,Z5,Z5,Z5,Z5,Z5,Z5,Z5,Z5,Z5] rfl rfl (any_of HT_.out (by kernel_rfl)) (fun _ _ _ h => h) (Or.inl ⟨by rfl,?_⟩) ?_ ?_;rotate_left
             ·intro w';go_simp;with_reducible rfl
             rotate_left
             ·simp only [Act.put,q15,q25,q35,i64_w,i32_w];rfl
             refine pure_ (i:=22) (N:=some 35) (v:=?_) (a':=?_) #[Y5,Y5,Y5,Y5,Y5,Y5,Y5,Y5,Y5,Y5,Y5,Y5,Y5,Y5,Y5,Y5,Y5,Y5,Y5,Y5,Y5,Y5,Y5,Z5,Z5,Z5,Z5,Z5,Z5,Z5,Z5,Z5,Z5,Z5,Z5] rfl rfl (any_of HT_.out (by kernel_rfl)) (fun _ _ _ h => h) (Or.inl ⟨by rfl,?_⟩) ?_ ?_;rotate_left
             ·intro w';go_simp;with_reducible rfl
             rotate_left
             ·simp only [Act.put,q15,q25,q35,i64_w,i32_w];rfl
             refine pure_ (i:=23) (N:=some 36) (v:=?_) (a':=?_) #[Y5,Y5,Y5,Y5,Y5,Y5,Y5,Y5,Y5,Y5,Y5,Y5,Y5,Y5,Y5,Y5,Y5,Y5,Y5,Y5,Y5,Y5,Y5,Y5,Z5,Z5,Z5,Z5,Z5,Z5,Z5,Z5,Z5,Z5,Z5] rfl rfl (any_of HT_.out (by kernel_rfl)) (fun _ _ _ h => h) (Or.inl ⟨by rfl,?_⟩) ?_ ?_;rotate_left
             ·intro w';go_simp;with_reducible rfl
             rotate_left
             ·simp only [Act.put,q15,q25,q35,i64_w,i32_w];rfl
             refine pure_ (i:=25) (N:=some 38) (v:=?_) (a':=?_) #[Y5,Y5,Y5,Y5,Y5,Y5,Y5,Y5,Y5,Y5,Y5,Y5,Y5,Y5,Y5,Y5,Y5,Y5,Y5,Y5,Y5,Y5,Y5,Y5,Z5,Y5,Z5,Z5,Z5,Z5,Z5,Z5,Z5,Z5,Z5] rfl rfl (any_of HT_.out (by kernel_rfl)) (fun _ _ _ h => h) (Or.inl ⟨by rfl,?_⟩) ?_ ?_;rotate_left
             ·intro w';go_simp;with_reducible rfl
             rotate_left
             ·simp only [Act.put,q15,q25,q35,i64_w,i32_w];rfl
             refine pure_ (i:=26) (N:=some 39) (v:=?_) (a':=?_) #[Y5,Y5,Y5,Y5,Y5,Y5,Y5,Y5,Y5,Y5,Y5,Y5,Y5,Y5,Y5,Y5,Y5,Y5,Y5,Y5,Y5,Y5,Y5,Y5,Z5,Y5,Y5,Z5,Z5,Z5,Z5,Z5,Z5,Z5,Z5] rfl rfl (any_of HT_.out (by kernel_rfl)) (fun _ _ _ h => h) (Or.inl ⟨by rfl,?_⟩) ?_ ?_;rotate_left
             ·intro w';go_simp;with_reducible rfl
             rotate_left
             ·simp only [Act.put,q15,q25,q35,i64_w,i32_w];rfl
             refine pure_ (i:=30) (N:=some 43) (v:=?_) (a':=?_) #[Y5,Y5,Y5,Y5,Y5,Y5,Y5,Y5,Y5,Y5,Y5,Y5,Y5,Y5,Y5,Y5,Y5,Y5,Y5,Y5,Y5,Y5,Y5,Y5,Z5,Y5,Y5,Z5,Z5,Z5,Y5,Z5,Z5,Z5,Z5] rfl rfl (any_of HT_.out (by kernel_rfl)) (fun _ _ _ h => h) (Or.inl ⟨by rfl,?_⟩) ?_ ?_;rotate_left
             ·intro w';go_simp;with_reducible rfl
             rotate_left
             ·simp only [Act.put,q15,q25,q35,i64_w,i32_w];rfl
             refine take_ (i:=24) (N:=some 37) (v:=?_) (a':=?_) #[Y5,Y5,Y5,Y5,Y5,Y5,Y5,Y5,Y5,Y5,Y5,Y5,Y5,Y5,Y5,Y5,Y5,Y5,Y5,Y5,Y5,Y5,Y5,Y5,Y5,Y5,Y5,Z5,Z5,Z5,Y5,Z5,Z5,Z5,Z5] rfl rfl (take_ofW HT_.out HW_.out (by kernel_rfl)) (fun _ _ _ h => h) (Or.inl ⟨by rfl,?_⟩) hHeld ?_ ?_;rotate_left
             ·rintro w' ⟨s0,s1,s2,s3,s4,s5,s6,s7⟩
              go_simp
              with_reducible rfl
             rotate_left
             ·simp only [Act.put,q15,q25,q35,i64_w,i32_w];rfl
             refine pure_ (i:=27) (N:=some 40) (v:=?_) (a':=?_) #[Y5,Y5,Y5,Y5,Y5,Y5,Y5,Y5,Y5,Y5,Y5,Y5,Y5,Y5,Y5,Y5,Y5,Y5,Y5,Y5,Y5,Y5,Y5,Y5,Y5,Y5,Y5,Y5,Z5,Z5,Y5,Z5,Z5,Z5,Z5] rfl rfl (any_of HT_.out (by kernel_rfl)) (fun _ _ _ h => h) (Or.inl ⟨by rfl,?_⟩) ?_ ?_;rotate_left
             ·intro w';go_simp;with_reducible rfl
             rotate_left
             ·simp only [Act.put,q15,q25,q35,i64_w,i32_w];rfl
             refine pure_ (i:=28) (N:=some 41) (v:=?_) (a':=?_) #[Y5,Y5,Y5,Y5,Y5,Y5,Y5,Y5,Y5,Y5,Y5,Y5,Y5,Y5,Y5,Y5,Y5,Y5,Y5,Y5,Y5,Y5,Y5,Y5,Y5,Y5,Y5,Y5,Y5,Z5,Y5,Z5,Z5,Z5,Z5] rfl rfl (any_of HT_.out (by kernel_rfl)) (fun _ _ _ h => h) (Or.inl ⟨by rfl,?_⟩) ?_ ?_;rotate_left
             ·intro w';go_simp;with_reducible rfl
             rotate_left
             ·simp only [Act.put,q15,q25,q35,i64_w,i32_w];rfl
             refine take_ (i:=29) (N:=some 42) (v:=?_) (a':=?_) #[Y5,Y5,Y5,Y5,Y5,Y5,Y5,Y5,Y5,Y5,Y5,Y5,Y5,Y5,Y5,Y5,Y5,Y5,Y5,Y5,Y5,Y5,Y5,Y5,Y5,Y5,Y5,Y5,Y5,Y5,Y5,Z5,Z5,Z5,Z5] rfl rfl (take_ofW HT_.out HW_.out (by kernel_rfl)) (fun _ _ _ h => h) (Or.inl ⟨by rfl,?_⟩) hHeld ?_ ?_;rotate_left
             ·rintro w' ⟨s0,s1,s2,s3,s4,s5,s6,s7⟩
              go_simp
              with_reducible rfl
             rotate_left
             ·simp only [Act.put,q15,q25,q35,i64_w,i32_w];rfl
             refine take_ (i:=31) (N:=some 44) (v:=?_) (a':=?_) #[Y5,Y5,Y5,Y5,Y5,Y5,Y5,Y5,Y5,Y5,Y5,Y5,Y5,Y5,Y5,Y5,Y5,Y5,Y5,Y5,Y5,Y5,Y5,Y5,Y5,Y5,Y5,Y5,Y5,Y5,Y5,Y5,Z5,Z5,Z5] rfl rfl (take_ofW HT_.out HW_.out (by kernel_rfl)) (fun _ _ _ h => h) (Or.inl ⟨by rfl,?_⟩) hHeld ?_ ?_;rotate_left
             ·rintro w' ⟨s0,s1,s2,s3,s4,s5,s6,s7⟩
              go_simp
              with_reducible rfl
             rotate_left
             ·simp only [Act.put,q15,q25,q35,i64_w,i32_w];rfl
             refine pure_ (i:=32) (N:=some 45) (v:=?_) (a':=?_) #[Y5,Y5,Y5,Y5,Y5,Y5,Y5,Y5,Y5,Y5,Y5,Y5,Y5,Y5,Y5,Y5,Y5,Y5,Y5,Y5,Y5,Y5,Y5,Y5,Y5,Y5,Y5,Y5,Y5,Y5,Y5,Y5,Y5,Z5,Z5] rfl rfl (any_of HT_.out (by kernel_rfl)) (fun _ _ _ h => h) (Or.inl ⟨by rfl,?_⟩) ?_ ?_;rotate_left
             ·intro w';go_simp;with_reducible rfl
             rotate_left
             ·simp only [Act.put,q15,q25,q35,i64_w,i32_w];rfl
             refine pure_ (i:=33) (N:=some 46) (v:=?_) (a':=?_) #[Y5,Y5,Y5,Y5,Y5,Y5,Y5,Y5,Y5,Y5,Y5,Y5,Y5,Y5,Y5,Y5,Y5,Y5,Y5,Y5,Y5,Y5,Y5,Y5,Y5,Y5,Y5,Y5,Y5,Y5,Y5,Y5,Y5,Y5,Z5] rfl rfl (any_of HT_.out (by kernel_rfl)) (fun _ _ _ h => h) (Or.inl ⟨by rfl,?_⟩) ?_ ?_;rotate_left
             ·intro w';go_simp;with_reducible rfl
             rotate_left
             ·simp only [Act.put,q15,q25,q35,i64_w,i32_w];rfl
             refine pure_ (i:=34) (N:=some 47) (v:=?_) (a':=?_) #[Y5,Y5,Y5,Y5,Y5,Y5,Y5,Y5,Y5,Y5,Y5,Y5,Y5,Y5,Y5,Y5,Y5,Y5,Y5,Y5,Y5,Y5,Y5,Y5,Y5,Y5,Y5,Y5,Y5,Y5,Y5,Y5,Y5,Y5,Y5] rfl rfl (any_of HT_.out (by kernel_rfl)) (fun _ _ _ h => h) (Or.inl ⟨by rfl,?_⟩) ?_ ?_;rotate_left
             ·intro w';go_simp;with_reducible rfl
             rotate_left
             ·simp only [Act.put,q15,q25,q35,i64_w,i32_w];rfl
             refine done_ (done_of HT_.out (by kernel_rfl)) ?_
             try go_wp2
             go_ret
             exact ⟨by first | rfl | (simp [errW_none,errW_some] <;> rfl) | (simp only [← hji44];first | rfl | (simp [errW_none,errW_some] <;> rfl)) | (simp [*,errW_none,errW_some] <;> rfl),by repeat (first | (with_reducible first | exact HB.out | apply below_alloc | apply pw_below_drewN | apply below_drew1 | refine below_set ?_ GE167.out | refine below_set ?_ GE169.out) | exact HB.out)⟩
           ·rw [if_neg c46] at H
            exact absurd H (by simp)
          ·rw [if_neg c45] at H
           exact absurd H (by simp)
         ·rw [if_neg c43] at H
          have c43b0 : decide (0 < x8_1) = false:=decide_eq_false c43
          clear c43
          have H':=Aside0.mk H
          clear H
          have p168 : 0 ≤ (x8_1 : Int):=of_decide_eq_true (by first | (with_reducible assumption) | assumption)
          have q168 : x8_1 < (l0_1.length : Int):=of_decide_eq_true (by first | (with_reducible assumption) | assumption)
          obtain ⟨ad168,e168,hx168_0,hx168_1,hx168_2⟩:=at_T86 HR0_1.out x8_1 p168 q168
          (try rw [← Nbq15.out] at hx168_2)
          cases e168
          replace hx168_0:=(HB.out.cell (World.block_lt_of_cell? w _ hx168_0)).trans hx168_0
          replace hx168_1:=(HB.out.cell (World.block_lt_of_cell? w _ hx168_1)).trans hx168_1
          replace hx168_2:=(HB.out.cell (World.block_lt_of_cell? w _ hx168_2)).trans hx168_2
          replace p168:=eq_true p168
          replace q168:=eq_true q168
          try go_wp2_with (first | ((with_reducible refine gate_dst (N:=4) rfl ?_);(try (refine gate_guard (by rfl) ?_;dsimp only));refine box_event ?hg (N:=4) ?hd (cs:=#[.string (⟨#[]⟩ : ByteArray),.string (⟨#[]⟩ : ByteArray),.bool false]) (t:=86) ?hr ?_;(case hd => rfl);(case hg => rfl);(case hr => first | (go_simp;done) | (go_simp;rfl));intro gb169 hg w58 hbox hb;have n0_:=Aside0.mk (blk_below (g:=gb167) (o:=.cells #[.int .i64 a0_0,.slice (some ad168) l0_1.length c0_1] 47 (0,0)) (by (with_reducible repeat (first | refine blk_drewN ?_ _ | refine blk_drew ?_ | refine blk_alloc ?_ _));exact BK167.out) hb);have n1_:=Aside0.mk (below_step (by repeat (first | (with_reducible first | exact HB.out | apply below_alloc | apply pw_below_drewN | apply below_drew1 | refine below_set ?_ GE167.out) | exact HB.out)) hb);have n2_:=Aside0.mk (hbox);have n3_:=Aside0.mk ((by rw [hg];exact (below_size (by repeat (first | (with_reducible first | exact HB.out | apply below_alloc | apply pw_below_drewN | apply below_drew1 | refine below_set ?_ GE167.out) | exact HB.out))) : w.heap.size ≤ gb169));have n4_:=Aside0.mk ((by rw [hg];exact (below_size (by repeat (first | (with_reducible first | exact HB.out | apply below_alloc | apply pw_below_drewN | apply below_drew1 | refine below_set ?_ GE167.out) | exact HB.out))) : w.heap.size ≤ gb169));have n5_:=Aside0.mk ((by rw [hg];exact Nat.ne_of_lt (blk_lt (g:=gb167) (o:=.cells #[.int .i64 a0_0,.slice (some ad168) l0_1.length c0_1] 47 (0,0)) (by (with_reducible repeat (first | refine blk_drewN ?_ _ | refine blk_drew ?_ | refine blk_alloc ?_ _));exact BK167.out)) : gb167 ≠ gb169));have n6_:=Aside0.mk ((by rw [hg];exact Nat.ne_of_gt (blk_lt (g:=gb167) (o:=.cells #[.int .i64 a0_0,.slice (some ad168) l0_1.length c0_1] 47 (0,0)) (by (with_reducible repeat (first | refine blk_drewN ?_ _ | refine blk_drew ?_ | refine blk_alloc ?_ _));exact BK167.out)) : gb169 ≠ gb167));clear BK167;clear HB;have BK167:=n0_;have HB:=n1_;have BK169:=n2_;have GW169:=n3_;have GE169:=n4_;have NB167_169:=n5_;have NB169_167:=n6_;clear n0_ n1_ n2_ n3_ n4_ n5_ n6_;clear hb hbox hg;have hnb59:=NB169_167.out;have hnc59:=NB167_169.out;have hcz60_0 : w58.cell? ⟨gb169,0,none⟩ = some (.string (⟨#[]⟩ : ByteArray)):=(blk_cell BK169.out 0).trans rfl;have hcz60_1 : w58.cell? ⟨gb169,1,none⟩ = some (.string (⟨#[]⟩ : ByteArray)):=(blk_cell BK169.out 1).trans rfl;have hcz60_2 : w58.cell? ⟨gb169,2,none⟩ = some (.bool false):=(blk_cell BK169.out 2).trans rfl;have hfz60_0:=blk_frozen BK169.out 0;have hfz60_1:=blk_frozen BK169.out 1;have hfz60_2:=blk_frozen BK169.out 2))
          have n0_ : Aside0 ((((w58.setCell ⟨gb169,0,none⟩ (.string ((rd_T86 l0_1 x8_1).f0))).setCell ⟨gb169,1,none⟩ (.string ((rd_T86 l0_1 x8_1).f1))).setCell ⟨gb169,2,none⟩ (.bool false)).heap[gb167]? = some (.cells #[.int .i64 a0_0,.slice (some ad168) l0_1.length c0_1] 47 (0,0))):=⟨by (with_reducible repeat (first | refine blk_drewN ?_ _ | refine blk_drew ?_ | refine blk_alloc ?_ _));refine blk_far ?_ NB167_169.out _;(with_reducible repeat (first | refine blk_drewN ?_ _ | refine blk_drew ?_ | refine blk_alloc ?_ _));refine blk_far ?_ NB167_169.out _;(with_reducible repeat (first | refine blk_drewN ?_ _ | refine blk_drew ?_ | refine blk_alloc ?_ _));refine blk_far ?_ NB167_169.out _;(with_reducible repeat (first | refine blk_drewN ?_ _ | refine blk_drew ?_ | refine blk_alloc ?_ _));exact BK167.out⟩
          have n1_ : Aside0 ((((w58.setCell ⟨gb169,0,none⟩ (.string ((rd_T86 l0_1 x8_1).f0))).setCell ⟨gb169,1,none⟩ (.string ((rd_T86 l0_1 x8_1).f1))).setCell ⟨gb169,2,none⟩ (.bool false)).heap[gb169]? = some (.cells #[.string ((rd_T86 l0_1 x8_1).f0),.string ((rd_T86 l0_1 x8_1).f1),.bool false] 86 (0,0))):=⟨by (with_reducible repeat (first | refine blk_drewN ?_ _ | refine blk_drew ?_ | refine blk_alloc ?_ _));refine blk_put (cs:=#[.string ((rd_T86 l0_1 x8_1).f0),.string ((rd_T86 l0_1 x8_1).f1),.bool false]) ?_ 2 _ rfl;(with_reducible repeat (first | refine blk_drewN ?_ _ | refine blk_drew ?_ | refine blk_alloc ?_ _));refine blk_put (cs:=#[.string ((rd_T86 l0_1 x8_1).f0),.string (⟨#[]⟩ : ByteArray),.bool false]) ?_ 1 _ rfl;(with_reducible repeat (first | refine blk_drewN ?_ _ | refine blk_drew ?_ | refine blk_alloc ?_ _));refine blk_put (cs:=#[.string (⟨#[]⟩ : ByteArray),.string (⟨#[]⟩ : ByteArray),.bool false]) ?_ 0 _ rfl;(with_reducible repeat (first | refine blk_drewN ?_ _ | refine blk_drew ?_ | refine blk_alloc ?_ _));exact BK169.out⟩
          have n2_ : Aside0 (Below w.heap.size w (((w58.setCell ⟨gb169,0,none⟩ (.string ((rd_T86 l0_1 x8_1).f0))).setCell ⟨gb169,1,none⟩ (.string ((rd_T86 l0_1 x8_1).f1))).setCell ⟨gb169,2,none⟩ (.bool false))):=⟨by repeat (first | (with_reducible first | exact HB.out | apply below_alloc | apply pw_below_drewN | apply below_drew1 | refine below_set ?_ GE167.out | refine below_set ?_ GE169.out) | exact HB.out)⟩
          (try clear BK167)
          (try clear BK169)
          (try clear HB)
          generalize (((w58.setCell ⟨gb169,0,none⟩ (.string ((rd_T86 l0_1 x8_1).f0))).setCell ⟨gb169,1,none⟩ (.string ((rd_T86 l0_1 x8_1).f1))).setCell ⟨gb169,2,none⟩ (.bool false)) = w61 at n0_ n1_ n2_ ⊢
          have BK167:=n0_
          have BK169:=n1_
          have HB:=n2_
          clear n0_ n1_ n2_
          have n0_:=Aside0.mk (blk_drew BK167.out)
          have n1_:=Aside0.mk (blk_drew BK169.out)
          have n2_:=Aside0.mk (below_drew1 HB.out)
          clear BK167
          clear BK169
          clear HB
          have BK167:=n0_
          have BK169:=n1_
          have HB:=n2_
          clear n0_ n1_ n2_
          refine start_ (n:=35) (S:=fun w' => w'.cell? ⟨gb169,0,none⟩ = some (.string ((rd_T86 l0_1 x8_1).f0)) ∧ w'.cell? ⟨gb169,1,none⟩ = some (.string ((rd_T86 l0_1 x8_1).f1)) ∧ w'.cell? ⟨gb169,2,none⟩ = some (.bool false)) (ds:=[]) #[Z5,Z5,Z5,Z5,Z5,Z5,Z5,Z5,Z5,Z5,Z5,Z5,Z5,Z5,Z5,Z5,Z5,Z5,Z5,Z5,Z5,Z5,Z5,Z5,Z5,Z5,Z5,Z5,Z5,Z5,Z5,Z5,Z5,Z5,Z5] (by kernel_rfl) rfl rfl ⟨(blk_cell BK169.out 0).trans rfl,(blk_cell BK169.out 1).trans rfl,(blk_cell BK169.out 2).trans rfl⟩ (fun hHeld => ?_);refine with_tabW impl_BatchOk.tab4 impl_BatchOk.bits4 (fun HT_ HW_ => ?_)
          generalize w61.drew = w62 at BK167 BK169 HB hHeld ⊢
          refine pure_ (i:=0) (N:=some 13) (v:=?_) (a':=?_) #[Y5,Z5,Z5,Z5,Z5,Z5,Z5,Z5,Z5,Z5,Z5,Z5,Z5,Z5,Z5,Z5,Z5,Z5,Z5,Z5,Z5,Z5,Z5,Z5,Z5,Z5,Z5,Z5,Z5,Z5,Z5,Z5,Z5,Z5,Z5] rfl rfl (any_of HT_.out (by kernel_rfl)) (fun _ _ _ h => h) (Or.inl ⟨by rfl,?_⟩) ?_ ?_;rotate_left
          ·intro w';go_simp;with_reducible rfl
          rotate_left
          ·simp only [Act.put,q15,q25,q35,i64_w,i32_w];rfl
          refine take_ (i:=1) (N:=some 14) (v:=?_) (a':=?_) #[Y5,Y5,Z5,Z5,Z5,Z5,Z5,Z5,Z5,Z5,Z5,Z5,Z5,Z5,Z5,Z5,Z5,Z5,Z5,Z5,Z5,Z5,Z5,Z5,Z5,Z5,Z5,Z5,Z5,Z5,Z5,Z5,Z5,Z5,Z5] rfl rfl (take_ofW HT_.out HW_.out (by kernel_rfl)) (fun _ _ _ h => h) (Or.inl ⟨by rfl,?_⟩) hHeld ?_ ?_;rotate_left
          ·rintro w' ⟨s0,s1,s2⟩
           go_simp
           with_reducible rfl
          rotate_left
          ·simp only [Act.put,q15,q25,q35,i64_w,i32_w];rfl
          refine one_ (i:=2) (N:=some 15) #[Y5,Y5,Y5,Z5,Z5,Z5,Z5,Z5,Z5,Z5,Z5,Z5,Z5,Z5,Z5,Z5,Z5,Z5,Z5,Z5,Z5,Z5,Z5,Z5,Z5,Z5,Z5,Z5,Z5,Z5,Z5,Z5,Z5,Z5,Z5] rfl rfl (one_of HT_.out (by kernel_rfl)) (by decide) (fun K hK => ?_)
          refine goes_ Try.func45 (by kernel_rfl) rfl #[.string ((rd_T86 l0_1 x8_1).f0)] (by rfl) rfl rfl (by (try simp only [List.map_toArray,List.map_cons,List.map_nil]);first | done | rfl | (simp only [List.length_drop,List.length_take];rfl)) ?_
          with_reducible refine (impl_keyOk.calls ((rd_T86 l0_1 x8_1).f0) true _ A7.out).mono ?_
          rintro e w' ⟨rfl,⟨nd,rfl⟩⟩
          refine ⟨_,rfl,?_⟩
          refine hK.out _ _ ⟨(blk_cell BK169.out 0).trans rfl,(blk_cell BK169.out 1).trans rfl,(blk_cell BK169.out 2).trans rfl⟩ (fun hHeld => ?_)
          clear hK K
          refine norm_ (a':=?_) ?_ ?_;rotate_left
          ·show Act.put _ (some 15) _ = _;simp only [Act.put,q15,q25,q35,i64_w,i32_w];rfl
          refine pure_ (i:=3) (N:=some 16) (v:=?_) (a':=?_) #[Y5,Y5,Y5,Y5,Z5,Z5,Z5,Z5,Z5,Z5,Z5,Z5,Z5,Z5,Z5,Z5,Z5,Z5,Z5,Z5,Z5,Z5,Z5,Z5,Z5,Z5,Z5,Z5,Z5,Z5,Z5,Z5,Z5,Z5,Z5] rfl rfl (any_of HT_.out (by kernel_rfl)) (fun _ _ _ h => h) (Or.inl ⟨by rfl,?_⟩) ?_ ?_;rotate_left
          ·intro w';go_simp;with_reducible rfl
          rotate_left
          ·simp only [Act.put,q15,q25,q35,i64_w,i32_w];rfl
          refine pure_ (i:=4) (N:=some 17) (v:=?_) (a':=?_) #[Y5,Y5,Y5,Y5,Y5,Z5,Z5,Z5,Z5,Z5,Z5,Z5,Z5,Z5,Z5,Z5,Z5,Z5,Z5,Z5,Z5,Z5,Z5,Z5,Z5,Z5,Z5,Z5,Z5,Z5,Z5,Z5,Z5,Z5,Z5] rfl rfl (any_of HT_.out (by kernel_rfl)) (fun _ _ _ h => h) (Or.inl ⟨by rfl,?_⟩) ?_ ?_;rotate_left
          ·intro w';go_simp;with_reducible rfl
          rotate_left
          ·simp only [Act.put,q15,q25,q35,i64_w,i32_w];rfl
          refine pure_ (i:=5) (N:=some 18) (v:=?_) (a':=?_) #[Y5,Y5,Y5,Y5,Y5,Y5,Z5,Z5,Z5,Z5,Z5,Z5,Z5,Z5,Z5,Z5,Z5,Z5,Z5,Z5,Z5,Z5,Z5,Z5,Z5,Z5,Z5,Z5,Z5,Z5,Z5,Z5,Z5,Z5,Z5] rfl rfl (any_of HT_.out (by kernel_rfl)) (fun _ _ _ h => h) (Or.inl ⟨by rfl,?_⟩) ?_ ?_;rotate_left
          ·intro w';go_simp;with_reducible rfl
          rotate_left
          ·simp only [Act.put,q15,q25,q35,i64_w,i32_w];rfl
          refine take_ (i:=6) (N:=some 19) (v:=?_) (a':=?_) #[Y5,Y5,Y5,Y5,Y5,Y5,Y5,Z5,Z5,Z5,Z5,Z5,Z5,Z5,Z5,Z5,Z5,Z5,Z5,Z5,Z5,Z5,Z5,Z5,Z5,Z5,Z5,Z5,Z5,Z5,Z5,Z5,Z5,Z5,Z5] rfl rfl (take_ofW HT_.out HW_.out (by kernel_rfl)) (fun _ _ _ h => h) (Or.inl ⟨by rfl,?_⟩) hHeld ?_ ?_;rotate_left
          ·rintro w' ⟨s0,s1,s2⟩
           go_simp
           with_reducible rfl
          rotate_left
          ·simp only [Act.put,q15,q25,q35,i64_w,i32_w];rfl
          refine pure_ (i:=7) (N:=some 20) (v:=?_) (a':=?_) #[Y5,Y5,Y5,Y5,Y5,Y5,Y5,Y5,Z5,Z5,Z5,Z5,Z5,Z5,Z5,Z5,Z5,Z5,Z5,Z5,Z5,Z5,Z5,Z5,Z5,Z5,Z5,Z5,Z5,Z5,Z5,Z5,Z5,Z5,Z5] rfl rfl (any_of HT_.out (by kernel_rfl)) (fun _ _ _ h => h) (Or.inl ⟨by rfl,?_⟩) ?_ ?_;rotate_left
          ·intro w';go_simp;with_reducible rfl
          rotate_left
          ·simp only [Act.put,q15,q25,q35,i64_w,i32_w];rfl
          refine pure_ (i:=8) (N:=some 21) (v:=?_) (a':=?_) #[Y5,Y5,Y5,Y5,Y5,Y5,Y5,Y5,Y5,Z5,Z5,Z5,Z5,Z5,Z5,Z5,Z5,Z5,Z5,Z5,Z5,Z5,Z5,Z5,Z5,Z5,Z5,Z5,Z5,Z5,Z5,Z5,Z5,Z5,Z5] rfl rfl (any_of HT_.out (by kernel_rfl)) (fun _ _ _ h => h) (Or.inl ⟨by rfl,?_⟩) ?_ ?_;rotate_left
          ·intro w';go_simp;with_reducible rfl
          rotate_left
          ·simp only [Act.put,q15,q25,q35,i64_w,i32_w];rfl
          refine pure_ (i:=9) (N:=some 22) (v:=?_) (a':=?_) #[Y5,Y5,Y5,Y5,Y5,Y5,Y5,Y5,Y5,Y5,Z5,Z5,Z5,Z5,Z5,Z5,Z5,Z5,Z5,Z5,Z5,Z5,Z5,Z5,Z5,Z5,Z5,Z5,Z5,Z5,Z5,Z5,Z5,Z5,Z5] rfl rfl (any_of HT_.out (by kernel_rfl)) (fun _ _ _ h => h) (Or.inl ⟨by rfl,?_⟩) ?_ ?_;rotate_left
          ·intro w';go_simp;with_reducible rfl
          rotate_left
          ·simp only [Act.put,q15,q25,q35,i64_w,i32_w];rfl
          refine pure_ (i:=10) (N:=some 23) (v:=?_) (a':=?_) #[Y5,Y5,Y5,Y5,Y5,Y5,Y5,Y5,Y5,Y5,Y5,Z5,Z5,Z5,Z5,Z5,Z5,Z5,Z5,Z5,Z5,Z5,Z5,Z5,Z5,Z5,Z5,Z5,Z5,Z5,Z5,Z5,Z5,Z5,Z5] rfl rfl (any_of HT_.out (by kernel_rfl)) (fun _ _ _ h => h) (Or.inl ⟨by rfl,?_⟩) ?_ ?_;rotate_left
          ·intro w';go_simp;with_reducible rfl
          rotate_left
          ·simp only [Act.put,q15,q25,q35,i64_w,i32_w];rfl
          refine pure_ (i:=11) (N:=some 24) (v:=?_) (a':=?_) #[Y5,Y5,Y5,Y5,Y5,Y5,Y5,Y5,Y5,Y5,Y5,Y5,Z5,Z5,Z5,Z5,Z5,Z5,Z5,Z5,Z5,Z5,Z5,Z5,Z5,Z5,Z5,Z5,Z5,Z5,Z5,Z5,Z5,Z5,Z5] rfl rfl (any_of HT_.out (by kernel_rfl)) (fun _ _ _ h => h) (Or.inl ⟨by rfl,?_⟩) ?_ ?_;rotate_left
          ·intro w';go_simp;with_reducible rfl
          rotate_left
          ·simp only [Act.put,q15,q25,q35,i64_w,i32_w];rfl
          refine take_ (i:=12) (N:=some 25) (v:=?_) (a':=?_) #[Y5,Y5,Y5,Y5,Y5,Y5,Y5,Y5,Y5,Y5,Y5,Y5,Y5,Z5,Z5,Z5,Z5,Z5,Z5,Z5,Z5,Z5,Z5,Z5,Z5,Z5,Z5,Z5,Z5,Z5,Z5,Z5,Z5,Z5,Z5] rfl rfl (take_ofW HT_.out HW_.out (by kernel_rfl)) (fun _ _ _ h => h) (Or.inl ⟨by rfl,?_⟩) hHeld ?_ ?_;rotate_left
          ·rintro w' ⟨s0,s1,s2⟩
           go_simp
           with_reducible rfl
          rotate_left
          ·simp only [Act.put,q15,q25,q35,i64_w,i32_w];rfl
          refine pure_ (i:=13) (N:=some 26) (v:=?_) (a':=?_) #[Y5,Y5,Y5,Y5,Y5,Y5,Y5,Y5,Y5,Y5,Y5,Y5,Y5,Y5,Z5,Z5,Z5,Z5,Z5,Z5,Z5,Z5,Z5,Z5,Z5,Z5,Z5,Z5,Z5,Z5,Z5,Z5,Z5,Z5,Z5] rfl rfl (any_of HT_.out (by kernel_rfl)) (fun _ _ _ h => h) (Or.inl ⟨by rfl,?_⟩) ?_ ?_;rotate_left
          ·intro w';go_simp;with_reducible rfl
          rotate_left
          ·simp only [Act.put,q15,q25,q35,i64_w,i32_w];rfl
          refine pure_ (i:=14) (N:=some 27) (v:=undef) (a':=?_) #[Y5,Y5,Y5,Y5,Y5,Y5,Y5,Y5,Y5,Y5,Y5,Y5,Y5,Y5,Y5,Z5,Z5,Z5,Z5,Z5,Z5,Z5,Z5,Z5,Z5,Z5,Z5,Z5,Z5,Z5,Z5,Z5,Z5,Z5,Z5] rfl rfl (any_of HT_.out (by kernel_rfl)) (fun _ _ _ h => h) (Or.inr ⟨by rfl,rfl⟩) ?_ ?_;rotate_left
          ·simp only [Act.put,q15,q25,q35,i64_w,i32_w];rfl
          refine pure_ (i:=15) (N:=some 28) (v:=undef) (a':=?_) #[Y5,Y5,Y5,Y5,Y5,Y5,Y5,Y5,Y5,Y5,Y5,Y5,Y5,Y5,Y5,Y5,Z5,Z5,Z5,Z5,Z5,Z5,Z5,Z5,Z5,Z5,Z5,Z5,Z5,Z5,Z5,Z5,Z5,Z5,Z5] rfl rfl (any_of HT_.out (by kernel_rfl)) (fun _ _ _ h => h) (Or.inr ⟨by rfl,rfl⟩) ?_ ?_;rotate_left
          ·simp only [Act.put,q15,q25,q35,i64_w,i32_w];rfl
          refine pure_ (i:=16) (N:=some 29) (v:=undef) (a':=?_) #[Y5,Y5,Y5,Y5,Y5,Y5,Y5,Y5,Y5,Y5,Y5,Y5,Y5,Y5,Y5,Y5,Y5,Z5,Z5,Z5,Z5,Z5,Z5,Z5,Z5,Z5,Z5,Z5,Z5,Z5,Z5,Z5,Z5,Z5,Z5] rfl rfl (any_of HT_.out (by kernel_rfl)) (fun _ _ _ h => h) (Or.inr ⟨by rfl,rfl⟩) ?_ ?_;rotate_left
          ·simp only [Act.put,q15,q25,q35,i64_w,i32_w];rfl
          refine pure_ (i:=17) (N:=some 30) (v:=?_) (a':=?_) #[Y5,Y5,Y5,Y5,Y5,Y5,Y5,Y5,Y5,Y5,Y5,Y5,Y5,Y5,Y5,Y5,Y5,Y5,Z5,Z5,Z5,Z5,Z5,Z5,Z5,Z5,Z5,Z5,Z5,Z5,Z5,Z5,Z5,Z5,Z5] rfl rfl (any_of HT_.out (by kernel_rfl)) (fun _ _ _ h => h) (Or.inl ⟨by rfl,?_⟩) ?_ ?_;rotate_left
          ·intro w';go_simp;with_reducible rfl
          rotate_left
          ·simp only [Act.put,q15,q25,q35,i64_w,i32_w];rfl
          refine pure_ (i:=18) (N:=some 31) (v:=?_) (a':=?_) #[Y5,Y5,Y5,Y5,Y5,Y5,Y5,Y5,Y5,Y5,Y5,Y5,Y5,Y5,Y5,Y5,Y5,Y5,Y5,Z5,Z5,Z5,Z5,Z5,Z5,Z5,Z5,Z5,Z5,Z5,Z5,Z5,Z5,Z5,Z5] rfl rfl (any_of HT_.out (by kernel_rfl)) (fun _ _ _ h => h) (Or.inl ⟨by rfl,?_⟩) ?_ ?_;rotate_left
          ·intro w';go_simp;with_reducible rfl
          rotate_left
          ·simp only [Act.put,q15,q25,q35,i64_w,i32_w];rfl
          refine pure_ (i:=19) (N:=some 32) (v:=?_) (a':=?_) #[Y5,Y5,Y5,Y5,Y5,Y5,Y5,Y5,Y5,Y5,Y5,Y5,Y5,Y5,Y5,Y5,Y5,Y5,Y5,Y5,Z5,Z5,Z5,Z5,Z5,Z5,Z5,Z5,Z5,Z5,Z5,Z5,Z5,Z5,Z5] rfl rfl (any_of HT_.out (by kernel_rfl)) (fun _ _ _ h => h) (Or.inl ⟨by rfl,?_⟩) ?_ ?_;rotate_left
          ·intro w';go_simp;with_reducible rfl
          rotate_left
          ·simp only [Act.put,q15,q25,q35,i64_w,i32_w];rfl
          refine pure_ (i:=20) (N:=some 33) (v:=?_) (a':=?_) #[Y5,Y5,Y5,Y5,Y5,Y5,Y5,Y5,Y5,Y5,Y5,Y5,Y5,Y5,Y5,Y5,Y5,Y5,Y5,Y5,Y5,Z5,Z5,Z5,Z5,Z5,Z5,Z5,Z5,Z5,Z5,Z5,Z5,Z5,Z5] rfl rfl (any_of HT_.out (by kernel_rfl)) (fun _ _ _ h => h) (Or.inl ⟨by rfl,?_⟩) ?_ ?_;rotate_left
          ·intro w';go_simp;with_reducible rfl
          rotate_left
          ·simp only [Act.put,q15,q25,q35,i64_w,i32_w];rfl
          refine pure_ (i:=21) (N:=some 34) (v:=?_) (a':=?_) #[Y5,Y5,Y5,Y5,Y5,Y5,Y5,Y5,Y5,Y5,Y5,Y5,Y5,Y5,Y5,Y5,Y5,Y5,Y5,Y5,Y5,Y5,Z5,Z5,Z5,Z5,Z5,Z5,Z5,Z5,Z5,Z5,Z5,Z5,Z5] rfl rfl (any_of HT_.out (by kernel_rfl)) (fun _ _ _ h => h) (Or.inl ⟨by rfl,?_⟩) ?_ ?_;rotate_left
          ·intro w';go_simp;with_reducible rfl
          rotate_left
          ·simp only [Act.put,q15,q25,q35,i64_w,i32_w];rfl
          refine pure_ (i:=22) (N:=some 35) (v:=?_) (a':=?_) #[Y5,Y5,Y5,Y5,Y5,Y5,Y5,Y5,Y5,Y5,Y5,Y5,Y5,Y5,Y5,Y5,Y5,Y5,Y5,Y5,Y5,Y5,Y5,Z5,Z5,Z5,Z5,Z5,Z5,Z5,Z5,Z5,Z5,Z5,Z5] rfl rfl (any_of HT_.out (by kernel_rfl)) (fun _ _ _ h => h) (Or.inl ⟨by rfl,?_⟩) ?_ ?_;rotate_left
          ·intro w';go_simp;with_reducible rfl
          rotate_left
          ·simp only [Act.put,q15,q25,q35,i64_w,i32_w];rfl
          refine pure_ (i:=23) (N:=some 36) (v:=undef) (a':=?_) #[Y5,Y5,Y5,Y5,Y5,Y5,Y5,Y5,Y5,Y5,Y5,Y5,Y5,Y5,Y5,Y5,Y5,Y5,Y5,Y5,Y5,Y5,Y5,Y5,Z5,Z5,Z5,Z5,Z5,Z5,Z5,Z5,Z5,Z5,Z5] rfl rfl (any_of HT_.out (by kernel_rfl)) (fun _ _ _ h => h) (Or.inr ⟨by rfl,rfl⟩) ?_ ?_;rotate_left
          ·simp only [Act.put,q15,q25,q35,i64_w,i32_w];rfl
          refine pure_ (i:=24) (N:=some 37) (v:=undef) (a':=?_) #[Y5,Y5,Y5,Y5,Y5,Y5,Y5,Y5,Y5,Y5,Y5,Y5,Y5,Y5,Y5,Y5,Y5,Y5,Y5,Y5,Y5,Y5,Y5,Y5,Y5,Z5,Z5,Z5,Z5,Z5,Z5,Z5,Z5,Z5,Z5] rfl rfl (any_of HT_.out (by kernel_rfl)) (fun _ _ _ h => h) (Or.inr ⟨by rfl,rfl⟩) ?_ ?_;rotate_left
          ·simp only [Act.put,q15,q25,q35,i64_w,i32_w];rfl
          refine pure_ (i:=25) (N:=some 38) (v:=undef) (a':=?_) #[Y5,Y5,Y5,Y5,Y5,Y5,Y5,Y5,Y5,Y5,Y5,Y5,Y5,Y5,Y5,Y5,Y5,Y5,Y5,Y5,Y5,Y5,Y5,Y5,Y5,Y5,Z5,Z5,Z5,Z5,Z5,Z5,Z5,Z5,Z5] rfl rfl (any_of HT_.out (by kernel_rfl)) (fun _ _ _ h => h) (Or.inr ⟨by rfl,rfl⟩) ?_ ?_;rotate_left
          ·simp only [Act.put,q15,q25,q35,i64_w,i32_w];rfl
          refine pure_ (i:=26) (N:=some 39) (v:=undef) (a':=?_) #[Y5,Y5,Y5,Y5,Y5,Y5,Y5,Y5,Y5,Y5,Y5,Y5,Y5,Y5,Y5,Y5,Y5,Y5,Y5,Y5,Y5,Y5,Y5,Y5,Y5,Y5,Y5,Z5,Z5,Z5,Z5,Z5,Z5,Z5,Z5] rfl rfl (any_of HT_.out (by kernel_rfl)) (fun _ _ _ h => h) (Or.inr ⟨by rfl,rfl⟩) ?_ ?_;rotate_left
          ·simp only [Act.put,q15,q25,q35,i64_w,i32_w];rfl
          refine pure_ (i:=27) (N:=some 40) (v:=undef) (a':=?_) #[Y5,Y5,Y5,Y5,Y5,Y5,Y5,Y5,Y5,Y5,Y5,Y5,Y5,Y5,Y5,Y5,Y5,Y5,Y5,Y5,Y5,Y5,Y5,Y5,Y5,Y5,Y5,Y5,Z5,Z5,Z5,Z5,Z5,Z5,Z5] rfl rfl (any_of HT_.out (by kernel_rfl)) (fun _ _ _ h => h) (Or.inr ⟨by rfl,rfl⟩) ?_ ?_;rotate_left
          ·simp only [Act.put,q15,q25,q35,i64_w,i32_w];rfl
          refine pure_ (i:=28) (N:=some 41) (v:=undef) (a':=?_) #[Y5,Y5,Y5,Y5,Y5,Y5,Y5,Y5,Y5,Y5,Y5,Y5,Y5,Y5,Y5,Y5,Y5,Y5,Y5,Y5,Y5,Y5,Y5,Y5,Y5,Y5,Y5,Y5,Y5,Z5,Z5,Z5,Z5,Z5,Z5] rfl rfl (any_of HT_.out (by kernel_rfl)) (fun _ _ _ h => h) (Or.inr ⟨by rfl,rfl⟩) ?_ ?_;rotate_left
          ·simp only [Act.put,q15,q25,q35,i64_w,i32_w];rfl
          refine pure_ (i:=29) (N:=some 42) (v:=undef) (a':=?_) #[Y5,Y5,Y5,Y5,Y5,Y5,Y5,Y5,Y5,Y5,Y5,Y5,Y5,Y5,Y5,Y5,Y5,Y5,Y5,Y5,Y5,Y5,Y5,Y5,Y5,Y5,Y5,Y5,Y5,Y5,Z5,Z5,Z5,Z5,Z5] rfl rfl (any_of HT_.out (by kernel_rfl)) (fun _ _ _ h => h) (Or.inr ⟨by rfl,rfl⟩) ?_ ?_;rotate_left
          ·simp only [Act.put,q15,q25,q35,i64_w,i32_w];rfl
          refine pure_ (i:=30) (N:=some 43) (v:=undef) (a':=?_) #[Y5,Y5,Y5,Y5,Y5,Y5,Y5,Y5,Y5,Y5,Y5,Y5,Y5,Y5,Y5,Y5,Y5,Y5,Y5,Y5,Y5,Y5,Y5,Y5,Y5,Y5,Y5,Y5,Y5,Y5,Y5,Z5,Z5,Z5,Z5] rfl rfl (any_of HT_.out (by kernel_rfl)) (fun _ _ _ h => h) (Or.inr ⟨by rfl,rfl⟩) ?_ ?_;rotate_left
          ·simp only [Act.put,q15,q25,q35,i64_w,i32_w];rfl
          refine pure_ (i:=31) (N:=some 44) (v:=undef) (a':=?_) #[Y5,Y5,Y5,Y5,Y5,Y5,Y5,Y5,Y5,Y5,Y5,Y5,Y5,Y5,Y5,Y5,Y5,Y5,Y5,Y5,Y5,Y5,Y5,Y5,Y5,Y5,Y5,Y5,Y5,Y5,Y5,Y5,Z5,Z5,Z5] rfl rfl (any_of HT_.out (by kernel_rfl)) (fun _ _ _ h => h) (Or.inr ⟨by rfl,rfl⟩) ?_ ?_;rotate_left
          ·simp only [Act.put,q15,q25,q35,i64_w,i32_w];rfl
          refine pure_ (i:=32) (N:=some 45) (v:=undef) (a':=?_) #[Y5,Y5,Y5,Y5,Y5,Y5,Y5,Y5,Y5,Y5,Y5,Y5,Y5,Y5,Y5,Y5,Y5,Y5,Y5,Y5,Y5,Y5,Y5,Y5,Y5,Y5,Y5,Y5,Y5,Y5,Y5,Y5,Y5,Z5,Z5] rfl rfl (any_of HT_.out (by kernel_rfl)) (fun _ _ _ h => h) (Or.inr ⟨by rfl,rfl⟩) ?_ ?_;rotate_left
          ·simp only [Act.put,q15,q25,q35,i64_w,i32_w];rfl
          refine pure_ (i:=33) (N:=some 46) (v:=?_) (a':=?_) #[Y5,Y5,Y5,Y5,Y5,Y5,Y5,Y5,Y5,Y5,Y5,Y5,Y5,Y5,Y5,Y5,Y5,Y5,Y5,Y5,Y5,Y5,Y5,Y5,Y5,Y5,Y5,Y5,Y5,Y5,Y5,Y5,Y5,Y5,Z5] rfl rfl (any_of HT_.out (by kernel_rfl)) (fun _ _ _ h => h) (Or.inl ⟨by rfl,?_⟩) ?_ ?_;rotate_left
          ·intro w';go_simp;with_reducible rfl
          rotate_left
          ·simp only [Act.put,q15,q25,q35,i64_w,i32_w];rfl
          refine pure_ (i:=34) (N:=some 47) (v:=?_) (a':=?_) #[Y5,Y5,Y5,Y5,Y5,Y5,Y5,Y5,Y5,Y5,Y5,Y5,Y5,Y5,Y5,Y5,Y5,Y5,Y5,Y5,Y5,Y5,Y5,Y5,Y5,Y5,Y5,Y5,Y5,Y5,Y5,Y5,Y5,Y5,Y5] rfl rfl (any_of HT_.out (by kernel_rfl)) (fun _ _ _ h => h) (Or.inl ⟨by rfl,?_⟩) ?_ ?_;rotate_left
          ·intro w';go_simp;with_reducible rfl
          rotate_left
          ·simp only [Act.put,q15,q25,q35,i64_w,i32_w];rfl
          refine done_ (done_of HT_.out (by kernel_rfl)) ?_
          try go_wp2
          go_roundg k1
          case measure => have:=HK1.out;omega
          case rel => exact ⟨(wrap64 (x8_1 + 1)),(by first | rfl | (simp;done) | (simp [*];done)),H',⟨by have:=HK1.out;omega⟩,⟨by (with_reducible repeat (first | refine blk_drewN ?_ _ | refine blk_drew ?_ | refine blk_alloc ?_ _));exact BK167.out⟩,⟨by repeat (first | (with_reducible first | exact HB.out | apply below_alloc | apply pw_below_drewN | apply below_drew1 | refine below_set ?_ GE167.out | refine below_set ?_ GE169.out) | exact HB.out)⟩⟩
      ·replace c8:=Bool.eq_false_iff.mpr c8
       subst c8
       have H1 : (some false) = some r:=by rw [if_neg (show ¬ (false = true) by decide)] at H;exact H
       clear H
       have H:=H1
       clear H1
       obtain rfl:=Option.some.inj H
       have p168 : 0 ≤ (x8_1 : Int):=of_decide_eq_true (by first | (with_reducible assumption) | assumption)
       have q168 : x8_1 < (l0_1.length : Int):=of_decide_eq_true (by first | (with_reducible assumption) | assumption)
       obtain ⟨ad168,e168,hx168_0,hx168_1,hx168_2⟩:=at_T86 HR0_1.out x8_1 p168 q168
       cases e168
       replace hx168_0:=(HB.out.cell (World.block_lt_of_cell? w _ hx168_0)).trans hx168_0
       replace hx168_1:=(HB.out.cell (World.block_lt_of_cell? w _ hx168_1)).trans hx168_1
       replace hx168_2:=(HB.out.cell (World.block_lt_of_cell? w _ hx168_2)).trans hx168_2
       replace p168:=eq_true p168
       replace q168:=eq_true q168
       try go_wp2_with (first | ((with_reducible refine gate_dst (N:=4) rfl ?_);(try (refine gate_guard (by rfl) ?_;dsimp only));refine box_event ?hg (N:=4) ?hd (cs:=#[.string (⟨#[]⟩ : ByteArray),.string (⟨#[]⟩ : ByteArray),.bool false]) (t:=86) ?hr ?_;(case hd => rfl);(case hg => rfl);(case hr => first | (go_simp;done) | (go_simp;rfl));intro gb169 hg w63 hbox hb;have n0_:=Aside0.mk (blk_below (g:=gb167) (o:=.cells #[.int .i64 a0_0,.slice (some ad168) l0_1.length c0_1] 47 (0,0)) (by (with_reducible repeat (first | refine blk_drewN ?_ _ | refine blk_drew ?_ | refine blk_alloc ?_ _));exact BK167.out) hb);have n1_:=Aside0.mk (below_step (by repeat (first | (with_reducible first | exact HB.out | apply below_alloc | apply pw_below_drewN | apply below_drew1 | refine below_set ?_ GE167.out) | exact HB.out)) hb);have n2_:=Aside0.mk (hbox);have n3_:=Aside0.mk ((by rw [hg];exact (below_size (by repeat (first | (with_reducible first | exact HB.out | apply below_alloc | apply pw_below_drewN | apply below_drew1 | refine below_set ?_ GE167.out) | exact HB.out))) : w.heap.size ≤ gb169));have n4_:=Aside0.mk ((by rw [hg];exact (below_size (by repeat (first | (with_reducible first | exact HB.out | apply below_alloc | apply pw_below_drewN | apply below_drew1 | refine below_set ?_ GE167.out) | exact HB.out))) : w.heap.size ≤ gb169));have n5_:=Aside0.mk ((by rw [hg];exact Nat.ne_of_lt (blk_lt (g:=gb167) (o:=.cells #[.int .i64 a0_0,.slice (some ad168) l0_1.length c0_1] 47 (0,0)) (by (with_reducible repeat (first | refine blk_drewN ?_ _ | refine blk_drew ?_ | refine blk_alloc ?_ _));exact BK167.out)) : gb167 ≠ gb169));have n6_:=Aside0.mk ((by rw [hg];exact Nat.ne_of_gt (blk_lt (g:=gb167) (o:=.cells #[.int .i64 a0_0,.slice (some ad168) l0_1.length c0_1] 47 (0,0)) (by (with_reducible repeat (first | refine blk_drewN ?_ _ | refine blk_drew ?_ | refine blk_alloc ?_ _));exact BK167.out)) : gb169 ≠ gb167));clear BK167;clear HB;have BK167:=n0_;have HB:=n1_;have BK169:=n2_;have GW169:=n3_;have GE169:=n4_;have NB167_169:=n5_;have NB169_167:=n6_;clear n0_ n1_ n2_ n3_ n4_ n5_ n6_;clear hb hbox hg;have hnb64:=NB169_167.out;have hnc64:=NB167_169.out;have hcz65_0 : w63.cell? ⟨gb169,0,none⟩ = some (.string (⟨#[]⟩ : ByteArray)):=(blk_cell BK169.out 0).trans rfl;have hcz65_1 : w63.cell? ⟨gb169,1,none⟩ = some (.string (⟨#[]⟩ : ByteArray)):=(blk_cell BK169.out 1).trans rfl;have hcz65_2 : w63.cell? ⟨gb169,2,none⟩ = some (.bool false):=(blk_cell BK169.out 2).trans rfl;have hfz65_0:=blk_frozen BK169.out 0;have hfz65_1:=blk_frozen BK169.out 1;have hfz65_2:=blk_frozen BK169.out 2))
       have n0_ : Aside0 ((((w63.setCell ⟨gb169,0,none⟩ (.string ((rd_T86 l0_1 x8_1).f0))).setCell ⟨gb169,1,none⟩ (.string ((rd_T86 l0_1 x8_1).f1))).setCell ⟨gb169,2,none⟩ (.bool ((rd_T86 l0_1 x8_1).f2))).heap[gb167]? = some (.cells #[.int .i64 a0_0,.slice (some ad168) l0_1.length c0_1] 47 (0,0))):=⟨by (with_reducible repeat (first | refine blk_drewN ?_ _ | refine blk_drew ?_ | refine blk_alloc ?_ _));refine blk_far ?_ NB167_169.out _;(with_reducible repeat (first | refine blk_drewN ?_ _ | refine blk_drew ?_ | refine blk_alloc ?_ _));refine blk_far ?_ NB167_169.out _;(with_reducible repeat (first | refine blk_drewN ?_ _ | refine blk_drew ?_ | refine blk_alloc ?_ _));refine blk_far ?_ NB167_169.out _;(with_reducible repeat (first | refine blk_drewN ?_ _ | refine blk_drew ?_ | refine blk_alloc ?_ _));exact BK167.out⟩
       have n1_ : Aside0 ((((w63.setCell ⟨gb169,0,none⟩ (.string ((rd_T86 l0_1 x8_1).f0))).setCell ⟨gb169,1,none⟩ (.string ((rd_T86 l0_1 x8_1).f1))).setCell ⟨gb169,2,none⟩ (.bool ((rd_T86 l0_1 x8_1).f2))).heap[gb169]? = some (.cells #[.string ((rd_T86 l0_1 x8_1).f0),.string ((rd_T86 l0_1 x8_1).f1),.bool ((rd_T86 l0_1 x8_1).f2)] 86 (0,0))):=⟨by (with_reducible repeat (first | refine blk_drewN ?_ _ | refine blk_drew ?_ | refine blk_alloc ?_ _));refine blk_put (cs:=#[.string ((rd_T86 l0_1 x8_1).f0),.string ((rd_T86 l0_1 x8_1).f1),.bool false]) ?_ 2 _ rfl;(with_reducible repeat (first | refine blk_drewN ?_ _ | refine blk_drew ?_ | refine blk_alloc ?_ _));refine blk_put (cs:=#[.string ((rd_T86 l0_1 x8_1).f0),.string (⟨#[]⟩ : ByteArray),.bool false]) ?_ 1 _ rfl;(with_reducible repeat (first | refine blk_drewN ?_ _ | refine blk_drew ?_ | refine blk_alloc ?_ _));refine blk_put (cs:=#[.string (⟨#[]⟩ : ByteArray),.string (⟨#[]⟩ : ByteArray),.bool false]) ?_ 0 _ rfl;(with_reducible repeat (first | refine blk_drewN ?_ _ | refine blk_drew ?_ | refine blk_alloc ?_ _));exact BK169.out⟩
       have n2_ : Aside0 (Below w.heap.size w (((w63.setCell ⟨gb169,0,none⟩ (.string ((rd_T86 l0_1 x8_1).f0))).setCell ⟨gb169,1,none⟩ (.string ((rd_T86 l0_1 x8_1).f1))).setCell ⟨gb169,2,none⟩ (.bool ((rd_T86 l0_1 x8_1).f2)))):=⟨by repeat (first | (with_reducible first | exact HB.out | apply below_alloc | apply pw_below_drewN | apply below_drew1 | refine below_set ?_ GE167.out | refine below_set ?_ GE169.out) | exact HB.out)⟩
       (try clear BK167)
       (try clear BK169)
       (try clear HB)
       generalize (((w63.setCell ⟨gb169,0,none⟩ (.string ((rd_T86 l0_1 x8_1).f0))).setCell ⟨gb169,1,none⟩ (.string ((rd_T86 l0_1 x8_1).f1))).setCell ⟨gb169,2,none⟩ (.bool ((rd_T86 l0_1 x8_1).f2))) = w66 at n0_ n1_ n2_ ⊢
       have BK167:=n0_
       have BK169:=n1_
       have HB:=n2_
       clear n0_ n1_ n2_
       have n0_:=Aside0.mk (blk_drew BK167.out)
       have n1_:=Aside0.mk (blk_drew BK169.out)
       have n2_:=Aside0.mk (below_drew1 HB.out)
       clear BK167
       clear BK169
       clear HB
       have BK167:=n0_
       have BK169:=n1_
       have HB:=n2_
       clear n0_ n1_ n2_
       refine start_ (n:=35) (S:=fun w' => w'.cell? ⟨gb169,0,none⟩ = some (.string ((rd_T86 l0_1 x8_1).f0)) ∧ w'.cell? ⟨gb169,1,none⟩ = some (.string ((rd_T86 l0_1 x8_1).f1)) ∧ w'.cell? ⟨gb169,2,none⟩ = some (.bool ((rd_T86 l0_1 x8_1).f2))) (ds:=[]) #[Z5,Z5,Z5,Z5,Z5,Z5,Z5,Z5,Z5,Z5,Z5,Z5,Z5,Z5,Z5,Z5,Z5,Z5,Z5,Z5,Z5,Z5,Z5,Z5,Z5,Z5,Z5,Z5,Z5,Z5,Z5,Z5,Z5,Z5,Z5] (by kernel_rfl) rfl rfl ⟨(blk_cell BK169.out 0).trans rfl,(blk_cell BK169.out 1).trans rfl,(blk_cell BK169.out 2).trans rfl⟩ (fun hHeld => ?_);refine with_tabW impl_BatchOk.tab4 impl_BatchOk.bits4 (fun HT_ HW_ => ?_)
       generalize w66.drew = w67 at BK167 BK169 HB hHeld ⊢
       refine pure_ (i:=0) (N:=some 13) (v:=?_) (a':=?_) #[Y5,Z5,Z5,Z5,Z5,Z5,Z5,Z5,Z5,Z5,Z5,Z5,Z5,Z5,Z5,Z5,Z5,Z5,Z5,Z5,Z5,Z5,Z5,Z5,Z5,Z5,Z5,Z5,Z5,Z5,Z5,Z5,Z5,Z5,Z5] rfl rfl (any_of HT_.out (by kernel_rfl)) (fun _ _ _ h => h) (Or.inl ⟨by rfl,?_⟩) ?_ ?_;rotate_left
       ·intro w';go_simp;with_reducible rfl
       rotate_left
       ·simp only [Act.put,q15,q25,q35,i64_w,i32_w];rfl
       refine take_ (i:=1) (N:=some 14) (v:=?_) (a':=?_) #[Y5,Y5,Z5,Z5,Z5,Z5,Z5,Z5,Z5,Z5,Z5,Z5,Z5,Z5,Z5,Z5,Z5,Z5,Z5,Z5,Z5,Z5,Z5,Z5,Z5,Z5,Z5,Z5,Z5,Z5,Z5,Z5,Z5,Z5,Z5] rfl rfl (take_ofW HT_.out HW_.out (by kernel_rfl)) (fun _ _ _ h => h) (Or.inl ⟨by rfl,?_⟩) hHeld ?_ ?_;rotate_left
       ·rintro w' ⟨s0,s1,s2⟩
        go_simp
        with_reducible rfl
       rotate_left
       ·simp only [Act.put,q15,q25,q35,i64_w,i32_w];rfl
       refine one_ (i:=2) (N:=some 15) #[Y5,Y5,Y5,Z5,Z5,Z5,Z5,Z5,Z5,Z5,Z5,Z5,Z5,Z5,Z5,Z5,Z5,Z5,Z5,Z5,Z5,Z5,Z5,Z5,Z5,Z5,Z5,Z5,Z5,Z5,Z5,Z5,Z5,Z5,Z5] rfl rfl (one_of HT_.out (by kernel_rfl)) (by decide) (fun K hK => ?_)
       refine goes_ Try.func45 (by kernel_rfl) rfl #[.string ((rd_T86 l0_1 x8_1).f0)] (by rfl) rfl rfl (by (try simp only [List.map_toArray,List.map_cons,List.map_nil]);first | done | rfl | (simp only [List.length_drop,List.length_take];rfl)) ?_
       with_reducible refine (impl_keyOk.calls ((rd_T86 l0_1 x8_1).f0) false _ A7.out).mono ?_
       rintro e w' ⟨rfl,⟨nd,rfl⟩⟩
       refine ⟨_,rfl,?_⟩
       refine hK.out _ _ ⟨(blk_cell BK169.out 0).trans rfl,(blk_cell BK169.out 1).trans rfl,(blk_cell BK169.out 2).trans rfl⟩ (fun hHeld => ?_)
       clear hK K
       refine norm_ (a':=?_) ?_ ?_;rotate_left
       ·show Act.put _ (some 15) _ = _;simp only [Act.put,q15,q25,q35,i64_w,i32_w];rfl
       refine pure_ (i:=3) (N:=some 16) (v:=?_) (a':=?_) #[Y5,Y5,Y5,Y5,Z5,Z5,Z5,Z5,Z5,Z5,Z5,Z5,Z5,Z5,Z5,Z5,Z5,Z5,Z5,Z5,Z5,Z5,Z5,Z5,Z5,Z5,Z5,Z5,Z5,Z5,Z5,Z5,Z5,Z5,Z5] rfl rfl (any_of HT_.out (by kernel_rfl)) (fun _ _ _ h => h) (Or.inl ⟨by rfl,?_⟩) ?_ ?_;rotate_left
       ·intro w';go_simp;with_reducible rfl
       rotate_left
       ·simp only [Act.put,q15,q25,q35,i64_w,i32_w];rfl
       refine pure_ (i:=4) (N:=some 17) (v:=?_) (a':=?_) #[Y5,Y5,Y5,Y5,Y5,Z5,Z5,Z5,Z5,Z5,Z5,Z5,Z5,Z5,Z5,Z5,Z5,Z5,Z5,Z5,Z5,Z5,Z5,Z5,Z5,Z5,Z5,Z5,Z5,Z5,Z5,Z5,Z5,Z5,Z5] rfl rfl (any_of HT_.out (by kernel_rfl)) (fun _ _ _ h => h) (Or.inl ⟨by rfl,?_⟩) ?_ ?_;rotate_left
       ·intro w';go_simp;with_reducible rfl
       rotate_left
       ·simp only [Act.put,q15,q25,q35,i64_w,i32_w];rfl
       refine pure_ (i:=5) (N:=some 18) (v:=undef) (a':=?_) #[Y5,Y5,Y5,Y5,Y5,Y5,Z5,Z5,Z5,Z5,Z5,Z5,Z5,Z5,Z5,Z5,Z5,Z5,Z5,Z5,Z5,Z5,Z5,Z5,Z5,Z5,Z5,Z5,Z5,Z5,Z5,Z5,Z5,Z5,Z5] rfl rfl (any_of HT_.out (by kernel_rfl)) (fun _ _ _ h => h) (Or.inr ⟨by rfl,rfl⟩) ?_ ?_;rotate_left
       ·simp only [Act.put,q15,q25,q35,i64_w,i32_w];rfl
       refine pure_ (i:=6) (N:=some 19) (v:=undef) (a':=?_) #[Y5,Y5,Y5,Y5,Y5,Y5,Y5,Z5,Z5,Z5,Z5,Z5,Z5,Z5,Z5,Z5,Z5,Z5,Z5,Z5,Z5,Z5,Z5,Z5,Z5,Z5,Z5,Z5,Z5,Z5,Z5,Z5,Z5,Z5,Z5] rfl rfl (any_of HT_.out (by kernel_rfl)) (fun _ _ _ h => h) (Or.inr ⟨by rfl,rfl⟩) ?_ ?_;rotate_left
       ·simp only [Act.put,q15,q25,q35,i64_w,i32_w];rfl
       refine pure_ (i:=7) (N:=some 20) (v:=undef) (a':=?_) #[Y5,Y5,Y5,Y5,Y5,Y5,Y5,Y5,Z5,Z5,Z5,Z5,Z5,Z5,Z5,Z5,Z5,Z5,Z5,Z5,Z5,Z5,Z5,Z5,Z5,Z5,Z5,Z5,Z5,Z5,Z5,Z5,Z5,Z5,Z5] rfl rfl (any_of HT_.out (by kernel_rfl)) (fun _ _ _ h => h) (Or.inr ⟨by rfl,rfl⟩) ?_ ?_;rotate_left
       ·simp only [Act.put,q15,q25,q35,i64_w,i32_w];rfl
       refine pure_ (i:=8) (N:=some 21) (v:=undef) (a':=?_) #[Y5,Y5,Y5,Y5,Y5,Y5,Y5,Y5,Y5,Z5,Z5,Z5,Z5,Z5,Z5,Z5,Z5,Z5,Z5,Z5,Z5,Z5,Z5,Z5,Z5,Z5,Z5,Z5,Z5,Z5,Z5,Z5,Z5,Z5,Z5] rfl rfl (any_of HT_.out (by kernel_rfl)) (fun _ _ _ h => h) (Or.inr ⟨by rfl,rfl⟩) ?_ ?_;rotate_left
       ·simp only [Act.put,q15,q25,q35,i64_w,i32_w];rfl
       refine pure_ (i:=9) (N:=some 22) (v:=?_) (a':=?_) #[Y5,Y5,Y5,Y5,Y5,Y5,Y5,Y5,Y5,Y5,Z5,Z5,Z5,Z5,Z5,Z5,Z5,Z5,Z5,Z5,Z5,Z5,Z5,Z5,Z5,Z5,Z5,Z5,Z5,Z5,Z5,Z5,Z5,Z5,Z5] rfl rfl (any_of HT_.out (by kernel_rfl)) (fun _ _ _ h => h) (Or.inl ⟨by rfl,?_⟩) ?_ ?_;rotate_left
       ·intro w';go_simp;with_reducible rfl
       rotate_left
       ·simp only [Act.put,q15,q25,q35,i64_w,i32_w];rfl
       refine pure_ (i:=10) (N:=some 23) (v:=?_) (a':=?_) #[Y5,Y5,Y5,Y5,Y5,Y5,Y5,Y5,Y5,Y5,Y5,Z5,Z5,Z5,Z5,Z5,Z5,Z5,Z5,Z5,Z5,Z5,Z5,Z5,Z5,Z5,Z5,Z5,Z5,Z5,Z5,Z5,Z5,Z5,Z5] rfl rfl (any_of HT_.out (by kernel_rfl)) (fun _ _ _ h => h) (Or.inl ⟨by rfl,?_⟩) ?_ ?_;rotate_left
       ·intro w';go_simp;with_reducible rfl
       rotate_left
       ·simp only [Act.put,q15,q25,q35,i64_w,i32_w];rfl
       refine pure_ (i:=11) (N:=some 24) (v:=undef) (a':=?_) #[Y5,Y5,Y5,Y5,Y5,Y5,Y5,Y5,Y5,Y5,Y5,Y5,Z5,Z5,Z5,Z5,Z5,Z5,Z5,Z5,Z5,Z5,Z5,Z5,Z5,Z5,Z5,Z5,Z5,Z5,Z5,Z5,Z5,Z5,Z5] rfl rfl (any_of HT_.out (by kernel_rfl)) (fun _ _ _ h => h) (Or.inr ⟨by rfl,rfl⟩) ?_ ?_;rotate_left
       ·simp only [Act.put,q15,q25,q35,i64_w,i32_w];rfl
       refine pure_ (i:=12) (N:=some 25) (v:=undef) (a':=?_) #[Y5,Y5,Y5,Y5,Y5,Y5,Y5,Y5,Y5,Y5,Y5,Y5,Y5,Z5,Z5,Z5,Z5,Z5,Z5,Z5,Z5,Z5,Z5,Z5,Z5,Z5,Z5,Z5,Z5,Z5,Z5,Z5,Z5,Z5,Z5] rfl rfl (any_of HT_.out (by kernel_rfl)) (fun _ _ _ h => h) (Or.inr ⟨by rfl,rfl⟩) ?_ ?_;rotate_left
       ·simp only [Act.put,q15,q25,q35,i64_w,i32_w];rfl
       refine pure_ (i:=13) (N:=some 26) (v:=undef) (a':=?_) #[Y5,Y5,Y5,Y5,Y5,Y5,Y5,Y5,Y5,Y5,Y5,Y5,Y5,Y5,Z5,Z5,Z5,Z5,Z5,Z5,Z5,Z5,Z5,Z5,Z5,Z5,Z5,Z5,Z5,Z5,Z5,Z5,Z5,Z5,Z5] rfl rfl (any_of HT_.out (by kernel_rfl)) (fun _ _ _ h => h) (Or.inr ⟨by rfl,rfl⟩) ?_ ?_;rotate_left
       ·simp only [Act.put,q15,q25,q35,i64_w,i32_w];rfl
       refine pure_ (i:=14) (N:=some 27) (v:=undef) (a':=?_) #[Y5,Y5,Y5,Y5,Y5,Y5,Y5,Y5,Y5,Y5,Y5,Y5,Y5,Y5,Y5,Z5,Z5,Z5,Z5,Z5,Z5,Z5,Z5,Z5,Z5,Z5,Z5,Z5,Z5,Z5,Z5,Z5,Z5,Z5,Z5] rfl rfl (any_of HT_.out (by kernel_rfl)) (fun _ _ _ h => h) (Or.inr ⟨by rfl,rfl⟩) ?_ ?_;rotate_left
       ·simp only [Act.put,q15,q25,q35,i64_w,i32_w];rfl
       refine pure_ (i:=15) (N:=some 28) (v:=undef) (a':=?_) #[Y5,Y5,Y5,Y5,Y5,Y5,Y5,Y5,Y5,Y5,Y5,Y5,Y5,Y5,Y5,Y5,Z5,Z5,Z5,Z5,Z5,Z5,Z5,Z5,Z5,Z5,Z5,Z5,Z5,Z5,Z5,Z5,Z5,Z5,Z5] rfl rfl (any_of HT_.out (by kernel_rfl)) (fun _ _ _ h => h) (Or.inr ⟨by rfl,rfl⟩) ?_ ?_;rotate_left
       ·simp only [Act.put,q15,q25,q35,i64_w,i32_w];rfl
       refine pure_ (i:=16) (N:=some 29) (v:=undef) (a':=?_) #[Y5,Y5,Y5,Y5,Y5,Y5,Y5,Y5,Y5,Y5,Y5,Y5,Y5,Y5,Y5,Y5,Y5,Z5,Z5,Z5,Z5,Z5,Z5,Z5,Z5,Z5,Z5,Z5,Z5,Z5,Z5,Z5,Z5,Z5,Z5] rfl rfl (any_of HT_.out (by kernel_rfl)) (fun _ _ _ h => h) (Or.inr ⟨by rfl,rfl⟩) ?_ ?_;rotate_left
       ·simp only [Act.put,q15,q25,q35,i64_w,i32_w];rfl
       refine pure_ (i:=17) (N:=some 30) (v:=undef) (a':=?_) #[Y5,Y5,Y5,Y5,Y5,Y5,Y5,Y5,Y5,Y5,Y5,Y5,Y5,Y5,Y5,Y5,Y5,Y5,Z5,Z5,Z5,Z5,Z5,Z5,Z5,Z5,Z5,Z5,Z5,Z5,Z5,Z5,Z5,Z5,Z5] rfl rfl (any_of HT_.out (by kernel_rfl)) (fun _ _ _ h => h) (Or.inr ⟨by rfl,rfl⟩) ?_ ?_;rotate_left
       ·simp only [Act.put,q15,q25,q35,i64_w,i32_w];rfl
       refine pure_ (i:=18) (N:=some 31) (v:=?_) (a':=?_) #[Y5,Y5,Y5,Y5,Y5,Y5,Y5,Y5,Y5,Y5,Y5,Y5,Y5,Y5,Y5,Y5,Y5,Y5,Y5,Z5,Z5,Z5,Z5,Z5,Z5,Z5,Z5,Z5,Z5,Z5,Z5,Z5,Z5,Z5,Z5] rfl rfl (any_of HT_.out (by kernel_rfl)) (fun _ _ _ h => h) (Or.inl ⟨by rfl,?_⟩) ?_ ?_;rotate_left
       ·intro w';go_simp;with_reducible rfl
       rotate_left
       ·simp only [Act.put,q15,q25,q35,i64_w,i32_w];rfl
       refine pure_ (i:=19) (N:=some 32) (v:=?_) (a':=?_) #[Y5,Y5,Y5,Y5,Y5,Y5,Y5,Y5,Y5,Y5,Y5,Y5,Y5,Y5,Y5,Y5,Y5,Y5,Y5,Y5,Z5,Z5,Z5,Z5,Z5,Z5,Z5,Z5,Z5,Z5,Z5,Z5,Z5,Z5,Z5] rfl rfl (any_of HT_.out (by kernel_rfl)) (fun _ _ _ h => h) (Or.inl ⟨by rfl,?_⟩) ?_ ?_;rotate_left
       ·intro w';go_simp;with_reducible rfl
       rotate_left
       ·simp only [Act.put,q15,q25,q35,i64_w,i32_w];rfl
       refine pure_ (i:=20) (N:=some 33) (v:=undef) (a':=?_) #[Y5,Y5,Y5,Y5,Y5,Y5,Y5,Y5,Y5,Y5,Y5,Y5,Y5,Y5,Y5,Y5,Y5,Y5,Y5,Y5,Y5,Z5,Z5,Z5,Z5,Z5,Z5,Z5,Z5,Z5,Z5,Z5,Z5,Z5,Z5] rfl rfl (any_of HT_.out (by kernel_rfl)) (fun _ _ _ h => h) (Or.inr ⟨by rfl,rfl⟩) ?_ ?_;rotate_left
       ·simp only [Act.put,q15,q25,q35,i64_w,i32_w];rfl
       refine pure_ (i:=21) (N:=some 34) (v:=undef) (a':=?_) #[Y5,Y5,Y5,Y5,Y5,Y5,Y5,Y5,Y5,Y5,Y5,Y5,Y5,Y5,Y5,Y5,Y5,Y5,Y5,Y5,Y5,Y5,Z5,Z5,Z5,Z5,Z5,Z5,Z5,Z5,Z5,Z5,Z5,Z5,Z5] rfl rfl (any_of HT_.out (by kernel_rfl)) (fun _ _ _ h => h) (Or.inr ⟨by rfl,rfl⟩) ?_ ?_;rotate_left
       ·simp only [Act.put,q15,q25,q35,i64_w,i32_w];rfl
       refine pure_ (i:=22) (N:=some 35) (v:=undef) (a':=?_) #[Y5,Y5,Y5,Y5,Y5,Y5,Y5,Y5,Y5,Y5,Y5,Y5,Y5,Y5,Y5,Y5,Y5,Y5,Y5,Y5,Y5,Y5,Y5,Z5,Z5,Z5,Z5,Z5,Z5,Z5,Z5,Z5,Z5,Z5,Z5] rfl rfl (any_of HT_.out (by kernel_rfl)) (fun _ _ _ h => h) (Or.inr ⟨by rfl,rfl⟩) ?_ ?_;rotate_left
       ·simp only [Act.put,q15,q25,q35,i64_w,i32_w];rfl
       refine pure_ (i:=23) (N:=some 36) (v:=undef) (a':=?_) #[Y5,Y5,Y5,Y5,Y5,Y5,Y5,Y5,Y5,Y5,Y5,Y5,Y5,Y5,Y5,Y5,Y5,Y5,Y5,Y5,Y5,Y5,Y5,Y5,Z5,Z5,Z5,Z5,Z5,Z5,Z5,Z5,Z5,Z5,Z5] rfl rfl (any_of HT_.out (by kernel_rfl)) (fun _ _ _ h => h) (Or.inr ⟨by rfl,rfl⟩) ?_ ?_;rotate_left
       ·simp only [Act.put,q15,q25,q35,i64_w,i32_w];rfl
       refine pure_ (i:=24) (N:=some 37) (v:=undef) (a':=?_) #[Y5,Y5,Y5,Y5,Y5,Y5,Y5,Y5,Y5,Y5,Y5,Y5,Y5,Y5,Y5,Y5,Y5,Y5,Y5,Y5,Y5,Y5,Y5,Y5,Y5,Z5,Z5,Z5,Z5,Z5,Z5,Z5,Z5,Z5,Z5] rfl rfl (any_of HT_.out (by kernel_rfl)) (fun _ _ _ h => h) (Or.inr ⟨by rfl,rfl⟩) ?_ ?_;rotate_left
       ·simp only [Act.put,q15,q25,q35,i64_w,i32_w];rfl
       refine pure_ (i:=25) (N:=some 38) (v:=undef) (a':=?_) #[Y5,Y5,Y5,Y5,Y5,Y5,Y5,Y5,Y5,Y5,Y5,Y5,Y5,Y5,Y5,Y5,Y5,Y5,Y5,Y5,Y5,Y5,Y5,Y5,Y5,Y5,Z5,Z5,Z5,Z5,Z5,Z5,Z5,Z5,Z5] rfl rfl (any_of HT_.out (by kernel_rfl)) (fun _ _ _ h => h) (Or.inr ⟨by rfl,rfl⟩) ?_ ?_;rotate_left
       ·simp only [Act.put,q15,q25,q35,i64_w,i32_w];rfl
       refine pure_ (i:=26) (N:=some 39) (v:=undef) (a':=?_) #[Y5,Y5,Y5,Y5,Y5,Y5,Y5,Y5,Y5,Y5,Y5,Y5,Y5,Y5,Y5,Y5,Y5,Y5,Y5,Y5,Y5,Y5,Y5,Y5,Y5,Y5,Y5,Z5,Z5,Z5,Z5,Z5,Z5,Z5,Z5] rfl rfl (any_of HT_.out (by kernel_rfl)) (fun _ _ _ h => h) (Or.inr ⟨by rfl,rfl⟩) ?_ ?_;rotate_left
       ·simp only [Act.put,q15,q25,q35,i64_w,i32_w];rfl
       refine pure_ (i:=27) (N:=some 40) (v:=undef) (a':=?_) #[Y5,Y5,Y5,Y5,Y5,Y5,Y5,Y5,Y5,Y5,Y5,Y5,Y5,Y5,Y5,Y5,Y5,Y5,Y5,Y5,Y5,Y5,Y5,Y5,Y5,Y5,Y5,Y5,Z5,Z5,Z5,Z5,Z5,Z5,Z5] rfl rfl (any_of HT_.out (by kernel_rfl)) (fun _ _ _ h => h) (Or.inr ⟨by rfl,rfl⟩) ?_ ?_;rotate_left
       ·simp only [Act.put,q15,q25,q35,i64_w,i32_w];rfl
       refine pure_ (i:=28) (N:=some 41) (v:=undef) (a':=?_) #[Y5,Y5,Y5,Y5,Y5,Y5,Y5,Y5,Y5,Y5,Y5,Y5,Y5,Y5,Y5,Y5,Y5,Y5,Y5,Y5,Y5,Y5,Y5,Y5,Y5,Y5,Y5,Y5,Y5,Z5,Z5,Z5,Z5,Z5,Z5] rfl rfl (any_of HT_.out (by kernel_rfl)) (fun _ _ _ h => h) (Or.inr ⟨by rfl,rfl⟩) ?_ ?_;rotate_left
       ·simp only [Act.put,q15,q25,q35,i64_w,i32_w];rfl
       refine pure_ (i:=29) (N:=some 42) (v:=undef) (a':=?_) #[Y5,Y5,Y5,Y5,Y5,Y5,Y5,Y5,Y5,Y5,Y5,Y5,Y5,Y5,Y5,Y5,Y5,Y5,Y5,Y5,Y5,Y5,Y5,Y5,Y5,Y5,Y5,Y5,Y5,Y5,Z5,Z5,Z5,Z5,Z5] rfl rfl (any_of HT_.out (by kernel_rfl)) (fun _ _ _ h => h) (Or.inr ⟨by rfl,rfl⟩) ?_ ?_;rotate_left
       ·simp only [Act.put,q15,q25,q35,i64_w,i32_w];rfl
       refine pure_ (i:=30) (N:=some 43) (v:=undef) (a':=?_) #[Y5,Y5,Y5,Y5,Y5,Y5,Y5,Y5,Y5,Y5,Y5,Y5,Y5,Y5,Y5,Y5,Y5,Y5,Y5,Y5,Y5,Y5,Y5,Y5,Y5,Y5,Y5,Y5,Y5,Y5,Y5,Z5,Z5,Z5,Z5] rfl rfl (any_of HT_.out (by kernel_rfl)) (fun _ _ _ h => h) (Or.inr ⟨by rfl,rfl⟩) ?_ ?_;rotate_left
       ·simp only [Act.put,q15,q25,q35,i64_w,i32_w];rfl
       refine pure_ (i:=31) (N:=some 44) (v:=undef) (a':=?_) #[Y5,Y5,Y5,Y5,Y5,Y5,Y5,Y5,Y5,Y5,Y5,Y5,Y5,Y5,Y5,Y5,Y5,Y5,Y5,Y5,Y5,Y5,Y5,Y5,Y5,Y5,Y5,Y5,Y5,Y5,Y5,Y5,Z5,Z5,Z5] rfl rfl (any_of HT_.out (by kernel_rfl)) (fun _ _ _ h => h) (Or.inr ⟨by rfl,rfl⟩) ?_ ?_;rotate_left
       ·simp only [Act.put,q15,q25,q35,i64_w,i32_w];rfl
       refine pure_ (i:=32) (N:=some 45) (v:=undef) (a':=?_) #[Y5,Y5,Y5,Y5,Y5,Y5,Y5,Y5,Y5,Y5,Y5,Y5,Y5,Y5,Y5,Y5,Y5,Y5,Y5,Y5,Y5,Y5,Y5,Y5,Y5,Y5,Y5,Y5,Y5,Y5,Y5,Y5,Y5,Z5,Z5] rfl rfl (any_of HT_.out (by kernel_rfl)) (fun _ _ _ h => h) (Or.inr ⟨by rfl,rfl⟩) ?_ ?_;rotate_left
       ·simp only [Act.put,q15,q25,q35,i64_w,i32_w];rfl
       refine pure_ (i:=33) (N:=some 46) (v:=undef) (a':=?_) #[Y5,Y5,Y5,Y5,Y5,Y5,Y5,Y5,Y5,Y5,Y5,Y5,Y5,Y5,Y5,Y5,Y5,Y5,Y5,Y5,Y5,Y5,Y5,Y5,Y5,Y5,Y5,Y5,Y5,Y5,Y5,Y5,Y5,Y5,Z5] rfl rfl (any_of HT_.out (by kernel_rfl)) (fun _ _ _ h => h) (Or.inr ⟨by rfl,rfl⟩) ?_ ?_;rotate_left
       ·simp only [Act.put,q15,q25,q35,i64_w,i32_w];rfl
       refine pure_ (i:=34) (N:=some 47) (v:=?_) (a':=?_) #[Y5,Y5,Y5,Y5,Y5,Y5,Y5,Y5,Y5,Y5,Y5,Y5,Y5,Y5,Y5,Y5,Y5,Y5,Y5,Y5,Y5,Y5,Y5,Y5,Y5,Y5,Y5,Y5,Y5,Y5,Y5,Y5,Y5,Y5,Y5] rfl rfl (any_of HT_.out (by kernel_rfl)) (fun _ _ _ h => h) (Or.inl ⟨by rfl,?_⟩) ?_ ?_;rotate_left
       ·intro w';go_simp;with_reducible rfl
       rotate_left
       ·simp only [Act.put,q15,q25,q35,i64_w,i32_w];rfl
       refine done_ (done_of HT_.out (by kernel_rfl)) ?_
       try go_wp2
       go_ret
       exact ⟨by first | rfl | (simp [errW_none,errW_some] <;> rfl) | (simp [*,errW_none,errW_some] <;> rfl),by repeat (first | (with_reducible first | exact HB.out | apply below_alloc | apply pw_below_drewN | apply below_drew1 | refine below_set ?_ GE167.out | refine below_set ?_ GE169.out) | exact HB.out)⟩
     ·rw [if_neg c6] at H
      exact absurd H (by simp)
    ·rw [if_neg c5] at H
     exact absurd H (by simp)
   ·rw [if_neg c4] at H
    have c4b0 : decide (x8_1 < (l0_1.length : Int)) = false:=decide_eq_false c4
    clear c4
    replace H:=Option.bind_eq_some_iff.mp H
    obtain ⟨t173,A680,H⟩:=H
    replace H : (if t173 = true then ((impl_within.f (l0_1.length : Int) 1 40).bind fun t174 => (some t174)) else (some false)) = some r:=H
    have A68:=Aside0.mk A680
    clear A680
    by_cases c69 : t173 = true
    ·subst c69
     have H1 : ((impl_within.f (l0_1.length : Int) 1 40).bind fun t174 => (some t174)) = some r:=by rw [if_pos rfl] at H;exact H
     clear H
     have H:=H1
     clear H1
     replace H:=Option.bind_eq_some_iff.mp H
     obtain ⟨t174,A700,H⟩:=H
     replace H : (some t174) = some r:=H
     have A70:=Aside0.mk A700
     clear A700
     obtain rfl:=Option.some.inj H
     have hcz71_0 : wr.cell? ⟨gb167,0,none⟩ = some (.int .i64 a0_0):=(blk_cell BK167.out 0).trans rfl
     have hcz71_1 : wr.cell? ⟨gb167,1,none⟩ = some (.slice A0_1 l0_1.length c0_1):=(blk_cell BK167.out 1).trans rfl
     have hfz71_0:=blk_frozen BK167.out 0
     have hfz71_1:=blk_frozen BK167.out 1
     go_wp2_with (first | ((with_reducible refine gate_callee (f:=46) rfl ?_);refine goesL_ (some 51) rfl rfl Try.func46 (by kernel_rfl) rfl #[.int .i64 a0_0,.int .i64 0,.int .i64 1000000000] rfl (by (try simp only [List.map_toArray,List.map_cons,List.map_nil]);first | done | rfl | (simp only [List.length_drop,List.length_take];rfl)) ?_;(with_reducible refine (impl_within.calls a0_0 0 1000000000 true _ A68.out).mono ?_);rintro e w' ⟨rfl,⟨nd,rfl⟩⟩;refine ⟨_,rfl,?_⟩) | (go_at_call 46;(with_reducible refine (impl_within.calls (l0_1.length : Int) 1 40 t174 _ A70.out).mono ?_);rintro e w' ⟨rfl,⟨nd,rfl⟩⟩))
     go_ret
     exact ⟨by first | rfl | (simp [errW_none,errW_some] <;> rfl) | (simp [*,errW_none,errW_some] <;> rfl),by repeat (first | (with_reducible first | exact HB.out | apply below_alloc | apply pw_below_drewN | apply below_drew1 | refine below_set ?_ GE167.out) | exact HB.out)⟩
    ·replace c69:=Bool.eq_false_iff.mpr c69
     subst c69
     have H1 : (some false) = some r:=by rw [if_neg (show ¬ (false = true) by decide)] at H;exact H
     clear H
     have H:=H1
     clear H1
     obtain rfl:=Option.some.inj H
     have hcz72_0 : wr.cell? ⟨gb167,0,none⟩ = some (.int .i64 a0_0):=(blk_cell BK167.out 0).trans rfl
     have hcz72_1 : wr.cell? ⟨gb167,1,none⟩ = some (.slice A0_1 l0_1.length c0_1):=(blk_cell BK167.out 1).trans rfl
     have hfz72_0:=blk_frozen BK167.out 0
     have hfz72_1:=blk_frozen BK167.out 1
     go_wp2_with (first | ((with_reducible refine gate_callee (f:=46) rfl ?_);refine goesL_ (some 51) rfl rfl Try.func46 (by kernel_rfl) rfl #[.int .i64 a0_0,.int .i64 0,.int .i64 1000000000] rfl (by (try simp only [List.map_toArray,List.map_cons,List.map_nil]);first | done | rfl | (simp only [List.length_drop,List.length_take];rfl)) ?_;(with_reducible refine (impl_within.calls a0_0 0 1000000000 false _ A68.out).mono ?_);rintro e w' ⟨rfl,⟨nd,rfl⟩⟩;refine ⟨_,rfl,?_⟩))
     go_ret
     exact ⟨by first | rfl | (simp [errW_none,errW_some] <;> rfl) | (simp [*,errW_none,errW_some] <;> rfl),by repeat (first | (with_reducible first | exact HB.out | apply below_alloc | apply pw_below_drewN | apply below_drew1 | refine below_set ?_ GE167.out) | exact HB.out)⟩

end Go.Proofs.Ytliemdoegicbhaa.PFnExactBatchText
