/- Walks of functions that the law FnExactDiffer reaches, turned by this session from a print of which a part did not build; what was changed is listed in wip/patches of the proofs' repo. -/
import Derived.Test.YtlekhcopddajbaaOFnExactDifferx0
import Derived.Test.YtlekhcopddajbaaOFnExactDifferx1
import Derived.Test.YtlekhcopddajbaaOFnExactDifferx2
namespace Go.Proofs.Ytlekhcopddajbaa.PFnExactDiffer
open Go.RowKit Go.Proofs.YtlekhcopddajbaaW.PrintWords Go.Proofs.YtlekhcopddajbaaW.PrintLast Go.Proofs.YtlekhcopddajbaaW.PrintMore
attribute [local go_sem] max2_int min2_int max_two min_two max_three min_three max_four min_four   -- for this text's walks alone
set_option linter.unusedVariables false
set_option linter.unusedSimpArgs false

/-! ### spec_TableOk: function 14 -/
def spec_TableOk.l0 : Nat → List (S42) → Int → Option (Bool)
 | 0,_,_ => none
 | k + 1,x0,x3 => if x3 < (x0.length : Int) then (if 0 ≤ x3 then ((spec_l01In.f (((rd_T42 x0 x3).f0).size : Int) 1 20).bind fun t122 => (if t122 = true then (if x3 > 0 then (if 0 ≤ (wrap64 (x3 - 1)) then (if (wrap64 (x3 - 1)) < (x0.length : Int) then (if ((Op.bytesLess (((rd_T42 x0 (wrap64 (x3 - 1))).f0).toList) (((rd_T42 x0 x3).f0).toList)) = true) then ((spec_ValOk.f k ((rd_T42 x0 x3).f1.f0) ((rd_T42 x0 x3).f1.f1) ((rd_T42 x0 x3).f1.f2) ((rd_T42 x0 x3).f1.f3)).bind fun t126 => (if t126 = true then (spec_TableOk.l0 k x0 (wrap64 (x3 + 1))) else (some false))) else (some false)) else (none)) else (none)) else ((spec_ValOk.f k ((rd_T42 x0 x3).f1.f0) ((rd_T42 x0 x3).f1.f1) ((rd_T42 x0 x3).f1.f2) ((rd_T42 x0 x3).f1.f3)).bind fun t128 => (if t128 = true then (spec_TableOk.l0 k x0 (wrap64 (x3 + 1))) else (some false)))) else (some false))) else (none)) else (some true)
def spec_TableOk.f (k : Nat) (l0 : List (S42)) : Option (Bool):=if (l0.length : Int) > 20 then (some false) else (spec_TableOk.l0 k l0 0)
theorem spec_TableOk.mono_l : ∀ k,(∀ y0 y1,LeO (spec_TableOk.l0 k y0 y1) (spec_TableOk.l0 (k + 1) y0 y1))
 | 0 => fun _ _ r h => by simp [spec_TableOk.l0] at h
 | k + 1 => by
  have ih0:=spec_TableOk.mono_l k
  ·intro y0 y1
   unfold spec_TableOk.l0
   repeat' first
   | (with_reducible exact ih0 _ _)
   | (with_reducible exact spec_ValOk.mono _ _ _ _ _)
   | (with_reducible exact LeO.refl _)
   | (with_reducible exact LeO.none _)
   | (with_reducible refine LeO.ite ?_ ?_)
   | (with_reducible refine LeO.bind ?_ (fun _ => ?_))
   | exact ih0 _ _
   | exact spec_ValOk.mono _ _ _ _ _
   | exact LeO.none _
   | refine LeO.ite ?_ ?_
   | refine LeO.bind ?_ (fun _ => ?_)
theorem spec_TableOk.mono : ∀ a0 k,LeO (spec_TableOk.f k a0) (spec_TableOk.f (k + 1) a0):=by
 intro a0 k
 have ih0:=spec_TableOk.mono_l k
 unfold spec_TableOk.f
 repeat' first
   | (with_reducible exact ih0 _ _)
   | (with_reducible exact spec_ValOk.mono _ _ _ _ _)
   | (with_reducible exact LeO.refl _)
   | (with_reducible exact LeO.none _)
   | (with_reducible refine LeO.ite ?_ ?_)
   | (with_reducible refine LeO.bind ?_ (fun _ => ?_))
   | exact ih0 _ _
   | exact spec_ValOk.mono _ _ _ _ _
   | exact LeO.none _
   | refine LeO.ite ?_ ?_
   | refine LeO.bind ?_ (fun _ => ?_)
def spec_TableOk.T6 : Bool × List (List Nat × List Nat):=(true,[([],[]),([],[]),([0,1],[0,1]),([2],[2]),([3],[3]),([4],[4]),([5],[5]),([6],[6]),([7,6],[7]),([8],[8]),([9,8],[8,9]),([10,8,8],[8,10]),([11],[11]),([11],[11]),([13,11],[11,13]),([12,14,11],[11,12,14]),([15,11],[11,15]),([16,11],[11,16]),([11],[11]),([11],[11]),([18,19,11],[11,18,19]),([20,11],[11,20]),([21,11],[11,21]),([17,22,11],[11,17,22]),([11,23,8],[8,11,23]),([8,24],[8,24]),([25,11],[25]),([26],[26]),([26],[26]),([27,28,26],[26,27,28]),([29,26],[26,29]),([30,26],[26,30]),([31,26,26],[26,31]),([32,26],[26,32]),([26,33],[26,33])])
def spec_TableOk.B6 : List Nat:=[0,0,3,7,15,31,63,127,255,511,1023,2047,4095,4095,12287,32767,65535,131071,4095,4095,790527,1839103,3936255,8388607,16777215,33554431,67108863,134217727,134217727,536870911,1073741823,2147483647,4294967295,8589934591,17179869183]
theorem spec_TableOk.tab6 : rtab .any (opsOf Try.f14 6) = spec_TableOk.T6:=by kernel_rfl
theorem spec_TableOk.bits6 : waitsOk spec_TableOk.T6.2 spec_TableOk.B6 = true:=by kernel_rfl
set_option maxHeartbeats 8000000 in
set_option maxRecDepth 100000 in
theorem spec_TableOk.calls (k : Nat) (A0 : Option Addr) (c0 : Nat) (l0 : List (S42)) (r : Bool) (w : World) (hr0 : Kd.C k42 w A0 l0.length l0) (hc0 : l0.length ≤ c0) (h : spec_TableOk.f k l0 = some r) :
  Calls Try.prog 14 #[.slice A0 l0.length c0] w fun e w' => e = .returned (.bool r) ∧ Below w.heap.size w w':=by
 have hu40:=Try.underlying40
 have HR0:=Aside0.mk hr0
 have HC0:=Aside0.mk hc0
 clear hr0 hc0
 have HB:=Aside0.mk (Below.refl w.heap.size w)
 have H : (if (l0.length : Int) > 20 then (some false) else (spec_TableOk.l0 k l0 0)) = some r:=h
 clear h
 by_cases c2 : (l0.length : Int) > 20
 ·rw [if_pos c2] at H
  have c2b0 : decide (20 < (l0.length : Int)) = true:=decide_eq_true c2
  have c2b1 : decide (20 < l0.length) = true:=decide_eq_true (by omega)
  clear c2
  obtain rfl:=Option.some.inj H
  go_enter Try.func14,Try.ntmps14
  go_wp2
  go_ret
  exact ⟨by first | rfl | (simp [errW_none,errW_some] <;> rfl) | (simp [*,errW_none,errW_some] <;> rfl),by repeat (first | (with_reducible first | exact HB.out | apply below_alloc | apply pw_below_drewN | apply below_drew1) | exact HB.out)⟩
 ·rw [if_neg c2] at H
  have c2b0 : decide (20 < (l0.length : Int)) = false:=decide_eq_false c2
  have c2b1 : decide (20 < l0.length) = false:=decide_eq_false (by omega)
  clear c2
  have H':=Aside0.mk H
  clear H
  go_enter Try.func14,Try.ntmps14
  go_wp2
  go_loopg [3] k (fun kq v3 w' => ∃ (x3_1 : Int),v3 = .int .i64 x3_1 ∧ Aside0 (spec_TableOk.l0 kq l0 x3_1 = some r) ∧ Aside0 (kq ≤ k) ∧ Aside0 (Below w.heap.size w w'))
  case atStart => exact ⟨(0),(by first | rfl | (simp;done) | (simp [*];done)),H',⟨Nat.le_refl _⟩,⟨by repeat (first | (with_reducible first | exact HB.out | apply below_alloc | apply pw_below_drewN | apply below_drew1) | exact HB.out)⟩⟩
  case round =>
   clear H'
   try clear c1
   try clear c2
   try clear c2b0
   try clear c2b1
   try clear p2
   obtain ⟨x3_1,rfl,HA,HK1,HB⟩:=hrel
   cases gk with
   | zero => exact absurd HA.out (by simp [spec_TableOk.l0])
   | succ k1 =>
    have H:=HA.out
    clear HA
    simp only [spec_TableOk.l0] at H
    by_cases c3 : x3_1 < (l0.length : Int)
    ·rw [if_pos c3] at H
     have c3b0 : decide (x3_1 < (l0.length : Int)) = true:=decide_eq_true c3
     clear c3
     by_cases c4 : 0 ≤ x3_1
     ·rw [if_pos c4] at H
      have c4b0 : decide (0 ≤ x3_1) = true:=decide_eq_true c4
      clear c4
      replace H:=Option.bind_eq_some_iff.mp H
      obtain ⟨t122,A50,H⟩:=H
      replace H : (if t122 = true then (if x3_1 > 0 then (if 0 ≤ (wrap64 (x3_1 - 1)) then (if (wrap64 (x3_1 - 1)) < (l0.length : Int) then (if ((Op.bytesLess (((rd_T42 l0 (wrap64 (x3_1 - 1))).f0).toList) (((rd_T42 l0 x3_1).f0).toList)) = true) then ((spec_ValOk.f k1 ((rd_T42 l0 x3_1).f1.f0) ((rd_T42 l0 x3_1).f1.f1) ((rd_T42 l0 x3_1).f1.f2) ((rd_T42 l0 x3_1).f1.f3)).bind fun t126 => (if t126 = true then (spec_TableOk.l0 k1 l0 (wrap64 (x3_1 + 1))) else (some false))) else (some false)) else (none)) else (none)) else ((spec_ValOk.f k1 ((rd_T42 l0 x3_1).f1.f0) ((rd_T42 l0 x3_1).f1.f1) ((rd_T42 l0 x3_1).f1.f2) ((rd_T42 l0 x3_1).f1.f3)).bind fun t128 => (if t128 = true then (spec_TableOk.l0 k1 l0 (wrap64 (x3_1 + 1))) else (some false)))) else (some false)) = some r:=H
      have A5:=Aside0.mk A50
      clear A50
      by_cases c6 : t122 = true
      ·subst c6
       have H1 : (if x3_1 > 0 then (if 0 ≤ (wrap64 (x3_1 - 1)) then (if (wrap64 (x3_1 - 1)) < (l0.length : Int) then (if ((Op.bytesLess (((rd_T42 l0 (wrap64 (x3_1 - 1))).f0).toList) (((rd_T42 l0 x3_1).f0).toList)) = true) then ((spec_ValOk.f k1 ((rd_T42 l0 x3_1).f1.f0) ((rd_T42 l0 x3_1).f1.f1) ((rd_T42 l0 x3_1).f1.f2) ((rd_T42 l0 x3_1).f1.f3)).bind fun t126 => (if t126 = true then (spec_TableOk.l0 k1 l0 (wrap64 (x3_1 + 1))) else (some false))) else (some false)) else (none)) else (none)) else ((spec_ValOk.f k1 ((rd_T42 l0 x3_1).f1.f0) ((rd_T42 l0 x3_1).f1.f1) ((rd_T42 l0 x3_1).f1.f2) ((rd_T42 l0 x3_1).f1.f3)).bind fun t128 => (if t128 = true then (spec_TableOk.l0 k1 l0 (wrap64 (x3_1 + 1))) else (some false)))) = some r:=by rw [if_pos rfl] at H;exact H
       clear H
       have H:=H1
       clear H1
       by_cases c7 : x3_1 > 0
       ·rw [if_pos c7] at H
        have c7b0 : decide (0 < x3_1) = true:=decide_eq_true c7
        clear c7
        obtain ⟨ji8,hji8⟩ : ∃ j_ : Int,(wrap64 (x3_1 - 1)) = j_:=⟨_,rfl⟩
        replace H : (if 0 ≤ (ji8) then (if (ji8) < (l0.length : Int) then (if ((Op.bytesLess (((rd_T42 l0 (ji8)).f0).toList) (((rd_T42 l0 x3_1).f0).toList)) = true) then ((spec_ValOk.f k1 ((rd_T42 l0 x3_1).f1.f0) ((rd_T42 l0 x3_1).f1.f1) ((rd_T42 l0 x3_1).f1.f2) ((rd_T42 l0 x3_1).f1.f3)).bind fun t126 => (if t126 = true then (spec_TableOk.l0 k1 l0 (wrap64 (x3_1 + 1))) else (some false))) else (some false)) else (none)) else (none)) = some r:=by first | (rw [hji8] at H;exact H) | (simp only [hji8] at H ⊢;exact H)
        (try rw [hji8] at A5)
        have hji8w : (IntKind.i64.wrap (x3_1 - 1)) = ji8:=(i64_w _).trans hji8
        by_cases c9 : 0 ≤ (ji8)
        ·rw [if_pos c9] at H
         have c9b0 : decide (0 ≤ (ji8)) = true:=decide_eq_true c9
         clear c9
         by_cases c10 : (ji8) < (l0.length : Int)
         ·rw [if_pos c10] at H
          have c10b0 : decide ((ji8) < (l0.length : Int)) = true:=decide_eq_true c10
          clear c10
          by_cases c11 : ((Op.bytesLess (((rd_T42 l0 (ji8)).f0).toList) (((rd_T42 l0 x3_1).f0).toList)) = true)
          ·rw [if_pos c11] at H
           have c11b0 : (Op.bytesLess (((rd_T42 l0 (ji8)).f0).toList) (((rd_T42 l0 x3_1).f0).toList)) = true:=c11
           clear c11
           replace H:=Option.bind_eq_some_iff.mp H
           obtain ⟨t126,A120,H⟩:=H
           replace H : (if t126 = true then (spec_TableOk.l0 k1 l0 (wrap64 (x3_1 + 1))) else (some false)) = some r:=H
           have A12:=Aside0.mk A120
           clear A120
           by_cases c13 : t126 = true
           ·subst c13
            have H1 : (spec_TableOk.l0 k1 l0 (wrap64 (x3_1 + 1))) = some r:=by rw [if_pos rfl] at H;exact H
            clear H
            have H:=H1
            clear H1
            have H':=Aside0.mk H
            clear H
            try go_wp2
            have n0_:=Aside0.mk (below_drew1 HB.out)
            clear HB
            have HB:=n0_
            clear n0_
            have p121 : 0 ≤ (x3_1 : Int):=of_decide_eq_true (by first | (with_reducible assumption) | assumption)
            have q121 : x3_1 < (l0.length : Int):=of_decide_eq_true (by first | (with_reducible assumption) | assumption)
            obtain ⟨ad121,A121_4,c121_4,e121,hx121_0,hx121_1,hx121_2,hx121_3,hx121_4,hl121_4,hi121_4⟩:=at_T42 HR0.out x3_1 p121 q121
            have hw121_4:=hx121_4
            have hw121_3:=hx121_3
            have hw121_2:=hx121_2
            have hw121_1:=hx121_1
            have hw121_0:=hx121_0
            cases e121
            replace hx121_0:=(HB.out.cell (World.block_lt_of_cell? w _ hx121_0)).trans hx121_0
            replace hx121_1:=(HB.out.cell (World.block_lt_of_cell? w _ hx121_1)).trans hx121_1
            replace hx121_2:=(HB.out.cell (World.block_lt_of_cell? w _ hx121_2)).trans hx121_2
            replace hx121_3:=(HB.out.cell (World.block_lt_of_cell? w _ hx121_3)).trans hx121_3
            replace hx121_4:=(HB.out.cell (World.block_lt_of_cell? w _ hx121_4)).trans hx121_4
            have HR121_4:=Aside0.mk hi121_4
            have HC121_4:=Aside0.mk hl121_4
            clear hi121_4 hl121_4
            replace p121:=eq_true p121
            replace q121:=eq_true q121
            have p123 : 0 ≤ ((ji8) : Int):=of_decide_eq_true (by first | (with_reducible assumption) | assumption)
            have q123 : (ji8) < (l0.length : Int):=of_decide_eq_true (by first | (with_reducible assumption) | assumption)
            obtain ⟨ad123,A123_4,c123_4,e123,hx123_0,hx123_1,hx123_2,hx123_3,hx123_4,hl123_4,hi123_4⟩:=at_T42 HR0.out (ji8) p123 q123
            have hw123_4:=hx123_4
            have hw123_3:=hx123_3
            have hw123_2:=hx123_2
            have hw123_1:=hx123_1
            have hw123_0:=hx123_0
            obtain rfl : ad121 = ad123:=(by injection e123)
            replace hx123_0:=(HB.out.cell (World.block_lt_of_cell? w _ hx123_0)).trans hx123_0
            replace hx123_1:=(HB.out.cell (World.block_lt_of_cell? w _ hx123_1)).trans hx123_1
            replace hx123_2:=(HB.out.cell (World.block_lt_of_cell? w _ hx123_2)).trans hx123_2
            replace hx123_3:=(HB.out.cell (World.block_lt_of_cell? w _ hx123_3)).trans hx123_3
            replace hx123_4:=(HB.out.cell (World.block_lt_of_cell? w _ hx123_4)).trans hx123_4
            have HR123_4:=Aside0.mk hi123_4
            have HC123_4:=Aside0.mk hl123_4
            clear hi123_4 hl123_4
            replace p123:=eq_true p123
            replace q123:=eq_true q123
            have p124 : 0 ≤ (x3_1 : Int):=of_decide_eq_true (by first | (with_reducible assumption) | assumption)
            have q124 : x3_1 < (l0.length : Int):=of_decide_eq_true (by first | (with_reducible assumption) | assumption)
            obtain ⟨ad124,A124_4,c124_4,e124,hx124_0,hx124_1,hx124_2,hx124_3,hx124_4,hl124_4,hi124_4⟩:=at_T42 HR0.out x3_1 p124 q124
            have hw124_4:=hx124_4
            have hw124_3:=hx124_3
            have hw124_2:=hx124_2
            have hw124_1:=hx124_1
            have hw124_0:=hx124_0
            obtain rfl : ad121 = ad124:=(by injection e124)
            replace hx124_0:=(HB.out.cell (World.block_lt_of_cell? w _ hx124_0)).trans hx124_0
            replace hx124_1:=(HB.out.cell (World.block_lt_of_cell? w _ hx124_1)).trans hx124_1
            replace hx124_2:=(HB.out.cell (World.block_lt_of_cell? w _ hx124_2)).trans hx124_2
            replace hx124_3:=(HB.out.cell (World.block_lt_of_cell? w _ hx124_3)).trans hx124_3
            replace hx124_4:=(HB.out.cell (World.block_lt_of_cell? w _ hx124_4)).trans hx124_4
            have HR124_4:=Aside0.mk hi124_4
            have HC124_4:=Aside0.mk hl124_4
            clear hi124_4 hl124_4
            replace p124:=eq_true p124
            replace q124:=eq_true q124
            have ea_:=Option.some.inj (hx121_4.symm.trans hx124_4)
            injection ea_ with ea_ en_ ec_
            subst ea_
            subst ec_
            clear en_
            have p125 : 0 ≤ (x3_1 : Int):=of_decide_eq_true (by first | (with_reducible assumption) | assumption)
            have q125 : x3_1 < (l0.length : Int):=of_decide_eq_true (by first | (with_reducible assumption) | assumption)
            obtain ⟨ad125,A125_4,c125_4,e125,hx125_0,hx125_1,hx125_2,hx125_3,hx125_4,hl125_4,hi125_4⟩:=at_T42 HR0.out x3_1 p125 q125
            have hw125_4:=hx125_4
            have hw125_3:=hx125_3
            have hw125_2:=hx125_2
            have hw125_1:=hx125_1
            have hw125_0:=hx125_0
            obtain rfl : ad121 = ad125:=(by injection e125)
            replace hx125_0:=(HB.out.cell (World.block_lt_of_cell? w _ hx125_0)).trans hx125_0
            replace hx125_1:=(HB.out.cell (World.block_lt_of_cell? w _ hx125_1)).trans hx125_1
            replace hx125_2:=(HB.out.cell (World.block_lt_of_cell? w _ hx125_2)).trans hx125_2
            replace hx125_3:=(HB.out.cell (World.block_lt_of_cell? w _ hx125_3)).trans hx125_3
            replace hx125_4:=(HB.out.cell (World.block_lt_of_cell? w _ hx125_4)).trans hx125_4
            have HR125_4:=Aside0.mk hi125_4
            have HC125_4:=Aside0.mk hl125_4
            clear hi125_4 hl125_4
            replace p125:=eq_true p125
            replace q125:=eq_true q125
            have ea_:=Option.some.inj (hx121_4.symm.trans hx125_4)
            injection ea_ with ea_ en_ ec_
            subst ea_
            subst ec_
            clear en_
            refine start_ (n:=35) (S:=fun w' => w'.cell? (ad121.add ((x3_1).toNat * 5)) = some (.string ((rd_T42 l0 x3_1).f0)) ∧ w'.cell? ⟨(ad121.add ((x3_1).toNat * 5)).block,(ad121.add ((x3_1).toNat * 5)).off + 1,none⟩ = some (.int .i64 ((rd_T42 l0 x3_1).f1.f0)) ∧ w'.cell? ⟨(ad121.add ((x3_1).toNat * 5)).block,(ad121.add ((x3_1).toNat * 5)).off + 2,none⟩ = some (.int .i64 ((rd_T42 l0 x3_1).f1.f1)) ∧ w'.cell? ⟨(ad121.add ((x3_1).toNat * 5)).block,(ad121.add ((x3_1).toNat * 5)).off + 3,none⟩ = some (.string ((rd_T42 l0 x3_1).f1.f2)) ∧ w'.cell? ⟨(ad121.add ((x3_1).toNat * 5)).block,(ad121.add ((x3_1).toNat * 5)).off + 4,none⟩ = some (.slice A121_4 ((rd_T42 l0 x3_1).f1.f3).length c121_4) ∧ w'.cell? (ad121.add (((ji8)).toNat * 5)) = some (.string ((rd_T42 l0 (ji8)).f0)) ∧ w'.cell? ⟨(ad121.add (((ji8)).toNat * 5)).block,(ad121.add (((ji8)).toNat * 5)).off + 1,none⟩ = some (.int .i64 ((rd_T42 l0 (ji8)).f1.f0)) ∧ w'.cell? ⟨(ad121.add (((ji8)).toNat * 5)).block,(ad121.add (((ji8)).toNat * 5)).off + 2,none⟩ = some (.int .i64 ((rd_T42 l0 (ji8)).f1.f1)) ∧ w'.cell? ⟨(ad121.add (((ji8)).toNat * 5)).block,(ad121.add (((ji8)).toNat * 5)).off + 3,none⟩ = some (.string ((rd_T42 l0 (ji8)).f1.f2)) ∧ w'.cell? ⟨(ad121.add (((ji8)).toNat * 5)).block,(ad121.add (((ji8)).toNat * 5)).off + 4,none⟩ = some (.slice A123_4 ((rd_T42 l0 (ji8)).f1.f3).length c123_4) ∧ w'.cell? (ad121.add ((x3_1).toNat * 5)) = some (.string ((rd_T42 l0 x3_1).f0)) ∧ w'.cell? ⟨(ad121.add ((x3_1).toNat * 5)).block,(ad121.add ((x3_1).toNat * 5)).off + 1,none⟩ = some (.int .i64 ((rd_T42 l0 x3_1).f1.f0)) ∧ w'.cell? ⟨(ad121.add ((x3_1).toNat * 5)).block,(ad121.add ((x3_1).toNat * 5)).off + 2,none⟩ = some (.int .i64 ((rd_T42 l0 x3_1).f1.f1)) ∧ w'.cell? ⟨(ad121.add ((x3_1).toNat * 5)).block,(ad121.add ((x3_1).toNat * 5)).off + 3,none⟩ = some (.string ((rd_T42 l0 x3_1).f1.f2)) ∧ w'.cell? ⟨(ad121.add ((x3_1).toNat * 5)).block,(ad121.add ((x3_1).toNat * 5)).off + 4,none⟩ = some (.slice A121_4 ((rd_T42 l0 x3_1).f1.f3).length c121_4) ∧ w'.cell? (ad121.add ((x3_1).toNat * 5)) = some (.string ((rd_T42 l0 x3_1).f0)) ∧ w'.cell? ⟨(ad121.add ((x3_1).toNat * 5)).block,(ad121.add ((x3_1).toNat * 5)).off + 1,none⟩ = some (.int .i64 ((rd_T42 l0 x3_1).f1.f0)) ∧ w'.cell? ⟨(ad121.add ((x3_1).toNat * 5)).block,(ad121.add ((x3_1).toNat * 5)).off + 2,none⟩ = some (.int .i64 ((rd_T42 l0 x3_1).f1.f1)) ∧ w'.cell? ⟨(ad121.add ((x3_1).toNat * 5)).block,(ad121.add ((x3_1).toNat * 5)).off + 3,none⟩ = some (.string ((rd_T42 l0 x3_1).f1.f2)) ∧ w'.cell? ⟨(ad121.add ((x3_1).toNat * 5)).block,(ad121.add ((x3_1).toNat * 5)).off + 4,none⟩ = some (.slice A121_4 ((rd_T42 l0 x3_1).f1.f3).length c121_4)) (ds:=[]) (zF0 35 0) (by kernel_rfl) rfl rfl ⟨((HB.out.cell (World.block_lt_of_cell? w _ hw121_0)).trans hw121_0),((HB.out.cell (World.block_lt_of_cell? w _ hw121_1)).trans hw121_1),((HB.out.cell (World.block_lt_of_cell? w _ hw121_2)).trans hw121_2),((HB.out.cell (World.block_lt_of_cell? w _ hw121_3)).trans hw121_3),((HB.out.cell (World.block_lt_of_cell? w _ hw121_4)).trans hw121_4),((HB.out.cell (World.block_lt_of_cell? w _ hw123_0)).trans hw123_0),((HB.out.cell (World.block_lt_of_cell? w _ hw123_1)).trans hw123_1),((HB.out.cell (World.block_lt_of_cell? w _ hw123_2)).trans hw123_2),((HB.out.cell (World.block_lt_of_cell? w _ hw123_3)).trans hw123_3),((HB.out.cell (World.block_lt_of_cell? w _ hw123_4)).trans hw123_4),((HB.out.cell (World.block_lt_of_cell? w _ hw124_0)).trans hw124_0),((HB.out.cell (World.block_lt_of_cell? w _ hw124_1)).trans hw124_1),((HB.out.cell (World.block_lt_of_cell? w _ hw124_2)).trans hw124_2),((HB.out.cell (World.block_lt_of_cell? w _ hw124_3)).trans hw124_3),((HB.out.cell (World.block_lt_of_cell? w _ hw124_4)).trans hw124_4),((HB.out.cell (World.block_lt_of_cell? w _ hw125_0)).trans hw125_0),((HB.out.cell (World.block_lt_of_cell? w _ hw125_1)).trans hw125_1),((HB.out.cell (World.block_lt_of_cell? w _ hw125_2)).trans hw125_2),((HB.out.cell (World.block_lt_of_cell? w _ hw125_3)).trans hw125_3),((HB.out.cell (World.block_lt_of_cell? w _ hw125_4)).trans hw125_4)⟩ (fun hHeld => ?_);refine with_tabW spec_TableOk.tab6 spec_TableOk.bits6 (fun HT_ HW_ => ?_)
            generalize wr.drew = w14 at HB HR121_4 HR123_4 HR124_4 HR125_4 hx121_0 hx121_1 hx121_2 hx121_3 hx121_4 hx123_0 hx123_1 hx123_2 hx123_3 hx123_4 hx124_0 hx124_1 hx124_2 hx124_3 hx124_4 hx125_0 hx125_1 hx125_2 hx125_3 hx125_4 hHeld ⊢
            refine zP0 (i:=0) (N:=some 13) (zF0 35 1) rfl rfl HT_.out ?_
            refine zP0 (i:=1) (N:=some 14) (zF0 35 3) rfl rfl HT_.out ?_
            refine zP0 (i:=2) (N:=some 15) (zF0 35 7) rfl rfl HT_.out ?_
            refine zP0 (i:=3) (N:=some 16) (zF0 35 15) rfl rfl HT_.out ?_
            refine take_ (i:=4) (N:=some 17) (v:=?_) (a':=?_) (zF0 35 31) rfl rfl (take_ofW HT_.out HW_.out (by kernel_rfl)) (fun _ _ _ h => h) (Or.inl ⟨by rfl,?_⟩) hHeld ?_ ?_;rotate_left
            ·rintro w' ⟨s0,s1,s2,s3,s4,s5,s6,s7,s8,s9,s10,s11,s12,s13,s14,s15,s16,s17,s18,s19⟩
             go_simp
             with_reducible rfl
            rotate_left
            ·simp only [Act.put,qA0,qB0,qC0,i64_w,i32_w];rfl
            refine zP0 (i:=5) (N:=some 18) (zF0 35 63) rfl rfl HT_.out ?_
            refine one_ (i:=6) (N:=some 19) (zF0 35 127) rfl rfl (one_of HT_.out (by kernel_rfl)) (by decide) (fun K hK => ?_)
            refine goes_ Try.func30 (by kernel_rfl) rfl #[.int .i64 (((rd_T42 l0 x3_1).f0).size : Int),.int .i64 1,.int .i64 20] (by rfl) rfl rfl zM0 ?_
            with_reducible refine (spec_l01In.calls (((rd_T42 l0 x3_1).f0).size : Int) 1 20 true _ A5.out).mono ?_
            rintro e w' ⟨rfl,⟨nd,rfl⟩⟩
            refine ⟨_,rfl,?_⟩
            refine hK.out _ _ ⟨((HB.out.cell (World.block_lt_of_cell? w _ hw121_0)).trans hw121_0),((HB.out.cell (World.block_lt_of_cell? w _ hw121_1)).trans hw121_1),((HB.out.cell (World.block_lt_of_cell? w _ hw121_2)).trans hw121_2),((HB.out.cell (World.block_lt_of_cell? w _ hw121_3)).trans hw121_3),((HB.out.cell (World.block_lt_of_cell? w _ hw121_4)).trans hw121_4),((HB.out.cell (World.block_lt_of_cell? w _ hw123_0)).trans hw123_0),((HB.out.cell (World.block_lt_of_cell? w _ hw123_1)).trans hw123_1),((HB.out.cell (World.block_lt_of_cell? w _ hw123_2)).trans hw123_2),((HB.out.cell (World.block_lt_of_cell? w _ hw123_3)).trans hw123_3),((HB.out.cell (World.block_lt_of_cell? w _ hw123_4)).trans hw123_4),((HB.out.cell (World.block_lt_of_cell? w _ hw124_0)).trans hw124_0),((HB.out.cell (World.block_lt_of_cell? w _ hw124_1)).trans hw124_1),((HB.out.cell (World.block_lt_of_cell? w _ hw124_2)).trans hw124_2),((HB.out.cell (World.block_lt_of_cell? w _ hw124_3)).trans hw124_3),((HB.out.cell (World.block_lt_of_cell? w _ hw124_4)).trans hw124_4),((HB.out.cell (World.block_lt_of_cell? w _ hw125_0)).trans hw125_0),((HB.out.cell (World.block_lt_of_cell? w _ hw125_1)).trans hw125_1),((HB.out.cell (World.block_lt_of_cell? w _ hw125_2)).trans hw125_2),((HB.out.cell (World.block_lt_of_cell? w _ hw125_3)).trans hw125_3),((HB.out.cell (World.block_lt_of_cell? w _ hw125_4)).trans hw125_4)⟩ (fun hHeld => ?_)
            clear hK K
            refine norm_ (a':=?_) ?_ ?_;rotate_left
            ·show Act.put _ (some 19) _ = _;simp only [Act.put,qA0,qB0,qC0,i64_w,i32_w];rfl
            refine zP0 (i:=7) (N:=some 20) (zF0 35 255) rfl rfl HT_.out ?_
            refine zP0 (i:=8) (N:=some 21) (zF0 35 511) rfl rfl HT_.out ?_
            refine zP0 (i:=9) (N:=some 22) (zF0 35 1023) rfl rfl HT_.out ?_
            refine zP0 (i:=10) (N:=some 23) (zF0 35 2047) rfl rfl HT_.out ?_
            refine zP0 (i:=11) (N:=some 24) (zF0 35 4095) rfl rfl HT_.out ?_
            refine zP0 (i:=12) (N:=some 25) (zF0 35 8191) rfl rfl HT_.out ?_
            refine zP0 (i:=13) (N:=some 26) (zF0 35 16383) rfl rfl HT_.out ?_
            refine zP0 (i:=14) (N:=some 27) (zF0 35 32767) rfl rfl HT_.out ?_
            refine zP0 (i:=15) (N:=some 28) (zF0 35 65535) rfl rfl HT_.out ?_
            refine zP0 (i:=16) (N:=some 29) (zF0 35 131071) rfl rfl HT_.out ?_
            refine zP0 (i:=18) (N:=some 31) (zF0 35 393215) rfl rfl HT_.out ?_
            refine zP0 (i:=19) (N:=some 32) (zF0 35 917503) rfl rfl HT_.out ?_
            refine zP0 (i:=20) (N:=some 33) (zF0 35 1966079) rfl rfl HT_.out ?_
            refine zP0 (i:=21) (N:=some 34) (zF0 35 4063231) rfl rfl HT_.out ?_
            refine take_ (i:=17) (N:=some 30) (v:=?_) (a':=?_) (zF0 35 4194303) rfl rfl (take_ofW HT_.out HW_.out (by kernel_rfl)) (fun _ _ _ h => h) (Or.inl ⟨by rfl,?_⟩) hHeld ?_ ?_;rotate_left
            ·rintro w' ⟨s0,s1,s2,s3,s4,s5,s6,s7,s8,s9,s10,s11,s12,s13,s14,s15,s16,s17,s18,s19⟩
             go_simp
             with_reducible rfl
            rotate_left
            ·simp only [Act.put,qA0,qB0,qC0,i64_w,i32_w];rfl
            refine take_ (i:=22) (N:=some 35) (v:=?_) (a':=?_) (zF0 35 8388607) rfl rfl (take_ofW HT_.out HW_.out (by kernel_rfl)) (fun _ _ _ h => h) (Or.inl ⟨by rfl,?_⟩) hHeld ?_ ?_;rotate_left
            ·rintro w' ⟨s0,s1,s2,s3,s4,s5,s6,s7,s8,s9,s10,s11,s12,s13,s14,s15,s16,s17,s18,s19⟩
             go_simp
             with_reducible rfl
            rotate_left
            ·simp only [Act.put,qA0,qB0,qC0,i64_w,i32_w];rfl
            refine zP0 (i:=23) (N:=some 36) (zF0 35 16777215) rfl rfl HT_.out ?_
            refine zP0 (i:=24) (N:=some 37) (zF0 35 33554431) rfl rfl HT_.out ?_
            refine zP0 (i:=25) (N:=some 38) (zF0 35 67108863) rfl rfl HT_.out ?_
            refine zP0 (i:=26) (N:=some 39) (zF0 35 134217727) rfl rfl HT_.out ?_
            refine zP0 (i:=27) (N:=some 40) (zF0 35 268435455) rfl rfl HT_.out ?_
            refine zP0 (i:=28) (N:=some 41) (zF0 35 536870911) rfl rfl HT_.out ?_
            refine zP0 (i:=29) (N:=some 42) (zF0 35 1073741823) rfl rfl HT_.out ?_
            refine zP0 (i:=30) (N:=some 43) (zF0 35 2147483647) rfl rfl HT_.out ?_
            refine take_ (i:=31) (N:=some 44) (v:=?_) (a':=?_) (zF0 35 4294967295) rfl rfl (take_ofW HT_.out HW_.out (by kernel_rfl)) (fun _ _ _ h => h) (Or.inl ⟨by rfl,?_⟩) hHeld ?_ ?_;rotate_left
            ·rintro w' ⟨s0,s1,s2,s3,s4,s5,s6,s7,s8,s9,s10,s11,s12,s13,s14,s15,s16,s17,s18,s19⟩
             go_simp
             with_reducible rfl
            rotate_left
            ·simp only [Act.put,qA0,qB0,qC0,i64_w,i32_w];rfl
            refine one_ (i:=32) (N:=some 45) (zF0 35 8589934591) rfl rfl (one_of HT_.out (by kernel_rfl)) (by decide) (fun K hK => ?_)
            refine goes_ Try.func31 (by kernel_rfl) rfl #[.agg #[.int .i64 ((rd_T42 l0 x3_1).f1.f0),.int .i64 ((rd_T42 l0 x3_1).f1.f1),.string ((rd_T42 l0 x3_1).f1.f2),.slice A121_4 ((rd_T42 l0 x3_1).f1.f3).length c121_4]] (by rfl) rfl rfl zM0 ?_
            with_reducible refine (spec_ValOk.calls k1 ((rd_T42 l0 x3_1).f1.f0) ((rd_T42 l0 x3_1).f1.f1) ((rd_T42 l0 x3_1).f1.f2) _ _ ((rd_T42 l0 x3_1).f1.f3) true _ ?side1 ?side2 A12.out).mono ?_
            (case side1 => repeat (first | exact (Kd.C_below HR125_4.out (by repeat (first | (with_reducible first | exact HB.out | apply below_alloc | apply pw_below_drewN | apply below_drew1) | exact HB.out))) | (with_reducible refine Kd.C_alloc ?_ _) | (with_reducible refine Kd.C_drewN ?_ _) | (with_reducible refine Kd.C_drew ?_)))
            (case side2 => exact HC125_4.out)
            rintro e w15 ⟨rfl,hb⟩
            refine ⟨_,rfl,?_⟩
            have n0_:=Aside0.mk (zS0 HB.out hb)
            clear HB
            have HB:=n0_
            clear n0_
            (try clear hb)
            (try clear hb2)
            (try clear hk)
            (try clear hi)
            refine hK.out _ _ ⟨((HB.out.cell (World.block_lt_of_cell? w _ hw121_0)).trans hw121_0),((HB.out.cell (World.block_lt_of_cell? w _ hw121_1)).trans hw121_1),((HB.out.cell (World.block_lt_of_cell? w _ hw121_2)).trans hw121_2),((HB.out.cell (World.block_lt_of_cell? w _ hw121_3)).trans hw121_3),((HB.out.cell (World.block_lt_of_cell? w _ hw121_4)).trans hw121_4),((HB.out.cell (World.block_lt_of_cell? w _ hw123_0)).trans hw123_0),((HB.out.cell (World.block_lt_of_cell? w _ hw123_1)).trans hw123_1),((HB.out.cell (World.block_lt_of_cell? w _ hw123_2)).trans hw123_2),((HB.out.cell (World.block_lt_of_cell? w _ hw123_3)).trans hw123_3),((HB.out.cell (World.block_lt_of_cell? w _ hw123_4)).trans hw123_4),((HB.out.cell (World.block_lt_of_cell? w _ hw124_0)).trans hw124_0),((HB.out.cell (World.block_lt_of_cell? w _ hw124_1)).trans hw124_1),((HB.out.cell (World.block_lt_of_cell? w _ hw124_2)).trans hw124_2),((HB.out.cell (World.block_lt_of_cell? w _ hw124_3)).trans hw124_3),((HB.out.cell (World.block_lt_of_cell? w _ hw124_4)).trans hw124_4),((HB.out.cell (World.block_lt_of_cell? w _ hw125_0)).trans hw125_0),((HB.out.cell (World.block_lt_of_cell? w _ hw125_1)).trans hw125_1),((HB.out.cell (World.block_lt_of_cell? w _ hw125_2)).trans hw125_2),((HB.out.cell (World.block_lt_of_cell? w _ hw125_3)).trans hw125_3),((HB.out.cell (World.block_lt_of_cell? w _ hw125_4)).trans hw125_4)⟩ (fun hHeld => ?_)
            clear hK K
            refine norm_ (a':=?_) ?_ ?_;rotate_left
            ·show Act.put _ (some 45) _ = _;simp only [Act.put,qA0,qB0,qC0,i64_w,i32_w];rfl
            refine zP0 (i:=33) (N:=some 46) (zF0 35 17179869183) rfl rfl HT_.out ?_
            refine zP0 (i:=34) (N:=some 47) (zF0 35 34359738367) rfl rfl HT_.out ?_
            refine done_ (done_of HT_.out (by kernel_rfl)) ?_
            try go_wp2
            go_roundg k1
            case measure => have:=HK1.out;omega
            case rel => exact ⟨(wrap64 (x3_1 + 1)),(by first | rfl | (simp;done) | (simp [*];done)),H',⟨by have:=HK1.out;omega⟩,⟨by repeat (first | (with_reducible first | exact HB.out | apply below_alloc | apply pw_below_drewN | apply below_drew1) | exact HB.out)⟩⟩
           ·replace c13:=Bool.eq_false_iff.mpr c13
            subst c13
            have H1 : (some false) = some r:=by rw [if_neg (show ¬ (false = true) by decide)] at H;exact H
            clear H
            have H:=H1
            clear H1
            obtain rfl:=Option.some.inj H
            try go_wp2
            have n0_:=Aside0.mk (below_drew1 HB.out)
            clear HB
            have HB:=n0_
            clear n0_
            have p121 : 0 ≤ (x3_1 : Int):=of_decide_eq_true (by first | (with_reducible assumption) | assumption)
            have q121 : x3_1 < (l0.length : Int):=of_decide_eq_true (by first | (with_reducible assumption) | assumption)
            obtain ⟨ad121,A121_4,c121_4,e121,hx121_0,hx121_1,hx121_2,hx121_3,hx121_4,hl121_4,hi121_4⟩:=at_T42 HR0.out x3_1 p121 q121
            have hw121_4:=hx121_4
            have hw121_3:=hx121_3
            have hw121_2:=hx121_2
            have hw121_1:=hx121_1
            have hw121_0:=hx121_0
            cases e121
            replace hx121_0:=(HB.out.cell (World.block_lt_of_cell? w _ hx121_0)).trans hx121_0
            replace hx121_1:=(HB.out.cell (World.block_lt_of_cell? w _ hx121_1)).trans hx121_1
            replace hx121_2:=(HB.out.cell (World.block_lt_of_cell? w _ hx121_2)).trans hx121_2
            replace hx121_3:=(HB.out.cell (World.block_lt_of_cell? w _ hx121_3)).trans hx121_3
            replace hx121_4:=(HB.out.cell (World.block_lt_of_cell? w _ hx121_4)).trans hx121_4
            have HR121_4:=Aside0.mk hi121_4
            have HC121_4:=Aside0.mk hl121_4
            clear hi121_4 hl121_4
            replace p121:=eq_true p121
            replace q121:=eq_true q121
            have p123 : 0 ≤ ((ji8) : Int):=of_decide_eq_true (by first | (with_reducible assumption) | assumption)
            have q123 : (ji8) < (l0.length : Int):=of_decide_eq_true (by first | (with_reducible assumption) | assumption)
            obtain ⟨ad123,A123_4,c123_4,e123,hx123_0,hx123_1,hx123_2,hx123_3,hx123_4,hl123_4,hi123_4⟩:=at_T42 HR0.out (ji8) p123 q123
            have hw123_4:=hx123_4
            have hw123_3:=hx123_3
            have hw123_2:=hx123_2
            have hw123_1:=hx123_1
            have hw123_0:=hx123_0
            obtain rfl : ad121 = ad123:=(by injection e123)
            replace hx123_0:=(HB.out.cell (World.block_lt_of_cell? w _ hx123_0)).trans hx123_0
            replace hx123_1:=(HB.out.cell (World.block_lt_of_cell? w _ hx123_1)).trans hx123_1
            replace hx123_2:=(HB.out.cell (World.block_lt_of_cell? w _ hx123_2)).trans hx123_2
            replace hx123_3:=(HB.out.cell (World.block_lt_of_cell? w _ hx123_3)).trans hx123_3
            replace hx123_4:=(HB.out.cell (World.block_lt_of_cell? w _ hx123_4)).trans hx123_4
            have HR123_4:=Aside0.mk hi123_4
            have HC123_4:=Aside0.mk hl123_4
            clear hi123_4 hl123_4
            replace p123:=eq_true p123
            replace q123:=eq_true q123
            have p124 : 0 ≤ (x3_1 : Int):=of_decide_eq_true (by first | (with_reducible assumption) | assumption)
            have q124 : x3_1 < (l0.length : Int):=of_decide_eq_true (by first | (with_reducible assumption) | assumption)
            obtain ⟨ad124,A124_4,c124_4,e124,hx124_0,hx124_1,hx124_2,hx124_3,hx124_4,hl124_4,hi124_4⟩:=at_T42 HR0.out x3_1 p124 q124
            have hw124_4:=hx124_4
            have hw124_3:=hx124_3
            have hw124_2:=hx124_2
            have hw124_1:=hx124_1
            have hw124_0:=hx124_0
            obtain rfl : ad121 = ad124:=(by injection e124)
            replace hx124_0:=(HB.out.cell (World.block_lt_of_cell? w _ hx124_0)).trans hx124_0
            replace hx124_1:=(HB.out.cell (World.block_lt_of_cell? w _ hx124_1)).trans hx124_1
            replace hx124_2:=(HB.out.cell (World.block_lt_of_cell? w _ hx124_2)).trans hx124_2
            replace hx124_3:=(HB.out.cell (World.block_lt_of_cell? w _ hx124_3)).trans hx124_3
            replace hx124_4:=(HB.out.cell (World.block_lt_of_cell? w _ hx124_4)).trans hx124_4
            have HR124_4:=Aside0.mk hi124_4
            have HC124_4:=Aside0.mk hl124_4
            clear hi124_4 hl124_4
            replace p124:=eq_true p124
            replace q124:=eq_true q124
            have ea_:=Option.some.inj (hx121_4.symm.trans hx124_4)
            injection ea_ with ea_ en_ ec_
            subst ea_
            subst ec_
            clear en_
            have p125 : 0 ≤ (x3_1 : Int):=of_decide_eq_true (by first | (with_reducible assumption) | assumption)
            have q125 : x3_1 < (l0.length : Int):=of_decide_eq_true (by first | (with_reducible assumption) | assumption)
            obtain ⟨ad125,A125_4,c125_4,e125,hx125_0,hx125_1,hx125_2,hx125_3,hx125_4,hl125_4,hi125_4⟩:=at_T42 HR0.out x3_1 p125 q125
            have hw125_4:=hx125_4
            have hw125_3:=hx125_3
            have hw125_2:=hx125_2
            have hw125_1:=hx125_1
            have hw125_0:=hx125_0
            obtain rfl : ad121 = ad125:=(by injection e125)
            replace hx125_0:=(HB.out.cell (World.block_lt_of_cell? w _ hx125_0)).trans hx125_0
            replace hx125_1:=(HB.out.cell (World.block_lt_of_cell? w _ hx125_1)).trans hx125_1
            replace hx125_2:=(HB.out.cell (World.block_lt_of_cell? w _ hx125_2)).trans hx125_2
            replace hx125_3:=(HB.out.cell (World.block_lt_of_cell? w _ hx125_3)).trans hx125_3
            replace hx125_4:=(HB.out.cell (World.block_lt_of_cell? w _ hx125_4)).trans hx125_4
            have HR125_4:=Aside0.mk hi125_4
            have HC125_4:=Aside0.mk hl125_4
            clear hi125_4 hl125_4
            replace p125:=eq_true p125
            replace q125:=eq_true q125
            have ea_:=Option.some.inj (hx121_4.symm.trans hx125_4)
            injection ea_ with ea_ en_ ec_
            subst ea_
            subst ec_
            clear en_
            refine start_ (n:=35) (S:=fun w' => w'.cell? (ad121.add ((x3_1).toNat * 5)) = some (.string ((rd_T42 l0 x3_1).f0)) ∧ w'.cell? ⟨(ad121.add ((x3_1).toNat * 5)).block,(ad121.add ((x3_1).toNat * 5)).off + 1,none⟩ = some (.int .i64 ((rd_T42 l0 x3_1).f1.f0)) ∧ w'.cell? ⟨(ad121.add ((x3_1).toNat * 5)).block,(ad121.add ((x3_1).toNat * 5)).off + 2,none⟩ = some (.int .i64 ((rd_T42 l0 x3_1).f1.f1)) ∧ w'.cell? ⟨(ad121.add ((x3_1).toNat * 5)).block,(ad121.add ((x3_1).toNat * 5)).off + 3,none⟩ = some (.string ((rd_T42 l0 x3_1).f1.f2)) ∧ w'.cell? ⟨(ad121.add ((x3_1).toNat * 5)).block,(ad121.add ((x3_1).toNat * 5)).off + 4,none⟩ = some (.slice A121_4 ((rd_T42 l0 x3_1).f1.f3).length c121_4) ∧ w'.cell? (ad121.add (((ji8)).toNat * 5)) = some (.string ((rd_T42 l0 (ji8)).f0)) ∧ w'.cell? ⟨(ad121.add (((ji8)).toNat * 5)).block,(ad121.add (((ji8)).toNat * 5)).off + 1,none⟩ = some (.int .i64 ((rd_T42 l0 (ji8)).f1.f0)) ∧ w'.cell? ⟨(ad121.add (((ji8)).toNat * 5)).block,(ad121.add (((ji8)).toNat * 5)).off + 2,none⟩ = some (.int .i64 ((rd_T42 l0 (ji8)).f1.f1)) ∧ w'.cell? ⟨(ad121.add (((ji8)).toNat * 5)).block,(ad121.add (((ji8)).toNat * 5)).off + 3,none⟩ = some (.string ((rd_T42 l0 (ji8)).f1.f2)) ∧ w'.cell? ⟨(ad121.add (((ji8)).toNat * 5)).block,(ad121.add (((ji8)).toNat * 5)).off + 4,none⟩ = some (.slice A123_4 ((rd_T42 l0 (ji8)).f1.f3).length c123_4) ∧ w'.cell? (ad121.add ((x3_1).toNat * 5)) = some (.string ((rd_T42 l0 x3_1).f0)) ∧ w'.cell? ⟨(ad121.add ((x3_1).toNat * 5)).block,(ad121.add ((x3_1).toNat * 5)).off + 1,none⟩ = some (.int .i64 ((rd_T42 l0 x3_1).f1.f0)) ∧ w'.cell? ⟨(ad121.add ((x3_1).toNat * 5)).block,(ad121.add ((x3_1).toNat * 5)).off + 2,none⟩ = some (.int .i64 ((rd_T42 l0 x3_1).f1.f1)) ∧ w'.cell? ⟨(ad121.add ((x3_1).toNat * 5)).block,(ad121.add ((x3_1).toNat * 5)).off + 3,none⟩ = some (.string ((rd_T42 l0 x3_1).f1.f2)) ∧ w'.cell? ⟨(ad121.add ((x3_1).toNat * 5)).block,(ad121.add ((x3_1).toNat * 5)).off + 4,none⟩ = some (.slice A121_4 ((rd_T42 l0 x3_1).f1.f3).length c121_4) ∧ w'.cell? (ad121.add ((x3_1).toNat * 5)) = some (.string ((rd_T42 l0 x3_1).f0)) ∧ w'.cell? ⟨(ad121.add ((x3_1).toNat * 5)).block,(ad121.add ((x3_1).toNat * 5)).off + 1,none⟩ = some (.int .i64 ((rd_T42 l0 x3_1).f1.f0)) ∧ w'.cell? ⟨(ad121.add ((x3_1).toNat * 5)).block,(ad121.add ((x3_1).toNat * 5)).off + 2,none⟩ = some (.int .i64 ((rd_T42 l0 x3_1).f1.f1)) ∧ w'.cell? ⟨(ad121.add ((x3_1).toNat * 5)).block,(ad121.add ((x3_1).toNat * 5)).off + 3,none⟩ = some (.string ((rd_T42 l0 x3_1).f1.f2)) ∧ w'.cell? ⟨(ad121.add ((x3_1).toNat * 5)).block,(ad121.add ((x3_1).toNat * 5)).off + 4,none⟩ = some (.slice A121_4 ((rd_T42 l0 x3_1).f1.f3).length c121_4)) (ds:=[]) (zF0 35 0) (by kernel_rfl) rfl rfl ⟨((HB.out.cell (World.block_lt_of_cell? w _ hw121_0)).trans hw121_0),((HB.out.cell (World.block_lt_of_cell? w _ hw121_1)).trans hw121_1),((HB.out.cell (World.block_lt_of_cell? w _ hw121_2)).trans hw121_2),((HB.out.cell (World.block_lt_of_cell? w _ hw121_3)).trans hw121_3),((HB.out.cell (World.block_lt_of_cell? w _ hw121_4)).trans hw121_4),((HB.out.cell (World.block_lt_of_cell? w _ hw123_0)).trans hw123_0),((HB.out.cell (World.block_lt_of_cell? w _ hw123_1)).trans hw123_1),((HB.out.cell (World.block_lt_of_cell? w _ hw123_2)).trans hw123_2),((HB.out.cell (World.block_lt_of_cell? w _ hw123_3)).trans hw123_3),((HB.out.cell (World.block_lt_of_cell? w _ hw123_4)).trans hw123_4),((HB.out.cell (World.block_lt_of_cell? w _ hw124_0)).trans hw124_0),((HB.out.cell (World.block_lt_of_cell? w _ hw124_1)).trans hw124_1),((HB.out.cell (World.block_lt_of_cell? w _ hw124_2)).trans hw124_2),((HB.out.cell (World.block_lt_of_cell? w _ hw124_3)).trans hw124_3),((HB.out.cell (World.block_lt_of_cell? w _ hw124_4)).trans hw124_4),((HB.out.cell (World.block_lt_of_cell? w _ hw125_0)).trans hw125_0),((HB.out.cell (World.block_lt_of_cell? w _ hw125_1)).trans hw125_1),((HB.out.cell (World.block_lt_of_cell? w _ hw125_2)).trans hw125_2),((HB.out.cell (World.block_lt_of_cell? w _ hw125_3)).trans hw125_3),((HB.out.cell (World.block_lt_of_cell? w _ hw125_4)).trans hw125_4)⟩ (fun hHeld => ?_);refine with_tabW spec_TableOk.tab6 spec_TableOk.bits6 (fun HT_ HW_ => ?_)
            generalize wr.drew = w16 at HB HR121_4 HR123_4 HR124_4 HR125_4 hx121_0 hx121_1 hx121_2 hx121_3 hx121_4 hx123_0 hx123_1 hx123_2 hx123_3 hx123_4 hx124_0 hx124_1 hx124_2 hx124_3 hx124_4 hx125_0 hx125_1 hx125_2 hx125_3 hx125_4 hHeld ⊢
            refine zP0 (i:=0) (N:=some 13) (zF0 35 1) rfl rfl HT_.out ?_
            refine zP0 (i:=1) (N:=some 14) (zF0 35 3) rfl rfl HT_.out ?_
            refine zP0 (i:=2) (N:=some 15) (zF0 35 7) rfl rfl HT_.out ?_
            refine zP0 (i:=3) (N:=some 16) (zF0 35 15) rfl rfl HT_.out ?_
            refine take_ (i:=4) (N:=some 17) (v:=?_) (a':=?_) (zF0 35 31) rfl rfl (take_ofW HT_.out HW_.out (by kernel_rfl)) (fun _ _ _ h => h) (Or.inl ⟨by rfl,?_⟩) hHeld ?_ ?_;rotate_left
            ·rintro w' ⟨s0,s1,s2,s3,s4,s5,s6,s7,s8,s9,s10,s11,s12,s13,s14,s15,s16,s17,s18,s19⟩
             go_simp
             with_reducible rfl
            rotate_left
            ·simp only [Act.put,qA0,qB0,qC0,i64_w,i32_w];rfl
            refine zP0 (i:=5) (N:=some 18) (zF0 35 63) rfl rfl HT_.out ?_
            refine one_ (i:=6) (N:=some 19) (zF0 35 127) rfl rfl (one_of HT_.out (by kernel_rfl)) (by decide) (fun K hK => ?_)
            refine goes_ Try.func30 (by kernel_rfl) rfl #[.int .i64 (((rd_T42 l0 x3_1).f0).size : Int),.int .i64 1,.int .i64 20] (by rfl) rfl rfl zM0 ?_
            with_reducible refine (spec_l01In.calls (((rd_T42 l0 x3_1).f0).size : Int) 1 20 true _ A5.out).mono ?_
            rintro e w' ⟨rfl,⟨nd,rfl⟩⟩
            refine ⟨_,rfl,?_⟩
            refine hK.out _ _ ⟨((HB.out.cell (World.block_lt_of_cell? w _ hw121_0)).trans hw121_0),((HB.out.cell (World.block_lt_of_cell? w _ hw121_1)).trans hw121_1),((HB.out.cell (World.block_lt_of_cell? w _ hw121_2)).trans hw121_2),((HB.out.cell (World.block_lt_of_cell? w _ hw121_3)).trans hw121_3),((HB.out.cell (World.block_lt_of_cell? w _ hw121_4)).trans hw121_4),((HB.out.cell (World.block_lt_of_cell? w _ hw123_0)).trans hw123_0),((HB.out.cell (World.block_lt_of_cell? w _ hw123_1)).trans hw123_1),((HB.out.cell (World.block_lt_of_cell? w _ hw123_2)).trans hw123_2),((HB.out.cell (World.block_lt_of_cell? w _ hw123_3)).trans hw123_3),((HB.out.cell (World.block_lt_of_cell? w _ hw123_4)).trans hw123_4),((HB.out.cell (World.block_lt_of_cell? w _ hw124_0)).trans hw124_0),((HB.out.cell (World.block_lt_of_cell? w _ hw124_1)).trans hw124_1),((HB.out.cell (World.block_lt_of_cell? w _ hw124_2)).trans hw124_2),((HB.out.cell (World.block_lt_of_cell? w _ hw124_3)).trans hw124_3),((HB.out.cell (World.block_lt_of_cell? w _ hw124_4)).trans hw124_4),((HB.out.cell (World.block_lt_of_cell? w _ hw125_0)).trans hw125_0),((HB.out.cell (World.block_lt_of_cell? w _ hw125_1)).trans hw125_1),((HB.out.cell (World.block_lt_of_cell? w _ hw125_2)).trans hw125_2),((HB.out.cell (World.block_lt_of_cell? w _ hw125_3)).trans hw125_3),((HB.out.cell (World.block_lt_of_cell? w _ hw125_4)).trans hw125_4)⟩ (fun hHeld => ?_)
            clear hK K
            refine norm_ (a':=?_) ?_ ?_;rotate_left
            ·show Act.put _ (some 19) _ = _;simp only [Act.put,qA0,qB0,qC0,i64_w,i32_w];rfl
            refine zP0 (i:=7) (N:=some 20) (zF0 35 255) rfl rfl HT_.out ?_
            refine zP0 (i:=8) (N:=some 21) (zF0 35 511) rfl rfl HT_.out ?_
            refine zP0 (i:=9) (N:=some 22) (zF0 35 1023) rfl rfl HT_.out ?_
            refine zP0 (i:=10) (N:=some 23) (zF0 35 2047) rfl rfl HT_.out ?_
            refine zP0 (i:=11) (N:=some 24) (zF0 35 4095) rfl rfl HT_.out ?_
            refine zP0 (i:=12) (N:=some 25) (zF0 35 8191) rfl rfl HT_.out ?_
            refine zP0 (i:=13) (N:=some 26) (zF0 35 16383) rfl rfl HT_.out ?_
            refine zP0 (i:=14) (N:=some 27) (zF0 35 32767) rfl rfl HT_.out ?_
            refine zP0 (i:=15) (N:=some 28) (zF0 35 65535) rfl rfl HT_.out ?_
            refine zP0 (i:=16) (N:=some 29) (zF0 35 131071) rfl rfl HT_.out ?_
            refine zP0 (i:=18) (N:=some 31) (zF0 35 393215) rfl rfl HT_.out ?_
            refine zP0 (i:=19) (N:=some 32) (zF0 35 917503) rfl rfl HT_.out ?_
            refine zP0 (i:=20) (N:=some 33) (zF0 35 1966079) rfl rfl HT_.out ?_
            refine zP0 (i:=21) (N:=some 34) (zF0 35 4063231) rfl rfl HT_.out ?_
            refine take_ (i:=17) (N:=some 30) (v:=?_) (a':=?_) (zF0 35 4194303) rfl rfl (take_ofW HT_.out HW_.out (by kernel_rfl)) (fun _ _ _ h => h) (Or.inl ⟨by rfl,?_⟩) hHeld ?_ ?_;rotate_left
            ·rintro w' ⟨s0,s1,s2,s3,s4,s5,s6,s7,s8,s9,s10,s11,s12,s13,s14,s15,s16,s17,s18,s19⟩
             go_simp
             with_reducible rfl
            rotate_left
            ·simp only [Act.put,qA0,qB0,qC0,i64_w,i32_w];rfl
            refine take_ (i:=22) (N:=some 35) (v:=?_) (a':=?_) (zF0 35 8388607) rfl rfl (take_ofW HT_.out HW_.out (by kernel_rfl)) (fun _ _ _ h => h) (Or.inl ⟨by rfl,?_⟩) hHeld ?_ ?_;rotate_left
            ·rintro w' ⟨s0,s1,s2,s3,s4,s5,s6,s7,s8,s9,s10,s11,s12,s13,s14,s15,s16,s17,s18,s19⟩
             go_simp
             with_reducible rfl
            rotate_left
            ·simp only [Act.put,qA0,qB0,qC0,i64_w,i32_w];rfl
            refine zP0 (i:=23) (N:=some 36) (zF0 35 16777215) rfl rfl HT_.out ?_
            refine zP0 (i:=24) (N:=some 37) (zF0 35 33554431) rfl rfl HT_.out ?_
            refine zP0 (i:=25) (N:=some 38) (zF0 35 67108863) rfl rfl HT_.out ?_
            refine zP0 (i:=26) (N:=some 39) (zF0 35 134217727) rfl rfl HT_.out ?_
            refine zP0 (i:=27) (N:=some 40) (zF0 35 268435455) rfl rfl HT_.out ?_
            refine zP0 (i:=28) (N:=some 41) (zF0 35 536870911) rfl rfl HT_.out ?_
            refine zP0 (i:=29) (N:=some 42) (zF0 35 1073741823) rfl rfl HT_.out ?_
            refine zP0 (i:=30) (N:=some 43) (zF0 35 2147483647) rfl rfl HT_.out ?_
            refine take_ (i:=31) (N:=some 44) (v:=?_) (a':=?_) (zF0 35 4294967295) rfl rfl (take_ofW HT_.out HW_.out (by kernel_rfl)) (fun _ _ _ h => h) (Or.inl ⟨by rfl,?_⟩) hHeld ?_ ?_;rotate_left
            ·rintro w' ⟨s0,s1,s2,s3,s4,s5,s6,s7,s8,s9,s10,s11,s12,s13,s14,s15,s16,s17,s18,s19⟩
             go_simp
             with_reducible rfl
            rotate_left
            ·simp only [Act.put,qA0,qB0,qC0,i64_w,i32_w];rfl
            refine one_ (i:=32) (N:=some 45) (zF0 35 8589934591) rfl rfl (one_of HT_.out (by kernel_rfl)) (by decide) (fun K hK => ?_)
            refine goes_ Try.func31 (by kernel_rfl) rfl #[.agg #[.int .i64 ((rd_T42 l0 x3_1).f1.f0),.int .i64 ((rd_T42 l0 x3_1).f1.f1),.string ((rd_T42 l0 x3_1).f1.f2),.slice A121_4 ((rd_T42 l0 x3_1).f1.f3).length c121_4]] (by rfl) rfl rfl zM0 ?_
            with_reducible refine (spec_ValOk.calls k1 ((rd_T42 l0 x3_1).f1.f0) ((rd_T42 l0 x3_1).f1.f1) ((rd_T42 l0 x3_1).f1.f2) _ _ ((rd_T42 l0 x3_1).f1.f3) false _ ?side1 ?side2 A12.out).mono ?_
            (case side1 => repeat (first | exact (Kd.C_below HR125_4.out (by repeat (first | (with_reducible first | exact HB.out | apply below_alloc | apply pw_below_drewN | apply below_drew1) | exact HB.out))) | (with_reducible refine Kd.C_alloc ?_ _) | (with_reducible refine Kd.C_drewN ?_ _) | (with_reducible refine Kd.C_drew ?_)))
            (case side2 => exact HC125_4.out)
            rintro e w17 ⟨rfl,hb⟩
            refine ⟨_,rfl,?_⟩
            have n0_:=Aside0.mk (zS0 HB.out hb)
            clear HB
            have HB:=n0_
            clear n0_
            (try clear hb)
            (try clear hb2)
            (try clear hk)
            (try clear hi)
            refine hK.out _ _ ⟨((HB.out.cell (World.block_lt_of_cell? w _ hw121_0)).trans hw121_0),((HB.out.cell (World.block_lt_of_cell? w _ hw121_1)).trans hw121_1),((HB.out.cell (World.block_lt_of_cell? w _ hw121_2)).trans hw121_2),((HB.out.cell (World.block_lt_of_cell? w _ hw121_3)).trans hw121_3),((HB.out.cell (World.block_lt_of_cell? w _ hw121_4)).trans hw121_4),((HB.out.cell (World.block_lt_of_cell? w _ hw123_0)).trans hw123_0),((HB.out.cell (World.block_lt_of_cell? w _ hw123_1)).trans hw123_1),((HB.out.cell (World.block_lt_of_cell? w _ hw123_2)).trans hw123_2),((HB.out.cell (World.block_lt_of_cell? w _ hw123_3)).trans hw123_3),((HB.out.cell (World.block_lt_of_cell? w _ hw123_4)).trans hw123_4),((HB.out.cell (World.block_lt_of_cell? w _ hw124_0)).trans hw124_0),((HB.out.cell (World.block_lt_of_cell? w _ hw124_1)).trans hw124_1),((HB.out.cell (World.block_lt_of_cell? w _ hw124_2)).trans hw124_2),((HB.out.cell (World.block_lt_of_cell? w _ hw124_3)).trans hw124_3),((HB.out.cell (World.block_lt_of_cell? w _ hw124_4)).trans hw124_4),((HB.out.cell (World.block_lt_of_cell? w _ hw125_0)).trans hw125_0),((HB.out.cell (World.block_lt_of_cell? w _ hw125_1)).trans hw125_1),((HB.out.cell (World.block_lt_of_cell? w _ hw125_2)).trans hw125_2),((HB.out.cell (World.block_lt_of_cell? w _ hw125_3)).trans hw125_3),((HB.out.cell (World.block_lt_of_cell? w _ hw125_4)).trans hw125_4)⟩ (fun hHeld => ?_)
            clear hK K
            refine norm_ (a':=?_) ?_ ?_;rotate_left
            ·show Act.put _ (some 45) _ = _;simp only [Act.put,qA0,qB0,qC0,i64_w,i32_w];rfl
            refine zP0 (i:=33) (N:=some 46) (zF0 35 17179869183) rfl rfl HT_.out ?_
            refine zP0 (i:=34) (N:=some 47) (zF0 35 34359738367) rfl rfl HT_.out ?_
            refine done_ (done_of HT_.out (by kernel_rfl)) ?_
            try go_wp2
            go_ret
            exact ⟨by first | rfl | (simp [errW_none,errW_some] <;> rfl) | (simp only [← hji8];first | rfl | (simp [errW_none,errW_some] <;> rfl)) | (simp [*,errW_none,errW_some] <;> rfl),by repeat (first | (with_reducible first | exact HB.out | apply below_alloc | apply pw_below_drewN | apply below_drew1) | exact HB.out)⟩
          ·rw [if_neg c11] at H
           have c11b0 : (Op.bytesLess (((rd_T42 l0 (ji8)).f0).toList) (((rd_T42 l0 x3_1).f0).toList)) = false:=by simpa using c11
           clear c11
           obtain rfl:=Option.some.inj H
           try go_wp2
           have n0_:=Aside0.mk (below_drew1 HB.out)
           clear HB
           have HB:=n0_
           clear n0_
           have p121 : 0 ≤ (x3_1 : Int):=of_decide_eq_true (by first | (with_reducible assumption) | assumption)
           have q121 : x3_1 < (l0.length : Int):=of_decide_eq_true (by first | (with_reducible assumption) | assumption)
           obtain ⟨ad121,A121_4,c121_4,e121,hx121_0,hx121_1,hx121_2,hx121_3,hx121_4,hl121_4,hi121_4⟩:=at_T42 HR0.out x3_1 p121 q121
           have hw121_4:=hx121_4
           have hw121_3:=hx121_3
           have hw121_2:=hx121_2
           have hw121_1:=hx121_1
           have hw121_0:=hx121_0
           cases e121
           replace hx121_0:=(HB.out.cell (World.block_lt_of_cell? w _ hx121_0)).trans hx121_0
           replace hx121_1:=(HB.out.cell (World.block_lt_of_cell? w _ hx121_1)).trans hx121_1
           replace hx121_2:=(HB.out.cell (World.block_lt_of_cell? w _ hx121_2)).trans hx121_2
           replace hx121_3:=(HB.out.cell (World.block_lt_of_cell? w _ hx121_3)).trans hx121_3
           replace hx121_4:=(HB.out.cell (World.block_lt_of_cell? w _ hx121_4)).trans hx121_4
           have HR121_4:=Aside0.mk hi121_4
           have HC121_4:=Aside0.mk hl121_4
           clear hi121_4 hl121_4
           replace p121:=eq_true p121
           replace q121:=eq_true q121
           have p123 : 0 ≤ ((ji8) : Int):=of_decide_eq_true (by first | (with_reducible assumption) | assumption)
           have q123 : (ji8) < (l0.length : Int):=of_decide_eq_true (by first | (with_reducible assumption) | assumption)
           obtain ⟨ad123,A123_4,c123_4,e123,hx123_0,hx123_1,hx123_2,hx123_3,hx123_4,hl123_4,hi123_4⟩:=at_T42 HR0.out (ji8) p123 q123
           have hw123_4:=hx123_4
           have hw123_3:=hx123_3
           have hw123_2:=hx123_2
           have hw123_1:=hx123_1
           have hw123_0:=hx123_0
           obtain rfl : ad121 = ad123:=(by injection e123)
           replace hx123_0:=(HB.out.cell (World.block_lt_of_cell? w _ hx123_0)).trans hx123_0
           replace hx123_1:=(HB.out.cell (World.block_lt_of_cell? w _ hx123_1)).trans hx123_1
           replace hx123_2:=(HB.out.cell (World.block_lt_of_cell? w _ hx123_2)).trans hx123_2
           replace hx123_3:=(HB.out.cell (World.block_lt_of_cell? w _ hx123_3)).trans hx123_3
           replace hx123_4:=(HB.out.cell (World.block_lt_of_cell? w _ hx123_4)).trans hx123_4
           have HR123_4:=Aside0.mk hi123_4
           have HC123_4:=Aside0.mk hl123_4
           clear hi123_4 hl123_4
           replace p123:=eq_true p123
           replace q123:=eq_true q123
           have p124 : 0 ≤ (x3_1 : Int):=of_decide_eq_true (by first | (with_reducible assumption) | assumption)
           have q124 : x3_1 < (l0.length : Int):=of_decide_eq_true (by first | (with_reducible assumption) | assumption)
           obtain ⟨ad124,A124_4,c124_4,e124,hx124_0,hx124_1,hx124_2,hx124_3,hx124_4,hl124_4,hi124_4⟩:=at_T42 HR0.out x3_1 p124 q124
           have hw124_4:=hx124_4
           have hw124_3:=hx124_3
           have hw124_2:=hx124_2
           have hw124_1:=hx124_1
           have hw124_0:=hx124_0
           obtain rfl : ad121 = ad124:=(by injection e124)
           replace hx124_0:=(HB.out.cell (World.block_lt_of_cell? w _ hx124_0)).trans hx124_0
           replace hx124_1:=(HB.out.cell (World.block_lt_of_cell? w _ hx124_1)).trans hx124_1
           replace hx124_2:=(HB.out.cell (World.block_lt_of_cell? w _ hx124_2)).trans hx124_2
           replace hx124_3:=(HB.out.cell (World.block_lt_of_cell? w _ hx124_3)).trans hx124_3
           replace hx124_4:=(HB.out.cell (World.block_lt_of_cell? w _ hx124_4)).trans hx124_4
           have HR124_4:=Aside0.mk hi124_4
           have HC124_4:=Aside0.mk hl124_4
           clear hi124_4 hl124_4
           replace p124:=eq_true p124
           replace q124:=eq_true q124
           have ea_:=Option.some.inj (hx121_4.symm.trans hx124_4)
           injection ea_ with ea_ en_ ec_
           subst ea_
           subst ec_
           clear en_
           refine start_ (n:=35) (S:=fun w' => w'.cell? (ad121.add ((x3_1).toNat * 5)) = some (.string ((rd_T42 l0 x3_1).f0)) ∧ w'.cell? ⟨(ad121.add ((x3_1).toNat * 5)).block,(ad121.add ((x3_1).toNat * 5)).off + 1,none⟩ = some (.int .i64 ((rd_T42 l0 x3_1).f1.f0)) ∧ w'.cell? ⟨(ad121.add ((x3_1).toNat * 5)).block,(ad121.add ((x3_1).toNat * 5)).off + 2,none⟩ = some (.int .i64 ((rd_T42 l0 x3_1).f1.f1)) ∧ w'.cell? ⟨(ad121.add ((x3_1).toNat * 5)).block,(ad121.add ((x3_1).toNat * 5)).off + 3,none⟩ = some (.string ((rd_T42 l0 x3_1).f1.f2)) ∧ w'.cell? ⟨(ad121.add ((x3_1).toNat * 5)).block,(ad121.add ((x3_1).toNat * 5)).off + 4,none⟩ = some (.slice A121_4 ((rd_T42 l0 x3_1).f1.f3).length c121_4) ∧ w'.cell? (ad121.add (((ji8)).toNat * 5)) = some (.string ((rd_T42 l0 (ji8)).f0)) ∧ w'.cell? ⟨(ad121.add (((ji8)).toNat * 5)).block,(ad121.add (((ji8)).toNat * 5)).off + 1,none⟩ = some (.int .i64 ((rd_T42 l0 (ji8)).f1.f0)) ∧ w'.cell? ⟨(ad121.add (((ji8)).toNat * 5)).block,(ad121.add (((ji8)).toNat * 5)).off + 2,none⟩ = some (.int .i64 ((rd_T42 l0 (ji8)).f1.f1)) ∧ w'.cell? ⟨(ad121.add (((ji8)).toNat * 5)).block,(ad121.add (((ji8)).toNat * 5)).off + 3,none⟩ = some (.string ((rd_T42 l0 (ji8)).f1.f2)) ∧ w'.cell? ⟨(ad121.add (((ji8)).toNat * 5)).block,(ad121.add (((ji8)).toNat * 5)).off + 4,none⟩ = some (.slice A123_4 ((rd_T42 l0 (ji8)).f1.f3).length c123_4) ∧ w'.cell? (ad121.add ((x3_1).toNat * 5)) = some (.string ((rd_T42 l0 x3_1).f0)) ∧ w'.cell? ⟨(ad121.add ((x3_1).toNat * 5)).block,(ad121.add ((x3_1).toNat * 5)).off + 1,none⟩ = some (.int .i64 ((rd_T42 l0 x3_1).f1.f0)) ∧ w'.cell? ⟨(ad121.add ((x3_1).toNat * 5)).block,(ad121.add ((x3_1).toNat * 5)).off + 2,none⟩ = some (.int .i64 ((rd_T42 l0 x3_1).f1.f1)) ∧ w'.cell? ⟨(ad121.add ((x3_1).toNat * 5)).block,(ad121.add ((x3_1).toNat * 5)).off + 3,none⟩ = some (.string ((rd_T42 l0 x3_1).f1.f2)) ∧ w'.cell? ⟨(ad121.add ((x3_1).toNat * 5)).block,(ad121.add ((x3_1).toNat * 5)).off + 4,none⟩ = some (.slice A121_4 ((rd_T42 l0 x3_1).f1.f3).length c121_4)) (ds:=[]) (zF0 35 0) (by kernel_rfl) rfl rfl ⟨((HB.out.cell (World.block_lt_of_cell? w _ hw121_0)).trans hw121_0),((HB.out.cell (World.block_lt_of_cell? w _ hw121_1)).trans hw121_1),((HB.out.cell (World.block_lt_of_cell? w _ hw121_2)).trans hw121_2),((HB.out.cell (World.block_lt_of_cell? w _ hw121_3)).trans hw121_3),((HB.out.cell (World.block_lt_of_cell? w _ hw121_4)).trans hw121_4),((HB.out.cell (World.block_lt_of_cell? w _ hw123_0)).trans hw123_0),((HB.out.cell (World.block_lt_of_cell? w _ hw123_1)).trans hw123_1),((HB.out.cell (World.block_lt_of_cell? w _ hw123_2)).trans hw123_2),((HB.out.cell (World.block_lt_of_cell? w _ hw123_3)).trans hw123_3),((HB.out.cell (World.block_lt_of_cell? w _ hw123_4)).trans hw123_4),((HB.out.cell (World.block_lt_of_cell? w _ hw124_0)).trans hw124_0),((HB.out.cell (World.block_lt_of_cell? w _ hw124_1)).trans hw124_1),((HB.out.cell (World.block_lt_of_cell? w _ hw124_2)).trans hw124_2),((HB.out.cell (World.block_lt_of_cell? w _ hw124_3)).trans hw124_3),((HB.out.cell (World.block_lt_of_cell? w _ hw124_4)).trans hw124_4)⟩ (fun hHeld => ?_);refine with_tabW spec_TableOk.tab6 spec_TableOk.bits6 (fun HT_ HW_ => ?_)
           generalize wr.drew = w18 at HB HR121_4 HR123_4 HR124_4 hx121_0 hx121_1 hx121_2 hx121_3 hx121_4 hx123_0 hx123_1 hx123_2 hx123_3 hx123_4 hx124_0 hx124_1 hx124_2 hx124_3 hx124_4 hHeld ⊢
           refine zP0 (i:=0) (N:=some 13) (zF0 35 1) rfl rfl HT_.out ?_
           refine zP0 (i:=1) (N:=some 14) (zF0 35 3) rfl rfl HT_.out ?_
           refine zP0 (i:=2) (N:=some 15) (zF0 35 7) rfl rfl HT_.out ?_
           refine zP0 (i:=3) (N:=some 16) (zF0 35 15) rfl rfl HT_.out ?_
           refine take_ (i:=4) (N:=some 17) (v:=?_) (a':=?_) (zF0 35 31) rfl rfl (take_ofW HT_.out HW_.out (by kernel_rfl)) (fun _ _ _ h => h) (Or.inl ⟨by rfl,?_⟩) hHeld ?_ ?_;rotate_left
           ·rintro w' ⟨s0,s1,s2,s3,s4,s5,s6,s7,s8,s9,s10,s11,s12,s13,s14⟩
            go_simp
            with_reducible rfl
           rotate_left
           ·simp only [Act.put,qA0,qB0,qC0,i64_w,i32_w];rfl
           refine zP0 (i:=5) (N:=some 18) (zF0 35 63) rfl rfl HT_.out ?_
           refine one_ (i:=6) (N:=some 19) (zF0 35 127) rfl rfl (one_of HT_.out (by kernel_rfl)) (by decide) (fun K hK => ?_)
           refine goes_ Try.func30 (by kernel_rfl) rfl #[.int .i64 (((rd_T42 l0 x3_1).f0).size : Int),.int .i64 1,.int .i64 20] (by rfl) rfl rfl zM0 ?_
           with_reducible refine (spec_l01In.calls (((rd_T42 l0 x3_1).f0).size : Int) 1 20 true _ A5.out).mono ?_
           rintro e w' ⟨rfl,⟨nd,rfl⟩⟩
           refine ⟨_,rfl,?_⟩
           refine hK.out _ _ ⟨((HB.out.cell (World.block_lt_of_cell? w _ hw121_0)).trans hw121_0),((HB.out.cell (World.block_lt_of_cell? w _ hw121_1)).trans hw121_1),((HB.out.cell (World.block_lt_of_cell? w _ hw121_2)).trans hw121_2),((HB.out.cell (World.block_lt_of_cell? w _ hw121_3)).trans hw121_3),((HB.out.cell (World.block_lt_of_cell? w _ hw121_4)).trans hw121_4),((HB.out.cell (World.block_lt_of_cell? w _ hw123_0)).trans hw123_0),((HB.out.cell (World.block_lt_of_cell? w _ hw123_1)).trans hw123_1),((HB.out.cell (World.block_lt_of_cell? w _ hw123_2)).trans hw123_2),((HB.out.cell (World.block_lt_of_cell? w _ hw123_3)).trans hw123_3),((HB.out.cell (World.block_lt_of_cell? w _ hw123_4)).trans hw123_4),((HB.out.cell (World.block_lt_of_cell? w _ hw124_0)).trans hw124_0),((HB.out.cell (World.block_lt_of_cell? w _ hw124_1)).trans hw124_1),((HB.out.cell (World.block_lt_of_cell? w _ hw124_2)).trans hw124_2),((HB.out.cell (World.block_lt_of_cell? w _ hw124_3)).trans hw124_3),((HB.out.cell (World.block_lt_of_cell? w _ hw124_4)).trans hw124_4)⟩ (fun hHeld => ?_)
           clear hK K
           refine norm_ (a':=?_) ?_ ?_;rotate_left
           ·show Act.put _ (some 19) _ = _;simp only [Act.put,qA0,qB0,qC0,i64_w,i32_w];rfl
           refine zP0 (i:=7) (N:=some 20) (zF0 35 255) rfl rfl HT_.out ?_
           refine zP0 (i:=8) (N:=some 21) (zF0 35 511) rfl rfl HT_.out ?_
           refine zP0 (i:=9) (N:=some 22) (zF0 35 1023) rfl rfl HT_.out ?_
           refine zP0 (i:=10) (N:=some 23) (zF0 35 2047) rfl rfl HT_.out ?_
           refine zP0 (i:=11) (N:=some 24) (zF0 35 4095) rfl rfl HT_.out ?_
           refine zP0 (i:=12) (N:=some 25) (zF0 35 8191) rfl rfl HT_.out ?_
           refine zP0 (i:=13) (N:=some 26) (zF0 35 16383) rfl rfl HT_.out ?_
           refine zP0 (i:=14) (N:=some 27) (zF0 35 32767) rfl rfl HT_.out ?_
           refine zP0 (i:=15) (N:=some 28) (zF0 35 65535) rfl rfl HT_.out ?_
           refine zP0 (i:=16) (N:=some 29) (zF0 35 131071) rfl rfl HT_.out ?_
           refine zP0 (i:=18) (N:=some 31) (zF0 35 393215) rfl rfl HT_.out ?_
           refine zP0 (i:=19) (N:=some 32) (zF0 35 917503) rfl rfl HT_.out ?_
           refine zP0 (i:=20) (N:=some 33) (zF0 35 1966079) rfl rfl HT_.out ?_
           refine zP0 (i:=21) (N:=some 34) (zF0 35 4063231) rfl rfl HT_.out ?_
           refine take_ (i:=17) (N:=some 30) (v:=?_) (a':=?_) (zF0 35 4194303) rfl rfl (take_ofW HT_.out HW_.out (by kernel_rfl)) (fun _ _ _ h => h) (Or.inl ⟨by rfl,?_⟩) hHeld ?_ ?_;rotate_left
           ·rintro w' ⟨s0,s1,s2,s3,s4,s5,s6,s7,s8,s9,s10,s11,s12,s13,s14⟩
            go_simp
            with_reducible rfl
           rotate_left
           ·simp only [Act.put,qA0,qB0,qC0,i64_w,i32_w];rfl
           refine take_ (i:=22) (N:=some 35) (v:=?_) (a':=?_) (zF0 35 8388607) rfl rfl (take_ofW HT_.out HW_.out (by kernel_rfl)) (fun _ _ _ h => h) (Or.inl ⟨by rfl,?_⟩) hHeld ?_ ?_;rotate_left
           ·rintro w' ⟨s0,s1,s2,s3,s4,s5,s6,s7,s8,s9,s10,s11,s12,s13,s14⟩
            go_simp
            with_reducible rfl
           rotate_left
           ·simp only [Act.put,qA0,qB0,qC0,i64_w,i32_w];rfl
           refine zP0 (i:=23) (N:=some 36) (zF0 35 16777215) rfl rfl HT_.out ?_
           refine zP0 (i:=24) (N:=some 37) (zF0 35 33554431) rfl rfl HT_.out ?_
           refine zP0 (i:=25) (N:=some 38) (zF0 35 67108863) rfl rfl HT_.out ?_
           refine zP0 (i:=26) (N:=some 39) (zF0 35 134217727) rfl rfl HT_.out ?_
           refine zQ0 (i:=27) (N:=some 40) (zF0 35 268435455) rfl rfl HT_.out ?_
           refine zQ0 (i:=28) (N:=some 41) (zF0 35 536870911) rfl rfl HT_.out ?_
           refine zQ0 (i:=29) (N:=some 42) (zF0 35 1073741823) rfl rfl HT_.out ?_
           refine zQ0 (i:=30) (N:=some 43) (zF0 35 2147483647) rfl rfl HT_.out ?_
           refine zQ0 (i:=31) (N:=some 44) (zF0 35 4294967295) rfl rfl HT_.out ?_
           refine zQ0 (i:=32) (N:=some 45) (zF0 35 8589934591) rfl rfl HT_.out ?_
           refine zQ0 (i:=33) (N:=some 46) (zF0 35 17179869183) rfl rfl HT_.out ?_
           refine zP0 (i:=34) (N:=some 47) (zF0 35 34359738367) rfl rfl HT_.out ?_
           refine done_ (done_of HT_.out (by kernel_rfl)) ?_
           try go_wp2
           go_ret
           exact ⟨by first | rfl | (simp [errW_none,errW_some] <;> rfl) | (simp only [← hji8];first | rfl | (simp [errW_none,errW_some] <;> rfl)) | (simp [*,errW_none,errW_some] <;> rfl),by repeat (first | (with_reducible first | exact HB.out | apply below_alloc | apply pw_below_drewN | apply below_drew1) | exact HB.out)⟩
         ·rw [if_neg c10] at H
          exact absurd H (by simp)
        ·rw [if_neg c9] at H
         exact absurd H (by simp)
       ·rw [if_neg c7] at H
        have c7b0 : decide (0 < x3_1) = false:=decide_eq_false c7
        clear c7
        replace H:=Option.bind_eq_some_iff.mp H
        obtain ⟨t128,A190,H⟩:=H
        replace H : (if t128 = true then (spec_TableOk.l0 k1 l0 (wrap64 (x3_1 + 1))) else (some false)) = some r:=H
        have A19:=Aside0.mk A190
        clear A190
        by_cases c20 : t128 = true
        ·subst c20
         have H1 : (spec_TableOk.l0 k1 l0 (wrap64 (x3_1 + 1))) = some r:=by rw [if_pos rfl] at H;exact H
         clear H
         have H:=H1
         clear H1
         have H':=Aside0.mk H
         clear H
         try go_wp2
         have n0_:=Aside0.mk (below_drew1 HB.out)
         clear HB
         have HB:=n0_
         clear n0_
         have p121 : 0 ≤ (x3_1 : Int):=of_decide_eq_true (by first | (with_reducible assumption) | assumption)
         have q121 : x3_1 < (l0.length : Int):=of_decide_eq_true (by first | (with_reducible assumption) | assumption)
         obtain ⟨ad121,A121_4,c121_4,e121,hx121_0,hx121_1,hx121_2,hx121_3,hx121_4,hl121_4,hi121_4⟩:=at_T42 HR0.out x3_1 p121 q121
         have hw121_4:=hx121_4
         have hw121_3:=hx121_3
         have hw121_2:=hx121_2
         have hw121_1:=hx121_1
         have hw121_0:=hx121_0
         cases e121
         replace hx121_0:=(HB.out.cell (World.block_lt_of_cell? w _ hx121_0)).trans hx121_0
         replace hx121_1:=(HB.out.cell (World.block_lt_of_cell? w _ hx121_1)).trans hx121_1
         replace hx121_2:=(HB.out.cell (World.block_lt_of_cell? w _ hx121_2)).trans hx121_2
         replace hx121_3:=(HB.out.cell (World.block_lt_of_cell? w _ hx121_3)).trans hx121_3
         replace hx121_4:=(HB.out.cell (World.block_lt_of_cell? w _ hx121_4)).trans hx121_4
         have HR121_4:=Aside0.mk hi121_4
         have HC121_4:=Aside0.mk hl121_4
         clear hi121_4 hl121_4
         replace p121:=eq_true p121
         replace q121:=eq_true q121
         have p127 : 0 ≤ (x3_1 : Int):=of_decide_eq_true (by first | (with_reducible assumption) | assumption)
         have q127 : x3_1 < (l0.length : Int):=of_decide_eq_true (by first | (with_reducible assumption) | assumption)
         obtain ⟨ad127,A127_4,c127_4,e127,hx127_0,hx127_1,hx127_2,hx127_3,hx127_4,hl127_4,hi127_4⟩:=at_T42 HR0.out x3_1 p127 q127
         have hw127_4:=hx127_4
         have hw127_3:=hx127_3
         have hw127_2:=hx127_2
         have hw127_1:=hx127_1
         have hw127_0:=hx127_0
         obtain rfl : ad121 = ad127:=(by injection e127)
         replace hx127_0:=(HB.out.cell (World.block_lt_of_cell? w _ hx127_0)).trans hx127_0
         replace hx127_1:=(HB.out.cell (World.block_lt_of_cell? w _ hx127_1)).trans hx127_1
         replace hx127_2:=(HB.out.cell (World.block_lt_of_cell? w _ hx127_2)).trans hx127_2
         replace hx127_3:=(HB.out.cell (World.block_lt_of_cell? w _ hx127_3)).trans hx127_3
         replace hx127_4:=(HB.out.cell (World.block_lt_of_cell? w _ hx127_4)).trans hx127_4
         have HR127_4:=Aside0.mk hi127_4
         have HC127_4:=Aside0.mk hl127_4
         clear hi127_4 hl127_4
         replace p127:=eq_true p127
         replace q127:=eq_true q127
         have ea_:=Option.some.inj (hx121_4.symm.trans hx127_4)
         injection ea_ with ea_ en_ ec_
         subst ea_
         subst ec_
         clear en_
         refine start_ (n:=35) (S:=fun w' => w'.cell? (ad121.add ((x3_1).toNat * 5)) = some (.string ((rd_T42 l0 x3_1).f0)) ∧ w'.cell? ⟨(ad121.add ((x3_1).toNat * 5)).block,(ad121.add ((x3_1).toNat * 5)).off + 1,none⟩ = some (.int .i64 ((rd_T42 l0 x3_1).f1.f0)) ∧ w'.cell? ⟨(ad121.add ((x3_1).toNat * 5)).block,(ad121.add ((x3_1).toNat * 5)).off + 2,none⟩ = some (.int .i64 ((rd_T42 l0 x3_1).f1.f1)) ∧ w'.cell? ⟨(ad121.add ((x3_1).toNat * 5)).block,(ad121.add ((x3_1).toNat * 5)).off + 3,none⟩ = some (.string ((rd_T42 l0 x3_1).f1.f2)) ∧ w'.cell? ⟨(ad121.add ((x3_1).toNat * 5)).block,(ad121.add ((x3_1).toNat * 5)).off + 4,none⟩ = some (.slice A121_4 ((rd_T42 l0 x3_1).f1.f3).length c121_4) ∧ w'.cell? (ad121.add ((x3_1).toNat * 5)) = some (.string ((rd_T42 l0 x3_1).f0)) ∧ w'.cell? ⟨(ad121.add ((x3_1).toNat * 5)).block,(ad121.add ((x3_1).toNat * 5)).off + 1,none⟩ = some (.int .i64 ((rd_T42 l0 x3_1).f1.f0)) ∧ w'.cell? ⟨(ad121.add ((x3_1).toNat * 5)).block,(ad121.add ((x3_1).toNat * 5)).off + 2,none⟩ = some (.int .i64 ((rd_T42 l0 x3_1).f1.f1)) ∧ w'.cell? ⟨(ad121.add ((x3_1).toNat * 5)).block,(ad121.add ((x3_1).toNat * 5)).off + 3,none⟩ = some (.string ((rd_T42 l0 x3_1).f1.f2)) ∧ w'.cell? ⟨(ad121.add ((x3_1).toNat * 5)).block,(ad121.add ((x3_1).toNat * 5)).off + 4,none⟩ = some (.slice A121_4 ((rd_T42 l0 x3_1).f1.f3).length c121_4)) (ds:=[]) (zF0 35 0) (by kernel_rfl) rfl rfl ⟨((HB.out.cell (World.block_lt_of_cell? w _ hw121_0)).trans hw121_0),((HB.out.cell (World.block_lt_of_cell? w _ hw121_1)).trans hw121_1),((HB.out.cell (World.block_lt_of_cell? w _ hw121_2)).trans hw121_2),((HB.out.cell (World.block_lt_of_cell? w _ hw121_3)).trans hw121_3),((HB.out.cell (World.block_lt_of_cell? w _ hw121_4)).trans hw121_4),((HB.out.cell (World.block_lt_of_cell? w _ hw127_0)).trans hw127_0),((HB.out.cell (World.block_lt_of_cell? w _ hw127_1)).trans hw127_1),((HB.out.cell (World.block_lt_of_cell? w _ hw127_2)).trans hw127_2),((HB.out.cell (World.block_lt_of_cell? w _ hw127_3)).trans hw127_3),((HB.out.cell (World.block_lt_of_cell? w _ hw127_4)).trans hw127_4)⟩ (fun hHeld => ?_);refine with_tabW spec_TableOk.tab6 spec_TableOk.bits6 (fun HT_ HW_ => ?_)
         generalize wr.drew = w21 at HB HR121_4 HR127_4 hx121_0 hx121_1 hx121_2 hx121_3 hx121_4 hx127_0 hx127_1 hx127_2 hx127_3 hx127_4 hHeld ⊢
         refine zP0 (i:=0) (N:=some 13) (zF0 35 1) rfl rfl HT_.out ?_
         refine zP0 (i:=1) (N:=some 14) (zF0 35 3) rfl rfl HT_.out ?_
         refine zP0 (i:=2) (N:=some 15) (zF0 35 7) rfl rfl HT_.out ?_
         refine zP0 (i:=3) (N:=some 16) (zF0 35 15) rfl rfl HT_.out ?_
         refine take_ (i:=4) (N:=some 17) (v:=?_) (a':=?_) (zF0 35 31) rfl rfl (take_ofW HT_.out HW_.out (by kernel_rfl)) (fun _ _ _ h => h) (Or.inl ⟨by rfl,?_⟩) hHeld ?_ ?_;rotate_left
         ·rintro w' ⟨s0,s1,s2,s3,s4,s5,s6,s7,s8,s9⟩
          go_simp
          with_reducible rfl
         rotate_left
         ·simp only [Act.put,qA0,qB0,qC0,i64_w,i32_w];rfl
         refine zP0 (i:=5) (N:=some 18) (zF0 35 63) rfl rfl HT_.out ?_
         refine one_ (i:=6) (N:=some 19) (zF0 35 127) rfl rfl (one_of HT_.out (by kernel_rfl)) (by decide) (fun K hK => ?_)
         refine goes_ Try.func30 (by kernel_rfl) rfl #[.int .i64 (((rd_T42 l0 x3_1).f0).size : Int),.int .i64 1,.int .i64 20] (by rfl) rfl rfl zM0 ?_
         with_reducible refine (spec_l01In.calls (((rd_T42 l0 x3_1).f0).size : Int) 1 20 true _ A5.out).mono ?_
         rintro e w' ⟨rfl,⟨nd,rfl⟩⟩
         refine ⟨_,rfl,?_⟩
         refine hK.out _ _ ⟨((HB.out.cell (World.block_lt_of_cell? w _ hw121_0)).trans hw121_0),((HB.out.cell (World.block_lt_of_cell? w _ hw121_1)).trans hw121_1),((HB.out.cell (World.block_lt_of_cell? w _ hw121_2)).trans hw121_2),((HB.out.cell (World.block_lt_of_cell? w _ hw121_3)).trans hw121_3),((HB.out.cell (World.block_lt_of_cell? w _ hw121_4)).trans hw121_4),((HB.out.cell (World.block_lt_of_cell? w _ hw127_0)).trans hw127_0),((HB.out.cell (World.block_lt_of_cell? w _ hw127_1)).trans hw127_1),((HB.out.cell (World.block_lt_of_cell? w _ hw127_2)).trans hw127_2),((HB.out.cell (World.block_lt_of_cell? w _ hw127_3)).trans hw127_3),((HB.out.cell (World.block_lt_of_cell? w _ hw127_4)).trans hw127_4)⟩ (fun hHeld => ?_)
         clear hK K
         refine norm_ (a':=?_) ?_ ?_;rotate_left
         ·show Act.put _ (some 19) _ = _;simp only [Act.put,qA0,qB0,qC0,i64_w,i32_w];rfl
         refine zP0 (i:=7) (N:=some 20) (zF0 35 255) rfl rfl HT_.out ?_
         refine zP0 (i:=8) (N:=some 21) (zF0 35 511) rfl rfl HT_.out ?_
         refine zP0 (i:=9) (N:=some 22) (zF0 35 1023) rfl rfl HT_.out ?_
         refine zP0 (i:=10) (N:=some 23) (zF0 35 2047) rfl rfl HT_.out ?_
         refine zP0 (i:=11) (N:=some 24) (zF0 35 4095) rfl rfl HT_.out ?_
         refine zQ0 (i:=12) (N:=some 25) (zF0 35 8191) rfl rfl HT_.out ?_
         refine zQ0 (i:=13) (N:=some 26) (zF0 35 16383) rfl rfl HT_.out ?_
         refine zQ0 (i:=14) (N:=some 27) (zF0 35 32767) rfl rfl HT_.out ?_
         refine zQ0 (i:=15) (N:=some 28) (zF0 35 65535) rfl rfl HT_.out ?_
         refine zQ0 (i:=16) (N:=some 29) (zF0 35 131071) rfl rfl HT_.out ?_
         refine zQ0 (i:=17) (N:=some 30) (zF0 35 262143) rfl rfl HT_.out ?_
         refine zQ0 (i:=18) (N:=some 31) (zF0 35 524287) rfl rfl HT_.out ?_
         refine zQ0 (i:=19) (N:=some 32) (zF0 35 1048575) rfl rfl HT_.out ?_
         refine zQ0 (i:=20) (N:=some 33) (zF0 35 2097151) rfl rfl HT_.out ?_
         refine zQ0 (i:=21) (N:=some 34) (zF0 35 4194303) rfl rfl HT_.out ?_
         refine zQ0 (i:=22) (N:=some 35) (zF0 35 8388607) rfl rfl HT_.out ?_
         refine zQ0 (i:=23) (N:=some 36) (zF0 35 16777215) rfl rfl HT_.out ?_
         refine zP0 (i:=24) (N:=some 37) (zF0 35 33554431) rfl rfl HT_.out ?_
         refine zP0 (i:=25) (N:=some 38) (zF0 35 67108863) rfl rfl HT_.out ?_
         refine zP0 (i:=26) (N:=some 39) (zF0 35 134217727) rfl rfl HT_.out ?_
         refine zP0 (i:=27) (N:=some 40) (zF0 35 268435455) rfl rfl HT_.out ?_
         refine zP0 (i:=28) (N:=some 41) (zF0 35 536870911) rfl rfl HT_.out ?_
         refine zP0 (i:=29) (N:=some 42) (zF0 35 1073741823) rfl rfl HT_.out ?_
         refine zP0 (i:=30) (N:=some 43) (zF0 35 2147483647) rfl rfl HT_.out ?_
         refine take_ (i:=31) (N:=some 44) (v:=?_) (a':=?_) (zF0 35 4294967295) rfl rfl (take_ofW HT_.out HW_.out (by kernel_rfl)) (fun _ _ _ h => h) (Or.inl ⟨by rfl,?_⟩) hHeld ?_ ?_;rotate_left
         ·rintro w' ⟨s0,s1,s2,s3,s4,s5,s6,s7,s8,s9⟩
          go_simp
          with_reducible rfl
         rotate_left
         ·simp only [Act.put,qA0,qB0,qC0,i64_w,i32_w];rfl
         refine one_ (i:=32) (N:=some 45) (zF0 35 8589934591) rfl rfl (one_of HT_.out (by kernel_rfl)) (by decide) (fun K hK => ?_)
         refine goes_ Try.func31 (by kernel_rfl) rfl #[.agg #[.int .i64 ((rd_T42 l0 x3_1).f1.f0),.int .i64 ((rd_T42 l0 x3_1).f1.f1),.string ((rd_T42 l0 x3_1).f1.f2),.slice A121_4 ((rd_T42 l0 x3_1).f1.f3).length c121_4]] (by rfl) rfl rfl zM0 ?_
         with_reducible refine (spec_ValOk.calls k1 ((rd_T42 l0 x3_1).f1.f0) ((rd_T42 l0 x3_1).f1.f1) ((rd_T42 l0 x3_1).f1.f2) _ _ ((rd_T42 l0 x3_1).f1.f3) true _ ?side1 ?side2 A19.out).mono ?_
         (case side1 => repeat (first | exact (Kd.C_below HR127_4.out (by repeat (first | (with_reducible first | exact HB.out | apply below_alloc | apply pw_below_drewN | apply below_drew1) | exact HB.out))) | (with_reducible refine Kd.C_alloc ?_ _) | (with_reducible refine Kd.C_drewN ?_ _) | (with_reducible refine Kd.C_drew ?_)))
         (case side2 => exact HC127_4.out)
         rintro e w22 ⟨rfl,hb⟩
         refine ⟨_,rfl,?_⟩
         have n0_:=Aside0.mk (zS0 HB.out hb)
         clear HB
         have HB:=n0_
         clear n0_
         (try clear hb)
         (try clear hb2)
         (try clear hk)
         (try clear hi)
         refine hK.out _ _ ⟨((HB.out.cell (World.block_lt_of_cell? w _ hw121_0)).trans hw121_0),((HB.out.cell (World.block_lt_of_cell? w _ hw121_1)).trans hw121_1),((HB.out.cell (World.block_lt_of_cell? w _ hw121_2)).trans hw121_2),((HB.out.cell (World.block_lt_of_cell? w _ hw121_3)).trans hw121_3),((HB.out.cell (World.block_lt_of_cell? w _ hw121_4)).trans hw121_4),((HB.out.cell (World.block_lt_of_cell? w _ hw127_0)).trans hw127_0),((HB.out.cell (World.block_lt_of_cell? w _ hw127_1)).trans hw127_1),((HB.out.cell (World.block_lt_of_cell? w _ hw127_2)).trans hw127_2),((HB.out.cell (World.block_lt_of_cell? w _ hw127_3)).trans hw127_3),((HB.out.cell (World.block_lt_of_cell? w _ hw127_4)).trans hw127_4)⟩ (fun hHeld => ?_)
         clear hK K
         refine norm_ (a':=?_) ?_ ?_;rotate_left
         ·show Act.put _ (some 45) _ = _;simp only [Act.put,qA0,qB0,qC0,i64_w,i32_w];rfl
         refine zP0 (i:=33) (N:=some 46) (zF0 35 17179869183) rfl rfl HT_.out ?_
         refine zP0 (i:=34) (N:=some 47) (zF0 35 34359738367) rfl rfl HT_.out ?_
         refine done_ (done_of HT_.out (by kernel_rfl)) ?_
         try go_wp2
         go_roundg k1
         case measure => have:=HK1.out;omega
         case rel => exact ⟨(wrap64 (x3_1 + 1)),(by first | rfl | (simp;done) | (simp [*];done)),H',⟨by have:=HK1.out;omega⟩,⟨by repeat (first | (with_reducible first | exact HB.out | apply below_alloc | apply pw_below_drewN | apply below_drew1) | exact HB.out)⟩⟩
        ·replace c20:=Bool.eq_false_iff.mpr c20
         subst c20
         have H1 : (some false) = some r:=by rw [if_neg (show ¬ (false = true) by decide)] at H;exact H
         clear H
         have H:=H1
         clear H1
         obtain rfl:=Option.some.inj H
         try go_wp2
         have n0_:=Aside0.mk (below_drew1 HB.out)
         clear HB
         have HB:=n0_
         clear n0_
         have p121 : 0 ≤ (x3_1 : Int):=of_decide_eq_true (by first | (with_reducible assumption) | assumption)
         have q121 : x3_1 < (l0.length : Int):=of_decide_eq_true (by first | (with_reducible assumption) | assumption)
         obtain ⟨ad121,A121_4,c121_4,e121,hx121_0,hx121_1,hx121_2,hx121_3,hx121_4,hl121_4,hi121_4⟩:=at_T42 HR0.out x3_1 p121 q121
         have hw121_4:=hx121_4
         have hw121_3:=hx121_3
         have hw121_2:=hx121_2
         have hw121_1:=hx121_1
         have hw121_0:=hx121_0
         cases e121
         replace hx121_0:=(HB.out.cell (World.block_lt_of_cell? w _ hx121_0)).trans hx121_0
         replace hx121_1:=(HB.out.cell (World.block_lt_of_cell? w _ hx121_1)).trans hx121_1
         replace hx121_2:=(HB.out.cell (World.block_lt_of_cell? w _ hx121_2)).trans hx121_2
         replace hx121_3:=(HB.out.cell (World.block_lt_of_cell? w _ hx121_3)).trans hx121_3
         replace hx121_4:=(HB.out.cell (World.block_lt_of_cell? w _ hx121_4)).trans hx121_4
         have HR121_4:=Aside0.mk hi121_4
         have HC121_4:=Aside0.mk hl121_4
         clear hi121_4 hl121_4
         replace p121:=eq_true p121
         replace q121:=eq_true q121
         have p127 : 0 ≤ (x3_1 : Int):=of_decide_eq_true (by first | (with_reducible assumption) | assumption)
         have q127 : x3_1 < (l0.length : Int):=of_decide_eq_true (by first | (with_reducible assumption) | assumption)
         obtain ⟨ad127,A127_4,c127_4,e127,hx127_0,hx127_1,hx127_2,hx127_3,hx127_4,hl127_4,hi127_4⟩:=at_T42 HR0.out x3_1 p127 q127
         have hw127_4:=hx127_4
         have hw127_3:=hx127_3
         have hw127_2:=hx127_2
         have hw127_1:=hx127_1
         have hw127_0:=hx127_0
         obtain rfl : ad121 = ad127:=(by injection e127)
         replace hx127_0:=(HB.out.cell (World.block_lt_of_cell? w _ hx127_0)).trans hx127_0
         replace hx127_1:=(HB.out.cell (World.block_lt_of_cell? w _ hx127_1)).trans hx127_1
         replace hx127_2:=(HB.out.cell (World.block_lt_of_cell? w _ hx127_2)).trans hx127_2
         replace hx127_3:=(HB.out.cell (World.block_lt_of_cell? w _ hx127_3)).trans hx127_3
         replace hx127_4:=(HB.out.cell (World.block_lt_of_cell? w _ hx127_4)).trans hx127_4
         have HR127_4:=Aside0.mk hi127_4
         have HC127_4:=Aside0.mk hl127_4
         clear hi127_4 hl127_4
         replace p127:=eq_true p127
         replace q127:=eq_true q127
         have ea_:=Option.some.inj (hx121_4.symm.trans hx127_4)
         injection ea_ with ea_ en_ ec_
         subst ea_
         subst ec_
         clear en_
         refine start_ (n:=35) (S:=fun w' => w'.cell? (ad121.add ((x3_1).toNat * 5)) = some (.string ((rd_T42 l0 x3_1).f0)) ∧ w'.cell? ⟨(ad121.add ((x3_1).toNat * 5)).block,(ad121.add ((x3_1).toNat * 5)).off + 1,none⟩ = some (.int .i64 ((rd_T42 l0 x3_1).f1.f0)) ∧ w'.cell? ⟨(ad121.add ((x3_1).toNat * 5)).block,(ad121.add ((x3_1).toNat * 5)).off + 2,none⟩ = some (.int .i64 ((rd_T42 l0 x3_1).f1.f1)) ∧ w'.cell? ⟨(ad121.add ((x3_1).toNat * 5)).block,(ad121.add ((x3_1).toNat * 5)).off + 3,none⟩ = some (.string ((rd_T42 l0 x3_1).f1.f2)) ∧ w'.cell? ⟨(ad121.add ((x3_1).toNat * 5)).block,(ad121.add ((x3_1).toNat * 5)).off + 4,none⟩ = some (.slice A121_4 ((rd_T42 l0 x3_1).f1.f3).length c121_4) ∧ w'.cell? (ad121.add ((x3_1).toNat * 5)) = some (.string ((rd_T42 l0 x3_1).f0)) ∧ w'.cell? ⟨(ad121.add ((x3_1).toNat * 5)).block,(ad121.add ((x3_1).toNat * 5)).off + 1,none⟩ = some (.int .i64 ((rd_T42 l0 x3_1).f1.f0)) ∧ w'.cell? ⟨(ad121.add ((x3_1).toNat * 5)).block,(ad121.add ((x3_1).toNat * 5)).off + 2,none⟩ = some (.int .i64 ((rd_T42 l0 x3_1).f1.f1)) ∧ w'.cell? ⟨(ad121.add ((x3_1).toNat * 5)).block,(ad121.add ((x3_1).toNat * 5)).off + 3,none⟩ = some (.string ((rd_T42 l0 x3_1).f1.f2)) ∧ w'.cell? ⟨(ad121.add ((x3_1).toNat * 5)).block,(ad121.add ((x3_1).toNat * 5)).off + 4,none⟩ = some (.slice A121_4 ((rd_T42 l0 x3_1).f1.f3).length c121_4)) (ds:=[]) (zF0 35 0) (by kernel_rfl) rfl rfl ⟨((HB.out.cell (World.block_lt_of_cell? w _ hw121_0)).trans hw121_0),((HB.out.cell (World.block_lt_of_cell? w _ hw121_1)).trans hw121_1),((HB.out.cell (World.block_lt_of_cell? w _ hw121_2)).trans hw121_2),((HB.out.cell (World.block_lt_of_cell? w _ hw121_3)).trans hw121_3),((HB.out.cell (World.block_lt_of_cell? w _ hw121_4)).trans hw121_4),((HB.out.cell (World.block_lt_of_cell? w _ hw127_0)).trans hw127_0),((HB.out.cell (World.block_lt_of_cell? w _ hw127_1)).trans hw127_1),((HB.out.cell (World.block_lt_of_cell? w _ hw127_2)).trans hw127_2),((HB.out.cell (World.block_lt_of_cell? w _ hw127_3)).trans hw127_3),((HB.out.cell (World.block_lt_of_cell? w _ hw127_4)).trans hw127_4)⟩ (fun hHeld => ?_);refine with_tabW spec_TableOk.tab6 spec_TableOk.bits6 (fun HT_ HW_ => ?_)
         generalize wr.drew = w23 at HB HR121_4 HR127_4 hx121_0 hx121_1 hx121_2 hx121_3 hx121_4 hx127_0 hx127_1 hx127_2 hx127_3 hx127_4 hHeld ⊢
         refine zP0 (i:=0) (N:=some 13) (zF0 35 1) rfl rfl HT_.out ?_
         refine zP0 (i:=1) (N:=some 14) (zF0 35 3) rfl rfl HT_.out ?_
         refine zP0 (i:=2) (N:=some 15) (zF0 35 7) rfl rfl HT_.out ?_
         refine zP0 (i:=3) (N:=some 16) (zF0 35 15) rfl rfl HT_.out ?_
         refine take_ (i:=4) (N:=some 17) (v:=?_) (a':=?_) (zF0 35 31) rfl rfl (take_ofW HT_.out HW_.out (by kernel_rfl)) (fun _ _ _ h => h) (Or.inl ⟨by rfl,?_⟩) hHeld ?_ ?_;rotate_left
         ·rintro w' ⟨s0,s1,s2,s3,s4,s5,s6,s7,s8,s9⟩
          go_simp
          with_reducible rfl
         rotate_left
         ·simp only [Act.put,qA0,qB0,qC0,i64_w,i32_w];rfl
         refine zP0 (i:=5) (N:=some 18) (zF0 35 63) rfl rfl HT_.out ?_
         refine one_ (i:=6) (N:=some 19) (zF0 35 127) rfl rfl (one_of HT_.out (by kernel_rfl)) (by decide) (fun K hK => ?_)
         refine goes_ Try.func30 (by kernel_rfl) rfl #[.int .i64 (((rd_T42 l0 x3_1).f0).size : Int),.int .i64 1,.int .i64 20] (by rfl) rfl rfl zM0 ?_
         with_reducible refine (spec_l01In.calls (((rd_T42 l0 x3_1).f0).size : Int) 1 20 true _ A5.out).mono ?_
         rintro e w' ⟨rfl,⟨nd,rfl⟩⟩
         refine ⟨_,rfl,?_⟩
         refine hK.out _ _ ⟨((HB.out.cell (World.block_lt_of_cell? w _ hw121_0)).trans hw121_0),((HB.out.cell (World.block_lt_of_cell? w _ hw121_1)).trans hw121_1),((HB.out.cell (World.block_lt_of_cell? w _ hw121_2)).trans hw121_2),((HB.out.cell (World.block_lt_of_cell? w _ hw121_3)).trans hw121_3),((HB.out.cell (World.block_lt_of_cell? w _ hw121_4)).trans hw121_4),((HB.out.cell (World.block_lt_of_cell? w _ hw127_0)).trans hw127_0),((HB.out.cell (World.block_lt_of_cell? w _ hw127_1)).trans hw127_1),((HB.out.cell (World.block_lt_of_cell? w _ hw127_2)).trans hw127_2),((HB.out.cell (World.block_lt_of_cell? w _ hw127_3)).trans hw127_3),((HB.out.cell (World.block_lt_of_cell? w _ hw127_4)).trans hw127_4)⟩ (fun hHeld => ?_)
         clear hK K
         refine norm_ (a':=?_) ?_ ?_;rotate_left
         ·show Act.put _ (some 19) _ = _;simp only [Act.put,qA0,qB0,qC0,i64_w,i32_w];rfl
         refine zP0 (i:=7) (N:=some 20) (zF0 35 255) rfl rfl HT_.out ?_
         refine zP0 (i:=8) (N:=some 21) (zF0 35 511) rfl rfl HT_.out ?_
         refine zP0 (i:=9) (N:=some 22) (zF0 35 1023) rfl rfl HT_.out ?_
         refine zP0 (i:=10) (N:=some 23) (zF0 35 2047) rfl rfl HT_.out ?_
         refine zP0 (i:=11) (N:=some 24) (zF0 35 4095) rfl rfl HT_.out ?_
         refine zQ0 (i:=12) (N:=some 25) (zF0 35 8191) rfl rfl HT_.out ?_
         refine zQ0 (i:=13) (N:=some 26) (zF0 35 16383) rfl rfl HT_.out ?_
         refine zQ0 (i:=14) (N:=some 27) (zF0 35 32767) rfl rfl HT_.out ?_
         refine zQ0 (i:=15) (N:=some 28) (zF0 35 65535) rfl rfl HT_.out ?_
         refine zQ0 (i:=16) (N:=some 29) (zF0 35 131071) rfl rfl HT_.out ?_
         refine zQ0 (i:=17) (N:=some 30) (zF0 35 262143) rfl rfl HT_.out ?_
         refine zQ0 (i:=18) (N:=some 31) (zF0 35 524287) rfl rfl HT_.out ?_
         refine zQ0 (i:=19) (N:=some 32) (zF0 35 1048575) rfl rfl HT_.out ?_
         refine zQ0 (i:=20) (N:=some 33) (zF0 35 2097151) rfl rfl HT_.out ?_
         refine zQ0 (i:=21) (N:=some 34) (zF0 35 4194303) rfl rfl HT_.out ?_
         refine zQ0 (i:=22) (N:=some 35) (zF0 35 8388607) rfl rfl HT_.out ?_
         refine zQ0 (i:=23) (N:=some 36) (zF0 35 16777215) rfl rfl HT_.out ?_
         refine zP0 (i:=24) (N:=some 37) (zF0 35 33554431) rfl rfl HT_.out ?_
         refine zP0 (i:=25) (N:=some 38) (zF0 35 67108863) rfl rfl HT_.out ?_
         refine zP0 (i:=26) (N:=some 39) (zF0 35 134217727) rfl rfl HT_.out ?_
         refine zP0 (i:=27) (N:=some 40) (zF0 35 268435455) rfl rfl HT_.out ?_
         refine zP0 (i:=28) (N:=some 41) (zF0 35 536870911) rfl rfl HT_.out ?_
         refine zP0 (i:=29) (N:=some 42) (zF0 35 1073741823) rfl rfl HT_.out ?_
         refine zP0 (i:=30) (N:=some 43) (zF0 35 2147483647) rfl rfl HT_.out ?_
         refine take_ (i:=31) (N:=some 44) (v:=?_) (a':=?_) (zF0 35 4294967295) rfl rfl (take_ofW HT_.out HW_.out (by kernel_rfl)) (fun _ _ _ h => h) (Or.inl ⟨by rfl,?_⟩) hHeld ?_ ?_;rotate_left
         ·rintro w' ⟨s0,s1,s2,s3,s4,s5,s6,s7,s8,s9⟩
          go_simp
          with_reducible rfl
         rotate_left
         ·simp only [Act.put,qA0,qB0,qC0,i64_w,i32_w];rfl
         refine one_ (i:=32) (N:=some 45) (zF0 35 8589934591) rfl rfl (one_of HT_.out (by kernel_rfl)) (by decide) (fun K hK => ?_)
         refine goes_ Try.func31 (by kernel_rfl) rfl #[.agg #[.int .i64 ((rd_T42 l0 x3_1).f1.f0),.int .i64 ((rd_T42 l0 x3_1).f1.f1),.string ((rd_T42 l0 x3_1).f1.f2),.slice A121_4 ((rd_T42 l0 x3_1).f1.f3).length c121_4]] (by rfl) rfl rfl zM0 ?_
         with_reducible refine (spec_ValOk.calls k1 ((rd_T42 l0 x3_1).f1.f0) ((rd_T42 l0 x3_1).f1.f1) ((rd_T42 l0 x3_1).f1.f2) _ _ ((rd_T42 l0 x3_1).f1.f3) false _ ?side1 ?side2 A19.out).mono ?_
         (case side1 => repeat (first | exact (Kd.C_below HR127_4.out (by repeat (first | (with_reducible first | exact HB.out | apply below_alloc | apply pw_below_drewN | apply below_drew1) | exact HB.out))) | (with_reducible refine Kd.C_alloc ?_ _) | (with_reducible refine Kd.C_drewN ?_ _) | (with_reducible refine Kd.C_drew ?_)))
         (case side2 => exact HC127_4.out)
         rintro e w24 ⟨rfl,hb⟩
         refine ⟨_,rfl,?_⟩
         have n0_:=Aside0.mk (zS0 HB.out hb)
         clear HB
         have HB:=n0_
         clear n0_
         (try clear hb)
         (try clear hb2)
         (try clear hk)
         (try clear hi)
         refine hK.out _ _ ⟨((HB.out.cell (World.block_lt_of_cell? w _ hw121_0)).trans hw121_0),((HB.out.cell (World.block_lt_of_cell? w _ hw121_1)).trans hw121_1),((HB.out.cell (World.block_lt_of_cell? w _ hw121_2)).trans hw121_2),((HB.out.cell (World.block_lt_of_cell? w _ hw121_3)).trans hw121_3),((HB.out.cell (World.block_lt_of_cell? w _ hw121_4)).trans hw121_4),((HB.out.cell (World.block_lt_of_cell? w _ hw127_0)).trans hw127_0),((HB.out.cell (World.block_lt_of_cell? w _ hw127_1)).trans hw127_1),((HB.out.cell (World.block_lt_of_cell? w _ hw127_2)).trans hw127_2),((HB.out.cell (World.block_lt_of_cell? w _ hw127_3)).trans hw127_3),((HB.out.cell (World.block_lt_of_cell? w _ hw127_4)).trans hw127_4)⟩ (fun hHeld => ?_)
         clear hK K
         refine norm_ (a':=?_) ?_ ?_;rotate_left
         ·show Act.put _ (some 45) _ = _;simp only [Act.put,qA0,qB0,qC0,i64_w,i32_w];rfl
         refine zP0 (i:=33) (N:=some 46) (zF0 35 17179869183) rfl rfl HT_.out ?_
         refine zP0 (i:=34) (N:=some 47) (zF0 35 34359738367) rfl rfl HT_.out ?_
         refine done_ (done_of HT_.out (by kernel_rfl)) ?_
         try go_wp2
         go_ret
         exact ⟨by first | rfl | (simp [errW_none,errW_some] <;> rfl) | (simp [*,errW_none,errW_some] <;> rfl),by repeat (first | (with_reducible first | exact HB.out | apply below_alloc | apply pw_below_drewN | apply below_drew1) | exact HB.out)⟩
      ·replace c6:=Bool.eq_false_iff.mpr c6
       subst c6
       have H1 : (some false) = some r:=by rw [if_neg (show ¬ (false = true) by decide)] at H;exact H
       clear H
       have H:=H1
       clear H1
       obtain rfl:=Option.some.inj H
       try go_wp2
       have n0_:=Aside0.mk (below_drew1 HB.out)
       clear HB
       have HB:=n0_
       clear n0_
       have p121 : 0 ≤ (x3_1 : Int):=of_decide_eq_true (by first | (with_reducible assumption) | assumption)
       have q121 : x3_1 < (l0.length : Int):=of_decide_eq_true (by first | (with_reducible assumption) | assumption)
       obtain ⟨ad121,A121_4,c121_4,e121,hx121_0,hx121_1,hx121_2,hx121_3,hx121_4,hl121_4,hi121_4⟩:=at_T42 HR0.out x3_1 p121 q121
       have hw121_4:=hx121_4
       have hw121_3:=hx121_3
       have hw121_2:=hx121_2
       have hw121_1:=hx121_1
       have hw121_0:=hx121_0
       cases e121
       replace hx121_0:=(HB.out.cell (World.block_lt_of_cell? w _ hx121_0)).trans hx121_0
       replace hx121_1:=(HB.out.cell (World.block_lt_of_cell? w _ hx121_1)).trans hx121_1
       replace hx121_2:=(HB.out.cell (World.block_lt_of_cell? w _ hx121_2)).trans hx121_2
       replace hx121_3:=(HB.out.cell (World.block_lt_of_cell? w _ hx121_3)).trans hx121_3
       replace hx121_4:=(HB.out.cell (World.block_lt_of_cell? w _ hx121_4)).trans hx121_4
       have HR121_4:=Aside0.mk hi121_4
       have HC121_4:=Aside0.mk hl121_4
       clear hi121_4 hl121_4
       replace p121:=eq_true p121
       replace q121:=eq_true q121
       refine start_ (n:=35) (S:=fun w' => w'.cell? (ad121.add ((x3_1).toNat * 5)) = some (.string ((rd_T42 l0 x3_1).f0)) ∧ w'.cell? ⟨(ad121.add ((x3_1).toNat * 5)).block,(ad121.add ((x3_1).toNat * 5)).off + 1,none⟩ = some (.int .i64 ((rd_T42 l0 x3_1).f1.f0)) ∧ w'.cell? ⟨(ad121.add ((x3_1).toNat * 5)).block,(ad121.add ((x3_1).toNat * 5)).off + 2,none⟩ = some (.int .i64 ((rd_T42 l0 x3_1).f1.f1)) ∧ w'.cell? ⟨(ad121.add ((x3_1).toNat * 5)).block,(ad121.add ((x3_1).toNat * 5)).off + 3,none⟩ = some (.string ((rd_T42 l0 x3_1).f1.f2)) ∧ w'.cell? ⟨(ad121.add ((x3_1).toNat * 5)).block,(ad121.add ((x3_1).toNat * 5)).off + 4,none⟩ = some (.slice A121_4 ((rd_T42 l0 x3_1).f1.f3).length c121_4)) (ds:=[]) (zF0 35 0) (by kernel_rfl) rfl rfl ⟨((HB.out.cell (World.block_lt_of_cell? w _ hw121_0)).trans hw121_0),((HB.out.cell (World.block_lt_of_cell? w _ hw121_1)).trans hw121_1),((HB.out.cell (World.block_lt_of_cell? w _ hw121_2)).trans hw121_2),((HB.out.cell (World.block_lt_of_cell? w _ hw121_3)).trans hw121_3),((HB.out.cell (World.block_lt_of_cell? w _ hw121_4)).trans hw121_4)⟩ (fun hHeld => ?_);refine with_tabW spec_TableOk.tab6 spec_TableOk.bits6 (fun HT_ HW_ => ?_)
       generalize wr.drew = w25 at HB HR121_4 hx121_0 hx121_1 hx121_2 hx121_3 hx121_4 hHeld ⊢
       refine zP0 (i:=0) (N:=some 13) (zF0 35 1) rfl rfl HT_.out ?_
       refine zP0 (i:=1) (N:=some 14) (zF0 35 3) rfl rfl HT_.out ?_
       refine zP0 (i:=2) (N:=some 15) (zF0 35 7) rfl rfl HT_.out ?_
       refine zP0 (i:=3) (N:=some 16) (zF0 35 15) rfl rfl HT_.out ?_
       refine take_ (i:=4) (N:=some 17) (v:=?_) (a':=?_) (zF0 35 31) rfl rfl (take_ofW HT_.out HW_.out (by kernel_rfl)) (fun _ _ _ h => h) (Or.inl ⟨by rfl,?_⟩) hHeld ?_ ?_;rotate_left
       ·rintro w' ⟨s0,s1,s2,s3,s4⟩
        go_simp
        with_reducible rfl
       rotate_left
       ·simp only [Act.put,qA0,qB0,qC0,i64_w,i32_w];rfl
       refine zP0 (i:=5) (N:=some 18) (zF0 35 63) rfl rfl HT_.out ?_
       refine one_ (i:=6) (N:=some 19) (zF0 35 127) rfl rfl (one_of HT_.out (by kernel_rfl)) (by decide) (fun K hK => ?_)
       refine goes_ Try.func30 (by kernel_rfl) rfl #[.int .i64 (((rd_T42 l0 x3_1).f0).size : Int),.int .i64 1,.int .i64 20] (by rfl) rfl rfl zM0 ?_
       with_reducible refine (spec_l01In.calls (((rd_T42 l0 x3_1).f0).size : Int) 1 20 false _ A5.out).mono ?_
       rintro e w' ⟨rfl,⟨nd,rfl⟩⟩
       refine ⟨_,rfl,?_⟩
       refine hK.out _ _ ⟨((HB.out.cell (World.block_lt_of_cell? w _ hw121_0)).trans hw121_0),((HB.out.cell (World.block_lt_of_cell? w _ hw121_1)).trans hw121_1),((HB.out.cell (World.block_lt_of_cell? w _ hw121_2)).trans hw121_2),((HB.out.cell (World.block_lt_of_cell? w _ hw121_3)).trans hw121_3),((HB.out.cell (World.block_lt_of_cell? w _ hw121_4)).trans hw121_4)⟩ (fun hHeld => ?_)
       clear hK K
       refine norm_ (a':=?_) ?_ ?_;rotate_left
       ·show Act.put _ (some 19) _ = _;simp only [Act.put,qA0,qB0,qC0,i64_w,i32_w];rfl
       refine zP0 (i:=7) (N:=some 20) (zF0 35 255) rfl rfl HT_.out ?_
       refine zP0 (i:=8) (N:=some 21) (zF0 35 511) rfl rfl HT_.out ?_
       refine zQ0 (i:=9) (N:=some 22) (zF0 35 1023) rfl rfl HT_.out ?_
       refine zQ0 (i:=10) (N:=some 23) (zF0 35 2047) rfl rfl HT_.out ?_
       refine zQ0 (i:=11) (N:=some 24) (zF0 35 4095) rfl rfl HT_.out ?_
       refine zQ0 (i:=12) (N:=some 25) (zF0 35 8191) rfl rfl HT_.out ?_
       refine zQ0 (i:=13) (N:=some 26) (zF0 35 16383) rfl rfl HT_.out ?_
       refine zQ0 (i:=14) (N:=some 27) (zF0 35 32767) rfl rfl HT_.out ?_
       refine zQ0 (i:=15) (N:=some 28) (zF0 35 65535) rfl rfl HT_.out ?_
       refine zQ0 (i:=16) (N:=some 29) (zF0 35 131071) rfl rfl HT_.out ?_
       refine zQ0 (i:=17) (N:=some 30) (zF0 35 262143) rfl rfl HT_.out ?_
       refine zQ0 (i:=18) (N:=some 31) (zF0 35 524287) rfl rfl HT_.out ?_
       refine zQ0 (i:=19) (N:=some 32) (zF0 35 1048575) rfl rfl HT_.out ?_
       refine zQ0 (i:=20) (N:=some 33) (zF0 35 2097151) rfl rfl HT_.out ?_
       refine zQ0 (i:=21) (N:=some 34) (zF0 35 4194303) rfl rfl HT_.out ?_
       refine zQ0 (i:=22) (N:=some 35) (zF0 35 8388607) rfl rfl HT_.out ?_
       refine zQ0 (i:=23) (N:=some 36) (zF0 35 16777215) rfl rfl HT_.out ?_
       refine zQ0 (i:=24) (N:=some 37) (zF0 35 33554431) rfl rfl HT_.out ?_
       refine zP0 (i:=25) (N:=some 38) (zF0 35 67108863) rfl rfl HT_.out ?_
       refine zP0 (i:=26) (N:=some 39) (zF0 35 134217727) rfl rfl HT_.out ?_
       refine zQ0 (i:=27) (N:=some 40) (zF0 35 268435455) rfl rfl HT_.out ?_
       refine zQ0 (i:=28) (N:=some 41) (zF0 35 536870911) rfl rfl HT_.out ?_
       refine zQ0 (i:=29) (N:=some 42) (zF0 35 1073741823) rfl rfl HT_.out ?_
       refine zQ0 (i:=30) (N:=some 43) (zF0 35 2147483647) rfl rfl HT_.out ?_
       refine zQ0 (i:=31) (N:=some 44) (zF0 35 4294967295) rfl rfl HT_.out ?_
       refine zQ0 (i:=32) (N:=some 45) (zF0 35 8589934591) rfl rfl HT_.out ?_
       refine zQ0 (i:=33) (N:=some 46) (zF0 35 17179869183) rfl rfl HT_.out ?_
       refine zP0 (i:=34) (N:=some 47) (zF0 35 34359738367) rfl rfl HT_.out ?_
       refine done_ (done_of HT_.out (by kernel_rfl)) ?_
       try go_wp2
       go_ret
       exact ⟨by first | rfl | (simp [errW_none,errW_some] <;> rfl) | (simp [*,errW_none,errW_some] <;> rfl),by repeat (first | (with_reducible first | exact HB.out | apply below_alloc | apply pw_below_drewN | apply below_drew1) | exact HB.out)⟩
     ·rw [if_neg c4] at H
      exact absurd H (by simp)
    ·rw [if_neg c3] at H
     have c3b0 : decide (x3_1 < (l0.length : Int)) = false:=decide_eq_false c3
     clear c3
     obtain rfl:=Option.some.inj H
     go_wp2
     go_ret
     exact ⟨by first | rfl | (simp [errW_none,errW_some] <;> rfl) | (simp [*,errW_none,errW_some] <;> rfl),by repeat (first | (with_reducible first | exact HB.out | apply below_alloc | apply pw_below_drewN | apply below_drew1) | exact HB.out)⟩

end Go.Proofs.Ytlekhcopddajbaa.PFnExactDiffer
