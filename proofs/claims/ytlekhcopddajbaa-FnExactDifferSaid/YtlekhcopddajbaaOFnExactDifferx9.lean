/- Walks of functions that the law FnExactDiffer reaches, turned by this session from a print of which a part did not build; what was changed is listed in wip/patches of the proofs' repo. -/
import Derived.Test.YtlekhcopddajbaaOFnExactDifferx0
import Derived.Test.YtlekhcopddajbaaOFnExactDifferx8
namespace Go.Proofs.Ytlekhcopddajbaa.PFnExactDiffer
open Go.RowKit Go.Proofs.YtlekhcopddajbaaW.PrintWords Go.Proofs.YtlekhcopddajbaaW.PrintLast Go.Proofs.YtlekhcopddajbaaW.PrintMore
attribute [local go_sem] max2_int min2_int max_two min_two max_three min_three max_four min_four   -- for this text's walks alone
set_option linter.unusedVariables false
set_option linter.unusedSimpArgs false

/-! ### impl_ValOk: function 36 -/
def impl_ValOk.f (k : Nat) (a0_0 : Int) (a0_1 : Int) (a0_2 : ByteArray) (l0_3 : List ByteArray) : Option (Bool):=(impl_within.f a0_1 0 100000).bind fun t220 => (if t220 = true then (if a0_0 = 1 then (if (a0_2.size : Int) ≤ 60 then (some ((l0_3.length : Int) == 0)) else (some false)) else (if a0_0 = 2 then (if a0_2.toList = ([] : List UInt8) then ((impl_itemsOk.f k a0_0 l0_3).bind fun t221 => (some t221)) else (some false)) else (if a0_0 = 3 then (if a0_2.toList = ([] : List UInt8) then ((impl_itemsOk.f k a0_0 l0_3).bind fun t222 => (some t222)) else (some false)) else (if a0_0 = 4 then (if a0_2.toList = ([] : List UInt8) then ((impl_itemsOk.f k a0_0 l0_3).bind fun t223 => (some t223)) else (some false)) else (some false))))) else (some false))
theorem impl_ValOk.mono : ∀ a0 a1 a2 a3 k,LeO (impl_ValOk.f k a0 a1 a2 a3) (impl_ValOk.f (k + 1) a0 a1 a2 a3):=by
 intro a0 a1 a2 a3 k
 unfold impl_ValOk.f
 repeat' first
   | (with_reducible exact impl_itemsOk.mono _ _ _)
   | (with_reducible exact LeO.refl _)
   | (with_reducible exact LeO.none _)
   | (with_reducible refine LeO.ite ?_ ?_)
   | (with_reducible refine LeO.bind ?_ (fun _ => ?_))
   | exact impl_itemsOk.mono _ _ _
   | exact LeO.none _
   | refine LeO.ite ?_ ?_
   | refine LeO.bind ?_ (fun _ => ?_)
set_option maxHeartbeats 8000000 in
set_option maxRecDepth 100000 in
theorem impl_ValOk.calls (k : Nat) (a0_0 : Int) (a0_1 : Int) (a0_2 : ByteArray) (A0_3 : Option Addr) (c0_3 : Nat) (l0_3 : List ByteArray) (r : Bool) (w : World) (hr0_3 : Kd.C Kd.string w A0_3 l0_3.length l0_3) (hc0_3 : l0_3.length ≤ c0_3) (h : impl_ValOk.f k a0_0 a0_1 a0_2 l0_3 = some r) :
  Calls Try.prog 36 #[.agg #[.int .i64 a0_0,.int .i64 a0_1,.string a0_2,.slice A0_3 l0_3.length c0_3]] w fun e w' => e = .returned (.bool r) ∧ Below w.heap.size w w':=by
 have hu40:=Try.underlying40
 have HR0_3:=Aside0.mk hr0_3
 have HC0_3:=Aside0.mk hc0_3
 clear hr0_3 hc0_3
 have HB:=Aside0.mk (Below.refl w.heap.size w)
 have H : ((impl_within.f a0_1 0 100000).bind fun t220 => (if t220 = true then (if a0_0 = 1 then (if (a0_2.size : Int) ≤ 60 then (some ((l0_3.length : Int) == 0)) else (some false)) else (if a0_0 = 2 then (if a0_2.toList = ([] : List UInt8) then ((impl_itemsOk.f k a0_0 l0_3).bind fun t221 => (some t221)) else (some false)) else (if a0_0 = 3 then (if a0_2.toList = ([] : List UInt8) then ((impl_itemsOk.f k a0_0 l0_3).bind fun t222 => (some t222)) else (some false)) else (if a0_0 = 4 then (if a0_2.toList = ([] : List UInt8) then ((impl_itemsOk.f k a0_0 l0_3).bind fun t223 => (some t223)) else (some false)) else (some false))))) else (some false))) = some r:=h
 clear h
 replace H:=Option.bind_eq_some_iff.mp H
 obtain ⟨t220,A20,H⟩:=H
 replace H : (if t220 = true then (if a0_0 = 1 then (if (a0_2.size : Int) ≤ 60 then (some ((l0_3.length : Int) == 0)) else (some false)) else (if a0_0 = 2 then (if a0_2.toList = ([] : List UInt8) then ((impl_itemsOk.f k a0_0 l0_3).bind fun t221 => (some t221)) else (some false)) else (if a0_0 = 3 then (if a0_2.toList = ([] : List UInt8) then ((impl_itemsOk.f k a0_0 l0_3).bind fun t222 => (some t222)) else (some false)) else (if a0_0 = 4 then (if a0_2.toList = ([] : List UInt8) then ((impl_itemsOk.f k a0_0 l0_3).bind fun t223 => (some t223)) else (some false)) else (some false))))) else (some false)) = some r:=H
 have A2:=Aside0.mk A20
 clear A20
 by_cases c3 : t220 = true
 ·subst c3
  have H1 : (if a0_0 = 1 then (if (a0_2.size : Int) ≤ 60 then (some ((l0_3.length : Int) == 0)) else (some false)) else (if a0_0 = 2 then (if a0_2.toList = ([] : List UInt8) then ((impl_itemsOk.f k a0_0 l0_3).bind fun t221 => (some t221)) else (some false)) else (if a0_0 = 3 then (if a0_2.toList = ([] : List UInt8) then ((impl_itemsOk.f k a0_0 l0_3).bind fun t222 => (some t222)) else (some false)) else (if a0_0 = 4 then (if a0_2.toList = ([] : List UInt8) then ((impl_itemsOk.f k a0_0 l0_3).bind fun t223 => (some t223)) else (some false)) else (some false))))) = some r:=by rw [if_pos rfl] at H;exact H
  clear H
  have H:=H1
  clear H1
  by_cases c4 : a0_0 = 1
  ·rw [if_pos c4] at H
   have c4b0 : (a0_0 == 1) = true:=beq_iff_eq.mpr c4
   have c4b1 : (a0_0 != 1) = false:=bne_eq_false_iff_eq.mpr c4
   clear c4
   by_cases c5 : (a0_2.size : Int) ≤ 60
   ·rw [if_pos c5] at H
    have c5b0 : decide ((a0_2.size : Int) ≤ 60) = true:=decide_eq_true c5
    have c5b1 : decide (a0_2.size ≤ 60) = true:=decide_eq_true (by omega)
    clear c5
    obtain rfl:=Option.some.inj H
    go_enter Try.func36,Try.ntmps36
    go_wp2_with (first | ((with_reducible refine gate_dst (N:=1) rfl ?_);(try (refine gate_guard (by rfl) ?_;dsimp only));refine box_event ?hg (N:=1) ?hd (cs:=#[.int .i64 a0_0,.int .i64 a0_1,.string a0_2,.slice A0_3 l0_3.length c0_3]) (t:=40) ?hr ?_;(case hd => rfl);(case hg => rfl);(case hr => first | (go_simp;done) | (go_simp;rfl));intro gb219 hg w6 hbox hb;have n0_:=Aside0.mk (zS0 HB.out hb);have n1_:=Aside0.mk (hbox);have n2_:=Aside0.mk ((by rw [hg];exact (zZ0 HB.out) : w.heap.size ≤ gb219));have n3_:=Aside0.mk ((by rw [hg];exact (zZ0 HB.out) : w.heap.size ≤ gb219));clear HB;have HB:=n0_;have BK219:=n1_;have GW219:=n2_;have GE219:=n3_;clear n0_ n1_ n2_ n3_;clear hb hbox hg;have hcz7_0 : w6.cell? ⟨gb219,0,none⟩ = some (.int .i64 a0_0):=(blk_cell BK219.out 0).trans rfl;have hcz7_1 : w6.cell? ⟨gb219,1,none⟩ = some (.int .i64 a0_1):=(blk_cell BK219.out 1).trans rfl;have hcz7_2 : w6.cell? ⟨gb219,2,none⟩ = some (.string a0_2):=(blk_cell BK219.out 2).trans rfl;have hcz7_3 : w6.cell? ⟨gb219,3,none⟩ = some (.slice A0_3 l0_3.length c0_3):=(blk_cell BK219.out 3).trans rfl;have hfz7_0:=blk_frozen BK219.out 0;have hfz7_1:=blk_frozen BK219.out 1;have hfz7_2:=blk_frozen BK219.out 2;have hfz7_3:=blk_frozen BK219.out 3) | ((with_reducible refine gate_callee (f:=49) rfl ?_);refine goesL_ (some 5) rfl rfl Try.func49 (by kernel_rfl) rfl #[.int .i64 a0_1,.int .i64 0,.int .i64 100000] rfl zM0 ?_;(with_reducible refine (impl_within.calls a0_1 0 100000 true _ A2.out).mono ?_);rintro e w' ⟨rfl,⟨nd,rfl⟩⟩;refine ⟨_,rfl,?_⟩))
    go_ret
    exact ⟨by first | rfl | (simp [errW_none,errW_some] <;> rfl) | (simp [*,errW_none,errW_some] <;> rfl),by repeat (first | (with_reducible first | exact HB.out | apply below_alloc | apply pw_below_drewN | apply below_drew1 | refine below_set ?_ GE219.out) | exact HB.out)⟩
   ·rw [if_neg c5] at H
    have c5b0 : decide ((a0_2.size : Int) ≤ 60) = false:=decide_eq_false c5
    have c5b1 : decide (a0_2.size ≤ 60) = false:=decide_eq_false (by omega)
    clear c5
    obtain rfl:=Option.some.inj H
    go_enter Try.func36,Try.ntmps36
    go_wp2_with (first | ((with_reducible refine gate_dst (N:=1) rfl ?_);(try (refine gate_guard (by rfl) ?_;dsimp only));refine box_event ?hg (N:=1) ?hd (cs:=#[.int .i64 a0_0,.int .i64 a0_1,.string a0_2,.slice A0_3 l0_3.length c0_3]) (t:=40) ?hr ?_;(case hd => rfl);(case hg => rfl);(case hr => first | (go_simp;done) | (go_simp;rfl));intro gb219 hg w8 hbox hb;have n0_:=Aside0.mk (zS0 HB.out hb);have n1_:=Aside0.mk (hbox);have n2_:=Aside0.mk ((by rw [hg];exact (zZ0 HB.out) : w.heap.size ≤ gb219));have n3_:=Aside0.mk ((by rw [hg];exact (zZ0 HB.out) : w.heap.size ≤ gb219));clear HB;have HB:=n0_;have BK219:=n1_;have GW219:=n2_;have GE219:=n3_;clear n0_ n1_ n2_ n3_;clear hb hbox hg;have hcz9_0 : w8.cell? ⟨gb219,0,none⟩ = some (.int .i64 a0_0):=(blk_cell BK219.out 0).trans rfl;have hcz9_1 : w8.cell? ⟨gb219,1,none⟩ = some (.int .i64 a0_1):=(blk_cell BK219.out 1).trans rfl;have hcz9_2 : w8.cell? ⟨gb219,2,none⟩ = some (.string a0_2):=(blk_cell BK219.out 2).trans rfl;have hcz9_3 : w8.cell? ⟨gb219,3,none⟩ = some (.slice A0_3 l0_3.length c0_3):=(blk_cell BK219.out 3).trans rfl;have hfz9_0:=blk_frozen BK219.out 0;have hfz9_1:=blk_frozen BK219.out 1;have hfz9_2:=blk_frozen BK219.out 2;have hfz9_3:=blk_frozen BK219.out 3) | ((with_reducible refine gate_callee (f:=49) rfl ?_);refine goesL_ (some 5) rfl rfl Try.func49 (by kernel_rfl) rfl #[.int .i64 a0_1,.int .i64 0,.int .i64 100000] rfl zM0 ?_;(with_reducible refine (impl_within.calls a0_1 0 100000 true _ A2.out).mono ?_);rintro e w' ⟨rfl,⟨nd,rfl⟩⟩;refine ⟨_,rfl,?_⟩))
    go_ret
    exact ⟨by first | rfl | (simp [errW_none,errW_some] <;> rfl) | (simp [*,errW_none,errW_some] <;> rfl),by repeat (first | (with_reducible first | exact HB.out | apply below_alloc | apply pw_below_drewN | apply below_drew1 | refine below_set ?_ GE219.out) | exact HB.out)⟩
  ·rw [if_neg c4] at H
   have c4b0 : (a0_0 == 1) = false:=beq_eq_false_iff_ne.mpr c4
   have c4b1 : (a0_0 != 1) = true:=bne_iff_ne.mpr c4
   by_cases c10 : a0_0 = 2
   ·rw [if_pos c10] at H
    have c10b0 : (a0_0 == 2) = true:=beq_iff_eq.mpr c10
    have c10b1 : (a0_0 != 2) = false:=bne_eq_false_iff_eq.mpr c10
    clear c10
    by_cases c11 : a0_2.toList = ([] : List UInt8)
    ·rw [if_pos c11] at H
     have c11b0 : (a0_2.toList == ([] : List UInt8)) = true:=beq_iff_eq.mpr c11
     have c11b1 : (a0_2.toList != ([] : List UInt8)) = false:=bne_eq_false_iff_eq.mpr c11
     clear c11
     replace H:=Option.bind_eq_some_iff.mp H
     obtain ⟨t221,A120,H⟩:=H
     replace H : (some t221) = some r:=H
     have A12:=Aside0.mk A120
     clear A120
     obtain rfl:=Option.some.inj H
     go_enter Try.func36,Try.ntmps36
     go_wp2_with (first | ((with_reducible refine gate_dst (N:=1) rfl ?_);(try (refine gate_guard (by rfl) ?_;dsimp only));refine box_event ?hg (N:=1) ?hd (cs:=#[.int .i64 a0_0,.int .i64 a0_1,.string a0_2,.slice A0_3 l0_3.length c0_3]) (t:=40) ?hr ?_;(case hd => rfl);(case hg => rfl);(case hr => first | (go_simp;done) | (go_simp;rfl));intro gb219 hg w13 hbox hb;have n0_:=Aside0.mk (zS0 HB.out hb);have n1_:=Aside0.mk (hbox);have n2_:=Aside0.mk ((by rw [hg];exact (zZ0 HB.out) : w.heap.size ≤ gb219));have n3_:=Aside0.mk ((by rw [hg];exact (zZ0 HB.out) : w.heap.size ≤ gb219));clear HB;have HB:=n0_;have BK219:=n1_;have GW219:=n2_;have GE219:=n3_;clear n0_ n1_ n2_ n3_;clear hb hbox hg;have hcz14_0 : w13.cell? ⟨gb219,0,none⟩ = some (.int .i64 a0_0):=(blk_cell BK219.out 0).trans rfl;have hcz14_1 : w13.cell? ⟨gb219,1,none⟩ = some (.int .i64 a0_1):=(blk_cell BK219.out 1).trans rfl;have hcz14_2 : w13.cell? ⟨gb219,2,none⟩ = some (.string a0_2):=(blk_cell BK219.out 2).trans rfl;have hcz14_3 : w13.cell? ⟨gb219,3,none⟩ = some (.slice A0_3 l0_3.length c0_3):=(blk_cell BK219.out 3).trans rfl;have hfz14_0:=blk_frozen BK219.out 0;have hfz14_1:=blk_frozen BK219.out 1;have hfz14_2:=blk_frozen BK219.out 2;have hfz14_3:=blk_frozen BK219.out 3) | ((with_reducible refine gate_callee (f:=49) rfl ?_);refine goesL_ (some 5) rfl rfl Try.func49 (by kernel_rfl) rfl #[.int .i64 a0_1,.int .i64 0,.int .i64 100000] rfl zM0 ?_;(with_reducible refine (impl_within.calls a0_1 0 100000 true _ A2.out).mono ?_);rintro e w' ⟨rfl,⟨nd,rfl⟩⟩;refine ⟨_,rfl,?_⟩) | (go_at_call 50;(with_reducible refine (impl_itemsOk.calls k a0_0 _ _ l0_3 t221 _ ?side1 ?side2 A12.out).mono ?_);(case side1 => repeat (first | exact (Kd.C_below HR0_3.out (by repeat (first | (with_reducible first | exact HB.out | apply below_alloc | apply pw_below_drewN | apply below_drew1 | refine below_set ?_ GE219.out) | exact HB.out))) | (with_reducible refine Kd.C_alloc ?_ _) | (with_reducible refine Kd.C_drewN ?_ _) | (with_reducible refine Kd.C_drew ?_)));(case side2 => exact HC0_3.out);rintro e w' ⟨rfl,⟨nd,rfl⟩⟩))
     go_ret
     exact ⟨by first | rfl | (simp [errW_none,errW_some] <;> rfl) | (simp [*,errW_none,errW_some] <;> rfl),by repeat (first | (with_reducible first | exact HB.out | apply below_alloc | apply pw_below_drewN | apply below_drew1 | refine below_set ?_ GE219.out) | exact HB.out)⟩
    ·rw [if_neg c11] at H
     have c11b0 : (a0_2.toList == ([] : List UInt8)) = false:=beq_eq_false_iff_ne.mpr c11
     have c11b1 : (a0_2.toList != ([] : List UInt8)) = true:=bne_iff_ne.mpr c11
     obtain rfl:=Option.some.inj H
     go_enter Try.func36,Try.ntmps36
     go_wp2_with (first | ((with_reducible refine gate_dst (N:=1) rfl ?_);(try (refine gate_guard (by rfl) ?_;dsimp only));refine box_event ?hg (N:=1) ?hd (cs:=#[.int .i64 a0_0,.int .i64 a0_1,.string a0_2,.slice A0_3 l0_3.length c0_3]) (t:=40) ?hr ?_;(case hd => rfl);(case hg => rfl);(case hr => first | (go_simp;done) | (go_simp;rfl));intro gb219 hg w15 hbox hb;have n0_:=Aside0.mk (zS0 HB.out hb);have n1_:=Aside0.mk (hbox);have n2_:=Aside0.mk ((by rw [hg];exact (zZ0 HB.out) : w.heap.size ≤ gb219));have n3_:=Aside0.mk ((by rw [hg];exact (zZ0 HB.out) : w.heap.size ≤ gb219));clear HB;have HB:=n0_;have BK219:=n1_;have GW219:=n2_;have GE219:=n3_;clear n0_ n1_ n2_ n3_;clear hb hbox hg;have hcz16_0 : w15.cell? ⟨gb219,0,none⟩ = some (.int .i64 a0_0):=(blk_cell BK219.out 0).trans rfl;have hcz16_1 : w15.cell? ⟨gb219,1,none⟩ = some (.int .i64 a0_1):=(blk_cell BK219.out 1).trans rfl;have hcz16_2 : w15.cell? ⟨gb219,2,none⟩ = some (.string a0_2):=(blk_cell BK219.out 2).trans rfl;have hcz16_3 : w15.cell? ⟨gb219,3,none⟩ = some (.slice A0_3 l0_3.length c0_3):=(blk_cell BK219.out 3).trans rfl;have hfz16_0:=blk_frozen BK219.out 0;have hfz16_1:=blk_frozen BK219.out 1;have hfz16_2:=blk_frozen BK219.out 2;have hfz16_3:=blk_frozen BK219.out 3) | ((with_reducible refine gate_callee (f:=49) rfl ?_);refine goesL_ (some 5) rfl rfl Try.func49 (by kernel_rfl) rfl #[.int .i64 a0_1,.int .i64 0,.int .i64 100000] rfl zM0 ?_;(with_reducible refine (impl_within.calls a0_1 0 100000 true _ A2.out).mono ?_);rintro e w' ⟨rfl,⟨nd,rfl⟩⟩;refine ⟨_,rfl,?_⟩))
     go_ret
     exact ⟨by first | rfl | (simp [errW_none,errW_some] <;> rfl) | (simp [*,errW_none,errW_some] <;> rfl),by repeat (first | (with_reducible first | exact HB.out | apply below_alloc | apply pw_below_drewN | apply below_drew1 | refine below_set ?_ GE219.out) | exact HB.out)⟩
   ·rw [if_neg c10] at H
    have c10b0 : (a0_0 == 2) = false:=beq_eq_false_iff_ne.mpr c10
    have c10b1 : (a0_0 != 2) = true:=bne_iff_ne.mpr c10
    by_cases c17 : a0_0 = 3
    ·rw [if_pos c17] at H
     have c17b0 : (a0_0 == 3) = true:=beq_iff_eq.mpr c17
     have c17b1 : (a0_0 != 3) = false:=bne_eq_false_iff_eq.mpr c17
     clear c17
     by_cases c18 : a0_2.toList = ([] : List UInt8)
     ·rw [if_pos c18] at H
      have c18b0 : (a0_2.toList == ([] : List UInt8)) = true:=beq_iff_eq.mpr c18
      have c18b1 : (a0_2.toList != ([] : List UInt8)) = false:=bne_eq_false_iff_eq.mpr c18
      clear c18
      replace H:=Option.bind_eq_some_iff.mp H
      obtain ⟨t222,A190,H⟩:=H
      replace H : (some t222) = some r:=H
      have A19:=Aside0.mk A190
      clear A190
      obtain rfl:=Option.some.inj H
      go_enter Try.func36,Try.ntmps36
      go_wp2_with (first | ((with_reducible refine gate_dst (N:=1) rfl ?_);(try (refine gate_guard (by rfl) ?_;dsimp only));refine box_event ?hg (N:=1) ?hd (cs:=#[.int .i64 a0_0,.int .i64 a0_1,.string a0_2,.slice A0_3 l0_3.length c0_3]) (t:=40) ?hr ?_;(case hd => rfl);(case hg => rfl);(case hr => first | (go_simp;done) | (go_simp;rfl));intro gb219 hg w20 hbox hb;have n0_:=Aside0.mk (zS0 HB.out hb);have n1_:=Aside0.mk (hbox);have n2_:=Aside0.mk ((by rw [hg];exact (zZ0 HB.out) : w.heap.size ≤ gb219));have n3_:=Aside0.mk ((by rw [hg];exact (zZ0 HB.out) : w.heap.size ≤ gb219));clear HB;have HB:=n0_;have BK219:=n1_;have GW219:=n2_;have GE219:=n3_;clear n0_ n1_ n2_ n3_;clear hb hbox hg;have hcz21_0 : w20.cell? ⟨gb219,0,none⟩ = some (.int .i64 a0_0):=(blk_cell BK219.out 0).trans rfl;have hcz21_1 : w20.cell? ⟨gb219,1,none⟩ = some (.int .i64 a0_1):=(blk_cell BK219.out 1).trans rfl;have hcz21_2 : w20.cell? ⟨gb219,2,none⟩ = some (.string a0_2):=(blk_cell BK219.out 2).trans rfl;have hcz21_3 : w20.cell? ⟨gb219,3,none⟩ = some (.slice A0_3 l0_3.length c0_3):=(blk_cell BK219.out 3).trans rfl;have hfz21_0:=blk_frozen BK219.out 0;have hfz21_1:=blk_frozen BK219.out 1;have hfz21_2:=blk_frozen BK219.out 2;have hfz21_3:=blk_frozen BK219.out 3) | ((with_reducible refine gate_callee (f:=49) rfl ?_);refine goesL_ (some 5) rfl rfl Try.func49 (by kernel_rfl) rfl #[.int .i64 a0_1,.int .i64 0,.int .i64 100000] rfl zM0 ?_;(with_reducible refine (impl_within.calls a0_1 0 100000 true _ A2.out).mono ?_);rintro e w' ⟨rfl,⟨nd,rfl⟩⟩;refine ⟨_,rfl,?_⟩) | (go_at_call 50;(with_reducible refine (impl_itemsOk.calls k a0_0 _ _ l0_3 t222 _ ?side1 ?side2 A19.out).mono ?_);(case side1 => repeat (first | exact (Kd.C_below HR0_3.out (by repeat (first | (with_reducible first | exact HB.out | apply below_alloc | apply pw_below_drewN | apply below_drew1 | refine below_set ?_ GE219.out) | exact HB.out))) | (with_reducible refine Kd.C_alloc ?_ _) | (with_reducible refine Kd.C_drewN ?_ _) | (with_reducible refine Kd.C_drew ?_)));(case side2 => exact HC0_3.out);rintro e w' ⟨rfl,⟨nd,rfl⟩⟩))
      go_ret
      exact ⟨by first | rfl | (simp [errW_none,errW_some] <;> rfl) | (simp [*,errW_none,errW_some] <;> rfl),by repeat (first | (with_reducible first | exact HB.out | apply below_alloc | apply pw_below_drewN | apply below_drew1 | refine below_set ?_ GE219.out) | exact HB.out)⟩
     ·rw [if_neg c18] at H
      have c18b0 : (a0_2.toList == ([] : List UInt8)) = false:=beq_eq_false_iff_ne.mpr c18
      have c18b1 : (a0_2.toList != ([] : List UInt8)) = true:=bne_iff_ne.mpr c18
      obtain rfl:=Option.some.inj H
      go_enter Try.func36,Try.ntmps36
      go_wp2_with (first | ((with_reducible refine gate_dst (N:=1) rfl ?_);(try (refine gate_guard (by rfl) ?_;dsimp only));refine box_event ?hg (N:=1) ?hd (cs:=#[.int .i64 a0_0,.int .i64 a0_1,.string a0_2,.slice A0_3 l0_3.length c0_3]) (t:=40) ?hr ?_;(case hd => rfl);(case hg => rfl);(case hr => first | (go_simp;done) | (go_simp;rfl));intro gb219 hg w22 hbox hb;have n0_:=Aside0.mk (zS0 HB.out hb);have n1_:=Aside0.mk (hbox);have n2_:=Aside0.mk ((by rw [hg];exact (zZ0 HB.out) : w.heap.size ≤ gb219));have n3_:=Aside0.mk ((by rw [hg];exact (zZ0 HB.out) : w.heap.size ≤ gb219));clear HB;have HB:=n0_;have BK219:=n1_;have GW219:=n2_;have GE219:=n3_;clear n0_ n1_ n2_ n3_;clear hb hbox hg;have hcz23_0 : w22.cell? ⟨gb219,0,none⟩ = some (.int .i64 a0_0):=(blk_cell BK219.out 0).trans rfl;have hcz23_1 : w22.cell? ⟨gb219,1,none⟩ = some (.int .i64 a0_1):=(blk_cell BK219.out 1).trans rfl;have hcz23_2 : w22.cell? ⟨gb219,2,none⟩ = some (.string a0_2):=(blk_cell BK219.out 2).trans rfl;have hcz23_3 : w22.cell? ⟨gb219,3,none⟩ = some (.slice A0_3 l0_3.length c0_3):=(blk_cell BK219.out 3).trans rfl;have hfz23_0:=blk_frozen BK219.out 0;have hfz23_1:=blk_frozen BK219.out 1;have hfz23_2:=blk_frozen BK219.out 2;have hfz23_3:=blk_frozen BK219.out 3) | ((with_reducible refine gate_callee (f:=49) rfl ?_);refine goesL_ (some 5) rfl rfl Try.func49 (by kernel_rfl) rfl #[.int .i64 a0_1,.int .i64 0,.int .i64 100000] rfl zM0 ?_;(with_reducible refine (impl_within.calls a0_1 0 100000 true _ A2.out).mono ?_);rintro e w' ⟨rfl,⟨nd,rfl⟩⟩;refine ⟨_,rfl,?_⟩))
      go_ret
      exact ⟨by first | rfl | (simp [errW_none,errW_some] <;> rfl) | (simp [*,errW_none,errW_some] <;> rfl),by repeat (first | (with_reducible first | exact HB.out | apply below_alloc | apply pw_below_drewN | apply below_drew1 | refine below_set ?_ GE219.out) | exact HB.out)⟩
    ·rw [if_neg c17] at H
     have c17b0 : (a0_0 == 3) = false:=beq_eq_false_iff_ne.mpr c17
     have c17b1 : (a0_0 != 3) = true:=bne_iff_ne.mpr c17
     by_cases c24 : a0_0 = 4
     ·rw [if_pos c24] at H
      have c24b0 : (a0_0 == 4) = true:=beq_iff_eq.mpr c24
      have c24b1 : (a0_0 != 4) = false:=bne_eq_false_iff_eq.mpr c24
      clear c24
      by_cases c25 : a0_2.toList = ([] : List UInt8)
      ·rw [if_pos c25] at H
       have c25b0 : (a0_2.toList == ([] : List UInt8)) = true:=beq_iff_eq.mpr c25
       have c25b1 : (a0_2.toList != ([] : List UInt8)) = false:=bne_eq_false_iff_eq.mpr c25
       clear c25
       replace H:=Option.bind_eq_some_iff.mp H
       obtain ⟨t223,A260,H⟩:=H
       replace H : (some t223) = some r:=H
       have A26:=Aside0.mk A260
       clear A260
       obtain rfl:=Option.some.inj H
       go_enter Try.func36,Try.ntmps36
       go_wp2_with (first | ((with_reducible refine gate_dst (N:=1) rfl ?_);(try (refine gate_guard (by rfl) ?_;dsimp only));refine box_event ?hg (N:=1) ?hd (cs:=#[.int .i64 a0_0,.int .i64 a0_1,.string a0_2,.slice A0_3 l0_3.length c0_3]) (t:=40) ?hr ?_;(case hd => rfl);(case hg => rfl);(case hr => first | (go_simp;done) | (go_simp;rfl));intro gb219 hg w27 hbox hb;have n0_:=Aside0.mk (zS0 HB.out hb);have n1_:=Aside0.mk (hbox);have n2_:=Aside0.mk ((by rw [hg];exact (zZ0 HB.out) : w.heap.size ≤ gb219));have n3_:=Aside0.mk ((by rw [hg];exact (zZ0 HB.out) : w.heap.size ≤ gb219));clear HB;have HB:=n0_;have BK219:=n1_;have GW219:=n2_;have GE219:=n3_;clear n0_ n1_ n2_ n3_;clear hb hbox hg;have hcz28_0 : w27.cell? ⟨gb219,0,none⟩ = some (.int .i64 a0_0):=(blk_cell BK219.out 0).trans rfl;have hcz28_1 : w27.cell? ⟨gb219,1,none⟩ = some (.int .i64 a0_1):=(blk_cell BK219.out 1).trans rfl;have hcz28_2 : w27.cell? ⟨gb219,2,none⟩ = some (.string a0_2):=(blk_cell BK219.out 2).trans rfl;have hcz28_3 : w27.cell? ⟨gb219,3,none⟩ = some (.slice A0_3 l0_3.length c0_3):=(blk_cell BK219.out 3).trans rfl;have hfz28_0:=blk_frozen BK219.out 0;have hfz28_1:=blk_frozen BK219.out 1;have hfz28_2:=blk_frozen BK219.out 2;have hfz28_3:=blk_frozen BK219.out 3) | ((with_reducible refine gate_callee (f:=49) rfl ?_);refine goesL_ (some 5) rfl rfl Try.func49 (by kernel_rfl) rfl #[.int .i64 a0_1,.int .i64 0,.int .i64 100000] rfl zM0 ?_;(with_reducible refine (impl_within.calls a0_1 0 100000 true _ A2.out).mono ?_);rintro e w' ⟨rfl,⟨nd,rfl⟩⟩;refine ⟨_,rfl,?_⟩) | (go_at_call 50;(with_reducible refine (impl_itemsOk.calls k a0_0 _ _ l0_3 t223 _ ?side1 ?side2 A26.out).mono ?_);(case side1 => repeat (first | exact (Kd.C_below HR0_3.out (by repeat (first | (with_reducible first | exact HB.out | apply below_alloc | apply pw_below_drewN | apply below_drew1 | refine below_set ?_ GE219.out) | exact HB.out))) | (with_reducible refine Kd.C_alloc ?_ _) | (with_reducible refine Kd.C_drewN ?_ _) | (with_reducible refine Kd.C_drew ?_)));(case side2 => exact HC0_3.out);rintro e w' ⟨rfl,⟨nd,rfl⟩⟩))
       go_ret
       exact ⟨by first | rfl | (simp [errW_none,errW_some] <;> rfl) | (simp [*,errW_none,errW_some] <;> rfl),by repeat (first | (with_reducible first | exact HB.out | apply below_alloc | apply pw_below_drewN | apply below_drew1 | refine below_set ?_ GE219.out) | exact HB.out)⟩
      ·rw [if_neg c25] at H
       have c25b0 : (a0_2.toList == ([] : List UInt8)) = false:=beq_eq_false_iff_ne.mpr c25
       have c25b1 : (a0_2.toList != ([] : List UInt8)) = true:=bne_iff_ne.mpr c25
       obtain rfl:=Option.some.inj H
       go_enter Try.func36,Try.ntmps36
       go_wp2_with (first | ((with_reducible refine gate_dst (N:=1) rfl ?_);(try (refine gate_guard (by rfl) ?_;dsimp only));refine box_event ?hg (N:=1) ?hd (cs:=#[.int .i64 a0_0,.int .i64 a0_1,.string a0_2,.slice A0_3 l0_3.length c0_3]) (t:=40) ?hr ?_;(case hd => rfl);(case hg => rfl);(case hr => first | (go_simp;done) | (go_simp;rfl));intro gb219 hg w29 hbox hb;have n0_:=Aside0.mk (zS0 HB.out hb);have n1_:=Aside0.mk (hbox);have n2_:=Aside0.mk ((by rw [hg];exact (zZ0 HB.out) : w.heap.size ≤ gb219));have n3_:=Aside0.mk ((by rw [hg];exact (zZ0 HB.out) : w.heap.size ≤ gb219));clear HB;have HB:=n0_;have BK219:=n1_;have GW219:=n2_;have GE219:=n3_;clear n0_ n1_ n2_ n3_;clear hb hbox hg;have hcz30_0 : w29.cell? ⟨gb219,0,none⟩ = some (.int .i64 a0_0):=(blk_cell BK219.out 0).trans rfl;have hcz30_1 : w29.cell? ⟨gb219,1,none⟩ = some (.int .i64 a0_1):=(blk_cell BK219.out 1).trans rfl;have hcz30_2 : w29.cell? ⟨gb219,2,none⟩ = some (.string a0_2):=(blk_cell BK219.out 2).trans rfl;have hcz30_3 : w29.cell? ⟨gb219,3,none⟩ = some (.slice A0_3 l0_3.length c0_3):=(blk_cell BK219.out 3).trans rfl;have hfz30_0:=blk_frozen BK219.out 0;have hfz30_1:=blk_frozen BK219.out 1;have hfz30_2:=blk_frozen BK219.out 2;have hfz30_3:=blk_frozen BK219.out 3) | ((with_reducible refine gate_callee (f:=49) rfl ?_);refine goesL_ (some 5) rfl rfl Try.func49 (by kernel_rfl) rfl #[.int .i64 a0_1,.int .i64 0,.int .i64 100000] rfl zM0 ?_;(with_reducible refine (impl_within.calls a0_1 0 100000 true _ A2.out).mono ?_);rintro e w' ⟨rfl,⟨nd,rfl⟩⟩;refine ⟨_,rfl,?_⟩))
       go_ret
       exact ⟨by first | rfl | (simp [errW_none,errW_some] <;> rfl) | (simp [*,errW_none,errW_some] <;> rfl),by repeat (first | (with_reducible first | exact HB.out | apply below_alloc | apply pw_below_drewN | apply below_drew1 | refine below_set ?_ GE219.out) | exact HB.out)⟩
     ·rw [if_neg c24] at H
      have c24b0 : (a0_0 == 4) = false:=beq_eq_false_iff_ne.mpr c24
      have c24b1 : (a0_0 != 4) = true:=bne_iff_ne.mpr c24
      obtain rfl:=Option.some.inj H
      go_enter Try.func36,Try.ntmps36
      go_wp2_with (first | ((with_reducible refine gate_dst (N:=1) rfl ?_);(try (refine gate_guard (by rfl) ?_;dsimp only));refine box_event ?hg (N:=1) ?hd (cs:=#[.int .i64 a0_0,.int .i64 a0_1,.string a0_2,.slice A0_3 l0_3.length c0_3]) (t:=40) ?hr ?_;(case hd => rfl);(case hg => rfl);(case hr => first | (go_simp;done) | (go_simp;rfl));intro gb219 hg w31 hbox hb;have n0_:=Aside0.mk (zS0 HB.out hb);have n1_:=Aside0.mk (hbox);have n2_:=Aside0.mk ((by rw [hg];exact (zZ0 HB.out) : w.heap.size ≤ gb219));have n3_:=Aside0.mk ((by rw [hg];exact (zZ0 HB.out) : w.heap.size ≤ gb219));clear HB;have HB:=n0_;have BK219:=n1_;have GW219:=n2_;have GE219:=n3_;clear n0_ n1_ n2_ n3_;clear hb hbox hg;have hcz32_0 : w31.cell? ⟨gb219,0,none⟩ = some (.int .i64 a0_0):=(blk_cell BK219.out 0).trans rfl;have hcz32_1 : w31.cell? ⟨gb219,1,none⟩ = some (.int .i64 a0_1):=(blk_cell BK219.out 1).trans rfl;have hcz32_2 : w31.cell? ⟨gb219,2,none⟩ = some (.string a0_2):=(blk_cell BK219.out 2).trans rfl;have hcz32_3 : w31.cell? ⟨gb219,3,none⟩ = some (.slice A0_3 l0_3.length c0_3):=(blk_cell BK219.out 3).trans rfl;have hfz32_0:=blk_frozen BK219.out 0;have hfz32_1:=blk_frozen BK219.out 1;have hfz32_2:=blk_frozen BK219.out 2;have hfz32_3:=blk_frozen BK219.out 3) | ((with_reducible refine gate_callee (f:=49) rfl ?_);refine goesL_ (some 5) rfl rfl Try.func49 (by kernel_rfl) rfl #[.int .i64 a0_1,.int .i64 0,.int .i64 100000] rfl zM0 ?_;(with_reducible refine (impl_within.calls a0_1 0 100000 true _ A2.out).mono ?_);rintro e w' ⟨rfl,⟨nd,rfl⟩⟩;refine ⟨_,rfl,?_⟩))
      go_ret
      exact ⟨by first | rfl | (simp [errW_none,errW_some] <;> rfl) | (simp [*,errW_none,errW_some] <;> rfl),by repeat (first | (with_reducible first | exact HB.out | apply below_alloc | apply pw_below_drewN | apply below_drew1 | refine below_set ?_ GE219.out) | exact HB.out)⟩
 ·replace c3:=Bool.eq_false_iff.mpr c3
  subst c3
  have H1 : (some false) = some r:=by rw [if_neg (show ¬ (false = true) by decide)] at H;exact H
  clear H
  have H:=H1
  clear H1
  obtain rfl:=Option.some.inj H
  go_enter Try.func36,Try.ntmps36
  go_wp2_with (first | ((with_reducible refine gate_dst (N:=1) rfl ?_);(try (refine gate_guard (by rfl) ?_;dsimp only));refine box_event ?hg (N:=1) ?hd (cs:=#[.int .i64 a0_0,.int .i64 a0_1,.string a0_2,.slice A0_3 l0_3.length c0_3]) (t:=40) ?hr ?_;(case hd => rfl);(case hg => rfl);(case hr => first | (go_simp;done) | (go_simp;rfl));intro gb219 hg w33 hbox hb;have n0_:=Aside0.mk (zS0 HB.out hb);have n1_:=Aside0.mk (hbox);have n2_:=Aside0.mk ((by rw [hg];exact (zZ0 HB.out) : w.heap.size ≤ gb219));have n3_:=Aside0.mk ((by rw [hg];exact (zZ0 HB.out) : w.heap.size ≤ gb219));clear HB;have HB:=n0_;have BK219:=n1_;have GW219:=n2_;have GE219:=n3_;clear n0_ n1_ n2_ n3_;clear hb hbox hg;have hcz34_0 : w33.cell? ⟨gb219,0,none⟩ = some (.int .i64 a0_0):=(blk_cell BK219.out 0).trans rfl;have hcz34_1 : w33.cell? ⟨gb219,1,none⟩ = some (.int .i64 a0_1):=(blk_cell BK219.out 1).trans rfl;have hcz34_2 : w33.cell? ⟨gb219,2,none⟩ = some (.string a0_2):=(blk_cell BK219.out 2).trans rfl;have hcz34_3 : w33.cell? ⟨gb219,3,none⟩ = some (.slice A0_3 l0_3.length c0_3):=(blk_cell BK219.out 3).trans rfl;have hfz34_0:=blk_frozen BK219.out 0;have hfz34_1:=blk_frozen BK219.out 1;have hfz34_2:=blk_frozen BK219.out 2;have hfz34_3:=blk_frozen BK219.out 3) | ((with_reducible refine gate_callee (f:=49) rfl ?_);refine goesL_ (some 5) rfl rfl Try.func49 (by kernel_rfl) rfl #[.int .i64 a0_1,.int .i64 0,.int .i64 100000] rfl zM0 ?_;(with_reducible refine (impl_within.calls a0_1 0 100000 false _ A2.out).mono ?_);rintro e w' ⟨rfl,⟨nd,rfl⟩⟩;refine ⟨_,rfl,?_⟩))
  go_ret
  exact ⟨by first | rfl | (simp [errW_none,errW_some] <;> rfl) | (simp [*,errW_none,errW_some] <;> rfl),by repeat (first | (with_reducible first | exact HB.out | apply below_alloc | apply pw_below_drewN | apply below_drew1 | refine below_set ?_ GE219.out) | exact HB.out)⟩

end Go.Proofs.Ytlekhcopddajbaa.PFnExactDiffer
