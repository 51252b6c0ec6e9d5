/- Walks of functions that the law FnExactDiffer reaches, turned by this session from a print of which a part did not build; what was changed is listed in wip/patches of the proofs' repo. -/
import Derived.Test.YtlekhcopddajbaaOFnExactDifferx0
import Derived.Test.YtlekhcopddajbaaOFnExactDifferx14
namespace Go.Proofs.Ytlekhcopddajbaa.PFnExactDiffer
open Go.RowKit Go.Proofs.YtlekhcopddajbaaW.PrintWords Go.Proofs.YtlekhcopddajbaaW.PrintLast Go.Proofs.YtlekhcopddajbaaW.PrintMore
attribute [local go_sem] max2_int min2_int max_two min_two max_three min_three max_four min_four   -- for this text's walks alone
set_option linter.unusedVariables false
set_option linter.unusedSimpArgs false

/-! ### laws_eqEntryS: function 9 -/
def laws_eqEntryS.l0 : Nat → List (S42) → List (S42) → Int → Option (Bool)
 | 0,_,_,_ => none
 | k + 1,x0,x1,x5 => if x5 < (x0.length : Int) then (if 0 ≤ x5 then (if x5 < (x1.length : Int) then ((laws_eqEntry.f k ((rd_T42 x0 x5).f0) ((rd_T42 x0 x5).f1.f0) ((rd_T42 x0 x5).f1.f1) ((rd_T42 x0 x5).f1.f2) ((rd_T42 x0 x5).f1.f3) ((rd_T42 x1 x5).f0) ((rd_T42 x1 x5).f1.f0) ((rd_T42 x1 x5).f1.f1) ((rd_T42 x1 x5).f1.f2) ((rd_T42 x1 x5).f1.f3)).bind fun t314 => (if t314 = true then (laws_eqEntryS.l0 k x0 x1 (wrap64 (x5 + 1))) else (some false))) else (none)) else (none)) else (some true)
def laws_eqEntryS.f (k : Nat) (l0 : List (S42)) (l1 : List (S42)) : Option (Bool):=if (l0.length : Int) = (l1.length : Int) then (laws_eqEntryS.l0 k l0 l1 0) else (some false)
theorem laws_eqEntryS.mono_l : ∀ k,(∀ y0 y1 y2,LeO (laws_eqEntryS.l0 k y0 y1 y2) (laws_eqEntryS.l0 (k + 1) y0 y1 y2))
 | 0 => fun _ _ _ r h => by simp [laws_eqEntryS.l0] at h
 | k + 1 => by
  have ih0:=laws_eqEntryS.mono_l k
  ·intro y0 y1 y2
   unfold laws_eqEntryS.l0
   repeat' first
   | (with_reducible exact ih0 _ _ _)
   | (with_reducible exact laws_eqEntry.mono _ _ _ _ _ _ _ _ _ _ _)
   | (with_reducible exact LeO.refl _)
   | (with_reducible exact LeO.none _)
   | (with_reducible refine LeO.ite ?_ ?_)
   | (with_reducible refine LeO.bind ?_ (fun _ => ?_))
   | exact ih0 _ _ _
   | exact laws_eqEntry.mono _ _ _ _ _ _ _ _ _ _ _
   | exact LeO.none _
   | refine LeO.ite ?_ ?_
   | refine LeO.bind ?_ (fun _ => ?_)
theorem laws_eqEntryS.mono : ∀ a0 a1 k,LeO (laws_eqEntryS.f k a0 a1) (laws_eqEntryS.f (k + 1) a0 a1):=by
 intro a0 a1 k
 have ih0:=laws_eqEntryS.mono_l k
 unfold laws_eqEntryS.f
 repeat' first
   | (with_reducible exact ih0 _ _ _)
   | (with_reducible exact laws_eqEntry.mono _ _ _ _ _ _ _ _ _ _ _)
   | (with_reducible exact LeO.refl _)
   | (with_reducible exact LeO.none _)
   | (with_reducible refine LeO.ite ?_ ?_)
   | (with_reducible refine LeO.bind ?_ (fun _ => ?_))
   | exact ih0 _ _ _
   | exact laws_eqEntry.mono _ _ _ _ _ _ _ _ _ _ _
   | exact LeO.none _
   | refine LeO.ite ?_ ?_
   | refine LeO.bind ?_ (fun _ => ?_)
def laws_eqEntryS.T6 : Bool × List (List Nat × List Nat):=(true,[([],[]),([],[]),([0,1],[0,1]),([2],[2]),([],[]),([],[]),([4,5],[4,5]),([6],[6]),([3,7],[3,7]),([8],[8])])
def laws_eqEntryS.B6 : List Nat:=[0,0,3,7,0,0,48,112,255,511]
theorem laws_eqEntryS.tab6 : rtab .any (opsOf Try.f9 6) = laws_eqEntryS.T6:=by kernel_rfl
theorem laws_eqEntryS.bits6 : waitsOk laws_eqEntryS.T6.2 laws_eqEntryS.B6 = true:=by kernel_rfl
set_option maxHeartbeats 8000000 in
set_option maxRecDepth 100000 in
theorem laws_eqEntryS.calls (k : Nat) (A0 : Option Addr) (c0 : Nat) (l0 : List (S42)) (A1 : Option Addr) (c1 : Nat) (l1 : List (S42)) (r : Bool) (w : World) (hr0 : Kd.C k42 w A0 l0.length l0) (hc0 : l0.length ≤ c0) (hr1 : Kd.C k42 w A1 l1.length l1) (hc1 : l1.length ≤ c1) (h : laws_eqEntryS.f k l0 l1 = some r) :
  Calls Try.prog 9 #[.slice A0 l0.length c0,.slice A1 l1.length c1] w fun e w' => e = .returned (.bool r) ∧ Below w.heap.size w w':=by
 have hu42:=Try.underlying42
 have HR0:=Aside0.mk hr0
 have HC0:=Aside0.mk hc0
 clear hr0 hc0
 have HR1:=Aside0.mk hr1
 have HC1:=Aside0.mk hc1
 clear hr1 hc1
 have HB:=Aside0.mk (Below.refl w.heap.size w)
 have H : (if (l0.length : Int) = (l1.length : Int) then (laws_eqEntryS.l0 k l0 l1 0) else (some false)) = some r:=h
 clear h
 by_cases c3 : (l0.length : Int) = (l1.length : Int)
 ·rw [if_pos c3] at H
  have c3b0 : ((l0.length : Int) == (l1.length : Int)) = true:=beq_iff_eq.mpr c3
  have c3b1 : ((l0.length : Int) != (l1.length : Int)) = false:=bne_eq_false_iff_eq.mpr c3
  have c3b2 : (l0.length == l1.length) = true:=by first | simpa using c3 | (simp at c3 ⊢;omega)
  clear c3
  have H':=Aside0.mk H
  clear H
  go_enter Try.func9,Try.ntmps9
  go_wp2
  go_loopg [5] k (fun kq v5 w' => ∃ (x5_1 : Int),v5 = .int .i64 x5_1 ∧ Aside0 (laws_eqEntryS.l0 kq l0 l1 x5_1 = some r) ∧ Aside0 (kq ≤ k) ∧ Aside0 (Below w.heap.size w w'))
  case atStart => exact ⟨(0),(by first | rfl | (simp;done) | (simp [*];done)),H',⟨Nat.le_refl _⟩,⟨by repeat (first | (with_reducible first | exact HB.out | apply below_alloc | apply pw_below_drewN | apply below_drew1) | exact HB.out)⟩⟩
  case round =>
   clear H'
   try clear c1
   try clear p2
   try clear c3
   try clear c3b0
   try clear c3b1
   try clear c3b2
   obtain ⟨x5_1,rfl,HA,HK1,HB⟩:=hrel
   cases gk with
   | zero => exact absurd HA.out (by simp [laws_eqEntryS.l0])
   | succ k1 =>
    have H:=HA.out
    clear HA
    simp only [laws_eqEntryS.l0] at H
    by_cases c4 : x5_1 < (l0.length : Int)
    ·rw [if_pos c4] at H
     have c4b0 : decide (x5_1 < (l0.length : Int)) = true:=decide_eq_true c4
     clear c4
     by_cases c5 : 0 ≤ x5_1
     ·rw [if_pos c5] at H
      have c5b0 : decide (0 ≤ x5_1) = true:=decide_eq_true c5
      clear c5
      by_cases c6 : x5_1 < (l1.length : Int)
      ·rw [if_pos c6] at H
       have c6b0 : decide (x5_1 < (l1.length : Int)) = true:=decide_eq_true c6
       clear c6
       replace H:=Option.bind_eq_some_iff.mp H
       obtain ⟨t314,A70,H⟩:=H
       replace H : (if t314 = true then (laws_eqEntryS.l0 k1 l0 l1 (wrap64 (x5_1 + 1))) else (some false)) = some r:=H
       have A7:=Aside0.mk A70
       clear A70
       by_cases c8 : t314 = true
       ·subst c8
        have H1 : (laws_eqEntryS.l0 k1 l0 l1 (wrap64 (x5_1 + 1))) = some r:=by rw [if_pos rfl] at H;exact H
        clear H
        have H:=H1
        clear H1
        have H':=Aside0.mk H
        clear H
        try go_wp2
        have n0_:=Aside0.mk (below_drew1 HB.out)
        clear HB
        have HB:=n0_
        clear n0_
        have p312 : 0 ≤ (x5_1 : Int):=of_decide_eq_true (by first | (with_reducible assumption) | assumption)
        have q312 : x5_1 < (l0.length : Int):=of_decide_eq_true (by first | (with_reducible assumption) | assumption)
        obtain ⟨ad312,A312_4,c312_4,e312,hx312_0,hx312_1,hx312_2,hx312_3,hx312_4,hl312_4,hi312_4⟩:=at_T42 HR0.out x5_1 p312 q312
        have hw312_4:=hx312_4
        have hw312_3:=hx312_3
        have hw312_2:=hx312_2
        have hw312_1:=hx312_1
        have hw312_0:=hx312_0
        cases e312
        replace hx312_0:=(HB.out.cell (World.block_lt_of_cell? w _ hx312_0)).trans hx312_0
        replace hx312_1:=(HB.out.cell (World.block_lt_of_cell? w _ hx312_1)).trans hx312_1
        replace hx312_2:=(HB.out.cell (World.block_lt_of_cell? w _ hx312_2)).trans hx312_2
        replace hx312_3:=(HB.out.cell (World.block_lt_of_cell? w _ hx312_3)).trans hx312_3
        replace hx312_4:=(HB.out.cell (World.block_lt_of_cell? w _ hx312_4)).trans hx312_4
        have HR312_4:=Aside0.mk hi312_4
        have HC312_4:=Aside0.mk hl312_4
        clear hi312_4 hl312_4
        replace p312:=eq_true p312
        replace q312:=eq_true q312
        have p313 : 0 ≤ (x5_1 : Int):=of_decide_eq_true (by first | (with_reducible assumption) | assumption)
        have q313 : x5_1 < (l1.length : Int):=of_decide_eq_true (by first | (with_reducible assumption) | assumption)
        obtain ⟨ad313,A313_4,c313_4,e313,hx313_0,hx313_1,hx313_2,hx313_3,hx313_4,hl313_4,hi313_4⟩:=at_T42 HR1.out x5_1 p313 q313
        have hw313_4:=hx313_4
        have hw313_3:=hx313_3
        have hw313_2:=hx313_2
        have hw313_1:=hx313_1
        have hw313_0:=hx313_0
        cases e313
        replace hx313_0:=(HB.out.cell (World.block_lt_of_cell? w _ hx313_0)).trans hx313_0
        replace hx313_1:=(HB.out.cell (World.block_lt_of_cell? w _ hx313_1)).trans hx313_1
        replace hx313_2:=(HB.out.cell (World.block_lt_of_cell? w _ hx313_2)).trans hx313_2
        replace hx313_3:=(HB.out.cell (World.block_lt_of_cell? w _ hx313_3)).trans hx313_3
        replace hx313_4:=(HB.out.cell (World.block_lt_of_cell? w _ hx313_4)).trans hx313_4
        have HR313_4:=Aside0.mk hi313_4
        have HC313_4:=Aside0.mk hl313_4
        clear hi313_4 hl313_4
        replace p313:=eq_true p313
        replace q313:=eq_true q313
        refine start_ (n:=10) (S:=fun w' => w'.cell? (ad312.add ((x5_1).toNat * 5)) = some (.string ((rd_T42 l0 x5_1).f0)) ∧ w'.cell? ⟨(ad312.add ((x5_1).toNat * 5)).block,(ad312.add ((x5_1).toNat * 5)).off + 1,none⟩ = some (.int .i64 ((rd_T42 l0 x5_1).f1.f0)) ∧ w'.cell? ⟨(ad312.add ((x5_1).toNat * 5)).block,(ad312.add ((x5_1).toNat * 5)).off + 2,none⟩ = some (.int .i64 ((rd_T42 l0 x5_1).f1.f1)) ∧ w'.cell? ⟨(ad312.add ((x5_1).toNat * 5)).block,(ad312.add ((x5_1).toNat * 5)).off + 3,none⟩ = some (.string ((rd_T42 l0 x5_1).f1.f2)) ∧ w'.cell? ⟨(ad312.add ((x5_1).toNat * 5)).block,(ad312.add ((x5_1).toNat * 5)).off + 4,none⟩ = some (.slice A312_4 ((rd_T42 l0 x5_1).f1.f3).length c312_4) ∧ w'.cell? (ad313.add ((x5_1).toNat * 5)) = some (.string ((rd_T42 l1 x5_1).f0)) ∧ w'.cell? ⟨(ad313.add ((x5_1).toNat * 5)).block,(ad313.add ((x5_1).toNat * 5)).off + 1,none⟩ = some (.int .i64 ((rd_T42 l1 x5_1).f1.f0)) ∧ w'.cell? ⟨(ad313.add ((x5_1).toNat * 5)).block,(ad313.add ((x5_1).toNat * 5)).off + 2,none⟩ = some (.int .i64 ((rd_T42 l1 x5_1).f1.f1)) ∧ w'.cell? ⟨(ad313.add ((x5_1).toNat * 5)).block,(ad313.add ((x5_1).toNat * 5)).off + 3,none⟩ = some (.string ((rd_T42 l1 x5_1).f1.f2)) ∧ w'.cell? ⟨(ad313.add ((x5_1).toNat * 5)).block,(ad313.add ((x5_1).toNat * 5)).off + 4,none⟩ = some (.slice A313_4 ((rd_T42 l1 x5_1).f1.f3).length c313_4)) (ds:=[]) (zF0 10 0) (by kernel_rfl) rfl rfl ⟨((HB.out.cell (World.block_lt_of_cell? w _ hw312_0)).trans hw312_0),((HB.out.cell (World.block_lt_of_cell? w _ hw312_1)).trans hw312_1),((HB.out.cell (World.block_lt_of_cell? w _ hw312_2)).trans hw312_2),((HB.out.cell (World.block_lt_of_cell? w _ hw312_3)).trans hw312_3),((HB.out.cell (World.block_lt_of_cell? w _ hw312_4)).trans hw312_4),((HB.out.cell (World.block_lt_of_cell? w _ hw313_0)).trans hw313_0),((HB.out.cell (World.block_lt_of_cell? w _ hw313_1)).trans hw313_1),((HB.out.cell (World.block_lt_of_cell? w _ hw313_2)).trans hw313_2),((HB.out.cell (World.block_lt_of_cell? w _ hw313_3)).trans hw313_3),((HB.out.cell (World.block_lt_of_cell? w _ hw313_4)).trans hw313_4)⟩ (fun hHeld => ?_);refine with_tabW laws_eqEntryS.tab6 laws_eqEntryS.bits6 (fun HT_ HW_ => ?_)
        generalize wr.drew = w9 at HB HR312_4 HR313_4 hx312_0 hx312_1 hx312_2 hx312_3 hx312_4 hx313_0 hx313_1 hx313_2 hx313_3 hx313_4 hHeld ⊢
        refine zP0 (i:=0) (N:=some 17) (zF0 10 1) rfl rfl HT_.out ?_
        refine zP0 (i:=1) (N:=some 18) (zF0 10 3) rfl rfl HT_.out ?_
        refine zP0 (i:=2) (N:=some 19) (zF0 10 7) rfl rfl HT_.out ?_
        refine zP0 (i:=4) (N:=some 21) (zF0 10 23) rfl rfl HT_.out ?_
        refine zP0 (i:=5) (N:=some 22) (zF0 10 55) rfl rfl HT_.out ?_
        refine zP0 (i:=6) (N:=some 23) (zF0 10 119) rfl rfl HT_.out ?_
        refine take_ (i:=3) (N:=some 20) (v:=?_) (a':=?_) (zF0 10 127) rfl rfl (take_ofW HT_.out HW_.out (by kernel_rfl)) (fun _ _ _ h => h) (Or.inl ⟨by rfl,?_⟩) hHeld ?_ ?_;rotate_left
        ·rintro w' ⟨s0,s1,s2,s3,s4,s5,s6,s7,s8,s9⟩
         go_simp
         with_reducible rfl
        rotate_left
        ·simp only [Act.put,qA0,qB0,qC0,i64_w,i32_w];rfl
        refine take_ (i:=7) (N:=some 24) (v:=?_) (a':=?_) (zF0 10 255) rfl rfl (take_ofW HT_.out HW_.out (by kernel_rfl)) (fun _ _ _ h => h) (Or.inl ⟨by rfl,?_⟩) hHeld ?_ ?_;rotate_left
        ·rintro w' ⟨s0,s1,s2,s3,s4,s5,s6,s7,s8,s9⟩
         go_simp
         with_reducible rfl
        rotate_left
        ·simp only [Act.put,qA0,qB0,qC0,i64_w,i32_w];rfl
        refine one_ (i:=8) (N:=some 25) (zF0 10 511) rfl rfl (one_of HT_.out (by kernel_rfl)) (by decide) (fun K hK => ?_)
        refine goes_ Try.func26 (by kernel_rfl) rfl #[.agg #[.string ((rd_T42 l0 x5_1).f0),.int .i64 ((rd_T42 l0 x5_1).f1.f0),.int .i64 ((rd_T42 l0 x5_1).f1.f1),.string ((rd_T42 l0 x5_1).f1.f2),.slice A312_4 ((rd_T42 l0 x5_1).f1.f3).length c312_4],.agg #[.string ((rd_T42 l1 x5_1).f0),.int .i64 ((rd_T42 l1 x5_1).f1.f0),.int .i64 ((rd_T42 l1 x5_1).f1.f1),.string ((rd_T42 l1 x5_1).f1.f2),.slice A313_4 ((rd_T42 l1 x5_1).f1.f3).length c313_4]] (by rfl) rfl rfl zM0 ?_
        with_reducible refine (laws_eqEntry.calls k1 ((rd_T42 l0 x5_1).f0) ((rd_T42 l0 x5_1).f1.f0) ((rd_T42 l0 x5_1).f1.f1) ((rd_T42 l0 x5_1).f1.f2) _ _ ((rd_T42 l0 x5_1).f1.f3) ((rd_T42 l1 x5_1).f0) ((rd_T42 l1 x5_1).f1.f0) ((rd_T42 l1 x5_1).f1.f1) ((rd_T42 l1 x5_1).f1.f2) _ _ ((rd_T42 l1 x5_1).f1.f3) true _ ?side1 ?side2 ?side3 ?side4 A7.out).mono ?_
        (case side1 => repeat (first | exact (Kd.C_below HR312_4.out HB.out) | (with_reducible refine Kd.C_alloc ?_ _) | (with_reducible refine Kd.C_drewN ?_ _) | (with_reducible refine Kd.C_drew ?_)))
        (case side2 => exact HC312_4.out)
        (case side3 => repeat (first | exact (Kd.C_below HR313_4.out HB.out) | (with_reducible refine Kd.C_alloc ?_ _) | (with_reducible refine Kd.C_drewN ?_ _) | (with_reducible refine Kd.C_drew ?_)))
        (case side4 => exact HC313_4.out)
        rintro e w10 ⟨rfl,hb⟩
        refine ⟨_,rfl,?_⟩
        have n0_:=Aside0.mk (zS0 HB.out hb)
        clear HB
        have HB:=n0_
        clear n0_
        (try clear hb)
        (try clear hb2)
        (try clear hk)
        (try clear hi)
        refine hK.out _ _ ⟨((HB.out.cell (World.block_lt_of_cell? w _ hw312_0)).trans hw312_0),((HB.out.cell (World.block_lt_of_cell? w _ hw312_1)).trans hw312_1),((HB.out.cell (World.block_lt_of_cell? w _ hw312_2)).trans hw312_2),((HB.out.cell (World.block_lt_of_cell? w _ hw312_3)).trans hw312_3),((HB.out.cell (World.block_lt_of_cell? w _ hw312_4)).trans hw312_4),((HB.out.cell (World.block_lt_of_cell? w _ hw313_0)).trans hw313_0),((HB.out.cell (World.block_lt_of_cell? w _ hw313_1)).trans hw313_1),((HB.out.cell (World.block_lt_of_cell? w _ hw313_2)).trans hw313_2),((HB.out.cell (World.block_lt_of_cell? w _ hw313_3)).trans hw313_3),((HB.out.cell (World.block_lt_of_cell? w _ hw313_4)).trans hw313_4)⟩ (fun hHeld => ?_)
        clear hK K
        refine norm_ (a':=?_) ?_ ?_;rotate_left
        ·show Act.put _ (some 25) _ = _;simp only [Act.put,qA0,qB0,qC0,i64_w,i32_w];rfl
        refine zP0 (i:=9) (N:=some 26) (zF0 10 1023) rfl rfl HT_.out ?_
        refine done_ (done_of HT_.out (by kernel_rfl)) ?_
        try go_wp2
        go_roundg k1
        case measure => have:=HK1.out;omega
        case rel => exact ⟨(wrap64 (x5_1 + 1)),(by first | rfl | (simp;done) | (simp [*];done)),H',⟨by have:=HK1.out;omega⟩,⟨by repeat (first | (with_reducible first | exact HB.out | apply below_alloc | apply pw_below_drewN | apply below_drew1) | exact HB.out)⟩⟩
       ·replace c8:=Bool.eq_false_iff.mpr c8
        subst c8
        have H1 : (some false) = some r:=by rw [if_neg (show ¬ (false = true) by decide)] at H;exact H
        clear H
        have H:=H1
        clear H1
        obtain rfl:=Option.some.inj H
        try go_wp2
        have n0_:=Aside0.mk (below_drew1 HB.out)
        clear HB
        have HB:=n0_
        clear n0_
        have p312 : 0 ≤ (x5_1 : Int):=of_decide_eq_true (by first | (with_reducible assumption) | assumption)
        have q312 : x5_1 < (l0.length : Int):=of_decide_eq_true (by first | (with_reducible assumption) | assumption)
        obtain ⟨ad312,A312_4,c312_4,e312,hx312_0,hx312_1,hx312_2,hx312_3,hx312_4,hl312_4,hi312_4⟩:=at_T42 HR0.out x5_1 p312 q312
        have hw312_4:=hx312_4
        have hw312_3:=hx312_3
        have hw312_2:=hx312_2
        have hw312_1:=hx312_1
        have hw312_0:=hx312_0
        cases e312
        replace hx312_0:=(HB.out.cell (World.block_lt_of_cell? w _ hx312_0)).trans hx312_0
        replace hx312_1:=(HB.out.cell (World.block_lt_of_cell? w _ hx312_1)).trans hx312_1
        replace hx312_2:=(HB.out.cell (World.block_lt_of_cell? w _ hx312_2)).trans hx312_2
        replace hx312_3:=(HB.out.cell (World.block_lt_of_cell? w _ hx312_3)).trans hx312_3
        replace hx312_4:=(HB.out.cell (World.block_lt_of_cell? w _ hx312_4)).trans hx312_4
        have HR312_4:=Aside0.mk hi312_4
        have HC312_4:=Aside0.mk hl312_4
        clear hi312_4 hl312_4
        replace p312:=eq_true p312
        replace q312:=eq_true q312
        have p313 : 0 ≤ (x5_1 : Int):=of_decide_eq_true (by first | (with_reducible assumption) | assumption)
        have q313 : x5_1 < (l1.length : Int):=of_decide_eq_true (by first | (with_reducible assumption) | assumption)
        obtain ⟨ad313,A313_4,c313_4,e313,hx313_0,hx313_1,hx313_2,hx313_3,hx313_4,hl313_4,hi313_4⟩:=at_T42 HR1.out x5_1 p313 q313
        have hw313_4:=hx313_4
        have hw313_3:=hx313_3
        have hw313_2:=hx313_2
        have hw313_1:=hx313_1
        have hw313_0:=hx313_0
        cases e313
        replace hx313_0:=(HB.out.cell (World.block_lt_of_cell? w _ hx313_0)).trans hx313_0
        replace hx313_1:=(HB.out.cell (World.block_lt_of_cell? w _ hx313_1)).trans hx313_1
        replace hx313_2:=(HB.out.cell (World.block_lt_of_cell? w _ hx313_2)).trans hx313_2
        replace hx313_3:=(HB.out.cell (World.block_lt_of_cell? w _ hx313_3)).trans hx313_3
        replace hx313_4:=(HB.out.cell (World.block_lt_of_cell? w _ hx313_4)).trans hx313_4
        have HR313_4:=Aside0.mk hi313_4
        have HC313_4:=Aside0.mk hl313_4
        clear hi313_4 hl313_4
        replace p313:=eq_true p313
        replace q313:=eq_true q313
        refine start_ (n:=10) (S:=fun w' => w'.cell? (ad312.add ((x5_1).toNat * 5)) = some (.string ((rd_T42 l0 x5_1).f0)) ∧ w'.cell? ⟨(ad312.add ((x5_1).toNat * 5)).block,(ad312.add ((x5_1).toNat * 5)).off + 1,none⟩ = some (.int .i64 ((rd_T42 l0 x5_1).f1.f0)) ∧ w'.cell? ⟨(ad312.add ((x5_1).toNat * 5)).block,(ad312.add ((x5_1).toNat * 5)).off + 2,none⟩ = some (.int .i64 ((rd_T42 l0 x5_1).f1.f1)) ∧ w'.cell? ⟨(ad312.add ((x5_1).toNat * 5)).block,(ad312.add ((x5_1).toNat * 5)).off + 3,none⟩ = some (.string ((rd_T42 l0 x5_1).f1.f2)) ∧ w'.cell? ⟨(ad312.add ((x5_1).toNat * 5)).block,(ad312.add ((x5_1).toNat * 5)).off + 4,none⟩ = some (.slice A312_4 ((rd_T42 l0 x5_1).f1.f3).length c312_4) ∧ w'.cell? (ad313.add ((x5_1).toNat * 5)) = some (.string ((rd_T42 l1 x5_1).f0)) ∧ w'.cell? ⟨(ad313.add ((x5_1).toNat * 5)).block,(ad313.add ((x5_1).toNat * 5)).off + 1,none⟩ = some (.int .i64 ((rd_T42 l1 x5_1).f1.f0)) ∧ w'.cell? ⟨(ad313.add ((x5_1).toNat * 5)).block,(ad313.add ((x5_1).toNat * 5)).off + 2,none⟩ = some (.int .i64 ((rd_T42 l1 x5_1).f1.f1)) ∧ w'.cell? ⟨(ad313.add ((x5_1).toNat * 5)).block,(ad313.add ((x5_1).toNat * 5)).off + 3,none⟩ = some (.string ((rd_T42 l1 x5_1).f1.f2)) ∧ w'.cell? ⟨(ad313.add ((x5_1).toNat * 5)).block,(ad313.add ((x5_1).toNat * 5)).off + 4,none⟩ = some (.slice A313_4 ((rd_T42 l1 x5_1).f1.f3).length c313_4)) (ds:=[]) (zF0 10 0) (by kernel_rfl) rfl rfl ⟨((HB.out.cell (World.block_lt_of_cell? w _ hw312_0)).trans hw312_0),((HB.out.cell (World.block_lt_of_cell? w _ hw312_1)).trans hw312_1),((HB.out.cell (World.block_lt_of_cell? w _ hw312_2)).trans hw312_2),((HB.out.cell (World.block_lt_of_cell? w _ hw312_3)).trans hw312_3),((HB.out.cell (World.block_lt_of_cell? w _ hw312_4)).trans hw312_4),((HB.out.cell (World.block_lt_of_cell? w _ hw313_0)).trans hw313_0),((HB.out.cell (World.block_lt_of_cell? w _ hw313_1)).trans hw313_1),((HB.out.cell (World.block_lt_of_cell? w _ hw313_2)).trans hw313_2),((HB.out.cell (World.block_lt_of_cell? w _ hw313_3)).trans hw313_3),((HB.out.cell (World.block_lt_of_cell? w _ hw313_4)).trans hw313_4)⟩ (fun hHeld => ?_);refine with_tabW laws_eqEntryS.tab6 laws_eqEntryS.bits6 (fun HT_ HW_ => ?_)
        generalize wr.drew = w11 at HB HR312_4 HR313_4 hx312_0 hx312_1 hx312_2 hx312_3 hx312_4 hx313_0 hx313_1 hx313_2 hx313_3 hx313_4 hHeld ⊢
        refine zP0 (i:=0) (N:=some 17) (zF0 10 1) rfl rfl HT_.out ?_
        refine zP0 (i:=1) (N:=some 18) (zF0 10 3) rfl rfl HT_.out ?_
        refine zP0 (i:=2) (N:=some 19) (zF0 10 7) rfl rfl HT_.out ?_
        refine zP0 (i:=4) (N:=some 21) (zF0 10 23) rfl rfl HT_.out ?_
        refine zP0 (i:=5) (N:=some 22) (zF0 10 55) rfl rfl HT_.out ?_
        refine zP0 (i:=6) (N:=some 23) (zF0 10 119) rfl rfl HT_.out ?_
        refine take_ (i:=3) (N:=some 20) (v:=?_) (a':=?_) (zF0 10 127) rfl rfl (take_ofW HT_.out HW_.out (by kernel_rfl)) (fun _ _ _ h => h) (Or.inl ⟨by rfl,?_⟩) hHeld ?_ ?_;rotate_left
        ·rintro w' ⟨s0,s1,s2,s3,s4,s5,s6,s7,s8,s9⟩
         go_simp
         with_reducible rfl
        rotate_left
        ·simp only [Act.put,qA0,qB0,qC0,i64_w,i32_w];rfl
        refine take_ (i:=7) (N:=some 24) (v:=?_) (a':=?_) (zF0 10 255) rfl rfl (take_ofW HT_.out HW_.out (by kernel_rfl)) (fun _ _ _ h => h) (Or.inl ⟨by rfl,?_⟩) hHeld ?_ ?_;rotate_left
        ·rintro w' ⟨s0,s1,s2,s3,s4,s5,s6,s7,s8,s9⟩
         go_simp
         with_reducible rfl
        rotate_left
        ·simp only [Act.put,qA0,qB0,qC0,i64_w,i32_w];rfl
        refine one_ (i:=8) (N:=some 25) (zF0 10 511) rfl rfl (one_of HT_.out (by kernel_rfl)) (by decide) (fun K hK => ?_)
        refine goes_ Try.func26 (by kernel_rfl) rfl #[.agg #[.string ((rd_T42 l0 x5_1).f0),.int .i64 ((rd_T42 l0 x5_1).f1.f0),.int .i64 ((rd_T42 l0 x5_1).f1.f1),.string ((rd_T42 l0 x5_1).f1.f2),.slice A312_4 ((rd_T42 l0 x5_1).f1.f3).length c312_4],.agg #[.string ((rd_T42 l1 x5_1).f0),.int .i64 ((rd_T42 l1 x5_1).f1.f0),.int .i64 ((rd_T42 l1 x5_1).f1.f1),.string ((rd_T42 l1 x5_1).f1.f2),.slice A313_4 ((rd_T42 l1 x5_1).f1.f3).length c313_4]] (by rfl) rfl rfl zM0 ?_
        with_reducible refine (laws_eqEntry.calls k1 ((rd_T42 l0 x5_1).f0) ((rd_T42 l0 x5_1).f1.f0) ((rd_T42 l0 x5_1).f1.f1) ((rd_T42 l0 x5_1).f1.f2) _ _ ((rd_T42 l0 x5_1).f1.f3) ((rd_T42 l1 x5_1).f0) ((rd_T42 l1 x5_1).f1.f0) ((rd_T42 l1 x5_1).f1.f1) ((rd_T42 l1 x5_1).f1.f2) _ _ ((rd_T42 l1 x5_1).f1.f3) false _ ?side1 ?side2 ?side3 ?side4 A7.out).mono ?_
        (case side1 => repeat (first | exact (Kd.C_below HR312_4.out HB.out) | (with_reducible refine Kd.C_alloc ?_ _) | (with_reducible refine Kd.C_drewN ?_ _) | (with_reducible refine Kd.C_drew ?_)))
        (case side2 => exact HC312_4.out)
        (case side3 => repeat (first | exact (Kd.C_below HR313_4.out HB.out) | (with_reducible refine Kd.C_alloc ?_ _) | (with_reducible refine Kd.C_drewN ?_ _) | (with_reducible refine Kd.C_drew ?_)))
        (case side4 => exact HC313_4.out)
        rintro e w12 ⟨rfl,hb⟩
        refine ⟨_,rfl,?_⟩
        have n0_:=Aside0.mk (zS0 HB.out hb)
        clear HB
        have HB:=n0_
        clear n0_
        (try clear hb)
        (try clear hb2)
        (try clear hk)
        (try clear hi)
        refine hK.out _ _ ⟨((HB.out.cell (World.block_lt_of_cell? w _ hw312_0)).trans hw312_0),((HB.out.cell (World.block_lt_of_cell? w _ hw312_1)).trans hw312_1),((HB.out.cell (World.block_lt_of_cell? w _ hw312_2)).trans hw312_2),((HB.out.cell (World.block_lt_of_cell? w _ hw312_3)).trans hw312_3),((HB.out.cell (World.block_lt_of_cell? w _ hw312_4)).trans hw312_4),((HB.out.cell (World.block_lt_of_cell? w _ hw313_0)).trans hw313_0),((HB.out.cell (World.block_lt_of_cell? w _ hw313_1)).trans hw313_1),((HB.out.cell (World.block_lt_of_cell? w _ hw313_2)).trans hw313_2),((HB.out.cell (World.block_lt_of_cell? w _ hw313_3)).trans hw313_3),((HB.out.cell (World.block_lt_of_cell? w _ hw313_4)).trans hw313_4)⟩ (fun hHeld => ?_)
        clear hK K
        refine norm_ (a':=?_) ?_ ?_;rotate_left
        ·show Act.put _ (some 25) _ = _;simp only [Act.put,qA0,qB0,qC0,i64_w,i32_w];rfl
        refine zP0 (i:=9) (N:=some 26) (zF0 10 1023) rfl rfl HT_.out ?_
        refine done_ (done_of HT_.out (by kernel_rfl)) ?_
        try go_wp2
        go_ret
        exact ⟨by first | rfl | (simp [errW_none,errW_some] <;> rfl) | (simp [*,errW_none,errW_some] <;> rfl),by repeat (first | (with_reducible first | exact HB.out | apply below_alloc | apply pw_below_drewN | apply below_drew1) | exact HB.out)⟩
      ·rw [if_neg c6] at H
       exact absurd H (by simp)
     ·rw [if_neg c5] at H
      exact absurd H (by simp)
    ·rw [if_neg c4] at H
     have c4b0 : decide (x5_1 < (l0.length : Int)) = false:=decide_eq_false c4
     clear c4
     obtain rfl:=Option.some.inj H
     go_wp2
     go_ret
     exact ⟨by first | rfl | (simp [errW_none,errW_some] <;> rfl) | (simp [*,errW_none,errW_some] <;> rfl),by repeat (first | (with_reducible first | exact HB.out | apply below_alloc | apply pw_below_drewN | apply below_drew1) | exact HB.out)⟩
 ·rw [if_neg c3] at H
  have c3b0 : ((l0.length : Int) == (l1.length : Int)) = false:=beq_eq_false_iff_ne.mpr c3
  have c3b1 : ((l0.length : Int) != (l1.length : Int)) = true:=bne_iff_ne.mpr c3
  have c3b2 : (l0.length == l1.length) = false:=by first | simpa using c3 | (simp at c3 ⊢;omega)
  obtain rfl:=Option.some.inj H
  go_enter Try.func9,Try.ntmps9
  go_wp2
  go_ret
  exact ⟨by first | rfl | (simp [errW_none,errW_some] <;> rfl) | (simp [*,errW_none,errW_some] <;> rfl),by repeat (first | (with_reducible first | exact HB.out | apply below_alloc | apply pw_below_drewN | apply below_drew1) | exact HB.out)⟩

/-! ### laws_markText: function 27 -/
def laws_markText.l0 : Nat → Int → ByteArray → Option (ByteArray)
 | 0,_,_ => none
 | k + 1,x0,x3 => if x0 > 0 then ((some (([(wrap64 (48 + (Int.tmod x0 10))) % 256] : List Int) : List Int)).bind fun y315 => (if (strOfNums y315).size + x3.size ≤ 9223372036854775807 then (laws_markText.l0 k (wrap64 (Int.tdiv x0 10)) ((strOfNums y315) ++ x3)) else (none))) else (if 1 + x3.size ≤ 9223372036854775807 then (some ((⟨#[109]⟩ : ByteArray) ++ x3)) else (none))
def laws_markText.f (k : Nat) (a0 : Int) : Option (ByteArray):=if a0 ≤ 0 then (some (⟨#[109,48]⟩ : ByteArray)) else (laws_markText.l0 k a0 (⟨#[]⟩ : ByteArray))
theorem laws_markText.mono_l : ∀ k,(∀ y0 y1,LeO (laws_markText.l0 k y0 y1) (laws_markText.l0 (k + 1) y0 y1))
 | 0 => fun _ _ r h => by simp [laws_markText.l0] at h
 | k + 1 => by
  have ih0:=laws_markText.mono_l k
  ·intro y0 y1
   unfold laws_markText.l0
   repeat' first
   | (with_reducible exact ih0 _ _)
   | (with_reducible exact LeO.refl _)
   | (with_reducible exact LeO.none _)
   | (with_reducible refine LeO.ite ?_ ?_)
   | (with_reducible refine LeO.bind ?_ (fun _ => ?_))
   | exact ih0 _ _
   | exact LeO.none _
   | refine LeO.ite ?_ ?_
   | refine LeO.bind ?_ (fun _ => ?_)
theorem laws_markText.mono : ∀ a0 k,LeO (laws_markText.f k a0) (laws_markText.f (k + 1) a0):=by
 intro a0 k
 have ih0:=laws_markText.mono_l k
 unfold laws_markText.f
 repeat' first
   | (with_reducible exact ih0 _ _)
   | (with_reducible exact LeO.refl _)
   | (with_reducible exact LeO.none _)
   | (with_reducible refine LeO.ite ?_ ?_)
   | (with_reducible refine LeO.bind ?_ (fun _ => ?_))
   | exact ih0 _ _
   | exact LeO.none _
   | refine LeO.ite ?_ ?_
   | refine LeO.bind ?_ (fun _ => ?_)
set_option maxHeartbeats 8000000 in
set_option maxRecDepth 100000 in
theorem laws_markText.calls (k : Nat) (a0 : Int) (r : ByteArray) (w : World) (h : laws_markText.f k a0 = some r) :
  Calls Try.prog 27 #[.int .i64 a0] w fun e w' => e = .returned (.string r) ∧ Below w.heap.size w w':=by
 have HB:=Aside0.mk (Below.refl w.heap.size w)
 have H : (if a0 ≤ 0 then (some (⟨#[109,48]⟩ : ByteArray)) else (laws_markText.l0 k a0 (⟨#[]⟩ : ByteArray))) = some r:=h
 clear h
 by_cases c2 : a0 ≤ 0
 ·rw [if_pos c2] at H
  have c2b0 : decide (a0 ≤ 0) = true:=decide_eq_true c2
  clear c2
  obtain rfl:=Option.some.inj H
  go_enter Try.func27,Try.ntmps27
  go_wp2
  go_ret
  exact ⟨by first | rfl | (simp [errW_none,errW_some] <;> rfl) | (simp [*,errW_none,errW_some] <;> rfl),by repeat (first | (with_reducible first | exact HB.out | apply below_alloc | apply pw_below_drewN | apply below_drew1) | exact HB.out)⟩
 ·rw [if_neg c2] at H
  have c2b0 : decide (a0 ≤ 0) = false:=decide_eq_false c2
  clear c2
  have H':=Aside0.mk H
  clear H
  go_enter Try.func27,Try.ntmps27
  go_wp2
  go_loopg [0,3] k (fun kq v0 v3 w' => ∃ (x0_1 : Int) (x3_1 : ByteArray),v0 = .int .i64 x0_1 ∧ v3 = .string x3_1 ∧ Aside0 (laws_markText.l0 kq x0_1 x3_1 = some r) ∧ Aside0 (kq ≤ k) ∧ Aside0 (Below w.heap.size w w'))
  case atStart => exact ⟨(a0),((⟨#[]⟩ : ByteArray)),(by first | rfl | (simp;done) | (simp [*];done)),(by first | rfl | (simp;done) | (simp [*];done)),H',⟨Nat.le_refl _⟩,⟨by repeat (first | (with_reducible first | exact HB.out | apply below_alloc | apply pw_below_drewN | apply below_drew1) | exact HB.out)⟩⟩
  case round =>
   clear H'
   try clear c2
   try clear c2b0
   try clear p2
   obtain ⟨x0_1,x3_1,rfl,rfl,HA,HK1,HB⟩:=hrel
   cases gk with
   | zero => exact absurd HA.out (by simp [laws_markText.l0])
   | succ k1 =>
    have H:=HA.out
    clear HA
    simp only [laws_markText.l0] at H
    by_cases c3 : x0_1 > 0
    ·rw [if_pos c3] at H
     have c3b0 : decide (0 < x0_1) = true:=decide_eq_true c3
     clear c3
     obtain ⟨y315,hy315⟩ : ∃ y_ : List Int,y_ = (([(wrap64 (48 + (Int.tmod x0_1 10))) % 256] : List Int)):=⟨_,rfl⟩
     replace H : (if (strOfNums y315).size + x3_1.size ≤ 9223372036854775807 then (laws_markText.l0 k1 (wrap64 (Int.tdiv x0_1 10)) ((strOfNums y315) ++ x3_1)) else (none)) = some r:=by first | (rw [hy315];with_reducible exact H) | (have H2_:=(Option.bind_some _ _).symm.trans H;rw [hy315];with_reducible exact H2_) | (have H2_:=(Option.bind_some _ _).symm.trans H;with_reducible exact H2_) | with_reducible exact H | (rw [hy315];exact H) | exact H
     have Ny315:=Aside0.mk hy315
     clear hy315
     by_cases c4 : (strOfNums y315).size + x3_1.size ≤ 9223372036854775807
     ·rw [if_pos c4] at H
      have c4b0:=eq_true c4
      have c4b1 : decide ((strOfNums y315).size + x3_1.size ≤ 9223372036854775807) = true:=decide_eq_true c4
      try have c4b2 : (9223372036854775807 < (strOfNums y315).size + x3_1.size) = False:=eq_false (Nat.not_lt.2 c4)
      have H':=Aside0.mk H
      clear H
      go_wp2_with (first | ((with_reducible refine gate_dst (N:=12) rfl ?_);refine Kd.R_lit (Kd.int .u8) _ 5 ?hg (N:=12) ?hd (xs:=([(wrap64 (48 + (Int.tmod x0_1 10))) % 256] : List Int)) (inner:=[.int .u8 ((wrap64 (48 + (Int.tmod x0_1 10))) % 256)]) (ok:=fun _ => True) (okp:=fun _ => True) ?hr ?hp (fun _ hk => hk) trivial (Below.refl _ _) (Nat.le_refl _) (by simp) ?_;(case hd => rfl);(case hg => rfl);(case hr => first | (go_simp;done) | (go_simp;rfl));(case hp => exact (Reps.one (show Kd.M (Kd.int .u8) _ _ _ ((wrap64 (48 + (Int.tmod x0_1 10))) % 256) [.int .u8 ((wrap64 (48 + (Int.tmod x0_1 10))) % 256)] from rfl) (Reps.none _ _)));intro v316 w5 ho6 hb hg_ hnew_;clear hg_ hnew_;(first | rw [← Ny315.out] at ho6 | (simp only [Int.reduceToNat] at ho6;rw [← Ny315.out] at ho6));have n0_:=Aside0.mk (Kd.R_lower ho6 (zZ0 HB.out));have n1_:=Aside0.mk (zS0 HB.out hb);clear HB;have HO317:=n0_;have HB:=n1_;clear n0_ n1_;clear hb ho6;have hcv7:=own_string (P:=Try.prog) Try.underlying61 Try.underlying5 Try.underlying9 (Kd.own_of_R HO317.out)))
      go_roundg k1
      case measure => have:=HK1.out;omega
      case rel => exact ⟨(wrap64 (Int.tdiv x0_1 10)),((strOfNums y315) ++ x3_1),(by first | rfl | (simp;done) | (simp [*];done)),(by first | rfl | (simp;done) | (simp [*];done)),H',⟨by have:=HK1.out;omega⟩,⟨by repeat (first | (with_reducible first | exact HB.out | apply below_alloc | apply pw_below_drewN | apply below_drew1) | exact HB.out)⟩⟩
     ·rw [if_neg c4] at H
      exact absurd H (by simp)
    ·rw [if_neg c3] at H
     have c3b0 : decide (0 < x0_1) = false:=decide_eq_false c3
     clear c3
     by_cases c8 : 1 + x3_1.size ≤ 9223372036854775807
     ·rw [if_pos c8] at H
      have c8b0:=eq_true c8
      have c8b1 : decide (1 + x3_1.size ≤ 9223372036854775807) = true:=decide_eq_true c8
      try have c8b2 : (9223372036854775807 < 1 + x3_1.size) = False:=eq_false (Nat.not_lt.2 c8)
      obtain rfl:=Option.some.inj H
      go_wp2
      go_ret
      exact ⟨by first | rfl | (simp [errW_none,errW_some] <;> rfl) | (simp [*,errW_none,errW_some] <;> rfl),by repeat (first | (with_reducible first | exact HB.out | apply below_alloc | apply pw_below_drewN | apply below_drew1) | exact HB.out)⟩
     ·rw [if_neg c8] at H
      exact absurd H (by simp)

/-! ### laws_markStringS: function 28 -/
def laws_markStringS.l0 : Nat → List ByteArray → Int → Int → Option (Int × List ByteArray)
 | 0,_,_,_ => none
 | k + 1,x0,x1,x5 => if x5 < (x0.length : Int) then ((laws_markText.f k x1).bind fun t318 => (if 0 ≤ x5 then (laws_markStringS.l0 k (x0.set (x5 : Int).toNat t318) (wrap64 (x1 + 1)) (wrap64 (x5 + 1))) else (none))) else (some (x1,x0))
def laws_markStringS.f (k : Nat) (l0 : List ByteArray) (a1 : Int) : Option (Int × List ByteArray):=laws_markStringS.l0 k l0 a1 0
theorem laws_markStringS.mono_l : ∀ k,(∀ y0 y1 y2,LeO (laws_markStringS.l0 k y0 y1 y2) (laws_markStringS.l0 (k + 1) y0 y1 y2))
 | 0 => fun _ _ _ r h => by simp [laws_markStringS.l0] at h
 | k + 1 => by
  have ih0:=laws_markStringS.mono_l k
  ·intro y0 y1 y2
   unfold laws_markStringS.l0
   repeat' first
   | (with_reducible exact ih0 _ _ _)
   | (with_reducible exact laws_markText.mono _ _)
   | (with_reducible exact LeO.refl _)
   | (with_reducible exact LeO.none _)
   | (with_reducible refine LeO.ite ?_ ?_)
   | (with_reducible refine LeO.bind ?_ (fun _ => ?_))
   | exact ih0 _ _ _
   | exact laws_markText.mono _ _
   | exact LeO.none _
   | refine LeO.ite ?_ ?_
   | refine LeO.bind ?_ (fun _ => ?_)
theorem laws_markStringS.mono : ∀ a0 a1 k,LeO (laws_markStringS.f k a0 a1) (laws_markStringS.f (k + 1) a0 a1):=by
 intro a0 a1 k
 have ih0:=laws_markStringS.mono_l k
 unfold laws_markStringS.f
 repeat' first
   | (with_reducible exact ih0 _ _ _)
   | (with_reducible exact laws_markText.mono _ _)
   | (with_reducible exact LeO.refl _)
   | (with_reducible exact LeO.none _)
   | (with_reducible refine LeO.ite ?_ ?_)
   | (with_reducible refine LeO.bind ?_ (fun _ => ?_))
   | exact ih0 _ _ _
   | exact laws_markText.mono _ _
   | exact LeO.none _
   | refine LeO.ite ?_ ?_
   | refine LeO.bind ?_ (fun _ => ?_)
set_option maxHeartbeats 8000000 in
set_option maxRecDepth 100000 in
theorem laws_markStringS.calls (k : Nat) (P0_ : Nat → Prop) (u9000_ : Value) (l0 : List ByteArray) (a1 : Int) (r1 : Int) (r2 : List ByteArray) (w0 w : World) (hB : Below w0.heap.size w0 w) (ho0 : Kd.R Kd.string 9 w w0.heap.size P0_ u9000_ l0) (h : laws_markStringS.f k l0 a1 = some (r1,r2)) :
  Calls Try.prog 28 #[u9000_,.int .i64 a1] w fun e w' => e = .returned (.int .i64 r1) ∧ Kd.R Kd.string 9 w' w0.heap.size (fun k_ => (P0_ k_ ∨ w.heap.size ≤ k_)) u9000_ r2 ∧ Below w0.heap.size w0 w' ∧ Kept w w' (fun k_ => P0_ k_):=by
 have HO0:=Aside0.mk (show Kd.R Kd.string 9 w w0.heap.size (fun k_ => (P0_ k_ ∨ w.heap.size ≤ k_)) u9000_ l0 from Kd.R_mono ho0 (fun k_ hk => (.inl hk)))
 have HK:=Aside0.mk (Kept.refl w (fun k_ => P0_ k_))
 have HW0:=Aside0.mk hB.size
 have HB:=Aside0.mk hB
 clear hB
 have H : (laws_markStringS.l0 k l0 a1 0) = some (r1,r2):=h
 clear h
 have H':=Aside0.mk H
 clear H
 go_enter Try.func28,Try.ntmps28
 go_wp2
 go_loopg [1,5] k (fun kq v1 v5 w' => ∃ (x0_1 : List ByteArray) (x1_1 : Int) (x5_1 : Int),v1 = .int .i64 x1_1 ∧ v5 = .int .i64 x5_1 ∧ Aside0 (laws_markStringS.l0 kq x0_1 x1_1 x5_1 = some (r1,r2)) ∧ Aside0 (kq ≤ k) ∧ Aside0 (Kd.R Kd.string 9 w' w0.heap.size (fun k_ => (P0_ k_ ∨ w.heap.size ≤ k_)) u9000_ x0_1) ∧ Aside0 (Kept w w' (fun k_ => P0_ k_)) ∧ Aside0 (Below w0.heap.size w0 w'))
 case atStart => exact ⟨(l0),(a1),(0),(by first | rfl | (simp;done) | (simp [*];done)),(by first | rfl | (simp;done) | (simp [*];done)),H',⟨Nat.le_refl _⟩,⟨by (with_reducible repeat (first | apply Kd.R_alloc | apply Kd.R_drewN | apply Kd.R_drew));exact HO0.out⟩,⟨by repeat (first | (with_reducible first | exact HK.out | apply Kept.alloc | apply Kept.drewN | apply Kept.drew) | exact HK.out)⟩,⟨by repeat (first | (with_reducible first | exact HB.out | apply below_alloc | apply pw_below_drewN | apply below_drew1) | exact HB.out)⟩⟩
 case round =>
  clear H'
  try clear c2
  try clear p2
  obtain ⟨x0_1,x1_1,x5_1,rfl,rfl,HA,HK1,HO_0,HK,HB⟩:=hrel
  cases gk with
  | zero => exact absurd HA.out (by simp [laws_markStringS.l0])
  | succ k1 =>
   have H:=HA.out
   clear HA
   simp only [laws_markStringS.l0] at H
   by_cases c3 : x5_1 < (x0_1.length : Int)
   ·rw [if_pos c3] at H
    have c3b0 : decide (x5_1 < (x0_1.length : Int)) = true:=decide_eq_true c3
    clear c3
    replace H:=Option.bind_eq_some_iff.mp H
    obtain ⟨t318,A40,H⟩:=H
    replace H : (if 0 ≤ x5_1 then (laws_markStringS.l0 k1 (x0_1.set (x5_1 : Int).toNat t318) (wrap64 (x1_1 + 1)) (wrap64 (x5_1 + 1))) else (none)) = some (r1,r2):=H
    have A4:=Aside0.mk A40
    clear A40
    by_cases c5 : 0 ≤ x5_1
    ·rw [if_pos c5] at H
     have c5b0 : decide (0 ≤ x5_1) = true:=decide_eq_true c5
     clear c5
     obtain ⟨y319,hy319⟩ : ∃ y_ : List ByteArray,y_ = (x0_1.set (x5_1 : Int).toNat t318):=⟨_,rfl⟩
     replace H : (laws_markStringS.l0 k1 y319 (wrap64 (x1_1 + 1)) (wrap64 (x5_1 + 1))) = some (r1,r2):=by first | (rw [hy319];with_reducible exact H) | (have H2_:=(Option.bind_some _ _).symm.trans H;rw [hy319];with_reducible exact H2_) | (have H2_:=(Option.bind_some _ _).symm.trans H;with_reducible exact H2_) | with_reducible exact H | (rw [hy319];exact H) | exact H
     have Ny319:=Aside0.mk hy319
     clear hy319
     have H':=Aside0.mk H
     clear H
     obtain ⟨Ao7,co7,eo7⟩:=Kd.R_slice HO_0.out
     subst eo7
     go_wp2_with (first | ((with_reducible refine gate_callee (f:=27) rfl ?_);refine goesL_ (some 15) rfl rfl Try.func27 (by kernel_rfl) rfl #[.int .i64 x1_1] rfl zM0 ?_;(with_reducible refine (laws_markText.calls k1 x1_1 t318 _ A4.out).mono ?_);rintro e w8 ⟨rfl,hb⟩;refine ⟨_,rfl,?_⟩;have n0_:=Aside0.mk (Kd.R_below (zR0 HO_0.out) hb);have n1_:=Aside0.mk (Kept.below (S:=(fun k_ => P0_ k_)) (by repeat (first | (with_reducible first | exact HK.out | apply Kept.alloc | apply Kept.drewN | apply Kept.drew) | exact HK.out)) hb);have n2_:=Aside0.mk (zS0 HB.out hb);clear HO_0;clear HK;clear HB;have HO_0:=n0_;have HK:=n1_;have HB:=n2_;clear n0_ n1_ n2_;(try clear hb);(try clear hb2);(try clear hk);(try clear hi);have p6 : 0 ≤ (x5_1 : Int):=of_decide_eq_true (by first | (with_reducible assumption) | assumption);have q6 : (x5_1 : Int) < ((x0_1.length : Int) : Int):=of_decide_eq_true (by first | (with_reducible assumption) | assumption);obtain ⟨go6,co6,eo6,gb6,gl6,cl6,HG6⟩:=Kd.R_form HO_0.out (by omega);(first | cases eo6 | (injection eo6 with ea_ en_ ec_;(first | subst ea_ | (injection ea_ with ea_;subst ea_));subst ec_;clear en_));have GB6:=Aside0.mk gb6;have GG6:=Aside0.mk HG6;clear gb6 gl6 HG6;have HMgo6:=Aside0.mk (show (P0_ go6 ∨ w.heap.size ≤ go6) from (HO_0.out.1 _ rfl));obtain ⟨hx6_0,hf6_0⟩:=Kd.R_celln (⟨#[]⟩ : ByteArray) HO_0.out (x5_1 : Int) p6 q6;replace p6:=eq_true p6;replace q6:=eq_true q6;obtain ⟨hy9_,hz9_⟩:=Kd.R_celln (⟨#[]⟩ : ByteArray) HO_0.out (x5_1 : Int) (of_decide_eq_true (by first | (with_reducible assumption) | assumption)) (of_decide_eq_true (by first | (with_reducible assumption) | assumption));have HP9:=Kd.R_putg HO_0.out (x5_1 : Int) t318) | ((with_reducible refine gate_store (t:=9) (p:=16) rfl ?_);refine store_event (t:=9) (p:=16) (v:=?vo_w10) (w1:=(w8.setCell ⟨go6,(x5_1 : Int).toNat,none⟩ (.string t318))) ?hg ?ho ?hn ?hr ?_;(case ho => rfl);(case hg => rfl);(case hn => rfl);(case hr => first | (go_simp;done) | (go_simp;rfl));intro w10 hw;have hg : w8.grownBy w10 (some go6):=(by rw [hw];exact HP9.2);have hp_ : Kd.R Kd.string 9 w10 w0.heap.size (fun k_ => (P0_ k_ ∨ w.heap.size ≤ k_)) (.slice (some ⟨go6,0,none⟩) x0_1.length co7) y319:=(by rw [hw,Ny319.out];exact HP9.1);clear HP9;have n0_:=Aside0.mk (hp_);have n1_:=Aside0.mk ((by rw [hw];exact below_set (HB.out) GB6.out : Below w0.heap.size w0 w10));have n2_:=Aside0.mk (Kept.of_grown (S:=(fun k_ => P0_ k_)) hg (by repeat (first | (with_reducible first | exact HK.out | apply Kept.alloc | apply Kept.drewN | apply Kept.drew) | exact HK.out)) (fun k_ e_ => (HO_0.out.1 k_ e_)));clear HO_0;clear HB;clear HK;have HO_0:=n0_;have HB:=n1_;have HK:=n2_;clear n0_ n1_ n2_;clear hg hw hp_))
     go_roundg k1
     case measure => have:=HK1.out;omega
     case rel => exact ⟨(y319),(wrap64 (x1_1 + 1)),(wrap64 (x5_1 + 1)),(by first | rfl | (simp;done) | (simp [*];done)),(by first | rfl | (simp;done) | (simp [*];done)),H',⟨by have:=HK1.out;omega⟩,⟨by (with_reducible repeat (first | apply Kd.R_alloc | apply Kd.R_drewN | apply Kd.R_drew));exact HO_0.out⟩,⟨by repeat (first | (with_reducible first | exact HK.out | apply Kept.alloc | apply Kept.drewN | apply Kept.drew) | exact HK.out)⟩,⟨by repeat (first | (with_reducible first | exact HB.out | apply below_alloc | apply pw_below_drewN | apply below_drew1) | exact HB.out)⟩⟩
    ·rw [if_neg c5] at H
     exact absurd H (by simp)
   ·rw [if_neg c3] at H
    have c3b0 : decide (x5_1 < (x0_1.length : Int)) = false:=decide_eq_false c3
    clear c3
    simp only [Option.some.injEq,Prod.mk.injEq] at H
    obtain ⟨rfl,rfl⟩:=H
    obtain ⟨Ao11,co11,eo11⟩:=Kd.R_slice HO_0.out
    subst eo11
    go_wp2
    go_ret
    exact ⟨by first | rfl | (simp [errW_none,errW_some] <;> rfl) | (simp [*,errW_none,errW_some] <;> rfl),by (with_reducible repeat (first | apply Kd.R_alloc | apply Kd.R_drewN | apply Kd.R_drew));exact HO_0.out,by repeat (first | (with_reducible first | exact HB.out | apply below_alloc | apply pw_below_drewN | apply below_drew1) | exact HB.out),by repeat (first | (with_reducible first | exact HK.out | apply Kept.alloc | apply Kept.drewN | apply Kept.drew) | exact HK.out)⟩

/-! ### laws_markEntryS: function 10 (a text of its own) -/
/-- Element i of a row, its cells lent, as laws.markEntryS writes them. -/
structure MSt (w w0 W : World) (P0 : Nat → Prop) (g n cap : Nat) (xs : List S42) (i : Int) (oki : Nat → Prop) (t0 : ByteArray) (a b : Int) (t1 : ByteArray) (v4 : Value) (items : List ByteArray) : Prop where
 h0 : 0 ≤ i
 h1 : i < n
 H : Kd.H k42 42 W w0.heap.size (fun k_ => (P0 k_ ∨ w.heap.size ≤ k_)) (.slice (some ⟨g,0,none⟩) n cap) xs i oki [.string t0,.int .i64 a,.int .i64 b,.string t1,v4]
 R : Kd.R Kd.string 9 W w0.heap.size oki v4 items
 ne : ∀ k,oki k → k ≠ g
 B : Below w0.heap.size w0 W
 K : Kept w W (fun k_ => P0 k_)
theorem MSt.start {w w0 W : World} {P0 : Nat → Prop} {g n cap : Nat} {xs : List S42} {i : Int} (HS : Kd.S k42 42 W w0.heap.size (fun k_ => (P0 k_ ∨ w.heap.size ≤ k_)) (.slice (some ⟨g,0,none⟩) n cap) xs) (h0 : 0 ≤ i) (h1 : i < n) (hB : Below w0.heap.size w0 W) (hK : Kept w W (fun k_ => P0 k_)) :
  ∃ oki A4 c4,MSt w w0 W P0 g n cap xs i oki (rd_T42 xs i).f0 (rd_T42 xs i).f1.f0 (rd_T42 xs i).f1.f1 (rd_T42 xs i).f1.f2 (.slice A4 (rd_T42 xs i).f1.f3.length c4) (rd_T42 xs i).f1.f3:=by
 obtain ⟨oki,c,hcl,hM,hcc,hoki,hH⟩:=Kd.S_lend HS z42 i h0 h1
 obtain ⟨v4,rfl,hR⟩:=k42_openM hM
 obtain ⟨A4,c4,rfl⟩:=Kd.R_slice hR
 exact ⟨oki,A4,c4,h0,h1,hH,hR,fun k hk => (hoki k hk).2,hB,hK⟩
section
variable {w w0 W W1 : World} {P0 : Nat → Prop} {g n cap : Nat} {xs : List S42} {i : Int} {oki : Nat → Prop} {t0 : ByteArray} {a b : Int} {t1 : ByteArray} {v4 : Value} {items : List ByteArray}
theorem MSt.cells (m : MSt w w0 W P0 g n cap xs i oki t0 a b t1 v4 items) : W.cell? ⟨g,i.toNat * 5,none⟩ = some (.string t0) ∧ W.cell? ⟨g,i.toNat * 5 + 1,none⟩ = some (.int .i64 a) ∧ W.cell? ⟨g,i.toNat * 5 + 2,none⟩ = some (.int .i64 b) ∧ W.cell? ⟨g,i.toNat * 5 + 3,none⟩ = some (.string t1) ∧ W.cell? ⟨g,i.toNat * 5 + 4,none⟩ = some v4 ∧ ∀ j,W.frozen? ⟨g,i.toNat * 5 + j,none⟩ = false:=by
 obtain ⟨rows,hl,hraw,hcl,hco,hcc,hback⟩:=Kd.H_raw m.H m.h0 m.h1
 obtain ⟨_,_,_,_,hfr⟩:=Kd.R_elem hraw [] i m.h0 m.h1
 exact ⟨hcc 0 _ rfl,hcc 1 _ rfl,hcc 2 _ rfl,hcc 3 _ rfl,hcc 4 _ rfl,hfr⟩
theorem MSt.own (m : MSt w w0 W P0 g n cap xs i oki t0 a b t1 v4 items) : (P0 g ∨ w.heap.size ≤ g) ∧ w0.heap.size ≤ g:=by
 obtain ⟨_,f,hR⟩:=m.H
 exact ⟨(hR.1 g (by simp [Value.ownBlock])).1,Kd.R_base hR g (by simp [Value.ownBlock])⟩
theorem MSt.putH (m : MSt w w0 W P0 g n cap xs i oki t0 a b t1 v4 items) (j : Nat) (hj : j + 1 ≤ 5) (u : Value) (hu : u.oneCell' = true) {c' : List Value} (hc : ([.string t0,.int .i64 a,.int .i64 b,.string t1,v4] : List Value).take j ++ [u] ++ ([.string t0,.int .i64 a,.int .i64 b,.string t1,v4] : List Value).drop (j + 1) = c') :
  Kd.H k42 42 (W.setCell ⟨g,i.toNat * 5 + j,none⟩ u) w0.heap.size (fun k_ => (P0 k_ ∨ w.heap.size ≤ k_)) (.slice (some ⟨g,0,none⟩) n cap) xs i oki c' ∧ Kd.R Kd.string 9 (W.setCell ⟨g,i.toNat * 5 + j,none⟩ u) w0.heap.size oki v4 items ∧
   Below w0.heap.size w0 (W.setCell ⟨g,i.toNat * 5 + j,none⟩ u) ∧ Kept w (W.setCell ⟨g,i.toNat * 5 + j,none⟩ u) (fun k_ => P0 k_):=by
 subst hc
 exact ⟨(Kd.H_seg m.H m.h0 m.h1 (seg:=[u]) (j:=j) hj (fun q hq => by rw [List.mem_singleton.1 hq];exact hu)).1,Kd.R_far (p:=⟨g,i.toNat * 5 + j,none⟩) m.R m.ne u,below_set m.B m.own.2,Kept.setCell (p:=⟨g,i.toNat * 5 + j,none⟩) m.K m.own.1 u⟩
theorem MSt.put0 (m : MSt w w0 W P0 g n cap xs i oki t0 a b t1 v4 items) (t : ByteArray) : MSt w w0 (W.setCell ⟨g,i.toNat * 5,none⟩ (.string t)) P0 g n cap xs i oki t a b t1 v4 items:=by
 obtain ⟨s1_,s2_,s3_,s4_⟩:=m.putH 0 (by decide) (.string t) rfl rfl
 exact ⟨m.h0,m.h1,s1_,s2_,m.ne,s3_,s4_⟩
theorem MSt.put1 (m : MSt w w0 W P0 g n cap xs i oki t0 a b t1 v4 items) (x : Int) : MSt w w0 (W.setCell ⟨g,i.toNat * 5 + 1,none⟩ (.int .i64 x)) P0 g n cap xs i oki t0 x b t1 v4 items:=by
 obtain ⟨s1_,s2_,s3_,s4_⟩:=m.putH 1 (by decide) (.int .i64 x) rfl rfl
 exact ⟨m.h0,m.h1,s1_,s2_,m.ne,s3_,s4_⟩
theorem MSt.put2 (m : MSt w w0 W P0 g n cap xs i oki t0 a b t1 v4 items) (x : Int) : MSt w w0 (W.setCell ⟨g,i.toNat * 5 + 2,none⟩ (.int .i64 x)) P0 g n cap xs i oki t0 a x t1 v4 items:=by
 obtain ⟨s1_,s2_,s3_,s4_⟩:=m.putH 2 (by decide) (.int .i64 x) rfl rfl
 exact ⟨m.h0,m.h1,s1_,s2_,m.ne,s3_,s4_⟩
theorem MSt.put3 (m : MSt w w0 W P0 g n cap xs i oki t0 a b t1 v4 items) (t : ByteArray) : MSt w w0 (W.setCell ⟨g,i.toNat * 5 + 3,none⟩ (.string t)) P0 g n cap xs i oki t0 a b t v4 items:=by
 obtain ⟨s1_,s2_,s3_,s4_⟩:=m.putH 3 (by decide) (.string t) rfl rfl
 exact ⟨m.h0,m.h1,s1_,s2_,m.ne,s3_,s4_⟩
theorem MSt.below (m : MSt w w0 W P0 g n cap xs i oki t0 a b t1 v4 items) (hb : Below W.heap.size W W1) : MSt w w0 W1 P0 g n cap xs i oki t0 a b t1 v4 items :=
 ⟨m.h0,m.h1,Kd.H_below m.H hb,Kd.R_below m.R hb,m.ne,below_step m.B hb,m.K.below hb⟩
theorem MSt.done (m : MSt w w0 W P0 g n cap xs i oki t0 a b t1 v4 items) {r2 : List ByteArray} (hR : Kd.R Kd.string 9 W1 w0.heap.size (fun k_ => (oki k_ ∨ W.heap.size ≤ k_)) v4 r2) (hK : Kept W W1 (fun k_ => oki k_)) :
  Kd.S k42 42 W1 w0.heap.size (fun k_ => (P0 k_ ∨ w.heap.size ≤ k_)) (.slice (some ⟨g,0,none⟩) n cap) (xs.set i.toNat (⟨t0,(⟨a,b,t1,r2⟩ : S40)⟩ : S42)) ∧ Kept w W1 (fun k_ => P0 k_) :=
 ⟨Kd.H_back (Kd.H_kept m.H hK (fun k _ hn => hn)) (k42_mkM _ _ _ (⟨t0,(⟨a,b,t1,r2⟩ : S40)⟩ : S42) (Kd.R_tight rfl hR)) (fun k hk => m.R.1 k hk.symm),m.K.then_ hK (fun k hk => m.H.1 k hk)⟩
end
def laws_markEntryS.l0 : Nat → List S42 → Int → Int → Option (Int × List S42)
 | 0,_,_,_ => none
 | k + 1,x0,x1,x5 => if x5 < (x0.length : Int) then (if 0 ≤ x5 then ((laws_markText.f k x1).bind fun t0 => ((laws_markText.f k (wrap64 (wrap64 (wrap64 (x1 + 1) + 1) + 1))).bind fun t3 => ((laws_markStringS.f k (rd_T42 x0 x5).f1.f3 (wrap64 (wrap64 (wrap64 (wrap64 (x1 + 1) + 1) + 1) + 1))).bind fun bt => (laws_markEntryS.l0 k (x0.set (x5 : Int).toNat (⟨t0,(⟨wrap64 (x1 + 1),wrap64 (wrap64 (x1 + 1) + 1),t3,bt.2⟩ : S40)⟩ : S42)) bt.1 (wrap64 (x5 + 1)))))) else (none)) else (some (x1,x0))
def laws_markEntryS.f (k : Nat) (l0 : List S42) (a1 : Int) : Option (Int × List S42):=laws_markEntryS.l0 k l0 a1 0
theorem laws_markEntryS.mono_l : ∀ k,(∀ y0 y1 y2,LeO (laws_markEntryS.l0 k y0 y1 y2) (laws_markEntryS.l0 (k + 1) y0 y1 y2))
 | 0 => fun _ _ _ r h => by simp [laws_markEntryS.l0] at h
 | k + 1 => by
  have ih0:=laws_markEntryS.mono_l k
  intro y0 y1 y2
  unfold laws_markEntryS.l0
  refine LeO.ite (LeO.ite (LeO.bind (laws_markText.mono _ _) (fun _ => LeO.bind (laws_markText.mono _ _) (fun _ => LeO.bind (laws_markStringS.mono _ _ _) (fun _ => ih0 _ _ _)))) (LeO.none _)) (LeO.refl _)
theorem laws_markEntryS.mono : ∀ a0 a1 k,LeO (laws_markEntryS.f k a0 a1) (laws_markEntryS.f (k + 1) a0 a1):=fun a0 a1 k => laws_markEntryS.mono_l k a0 a1 0
set_option maxHeartbeats 8000000 in
set_option maxRecDepth 100000 in
theorem laws_markEntryS.calls (k : Nat) (P0_ : Nat → Prop) (u9000_ : Value) (l0 : List (S42)) (a1 : Int) (r1 : Int) (r2 : List (S42)) (w0 w : World) (hB : Below w0.heap.size w0 w) (ho0 : Kd.S k42 42 w w0.heap.size P0_ u9000_ l0) (h : laws_markEntryS.f k l0 a1 = some (r1,r2)) :
  Calls Try.prog 10 #[u9000_,.int .i64 a1] w fun e w' => e = .returned (.int .i64 r1) ∧ Kd.S k42 42 w' w0.heap.size (fun k_ => (P0_ k_ ∨ w.heap.size ≤ k_)) u9000_ r2 ∧ Below w0.heap.size w0 w' ∧ Kept w w' (fun k_ => P0_ k_):=by
 have huE:=Try.underlying42
 have huV:=Try.underlying40
 have HO0:=Aside0.mk (show Kd.S k42 42 w w0.heap.size (fun k_ => (P0_ k_ ∨ w.heap.size ≤ k_)) u9000_ l0 from Kd.S_mono ho0 (fun k_ hk => (.inl hk)))
 have HK:=Aside0.mk (Kept.refl w (fun k_ => P0_ k_))
 have HB:=Aside0.mk hB
 clear hB ho0
 have H : (laws_markEntryS.l0 k l0 a1 0) = some (r1,r2):=h
 clear h
 have H':=Aside0.mk H
 clear H
 go_enter Try.func10,Try.ntmps10
 go_wp2
 go_loopg [1,5] k (fun kq v1 v5 w' => ∃ (x0_1 : List (S42)) (x1_1 : Int) (x5_1 : Int),v1 = .int .i64 x1_1 ∧ v5 = .int .i64 x5_1 ∧ Aside0 (laws_markEntryS.l0 kq x0_1 x1_1 x5_1 = some (r1,r2)) ∧ Aside0 (kq ≤ k) ∧ Aside0 (Kd.S k42 42 w' w0.heap.size (fun k_ => (P0_ k_ ∨ w.heap.size ≤ k_)) u9000_ x0_1) ∧ Aside0 (Kept w w' (fun k_ => P0_ k_)) ∧ Aside0 (Below w0.heap.size w0 w'))
 case atStart => exact ⟨l0,a1,0,rfl,rfl,H',⟨Nat.le_refl _⟩,HO0,HK,HB⟩
 case round =>
  clear H' HO0 HK HB
  obtain ⟨x0_1,x1_1,x5_1,rfl,rfl,HA,HK1,HO,HK,HB⟩:=hrel
  cases gk with
  | zero => exact absurd HA.out (by simp [laws_markEntryS.l0])
  | succ k1 =>
   have H:=HA.out
   clear HA
   simp only [laws_markEntryS.l0] at H
   by_cases c3 : x5_1 < (x0_1.length : Int)
   ·rw [if_pos c3] at H
    have c3b0 : decide (x5_1 < (x0_1.length : Int)) = true:=decide_eq_true c3
    by_cases c5 : 0 ≤ x5_1
    ·rw [if_pos c5] at H
     have c5b0 : decide (0 ≤ x5_1) = true:=decide_eq_true c5
     replace H:=Option.bind_eq_some_iff.mp H
     obtain ⟨t0,A0,H⟩:=H
     replace H:=Option.bind_eq_some_iff.mp H
     obtain ⟨t3,A3,H⟩:=H
     replace H:=Option.bind_eq_some_iff.mp H
     obtain ⟨⟨m1,m2⟩,A5,H⟩:=H
     replace H : laws_markEntryS.l0 k1 (x0_1.set (x5_1 : Int).toNat (⟨t0,(⟨wrap64 (x1_1 + 1),wrap64 (wrap64 (x1_1 + 1) + 1),t3,m2⟩ : S40)⟩ : S42)) m1 (wrap64 (x5_1 + 1)) = some (r1,r2):=H
     have H':=Aside0.mk H
     have AA0:=Aside0.mk A0
     have AA3:=Aside0.mk A3
     have AA5:=Aside0.mk A5
     clear H A0 A3 A5
     obtain ⟨g,cap,eu,-,-,-⟩:=Kd.S_form HO.out (by omega)
     subst eu
     have C3:=Aside0.mk c3
     have C5:=Aside0.mk c5
     clear c3 c5
     have p6:=eq_true C5.out
     have q6:=eq_true C3.out
     go_wp2_with (first
      | (go_at_call 27;(with_reducible refine (laws_markText.calls k1 x1_1 t0 _ AA0.out).mono ?_);rintro e W1 ⟨rfl,hb1⟩;obtain ⟨oki,A4,c4,m_⟩:=MSt.start (Kd.S_below HO.out hb1) C5.out C3.out (below_step HB.out hb1) (Kept.below HK.out hb1);obtain ⟨hx0,-,-,-,-,hf⟩:=m_.cells;have hf0:=hf 0;rw [Nat.add_zero] at hf0;have M1:=Aside0.mk m_;clear hf m_ hb1)
      | ((with_reducible refine gate_store (t:=9) (p:=17) rfl ?_);refine store_event (t:=9) (p:=17) (v:=?vo17) (w1:=(W1.setCell ⟨g,(x5_1 : Int).toNat * 5,none⟩ (.string t0))) ?hg ?ho ?hn ?hr ?_;(case ho => rfl);(case hg => rfl);(case hn => rfl);(case hr => first | (go_simp;done) | (go_simp;rfl));intro W2 hw;have m_:=M1.out.put0 t0;rw [← hw] at m_;obtain ⟨-,hx1,-,-,-,hf⟩:=m_.cells;have hf1:=hf 1;have M2:=Aside0.mk m_;clear hf m_ hw M1 hx0 hf0)
      | ((with_reducible refine gate_store (t:=3) (p:=25) rfl ?_);refine store_event (t:=3) (p:=25) (v:=?vo25) (w1:=(W2.setCell ⟨g,(x5_1 : Int).toNat * 5 + 1,none⟩ (.int .i64 (wrap64 (x1_1 + 1))))) ?hg ?ho ?hn ?hr ?_;(case ho => rfl);(case hg => rfl);(case hn => rfl);(case hr => first | (go_simp;done) | (go_simp;rfl));intro W3 hw;have m_:=M2.out.put1 (wrap64 (x1_1 + 1));rw [← hw] at m_;obtain ⟨-,-,hx2,-,-,hf⟩:=m_.cells;have hf2:=hf 2;have M3:=Aside0.mk m_;clear hf m_ hw M2 hx1 hf1)
      | ((with_reducible refine gate_store (t:=3) (p:=33) rfl ?_);refine store_event (t:=3) (p:=33) (v:=?vo33) (w1:=(W3.setCell ⟨g,(x5_1 : Int).toNat * 5 + 2,none⟩ (.int .i64 (wrap64 (wrap64 (x1_1 + 1) + 1))))) ?hg ?ho ?hn ?hr ?_;(case ho => rfl);(case hg => rfl);(case hn => rfl);(case hr => first | (go_simp;done) | (go_simp;rfl));intro W4 hw;have m_:=M3.out.put2 (wrap64 (wrap64 (x1_1 + 1) + 1));rw [← hw] at m_;have M4:=Aside0.mk m_;clear m_ hw M3 hx2 hf2)
      | (go_at_call 27;(with_reducible refine (laws_markText.calls k1 (wrap64 (wrap64 (wrap64 (x1_1 + 1) + 1) + 1)) t3 _ AA3.out).mono ?_);rintro e W5 ⟨rfl,hb5⟩;have m_:=M4.out.below hb5;obtain ⟨-,-,-,hx3,-,hf⟩:=m_.cells;have hf3:=hf 3;have M5:=Aside0.mk m_;clear hf m_ hb5 M4)
      | ((with_reducible refine gate_store (t:=9) (p:=42) rfl ?_);refine store_event (t:=9) (p:=42) (v:=?vo42) (w1:=(W5.setCell ⟨g,(x5_1 : Int).toNat * 5 + 3,none⟩ (.string t3))) ?hg ?ho ?hn ?hr ?_;(case ho => rfl);(case hg => rfl);(case hn => rfl);(case hr => first | (go_simp;done) | (go_simp;rfl));intro W6 hw;have m_:=M5.out.put3 t3;rw [← hw] at m_;obtain ⟨-,-,-,-,hx4,hf⟩:=m_.cells;have M6:=Aside0.mk m_;clear hf m_ hw M5 hx3 hf3)
      | (go_at_call 28;(with_reducible refine (laws_markStringS.calls k1 oki _ _ _ m1 m2 w0 _ M6.out.B M6.out.R AA5.out).mono ?_);rintro e W7 ⟨rfl,hR7,hB7,hK7⟩;have D7:=Aside0.mk (M6.out.done hR7 hK7);have B7:=Aside0.mk hB7;clear hR7 hK7 hB7 M6))
     go_roundg k1
     case measure => have:=HK1.out;omega
     case rel => exact ⟨_,m1,(wrap64 (x5_1 + 1)),(by first | rfl | (simp;done) | (simp [*];done)),(by first | rfl | (simp;done) | (simp [*];done)),H',⟨by have:=HK1.out;omega⟩,⟨D7.out.1⟩,⟨D7.out.2⟩,B7⟩
    ·rw [if_neg c5] at H
     exact absurd H (by simp)
   ·rw [if_neg c3] at H
    have c3b0 : decide (x5_1 < (x0_1.length : Int)) = false:=decide_eq_false c3
    clear c3
    simp only [Option.some.injEq,Prod.mk.injEq] at H
    obtain ⟨rfl,rfl⟩:=H
    obtain ⟨Ao,co,eo⟩:=Kd.S_slice HO.out
    subst eo
    go_wp2
    go_ret
    exact ⟨rfl,HO.out,HB.out,HK.out⟩

/-! ### laws_markChangeS: function 11 -/
def laws_markChangeS.l0 : Nat → List (S44) → Int → Int → Option (Int × (List (S44)))
 | 0,_,_,_ => none
 | k + 1,x0,x1,x5 => if x5 < (x0.length : Int) then ((laws_markText.f k x1).bind fun t320 => (if 0 ≤ x5 then ((some (x0.set (x5 : Int).toNat (⟨t320,(rd_T44 x0 x5).f1,(rd_T44 x0 x5).f2⟩ : S44) : List (S44))).bind fun y321 => ((laws_markText.f k (wrap64 (x1 + 1))).bind fun t322 => ((some (y321.set (x5 : Int).toNat (⟨(rd_T44 y321 x5).f0,t322,(rd_T44 y321 x5).f2⟩ : S44) : List (S44))).bind fun y323 => (laws_markChangeS.l0 k (y323.set (x5 : Int).toNat (⟨(rd_T44 y323 x5).f0,(rd_T44 y323 x5).f1,((Int.tmod (wrap64 ((wrap64 (x1 + 1)) + 1)) 3) == 0)⟩ : S44)) (wrap64 ((wrap64 ((wrap64 (x1 + 1)) + 1)) + 1)) (wrap64 (x5 + 1)))))) else (none))) else (some (x1,x0))
def laws_markChangeS.f (k : Nat) (l0 : List (S44)) (a1 : Int) : Option (Int × (List (S44))):=laws_markChangeS.l0 k l0 a1 0
theorem laws_markChangeS.mono_l : ∀ k,(∀ y0 y1 y2,LeO (laws_markChangeS.l0 k y0 y1 y2) (laws_markChangeS.l0 (k + 1) y0 y1 y2))
 | 0 => fun _ _ _ r h => by simp [laws_markChangeS.l0] at h
 | k + 1 => by
  have ih0:=laws_markChangeS.mono_l k
  ·intro y0 y1 y2
   unfold laws_markChangeS.l0
   repeat' first
   | (with_reducible exact ih0 _ _ _)
   | (with_reducible exact laws_markText.mono _ _)
   | (with_reducible exact LeO.refl _)
   | (with_reducible exact LeO.none _)
   | (with_reducible refine LeO.ite ?_ ?_)
   | (with_reducible refine LeO.bind ?_ (fun _ => ?_))
   | exact ih0 _ _ _
   | exact laws_markText.mono _ _
   | exact LeO.none _
   | refine LeO.ite ?_ ?_
   | refine LeO.bind ?_ (fun _ => ?_)
theorem laws_markChangeS.mono : ∀ a0 a1 k,LeO (laws_markChangeS.f k a0 a1) (laws_markChangeS.f (k + 1) a0 a1):=by
 intro a0 a1 k
 have ih0:=laws_markChangeS.mono_l k
 unfold laws_markChangeS.f
 repeat' first
   | (with_reducible exact ih0 _ _ _)
   | (with_reducible exact laws_markText.mono _ _)
   | (with_reducible exact LeO.refl _)
   | (with_reducible exact LeO.none _)
   | (with_reducible refine LeO.ite ?_ ?_)
   | (with_reducible refine LeO.bind ?_ (fun _ => ?_))
   | exact ih0 _ _ _
   | exact laws_markText.mono _ _
   | exact LeO.none _
   | refine LeO.ite ?_ ?_
   | refine LeO.bind ?_ (fun _ => ?_)
set_option maxHeartbeats 8000000 in
set_option maxRecDepth 100000 in
theorem laws_markChangeS.calls (k : Nat) (P0_ : Nat → Prop) (u9000_ : Value) (l0 : List (S44)) (a1 : Int) (r1 : Int) (r2 : List (S44)) (w0 w : World) (hB : Below w0.heap.size w0 w) (ho0 : Kd.R k44 44 w w0.heap.size P0_ u9000_ l0) (h : laws_markChangeS.f k l0 a1 = some (r1,r2)) :
  Calls Try.prog 11 #[u9000_,.int .i64 a1] w fun e w' => e = .returned (.int .i64 r1) ∧ Kd.R k44 44 w' w0.heap.size (fun k_ => (P0_ k_ ∨ w.heap.size ≤ k_)) u9000_ r2 ∧ Below w0.heap.size w0 w' ∧ Kept w w' (fun k_ => P0_ k_):=by
 have HO0:=Aside0.mk (show Kd.R k44 44 w w0.heap.size (fun k_ => (P0_ k_ ∨ w.heap.size ≤ k_)) u9000_ l0 from Kd.R_mono ho0 (fun k_ hk => (.inl hk)))
 have HK:=Aside0.mk (Kept.refl w (fun k_ => P0_ k_))
 have HW0:=Aside0.mk hB.size
 have HB:=Aside0.mk hB
 clear hB
 have H : (laws_markChangeS.l0 k l0 a1 0) = some (r1,r2):=h
 clear h
 have H':=Aside0.mk H
 clear H
 go_enter Try.func11,Try.ntmps11
 go_wp2
 go_loopg [1,5] k (fun kq v1 v5 w' => ∃ (x0_1 : List (S44)) (x1_1 : Int) (x5_1 : Int),v1 = .int .i64 x1_1 ∧ v5 = .int .i64 x5_1 ∧ Aside0 (laws_markChangeS.l0 kq x0_1 x1_1 x5_1 = some (r1,r2)) ∧ Aside0 (kq ≤ k) ∧ Aside0 (Kd.R k44 44 w' w0.heap.size (fun k_ => (P0_ k_ ∨ w.heap.size ≤ k_)) u9000_ x0_1) ∧ Aside0 (Kept w w' (fun k_ => P0_ k_)) ∧ Aside0 (Below w0.heap.size w0 w'))
 case atStart => exact ⟨(l0),(a1),(0),(by first | rfl | (simp;done) | (simp [*];done)),(by first | rfl | (simp;done) | (simp [*];done)),H',⟨Nat.le_refl _⟩,⟨by (with_reducible repeat (first | apply Kd.R_alloc | apply Kd.R_drewN | apply Kd.R_drew));exact HO0.out⟩,⟨by repeat (first | (with_reducible first | exact HK.out | apply Kept.alloc | apply Kept.drewN | apply Kept.drew) | exact HK.out)⟩,⟨by repeat (first | (with_reducible first | exact HB.out | apply below_alloc | apply pw_below_drewN | apply below_drew1) | exact HB.out)⟩⟩
 case round =>
  clear H'
  try clear c1
  try clear p2
  obtain ⟨x0_1,x1_1,x5_1,rfl,rfl,HA,HK1,HO_0,HK,HB⟩:=hrel
  cases gk with
  | zero => exact absurd HA.out (by simp [laws_markChangeS.l0])
  | succ k1 =>
   have H:=HA.out
   clear HA
   simp only [laws_markChangeS.l0] at H
   by_cases c3 : x5_1 < (x0_1.length : Int)
   ·rw [if_pos c3] at H
    have c3b0 : decide (x5_1 < (x0_1.length : Int)) = true:=decide_eq_true c3
    clear c3
    replace H:=Option.bind_eq_some_iff.mp H
    obtain ⟨t320,A40,H⟩:=H
    replace H : (if 0 ≤ x5_1 then ((some (x0_1.set (x5_1 : Int).toNat (⟨t320,(rd_T44 x0_1 x5_1).f1,(rd_T44 x0_1 x5_1).f2⟩ : S44) : List (S44))).bind fun y321 => ((laws_markText.f k1 (wrap64 (x1_1 + 1))).bind fun t322 => ((some (y321.set (x5_1 : Int).toNat (⟨(rd_T44 y321 x5_1).f0,t322,(rd_T44 y321 x5_1).f2⟩ : S44) : List (S44))).bind fun y323 => (laws_markChangeS.l0 k1 (y323.set (x5_1 : Int).toNat (⟨(rd_T44 y323 x5_1).f0,(rd_T44 y323 x5_1).f1,((Int.tmod (wrap64 ((wrap64 (x1_1 + 1)) + 1)) 3) == 0)⟩ : S44)) (wrap64 ((wrap64 ((wrap64 (x1_1 + 1)) + 1)) + 1)) (wrap64 (x5_1 + 1)))))) else (none)) = some (r1,r2):=H
    have A4:=Aside0.mk A40
    clear A40
    by_cases c5 : 0 ≤ x5_1
    ·rw [if_pos c5] at H
     have c5b0 : decide (0 ≤ x5_1) = true:=decide_eq_true c5
     clear c5
     obtain ⟨y321,hy321⟩ : ∃ y_ : List (S44),y_ = (x0_1.set (x5_1 : Int).toNat (⟨t320,(rd_T44 x0_1 x5_1).f1,(rd_T44 x0_1 x5_1).f2⟩ : S44)):=⟨_,rfl⟩
     replace H : ((laws_markText.f k1 (wrap64 (x1_1 + 1))).bind fun t322 => ((some (y321.set (x5_1 : Int).toNat (⟨(rd_T44 y321 x5_1).f0,t322,(rd_T44 y321 x5_1).f2⟩ : S44) : List (S44))).bind fun y323 => (laws_markChangeS.l0 k1 (y323.set (x5_1 : Int).toNat (⟨(rd_T44 y323 x5_1).f0,(rd_T44 y323 x5_1).f1,((Int.tmod (wrap64 ((wrap64 (x1_1 + 1)) + 1)) 3) == 0)⟩ : S44)) (wrap64 ((wrap64 ((wrap64 (x1_1 + 1)) + 1)) + 1)) (wrap64 (x5_1 + 1))))) = some (r1,r2):=by first | (rw [hy321];with_reducible exact H) | (have H2_:=(Option.bind_some _ _).symm.trans H;rw [hy321];with_reducible exact H2_) | (have H2_:=(Option.bind_some _ _).symm.trans H;with_reducible exact H2_) | with_reducible exact H | (rw [hy321];exact H) | exact H
     have Ny321:=Aside0.mk hy321
     clear hy321
     replace H:=Option.bind_eq_some_iff.mp H
     obtain ⟨t322,A70,H⟩:=H
     replace H : ((some (y321.set (x5_1 : Int).toNat (⟨(rd_T44 y321 x5_1).f0,t322,(rd_T44 y321 x5_1).f2⟩ : S44) : List (S44))).bind fun y323 => (laws_markChangeS.l0 k1 (y323.set (x5_1 : Int).toNat (⟨(rd_T44 y323 x5_1).f0,(rd_T44 y323 x5_1).f1,((Int.tmod (wrap64 ((wrap64 (x1_1 + 1)) + 1)) 3) == 0)⟩ : S44)) (wrap64 ((wrap64 ((wrap64 (x1_1 + 1)) + 1)) + 1)) (wrap64 (x5_1 + 1)))) = some (r1,r2):=H
     have A7:=Aside0.mk A70
     clear A70
     obtain ⟨y323,hy323⟩ : ∃ y_ : List (S44),y_ = (y321.set (x5_1 : Int).toNat (⟨(rd_T44 y321 x5_1).f0,t322,(rd_T44 y321 x5_1).f2⟩ : S44)):=⟨_,rfl⟩
     replace H : (laws_markChangeS.l0 k1 (y323.set (x5_1 : Int).toNat (⟨(rd_T44 y323 x5_1).f0,(rd_T44 y323 x5_1).f1,((Int.tmod (wrap64 ((wrap64 (x1_1 + 1)) + 1)) 3) == 0)⟩ : S44)) (wrap64 ((wrap64 ((wrap64 (x1_1 + 1)) + 1)) + 1)) (wrap64 (x5_1 + 1))) = some (r1,r2):=by first | (rw [hy323];with_reducible exact H) | (have H2_:=(Option.bind_some _ _).symm.trans H;rw [hy323];with_reducible exact H2_) | (have H2_:=(Option.bind_some _ _).symm.trans H;with_reducible exact H2_) | with_reducible exact H | (rw [hy323];exact H) | exact H
     have Ny323:=Aside0.mk hy323
     clear hy323
     obtain ⟨y324,hy324⟩ : ∃ y_ : List (S44),y_ = (y323.set (x5_1 : Int).toNat (⟨(rd_T44 y323 x5_1).f0,(rd_T44 y323 x5_1).f1,((Int.tmod (wrap64 ((wrap64 (x1_1 + 1)) + 1)) 3) == 0)⟩ : S44)):=⟨_,rfl⟩
     replace H : (laws_markChangeS.l0 k1 y324 (wrap64 ((wrap64 ((wrap64 (x1_1 + 1)) + 1)) + 1)) (wrap64 (x5_1 + 1))) = some (r1,r2):=by first | (rw [hy324];with_reducible exact H) | (have H2_:=(Option.bind_some _ _).symm.trans H;rw [hy324];with_reducible exact H2_) | (have H2_:=(Option.bind_some _ _).symm.trans H;with_reducible exact H2_) | with_reducible exact H | (rw [hy324];exact H) | exact H
     have Ny324:=Aside0.mk hy324
     clear hy324
     have H':=Aside0.mk H
     clear H
     obtain ⟨Ao10,co10,eo10⟩:=Kd.R_slice HO_0.out
     subst eo10
     go_wp2_with (first | ((with_reducible refine gate_callee (f:=27) rfl ?_);refine goesL_ (some 15) rfl rfl Try.func27 (by kernel_rfl) rfl #[.int .i64 x1_1] rfl zM0 ?_;(with_reducible refine (laws_markText.calls k1 x1_1 t320 _ A4.out).mono ?_);rintro e w11 ⟨rfl,hb⟩;refine ⟨_,rfl,?_⟩;have n0_:=Aside0.mk (Kd.R_below (zR0 HO_0.out) hb);have n1_:=Aside0.mk (Kept.below (S:=(fun k_ => P0_ k_)) (by repeat (first | (with_reducible first | exact HK.out | apply Kept.alloc | apply Kept.drewN | apply Kept.drew) | exact HK.out)) hb);have n2_:=Aside0.mk (zS0 HB.out hb);clear HO_0;clear HK;clear HB;have HO_0:=n0_;have HK:=n1_;have HB:=n2_;clear n0_ n1_ n2_;(try clear hb);(try clear hb2);(try clear hk);(try clear hi);have p6 : 0 ≤ (x5_1 : Int):=of_decide_eq_true (by first | (with_reducible assumption) | assumption);have q6 : (x5_1 : Int) < ((x0_1.length : Int) : Int):=of_decide_eq_true (by first | (with_reducible assumption) | assumption);obtain ⟨go6,co6,eo6,gb6,gl6,cl6,HG6⟩:=Kd.R_form HO_0.out (by omega);(first | cases eo6 | (injection eo6 with ea_ en_ ec_;(first | subst ea_ | (injection ea_ with ea_;subst ea_));subst ec_;clear en_));have GB6:=Aside0.mk gb6;have GG6:=Aside0.mk HG6;clear gb6 gl6 HG6;have HMgo6:=Aside0.mk (show (P0_ go6 ∨ w.heap.size ≤ go6) from (HO_0.out.1 _ rfl));obtain ⟨ce6,hcl6,hM6,hcc6,hfr6⟩:=Kd.R_elem HO_0.out z44 (x5_1 : Int) p6 q6;obtain rfl:=k44_openM hM6;have hx6_0 : w11.cell? ⟨go6,(x5_1 : Int).toNat * 3,none⟩ = some (.string ((rd_T44 x0_1 x5_1).f0)):=hcc6 0 _ rfl;have hx6_1 : w11.cell? ⟨go6,(x5_1 : Int).toNat * 3 + 1,none⟩ = some (.string ((rd_T44 x0_1 x5_1).f1)):=hcc6 1 _ rfl;have hx6_2 : w11.cell? ⟨go6,(x5_1 : Int).toNat * 3 + 2,none⟩ = some (.bool ((rd_T44 x0_1 x5_1).f2)):=hcc6 2 _ rfl;have hf6_0 : w11.frozen? ⟨go6,(x5_1 : Int).toNat * 3,none⟩ = false:=hfr6 0;have hf6_1 : w11.frozen? ⟨go6,(x5_1 : Int).toNat * 3 + 1,none⟩ = false:=hfr6 1;have hf6_2 : w11.frozen? ⟨go6,(x5_1 : Int).toNat * 3 + 2,none⟩ = false:=hfr6 2;clear hcl6 hcc6 hfr6 hM6;replace p6:=eq_true p6;replace q6:=eq_true q6;have HX12:=Aside0.mk (show Kd.R k44 44 w11 w0.heap.size (fun k_ => (P0_ k_ ∨ w.heap.size ≤ k_)) (.slice (some ⟨go6,0,none⟩) x0_1.length co10) x0_1 from (zR0 HO_0.out));obtain ⟨ce12,hcl12,hM12,hcc12,hfr12⟩:=Kd.R_elem HX12.out z44 (x5_1 : Int) (of_decide_eq_true (by first | (with_reducible assumption) | assumption)) (by have h_ : (x5_1 : Int) < ((x0_1.length : Int) : Int):=of_decide_eq_true (by first | (with_reducible assumption) | assumption);first | exact h_ | (have e_:=(Kd.R_reads' HO_0.out).1;omega) | simpa using h_);obtain rfl:=k44_openM hM12;have HP12:=Kd.R_seg HX12.out (x5_1 : Int) (of_decide_eq_true (by first | (with_reducible assumption) | assumption)) (by have h_ : (x5_1 : Int) < ((x0_1.length : Int) : Int):=of_decide_eq_true (by first | (with_reducible assumption) | assumption);first | exact h_ | (have e_:=(Kd.R_reads' HO_0.out).1;omega) | simpa using h_) (seg:=[.string t320]) (j:=0) hcl12 hcc12 (show 1 ≤ 3 from by decide) (x':=(⟨t320,(rd_T44 x0_1 x5_1).f1,(rd_T44 x0_1 x5_1).f2⟩ : S44)) (k44_mkM _ _ _ (⟨t320,(rd_T44 x0_1 x5_1).f1,(rd_T44 x0_1 x5_1).f2⟩ : S44) ) (fun _ hk => hk);have hx12_0:=hcc12 0 _ rfl;(try simp only [show (k44).sz = 3 from rfl,Nat.mul_one,Nat.add_zero] at hx12_0);have hf12_0:=hfr12 0;(try simp only [show (k44).sz = 3 from rfl,Nat.mul_one,Nat.add_zero] at hf12_0);clear hcl12 hcc12 hfr12 hM12) | ((with_reducible refine gate_store (t:=9) (p:=17) rfl ?_);refine store_event (t:=9) (p:=17) (v:=?vo_w13) (w1:=(w11.setCell ⟨go6,(x5_1 : Int).toNat * 3,none⟩ (.string t320))) ?hg ?ho ?hn ?hr ?_;(case ho => rfl);(case hg => rfl);(case hn => rfl);(case hr => first | (go_simp;done) | (go_simp;rfl));intro w13 hw;have hg : w11.grownBy w13 (some go6):=(by rw [hw];exact HP12.2);have hp_ : Kd.R k44 44 w13 w0.heap.size (fun k_ => (P0_ k_ ∨ w.heap.size ≤ k_)) (.slice (some ⟨go6,0,none⟩) x0_1.length co10) y321:=(by rw [hw,Ny321.out];exact HP12.1);clear HP12;have n0_:=Aside0.mk (hp_);have n1_:=Aside0.mk ((by rw [hw];exact below_set (HB.out) GB6.out : Below w0.heap.size w0 w13));have n2_:=Aside0.mk (Kept.of_grown (S:=(fun k_ => P0_ k_)) hg (by repeat (first | (with_reducible first | exact HK.out | apply Kept.alloc | apply Kept.drewN | apply Kept.drew) | exact HK.out)) (fun k_ e_ => (HO_0.out.1 k_ e_)));clear HO_0;clear HB;clear HK;have HO_0:=n0_;have HB:=n1_;have HK:=n2_;clear n0_ n1_ n2_;clear hg hw hp_) | ((with_reducible refine gate_callee (f:=27) rfl ?_);refine goesL_ (some 23) rfl rfl Try.func27 (by kernel_rfl) rfl #[.int .i64 (wrap64 (x1_1 + 1))] rfl zM0 ?_;(with_reducible refine (laws_markText.calls k1 (wrap64 (x1_1 + 1)) t322 _ A7.out).mono ?_);rintro e w14 ⟨rfl,hb⟩;refine ⟨_,rfl,?_⟩;have n0_:=Aside0.mk (Kd.R_below (zR0 HO_0.out) hb);have n1_:=Aside0.mk (Kept.below (S:=(fun k_ => P0_ k_)) (by repeat (first | (with_reducible first | exact HK.out | apply Kept.alloc | apply Kept.drewN | apply Kept.drew) | exact HK.out)) hb);have n2_:=Aside0.mk (zS0 HB.out hb);clear HO_0;clear HK;clear HB;have HO_0:=n0_;have HK:=n1_;have HB:=n2_;clear n0_ n1_ n2_;(try clear hb);(try clear hb2);(try clear hk);(try clear hi);have p8 : 0 ≤ (x5_1 : Int):=of_decide_eq_true (by first | (with_reducible assumption) | assumption);have q8 : (x5_1 : Int) < ((x0_1.length : Int) : Int):=of_decide_eq_true (by first | (with_reducible assumption) | assumption);obtain ⟨ce8,hcl8,hM8,hcc8,hfr8⟩:=Kd.R_elem HO_0.out z44 (x5_1 : Int) p8 q8;obtain rfl:=k44_openM hM8;have hx8_0 : w14.cell? ⟨go6,(x5_1 : Int).toNat * 3,none⟩ = some (.string ((rd_T44 y321 x5_1).f0)):=hcc8 0 _ rfl;have hx8_1 : w14.cell? ⟨go6,(x5_1 : Int).toNat * 3 + 1,none⟩ = some (.string ((rd_T44 y321 x5_1).f1)):=hcc8 1 _ rfl;have hx8_2 : w14.cell? ⟨go6,(x5_1 : Int).toNat * 3 + 2,none⟩ = some (.bool ((rd_T44 y321 x5_1).f2)):=hcc8 2 _ rfl;have hf8_0 : w14.frozen? ⟨go6,(x5_1 : Int).toNat * 3,none⟩ = false:=hfr8 0;have hf8_1 : w14.frozen? ⟨go6,(x5_1 : Int).toNat * 3 + 1,none⟩ = false:=hfr8 1;have hf8_2 : w14.frozen? ⟨go6,(x5_1 : Int).toNat * 3 + 2,none⟩ = false:=hfr8 2;clear hcl8 hcc8 hfr8 hM8;replace p8:=eq_true p8;replace q8:=eq_true q8;have HX15:=Aside0.mk (show Kd.R k44 44 w14 w0.heap.size (fun k_ => (P0_ k_ ∨ w.heap.size ≤ k_)) (.slice (some ⟨go6,0,none⟩) x0_1.length co10) y321 from (zR0 HO_0.out));obtain ⟨ce15,hcl15,hM15,hcc15,hfr15⟩:=Kd.R_elem HX15.out z44 (x5_1 : Int) (of_decide_eq_true (by first | (with_reducible assumption) | assumption)) (by have h_ : (x5_1 : Int) < ((x0_1.length : Int) : Int):=of_decide_eq_true (by first | (with_reducible assumption) | assumption);first | exact h_ | (have e_:=(Kd.R_reads' HO_0.out).1;omega) | simpa using h_);obtain rfl:=k44_openM hM15;have HP15:=Kd.R_seg HX15.out (x5_1 : Int) (of_decide_eq_true (by first | (with_reducible assumption) | assumption)) (by have h_ : (x5_1 : Int) < ((x0_1.length : Int) : Int):=of_decide_eq_true (by first | (with_reducible assumption) | assumption);first | exact h_ | (have e_:=(Kd.R_reads' HO_0.out).1;omega) | simpa using h_) (seg:=[.string t322]) (j:=1) hcl15 hcc15 (show 2 ≤ 3 from by decide) (x':=(⟨(rd_T44 y321 x5_1).f0,t322,(rd_T44 y321 x5_1).f2⟩ : S44)) (k44_mkM _ _ _ (⟨(rd_T44 y321 x5_1).f0,t322,(rd_T44 y321 x5_1).f2⟩ : S44) ) (fun _ hk => hk);have hx15_1:=hcc15 1 _ rfl;(try simp only [show (k44).sz = 3 from rfl,Nat.mul_one,Nat.add_zero] at hx15_1);have hf15_1:=hfr15 1;(try simp only [show (k44).sz = 3 from rfl,Nat.mul_one,Nat.add_zero] at hf15_1);clear hcl15 hcc15 hfr15 hM15) | ((with_reducible refine gate_store (t:=9) (p:=25) rfl ?_);refine store_event (t:=9) (p:=25) (v:=?vo_w16) (w1:=(w14.setCell ⟨go6,(x5_1 : Int).toNat * 3 + 1,none⟩ (.string t322))) ?hg ?ho ?hn ?hr ?_;(case ho => rfl);(case hg => rfl);(case hn => rfl);(case hr => first | (go_simp;done) | (go_simp;rfl));intro w16 hw;have hg : w14.grownBy w16 (some go6):=(by rw [hw];exact HP15.2);have hp_ : Kd.R k44 44 w16 w0.heap.size (fun k_ => (P0_ k_ ∨ w.heap.size ≤ k_)) (.slice (some ⟨go6,0,none⟩) x0_1.length co10) y323:=(by rw [hw,Ny323.out];exact HP15.1);clear HP15;have n0_:=Aside0.mk (hp_);have n1_:=Aside0.mk ((by rw [hw];exact below_set (HB.out) GB6.out : Below w0.heap.size w0 w16));have n2_:=Aside0.mk (Kept.of_grown (S:=(fun k_ => P0_ k_)) hg (by repeat (first | (with_reducible first | exact HK.out | apply Kept.alloc | apply Kept.drewN | apply Kept.drew) | exact HK.out)) (fun k_ e_ => (HO_0.out.1 k_ e_)));clear HO_0;clear HB;clear HK;have HO_0:=n0_;have HB:=n1_;have HK:=n2_;clear n0_ n1_ n2_;clear hg hw hp_;have p9 : 0 ≤ (x5_1 : Int):=of_decide_eq_true (by first | (with_reducible assumption) | assumption);have q9 : (x5_1 : Int) < ((x0_1.length : Int) : Int):=of_decide_eq_true (by first | (with_reducible assumption) | assumption);obtain ⟨ce9,hcl9,hM9,hcc9,hfr9⟩:=Kd.R_elem HO_0.out z44 (x5_1 : Int) p9 q9;obtain rfl:=k44_openM hM9;have hx9_0 : w16.cell? ⟨go6,(x5_1 : Int).toNat * 3,none⟩ = some (.string ((rd_T44 y323 x5_1).f0)):=hcc9 0 _ rfl;have hx9_1 : w16.cell? ⟨go6,(x5_1 : Int).toNat * 3 + 1,none⟩ = some (.string ((rd_T44 y323 x5_1).f1)):=hcc9 1 _ rfl;have hx9_2 : w16.cell? ⟨go6,(x5_1 : Int).toNat * 3 + 2,none⟩ = some (.bool ((rd_T44 y323 x5_1).f2)):=hcc9 2 _ rfl;have hf9_0 : w16.frozen? ⟨go6,(x5_1 : Int).toNat * 3,none⟩ = false:=hfr9 0;have hf9_1 : w16.frozen? ⟨go6,(x5_1 : Int).toNat * 3 + 1,none⟩ = false:=hfr9 1;have hf9_2 : w16.frozen? ⟨go6,(x5_1 : Int).toNat * 3 + 2,none⟩ = false:=hfr9 2;clear hcl9 hcc9 hfr9 hM9;replace p9:=eq_true p9;replace q9:=eq_true q9;have HX17:=Aside0.mk (show Kd.R k44 44 w16 w0.heap.size (fun k_ => (P0_ k_ ∨ w.heap.size ≤ k_)) (.slice (some ⟨go6,0,none⟩) x0_1.length co10) y323 from (zR0 HO_0.out));obtain ⟨ce17,hcl17,hM17,hcc17,hfr17⟩:=Kd.R_elem HX17.out z44 (x5_1 : Int) (of_decide_eq_true (by first | (with_reducible assumption) | assumption)) (by have h_ : (x5_1 : Int) < ((x0_1.length : Int) : Int):=of_decide_eq_true (by first | (with_reducible assumption) | assumption);first | exact h_ | (have e_:=(Kd.R_reads' HO_0.out).1;omega) | simpa using h_);obtain rfl:=k44_openM hM17;have HP17:=Kd.R_seg HX17.out (x5_1 : Int) (of_decide_eq_true (by first | (with_reducible assumption) | assumption)) (by have h_ : (x5_1 : Int) < ((x0_1.length : Int) : Int):=of_decide_eq_true (by first | (with_reducible assumption) | assumption);first | exact h_ | (have e_:=(Kd.R_reads' HO_0.out).1;omega) | simpa using h_) (seg:=[.bool ((Int.tmod (wrap64 ((wrap64 (x1_1 + 1)) + 1)) 3) == 0)]) (j:=2) hcl17 hcc17 (show 3 ≤ 3 from by decide) (x':=(⟨(rd_T44 y323 x5_1).f0,(rd_T44 y323 x5_1).f1,((Int.tmod (wrap64 ((wrap64 (x1_1 + 1)) + 1)) 3) == 0)⟩ : S44)) (k44_mkM _ _ _ (⟨(rd_T44 y323 x5_1).f0,(rd_T44 y323 x5_1).f1,((Int.tmod (wrap64 ((wrap64 (x1_1 + 1)) + 1)) 3) == 0)⟩ : S44) ) (fun _ hk => hk);have hx17_2:=hcc17 2 _ rfl;(try simp only [show (k44).sz = 3 from rfl,Nat.mul_one,Nat.add_zero] at hx17_2);have hf17_2:=hfr17 2;(try simp only [show (k44).sz = 3 from rfl,Nat.mul_one,Nat.add_zero] at hf17_2);clear hcl17 hcc17 hfr17 hM17) | ((with_reducible refine gate_store (t:=4) (p:=34) rfl ?_);refine store_event (t:=4) (p:=34) (v:=?vo_w18) (w1:=(w16.setCell ⟨go6,(x5_1 : Int).toNat * 3 + 2,none⟩ (.bool ((Int.tmod (wrap64 ((wrap64 (x1_1 + 1)) + 1)) 3) == 0)))) ?hg ?ho ?hn ?hr ?_;(case ho => rfl);(case hg => rfl);(case hn => rfl);(case hr => first | (go_simp;done) | (go_simp;rfl));intro w18 hw;have hg : w16.grownBy w18 (some go6):=(by rw [hw];exact HP17.2);have hp_ : Kd.R k44 44 w18 w0.heap.size (fun k_ => (P0_ k_ ∨ w.heap.size ≤ k_)) (.slice (some ⟨go6,0,none⟩) x0_1.length co10) y324:=(by rw [hw,Ny324.out];exact HP17.1);clear HP17;have n0_:=Aside0.mk (hp_);have n1_:=Aside0.mk ((by rw [hw];exact below_set (HB.out) GB6.out : Below w0.heap.size w0 w18));have n2_:=Aside0.mk (Kept.of_grown (S:=(fun k_ => P0_ k_)) hg (by repeat (first | (with_reducible first | exact HK.out | apply Kept.alloc | apply Kept.drewN | apply Kept.drew) | exact HK.out)) (fun k_ e_ => (HO_0.out.1 k_ e_)));clear HO_0;clear HB;clear HK;have HO_0:=n0_;have HB:=n1_;have HK:=n2_;clear n0_ n1_ n2_;clear hg hw hp_))
     go_roundg k1
     case measure => have:=HK1.out;omega
     case rel => exact ⟨(y324),(wrap64 ((wrap64 ((wrap64 (x1_1 + 1)) + 1)) + 1)),(wrap64 (x5_1 + 1)),(by first | rfl | (simp;done) | (simp [*];done)),(by first | rfl | (simp;done) | (simp [*];done)),H',⟨by have:=HK1.out;omega⟩,⟨by (with_reducible repeat (first | apply Kd.R_alloc | apply Kd.R_drewN | apply Kd.R_drew));exact HO_0.out⟩,⟨by repeat (first | (with_reducible first | exact HK.out | apply Kept.alloc | apply Kept.drewN | apply Kept.drew) | exact HK.out)⟩,⟨by repeat (first | (with_reducible first | exact HB.out | apply below_alloc | apply pw_below_drewN | apply below_drew1) | exact HB.out)⟩⟩
    ·rw [if_neg c5] at H
     exact absurd H (by simp)
   ·rw [if_neg c3] at H
    have c3b0 : decide (x5_1 < (x0_1.length : Int)) = false:=decide_eq_false c3
    clear c3
    simp only [Option.some.injEq,Prod.mk.injEq] at H
    obtain ⟨rfl,rfl⟩:=H
    obtain ⟨Ao19,co19,eo19⟩:=Kd.R_slice HO_0.out
    subst eo19
    go_wp2
    go_ret
    exact ⟨by first | rfl | (simp [errW_none,errW_some] <;> rfl) | (simp [*,errW_none,errW_some] <;> rfl),by (with_reducible repeat (first | apply Kd.R_alloc | apply Kd.R_drewN | apply Kd.R_drew));exact HO_0.out,by repeat (first | (with_reducible first | exact HB.out | apply below_alloc | apply pw_below_drewN | apply below_drew1) | exact HB.out),by repeat (first | (with_reducible first | exact HK.out | apply Kept.alloc | apply Kept.drewN | apply Kept.drew) | exact HK.out)⟩

end Go.Proofs.Ytlekhcopddajbaa.PFnExactDiffer
