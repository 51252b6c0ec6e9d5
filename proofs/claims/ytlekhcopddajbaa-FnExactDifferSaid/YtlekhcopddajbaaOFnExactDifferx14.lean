/- Walks of functions that the law FnExactDiffer reaches, turned by this session from a print of which a part did not build; what was changed is listed in wip/patches of the proofs' repo. -/
import Derived.Test.YtlekhcopddajbaaOFnExactDifferx0
import Derived.Test.YtlekhcopddajbaaOFnExactDifferx13
namespace Go.Proofs.Ytlekhcopddajbaa.PFnExactDiffer
open Go.RowKit Go.Proofs.YtlekhcopddajbaaW.PrintWords Go.Proofs.YtlekhcopddajbaaW.PrintLast Go.Proofs.YtlekhcopddajbaaW.PrintMore
attribute [local go_sem] max2_int min2_int max_two min_two max_three min_three max_four min_four   -- for this text's walks alone
set_option linter.unusedVariables false
set_option linter.unusedSimpArgs false

/-! ### laws_eqChangeS: function 8 -/
def laws_eqChangeS.l0 : Nat → List (S44) → List (S44) → Int → Option (Bool)
 | 0,_,_,_ => none
 | k + 1,x0,x1,x5 => if x5 < (x0.length : Int) then (if 0 ≤ x5 then (if x5 < (x1.length : Int) then ((laws_eqChange.f ((rd_T44 x0 x5).f0) ((rd_T44 x0 x5).f1) ((rd_T44 x0 x5).f2) ((rd_T44 x1 x5).f0) ((rd_T44 x1 x5).f1) ((rd_T44 x1 x5).f2)).bind fun t303 => (if t303 = true then (laws_eqChangeS.l0 k x0 x1 (wrap64 (x5 + 1))) else (some false))) else (none)) else (none)) else (some true)
def laws_eqChangeS.f (k : Nat) (l0 : List (S44)) (l1 : List (S44)) : Option (Bool):=if (l0.length : Int) = (l1.length : Int) then (laws_eqChangeS.l0 k l0 l1 0) else (some false)
theorem laws_eqChangeS.mono_l : ∀ k,(∀ y0 y1 y2,LeO (laws_eqChangeS.l0 k y0 y1 y2) (laws_eqChangeS.l0 (k + 1) y0 y1 y2))
 | 0 => fun _ _ _ r h => by simp [laws_eqChangeS.l0] at h
 | k + 1 => by
  have ih0:=laws_eqChangeS.mono_l k
  ·intro y0 y1 y2
   unfold laws_eqChangeS.l0
   repeat' first
   | (with_reducible exact ih0 _ _ _)
   | (with_reducible exact LeO.refl _)
   | (with_reducible exact LeO.none _)
   | (with_reducible refine LeO.ite ?_ ?_)
   | (with_reducible refine LeO.bind ?_ (fun _ => ?_))
   | exact ih0 _ _ _
   | exact LeO.none _
   | refine LeO.ite ?_ ?_
   | refine LeO.bind ?_ (fun _ => ?_)
theorem laws_eqChangeS.mono : ∀ a0 a1 k,LeO (laws_eqChangeS.f k a0 a1) (laws_eqChangeS.f (k + 1) a0 a1):=by
 intro a0 a1 k
 have ih0:=laws_eqChangeS.mono_l k
 unfold laws_eqChangeS.f
 repeat' first
   | (with_reducible exact ih0 _ _ _)
   | (with_reducible exact LeO.refl _)
   | (with_reducible exact LeO.none _)
   | (with_reducible refine LeO.ite ?_ ?_)
   | (with_reducible refine LeO.bind ?_ (fun _ => ?_))
   | exact ih0 _ _ _
   | exact LeO.none _
   | refine LeO.ite ?_ ?_
   | refine LeO.bind ?_ (fun _ => ?_)
def laws_eqChangeS.T6 : Bool × List (List Nat × List Nat):=(true,[([],[]),([],[]),([0,1],[0,1]),([2],[2]),([],[]),([],[]),([4,5],[4,5]),([6],[6]),([3,7],[3,7]),([8],[8])])
def laws_eqChangeS.B6 : List Nat:=[0,0,3,7,0,0,48,112,255,511]
theorem laws_eqChangeS.tab6 : rtab .any (opsOf Try.f8 6) = laws_eqChangeS.T6:=by kernel_rfl
theorem laws_eqChangeS.bits6 : waitsOk laws_eqChangeS.T6.2 laws_eqChangeS.B6 = true:=by kernel_rfl
set_option maxHeartbeats 8000000 in
set_option maxRecDepth 100000 in
theorem laws_eqChangeS.calls (k : Nat) (A0 : Option Addr) (c0 : Nat) (l0 : List (S44)) (A1 : Option Addr) (c1 : Nat) (l1 : List (S44)) (r : Bool) (w : World) (hr0 : Kd.C k44 w A0 l0.length l0) (hc0 : l0.length ≤ c0) (hr1 : Kd.C k44 w A1 l1.length l1) (hc1 : l1.length ≤ c1) (h : laws_eqChangeS.f k l0 l1 = some r) :
  Calls Try.prog 8 #[.slice A0 l0.length c0,.slice A1 l1.length c1] w fun e w' => e = .returned (.bool r) ∧ Below w.heap.size w w':=by
 have hu44:=Try.underlying44
 have HR0:=Aside0.mk hr0
 have HC0:=Aside0.mk hc0
 clear hr0 hc0
 have HR1:=Aside0.mk hr1
 have HC1:=Aside0.mk hc1
 clear hr1 hc1
 have HB:=Aside0.mk (Below.refl w.heap.size w)
 have H : (if (l0.length : Int) = (l1.length : Int) then (laws_eqChangeS.l0 k l0 l1 0) else (some false)) = some r:=h
 clear h
 by_cases c3 : (l0.length : Int) = (l1.length : Int)
 ·rw [if_pos c3] at H
  have c3b0 : ((l0.length : Int) == (l1.length : Int)) = true:=beq_iff_eq.mpr c3
  have c3b1 : ((l0.length : Int) != (l1.length : Int)) = false:=bne_eq_false_iff_eq.mpr c3
  have c3b2 : (l0.length == l1.length) = true:=by first | simpa using c3 | (simp at c3 ⊢;omega)
  clear c3
  have H':=Aside0.mk H
  clear H
  go_enter Try.func8,Try.ntmps8
  go_wp2
  go_loopg [5] k (fun kq v5 w' => ∃ (x5_1 : Int),v5 = .int .i64 x5_1 ∧ Aside0 (laws_eqChangeS.l0 kq l0 l1 x5_1 = some r) ∧ Aside0 (kq ≤ k) ∧ Aside0 (Below w.heap.size w w'))
  case atStart => exact ⟨(0),(by first | rfl | (simp;done) | (simp [*];done)),H',⟨Nat.le_refl _⟩,⟨by repeat (first | (with_reducible first | exact HB.out | apply below_alloc | apply pw_below_drewN | apply below_drew1) | exact HB.out)⟩⟩
  case round =>
   clear H'
   try clear c1
   try clear p2
   try clear c3
   try clear c3b0
   try clear c3b1
   try clear c3b2
   obtain ⟨x5_1,rfl,HA,HK1,HB⟩:=hrel
   cases gk with
   | zero => exact absurd HA.out (by simp [laws_eqChangeS.l0])
   | succ k1 =>
    have H:=HA.out
    clear HA
    simp only [laws_eqChangeS.l0] at H
    by_cases c4 : x5_1 < (l0.length : Int)
    ·rw [if_pos c4] at H
     have c4b0 : decide (x5_1 < (l0.length : Int)) = true:=decide_eq_true c4
     clear c4
     by_cases c5 : 0 ≤ x5_1
     ·rw [if_pos c5] at H
      have c5b0 : decide (0 ≤ x5_1) = true:=decide_eq_true c5
      clear c5
      by_cases c6 : x5_1 < (l1.length : Int)
      ·rw [if_pos c6] at H
       have c6b0 : decide (x5_1 < (l1.length : Int)) = true:=decide_eq_true c6
       clear c6
       replace H:=Option.bind_eq_some_iff.mp H
       obtain ⟨t303,A70,H⟩:=H
       replace H : (if t303 = true then (laws_eqChangeS.l0 k1 l0 l1 (wrap64 (x5_1 + 1))) else (some false)) = some r:=H
       have A7:=Aside0.mk A70
       clear A70
       by_cases c8 : t303 = true
       ·subst c8
        have H1 : (laws_eqChangeS.l0 k1 l0 l1 (wrap64 (x5_1 + 1))) = some r:=by rw [if_pos rfl] at H;exact H
        clear H
        have H:=H1
        clear H1
        have H':=Aside0.mk H
        clear H
        try go_wp2
        have n0_:=Aside0.mk (below_drew1 HB.out)
        clear HB
        have HB:=n0_
        clear n0_
        have p301 : 0 ≤ (x5_1 : Int):=of_decide_eq_true (by first | (with_reducible assumption) | assumption)
        have q301 : x5_1 < (l0.length : Int):=of_decide_eq_true (by first | (with_reducible assumption) | assumption)
        obtain ⟨ad301,e301,hx301_0,hx301_1,hx301_2⟩:=at_T44 HR0.out x5_1 p301 q301
        have hw301_2:=hx301_2
        have hw301_1:=hx301_1
        have hw301_0:=hx301_0
        cases e301
        replace hx301_0:=(HB.out.cell (World.block_lt_of_cell? w _ hx301_0)).trans hx301_0
        replace hx301_1:=(HB.out.cell (World.block_lt_of_cell? w _ hx301_1)).trans hx301_1
        replace hx301_2:=(HB.out.cell (World.block_lt_of_cell? w _ hx301_2)).trans hx301_2
        replace p301:=eq_true p301
        replace q301:=eq_true q301
        have p302 : 0 ≤ (x5_1 : Int):=of_decide_eq_true (by first | (with_reducible assumption) | assumption)
        have q302 : x5_1 < (l1.length : Int):=of_decide_eq_true (by first | (with_reducible assumption) | assumption)
        obtain ⟨ad302,e302,hx302_0,hx302_1,hx302_2⟩:=at_T44 HR1.out x5_1 p302 q302
        have hw302_2:=hx302_2
        have hw302_1:=hx302_1
        have hw302_0:=hx302_0
        cases e302
        replace hx302_0:=(HB.out.cell (World.block_lt_of_cell? w _ hx302_0)).trans hx302_0
        replace hx302_1:=(HB.out.cell (World.block_lt_of_cell? w _ hx302_1)).trans hx302_1
        replace hx302_2:=(HB.out.cell (World.block_lt_of_cell? w _ hx302_2)).trans hx302_2
        replace p302:=eq_true p302
        replace q302:=eq_true q302
        refine start_ (n:=10) (S:=fun w' => w'.cell? (ad301.add ((x5_1).toNat * 3)) = some (.string ((rd_T44 l0 x5_1).f0)) ∧ w'.cell? ⟨(ad301.add ((x5_1).toNat * 3)).block,(ad301.add ((x5_1).toNat * 3)).off + 1,none⟩ = some (.string ((rd_T44 l0 x5_1).f1)) ∧ w'.cell? ⟨(ad301.add ((x5_1).toNat * 3)).block,(ad301.add ((x5_1).toNat * 3)).off + 2,none⟩ = some (.bool ((rd_T44 l0 x5_1).f2)) ∧ w'.cell? (ad302.add ((x5_1).toNat * 3)) = some (.string ((rd_T44 l1 x5_1).f0)) ∧ w'.cell? ⟨(ad302.add ((x5_1).toNat * 3)).block,(ad302.add ((x5_1).toNat * 3)).off + 1,none⟩ = some (.string ((rd_T44 l1 x5_1).f1)) ∧ w'.cell? ⟨(ad302.add ((x5_1).toNat * 3)).block,(ad302.add ((x5_1).toNat * 3)).off + 2,none⟩ = some (.bool ((rd_T44 l1 x5_1).f2))) (ds:=[]) (zF0 10 0) (by kernel_rfl) rfl rfl ⟨((HB.out.cell (World.block_lt_of_cell? w _ hw301_0)).trans hw301_0),((HB.out.cell (World.block_lt_of_cell? w _ hw301_1)).trans hw301_1),((HB.out.cell (World.block_lt_of_cell? w _ hw301_2)).trans hw301_2),((HB.out.cell (World.block_lt_of_cell? w _ hw302_0)).trans hw302_0),((HB.out.cell (World.block_lt_of_cell? w _ hw302_1)).trans hw302_1),((HB.out.cell (World.block_lt_of_cell? w _ hw302_2)).trans hw302_2)⟩ (fun hHeld => ?_);refine with_tabW laws_eqChangeS.tab6 laws_eqChangeS.bits6 (fun HT_ HW_ => ?_)
        generalize wr.drew = w9 at HB hx301_0 hx301_1 hx301_2 hx302_0 hx302_1 hx302_2 hHeld ⊢
        refine zP0 (i:=0) (N:=some 17) (zF0 10 1) rfl rfl HT_.out ?_
        refine zP0 (i:=1) (N:=some 18) (zF0 10 3) rfl rfl HT_.out ?_
        refine zP0 (i:=2) (N:=some 19) (zF0 10 7) rfl rfl HT_.out ?_
        refine zP0 (i:=4) (N:=some 21) (zF0 10 23) rfl rfl HT_.out ?_
        refine zP0 (i:=5) (N:=some 22) (zF0 10 55) rfl rfl HT_.out ?_
        refine zP0 (i:=6) (N:=some 23) (zF0 10 119) rfl rfl HT_.out ?_
        refine take_ (i:=3) (N:=some 20) (v:=?_) (a':=?_) (zF0 10 127) rfl rfl (take_ofW HT_.out HW_.out (by kernel_rfl)) (fun _ _ _ h => h) (Or.inl ⟨by rfl,?_⟩) hHeld ?_ ?_;rotate_left
        ·rintro w' ⟨s0,s1,s2,s3,s4,s5⟩
         go_simp
         with_reducible rfl
        rotate_left
        ·simp only [Act.put,qA0,qB0,qC0,i64_w,i32_w];rfl
        refine take_ (i:=7) (N:=some 24) (v:=?_) (a':=?_) (zF0 10 255) rfl rfl (take_ofW HT_.out HW_.out (by kernel_rfl)) (fun _ _ _ h => h) (Or.inl ⟨by rfl,?_⟩) hHeld ?_ ?_;rotate_left
        ·rintro w' ⟨s0,s1,s2,s3,s4,s5⟩
         go_simp
         with_reducible rfl
        rotate_left
        ·simp only [Act.put,qA0,qB0,qC0,i64_w,i32_w];rfl
        refine one_ (i:=8) (N:=some 25) (zF0 10 511) rfl rfl (one_of HT_.out (by kernel_rfl)) (by decide) (fun K hK => ?_)
        refine goes_ Try.func25 (by kernel_rfl) rfl #[.agg #[.string ((rd_T44 l0 x5_1).f0),.string ((rd_T44 l0 x5_1).f1),.bool ((rd_T44 l0 x5_1).f2)],.agg #[.string ((rd_T44 l1 x5_1).f0),.string ((rd_T44 l1 x5_1).f1),.bool ((rd_T44 l1 x5_1).f2)]] (by rfl) rfl rfl zM0 ?_
        with_reducible refine (laws_eqChange.calls ((rd_T44 l0 x5_1).f0) ((rd_T44 l0 x5_1).f1) ((rd_T44 l0 x5_1).f2) ((rd_T44 l1 x5_1).f0) ((rd_T44 l1 x5_1).f1) ((rd_T44 l1 x5_1).f2) true _ A7.out).mono ?_
        rintro e w10 ⟨rfl,hb⟩
        refine ⟨_,rfl,?_⟩
        have n0_:=Aside0.mk (zS0 HB.out hb)
        clear HB
        have HB:=n0_
        clear n0_
        (try clear hb)
        (try clear hb2)
        (try clear hk)
        (try clear hi)
        refine hK.out _ _ ⟨((HB.out.cell (World.block_lt_of_cell? w _ hw301_0)).trans hw301_0),((HB.out.cell (World.block_lt_of_cell? w _ hw301_1)).trans hw301_1),((HB.out.cell (World.block_lt_of_cell? w _ hw301_2)).trans hw301_2),((HB.out.cell (World.block_lt_of_cell? w _ hw302_0)).trans hw302_0),((HB.out.cell (World.block_lt_of_cell? w _ hw302_1)).trans hw302_1),((HB.out.cell (World.block_lt_of_cell? w _ hw302_2)).trans hw302_2)⟩ (fun hHeld => ?_)
        clear hK K
        refine norm_ (a':=?_) ?_ ?_;rotate_left
        ·show Act.put _ (some 25) _ = _;simp only [Act.put,qA0,qB0,qC0,i64_w,i32_w];rfl
        refine zP0 (i:=9) (N:=some 26) (zF0 10 1023) rfl rfl HT_.out ?_
        refine done_ (done_of HT_.out (by kernel_rfl)) ?_
        try go_wp2
        go_roundg k1
        case measure => have:=HK1.out;omega
        case rel => exact ⟨(wrap64 (x5_1 + 1)),(by first | rfl | (simp;done) | (simp [*];done)),H',⟨by have:=HK1.out;omega⟩,⟨by repeat (first | (with_reducible first | exact HB.out | apply below_alloc | apply pw_below_drewN | apply below_drew1) | exact HB.out)⟩⟩
       ·replace c8:=Bool.eq_false_iff.mpr c8
        subst c8
        have H1 : (some false) = some r:=by rw [if_neg (show ¬ (false = true) by decide)] at H;exact H
        clear H
        have H:=H1
        clear H1
        obtain rfl:=Option.some.inj H
        try go_wp2
        have n0_:=Aside0.mk (below_drew1 HB.out)
        clear HB
        have HB:=n0_
        clear n0_
        have p301 : 0 ≤ (x5_1 : Int):=of_decide_eq_true (by first | (with_reducible assumption) | assumption)
        have q301 : x5_1 < (l0.length : Int):=of_decide_eq_true (by first | (with_reducible assumption) | assumption)
        obtain ⟨ad301,e301,hx301_0,hx301_1,hx301_2⟩:=at_T44 HR0.out x5_1 p301 q301
        have hw301_2:=hx301_2
        have hw301_1:=hx301_1
        have hw301_0:=hx301_0
        cases e301
        replace hx301_0:=(HB.out.cell (World.block_lt_of_cell? w _ hx301_0)).trans hx301_0
        replace hx301_1:=(HB.out.cell (World.block_lt_of_cell? w _ hx301_1)).trans hx301_1
        replace hx301_2:=(HB.out.cell (World.block_lt_of_cell? w _ hx301_2)).trans hx301_2
        replace p301:=eq_true p301
        replace q301:=eq_true q301
        have p302 : 0 ≤ (x5_1 : Int):=of_decide_eq_true (by first | (with_reducible assumption) | assumption)
        have q302 : x5_1 < (l1.length : Int):=of_decide_eq_true (by first | (with_reducible assumption) | assumption)
        obtain ⟨ad302,e302,hx302_0,hx302_1,hx302_2⟩:=at_T44 HR1.out x5_1 p302 q302
        have hw302_2:=hx302_2
        have hw302_1:=hx302_1
        have hw302_0:=hx302_0
        cases e302
        replace hx302_0:=(HB.out.cell (World.block_lt_of_cell? w _ hx302_0)).trans hx302_0
        replace hx302_1:=(HB.out.cell (World.block_lt_of_cell? w _ hx302_1)).trans hx302_1
        replace hx302_2:=(HB.out.cell (World.block_lt_of_cell? w _ hx302_2)).trans hx302_2
        replace p302:=eq_true p302
        replace q302:=eq_true q302
        refine start_ (n:=10) (S:=fun w' => w'.cell? (ad301.add ((x5_1).toNat * 3)) = some (.string ((rd_T44 l0 x5_1).f0)) ∧ w'.cell? ⟨(ad301.add ((x5_1).toNat * 3)).block,(ad301.add ((x5_1).toNat * 3)).off + 1,none⟩ = some (.string ((rd_T44 l0 x5_1).f1)) ∧ w'.cell? ⟨(ad301.add ((x5_1).toNat * 3)).block,(ad301.add ((x5_1).toNat * 3)).off + 2,none⟩ = some (.bool ((rd_T44 l0 x5_1).f2)) ∧ w'.cell? (ad302.add ((x5_1).toNat * 3)) = some (.string ((rd_T44 l1 x5_1).f0)) ∧ w'.cell? ⟨(ad302.add ((x5_1).toNat * 3)).block,(ad302.add ((x5_1).toNat * 3)).off + 1,none⟩ = some (.string ((rd_T44 l1 x5_1).f1)) ∧ w'.cell? ⟨(ad302.add ((x5_1).toNat * 3)).block,(ad302.add ((x5_1).toNat * 3)).off + 2,none⟩ = some (.bool ((rd_T44 l1 x5_1).f2))) (ds:=[]) (zF0 10 0) (by kernel_rfl) rfl rfl ⟨((HB.out.cell (World.block_lt_of_cell? w _ hw301_0)).trans hw301_0),((HB.out.cell (World.block_lt_of_cell? w _ hw301_1)).trans hw301_1),((HB.out.cell (World.block_lt_of_cell? w _ hw301_2)).trans hw301_2),((HB.out.cell (World.block_lt_of_cell? w _ hw302_0)).trans hw302_0),((HB.out.cell (World.block_lt_of_cell? w _ hw302_1)).trans hw302_1),((HB.out.cell (World.block_lt_of_cell? w _ hw302_2)).trans hw302_2)⟩ (fun hHeld => ?_);refine with_tabW laws_eqChangeS.tab6 laws_eqChangeS.bits6 (fun HT_ HW_ => ?_)
        generalize wr.drew = w11 at HB hx301_0 hx301_1 hx301_2 hx302_0 hx302_1 hx302_2 hHeld ⊢
        refine zP0 (i:=0) (N:=some 17) (zF0 10 1) rfl rfl HT_.out ?_
        refine zP0 (i:=1) (N:=some 18) (zF0 10 3) rfl rfl HT_.out ?_
        refine zP0 (i:=2) (N:=some 19) (zF0 10 7) rfl rfl HT_.out ?_
        refine zP0 (i:=4) (N:=some 21) (zF0 10 23) rfl rfl HT_.out ?_
        refine zP0 (i:=5) (N:=some 22) (zF0 10 55) rfl rfl HT_.out ?_
        refine zP0 (i:=6) (N:=some 23) (zF0 10 119) rfl rfl HT_.out ?_
        refine take_ (i:=3) (N:=some 20) (v:=?_) (a':=?_) (zF0 10 127) rfl rfl (take_ofW HT_.out HW_.out (by kernel_rfl)) (fun _ _ _ h => h) (Or.inl ⟨by rfl,?_⟩) hHeld ?_ ?_;rotate_left
        ·rintro w' ⟨s0,s1,s2,s3,s4,s5⟩
         go_simp
         with_reducible rfl
        rotate_left
        ·simp only [Act.put,qA0,qB0,qC0,i64_w,i32_w];rfl
        refine take_ (i:=7) (N:=some 24) (v:=?_) (a':=?_) (zF0 10 255) rfl rfl (take_ofW HT_.out HW_.out (by kernel_rfl)) (fun _ _ _ h => h) (Or.inl ⟨by rfl,?_⟩) hHeld ?_ ?_;rotate_left
        ·rintro w' ⟨s0,s1,s2,s3,s4,s5⟩
         go_simp
         with_reducible rfl
        rotate_left
        ·simp only [Act.put,qA0,qB0,qC0,i64_w,i32_w];rfl
        refine one_ (i:=8) (N:=some 25) (zF0 10 511) rfl rfl (one_of HT_.out (by kernel_rfl)) (by decide) (fun K hK => ?_)
        refine goes_ Try.func25 (by kernel_rfl) rfl #[.agg #[.string ((rd_T44 l0 x5_1).f0),.string ((rd_T44 l0 x5_1).f1),.bool ((rd_T44 l0 x5_1).f2)],.agg #[.string ((rd_T44 l1 x5_1).f0),.string ((rd_T44 l1 x5_1).f1),.bool ((rd_T44 l1 x5_1).f2)]] (by rfl) rfl rfl zM0 ?_
        with_reducible refine (laws_eqChange.calls ((rd_T44 l0 x5_1).f0) ((rd_T44 l0 x5_1).f1) ((rd_T44 l0 x5_1).f2) ((rd_T44 l1 x5_1).f0) ((rd_T44 l1 x5_1).f1) ((rd_T44 l1 x5_1).f2) false _ A7.out).mono ?_
        rintro e w12 ⟨rfl,hb⟩
        refine ⟨_,rfl,?_⟩
        have n0_:=Aside0.mk (zS0 HB.out hb)
        clear HB
        have HB:=n0_
        clear n0_
        (try clear hb)
        (try clear hb2)
        (try clear hk)
        (try clear hi)
        refine hK.out _ _ ⟨((HB.out.cell (World.block_lt_of_cell? w _ hw301_0)).trans hw301_0),((HB.out.cell (World.block_lt_of_cell? w _ hw301_1)).trans hw301_1),((HB.out.cell (World.block_lt_of_cell? w _ hw301_2)).trans hw301_2),((HB.out.cell (World.block_lt_of_cell? w _ hw302_0)).trans hw302_0),((HB.out.cell (World.block_lt_of_cell? w _ hw302_1)).trans hw302_1),((HB.out.cell (World.block_lt_of_cell? w _ hw302_2)).trans hw302_2)⟩ (fun hHeld => ?_)
        clear hK K
        refine norm_ (a':=?_) ?_ ?_;rotate_left
        ·show Act.put _ (some 25) _ = _;simp only [Act.put,qA0,qB0,qC0,i64_w,i32_w];rfl
        refine zP0 (i:=9) (N:=some 26) (zF0 10 1023) rfl rfl HT_.out ?_
        refine done_ (done_of HT_.out (by kernel_rfl)) ?_
        try go_wp2
        go_ret
        exact ⟨by first | rfl | (simp [errW_none,errW_some] <;> rfl) | (simp [*,errW_none,errW_some] <;> rfl),by repeat (first | (with_reducible first | exact HB.out | apply below_alloc | apply pw_below_drewN | apply below_drew1) | exact HB.out)⟩
      ·rw [if_neg c6] at H
       exact absurd H (by simp)
     ·rw [if_neg c5] at H
      exact absurd H (by simp)
    ·rw [if_neg c4] at H
     have c4b0 : decide (x5_1 < (l0.length : Int)) = false:=decide_eq_false c4
     clear c4
     obtain rfl:=Option.some.inj H
     go_wp2
     go_ret
     exact ⟨by first | rfl | (simp [errW_none,errW_some] <;> rfl) | (simp [*,errW_none,errW_some] <;> rfl),by repeat (first | (with_reducible first | exact HB.out | apply below_alloc | apply pw_below_drewN | apply below_drew1) | exact HB.out)⟩
 ·rw [if_neg c3] at H
  have c3b0 : ((l0.length : Int) == (l1.length : Int)) = false:=beq_eq_false_iff_ne.mpr c3
  have c3b1 : ((l0.length : Int) != (l1.length : Int)) = true:=bne_iff_ne.mpr c3
  have c3b2 : (l0.length == l1.length) = false:=by first | simpa using c3 | (simp at c3 ⊢;omega)
  obtain rfl:=Option.some.inj H
  go_enter Try.func8,Try.ntmps8
  go_wp2
  go_ret
  exact ⟨by first | rfl | (simp [errW_none,errW_some] <;> rfl) | (simp [*,errW_none,errW_some] <;> rfl),by repeat (first | (with_reducible first | exact HB.out | apply below_alloc | apply pw_below_drewN | apply below_drew1) | exact HB.out)⟩

/-! ### laws_eqStringS: function 63 -/
def laws_eqStringS.l0 : Nat → List ByteArray → List ByteArray → Int → Option (Bool)
 | 0,_,_,_ => none
 | k + 1,x0,x1,x5 => if x5 < (x0.length : Int) then (if 0 ≤ x5 then (if x5 < (x1.length : Int) then (if (rdOf ByteArray.empty x0 x5).toList = (rdOf ByteArray.empty x1 x5).toList then (laws_eqStringS.l0 k x0 x1 (wrap64 (x5 + 1))) else (some false)) else (none)) else (none)) else (some true)
def laws_eqStringS.f (k : Nat) (l0 : List ByteArray) (l1 : List ByteArray) : Option (Bool):=if (l0.length : Int) = (l1.length : Int) then (laws_eqStringS.l0 k l0 l1 0) else (some false)
theorem laws_eqStringS.mono_l : ∀ k,(∀ y0 y1 y2,LeO (laws_eqStringS.l0 k y0 y1 y2) (laws_eqStringS.l0 (k + 1) y0 y1 y2))
 | 0 => fun _ _ _ r h => by simp [laws_eqStringS.l0] at h
 | k + 1 => by
  have ih0:=laws_eqStringS.mono_l k
  ·intro y0 y1 y2
   unfold laws_eqStringS.l0
   repeat' first
   | (with_reducible exact ih0 _ _ _)
   | (with_reducible exact LeO.refl _)
   | (with_reducible exact LeO.none _)
   | (with_reducible refine LeO.ite ?_ ?_)
   | (with_reducible refine LeO.bind ?_ (fun _ => ?_))
   | exact ih0 _ _ _
   | exact LeO.none _
   | refine LeO.ite ?_ ?_
   | refine LeO.bind ?_ (fun _ => ?_)
theorem laws_eqStringS.mono : ∀ a0 a1 k,LeO (laws_eqStringS.f k a0 a1) (laws_eqStringS.f (k + 1) a0 a1):=by
 intro a0 a1 k
 have ih0:=laws_eqStringS.mono_l k
 unfold laws_eqStringS.f
 repeat' first
   | (with_reducible exact ih0 _ _ _)
   | (with_reducible exact LeO.refl _)
   | (with_reducible exact LeO.none _)
   | (with_reducible refine LeO.ite ?_ ?_)
   | (with_reducible refine LeO.bind ?_ (fun _ => ?_))
   | exact ih0 _ _ _
   | exact LeO.none _
   | refine LeO.ite ?_ ?_
   | refine LeO.bind ?_ (fun _ => ?_)
set_option maxHeartbeats 8000000 in
set_option maxRecDepth 100000 in
theorem laws_eqStringS.calls (k : Nat) (A0 : Option Addr) (c0 : Nat) (l0 : List ByteArray) (A1 : Option Addr) (c1 : Nat) (l1 : List ByteArray) (r : Bool) (w : World) (hr0 : Kd.C Kd.string w A0 l0.length l0) (hc0 : l0.length ≤ c0) (hr1 : Kd.C Kd.string w A1 l1.length l1) (hc1 : l1.length ≤ c1) (h : laws_eqStringS.f k l0 l1 = some r) :
  Calls Try.prog 63 #[.slice A0 l0.length c0,.slice A1 l1.length c1] w fun e w' => e = .returned (.bool r) ∧ Drawn0 w w':=by
 have HR0:=Aside0.mk hr0
 have HC0:=Aside0.mk hc0
 clear hr0 hc0
 have HR1:=Aside0.mk hr1
 have HC1:=Aside0.mk hc1
 clear hr1 hc1
 have H : (if (l0.length : Int) = (l1.length : Int) then (laws_eqStringS.l0 k l0 l1 0) else (some false)) = some r:=h
 clear h
 by_cases c3 : (l0.length : Int) = (l1.length : Int)
 ·rw [if_pos c3] at H
  have c3b0 : ((l0.length : Int) == (l1.length : Int)) = true:=beq_iff_eq.mpr c3
  have c3b1 : ((l0.length : Int) != (l1.length : Int)) = false:=bne_eq_false_iff_eq.mpr c3
  have c3b2 : (l0.length == l1.length) = true:=by first | simpa using c3 | (simp at c3 ⊢;omega)
  clear c3
  have H':=Aside0.mk H
  clear H
  go_enter Try.func63,Try.ntmps63
  go_wp2
  repeat (go_quiet (fail);try go_wp2)
  go_loopg [5] k (fun kq v5 w' => ∃ (x5_1 : Int),v5 = .int .i64 x5_1 ∧ Aside0 (laws_eqStringS.l0 kq l0 l1 x5_1 = some r) ∧ Aside0 (kq ≤ k) ∧ Drawn0 w w')
  case atStart => exact ⟨(0),(by first | rfl | (simp;done) | (simp [*];done)),H',⟨Nat.le_refl _⟩,by repeat (first | exact Drawn0.refl _ | apply Drawn0.step)⟩
  case round =>
   clear H'
   try clear c1
   try clear p2
   try clear c3
   try clear c3b0
   try clear c3b1
   try clear c3b2
   obtain ⟨x5_1,rfl,HA,HK1,⟨m1,rfl⟩⟩:=hrel
   cases gk with
   | zero => exact absurd HA.out (by simp [laws_eqStringS.l0])
   | succ k1 =>
    have H:=HA.out
    clear HA
    simp only [laws_eqStringS.l0] at H
    by_cases c4 : x5_1 < (l0.length : Int)
    ·rw [if_pos c4] at H
     have c4b0 : decide (x5_1 < (l0.length : Int)) = true:=decide_eq_true c4
     clear c4
     by_cases c5 : 0 ≤ x5_1
     ·rw [if_pos c5] at H
      have c5b0 : decide (0 ≤ x5_1) = true:=decide_eq_true c5
      clear c5
      by_cases c6 : x5_1 < (l1.length : Int)
      ·rw [if_pos c6] at H
       have c6b0 : decide (x5_1 < (l1.length : Int)) = true:=decide_eq_true c6
       clear c6
       by_cases c7 : (rdOf ByteArray.empty l0 x5_1).toList = (rdOf ByteArray.empty l1 x5_1).toList
       ·rw [if_pos c7] at H
        have c7b0 : ((rdOf ByteArray.empty l0 x5_1).toList == (rdOf ByteArray.empty l1 x5_1).toList) = true:=beq_iff_eq.mpr c7
        have c7b1 : ((rdOf ByteArray.empty l0 x5_1).toList != (rdOf ByteArray.empty l1 x5_1).toList) = false:=bne_eq_false_iff_eq.mpr c7
        clear c7
        have H':=Aside0.mk H
        clear H
        have p304 : 0 ≤ (x5_1 : Int):=of_decide_eq_true (by first | (with_reducible assumption) | assumption)
        have q304 : x5_1 < (l0.length : Int):=of_decide_eq_true (by first | (with_reducible assumption) | assumption)
        obtain ⟨ad304,e304,hx304_0⟩:=Kd.at_string HR0.out x5_1 p304 q304
        cases e304
        replace p304:=eq_true p304
        replace q304:=eq_true q304
        have p305 : 0 ≤ (x5_1 : Int):=of_decide_eq_true (by first | (with_reducible assumption) | assumption)
        have q305 : x5_1 < (l1.length : Int):=of_decide_eq_true (by first | (with_reducible assumption) | assumption)
        obtain ⟨ad305,e305,hx305_0⟩:=Kd.at_string HR1.out x5_1 p305 q305
        cases e305
        replace p305:=eq_true p305
        replace q305:=eq_true q305
        go_wp2
        repeat (go_quiet (fail);try go_wp2)
        go_roundg k1
        case measure => have:=HK1.out;omega
        case rel => exact ⟨(wrap64 (x5_1 + 1)),(by first | rfl | (simp;done) | (simp [*];done)),H',⟨by have:=HK1.out;omega⟩,by repeat (first | exact Drawn0.refl _ | apply Drawn0.step)⟩
       ·rw [if_neg c7] at H
        have c7b0 : ((rdOf ByteArray.empty l0 x5_1).toList == (rdOf ByteArray.empty l1 x5_1).toList) = false:=beq_eq_false_iff_ne.mpr c7
        have c7b1 : ((rdOf ByteArray.empty l0 x5_1).toList != (rdOf ByteArray.empty l1 x5_1).toList) = true:=bne_iff_ne.mpr c7
        obtain rfl:=Option.some.inj H
        have p304 : 0 ≤ (x5_1 : Int):=of_decide_eq_true (by first | (with_reducible assumption) | assumption)
        have q304 : x5_1 < (l0.length : Int):=of_decide_eq_true (by first | (with_reducible assumption) | assumption)
        obtain ⟨ad304,e304,hx304_0⟩:=Kd.at_string HR0.out x5_1 p304 q304
        cases e304
        replace p304:=eq_true p304
        replace q304:=eq_true q304
        have p305 : 0 ≤ (x5_1 : Int):=of_decide_eq_true (by first | (with_reducible assumption) | assumption)
        have q305 : x5_1 < (l1.length : Int):=of_decide_eq_true (by first | (with_reducible assumption) | assumption)
        obtain ⟨ad305,e305,hx305_0⟩:=Kd.at_string HR1.out x5_1 p305 q305
        cases e305
        replace p305:=eq_true p305
        replace q305:=eq_true q305
        go_wp2
        repeat (go_quiet (fail);try go_wp2)
        go_ret
        exact ⟨by first | rfl | (simp;done) | (simp [*];done),by repeat (first | exact Drawn0.refl _ | apply Drawn0.step)⟩
      ·rw [if_neg c6] at H
       exact absurd H (by simp)
     ·rw [if_neg c5] at H
      exact absurd H (by simp)
    ·rw [if_neg c4] at H
     have c4b0 : decide (x5_1 < (l0.length : Int)) = false:=decide_eq_false c4
     clear c4
     obtain rfl:=Option.some.inj H
     go_wp2
     repeat (go_quiet (fail);try go_wp2)
     go_ret
     exact ⟨by first | rfl | (simp;done) | (simp [*];done),by repeat (first | exact Drawn0.refl _ | apply Drawn0.step)⟩
 ·rw [if_neg c3] at H
  have c3b0 : ((l0.length : Int) == (l1.length : Int)) = false:=beq_eq_false_iff_ne.mpr c3
  have c3b1 : ((l0.length : Int) != (l1.length : Int)) = true:=bne_iff_ne.mpr c3
  have c3b2 : (l0.length == l1.length) = false:=by first | simpa using c3 | (simp at c3 ⊢;omega)
  obtain rfl:=Option.some.inj H
  go_enter Try.func63,Try.ntmps63
  go_wp2
  repeat (go_quiet (fail);try go_wp2)
  go_ret
  exact ⟨by first | rfl | (simp;done) | (simp [*];done),by repeat (first | exact Drawn0.refl _ | apply Drawn0.step)⟩

/-! ### laws_eqVal: function 46 -/
def laws_eqVal.f (k : Nat) (a0_0 : Int) (a0_1 : Int) (a0_2 : ByteArray) (l0_3 : List ByteArray) (a1_0 : Int) (a1_1 : Int) (a1_2 : ByteArray) (l1_3 : List ByteArray) : Option (Bool):=if a0_0 = a1_0 then (if a0_1 = a1_1 then (if a0_2.toList = a1_2.toList then ((laws_eqStringS.f k l0_3 l1_3).bind fun t308 => (if t308 = true then (some true) else (some false))) else (some false)) else (some false)) else (some false)
theorem laws_eqVal.mono : ∀ a0 a1 a2 a3 a4 a5 a6 a7 k,LeO (laws_eqVal.f k a0 a1 a2 a3 a4 a5 a6 a7) (laws_eqVal.f (k + 1) a0 a1 a2 a3 a4 a5 a6 a7):=by
 intro a0 a1 a2 a3 a4 a5 a6 a7 k
 unfold laws_eqVal.f
 repeat' first
   | (with_reducible exact laws_eqStringS.mono _ _ _)
   | (with_reducible exact LeO.refl _)
   | (with_reducible exact LeO.none _)
   | (with_reducible refine LeO.ite ?_ ?_)
   | (with_reducible refine LeO.bind ?_ (fun _ => ?_))
   | exact laws_eqStringS.mono _ _ _
   | exact LeO.none _
   | refine LeO.ite ?_ ?_
   | refine LeO.bind ?_ (fun _ => ?_)
set_option maxHeartbeats 8000000 in
set_option maxRecDepth 100000 in
theorem laws_eqVal.calls (k : Nat) (a0_0 : Int) (a0_1 : Int) (a0_2 : ByteArray) (A0_3 : Option Addr) (c0_3 : Nat) (l0_3 : List ByteArray) (a1_0 : Int) (a1_1 : Int) (a1_2 : ByteArray) (A1_3 : Option Addr) (c1_3 : Nat) (l1_3 : List ByteArray) (r : Bool) (w : World) (hr0_3 : Kd.C Kd.string w A0_3 l0_3.length l0_3) (hc0_3 : l0_3.length ≤ c0_3) (hr1_3 : Kd.C Kd.string w A1_3 l1_3.length l1_3) (hc1_3 : l1_3.length ≤ c1_3) (h : laws_eqVal.f k a0_0 a0_1 a0_2 l0_3 a1_0 a1_1 a1_2 l1_3 = some r) :
  Calls Try.prog 46 #[.agg #[.int .i64 a0_0,.int .i64 a0_1,.string a0_2,.slice A0_3 l0_3.length c0_3],.agg #[.int .i64 a1_0,.int .i64 a1_1,.string a1_2,.slice A1_3 l1_3.length c1_3]] w fun e w' => e = .returned (.bool r) ∧ Below w.heap.size w w':=by
 have hu40:=Try.underlying40
 have HR0_3:=Aside0.mk hr0_3
 have HC0_3:=Aside0.mk hc0_3
 clear hr0_3 hc0_3
 have HR1_3:=Aside0.mk hr1_3
 have HC1_3:=Aside0.mk hc1_3
 clear hr1_3 hc1_3
 have HB:=Aside0.mk (Below.refl w.heap.size w)
 have H : (if a0_0 = a1_0 then (if a0_1 = a1_1 then (if a0_2.toList = a1_2.toList then ((laws_eqStringS.f k l0_3 l1_3).bind fun t308 => (if t308 = true then (some true) else (some false))) else (some false)) else (some false)) else (some false)) = some r:=h
 clear h
 by_cases c3 : a0_0 = a1_0
 ·rw [if_pos c3] at H
  have c3b0 : (a0_0 == a1_0) = true:=beq_iff_eq.mpr c3
  have c3b1 : (a0_0 != a1_0) = false:=bne_eq_false_iff_eq.mpr c3
  clear c3
  by_cases c4 : a0_1 = a1_1
  ·rw [if_pos c4] at H
   have c4b0 : (a0_1 == a1_1) = true:=beq_iff_eq.mpr c4
   have c4b1 : (a0_1 != a1_1) = false:=bne_eq_false_iff_eq.mpr c4
   clear c4
   by_cases c5 : a0_2.toList = a1_2.toList
   ·rw [if_pos c5] at H
    have c5b0 : (a0_2.toList == a1_2.toList) = true:=beq_iff_eq.mpr c5
    have c5b1 : (a0_2.toList != a1_2.toList) = false:=bne_eq_false_iff_eq.mpr c5
    clear c5
    replace H:=Option.bind_eq_some_iff.mp H
    obtain ⟨t308,A60,H⟩:=H
    replace H : (if t308 = true then (some true) else (some false)) = some r:=H
    have A6:=Aside0.mk A60
    clear A60
    by_cases c7 : t308 = true
    ·subst c7
     have H1 : (some true) = some r:=by rw [if_pos rfl] at H;exact H
     clear H
     have H:=H1
     clear H1
     obtain rfl:=Option.some.inj H
     go_enter Try.func46,Try.ntmps46
     go_wp2_with (first | ((with_reducible refine gate_dst (N:=2) rfl ?_);refine box_event ?hg (N:=2) ?hd (cs:=#[.int .i64 a0_0,.int .i64 a0_1,.string a0_2,.slice A0_3 l0_3.length c0_3]) (t:=40) ?hr ?_;(case hd => rfl);(case hg => rfl);(case hr => first | (go_simp;done) | (go_simp;rfl));intro gb306 hg w8 hbox hb;have n0_:=Aside0.mk (zS0 HB.out hb);have n1_:=Aside0.mk (hbox);have n2_:=Aside0.mk ((by rw [hg];exact (zZ0 HB.out) : w.heap.size ≤ gb306));have n3_:=Aside0.mk ((by rw [hg];exact (zZ0 HB.out) : w.heap.size ≤ gb306));clear HB;have HB:=n0_;have BK306:=n1_;have GW306:=n2_;have GE306:=n3_;clear n0_ n1_ n2_ n3_;clear hb hbox hg) | ((with_reducible refine gate_dst (N:=3) rfl ?_);refine box_event ?hg (N:=3) ?hd (cs:=#[.int .i64 a1_0,.int .i64 a1_1,.string a1_2,.slice A1_3 l1_3.length c1_3]) (t:=40) ?hr ?_;(case hd => rfl);(case hg => rfl);(case hr => first | (go_simp;done) | (go_simp;rfl));intro gb307 hg w9 hbox hb;have n0_:=Aside0.mk (zB0 BK306.out hb);have n1_:=Aside0.mk (zS0 HB.out hb);have n2_:=Aside0.mk (hbox);have n3_:=Aside0.mk ((by rw [hg];exact (zZ0 HB.out) : w.heap.size ≤ gb307));have n4_:=Aside0.mk ((by rw [hg];exact (zZ0 HB.out) : w.heap.size ≤ gb307));have n5_:=Aside0.mk ((zL0 hg BK306.out : gb306 ≠ gb307));have n6_:=Aside0.mk ((zG0 hg BK306.out : gb307 ≠ gb306));clear BK306;clear HB;have BK306:=n0_;have HB:=n1_;have BK307:=n2_;have GW307:=n3_;have GE307:=n4_;have NB306_307:=n5_;have NB307_306:=n6_;clear n0_ n1_ n2_ n3_ n4_ n5_ n6_;clear hb hbox hg;have hnb10:=NB306_307.out;have hnc10:=NB307_306.out;have hcz11_0 : w9.cell? ⟨gb306,0,none⟩ = some (.int .i64 a0_0):=(blk_cell BK306.out 0).trans rfl;have hcz11_1 : w9.cell? ⟨gb306,1,none⟩ = some (.int .i64 a0_1):=(blk_cell BK306.out 1).trans rfl;have hcz11_2 : w9.cell? ⟨gb306,2,none⟩ = some (.string a0_2):=(blk_cell BK306.out 2).trans rfl;have hcz11_3 : w9.cell? ⟨gb306,3,none⟩ = some (.slice A0_3 l0_3.length c0_3):=(blk_cell BK306.out 3).trans rfl;have hfz11_0:=blk_frozen BK306.out 0;have hfz11_1:=blk_frozen BK306.out 1;have hfz11_2:=blk_frozen BK306.out 2;have hfz11_3:=blk_frozen BK306.out 3;have hcz12_0 : w9.cell? ⟨gb307,0,none⟩ = some (.int .i64 a1_0):=(blk_cell BK307.out 0).trans rfl;have hcz12_1 : w9.cell? ⟨gb307,1,none⟩ = some (.int .i64 a1_1):=(blk_cell BK307.out 1).trans rfl;have hcz12_2 : w9.cell? ⟨gb307,2,none⟩ = some (.string a1_2):=(blk_cell BK307.out 2).trans rfl;have hcz12_3 : w9.cell? ⟨gb307,3,none⟩ = some (.slice A1_3 l1_3.length c1_3):=(blk_cell BK307.out 3).trans rfl;have hfz12_0:=blk_frozen BK307.out 0;have hfz12_1:=blk_frozen BK307.out 1;have hfz12_2:=blk_frozen BK307.out 2;have hfz12_3:=blk_frozen BK307.out 3) | ((with_reducible refine gate_callee (f:=63) rfl ?_);refine goesL_ (some 24) rfl rfl Try.func63 (by kernel_rfl) rfl #[.slice A0_3 l0_3.length c0_3,.slice A1_3 l1_3.length c1_3] rfl zM0 ?_;(with_reducible refine (laws_eqStringS.calls k _ _ l0_3 _ _ l1_3 true _ ?side1 ?side2 ?side3 ?side4 A6.out).mono ?_);(case side1 => repeat (first | exact (Kd.C_below HR0_3.out HB.out) | (with_reducible refine Kd.C_alloc ?_ _) | (with_reducible refine Kd.C_drewN ?_ _) | (with_reducible refine Kd.C_drew ?_)));(case side2 => exact HC0_3.out);(case side3 => repeat (first | exact (Kd.C_below HR1_3.out HB.out) | (with_reducible refine Kd.C_alloc ?_ _) | (with_reducible refine Kd.C_drewN ?_ _) | (with_reducible refine Kd.C_drew ?_)));(case side4 => exact HC1_3.out);rintro e w' ⟨rfl,⟨nd,rfl⟩⟩;refine ⟨_,rfl,?_⟩))
     go_ret
     exact ⟨by first | rfl | (simp [errW_none,errW_some] <;> rfl) | (simp [*,errW_none,errW_some] <;> rfl),by repeat (first | (with_reducible first | exact HB.out | apply below_alloc | apply pw_below_drewN | apply below_drew1 | refine below_set ?_ GE306.out | refine below_set ?_ GE307.out) | exact HB.out)⟩
    ·replace c7:=Bool.eq_false_iff.mpr c7
     subst c7
     have H1 : (some false) = some r:=by rw [if_neg (show ¬ (false = true) by decide)] at H;exact H
     clear H
     have H:=H1
     clear H1
     obtain rfl:=Option.some.inj H
     go_enter Try.func46,Try.ntmps46
     go_wp2_with (first | ((with_reducible refine gate_dst (N:=2) rfl ?_);refine box_event ?hg (N:=2) ?hd (cs:=#[.int .i64 a0_0,.int .i64 a0_1,.string a0_2,.slice A0_3 l0_3.length c0_3]) (t:=40) ?hr ?_;(case hd => rfl);(case hg => rfl);(case hr => first | (go_simp;done) | (go_simp;rfl));intro gb306 hg w13 hbox hb;have n0_:=Aside0.mk (zS0 HB.out hb);have n1_:=Aside0.mk (hbox);have n2_:=Aside0.mk ((by rw [hg];exact (zZ0 HB.out) : w.heap.size ≤ gb306));have n3_:=Aside0.mk ((by rw [hg];exact (zZ0 HB.out) : w.heap.size ≤ gb306));clear HB;have HB:=n0_;have BK306:=n1_;have GW306:=n2_;have GE306:=n3_;clear n0_ n1_ n2_ n3_;clear hb hbox hg) | ((with_reducible refine gate_dst (N:=3) rfl ?_);refine box_event ?hg (N:=3) ?hd (cs:=#[.int .i64 a1_0,.int .i64 a1_1,.string a1_2,.slice A1_3 l1_3.length c1_3]) (t:=40) ?hr ?_;(case hd => rfl);(case hg => rfl);(case hr => first | (go_simp;done) | (go_simp;rfl));intro gb307 hg w14 hbox hb;have n0_:=Aside0.mk (zB0 BK306.out hb);have n1_:=Aside0.mk (zS0 HB.out hb);have n2_:=Aside0.mk (hbox);have n3_:=Aside0.mk ((by rw [hg];exact (zZ0 HB.out) : w.heap.size ≤ gb307));have n4_:=Aside0.mk ((by rw [hg];exact (zZ0 HB.out) : w.heap.size ≤ gb307));have n5_:=Aside0.mk ((zL0 hg BK306.out : gb306 ≠ gb307));have n6_:=Aside0.mk ((zG0 hg BK306.out : gb307 ≠ gb306));clear BK306;clear HB;have BK306:=n0_;have HB:=n1_;have BK307:=n2_;have GW307:=n3_;have GE307:=n4_;have NB306_307:=n5_;have NB307_306:=n6_;clear n0_ n1_ n2_ n3_ n4_ n5_ n6_;clear hb hbox hg;have hnb15:=NB306_307.out;have hnc15:=NB307_306.out;have hcz16_0 : w14.cell? ⟨gb306,0,none⟩ = some (.int .i64 a0_0):=(blk_cell BK306.out 0).trans rfl;have hcz16_1 : w14.cell? ⟨gb306,1,none⟩ = some (.int .i64 a0_1):=(blk_cell BK306.out 1).trans rfl;have hcz16_2 : w14.cell? ⟨gb306,2,none⟩ = some (.string a0_2):=(blk_cell BK306.out 2).trans rfl;have hcz16_3 : w14.cell? ⟨gb306,3,none⟩ = some (.slice A0_3 l0_3.length c0_3):=(blk_cell BK306.out 3).trans rfl;have hfz16_0:=blk_frozen BK306.out 0;have hfz16_1:=blk_frozen BK306.out 1;have hfz16_2:=blk_frozen BK306.out 2;have hfz16_3:=blk_frozen BK306.out 3;have hcz17_0 : w14.cell? ⟨gb307,0,none⟩ = some (.int .i64 a1_0):=(blk_cell BK307.out 0).trans rfl;have hcz17_1 : w14.cell? ⟨gb307,1,none⟩ = some (.int .i64 a1_1):=(blk_cell BK307.out 1).trans rfl;have hcz17_2 : w14.cell? ⟨gb307,2,none⟩ = some (.string a1_2):=(blk_cell BK307.out 2).trans rfl;have hcz17_3 : w14.cell? ⟨gb307,3,none⟩ = some (.slice A1_3 l1_3.length c1_3):=(blk_cell BK307.out 3).trans rfl;have hfz17_0:=blk_frozen BK307.out 0;have hfz17_1:=blk_frozen BK307.out 1;have hfz17_2:=blk_frozen BK307.out 2;have hfz17_3:=blk_frozen BK307.out 3) | ((with_reducible refine gate_callee (f:=63) rfl ?_);refine goesL_ (some 24) rfl rfl Try.func63 (by kernel_rfl) rfl #[.slice A0_3 l0_3.length c0_3,.slice A1_3 l1_3.length c1_3] rfl zM0 ?_;(with_reducible refine (laws_eqStringS.calls k _ _ l0_3 _ _ l1_3 false _ ?side1 ?side2 ?side3 ?side4 A6.out).mono ?_);(case side1 => repeat (first | exact (Kd.C_below HR0_3.out HB.out) | (with_reducible refine Kd.C_alloc ?_ _) | (with_reducible refine Kd.C_drewN ?_ _) | (with_reducible refine Kd.C_drew ?_)));(case side2 => exact HC0_3.out);(case side3 => repeat (first | exact (Kd.C_below HR1_3.out HB.out) | (with_reducible refine Kd.C_alloc ?_ _) | (with_reducible refine Kd.C_drewN ?_ _) | (with_reducible refine Kd.C_drew ?_)));(case side4 => exact HC1_3.out);rintro e w' ⟨rfl,⟨nd,rfl⟩⟩;refine ⟨_,rfl,?_⟩))
     go_ret
     exact ⟨by first | rfl | (simp [errW_none,errW_some] <;> rfl) | (simp [*,errW_none,errW_some] <;> rfl),by repeat (first | (with_reducible first | exact HB.out | apply below_alloc | apply pw_below_drewN | apply below_drew1 | refine below_set ?_ GE306.out | refine below_set ?_ GE307.out) | exact HB.out)⟩
   ·rw [if_neg c5] at H
    have c5b0 : (a0_2.toList == a1_2.toList) = false:=beq_eq_false_iff_ne.mpr c5
    have c5b1 : (a0_2.toList != a1_2.toList) = true:=bne_iff_ne.mpr c5
    obtain rfl:=Option.some.inj H
    go_enter Try.func46,Try.ntmps46
    go_wp2_with (first | ((with_reducible refine gate_dst (N:=2) rfl ?_);refine box_event ?hg (N:=2) ?hd (cs:=#[.int .i64 a0_0,.int .i64 a0_1,.string a0_2,.slice A0_3 l0_3.length c0_3]) (t:=40) ?hr ?_;(case hd => rfl);(case hg => rfl);(case hr => first | (go_simp;done) | (go_simp;rfl));intro gb306 hg w18 hbox hb;have n0_:=Aside0.mk (zS0 HB.out hb);have n1_:=Aside0.mk (hbox);have n2_:=Aside0.mk ((by rw [hg];exact (zZ0 HB.out) : w.heap.size ≤ gb306));have n3_:=Aside0.mk ((by rw [hg];exact (zZ0 HB.out) : w.heap.size ≤ gb306));clear HB;have HB:=n0_;have BK306:=n1_;have GW306:=n2_;have GE306:=n3_;clear n0_ n1_ n2_ n3_;clear hb hbox hg) | ((with_reducible refine gate_dst (N:=3) rfl ?_);refine box_event ?hg (N:=3) ?hd (cs:=#[.int .i64 a1_0,.int .i64 a1_1,.string a1_2,.slice A1_3 l1_3.length c1_3]) (t:=40) ?hr ?_;(case hd => rfl);(case hg => rfl);(case hr => first | (go_simp;done) | (go_simp;rfl));intro gb307 hg w19 hbox hb;have n0_:=Aside0.mk (zB0 BK306.out hb);have n1_:=Aside0.mk (zS0 HB.out hb);have n2_:=Aside0.mk (hbox);have n3_:=Aside0.mk ((by rw [hg];exact (zZ0 HB.out) : w.heap.size ≤ gb307));have n4_:=Aside0.mk ((by rw [hg];exact (zZ0 HB.out) : w.heap.size ≤ gb307));have n5_:=Aside0.mk ((zL0 hg BK306.out : gb306 ≠ gb307));have n6_:=Aside0.mk ((zG0 hg BK306.out : gb307 ≠ gb306));clear BK306;clear HB;have BK306:=n0_;have HB:=n1_;have BK307:=n2_;have GW307:=n3_;have GE307:=n4_;have NB306_307:=n5_;have NB307_306:=n6_;clear n0_ n1_ n2_ n3_ n4_ n5_ n6_;clear hb hbox hg;have hnb20:=NB306_307.out;have hnc20:=NB307_306.out;have hcz21_0 : w19.cell? ⟨gb306,0,none⟩ = some (.int .i64 a0_0):=(blk_cell BK306.out 0).trans rfl;have hcz21_1 : w19.cell? ⟨gb306,1,none⟩ = some (.int .i64 a0_1):=(blk_cell BK306.out 1).trans rfl;have hcz21_2 : w19.cell? ⟨gb306,2,none⟩ = some (.string a0_2):=(blk_cell BK306.out 2).trans rfl;have hcz21_3 : w19.cell? ⟨gb306,3,none⟩ = some (.slice A0_3 l0_3.length c0_3):=(blk_cell BK306.out 3).trans rfl;have hfz21_0:=blk_frozen BK306.out 0;have hfz21_1:=blk_frozen BK306.out 1;have hfz21_2:=blk_frozen BK306.out 2;have hfz21_3:=blk_frozen BK306.out 3;have hcz22_0 : w19.cell? ⟨gb307,0,none⟩ = some (.int .i64 a1_0):=(blk_cell BK307.out 0).trans rfl;have hcz22_1 : w19.cell? ⟨gb307,1,none⟩ = some (.int .i64 a1_1):=(blk_cell BK307.out 1).trans rfl;have hcz22_2 : w19.cell? ⟨gb307,2,none⟩ = some (.string a1_2):=(blk_cell BK307.out 2).trans rfl;have hcz22_3 : w19.cell? ⟨gb307,3,none⟩ = some (.slice A1_3 l1_3.length c1_3):=(blk_cell BK307.out 3).trans rfl;have hfz22_0:=blk_frozen BK307.out 0;have hfz22_1:=blk_frozen BK307.out 1;have hfz22_2:=blk_frozen BK307.out 2;have hfz22_3:=blk_frozen BK307.out 3))
    go_ret
    exact ⟨by first | rfl | (simp [errW_none,errW_some] <;> rfl) | (simp [*,errW_none,errW_some] <;> rfl),by repeat (first | (with_reducible first | exact HB.out | apply below_alloc | apply pw_below_drewN | apply below_drew1 | refine below_set ?_ GE306.out | refine below_set ?_ GE307.out) | exact HB.out)⟩
  ·rw [if_neg c4] at H
   have c4b0 : (a0_1 == a1_1) = false:=beq_eq_false_iff_ne.mpr c4
   have c4b1 : (a0_1 != a1_1) = true:=bne_iff_ne.mpr c4
   obtain rfl:=Option.some.inj H
   go_enter Try.func46,Try.ntmps46
   go_wp2_with (first | ((with_reducible refine gate_dst (N:=2) rfl ?_);refine box_event ?hg (N:=2) ?hd (cs:=#[.int .i64 a0_0,.int .i64 a0_1,.string a0_2,.slice A0_3 l0_3.length c0_3]) (t:=40) ?hr ?_;(case hd => rfl);(case hg => rfl);(case hr => first | (go_simp;done) | (go_simp;rfl));intro gb306 hg w23 hbox hb;have n0_:=Aside0.mk (zS0 HB.out hb);have n1_:=Aside0.mk (hbox);have n2_:=Aside0.mk ((by rw [hg];exact (zZ0 HB.out) : w.heap.size ≤ gb306));have n3_:=Aside0.mk ((by rw [hg];exact (zZ0 HB.out) : w.heap.size ≤ gb306));clear HB;have HB:=n0_;have BK306:=n1_;have GW306:=n2_;have GE306:=n3_;clear n0_ n1_ n2_ n3_;clear hb hbox hg) | ((with_reducible refine gate_dst (N:=3) rfl ?_);refine box_event ?hg (N:=3) ?hd (cs:=#[.int .i64 a1_0,.int .i64 a1_1,.string a1_2,.slice A1_3 l1_3.length c1_3]) (t:=40) ?hr ?_;(case hd => rfl);(case hg => rfl);(case hr => first | (go_simp;done) | (go_simp;rfl));intro gb307 hg w24 hbox hb;have n0_:=Aside0.mk (zB0 BK306.out hb);have n1_:=Aside0.mk (zS0 HB.out hb);have n2_:=Aside0.mk (hbox);have n3_:=Aside0.mk ((by rw [hg];exact (zZ0 HB.out) : w.heap.size ≤ gb307));have n4_:=Aside0.mk ((by rw [hg];exact (zZ0 HB.out) : w.heap.size ≤ gb307));have n5_:=Aside0.mk ((zL0 hg BK306.out : gb306 ≠ gb307));have n6_:=Aside0.mk ((zG0 hg BK306.out : gb307 ≠ gb306));clear BK306;clear HB;have BK306:=n0_;have HB:=n1_;have BK307:=n2_;have GW307:=n3_;have GE307:=n4_;have NB306_307:=n5_;have NB307_306:=n6_;clear n0_ n1_ n2_ n3_ n4_ n5_ n6_;clear hb hbox hg;have hnb25:=NB306_307.out;have hnc25:=NB307_306.out;have hcz26_0 : w24.cell? ⟨gb306,0,none⟩ = some (.int .i64 a0_0):=(blk_cell BK306.out 0).trans rfl;have hcz26_1 : w24.cell? ⟨gb306,1,none⟩ = some (.int .i64 a0_1):=(blk_cell BK306.out 1).trans rfl;have hcz26_2 : w24.cell? ⟨gb306,2,none⟩ = some (.string a0_2):=(blk_cell BK306.out 2).trans rfl;have hcz26_3 : w24.cell? ⟨gb306,3,none⟩ = some (.slice A0_3 l0_3.length c0_3):=(blk_cell BK306.out 3).trans rfl;have hfz26_0:=blk_frozen BK306.out 0;have hfz26_1:=blk_frozen BK306.out 1;have hfz26_2:=blk_frozen BK306.out 2;have hfz26_3:=blk_frozen BK306.out 3;have hcz27_0 : w24.cell? ⟨gb307,0,none⟩ = some (.int .i64 a1_0):=(blk_cell BK307.out 0).trans rfl;have hcz27_1 : w24.cell? ⟨gb307,1,none⟩ = some (.int .i64 a1_1):=(blk_cell BK307.out 1).trans rfl;have hcz27_2 : w24.cell? ⟨gb307,2,none⟩ = some (.string a1_2):=(blk_cell BK307.out 2).trans rfl;have hcz27_3 : w24.cell? ⟨gb307,3,none⟩ = some (.slice A1_3 l1_3.length c1_3):=(blk_cell BK307.out 3).trans rfl;have hfz27_0:=blk_frozen BK307.out 0;have hfz27_1:=blk_frozen BK307.out 1;have hfz27_2:=blk_frozen BK307.out 2;have hfz27_3:=blk_frozen BK307.out 3))
   go_ret
   exact ⟨by first | rfl | (simp [errW_none,errW_some] <;> rfl) | (simp [*,errW_none,errW_some] <;> rfl),by repeat (first | (with_reducible first | exact HB.out | apply below_alloc | apply pw_below_drewN | apply below_drew1 | refine below_set ?_ GE306.out | refine below_set ?_ GE307.out) | exact HB.out)⟩
 ·rw [if_neg c3] at H
  have c3b0 : (a0_0 == a1_0) = false:=beq_eq_false_iff_ne.mpr c3
  have c3b1 : (a0_0 != a1_0) = true:=bne_iff_ne.mpr c3
  obtain rfl:=Option.some.inj H
  go_enter Try.func46,Try.ntmps46
  go_wp2_with (first | ((with_reducible refine gate_dst (N:=2) rfl ?_);refine box_event ?hg (N:=2) ?hd (cs:=#[.int .i64 a0_0,.int .i64 a0_1,.string a0_2,.slice A0_3 l0_3.length c0_3]) (t:=40) ?hr ?_;(case hd => rfl);(case hg => rfl);(case hr => first | (go_simp;done) | (go_simp;rfl));intro gb306 hg w28 hbox hb;have n0_:=Aside0.mk (zS0 HB.out hb);have n1_:=Aside0.mk (hbox);have n2_:=Aside0.mk ((by rw [hg];exact (zZ0 HB.out) : w.heap.size ≤ gb306));have n3_:=Aside0.mk ((by rw [hg];exact (zZ0 HB.out) : w.heap.size ≤ gb306));clear HB;have HB:=n0_;have BK306:=n1_;have GW306:=n2_;have GE306:=n3_;clear n0_ n1_ n2_ n3_;clear hb hbox hg) | ((with_reducible refine gate_dst (N:=3) rfl ?_);refine box_event ?hg (N:=3) ?hd (cs:=#[.int .i64 a1_0,.int .i64 a1_1,.string a1_2,.slice A1_3 l1_3.length c1_3]) (t:=40) ?hr ?_;(case hd => rfl);(case hg => rfl);(case hr => first | (go_simp;done) | (go_simp;rfl));intro gb307 hg w29 hbox hb;have n0_:=Aside0.mk (zB0 BK306.out hb);have n1_:=Aside0.mk (zS0 HB.out hb);have n2_:=Aside0.mk (hbox);have n3_:=Aside0.mk ((by rw [hg];exact (zZ0 HB.out) : w.heap.size ≤ gb307));have n4_:=Aside0.mk ((by rw [hg];exact (zZ0 HB.out) : w.heap.size ≤ gb307));have n5_:=Aside0.mk ((zL0 hg BK306.out : gb306 ≠ gb307));have n6_:=Aside0.mk ((zG0 hg BK306.out : gb307 ≠ gb306));clear BK306;clear HB;have BK306:=n0_;have HB:=n1_;have BK307:=n2_;have GW307:=n3_;have GE307:=n4_;have NB306_307:=n5_;have NB307_306:=n6_;clear n0_ n1_ n2_ n3_ n4_ n5_ n6_;clear hb hbox hg;have hnb30:=NB306_307.out;have hnc30:=NB307_306.out;have hcz31_0 : w29.cell? ⟨gb306,0,none⟩ = some (.int .i64 a0_0):=(blk_cell BK306.out 0).trans rfl;have hcz31_1 : w29.cell? ⟨gb306,1,none⟩ = some (.int .i64 a0_1):=(blk_cell BK306.out 1).trans rfl;have hcz31_2 : w29.cell? ⟨gb306,2,none⟩ = some (.string a0_2):=(blk_cell BK306.out 2).trans rfl;have hcz31_3 : w29.cell? ⟨gb306,3,none⟩ = some (.slice A0_3 l0_3.length c0_3):=(blk_cell BK306.out 3).trans rfl;have hfz31_0:=blk_frozen BK306.out 0;have hfz31_1:=blk_frozen BK306.out 1;have hfz31_2:=blk_frozen BK306.out 2;have hfz31_3:=blk_frozen BK306.out 3;have hcz32_0 : w29.cell? ⟨gb307,0,none⟩ = some (.int .i64 a1_0):=(blk_cell BK307.out 0).trans rfl;have hcz32_1 : w29.cell? ⟨gb307,1,none⟩ = some (.int .i64 a1_1):=(blk_cell BK307.out 1).trans rfl;have hcz32_2 : w29.cell? ⟨gb307,2,none⟩ = some (.string a1_2):=(blk_cell BK307.out 2).trans rfl;have hcz32_3 : w29.cell? ⟨gb307,3,none⟩ = some (.slice A1_3 l1_3.length c1_3):=(blk_cell BK307.out 3).trans rfl;have hfz32_0:=blk_frozen BK307.out 0;have hfz32_1:=blk_frozen BK307.out 1;have hfz32_2:=blk_frozen BK307.out 2;have hfz32_3:=blk_frozen BK307.out 3))
  go_ret
  exact ⟨by first | rfl | (simp [errW_none,errW_some] <;> rfl) | (simp [*,errW_none,errW_some] <;> rfl),by repeat (first | (with_reducible first | exact HB.out | apply below_alloc | apply pw_below_drewN | apply below_drew1 | refine below_set ?_ GE306.out | refine below_set ?_ GE307.out) | exact HB.out)⟩

/-! ### laws_eqEntry: function 26 -/
def laws_eqEntry.f (k : Nat) (a0_0 : ByteArray) (a0_1 : Int) (a0_2 : Int) (a0_3 : ByteArray) (l0_4 : List ByteArray) (a1_0 : ByteArray) (a1_1 : Int) (a1_2 : Int) (a1_3 : ByteArray) (l1_4 : List ByteArray) : Option (Bool):=if a0_0.toList = a1_0.toList then ((laws_eqVal.f k a0_1 a0_2 a0_3 l0_4 a1_1 a1_2 a1_3 l1_4).bind fun t311 => (if t311 = true then (some true) else (some false))) else (some false)
theorem laws_eqEntry.mono : ∀ a0 a1 a2 a3 a4 a5 a6 a7 a8 a9 k,LeO (laws_eqEntry.f k a0 a1 a2 a3 a4 a5 a6 a7 a8 a9) (laws_eqEntry.f (k + 1) a0 a1 a2 a3 a4 a5 a6 a7 a8 a9):=by
 intro a0 a1 a2 a3 a4 a5 a6 a7 a8 a9 k
 unfold laws_eqEntry.f
 repeat' first
   | (with_reducible exact laws_eqVal.mono _ _ _ _ _ _ _ _ _)
   | (with_reducible exact LeO.refl _)
   | (with_reducible exact LeO.none _)
   | (with_reducible refine LeO.ite ?_ ?_)
   | (with_reducible refine LeO.bind ?_ (fun _ => ?_))
   | exact laws_eqVal.mono _ _ _ _ _ _ _ _ _
   | exact LeO.none _
   | refine LeO.ite ?_ ?_
   | refine LeO.bind ?_ (fun _ => ?_)
set_option maxHeartbeats 8000000 in
set_option maxRecDepth 100000 in
theorem laws_eqEntry.calls (k : Nat) (a0_0 : ByteArray) (a0_1 : Int) (a0_2 : Int) (a0_3 : ByteArray) (A0_4 : Option Addr) (c0_4 : Nat) (l0_4 : List ByteArray) (a1_0 : ByteArray) (a1_1 : Int) (a1_2 : Int) (a1_3 : ByteArray) (A1_4 : Option Addr) (c1_4 : Nat) (l1_4 : List ByteArray) (r : Bool) (w : World) (hr0_4 : Kd.C Kd.string w A0_4 l0_4.length l0_4) (hc0_4 : l0_4.length ≤ c0_4) (hr1_4 : Kd.C Kd.string w A1_4 l1_4.length l1_4) (hc1_4 : l1_4.length ≤ c1_4) (h : laws_eqEntry.f k a0_0 a0_1 a0_2 a0_3 l0_4 a1_0 a1_1 a1_2 a1_3 l1_4 = some r) :
  Calls Try.prog 26 #[.agg #[.string a0_0,.int .i64 a0_1,.int .i64 a0_2,.string a0_3,.slice A0_4 l0_4.length c0_4],.agg #[.string a1_0,.int .i64 a1_1,.int .i64 a1_2,.string a1_3,.slice A1_4 l1_4.length c1_4]] w fun e w' => e = .returned (.bool r) ∧ Below w.heap.size w w':=by
 have hu42:=Try.underlying42
 have hu40:=Try.underlying40
 have HR0_4:=Aside0.mk hr0_4
 have HC0_4:=Aside0.mk hc0_4
 clear hr0_4 hc0_4
 have HR1_4:=Aside0.mk hr1_4
 have HC1_4:=Aside0.mk hc1_4
 clear hr1_4 hc1_4
 have HB:=Aside0.mk (Below.refl w.heap.size w)
 have H : (if a0_0.toList = a1_0.toList then ((laws_eqVal.f k a0_1 a0_2 a0_3 l0_4 a1_1 a1_2 a1_3 l1_4).bind fun t311 => (if t311 = true then (some true) else (some false))) else (some false)) = some r:=h
 clear h
 by_cases c3 : a0_0.toList = a1_0.toList
 ·rw [if_pos c3] at H
  have c3b0 : (a0_0.toList == a1_0.toList) = true:=beq_iff_eq.mpr c3
  have c3b1 : (a0_0.toList != a1_0.toList) = false:=bne_eq_false_iff_eq.mpr c3
  clear c3
  replace H:=Option.bind_eq_some_iff.mp H
  obtain ⟨t311,A40,H⟩:=H
  replace H : (if t311 = true then (some true) else (some false)) = some r:=H
  have A4:=Aside0.mk A40
  clear A40
  by_cases c5 : t311 = true
  ·subst c5
   have H1 : (some true) = some r:=by rw [if_pos rfl] at H;exact H
   clear H
   have H:=H1
   clear H1
   obtain rfl:=Option.some.inj H
   go_enter Try.func26,Try.ntmps26
   go_wp2_with (first | ((with_reducible refine gate_dst (N:=2) rfl ?_);refine box_event ?hg (N:=2) ?hd (cs:=#[.string a0_0,.int .i64 a0_1,.int .i64 a0_2,.string a0_3,.slice A0_4 l0_4.length c0_4]) (t:=42) ?hr ?_;(case hd => rfl);(case hg => rfl);(case hr => first | (go_simp;done) | (go_simp;rfl));intro gb309 hg w6 hbox hb;have n0_:=Aside0.mk (zS0 HB.out hb);have n1_:=Aside0.mk (hbox);have n2_:=Aside0.mk ((by rw [hg];exact (zZ0 HB.out) : w.heap.size ≤ gb309));have n3_:=Aside0.mk ((by rw [hg];exact (zZ0 HB.out) : w.heap.size ≤ gb309));clear HB;have HB:=n0_;have BK309:=n1_;have GW309:=n2_;have GE309:=n3_;clear n0_ n1_ n2_ n3_;clear hb hbox hg) | ((with_reducible refine gate_dst (N:=3) rfl ?_);refine box_event ?hg (N:=3) ?hd (cs:=#[.string a1_0,.int .i64 a1_1,.int .i64 a1_2,.string a1_3,.slice A1_4 l1_4.length c1_4]) (t:=42) ?hr ?_;(case hd => rfl);(case hg => rfl);(case hr => first | (go_simp;done) | (go_simp;rfl));intro gb310 hg w7 hbox hb;have n0_:=Aside0.mk (zB0 BK309.out hb);have n1_:=Aside0.mk (zS0 HB.out hb);have n2_:=Aside0.mk (hbox);have n3_:=Aside0.mk ((by rw [hg];exact (zZ0 HB.out) : w.heap.size ≤ gb310));have n4_:=Aside0.mk ((by rw [hg];exact (zZ0 HB.out) : w.heap.size ≤ gb310));have n5_:=Aside0.mk ((zL0 hg BK309.out : gb309 ≠ gb310));have n6_:=Aside0.mk ((zG0 hg BK309.out : gb310 ≠ gb309));clear BK309;clear HB;have BK309:=n0_;have HB:=n1_;have BK310:=n2_;have GW310:=n3_;have GE310:=n4_;have NB309_310:=n5_;have NB310_309:=n6_;clear n0_ n1_ n2_ n3_ n4_ n5_ n6_;clear hb hbox hg;have hnb8:=NB309_310.out;have hnc8:=NB310_309.out;have hcz9_0 : w7.cell? ⟨gb309,0,none⟩ = some (.string a0_0):=(blk_cell BK309.out 0).trans rfl;have hcz9_1 : w7.cell? ⟨gb309,1,none⟩ = some (.int .i64 a0_1):=(blk_cell BK309.out 1).trans rfl;have hcz9_2 : w7.cell? ⟨gb309,2,none⟩ = some (.int .i64 a0_2):=(blk_cell BK309.out 2).trans rfl;have hcz9_3 : w7.cell? ⟨gb309,3,none⟩ = some (.string a0_3):=(blk_cell BK309.out 3).trans rfl;have hcz9_4 : w7.cell? ⟨gb309,4,none⟩ = some (.slice A0_4 l0_4.length c0_4):=(blk_cell BK309.out 4).trans rfl;have hfz9_0:=blk_frozen BK309.out 0;have hfz9_1:=blk_frozen BK309.out 1;have hfz9_2:=blk_frozen BK309.out 2;have hfz9_3:=blk_frozen BK309.out 3;have hfz9_4:=blk_frozen BK309.out 4;have hcz10_0 : w7.cell? ⟨gb310,0,none⟩ = some (.string a1_0):=(blk_cell BK310.out 0).trans rfl;have hcz10_1 : w7.cell? ⟨gb310,1,none⟩ = some (.int .i64 a1_1):=(blk_cell BK310.out 1).trans rfl;have hcz10_2 : w7.cell? ⟨gb310,2,none⟩ = some (.int .i64 a1_2):=(blk_cell BK310.out 2).trans rfl;have hcz10_3 : w7.cell? ⟨gb310,3,none⟩ = some (.string a1_3):=(blk_cell BK310.out 3).trans rfl;have hcz10_4 : w7.cell? ⟨gb310,4,none⟩ = some (.slice A1_4 l1_4.length c1_4):=(blk_cell BK310.out 4).trans rfl;have hfz10_0:=blk_frozen BK310.out 0;have hfz10_1:=blk_frozen BK310.out 1;have hfz10_2:=blk_frozen BK310.out 2;have hfz10_3:=blk_frozen BK310.out 3;have hfz10_4:=blk_frozen BK310.out 4) | ((with_reducible refine gate_callee (f:=46) rfl ?_);refine goesL_ (some 14) rfl rfl Try.func46 (by kernel_rfl) rfl #[.agg #[.int .i64 a0_1,.int .i64 a0_2,.string a0_3,.slice A0_4 l0_4.length c0_4],.agg #[.int .i64 a1_1,.int .i64 a1_2,.string a1_3,.slice A1_4 l1_4.length c1_4]] rfl zM0 ?_;(with_reducible refine (laws_eqVal.calls k a0_1 a0_2 a0_3 _ _ l0_4 a1_1 a1_2 a1_3 _ _ l1_4 true _ ?side1 ?side2 ?side3 ?side4 A4.out).mono ?_);(case side1 => repeat (first | exact (Kd.C_below HR0_4.out HB.out) | (with_reducible refine Kd.C_alloc ?_ _) | (with_reducible refine Kd.C_drewN ?_ _) | (with_reducible refine Kd.C_drew ?_)));(case side2 => exact HC0_4.out);(case side3 => repeat (first | exact (Kd.C_below HR1_4.out HB.out) | (with_reducible refine Kd.C_alloc ?_ _) | (with_reducible refine Kd.C_drewN ?_ _) | (with_reducible refine Kd.C_drew ?_)));(case side4 => exact HC1_4.out);rintro e w11 ⟨rfl,hb⟩;refine ⟨_,rfl,?_⟩;have n0_:=Aside0.mk (zB0 BK309.out hb);have n1_:=Aside0.mk (zB0 BK310.out hb);have n2_:=Aside0.mk (zS0 HB.out hb);clear BK309;clear BK310;clear HB;have BK309:=n0_;have BK310:=n1_;have HB:=n2_;clear n0_ n1_ n2_;(try clear hb);(try clear hb2);(try clear hk);(try clear hi)))
   go_ret
   exact ⟨by first | rfl | (simp [errW_none,errW_some] <;> rfl) | (simp [*,errW_none,errW_some] <;> rfl),by repeat (first | (with_reducible first | exact HB.out | apply below_alloc | apply pw_below_drewN | apply below_drew1 | refine below_set ?_ GE309.out | refine below_set ?_ GE310.out) | exact HB.out)⟩
  ·replace c5:=Bool.eq_false_iff.mpr c5
   subst c5
   have H1 : (some false) = some r:=by rw [if_neg (show ¬ (false = true) by decide)] at H;exact H
   clear H
   have H:=H1
   clear H1
   obtain rfl:=Option.some.inj H
   go_enter Try.func26,Try.ntmps26
   go_wp2_with (first | ((with_reducible refine gate_dst (N:=2) rfl ?_);refine box_event ?hg (N:=2) ?hd (cs:=#[.string a0_0,.int .i64 a0_1,.int .i64 a0_2,.string a0_3,.slice A0_4 l0_4.length c0_4]) (t:=42) ?hr ?_;(case hd => rfl);(case hg => rfl);(case hr => first | (go_simp;done) | (go_simp;rfl));intro gb309 hg w12 hbox hb;have n0_:=Aside0.mk (zS0 HB.out hb);have n1_:=Aside0.mk (hbox);have n2_:=Aside0.mk ((by rw [hg];exact (zZ0 HB.out) : w.heap.size ≤ gb309));have n3_:=Aside0.mk ((by rw [hg];exact (zZ0 HB.out) : w.heap.size ≤ gb309));clear HB;have HB:=n0_;have BK309:=n1_;have GW309:=n2_;have GE309:=n3_;clear n0_ n1_ n2_ n3_;clear hb hbox hg) | ((with_reducible refine gate_dst (N:=3) rfl ?_);refine box_event ?hg (N:=3) ?hd (cs:=#[.string a1_0,.int .i64 a1_1,.int .i64 a1_2,.string a1_3,.slice A1_4 l1_4.length c1_4]) (t:=42) ?hr ?_;(case hd => rfl);(case hg => rfl);(case hr => first | (go_simp;done) | (go_simp;rfl));intro gb310 hg w13 hbox hb;have n0_:=Aside0.mk (zB0 BK309.out hb);have n1_:=Aside0.mk (zS0 HB.out hb);have n2_:=Aside0.mk (hbox);have n3_:=Aside0.mk ((by rw [hg];exact (zZ0 HB.out) : w.heap.size ≤ gb310));have n4_:=Aside0.mk ((by rw [hg];exact (zZ0 HB.out) : w.heap.size ≤ gb310));have n5_:=Aside0.mk ((zL0 hg BK309.out : gb309 ≠ gb310));have n6_:=Aside0.mk ((zG0 hg BK309.out : gb310 ≠ gb309));clear BK309;clear HB;have BK309:=n0_;have HB:=n1_;have BK310:=n2_;have GW310:=n3_;have GE310:=n4_;have NB309_310:=n5_;have NB310_309:=n6_;clear n0_ n1_ n2_ n3_ n4_ n5_ n6_;clear hb hbox hg;have hnb14:=NB309_310.out;have hnc14:=NB310_309.out;have hcz15_0 : w13.cell? ⟨gb309,0,none⟩ = some (.string a0_0):=(blk_cell BK309.out 0).trans rfl;have hcz15_1 : w13.cell? ⟨gb309,1,none⟩ = some (.int .i64 a0_1):=(blk_cell BK309.out 1).trans rfl;have hcz15_2 : w13.cell? ⟨gb309,2,none⟩ = some (.int .i64 a0_2):=(blk_cell BK309.out 2).trans rfl;have hcz15_3 : w13.cell? ⟨gb309,3,none⟩ = some (.string a0_3):=(blk_cell BK309.out 3).trans rfl;have hcz15_4 : w13.cell? ⟨gb309,4,none⟩ = some (.slice A0_4 l0_4.length c0_4):=(blk_cell BK309.out 4).trans rfl;have hfz15_0:=blk_frozen BK309.out 0;have hfz15_1:=blk_frozen BK309.out 1;have hfz15_2:=blk_frozen BK309.out 2;have hfz15_3:=blk_frozen BK309.out 3;have hfz15_4:=blk_frozen BK309.out 4;have hcz16_0 : w13.cell? ⟨gb310,0,none⟩ = some (.string a1_0):=(blk_cell BK310.out 0).trans rfl;have hcz16_1 : w13.cell? ⟨gb310,1,none⟩ = some (.int .i64 a1_1):=(blk_cell BK310.out 1).trans rfl;have hcz16_2 : w13.cell? ⟨gb310,2,none⟩ = some (.int .i64 a1_2):=(blk_cell BK310.out 2).trans rfl;have hcz16_3 : w13.cell? ⟨gb310,3,none⟩ = some (.string a1_3):=(blk_cell BK310.out 3).trans rfl;have hcz16_4 : w13.cell? ⟨gb310,4,none⟩ = some (.slice A1_4 l1_4.length c1_4):=(blk_cell BK310.out 4).trans rfl;have hfz16_0:=blk_frozen BK310.out 0;have hfz16_1:=blk_frozen BK310.out 1;have hfz16_2:=blk_frozen BK310.out 2;have hfz16_3:=blk_frozen BK310.out 3;have hfz16_4:=blk_frozen BK310.out 4) | ((with_reducible refine gate_callee (f:=46) rfl ?_);refine goesL_ (some 14) rfl rfl Try.func46 (by kernel_rfl) rfl #[.agg #[.int .i64 a0_1,.int .i64 a0_2,.string a0_3,.slice A0_4 l0_4.length c0_4],.agg #[.int .i64 a1_1,.int .i64 a1_2,.string a1_3,.slice A1_4 l1_4.length c1_4]] rfl zM0 ?_;(with_reducible refine (laws_eqVal.calls k a0_1 a0_2 a0_3 _ _ l0_4 a1_1 a1_2 a1_3 _ _ l1_4 false _ ?side1 ?side2 ?side3 ?side4 A4.out).mono ?_);(case side1 => repeat (first | exact (Kd.C_below HR0_4.out HB.out) | (with_reducible refine Kd.C_alloc ?_ _) | (with_reducible refine Kd.C_drewN ?_ _) | (with_reducible refine Kd.C_drew ?_)));(case side2 => exact HC0_4.out);(case side3 => repeat (first | exact (Kd.C_below HR1_4.out HB.out) | (with_reducible refine Kd.C_alloc ?_ _) | (with_reducible refine Kd.C_drewN ?_ _) | (with_reducible refine Kd.C_drew ?_)));(case side4 => exact HC1_4.out);rintro e w17 ⟨rfl,hb⟩;refine ⟨_,rfl,?_⟩;have n0_:=Aside0.mk (zB0 BK309.out hb);have n1_:=Aside0.mk (zB0 BK310.out hb);have n2_:=Aside0.mk (zS0 HB.out hb);clear BK309;clear BK310;clear HB;have BK309:=n0_;have BK310:=n1_;have HB:=n2_;clear n0_ n1_ n2_;(try clear hb);(try clear hb2);(try clear hk);(try clear hi)))
   go_ret
   exact ⟨by first | rfl | (simp [errW_none,errW_some] <;> rfl) | (simp [*,errW_none,errW_some] <;> rfl),by repeat (first | (with_reducible first | exact HB.out | apply below_alloc | apply pw_below_drewN | apply below_drew1 | refine below_set ?_ GE309.out | refine below_set ?_ GE310.out) | exact HB.out)⟩
 ·rw [if_neg c3] at H
  have c3b0 : (a0_0.toList == a1_0.toList) = false:=beq_eq_false_iff_ne.mpr c3
  have c3b1 : (a0_0.toList != a1_0.toList) = true:=bne_iff_ne.mpr c3
  obtain rfl:=Option.some.inj H
  go_enter Try.func26,Try.ntmps26
  go_wp2_with (first | ((with_reducible refine gate_dst (N:=2) rfl ?_);refine box_event ?hg (N:=2) ?hd (cs:=#[.string a0_0,.int .i64 a0_1,.int .i64 a0_2,.string a0_3,.slice A0_4 l0_4.length c0_4]) (t:=42) ?hr ?_;(case hd => rfl);(case hg => rfl);(case hr => first | (go_simp;done) | (go_simp;rfl));intro gb309 hg w18 hbox hb;have n0_:=Aside0.mk (zS0 HB.out hb);have n1_:=Aside0.mk (hbox);have n2_:=Aside0.mk ((by rw [hg];exact (zZ0 HB.out) : w.heap.size ≤ gb309));have n3_:=Aside0.mk ((by rw [hg];exact (zZ0 HB.out) : w.heap.size ≤ gb309));clear HB;have HB:=n0_;have BK309:=n1_;have GW309:=n2_;have GE309:=n3_;clear n0_ n1_ n2_ n3_;clear hb hbox hg) | ((with_reducible refine gate_dst (N:=3) rfl ?_);refine box_event ?hg (N:=3) ?hd (cs:=#[.string a1_0,.int .i64 a1_1,.int .i64 a1_2,.string a1_3,.slice A1_4 l1_4.length c1_4]) (t:=42) ?hr ?_;(case hd => rfl);(case hg => rfl);(case hr => first | (go_simp;done) | (go_simp;rfl));intro gb310 hg w19 hbox hb;have n0_:=Aside0.mk (zB0 BK309.out hb);have n1_:=Aside0.mk (zS0 HB.out hb);have n2_:=Aside0.mk (hbox);have n3_:=Aside0.mk ((by rw [hg];exact (zZ0 HB.out) : w.heap.size ≤ gb310));have n4_:=Aside0.mk ((by rw [hg];exact (zZ0 HB.out) : w.heap.size ≤ gb310));have n5_:=Aside0.mk ((zL0 hg BK309.out : gb309 ≠ gb310));have n6_:=Aside0.mk ((zG0 hg BK309.out : gb310 ≠ gb309));clear BK309;clear HB;have BK309:=n0_;have HB:=n1_;have BK310:=n2_;have GW310:=n3_;have GE310:=n4_;have NB309_310:=n5_;have NB310_309:=n6_;clear n0_ n1_ n2_ n3_ n4_ n5_ n6_;clear hb hbox hg;have hnb20:=NB309_310.out;have hnc20:=NB310_309.out;have hcz21_0 : w19.cell? ⟨gb309,0,none⟩ = some (.string a0_0):=(blk_cell BK309.out 0).trans rfl;have hcz21_1 : w19.cell? ⟨gb309,1,none⟩ = some (.int .i64 a0_1):=(blk_cell BK309.out 1).trans rfl;have hcz21_2 : w19.cell? ⟨gb309,2,none⟩ = some (.int .i64 a0_2):=(blk_cell BK309.out 2).trans rfl;have hcz21_3 : w19.cell? ⟨gb309,3,none⟩ = some (.string a0_3):=(blk_cell BK309.out 3).trans rfl;have hcz21_4 : w19.cell? ⟨gb309,4,none⟩ = some (.slice A0_4 l0_4.length c0_4):=(blk_cell BK309.out 4).trans rfl;have hfz21_0:=blk_frozen BK309.out 0;have hfz21_1:=blk_frozen BK309.out 1;have hfz21_2:=blk_frozen BK309.out 2;have hfz21_3:=blk_frozen BK309.out 3;have hfz21_4:=blk_frozen BK309.out 4;have hcz22_0 : w19.cell? ⟨gb310,0,none⟩ = some (.string a1_0):=(blk_cell BK310.out 0).trans rfl;have hcz22_1 : w19.cell? ⟨gb310,1,none⟩ = some (.int .i64 a1_1):=(blk_cell BK310.out 1).trans rfl;have hcz22_2 : w19.cell? ⟨gb310,2,none⟩ = some (.int .i64 a1_2):=(blk_cell BK310.out 2).trans rfl;have hcz22_3 : w19.cell? ⟨gb310,3,none⟩ = some (.string a1_3):=(blk_cell BK310.out 3).trans rfl;have hcz22_4 : w19.cell? ⟨gb310,4,none⟩ = some (.slice A1_4 l1_4.length c1_4):=(blk_cell BK310.out 4).trans rfl;have hfz22_0:=blk_frozen BK310.out 0;have hfz22_1:=blk_frozen BK310.out 1;have hfz22_2:=blk_frozen BK310.out 2;have hfz22_3:=blk_frozen BK310.out 3;have hfz22_4:=blk_frozen BK310.out 4))
  go_ret
  exact ⟨by first | rfl | (simp [errW_none,errW_some] <;> rfl) | (simp [*,errW_none,errW_some] <;> rfl),by repeat (first | (with_reducible first | exact HB.out | apply below_alloc | apply pw_below_drewN | apply below_drew1 | refine below_set ?_ GE309.out | refine below_set ?_ GE310.out) | exact HB.out)⟩

end Go.Proofs.Ytlekhcopddajbaa.PFnExactDiffer
