/- Walks of functions that the law FnExactDiffer reaches, turned by this session from a print of which a part did not build; what was changed is listed in wip/patches of the proofs' repo. -/
import Derived.Test.YtlekhcopddajbaaOFnExactDifferx0
import Derived.Test.YtlekhcopddajbaaOFnExactDifferx15
namespace Go.Proofs.Ytlekhcopddajbaa.PFnExactDiffer
open Go.RowKit Go.Proofs.YtlekhcopddajbaaW.PrintWords Go.Proofs.YtlekhcopddajbaaW.PrintLast Go.Proofs.YtlekhcopddajbaaW.PrintMore
attribute [local go_sem] max2_int min2_int max_two min_two max_three min_three max_four min_four   -- for this text's walks alone
set_option linter.unusedVariables false
set_option linter.unusedSimpArgs false

/-! ### laws_heldChangeS: function 12 -/
def laws_heldChangeS.l0 : Nat → List (S44) → Int → Int → Option (Int)
 | 0,_,_,_ => none
 | k + 1,x0,x1,x5 => if x5 < (x0.length : Int) then (if 0 ≤ x5 then ((laws_markText.f k x1).bind fun t326 => (if ((rd_T44 x0 x5).f0).toList = t326.toList then ((laws_markText.f k (wrap64 (x1 + 1))).bind fun t328 => (if ((rd_T44 x0 x5).f1).toList = t328.toList then (if (((rd_T44 x0 x5).f2) != ((Int.tmod (wrap64 ((wrap64 (x1 + 1)) + 1)) 3) == 0)) = true then (some (-1)) else (laws_heldChangeS.l0 k x0 (wrap64 ((wrap64 ((wrap64 (x1 + 1)) + 1)) + 1)) (wrap64 (x5 + 1)))) else (some (-1)))) else (some (-1)))) else (none)) else (some x1)
def laws_heldChangeS.f (k : Nat) (l0 : List (S44)) (a1 : Int) : Option (Int):=laws_heldChangeS.l0 k l0 a1 0
theorem laws_heldChangeS.mono_l : ∀ k,(∀ y0 y1 y2,LeO (laws_heldChangeS.l0 k y0 y1 y2) (laws_heldChangeS.l0 (k + 1) y0 y1 y2))
 | 0 => fun _ _ _ r h => by simp [laws_heldChangeS.l0] at h
 | k + 1 => by
  have ih0:=laws_heldChangeS.mono_l k
  ·intro y0 y1 y2
   unfold laws_heldChangeS.l0
   repeat' first
   | (with_reducible exact ih0 _ _ _)
   | (with_reducible exact laws_markText.mono _ _)
   | (with_reducible exact LeO.refl _)
   | (with_reducible exact LeO.none _)
   | (with_reducible refine LeO.ite ?_ ?_)
   | (with_reducible refine LeO.bind ?_ (fun _ => ?_))
   | exact ih0 _ _ _
   | exact laws_markText.mono _ _
   | exact LeO.none _
   | refine LeO.ite ?_ ?_
   | refine LeO.bind ?_ (fun _ => ?_)
theorem laws_heldChangeS.mono : ∀ a0 a1 k,LeO (laws_heldChangeS.f k a0 a1) (laws_heldChangeS.f (k + 1) a0 a1):=by
 intro a0 a1 k
 have ih0:=laws_heldChangeS.mono_l k
 unfold laws_heldChangeS.f
 repeat' first
   | (with_reducible exact ih0 _ _ _)
   | (with_reducible exact laws_markText.mono _ _)
   | (with_reducible exact LeO.refl _)
   | (with_reducible exact LeO.none _)
   | (with_reducible refine LeO.ite ?_ ?_)
   | (with_reducible refine LeO.bind ?_ (fun _ => ?_))
   | exact ih0 _ _ _
   | exact laws_markText.mono _ _
   | exact LeO.none _
   | refine LeO.ite ?_ ?_
   | refine LeO.bind ?_ (fun _ => ?_)
def laws_heldChangeS.T4 : Bool × List (List Nat × List Nat):=(true,[([],[]),([],[]),([0,1],[0,1]),([2],[2]),([3],[3]),([],[]),([5],[5]),([4,6],[4,6])])
def laws_heldChangeS.B4 : List Nat:=[0,0,3,7,15,0,32,127]
theorem laws_heldChangeS.tab4 : rtab .any (opsOf Try.f12 4) = laws_heldChangeS.T4:=by kernel_rfl
theorem laws_heldChangeS.bits4 : waitsOk laws_heldChangeS.T4.2 laws_heldChangeS.B4 = true:=by kernel_rfl
def laws_heldChangeS.T7 : Bool × List (List Nat × List Nat):=(true,[([],[]),([],[]),([0,1],[0,1]),([2],[2]),([3],[3]),([],[]),([5],[5]),([4,6],[4,6])])
def laws_heldChangeS.B7 : List Nat:=[0,0,3,7,15,0,32,127]
theorem laws_heldChangeS.tab7 : rtab .any (opsOf Try.f12 7) = laws_heldChangeS.T7:=by kernel_rfl
theorem laws_heldChangeS.bits7 : waitsOk laws_heldChangeS.T7.2 laws_heldChangeS.B7 = true:=by kernel_rfl
set_option maxHeartbeats 8000000 in
set_option maxRecDepth 100000 in
theorem laws_heldChangeS.calls (k : Nat) (A0 : Option Addr) (c0 : Nat) (l0 : List (S44)) (a1 : Int) (r : Int) (w : World) (hr0 : Kd.C k44 w A0 l0.length l0) (hc0 : l0.length ≤ c0) (h : laws_heldChangeS.f k l0 a1 = some r) :
  Calls Try.prog 12 #[.slice A0 l0.length c0,.int .i64 a1] w fun e w' => e = .returned (.int .i64 r) ∧ Below w.heap.size w w':=by
 have HR0:=Aside0.mk hr0
 have HC0:=Aside0.mk hc0
 clear hr0 hc0
 have HB:=Aside0.mk (Below.refl w.heap.size w)
 have H : (laws_heldChangeS.l0 k l0 a1 0) = some r:=h
 clear h
 have H':=Aside0.mk H
 clear H
 go_enter Try.func12,Try.ntmps12
 go_wp2
 go_loopg [1,5] k (fun kq v1 v5 w' => ∃ (x1_1 : Int) (x5_1 : Int),v1 = .int .i64 x1_1 ∧ v5 = .int .i64 x5_1 ∧ Aside0 (laws_heldChangeS.l0 kq l0 x1_1 x5_1 = some r) ∧ Aside0 (kq ≤ k) ∧ Aside0 (Below w.heap.size w w'))
 case atStart => exact ⟨(a1),(0),(by first | rfl | (simp;done) | (simp [*];done)),(by first | rfl | (simp;done) | (simp [*];done)),H',⟨Nat.le_refl _⟩,⟨by repeat (first | (with_reducible first | exact HB.out | apply below_alloc | apply pw_below_drewN | apply below_drew1) | exact HB.out)⟩⟩
 case round =>
  clear H'
  try clear c1
  try clear p2
  obtain ⟨x1_1,x5_1,rfl,rfl,HA,HK1,HB⟩:=hrel
  cases gk with
  | zero => exact absurd HA.out (by simp [laws_heldChangeS.l0])
  | succ k1 =>
   have H:=HA.out
   clear HA
   simp only [laws_heldChangeS.l0] at H
   by_cases c3 : x5_1 < (l0.length : Int)
   ·rw [if_pos c3] at H
    have c3b0 : decide (x5_1 < (l0.length : Int)) = true:=decide_eq_true c3
    clear c3
    by_cases c4 : 0 ≤ x5_1
    ·rw [if_pos c4] at H
     have c4b0 : decide (0 ≤ x5_1) = true:=decide_eq_true c4
     clear c4
     replace H:=Option.bind_eq_some_iff.mp H
     obtain ⟨t326,A50,H⟩:=H
     replace H : (if ((rd_T44 l0 x5_1).f0).toList = t326.toList then ((laws_markText.f k1 (wrap64 (x1_1 + 1))).bind fun t328 => (if ((rd_T44 l0 x5_1).f1).toList = t328.toList then (if (((rd_T44 l0 x5_1).f2) != ((Int.tmod (wrap64 ((wrap64 (x1_1 + 1)) + 1)) 3) == 0)) = true then (some (-1)) else (laws_heldChangeS.l0 k1 l0 (wrap64 ((wrap64 ((wrap64 (x1_1 + 1)) + 1)) + 1)) (wrap64 (x5_1 + 1)))) else (some (-1)))) else (some (-1))) = some r:=H
     have A5:=Aside0.mk A50
     clear A50
     by_cases c6 : ((rd_T44 l0 x5_1).f0).toList = t326.toList
     ·rw [if_pos c6] at H
      have c6b0 : (((rd_T44 l0 x5_1).f0).toList == t326.toList) = true:=beq_iff_eq.mpr c6
      have c6b1 : (((rd_T44 l0 x5_1).f0).toList != t326.toList) = false:=bne_eq_false_iff_eq.mpr c6
      clear c6
      replace H:=Option.bind_eq_some_iff.mp H
      obtain ⟨t328,A70,H⟩:=H
      replace H : (if ((rd_T44 l0 x5_1).f1).toList = t328.toList then (if (((rd_T44 l0 x5_1).f2) != ((Int.tmod (wrap64 ((wrap64 (x1_1 + 1)) + 1)) 3) == 0)) = true then (some (-1)) else (laws_heldChangeS.l0 k1 l0 (wrap64 ((wrap64 ((wrap64 (x1_1 + 1)) + 1)) + 1)) (wrap64 (x5_1 + 1)))) else (some (-1))) = some r:=H
      have A7:=Aside0.mk A70
      clear A70
      by_cases c8 : ((rd_T44 l0 x5_1).f1).toList = t328.toList
      ·rw [if_pos c8] at H
       have c8b0 : (((rd_T44 l0 x5_1).f1).toList == t328.toList) = true:=beq_iff_eq.mpr c8
       have c8b1 : (((rd_T44 l0 x5_1).f1).toList != t328.toList) = false:=bne_eq_false_iff_eq.mpr c8
       clear c8
       by_cases c9 : (((rd_T44 l0 x5_1).f2) != ((Int.tmod (wrap64 ((wrap64 (x1_1 + 1)) + 1)) 3) == 0)) = true
       ·rw [if_pos c9] at H
        have c9b0 : (((rd_T44 l0 x5_1).f2) != ((Int.tmod (wrap64 ((wrap64 (x1_1 + 1)) + 1)) 3) == 0)) = true:=c9
        (try (have c9b1 : decide (((rd_T44 l0 x5_1).f2) = ((Int.tmod (wrap64 ((wrap64 (x1_1 + 1)) + 1)) 3) == 0)) = false:=by simpa using c9))
        (try (have c9b2 : (((rd_T44 l0 x5_1).f2) == ((Int.tmod (wrap64 ((wrap64 (x1_1 + 1)) + 1)) 3) == 0)) = false:=by simpa using c9))
        (try (have c9b3 : ¬ (((rd_T44 l0 x5_1).f2) = ((Int.tmod (wrap64 ((wrap64 (x1_1 + 1)) + 1)) 3) == 0)):=by simpa using c9))
        clear c9
        obtain rfl:=Option.some.inj H
        try go_wp2
        have n0_:=Aside0.mk (below_drew1 HB.out)
        clear HB
        have HB:=n0_
        clear n0_
        have p325 : 0 ≤ (x5_1 : Int):=of_decide_eq_true (by first | (with_reducible assumption) | assumption)
        have q325 : x5_1 < (l0.length : Int):=of_decide_eq_true (by first | (with_reducible assumption) | assumption)
        obtain ⟨ad325,e325,hx325_0,hx325_1,hx325_2⟩:=at_T44 HR0.out x5_1 p325 q325
        have hw325_2:=hx325_2
        have hw325_1:=hx325_1
        have hw325_0:=hx325_0
        cases e325
        replace hx325_0:=(HB.out.cell (World.block_lt_of_cell? w _ hx325_0)).trans hx325_0
        replace hx325_1:=(HB.out.cell (World.block_lt_of_cell? w _ hx325_1)).trans hx325_1
        replace hx325_2:=(HB.out.cell (World.block_lt_of_cell? w _ hx325_2)).trans hx325_2
        replace p325:=eq_true p325
        replace q325:=eq_true q325
        refine start_ (n:=8) (S:=fun w' => w'.cell? (ad325.add ((x5_1).toNat * 3)) = some (.string ((rd_T44 l0 x5_1).f0)) ∧ w'.cell? ⟨(ad325.add ((x5_1).toNat * 3)).block,(ad325.add ((x5_1).toNat * 3)).off + 1,none⟩ = some (.string ((rd_T44 l0 x5_1).f1)) ∧ w'.cell? ⟨(ad325.add ((x5_1).toNat * 3)).block,(ad325.add ((x5_1).toNat * 3)).off + 2,none⟩ = some (.bool ((rd_T44 l0 x5_1).f2))) (ds:=[]) (zF0 8 0) (by kernel_rfl) rfl rfl ⟨((HB.out.cell (World.block_lt_of_cell? w _ hw325_0)).trans hw325_0),((HB.out.cell (World.block_lt_of_cell? w _ hw325_1)).trans hw325_1),((HB.out.cell (World.block_lt_of_cell? w _ hw325_2)).trans hw325_2)⟩ (fun hHeld => ?_);refine with_tabW laws_heldChangeS.tab4 laws_heldChangeS.bits4 (fun HT_ HW_ => ?_)
        generalize wr.drew = w10 at HB hx325_0 hx325_1 hx325_2 hHeld ⊢
        refine zP0 (i:=0) (N:=some 12) (zF0 8 1) rfl rfl HT_.out ?_
        refine zP0 (i:=1) (N:=some 13) (zF0 8 3) rfl rfl HT_.out ?_
        refine zP0 (i:=2) (N:=some 14) (zF0 8 7) rfl rfl HT_.out ?_
        refine zP0 (i:=3) (N:=some 15) (zF0 8 15) rfl rfl HT_.out ?_
        refine zP0 (i:=5) (N:=some 17) (zF0 8 47) rfl rfl HT_.out ?_
        refine take_ (i:=4) (N:=some 16) (v:=?_) (a':=?_) (zF0 8 63) rfl rfl (take_ofW HT_.out HW_.out (by kernel_rfl)) (fun _ _ _ h => h) (Or.inl ⟨by rfl,?_⟩) hHeld ?_ ?_;rotate_left
        ·rintro w' ⟨s0,s1,s2⟩
         go_simp
         with_reducible rfl
        rotate_left
        ·simp only [Act.put,qA0,qB0,qC0,i64_w,i32_w];rfl
        refine one_ (i:=6) (N:=some 18) (zF0 8 127) rfl rfl (one_of HT_.out (by kernel_rfl)) (by decide) (fun K hK => ?_)
        refine goes_ Try.func27 (by kernel_rfl) rfl #[.int .i64 x1_1] (by rfl) rfl rfl zM0 ?_
        with_reducible refine (laws_markText.calls k1 x1_1 t326 _ A5.out).mono ?_
        rintro e w11 ⟨rfl,hb⟩
        refine ⟨_,rfl,?_⟩
        have n0_:=Aside0.mk (zS0 HB.out hb)
        clear HB
        have HB:=n0_
        clear n0_
        (try clear hb)
        (try clear hb2)
        (try clear hk)
        (try clear hi)
        refine hK.out _ _ ⟨((HB.out.cell (World.block_lt_of_cell? w _ hw325_0)).trans hw325_0),((HB.out.cell (World.block_lt_of_cell? w _ hw325_1)).trans hw325_1),((HB.out.cell (World.block_lt_of_cell? w _ hw325_2)).trans hw325_2)⟩ (fun hHeld => ?_)
        clear hK K
        refine norm_ (a':=?_) ?_ ?_;rotate_left
        ·show Act.put _ (some 18) _ = _;simp only [Act.put,qA0,qB0,qC0,i64_w,i32_w];rfl
        refine zP0 (i:=7) (N:=some 19) (zF0 8 255) rfl rfl HT_.out ?_
        refine done_ (done_of HT_.out (by kernel_rfl)) ?_
        try go_wp2
        have n0_:=Aside0.mk (below_drew1 HB.out)
        clear HB
        have HB:=n0_
        clear n0_
        have p327 : 0 ≤ (x5_1 : Int):=of_decide_eq_true (by first | (with_reducible assumption) | assumption)
        have q327 : x5_1 < (l0.length : Int):=of_decide_eq_true (by first | (with_reducible assumption) | assumption)
        obtain ⟨ad327,e327,hx327_0,hx327_1,hx327_2⟩:=at_T44 HR0.out x5_1 p327 q327
        have hw327_2:=hx327_2
        have hw327_1:=hx327_1
        have hw327_0:=hx327_0
        obtain rfl : ad325 = ad327:=(by injection e327)
        replace hx327_0:=(HB.out.cell (World.block_lt_of_cell? w _ hx327_0)).trans hx327_0
        replace hx327_1:=(HB.out.cell (World.block_lt_of_cell? w _ hx327_1)).trans hx327_1
        replace hx327_2:=(HB.out.cell (World.block_lt_of_cell? w _ hx327_2)).trans hx327_2
        replace p327:=eq_true p327
        replace q327:=eq_true q327
        refine start_ (n:=8) (S:=fun w' => w'.cell? (ad325.add ((x5_1).toNat * 3)) = some (.string ((rd_T44 l0 x5_1).f0)) ∧ w'.cell? ⟨(ad325.add ((x5_1).toNat * 3)).block,(ad325.add ((x5_1).toNat * 3)).off + 1,none⟩ = some (.string ((rd_T44 l0 x5_1).f1)) ∧ w'.cell? ⟨(ad325.add ((x5_1).toNat * 3)).block,(ad325.add ((x5_1).toNat * 3)).off + 2,none⟩ = some (.bool ((rd_T44 l0 x5_1).f2))) (ds:=[]) (zF0 8 0) (by kernel_rfl) rfl rfl ⟨((HB.out.cell (World.block_lt_of_cell? w _ hw327_0)).trans hw327_0),((HB.out.cell (World.block_lt_of_cell? w _ hw327_1)).trans hw327_1),((HB.out.cell (World.block_lt_of_cell? w _ hw327_2)).trans hw327_2)⟩ (fun hHeld => ?_);refine with_tabW laws_heldChangeS.tab7 laws_heldChangeS.bits7 (fun HT_ HW_ => ?_)
        generalize w11.drew = w12 at HB hx327_0 hx327_1 hx327_2 hHeld ⊢
        refine zP0 (i:=0) (N:=some 22) (zF0 8 1) rfl rfl HT_.out ?_
        refine zP0 (i:=1) (N:=some 23) (zF0 8 3) rfl rfl HT_.out ?_
        refine zP0 (i:=2) (N:=some 24) (zF0 8 7) rfl rfl HT_.out ?_
        refine zP0 (i:=3) (N:=some 25) (zF0 8 15) rfl rfl HT_.out ?_
        refine zP0 (i:=5) (N:=some 27) (zF0 8 47) rfl rfl HT_.out ?_
        refine take_ (i:=4) (N:=some 26) (v:=?_) (a':=?_) (zF0 8 63) rfl rfl (take_ofW HT_.out HW_.out (by kernel_rfl)) (fun _ _ _ h => h) (Or.inl ⟨by rfl,?_⟩) hHeld ?_ ?_;rotate_left
        ·rintro w' ⟨s0,s1,s2⟩
         go_simp
         with_reducible rfl
        rotate_left
        ·simp only [Act.put,qA0,qB0,qC0,i64_w,i32_w];rfl
        refine one_ (i:=6) (N:=some 28) (zF0 8 127) rfl rfl (one_of HT_.out (by kernel_rfl)) (by decide) (fun K hK => ?_)
        refine goes_ Try.func27 (by kernel_rfl) rfl #[.int .i64 (wrap64 (x1_1 + 1))] (by rfl) rfl rfl zM0 ?_
        with_reducible refine (laws_markText.calls k1 (wrap64 (x1_1 + 1)) t328 _ A7.out).mono ?_
        rintro e w13 ⟨rfl,hb⟩
        refine ⟨_,rfl,?_⟩
        have n0_:=Aside0.mk (zS0 HB.out hb)
        clear HB
        have HB:=n0_
        clear n0_
        (try clear hb)
        (try clear hb2)
        (try clear hk)
        (try clear hi)
        refine hK.out _ _ ⟨((HB.out.cell (World.block_lt_of_cell? w _ hw327_0)).trans hw327_0),((HB.out.cell (World.block_lt_of_cell? w _ hw327_1)).trans hw327_1),((HB.out.cell (World.block_lt_of_cell? w _ hw327_2)).trans hw327_2)⟩ (fun hHeld => ?_)
        clear hK K
        refine norm_ (a':=?_) ?_ ?_;rotate_left
        ·show Act.put _ (some 28) _ = _;simp only [Act.put,qA0,qB0,qC0,i64_w,i32_w];rfl
        refine zP0 (i:=7) (N:=some 29) (zF0 8 255) rfl rfl HT_.out ?_
        refine done_ (done_of HT_.out (by kernel_rfl)) ?_
        have p329 : 0 ≤ (x5_1 : Int):=of_decide_eq_true (by first | (with_reducible assumption) | assumption)
        have q329 : x5_1 < (l0.length : Int):=of_decide_eq_true (by first | (with_reducible assumption) | assumption)
        obtain ⟨ad329,e329,hx329_0,hx329_1,hx329_2⟩:=at_T44 HR0.out x5_1 p329 q329
        obtain rfl : ad325 = ad329:=(by injection e329)
        replace hx329_0:=(HB.out.cell (World.block_lt_of_cell? w _ hx329_0)).trans hx329_0
        replace hx329_1:=(HB.out.cell (World.block_lt_of_cell? w _ hx329_1)).trans hx329_1
        replace hx329_2:=(HB.out.cell (World.block_lt_of_cell? w _ hx329_2)).trans hx329_2
        replace p329:=eq_true p329
        replace q329:=eq_true q329
        try go_wp2
        go_ret
        exact ⟨by first | rfl | (simp [errW_none,errW_some] <;> rfl) | (simp [*,errW_none,errW_some] <;> rfl),by repeat (first | (with_reducible first | exact HB.out | apply below_alloc | apply pw_below_drewN | apply below_drew1) | exact HB.out)⟩
       ·rw [if_neg c9] at H
        have c9b0 : (((rd_T44 l0 x5_1).f2) != ((Int.tmod (wrap64 ((wrap64 (x1_1 + 1)) + 1)) 3) == 0)) = false:=by simpa using c9
        (try (have c9b1 : decide (((rd_T44 l0 x5_1).f2) = ((Int.tmod (wrap64 ((wrap64 (x1_1 + 1)) + 1)) 3) == 0)) = true:=by simpa using c9))
        (try (have c9b2 : (((rd_T44 l0 x5_1).f2) == ((Int.tmod (wrap64 ((wrap64 (x1_1 + 1)) + 1)) 3) == 0)) = true:=by simpa using c9))
        clear c9
        have H':=Aside0.mk H
        clear H
        try go_wp2
        have n0_:=Aside0.mk (below_drew1 HB.out)
        clear HB
        have HB:=n0_
        clear n0_
        have p325 : 0 ≤ (x5_1 : Int):=of_decide_eq_true (by first | (with_reducible assumption) | assumption)
        have q325 : x5_1 < (l0.length : Int):=of_decide_eq_true (by first | (with_reducible assumption) | assumption)
        obtain ⟨ad325,e325,hx325_0,hx325_1,hx325_2⟩:=at_T44 HR0.out x5_1 p325 q325
        have hw325_2:=hx325_2
        have hw325_1:=hx325_1
        have hw325_0:=hx325_0
        cases e325
        replace hx325_0:=(HB.out.cell (World.block_lt_of_cell? w _ hx325_0)).trans hx325_0
        replace hx325_1:=(HB.out.cell (World.block_lt_of_cell? w _ hx325_1)).trans hx325_1
        replace hx325_2:=(HB.out.cell (World.block_lt_of_cell? w _ hx325_2)).trans hx325_2
        replace p325:=eq_true p325
        replace q325:=eq_true q325
        refine start_ (n:=8) (S:=fun w' => w'.cell? (ad325.add ((x5_1).toNat * 3)) = some (.string ((rd_T44 l0 x5_1).f0)) ∧ w'.cell? ⟨(ad325.add ((x5_1).toNat * 3)).block,(ad325.add ((x5_1).toNat * 3)).off + 1,none⟩ = some (.string ((rd_T44 l0 x5_1).f1)) ∧ w'.cell? ⟨(ad325.add ((x5_1).toNat * 3)).block,(ad325.add ((x5_1).toNat * 3)).off + 2,none⟩ = some (.bool ((rd_T44 l0 x5_1).f2))) (ds:=[]) (zF0 8 0) (by kernel_rfl) rfl rfl ⟨((HB.out.cell (World.block_lt_of_cell? w _ hw325_0)).trans hw325_0),((HB.out.cell (World.block_lt_of_cell? w _ hw325_1)).trans hw325_1),((HB.out.cell (World.block_lt_of_cell? w _ hw325_2)).trans hw325_2)⟩ (fun hHeld => ?_);refine with_tabW laws_heldChangeS.tab4 laws_heldChangeS.bits4 (fun HT_ HW_ => ?_)
        generalize wr.drew = w14 at HB hx325_0 hx325_1 hx325_2 hHeld ⊢
        refine zP0 (i:=0) (N:=some 12) (zF0 8 1) rfl rfl HT_.out ?_
        refine zP0 (i:=1) (N:=some 13) (zF0 8 3) rfl rfl HT_.out ?_
        refine zP0 (i:=2) (N:=some 14) (zF0 8 7) rfl rfl HT_.out ?_
        refine zP0 (i:=3) (N:=some 15) (zF0 8 15) rfl rfl HT_.out ?_
        refine zP0 (i:=5) (N:=some 17) (zF0 8 47) rfl rfl HT_.out ?_
        refine take_ (i:=4) (N:=some 16) (v:=?_) (a':=?_) (zF0 8 63) rfl rfl (take_ofW HT_.out HW_.out (by kernel_rfl)) (fun _ _ _ h => h) (Or.inl ⟨by rfl,?_⟩) hHeld ?_ ?_;rotate_left
        ·rintro w' ⟨s0,s1,s2⟩
         go_simp
         with_reducible rfl
        rotate_left
        ·simp only [Act.put,qA0,qB0,qC0,i64_w,i32_w];rfl
        refine one_ (i:=6) (N:=some 18) (zF0 8 127) rfl rfl (one_of HT_.out (by kernel_rfl)) (by decide) (fun K hK => ?_)
        refine goes_ Try.func27 (by kernel_rfl) rfl #[.int .i64 x1_1] (by rfl) rfl rfl zM0 ?_
        with_reducible refine (laws_markText.calls k1 x1_1 t326 _ A5.out).mono ?_
        rintro e w15 ⟨rfl,hb⟩
        refine ⟨_,rfl,?_⟩
        have n0_:=Aside0.mk (zS0 HB.out hb)
        clear HB
        have HB:=n0_
        clear n0_
        (try clear hb)
        (try clear hb2)
        (try clear hk)
        (try clear hi)
        refine hK.out _ _ ⟨((HB.out.cell (World.block_lt_of_cell? w _ hw325_0)).trans hw325_0),((HB.out.cell (World.block_lt_of_cell? w _ hw325_1)).trans hw325_1),((HB.out.cell (World.block_lt_of_cell? w _ hw325_2)).trans hw325_2)⟩ (fun hHeld => ?_)
        clear hK K
        refine norm_ (a':=?_) ?_ ?_;rotate_left
        ·show Act.put _ (some 18) _ = _;simp only [Act.put,qA0,qB0,qC0,i64_w,i32_w];rfl
        refine zP0 (i:=7) (N:=some 19) (zF0 8 255) rfl rfl HT_.out ?_
        refine done_ (done_of HT_.out (by kernel_rfl)) ?_
        try go_wp2
        have n0_:=Aside0.mk (below_drew1 HB.out)
        clear HB
        have HB:=n0_
        clear n0_
        have p327 : 0 ≤ (x5_1 : Int):=of_decide_eq_true (by first | (with_reducible assumption) | assumption)
        have q327 : x5_1 < (l0.length : Int):=of_decide_eq_true (by first | (with_reducible assumption) | assumption)
        obtain ⟨ad327,e327,hx327_0,hx327_1,hx327_2⟩:=at_T44 HR0.out x5_1 p327 q327
        have hw327_2:=hx327_2
        have hw327_1:=hx327_1
        have hw327_0:=hx327_0
        obtain rfl : ad325 = ad327:=(by injection e327)
        replace hx327_0:=(HB.out.cell (World.block_lt_of_cell? w _ hx327_0)).trans hx327_0
        replace hx327_1:=(HB.out.cell (World.block_lt_of_cell? w _ hx327_1)).trans hx327_1
        replace hx327_2:=(HB.out.cell (World.block_lt_of_cell? w _ hx327_2)).trans hx327_2
        replace p327:=eq_true p327
        replace q327:=eq_true q327
        refine start_ (n:=8) (S:=fun w' => w'.cell? (ad325.add ((x5_1).toNat * 3)) = some (.string ((rd_T44 l0 x5_1).f0)) ∧ w'.cell? ⟨(ad325.add ((x5_1).toNat * 3)).block,(ad325.add ((x5_1).toNat * 3)).off + 1,none⟩ = some (.string ((rd_T44 l0 x5_1).f1)) ∧ w'.cell? ⟨(ad325.add ((x5_1).toNat * 3)).block,(ad325.add ((x5_1).toNat * 3)).off + 2,none⟩ = some (.bool ((rd_T44 l0 x5_1).f2))) (ds:=[]) (zF0 8 0) (by kernel_rfl) rfl rfl ⟨((HB.out.cell (World.block_lt_of_cell? w _ hw327_0)).trans hw327_0),((HB.out.cell (World.block_lt_of_cell? w _ hw327_1)).trans hw327_1),((HB.out.cell (World.block_lt_of_cell? w _ hw327_2)).trans hw327_2)⟩ (fun hHeld => ?_);refine with_tabW laws_heldChangeS.tab7 laws_heldChangeS.bits7 (fun HT_ HW_ => ?_)
        generalize w15.drew = w16 at HB hx327_0 hx327_1 hx327_2 hHeld ⊢
        refine zP0 (i:=0) (N:=some 22) (zF0 8 1) rfl rfl HT_.out ?_
        refine zP0 (i:=1) (N:=some 23) (zF0 8 3) rfl rfl HT_.out ?_
        refine zP0 (i:=2) (N:=some 24) (zF0 8 7) rfl rfl HT_.out ?_
        refine zP0 (i:=3) (N:=some 25) (zF0 8 15) rfl rfl HT_.out ?_
        refine zP0 (i:=5) (N:=some 27) (zF0 8 47) rfl rfl HT_.out ?_
        refine take_ (i:=4) (N:=some 26) (v:=?_) (a':=?_) (zF0 8 63) rfl rfl (take_ofW HT_.out HW_.out (by kernel_rfl)) (fun _ _ _ h => h) (Or.inl ⟨by rfl,?_⟩) hHeld ?_ ?_;rotate_left
        ·rintro w' ⟨s0,s1,s2⟩
         go_simp
         with_reducible rfl
        rotate_left
        ·simp only [Act.put,qA0,qB0,qC0,i64_w,i32_w];rfl
        refine one_ (i:=6) (N:=some 28) (zF0 8 127) rfl rfl (one_of HT_.out (by kernel_rfl)) (by decide) (fun K hK => ?_)
        refine goes_ Try.func27 (by kernel_rfl) rfl #[.int .i64 (wrap64 (x1_1 + 1))] (by rfl) rfl rfl zM0 ?_
        with_reducible refine (laws_markText.calls k1 (wrap64 (x1_1 + 1)) t328 _ A7.out).mono ?_
        rintro e w17 ⟨rfl,hb⟩
        refine ⟨_,rfl,?_⟩
        have n0_:=Aside0.mk (zS0 HB.out hb)
        clear HB
        have HB:=n0_
        clear n0_
        (try clear hb)
        (try clear hb2)
        (try clear hk)
        (try clear hi)
        refine hK.out _ _ ⟨((HB.out.cell (World.block_lt_of_cell? w _ hw327_0)).trans hw327_0),((HB.out.cell (World.block_lt_of_cell? w _ hw327_1)).trans hw327_1),((HB.out.cell (World.block_lt_of_cell? w _ hw327_2)).trans hw327_2)⟩ (fun hHeld => ?_)
        clear hK K
        refine norm_ (a':=?_) ?_ ?_;rotate_left
        ·show Act.put _ (some 28) _ = _;simp only [Act.put,qA0,qB0,qC0,i64_w,i32_w];rfl
        refine zP0 (i:=7) (N:=some 29) (zF0 8 255) rfl rfl HT_.out ?_
        refine done_ (done_of HT_.out (by kernel_rfl)) ?_
        have p329 : 0 ≤ (x5_1 : Int):=of_decide_eq_true (by first | (with_reducible assumption) | assumption)
        have q329 : x5_1 < (l0.length : Int):=of_decide_eq_true (by first | (with_reducible assumption) | assumption)
        obtain ⟨ad329,e329,hx329_0,hx329_1,hx329_2⟩:=at_T44 HR0.out x5_1 p329 q329
        obtain rfl : ad325 = ad329:=(by injection e329)
        replace hx329_0:=(HB.out.cell (World.block_lt_of_cell? w _ hx329_0)).trans hx329_0
        replace hx329_1:=(HB.out.cell (World.block_lt_of_cell? w _ hx329_1)).trans hx329_1
        replace hx329_2:=(HB.out.cell (World.block_lt_of_cell? w _ hx329_2)).trans hx329_2
        replace p329:=eq_true p329
        replace q329:=eq_true q329
        try go_wp2
        go_roundg k1
        case measure => have:=HK1.out;omega
        case rel => exact ⟨(wrap64 ((wrap64 ((wrap64 (x1_1 + 1)) + 1)) + 1)),(wrap64 (x5_1 + 1)),(by first | rfl | (simp;done) | (simp [*];done)),(by first | rfl | (simp;done) | (simp [*];done)),H',⟨by have:=HK1.out;omega⟩,⟨by repeat (first | (with_reducible first | exact HB.out | apply below_alloc | apply pw_below_drewN | apply below_drew1) | exact HB.out)⟩⟩
      ·rw [if_neg c8] at H
       have c8b0 : (((rd_T44 l0 x5_1).f1).toList == t328.toList) = false:=beq_eq_false_iff_ne.mpr c8
       have c8b1 : (((rd_T44 l0 x5_1).f1).toList != t328.toList) = true:=bne_iff_ne.mpr c8
       obtain rfl:=Option.some.inj H
       try go_wp2
       have n0_:=Aside0.mk (below_drew1 HB.out)
       clear HB
       have HB:=n0_
       clear n0_
       have p325 : 0 ≤ (x5_1 : Int):=of_decide_eq_true (by first | (with_reducible assumption) | assumption)
       have q325 : x5_1 < (l0.length : Int):=of_decide_eq_true (by first | (with_reducible assumption) | assumption)
       obtain ⟨ad325,e325,hx325_0,hx325_1,hx325_2⟩:=at_T44 HR0.out x5_1 p325 q325
       have hw325_2:=hx325_2
       have hw325_1:=hx325_1
       have hw325_0:=hx325_0
       cases e325
       replace hx325_0:=(HB.out.cell (World.block_lt_of_cell? w _ hx325_0)).trans hx325_0
       replace hx325_1:=(HB.out.cell (World.block_lt_of_cell? w _ hx325_1)).trans hx325_1
       replace hx325_2:=(HB.out.cell (World.block_lt_of_cell? w _ hx325_2)).trans hx325_2
       replace p325:=eq_true p325
       replace q325:=eq_true q325
       refine start_ (n:=8) (S:=fun w' => w'.cell? (ad325.add ((x5_1).toNat * 3)) = some (.string ((rd_T44 l0 x5_1).f0)) ∧ w'.cell? ⟨(ad325.add ((x5_1).toNat * 3)).block,(ad325.add ((x5_1).toNat * 3)).off + 1,none⟩ = some (.string ((rd_T44 l0 x5_1).f1)) ∧ w'.cell? ⟨(ad325.add ((x5_1).toNat * 3)).block,(ad325.add ((x5_1).toNat * 3)).off + 2,none⟩ = some (.bool ((rd_T44 l0 x5_1).f2))) (ds:=[]) (zF0 8 0) (by kernel_rfl) rfl rfl ⟨((HB.out.cell (World.block_lt_of_cell? w _ hw325_0)).trans hw325_0),((HB.out.cell (World.block_lt_of_cell? w _ hw325_1)).trans hw325_1),((HB.out.cell (World.block_lt_of_cell? w _ hw325_2)).trans hw325_2)⟩ (fun hHeld => ?_);refine with_tabW laws_heldChangeS.tab4 laws_heldChangeS.bits4 (fun HT_ HW_ => ?_)
       generalize wr.drew = w18 at HB hx325_0 hx325_1 hx325_2 hHeld ⊢
       refine zP0 (i:=0) (N:=some 12) (zF0 8 1) rfl rfl HT_.out ?_
       refine zP0 (i:=1) (N:=some 13) (zF0 8 3) rfl rfl HT_.out ?_
       refine zP0 (i:=2) (N:=some 14) (zF0 8 7) rfl rfl HT_.out ?_
       refine zP0 (i:=3) (N:=some 15) (zF0 8 15) rfl rfl HT_.out ?_
       refine zP0 (i:=5) (N:=some 17) (zF0 8 47) rfl rfl HT_.out ?_
       refine take_ (i:=4) (N:=some 16) (v:=?_) (a':=?_) (zF0 8 63) rfl rfl (take_ofW HT_.out HW_.out (by kernel_rfl)) (fun _ _ _ h => h) (Or.inl ⟨by rfl,?_⟩) hHeld ?_ ?_;rotate_left
       ·rintro w' ⟨s0,s1,s2⟩
        go_simp
        with_reducible rfl
       rotate_left
       ·simp only [Act.put,qA0,qB0,qC0,i64_w,i32_w];rfl
       refine one_ (i:=6) (N:=some 18) (zF0 8 127) rfl rfl (one_of HT_.out (by kernel_rfl)) (by decide) (fun K hK => ?_)
       refine goes_ Try.func27 (by kernel_rfl) rfl #[.int .i64 x1_1] (by rfl) rfl rfl zM0 ?_
       with_reducible refine (laws_markText.calls k1 x1_1 t326 _ A5.out).mono ?_
       rintro e w19 ⟨rfl,hb⟩
       refine ⟨_,rfl,?_⟩
       have n0_:=Aside0.mk (zS0 HB.out hb)
       clear HB
       have HB:=n0_
       clear n0_
       (try clear hb)
       (try clear hb2)
       (try clear hk)
       (try clear hi)
       refine hK.out _ _ ⟨((HB.out.cell (World.block_lt_of_cell? w _ hw325_0)).trans hw325_0),((HB.out.cell (World.block_lt_of_cell? w _ hw325_1)).trans hw325_1),((HB.out.cell (World.block_lt_of_cell? w _ hw325_2)).trans hw325_2)⟩ (fun hHeld => ?_)
       clear hK K
       refine norm_ (a':=?_) ?_ ?_;rotate_left
       ·show Act.put _ (some 18) _ = _;simp only [Act.put,qA0,qB0,qC0,i64_w,i32_w];rfl
       refine zP0 (i:=7) (N:=some 19) (zF0 8 255) rfl rfl HT_.out ?_
       refine done_ (done_of HT_.out (by kernel_rfl)) ?_
       try go_wp2
       have n0_:=Aside0.mk (below_drew1 HB.out)
       clear HB
       have HB:=n0_
       clear n0_
       have p327 : 0 ≤ (x5_1 : Int):=of_decide_eq_true (by first | (with_reducible assumption) | assumption)
       have q327 : x5_1 < (l0.length : Int):=of_decide_eq_true (by first | (with_reducible assumption) | assumption)
       obtain ⟨ad327,e327,hx327_0,hx327_1,hx327_2⟩:=at_T44 HR0.out x5_1 p327 q327
       have hw327_2:=hx327_2
       have hw327_1:=hx327_1
       have hw327_0:=hx327_0
       obtain rfl : ad325 = ad327:=(by injection e327)
       replace hx327_0:=(HB.out.cell (World.block_lt_of_cell? w _ hx327_0)).trans hx327_0
       replace hx327_1:=(HB.out.cell (World.block_lt_of_cell? w _ hx327_1)).trans hx327_1
       replace hx327_2:=(HB.out.cell (World.block_lt_of_cell? w _ hx327_2)).trans hx327_2
       replace p327:=eq_true p327
       replace q327:=eq_true q327
       refine start_ (n:=8) (S:=fun w' => w'.cell? (ad325.add ((x5_1).toNat * 3)) = some (.string ((rd_T44 l0 x5_1).f0)) ∧ w'.cell? ⟨(ad325.add ((x5_1).toNat * 3)).block,(ad325.add ((x5_1).toNat * 3)).off + 1,none⟩ = some (.string ((rd_T44 l0 x5_1).f1)) ∧ w'.cell? ⟨(ad325.add ((x5_1).toNat * 3)).block,(ad325.add ((x5_1).toNat * 3)).off + 2,none⟩ = some (.bool ((rd_T44 l0 x5_1).f2))) (ds:=[]) (zF0 8 0) (by kernel_rfl) rfl rfl ⟨((HB.out.cell (World.block_lt_of_cell? w _ hw327_0)).trans hw327_0),((HB.out.cell (World.block_lt_of_cell? w _ hw327_1)).trans hw327_1),((HB.out.cell (World.block_lt_of_cell? w _ hw327_2)).trans hw327_2)⟩ (fun hHeld => ?_);refine with_tabW laws_heldChangeS.tab7 laws_heldChangeS.bits7 (fun HT_ HW_ => ?_)
       generalize w19.drew = w20 at HB hx327_0 hx327_1 hx327_2 hHeld ⊢
       refine zP0 (i:=0) (N:=some 22) (zF0 8 1) rfl rfl HT_.out ?_
       refine zP0 (i:=1) (N:=some 23) (zF0 8 3) rfl rfl HT_.out ?_
       refine zP0 (i:=2) (N:=some 24) (zF0 8 7) rfl rfl HT_.out ?_
       refine zP0 (i:=3) (N:=some 25) (zF0 8 15) rfl rfl HT_.out ?_
       refine zP0 (i:=5) (N:=some 27) (zF0 8 47) rfl rfl HT_.out ?_
       refine take_ (i:=4) (N:=some 26) (v:=?_) (a':=?_) (zF0 8 63) rfl rfl (take_ofW HT_.out HW_.out (by kernel_rfl)) (fun _ _ _ h => h) (Or.inl ⟨by rfl,?_⟩) hHeld ?_ ?_;rotate_left
       ·rintro w' ⟨s0,s1,s2⟩
        go_simp
        with_reducible rfl
       rotate_left
       ·simp only [Act.put,qA0,qB0,qC0,i64_w,i32_w];rfl
       refine one_ (i:=6) (N:=some 28) (zF0 8 127) rfl rfl (one_of HT_.out (by kernel_rfl)) (by decide) (fun K hK => ?_)
       refine goes_ Try.func27 (by kernel_rfl) rfl #[.int .i64 (wrap64 (x1_1 + 1))] (by rfl) rfl rfl zM0 ?_
       with_reducible refine (laws_markText.calls k1 (wrap64 (x1_1 + 1)) t328 _ A7.out).mono ?_
       rintro e w21 ⟨rfl,hb⟩
       refine ⟨_,rfl,?_⟩
       have n0_:=Aside0.mk (zS0 HB.out hb)
       clear HB
       have HB:=n0_
       clear n0_
       (try clear hb)
       (try clear hb2)
       (try clear hk)
       (try clear hi)
       refine hK.out _ _ ⟨((HB.out.cell (World.block_lt_of_cell? w _ hw327_0)).trans hw327_0),((HB.out.cell (World.block_lt_of_cell? w _ hw327_1)).trans hw327_1),((HB.out.cell (World.block_lt_of_cell? w _ hw327_2)).trans hw327_2)⟩ (fun hHeld => ?_)
       clear hK K
       refine norm_ (a':=?_) ?_ ?_;rotate_left
       ·show Act.put _ (some 28) _ = _;simp only [Act.put,qA0,qB0,qC0,i64_w,i32_w];rfl
       refine zP0 (i:=7) (N:=some 29) (zF0 8 255) rfl rfl HT_.out ?_
       refine done_ (done_of HT_.out (by kernel_rfl)) ?_
       try go_wp2
       go_ret
       exact ⟨by first | rfl | (simp [errW_none,errW_some] <;> rfl) | (simp [*,errW_none,errW_some] <;> rfl),by repeat (first | (with_reducible first | exact HB.out | apply below_alloc | apply pw_below_drewN | apply below_drew1) | exact HB.out)⟩
     ·rw [if_neg c6] at H
      have c6b0 : (((rd_T44 l0 x5_1).f0).toList == t326.toList) = false:=beq_eq_false_iff_ne.mpr c6
      have c6b1 : (((rd_T44 l0 x5_1).f0).toList != t326.toList) = true:=bne_iff_ne.mpr c6
      obtain rfl:=Option.some.inj H
      try go_wp2
      have n0_:=Aside0.mk (below_drew1 HB.out)
      clear HB
      have HB:=n0_
      clear n0_
      have p325 : 0 ≤ (x5_1 : Int):=of_decide_eq_true (by first | (with_reducible assumption) | assumption)
      have q325 : x5_1 < (l0.length : Int):=of_decide_eq_true (by first | (with_reducible assumption) | assumption)
      obtain ⟨ad325,e325,hx325_0,hx325_1,hx325_2⟩:=at_T44 HR0.out x5_1 p325 q325
      have hw325_2:=hx325_2
      have hw325_1:=hx325_1
      have hw325_0:=hx325_0
      cases e325
      replace hx325_0:=(HB.out.cell (World.block_lt_of_cell? w _ hx325_0)).trans hx325_0
      replace hx325_1:=(HB.out.cell (World.block_lt_of_cell? w _ hx325_1)).trans hx325_1
      replace hx325_2:=(HB.out.cell (World.block_lt_of_cell? w _ hx325_2)).trans hx325_2
      replace p325:=eq_true p325
      replace q325:=eq_true q325
      refine start_ (n:=8) (S:=fun w' => w'.cell? (ad325.add ((x5_1).toNat * 3)) = some (.string ((rd_T44 l0 x5_1).f0)) ∧ w'.cell? ⟨(ad325.add ((x5_1).toNat * 3)).block,(ad325.add ((x5_1).toNat * 3)).off + 1,none⟩ = some (.string ((rd_T44 l0 x5_1).f1)) ∧ w'.cell? ⟨(ad325.add ((x5_1).toNat * 3)).block,(ad325.add ((x5_1).toNat * 3)).off + 2,none⟩ = some (.bool ((rd_T44 l0 x5_1).f2))) (ds:=[]) (zF0 8 0) (by kernel_rfl) rfl rfl ⟨((HB.out.cell (World.block_lt_of_cell? w _ hw325_0)).trans hw325_0),((HB.out.cell (World.block_lt_of_cell? w _ hw325_1)).trans hw325_1),((HB.out.cell (World.block_lt_of_cell? w _ hw325_2)).trans hw325_2)⟩ (fun hHeld => ?_);refine with_tabW laws_heldChangeS.tab4 laws_heldChangeS.bits4 (fun HT_ HW_ => ?_)
      generalize wr.drew = w22 at HB hx325_0 hx325_1 hx325_2 hHeld ⊢
      refine zP0 (i:=0) (N:=some 12) (zF0 8 1) rfl rfl HT_.out ?_
      refine zP0 (i:=1) (N:=some 13) (zF0 8 3) rfl rfl HT_.out ?_
      refine zP0 (i:=2) (N:=some 14) (zF0 8 7) rfl rfl HT_.out ?_
      refine zP0 (i:=3) (N:=some 15) (zF0 8 15) rfl rfl HT_.out ?_
      refine zP0 (i:=5) (N:=some 17) (zF0 8 47) rfl rfl HT_.out ?_
      refine take_ (i:=4) (N:=some 16) (v:=?_) (a':=?_) (zF0 8 63) rfl rfl (take_ofW HT_.out HW_.out (by kernel_rfl)) (fun _ _ _ h => h) (Or.inl ⟨by rfl,?_⟩) hHeld ?_ ?_;rotate_left
      ·rintro w' ⟨s0,s1,s2⟩
       go_simp
       with_reducible rfl
      rotate_left
      ·simp only [Act.put,qA0,qB0,qC0,i64_w,i32_w];rfl
      refine one_ (i:=6) (N:=some 18) (zF0 8 127) rfl rfl (one_of HT_.out (by kernel_rfl)) (by decide) (fun K hK => ?_)
      refine goes_ Try.func27 (by kernel_rfl) rfl #[.int .i64 x1_1] (by rfl) rfl rfl zM0 ?_
      with_reducible refine (laws_markText.calls k1 x1_1 t326 _ A5.out).mono ?_
      rintro e w23 ⟨rfl,hb⟩
      refine ⟨_,rfl,?_⟩
      have n0_:=Aside0.mk (zS0 HB.out hb)
      clear HB
      have HB:=n0_
      clear n0_
      (try clear hb)
      (try clear hb2)
      (try clear hk)
      (try clear hi)
      refine hK.out _ _ ⟨((HB.out.cell (World.block_lt_of_cell? w _ hw325_0)).trans hw325_0),((HB.out.cell (World.block_lt_of_cell? w _ hw325_1)).trans hw325_1),((HB.out.cell (World.block_lt_of_cell? w _ hw325_2)).trans hw325_2)⟩ (fun hHeld => ?_)
      clear hK K
      refine norm_ (a':=?_) ?_ ?_;rotate_left
      ·show Act.put _ (some 18) _ = _;simp only [Act.put,qA0,qB0,qC0,i64_w,i32_w];rfl
      refine zP0 (i:=7) (N:=some 19) (zF0 8 255) rfl rfl HT_.out ?_
      refine done_ (done_of HT_.out (by kernel_rfl)) ?_
      try go_wp2
      go_ret
      exact ⟨by first | rfl | (simp [errW_none,errW_some] <;> rfl) | (simp [*,errW_none,errW_some] <;> rfl),by repeat (first | (with_reducible first | exact HB.out | apply below_alloc | apply pw_below_drewN | apply below_drew1) | exact HB.out)⟩
    ·rw [if_neg c4] at H
     exact absurd H (by simp)
   ·rw [if_neg c3] at H
    have c3b0 : decide (x5_1 < (l0.length : Int)) = false:=decide_eq_false c3
    clear c3
    obtain rfl:=Option.some.inj H
    go_wp2
    go_ret
    exact ⟨by first | rfl | (simp [errW_none,errW_some] <;> rfl) | (simp [*,errW_none,errW_some] <;> rfl),by repeat (first | (with_reducible first | exact HB.out | apply below_alloc | apply pw_below_drewN | apply below_drew1) | exact HB.out)⟩

end Go.Proofs.Ytlekhcopddajbaa.PFnExactDiffer
