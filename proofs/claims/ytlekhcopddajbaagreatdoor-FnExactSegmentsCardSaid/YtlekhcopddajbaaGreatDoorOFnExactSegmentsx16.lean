/- Walks, turned from a print. -/
import Derived.Test.YtlekhcopddajbaaGreatDoorOFnExactSegmentsx0
import Derived.Test.YtlekhcopddajbaaGreatDoorOFnExactSegmentsx15
namespace Go.Proofs.YtlekhcopddajbaaGreatDoor.PFnExactSegments
open Go.RowKit Go.Proofs.YtlekhcopddajbaaGreatDoorW.PrintWords Go.Proofs.YtlekhcopddajbaaGreatDoorW.PrintLast Go.Proofs.YtlekhcopddajbaaGreatDoorW.PrintMore
attribute [local go_sem] max2_int min2_int max_two min_two max_three min_three max_four min_four
set_option linter.unusedVariables false
set_option linter.unusedSimpArgs false

/-! ### laws_eqFileS: function 27 -/
def laws_eqFileS.l0 : Nat → List (S46) → List (S46) → Int → Option (Bool)
 | 0,_,_,_ => none
 | k + 1,x0,x1,x5 => if x5 < (x0.length : Int) then (if 0 ≤ x5 then (if x5 < (x1.length : Int) then ((laws_eqFile.f ((rd_T46 x0 x5).f0) ((rd_T46 x0 x5).f1) ((rd_T46 x0 x5).f2) ((rd_T46 x1 x5).f0) ((rd_T46 x1 x5).f1) ((rd_T46 x1 x5).f2)).bind fun t436 => (if t436 = true then (laws_eqFileS.l0 k x0 x1 (wrap64 (x5 + 1))) else (some false))) else (none)) else (none)) else (some true)
def laws_eqFileS.f (k : Nat) (l0 : List (S46)) (l1 : List (S46)) : Option (Bool):=if (l0.length : Int) = (l1.length : Int) then (laws_eqFileS.l0 k l0 l1 0) else (some false)
theorem laws_eqFileS.mono_l : ∀ k,(∀ y0 y1 y2,LeO (laws_eqFileS.l0 k y0 y1 y2) (laws_eqFileS.l0 (k + 1) y0 y1 y2))
 | 0 => fun _ _ _ r h => by simp [laws_eqFileS.l0] at h
 | k + 1 => by
  have ih0:=laws_eqFileS.mono_l k
  ·intro y0 y1 y2
   unfold laws_eqFileS.l0
   repeat' first
  | (with_reducible exact ih0 _ _ _)
  | (with_reducible exact LeO.refl _)
  | (with_reducible exact LeO.none _)
  | (with_reducible refine LeO.ite ?_ ?_)
  | (with_reducible refine LeO.bind ?_ (fun _ => ?_))
theorem laws_eqFileS.mono : ∀ a0 a1 k,LeO (laws_eqFileS.f k a0 a1) (laws_eqFileS.f (k + 1) a0 a1):=by
 intro a0 a1 k
 have ih0:=laws_eqFileS.mono_l k
 unfold laws_eqFileS.f
 repeat' first
  | (with_reducible exact ih0 _ _ _)
  | (with_reducible exact LeO.refl _)
  | (with_reducible exact LeO.none _)
  | (with_reducible refine LeO.ite ?_ ?_)
  | (with_reducible refine LeO.bind ?_ (fun _ => ?_))
def laws_eqFileS.T6 : Bool × List (List Nat × List Nat):=(true,[([],[]),([],[]),([0,1],[0,1]),([2],[2]),([],[]),([],[]),([4,5],[4,5]),([6],[6]),([3,7],[3,7]),([8],[8])])
def laws_eqFileS.B6 : List Nat:=[0,0,3,7,0,0,48,112,255,511]
theorem laws_eqFileS.tab6 : rtab .any (opsOf Tryz.f27 6) = laws_eqFileS.T6:=by kernel_rfl
theorem laws_eqFileS.bits6 : waitsOk laws_eqFileS.T6.2 laws_eqFileS.B6 = true:=by kernel_rfl
set_option maxHeartbeats 8000000 in
set_option maxRecDepth 100000 in
theorem laws_eqFileS.calls (k : Nat) (A0 : Option Addr) (c0 : Nat) (l0 : List (S46)) (A1 : Option Addr) (c1 : Nat) (l1 : List (S46)) (r : Bool) (w : World) (hr0 : Kd.C k46 w A0 l0.length l0) (hc0 : l0.length ≤ c0) (hr1 : Kd.C k46 w A1 l1.length l1) (hc1 : l1.length ≤ c1) (h : laws_eqFileS.f k l0 l1 = some r) :
  Calls Tryz.prog 27 #[.slice A0 l0.length c0,.slice A1 l1.length c1] w fun e w' => e = .returned (.bool r) ∧ Below w.heap.size w w':=by
 have hu46:=Tryz.underlying46
 have HR0:=Aside0.mk hr0
 have HC0:=Aside0.mk hc0
 clear hr0 hc0
 have HR1:=Aside0.mk hr1
 have HC1:=Aside0.mk hc1
 clear hr1 hc1
 have HB:=Aside0.mk (Below.refl w.heap.size w)
 have H : (if (l0.length : Int) = (l1.length : Int) then (laws_eqFileS.l0 k l0 l1 0) else (some false)) = some r:=h
 clear h
 by_cases c3 : (l0.length : Int) = (l1.length : Int)
 ·rw [if_pos c3] at H
  have c3b0 : ((l0.length : Int) == (l1.length : Int)) = true:=beq_iff_eq.mpr c3
  have c3b1 : ((l0.length : Int) != (l1.length : Int)) = false:=bne_eq_false_iff_eq.mpr c3
  have c3b2 : (l0.length == l1.length) = true:=by first | simpa using c3 | (simp at c3 ⊢;omega)
  clear c3
  have H':=Aside0.mk H
  clear H
  go_enter Tryz.func27,Tryz.ntmps27
  go_wp2
  go_loopg [5] k (fun kq v5 w' => ∃ (x5_1 : Int),v5 = .int .i64 x5_1 ∧ Aside0 (laws_eqFileS.l0 kq l0 l1 x5_1 = some r) ∧ Aside0 (kq ≤ k) ∧ Aside0 (Below w.heap.size w w'))
  case atStart => exact ⟨(0),zE0,H',⟨Nat.le_refl _⟩,⟨zY0 HB.out⟩⟩
  case round =>
   clear H'
   try clear c3
   try clear c3b0
   try clear c3b1
   try clear c3b2
   obtain ⟨x5_1,rfl,HA,HK1,HB⟩:=hrel
   cases gk with
   | zero => exact absurd HA.out (by simp [laws_eqFileS.l0])
   | succ k1 =>
    have H:=HA.out
    clear HA
    simp only [laws_eqFileS.l0] at H
    by_cases c4 : x5_1 < (l0.length : Int)
    ·rw [if_pos c4] at H
     have c4b0 : decide (x5_1 < (l0.length : Int)) = true:=decide_eq_true c4
     clear c4
     by_cases c5 : 0 ≤ x5_1
     ·rw [if_pos c5] at H
      have c5b0 : decide (0 ≤ x5_1) = true:=decide_eq_true c5
      clear c5
      by_cases c6 : x5_1 < (l1.length : Int)
      ·rw [if_pos c6] at H
       have c6b0 : decide (x5_1 < (l1.length : Int)) = true:=decide_eq_true c6
       clear c6
       obtain ⟨t436,A7,H⟩:=bX0 H
       by_cases c8 : t436 = true
       ·subst c8
        rw [if_pos rfl] at H
        have H':=Aside0.mk H
        clear H
        try go_wp2
        replace HB:=Aside0.mk (below_drew1 HB.out)
        have p434 : 0 ≤ (x5_1 : Int):=zD0
        have q434 : x5_1 < (l0.length : Int):=zD0
        obtain ⟨ad434,e434,hx434_0,hx434_1,hx434_2⟩:=at_T46 HR0.out x5_1 p434 q434
        have hw434_2:=hx434_2
        have hw434_1:=hx434_1
        have hw434_0:=hx434_0
        cases e434
        replace hx434_0:=zx0 HB hx434_0
        replace hx434_1:=zx0 HB hx434_1
        replace hx434_2:=zx0 HB hx434_2
        replace p434:=eq_true p434
        replace q434:=eq_true q434
        have p435 : 0 ≤ (x5_1 : Int):=zD0
        have q435 : x5_1 < (l1.length : Int):=zD0
        obtain ⟨ad435,e435,hx435_0,hx435_1,hx435_2⟩:=at_T46 HR1.out x5_1 p435 q435
        have hw435_2:=hx435_2
        have hw435_1:=hx435_1
        have hw435_0:=hx435_0
        cases e435
        replace hx435_0:=zx0 HB hx435_0
        replace hx435_1:=zx0 HB hx435_1
        replace hx435_2:=zx0 HB hx435_2
        replace p435:=eq_true p435
        replace q435:=eq_true q435
        refine start_ (n:=10) (S:=fun w' => w'.cell? (ad434.add ((x5_1).toNat * 3)) = some (.string ((rd_T46 l0 x5_1).f0)) ∧ w'.cell? ⟨(ad434.add ((x5_1).toNat * 3)).block,(ad434.add ((x5_1).toNat * 3)).off + 1,none⟩ = some (.string ((rd_T46 l0 x5_1).f1)) ∧ w'.cell? ⟨(ad434.add ((x5_1).toNat * 3)).block,(ad434.add ((x5_1).toNat * 3)).off + 2,none⟩ = some (.int .i64 ((rd_T46 l0 x5_1).f2)) ∧ w'.cell? (ad435.add ((x5_1).toNat * 3)) = some (.string ((rd_T46 l1 x5_1).f0)) ∧ w'.cell? ⟨(ad435.add ((x5_1).toNat * 3)).block,(ad435.add ((x5_1).toNat * 3)).off + 1,none⟩ = some (.string ((rd_T46 l1 x5_1).f1)) ∧ w'.cell? ⟨(ad435.add ((x5_1).toNat * 3)).block,(ad435.add ((x5_1).toNat * 3)).off + 2,none⟩ = some (.int .i64 ((rd_T46 l1 x5_1).f2))) (ds:=[]) (zF0 10 0) (by kernel_rfl) rfl rfl ⟨(zx0 HB hw434_0 :),(zx0 HB hw434_1 :),(zx0 HB hw434_2 :),(zx0 HB hw435_0 :),(zx0 HB hw435_1 :),(zx0 HB hw435_2 :)⟩ (fun hHeld => ?_);refine with_tabW laws_eqFileS.tab6 laws_eqFileS.bits6 (fun HT_ HW_ => ?_)
        generalize wr.drew = w9 at HB hx434_0 hx434_1 hx434_2 hx435_0 hx435_1 hx435_2 hHeld ⊢
        refine zp0 0 17 10 1 HT_ ?_
        refine zp0 1 18 10 3 HT_ ?_
        refine zp0 2 19 10 7 HT_ ?_
        refine zp0 4 21 10 23 HT_ ?_
        refine zp0 5 22 10 55 HT_ ?_
        refine zp0 6 23 10 119 HT_ ?_
        refine zt0 3 20 10 127 HT_ HW_ hHeld ?_
        refine zt0 7 24 10 255 HT_ HW_ hHeld ?_
        refine one_ (i:=8) (N:=some 25) (zF0 10 511) rfl rfl (one_of HT_.out (by kernel_rfl)) (by decide) (fun K hK => ?_)
        refine goes_ Tryz.func51 (by kernel_rfl) rfl #[.agg #[.string ((rd_T46 l0 x5_1).f0),.string ((rd_T46 l0 x5_1).f1),.int .i64 ((rd_T46 l0 x5_1).f2)],.agg #[.string ((rd_T46 l1 x5_1).f0),.string ((rd_T46 l1 x5_1).f1),.int .i64 ((rd_T46 l1 x5_1).f2)]] (by rfl) rfl rfl zM0 ?_
        with_reducible refine (laws_eqFile.calls ((rd_T46 l0 x5_1).f0) ((rd_T46 l0 x5_1).f1) ((rd_T46 l0 x5_1).f2) ((rd_T46 l1 x5_1).f0) ((rd_T46 l1 x5_1).f1) ((rd_T46 l1 x5_1).f2) true _ A7.out).mono ?_
        rintro e w10 ⟨rfl,hb⟩
        refine ⟨_,rfl,?_⟩
        replace HB:=zs0 HB hb
        (try clear hb)
        (try clear hb2)
        (try clear hk)
        (try clear hi)
        refine hK.out _ _ ⟨(zx0 HB hw434_0 :),(zx0 HB hw434_1 :),(zx0 HB hw434_2 :),(zx0 HB hw435_0 :),(zx0 HB hw435_1 :),(zx0 HB hw435_2 :)⟩ (fun hHeld => ?_)
        clear hK K
        refine norm_ (a':=?_) ?_ ?_;rotate_left
        ·show Act.put _ (some 25) _ = _;simp only [Act.put,qA0,qB0,qC0,i64_w,i32_w];rfl
        refine zp0 9 26 10 1023 HT_ ?_
        refine done_ (done_of HT_.out (by kernel_rfl)) ?_
        try go_wp2
        go_roundg k1
        case measure => have:=HK1.out;omega
        case rel => exact ⟨(wrap64 (x5_1 + 1)),zE0,H',⟨by have:=HK1.out;omega⟩,⟨zY0 HB.out⟩⟩
       ·replace c8:=Bool.eq_false_iff.mpr c8
        subst c8
        rw [if_neg (show ¬ (false = true) by decide)] at H
        obtain rfl:=Option.some.inj H
        try go_wp2
        replace HB:=Aside0.mk (below_drew1 HB.out)
        have p434 : 0 ≤ (x5_1 : Int):=zD0
        have q434 : x5_1 < (l0.length : Int):=zD0
        obtain ⟨ad434,e434,hx434_0,hx434_1,hx434_2⟩:=at_T46 HR0.out x5_1 p434 q434
        have hw434_2:=hx434_2
        have hw434_1:=hx434_1
        have hw434_0:=hx434_0
        cases e434
        replace hx434_0:=zx0 HB hx434_0
        replace hx434_1:=zx0 HB hx434_1
        replace hx434_2:=zx0 HB hx434_2
        replace p434:=eq_true p434
        replace q434:=eq_true q434
        have p435 : 0 ≤ (x5_1 : Int):=zD0
        have q435 : x5_1 < (l1.length : Int):=zD0
        obtain ⟨ad435,e435,hx435_0,hx435_1,hx435_2⟩:=at_T46 HR1.out x5_1 p435 q435
        have hw435_2:=hx435_2
        have hw435_1:=hx435_1
        have hw435_0:=hx435_0
        cases e435
        replace hx435_0:=zx0 HB hx435_0
        replace hx435_1:=zx0 HB hx435_1
        replace hx435_2:=zx0 HB hx435_2
        replace p435:=eq_true p435
        replace q435:=eq_true q435
        refine start_ (n:=10) (S:=fun w' => w'.cell? (ad434.add ((x5_1).toNat * 3)) = some (.string ((rd_T46 l0 x5_1).f0)) ∧ w'.cell? ⟨(ad434.add ((x5_1).toNat * 3)).block,(ad434.add ((x5_1).toNat * 3)).off + 1,none⟩ = some (.string ((rd_T46 l0 x5_1).f1)) ∧ w'.cell? ⟨(ad434.add ((x5_1).toNat * 3)).block,(ad434.add ((x5_1).toNat * 3)).off + 2,none⟩ = some (.int .i64 ((rd_T46 l0 x5_1).f2)) ∧ w'.cell? (ad435.add ((x5_1).toNat * 3)) = some (.string ((rd_T46 l1 x5_1).f0)) ∧ w'.cell? ⟨(ad435.add ((x5_1).toNat * 3)).block,(ad435.add ((x5_1).toNat * 3)).off + 1,none⟩ = some (.string ((rd_T46 l1 x5_1).f1)) ∧ w'.cell? ⟨(ad435.add ((x5_1).toNat * 3)).block,(ad435.add ((x5_1).toNat * 3)).off + 2,none⟩ = some (.int .i64 ((rd_T46 l1 x5_1).f2))) (ds:=[]) (zF0 10 0) (by kernel_rfl) rfl rfl ⟨(zx0 HB hw434_0 :),(zx0 HB hw434_1 :),(zx0 HB hw434_2 :),(zx0 HB hw435_0 :),(zx0 HB hw435_1 :),(zx0 HB hw435_2 :)⟩ (fun hHeld => ?_);refine with_tabW laws_eqFileS.tab6 laws_eqFileS.bits6 (fun HT_ HW_ => ?_)
        generalize wr.drew = w11 at HB hx434_0 hx434_1 hx434_2 hx435_0 hx435_1 hx435_2 hHeld ⊢
        refine zp0 0 17 10 1 HT_ ?_
        refine zp0 1 18 10 3 HT_ ?_
        refine zp0 2 19 10 7 HT_ ?_
        refine zp0 4 21 10 23 HT_ ?_
        refine zp0 5 22 10 55 HT_ ?_
        refine zp0 6 23 10 119 HT_ ?_
        refine zt0 3 20 10 127 HT_ HW_ hHeld ?_
        refine zt0 7 24 10 255 HT_ HW_ hHeld ?_
        refine one_ (i:=8) (N:=some 25) (zF0 10 511) rfl rfl (one_of HT_.out (by kernel_rfl)) (by decide) (fun K hK => ?_)
        refine goes_ Tryz.func51 (by kernel_rfl) rfl #[.agg #[.string ((rd_T46 l0 x5_1).f0),.string ((rd_T46 l0 x5_1).f1),.int .i64 ((rd_T46 l0 x5_1).f2)],.agg #[.string ((rd_T46 l1 x5_1).f0),.string ((rd_T46 l1 x5_1).f1),.int .i64 ((rd_T46 l1 x5_1).f2)]] (by rfl) rfl rfl zM0 ?_
        with_reducible refine (laws_eqFile.calls ((rd_T46 l0 x5_1).f0) ((rd_T46 l0 x5_1).f1) ((rd_T46 l0 x5_1).f2) ((rd_T46 l1 x5_1).f0) ((rd_T46 l1 x5_1).f1) ((rd_T46 l1 x5_1).f2) false _ A7.out).mono ?_
        rintro e w12 ⟨rfl,hb⟩
        refine ⟨_,rfl,?_⟩
        replace HB:=zs0 HB hb
        (try clear hb)
        (try clear hb2)
        (try clear hk)
        (try clear hi)
        refine hK.out _ _ ⟨(zx0 HB hw434_0 :),(zx0 HB hw434_1 :),(zx0 HB hw434_2 :),(zx0 HB hw435_0 :),(zx0 HB hw435_1 :),(zx0 HB hw435_2 :)⟩ (fun hHeld => ?_)
        clear hK K
        refine norm_ (a':=?_) ?_ ?_;rotate_left
        ·show Act.put _ (some 25) _ = _;simp only [Act.put,qA0,qB0,qC0,i64_w,i32_w];rfl
        refine zp0 9 26 10 1023 HT_ ?_
        refine done_ (done_of HT_.out (by kernel_rfl)) ?_
        try go_wp2
        go_ret
        exact ⟨zW0,(zY0 HB.out)⟩
      ·rw [if_neg c6] at H
       exact absurd H (by simp)
     ·rw [if_neg c5] at H
      exact absurd H (by simp)
    ·rw [if_neg c4] at H
     have c4b0 : decide (x5_1 < (l0.length : Int)) = false:=decide_eq_false c4
     clear c4
     obtain rfl:=Option.some.inj H
     go_wp2
     go_ret
     exact ⟨zW0,(zY0 HB.out)⟩
 ·rw [if_neg c3] at H
  have c3b0 : ((l0.length : Int) == (l1.length : Int)) = false:=beq_eq_false_iff_ne.mpr c3
  have c3b1 : ((l0.length : Int) != (l1.length : Int)) = true:=bne_iff_ne.mpr c3
  have c3b2 : (l0.length == l1.length) = false:=by first | simpa using c3 | (simp at c3 ⊢;omega)
  obtain rfl:=Option.some.inj H
  go_enter Tryz.func27,Tryz.ntmps27
  go_wp2
  go_ret
  exact ⟨zW0,(zY0 HB.out)⟩

/-! ### laws_eqDisk: function 9 -/
def laws_eqDisk.f (k : Nat) (l0_0 : List (S46)) (l1_0 : List (S46)) : Option (Bool):=(laws_eqFileS.f k l0_0 l1_0).bind fun t439 => (if t439 = true then (some true) else (some false))
theorem laws_eqDisk.mono : ∀ a0 a1 k,LeO (laws_eqDisk.f k a0 a1) (laws_eqDisk.f (k + 1) a0 a1):=by
 intro a0 a1 k
 unfold laws_eqDisk.f
 repeat' first
  | (with_reducible exact laws_eqFileS.mono _ _ _)
  | (with_reducible exact LeO.refl _)
  | (with_reducible exact LeO.none _)
  | (with_reducible refine LeO.ite ?_ ?_)
  | (with_reducible refine LeO.bind ?_ (fun _ => ?_))
set_option maxHeartbeats 8000000 in
set_option maxRecDepth 100000 in
theorem laws_eqDisk.calls (k : Nat) (A0_0 : Option Addr) (c0_0 : Nat) (l0_0 : List (S46)) (A1_0 : Option Addr) (c1_0 : Nat) (l1_0 : List (S46)) (r : Bool) (w : World) (hr0_0 : Kd.C k46 w A0_0 l0_0.length l0_0) (hc0_0 : l0_0.length ≤ c0_0) (hr1_0 : Kd.C k46 w A1_0 l1_0.length l1_0) (hc1_0 : l1_0.length ≤ c1_0) (h : laws_eqDisk.f k l0_0 l1_0 = some r) :
  Calls Tryz.prog 9 #[.agg #[.slice A0_0 l0_0.length c0_0],.agg #[.slice A1_0 l1_0.length c1_0]] w fun e w' => e = .returned (.bool r) ∧ Below w.heap.size w w':=by
 have hu31:=Tryz.underlying31
 have HR0_0:=Aside0.mk hr0_0
 have HC0_0:=Aside0.mk hc0_0
 clear hr0_0 hc0_0
 have HR1_0:=Aside0.mk hr1_0
 have HC1_0:=Aside0.mk hc1_0
 clear hr1_0 hc1_0
 have HB:=Aside0.mk (Below.refl w.heap.size w)
 have H : ((laws_eqFileS.f k l0_0 l1_0).bind fun t439 => (if t439 = true then (some true) else (some false))) = some r:=h
 clear h
 obtain ⟨t439,A3,H⟩:=bX0 H
 by_cases c4 : t439 = true
 ·subst c4
  rw [if_pos rfl] at H
  obtain rfl:=Option.some.inj H
  go_enter Tryz.func9,Tryz.ntmps9
  go_wp2_with (first | ((with_reducible refine gate_dst (N:=2) rfl ?_);refine zy0 (cs:=#[.slice A0_0 l0_0.length c0_0]) (t:=31) ?_;intro gb437 hg w5 hbox hb;have BK437:=Aside0.mk hbox;have GW437:=zz0 hg HB;have GE437:=zz0 hg HB;replace HB:=zs0 HB hb;clear hb hbox hg) | ((with_reducible refine gate_dst (N:=3) rfl ?_);refine zy0 (cs:=#[.slice A1_0 l1_0.length c1_0]) (t:=31) ?_;intro gb438 hg w6 hbox hb;have BK438:=Aside0.mk hbox;have GW438:=zz0 hg HB;have GE438:=zz0 hg HB;replace HB:=zs0 HB hb;have NB437_438:=zl0 hg BK437;have NB438_437:=zg0 hg BK437;replace BK437:=zb0 BK437 hb;clear hb hbox hg;obtain ⟨_,_⟩:=zn0 NB437_438;obtain ⟨_,_⟩:=zd01 BK437;obtain ⟨_,_⟩:=zd01 BK438) | ((with_reducible refine gate_callee (f:=27) rfl ?_);refine goesL_ (some 9) rfl rfl Tryz.func27 (by kernel_rfl) rfl #[.slice A0_0 l0_0.length c0_0,.slice A1_0 l1_0.length c1_0] rfl zM0 ?_;(with_reducible refine (laws_eqFileS.calls k _ _ l0_0 _ _ l1_0 true _ ?side1 ?side2 ?side3 ?side4 A3.out).mono ?_);(case side1 => exact zA0 ((Kd.C_below HR0_0.out HB.out)));(case side2 => exact HC0_0.out);(case side3 => exact zA0 ((Kd.C_below HR1_0.out HB.out)));(case side4 => exact HC1_0.out);rintro e w10 ⟨rfl,hb⟩;refine ⟨_,rfl,?_⟩;replace BK437:=zb0 BK437 hb;replace BK438:=zb0 BK438 hb;replace HB:=zs0 HB hb;(try clear hb)))
  go_ret
  exact ⟨zW0,(zY0 HB.out)⟩
 ·replace c4:=Bool.eq_false_iff.mpr c4
  subst c4
  rw [if_neg (show ¬ (false = true) by decide)] at H
  obtain rfl:=Option.some.inj H
  go_enter Tryz.func9,Tryz.ntmps9
  go_wp2_with (first | ((with_reducible refine gate_dst (N:=2) rfl ?_);refine zy0 (cs:=#[.slice A0_0 l0_0.length c0_0]) (t:=31) ?_;intro gb437 hg w11 hbox hb;have BK437:=Aside0.mk hbox;have GW437:=zz0 hg HB;have GE437:=zz0 hg HB;replace HB:=zs0 HB hb;clear hb hbox hg) | ((with_reducible refine gate_dst (N:=3) rfl ?_);refine zy0 (cs:=#[.slice A1_0 l1_0.length c1_0]) (t:=31) ?_;intro gb438 hg w12 hbox hb;have BK438:=Aside0.mk hbox;have GW438:=zz0 hg HB;have GE438:=zz0 hg HB;replace HB:=zs0 HB hb;have NB437_438:=zl0 hg BK437;have NB438_437:=zg0 hg BK437;replace BK437:=zb0 BK437 hb;clear hb hbox hg;obtain ⟨_,_⟩:=zn0 NB437_438;obtain ⟨_,_⟩:=zd01 BK437;obtain ⟨_,_⟩:=zd01 BK438) | ((with_reducible refine gate_callee (f:=27) rfl ?_);refine goesL_ (some 9) rfl rfl Tryz.func27 (by kernel_rfl) rfl #[.slice A0_0 l0_0.length c0_0,.slice A1_0 l1_0.length c1_0] rfl zM0 ?_;(with_reducible refine (laws_eqFileS.calls k _ _ l0_0 _ _ l1_0 false _ ?side1 ?side2 ?side3 ?side4 A3.out).mono ?_);(case side1 => exact zA0 ((Kd.C_below HR0_0.out HB.out)));(case side2 => exact HC0_0.out);(case side3 => exact zA0 ((Kd.C_below HR1_0.out HB.out)));(case side4 => exact HC1_0.out);rintro e w16 ⟨rfl,hb⟩;refine ⟨_,rfl,?_⟩;replace BK437:=zb0 BK437 hb;replace BK438:=zb0 BK438 hb;replace HB:=zs0 HB hb;(try clear hb)))
  go_ret
  exact ⟨zW0,(zY0 HB.out)⟩

/-! ### laws_markText: function 52 -/
def laws_markText.l0 : Nat → Int → ByteArray → Option (ByteArray)
 | 0,_,_ => none
 | k + 1,x0,x3 => if x0 > 0 then ((some (([(wrap64 (48 + (Int.tmod x0 10))) % 256] : List Int) : List Int)).bind fun y440 => (if (strOfNums y440).size + x3.size ≤ 9223372036854775807 then (laws_markText.l0 k (wrap64 (Int.tdiv x0 10)) ((strOfNums y440) ++ x3)) else (none))) else (if 1 + x3.size ≤ 9223372036854775807 then (some ((⟨#[109]⟩ : ByteArray) ++ x3)) else (none))
def laws_markText.f (k : Nat) (a0 : Int) : Option (ByteArray):=if a0 ≤ 0 then (some (⟨#[109,48]⟩ : ByteArray)) else (laws_markText.l0 k a0 (⟨#[]⟩ : ByteArray))
theorem laws_markText.mono_l : ∀ k,(∀ y0 y1,LeO (laws_markText.l0 k y0 y1) (laws_markText.l0 (k + 1) y0 y1))
 | 0 => fun _ _ r h => by simp [laws_markText.l0] at h
 | k + 1 => by
  have ih0:=laws_markText.mono_l k
  ·intro y0 y1
   unfold laws_markText.l0
   repeat' first
  | (with_reducible exact ih0 _ _)
  | (with_reducible exact LeO.refl _)
  | (with_reducible exact LeO.none _)
  | (with_reducible refine LeO.ite ?_ ?_)
  | (with_reducible refine LeO.bind ?_ (fun _ => ?_))
theorem laws_markText.mono : ∀ a0 k,LeO (laws_markText.f k a0) (laws_markText.f (k + 1) a0):=by
 intro a0 k
 have ih0:=laws_markText.mono_l k
 unfold laws_markText.f
 repeat' first
  | (with_reducible exact ih0 _ _)
  | (with_reducible exact LeO.refl _)
  | (with_reducible exact LeO.none _)
  | (with_reducible refine LeO.ite ?_ ?_)
  | (with_reducible refine LeO.bind ?_ (fun _ => ?_))
set_option maxHeartbeats 8000000 in
set_option maxRecDepth 100000 in
theorem laws_markText.calls (k : Nat) (a0 : Int) (r : ByteArray) (w : World) (h : laws_markText.f k a0 = some r) :
  Calls Tryz.prog 52 #[.int .i64 a0] w fun e w' => e = .returned (.string r) ∧ Below w.heap.size w w':=by
 have HB:=Aside0.mk (Below.refl w.heap.size w)
 have H : (if a0 ≤ 0 then (some (⟨#[109,48]⟩ : ByteArray)) else (laws_markText.l0 k a0 (⟨#[]⟩ : ByteArray))) = some r:=h
 clear h
 by_cases c2 : a0 ≤ 0
 ·rw [if_pos c2] at H
  have c2b0 : decide (a0 ≤ 0) = true:=decide_eq_true c2
  clear c2
  obtain rfl:=Option.some.inj H
  go_enter Tryz.func52,Tryz.ntmps52
  go_wp2
  go_ret
  exact ⟨zW0,(zY0 HB.out)⟩
 ·rw [if_neg c2] at H
  have c2b0 : decide (a0 ≤ 0) = false:=decide_eq_false c2
  clear c2
  have H':=Aside0.mk H
  clear H
  go_enter Tryz.func52,Tryz.ntmps52
  go_wp2
  go_loopg [0,3] k (fun kq v0 v3 w' => ∃ (x0_1 : Int) (x3_1 : ByteArray),v0 = .int .i64 x0_1 ∧ v3 = .string x3_1 ∧ Aside0 (laws_markText.l0 kq x0_1 x3_1 = some r) ∧ Aside0 (kq ≤ k) ∧ Aside0 (Below w.heap.size w w'))
  case atStart => exact ⟨(a0),((⟨#[]⟩ : ByteArray)),zE0,zE0,H',⟨Nat.le_refl _⟩,⟨zY0 HB.out⟩⟩
  case round =>
   clear H'
   try clear c2
   try clear c2b0
   obtain ⟨x0_1,x3_1,rfl,rfl,HA,HK1,HB⟩:=hrel
   cases gk with
   | zero => exact absurd HA.out (by simp [laws_markText.l0])
   | succ k1 =>
    have H:=HA.out
    clear HA
    simp only [laws_markText.l0] at H
    by_cases c3 : x0_1 > 0
    ·rw [if_pos c3] at H
     have c3b0 : decide (0 < x0_1) = true:=decide_eq_true c3
     clear c3
     obtain ⟨y440,hy440⟩ : ∃ y_ : List Int,y_ = (([(wrap64 (48 + (Int.tmod x0_1 10))) % 256] : List Int)):=⟨_,rfl⟩
     replace H : (if (strOfNums y440).size + x3_1.size ≤ 9223372036854775807 then (laws_markText.l0 k1 (wrap64 (Int.tdiv x0_1 10)) ((strOfNums y440) ++ x3_1)) else (none)) = some r:=by first | (rw [hy440];with_reducible exact H) | (have H2_:=(Option.bind_some _ _).symm.trans H;rw [hy440];with_reducible exact H2_) | (have H2_:=(Option.bind_some _ _).symm.trans H;with_reducible exact H2_) | with_reducible exact H | (rw [hy440];exact H) | exact H
     have Ny440:=Aside0.mk hy440
     clear hy440
     by_cases c4 : (strOfNums y440).size + x3_1.size ≤ 9223372036854775807
     ·rw [if_pos c4] at H
      have c4b0:=eq_true c4
      have c4b1 : decide ((strOfNums y440).size + x3_1.size ≤ 9223372036854775807) = true:=decide_eq_true c4
      try have c4b2 : (9223372036854775807 < (strOfNums y440).size + x3_1.size) = False:=eq_false (Nat.not_lt.2 c4)
      have H':=Aside0.mk H
      clear H
      go_wp2_with (first | ((with_reducible refine gate_dst (N:=12) rfl ?_);refine Kd.R_lit (Kd.int .u8) _ 5 ?hg (N:=12) ?hd (xs:=([(wrap64 (48 + (Int.tmod x0_1 10))) % 256] : List Int)) (inner:=[.int .u8 ((wrap64 (48 + (Int.tmod x0_1 10))) % 256)]) (ok:=fun _ => True) (okp:=fun _ => True) ?hr ?hp (fun _ hk => hk) trivial (Below.refl _ _) (Nat.le_refl _) (by simp) ?_;(case hd => rfl);(case hg => rfl);(case hr => first | (go_simp;done) | (go_simp;rfl));(case hp => exact (Reps.one (show Kd.M (Kd.int .u8) _ _ _ ((wrap64 (48 + (Int.tmod x0_1 10))) % 256) [.int .u8 ((wrap64 (48 + (Int.tmod x0_1 10))) % 256)] from rfl) (Reps.none _ _)));intro v441 w5 ho6 hb hg_ hnew_;clear hg_ hnew_;(first | rw [← Ny440.out] at ho6 | (simp only [Int.reduceToNat] at ho6;rw [← Ny440.out] at ho6));have HO442:=Aside0.mk (Kd.R_lower ho6 (zZ0 HB.out));replace HB:=zs0 HB hb;clear hb ho6;have hcv7:=own_string (P:=Tryz.prog) Tryz.underlying88 Tryz.underlying5 Tryz.underlying9 (Kd.own_of_R HO442.out)))
      go_roundg k1
      case measure => have:=HK1.out;omega
      case rel => exact ⟨(wrap64 (Int.tdiv x0_1 10)),((strOfNums y440) ++ x3_1),zE0,zE0,H',⟨by have:=HK1.out;omega⟩,⟨zY0 HB.out⟩⟩
     ·rw [if_neg c4] at H
      exact absurd H (by simp)
    ·rw [if_neg c3] at H
     have c3b0 : decide (0 < x0_1) = false:=decide_eq_false c3
     clear c3
     by_cases c8 : 1 + x3_1.size ≤ 9223372036854775807
     ·rw [if_pos c8] at H
      have c8b0:=eq_true c8
      have c8b1 : decide (1 + x3_1.size ≤ 9223372036854775807) = true:=decide_eq_true c8
      try have c8b2 : (9223372036854775807 < 1 + x3_1.size) = False:=eq_false (Nat.not_lt.2 c8)
      obtain rfl:=Option.some.inj H
      go_wp2
      go_ret
      exact ⟨zW0,(zY0 HB.out)⟩
     ·rw [if_neg c8] at H
      exact absurd H (by simp)

/-! ### laws_markFileS: function 28 -/
def laws_markFileS.l0 : Nat → List (S46) → Int → Int → Option (Int × (List (S46)))
 | 0,_,_,_ => none
 | k + 1,x0,x1,x5 => if x5 < (x0.length : Int) then ((laws_markText.f k x1).bind fun t443 => (if 0 ≤ x5 then ((some (x0.set (x5 : Int).toNat (⟨t443,(rd_T46 x0 x5).f1,(rd_T46 x0 x5).f2⟩ : S46) : List (S46))).bind fun y444 => ((laws_markText.f k (wrap64 (x1 + 1))).bind fun t445 => ((some (y444.set (x5 : Int).toNat (⟨(rd_T46 y444 x5).f0,t445,(rd_T46 y444 x5).f2⟩ : S46) : List (S46))).bind fun y446 => (laws_markFileS.l0 k (y446.set (x5 : Int).toNat (⟨(rd_T46 y446 x5).f0,(rd_T46 y446 x5).f1,wrap64 ((wrap64 (x1 + 1)) + 1)⟩ : S46)) (wrap64 ((wrap64 ((wrap64 (x1 + 1)) + 1)) + 1)) (wrap64 (x5 + 1)))))) else (none))) else (some (x1,x0))
def laws_markFileS.f (k : Nat) (l0 : List (S46)) (a1 : Int) : Option (Int × (List (S46))):=laws_markFileS.l0 k l0 a1 0
theorem laws_markFileS.mono_l : ∀ k,(∀ y0 y1 y2,LeO (laws_markFileS.l0 k y0 y1 y2) (laws_markFileS.l0 (k + 1) y0 y1 y2))
 | 0 => fun _ _ _ r h => by simp [laws_markFileS.l0] at h
 | k + 1 => by
  have ih0:=laws_markFileS.mono_l k
  ·intro y0 y1 y2
   unfold laws_markFileS.l0
   repeat' first
  | (with_reducible exact ih0 _ _ _)
  | (with_reducible exact laws_markText.mono _ _)
  | (with_reducible exact LeO.refl _)
  | (with_reducible exact LeO.none _)
  | (with_reducible refine LeO.ite ?_ ?_)
  | (with_reducible refine LeO.bind ?_ (fun _ => ?_))
theorem laws_markFileS.mono : ∀ a0 a1 k,LeO (laws_markFileS.f k a0 a1) (laws_markFileS.f (k + 1) a0 a1):=by
 intro a0 a1 k
 have ih0:=laws_markFileS.mono_l k
 unfold laws_markFileS.f
 repeat' first
  | (with_reducible exact ih0 _ _ _)
  | (with_reducible exact laws_markText.mono _ _)
  | (with_reducible exact LeO.refl _)
  | (with_reducible exact LeO.none _)
  | (with_reducible refine LeO.ite ?_ ?_)
  | (with_reducible refine LeO.bind ?_ (fun _ => ?_))
set_option maxHeartbeats 8000000 in
set_option maxRecDepth 100000 in
theorem laws_markFileS.calls (k : Nat) (P0_ : Nat → Prop) (u9000_ : Value) (l0 : List (S46)) (a1 : Int) (r1 : Int) (r2 : List (S46)) (w0 w : World) (hB : Below w0.heap.size w0 w) (ho0 : Kd.R k46 46 w w0.heap.size P0_ u9000_ l0) (h : laws_markFileS.f k l0 a1 = some (r1,r2)) :
  Calls Tryz.prog 28 #[u9000_,.int .i64 a1] w fun e w' => e = .returned (.int .i64 r1) ∧ Kd.R k46 46 w' w0.heap.size (fun k_ => (P0_ k_ ∨ w.heap.size ≤ k_)) u9000_ r2 ∧ Below w0.heap.size w0 w' ∧ Kept w w' (fun k_ => P0_ k_):=by
 have HO0:=Aside0.mk (show Kd.R k46 46 w w0.heap.size (fun k_ => (P0_ k_ ∨ w.heap.size ≤ k_)) u9000_ l0 from Kd.R_mono ho0 (fun k_ hk => (.inl hk)))
 have HK:=Aside0.mk (Kept.refl w (fun k_ => P0_ k_))
 have HW0:=Aside0.mk hB.size
 have HB:=Aside0.mk hB
 clear hB
 have H : (laws_markFileS.l0 k l0 a1 0) = some (r1,r2):=h
 clear h
 have H':=Aside0.mk H
 clear H
 go_enter Tryz.func28,Tryz.ntmps28
 go_wp2
 go_loopg [1,5] k (fun kq v1 v5 w' => ∃ (x0_1 : List (S46)) (x1_1 : Int) (x5_1 : Int),v1 = .int .i64 x1_1 ∧ v5 = .int .i64 x5_1 ∧ Aside0 (laws_markFileS.l0 kq x0_1 x1_1 x5_1 = some (r1,r2)) ∧ Aside0 (kq ≤ k) ∧ Aside0 (Kd.R k46 46 w' w0.heap.size (fun k_ => (P0_ k_ ∨ w.heap.size ≤ k_)) u9000_ x0_1) ∧ Aside0 (Kept w w' (fun k_ => P0_ k_)) ∧ Aside0 (Below w0.heap.size w0 w'))
 case atStart => exact ⟨(l0),(a1),(0),zE0,zE0,H',⟨Nat.le_refl _⟩,⟨zR0 HO0.out⟩,⟨by repeat (first | (with_reducible first | exact HK.out | apply Kept.alloc | apply Kept.drewN | apply Kept.drew) | exact HK.out)⟩,⟨zY0 HB.out⟩⟩
 case round =>
  clear H'
  obtain ⟨x0_1,x1_1,x5_1,rfl,rfl,HA,HK1,HO_0,HK,HB⟩:=hrel
  cases gk with
  | zero => exact absurd HA.out (by simp [laws_markFileS.l0])
  | succ k1 =>
   have H:=HA.out
   clear HA
   simp only [laws_markFileS.l0] at H
   by_cases c3 : x5_1 < (x0_1.length : Int)
   ·rw [if_pos c3] at H
    have c3b0 : decide (x5_1 < (x0_1.length : Int)) = true:=decide_eq_true c3
    clear c3
    obtain ⟨t443,A4,H⟩:=bX0 H
    by_cases c5 : 0 ≤ x5_1
    ·rw [if_pos c5] at H
     have c5b0 : decide (0 ≤ x5_1) = true:=decide_eq_true c5
     clear c5
     obtain ⟨y444,hy444⟩ : ∃ y_ : List (S46),y_ = (x0_1.set (x5_1 : Int).toNat (⟨t443,(rd_T46 x0_1 x5_1).f1,(rd_T46 x0_1 x5_1).f2⟩ : S46)):=⟨_,rfl⟩
     replace H : ((laws_markText.f k1 (wrap64 (x1_1 + 1))).bind fun t445 => ((some (y444.set (x5_1 : Int).toNat (⟨(rd_T46 y444 x5_1).f0,t445,(rd_T46 y444 x5_1).f2⟩ : S46) : List (S46))).bind fun y446 => (laws_markFileS.l0 k1 (y446.set (x5_1 : Int).toNat (⟨(rd_T46 y446 x5_1).f0,(rd_T46 y446 x5_1).f1,wrap64 ((wrap64 (x1_1 + 1)) + 1)⟩ : S46)) (wrap64 ((wrap64 ((wrap64 (x1_1 + 1)) + 1)) + 1)) (wrap64 (x5_1 + 1))))) = some (r1,r2):=by first | (rw [hy444];with_reducible exact H) | (have H2_:=(Option.bind_some _ _).symm.trans H;rw [hy444];with_reducible exact H2_) | (have H2_:=(Option.bind_some _ _).symm.trans H;with_reducible exact H2_) | with_reducible exact H | (rw [hy444];exact H) | exact H
     have Ny444:=Aside0.mk hy444
     clear hy444
     obtain ⟨t445,A7,H⟩:=bX0 H
     obtain ⟨y446,hy446⟩ : ∃ y_ : List (S46),y_ = (y444.set (x5_1 : Int).toNat (⟨(rd_T46 y444 x5_1).f0,t445,(rd_T46 y444 x5_1).f2⟩ : S46)):=⟨_,rfl⟩
     replace H : (laws_markFileS.l0 k1 (y446.set (x5_1 : Int).toNat (⟨(rd_T46 y446 x5_1).f0,(rd_T46 y446 x5_1).f1,wrap64 ((wrap64 (x1_1 + 1)) + 1)⟩ : S46)) (wrap64 ((wrap64 ((wrap64 (x1_1 + 1)) + 1)) + 1)) (wrap64 (x5_1 + 1))) = some (r1,r2):=by first | (rw [hy446];with_reducible exact H) | (have H2_:=(Option.bind_some _ _).symm.trans H;rw [hy446];with_reducible exact H2_) | (have H2_:=(Option.bind_some _ _).symm.trans H;with_reducible exact H2_) | with_reducible exact H | (rw [hy446];exact H) | exact H
     have Ny446:=Aside0.mk hy446
     clear hy446
     obtain ⟨y447,hy447⟩ : ∃ y_ : List (S46),y_ = (y446.set (x5_1 : Int).toNat (⟨(rd_T46 y446 x5_1).f0,(rd_T46 y446 x5_1).f1,wrap64 ((wrap64 (x1_1 + 1)) + 1)⟩ : S46)):=⟨_,rfl⟩
     replace H : (laws_markFileS.l0 k1 y447 (wrap64 ((wrap64 ((wrap64 (x1_1 + 1)) + 1)) + 1)) (wrap64 (x5_1 + 1))) = some (r1,r2):=by first | (rw [hy447];with_reducible exact H) | (have H2_:=(Option.bind_some _ _).symm.trans H;rw [hy447];with_reducible exact H2_) | (have H2_:=(Option.bind_some _ _).symm.trans H;with_reducible exact H2_) | with_reducible exact H | (rw [hy447];exact H) | exact H
     have Ny447:=Aside0.mk hy447
     clear hy447
     have H':=Aside0.mk H
     clear H
     obtain ⟨Ao10,co10,eo10⟩:=Kd.R_slice HO_0.out
     subst eo10
     go_wp2_with (first | ((with_reducible refine gate_callee (f:=52) rfl ?_);refine goesL_ (some 15) rfl rfl Tryz.func52 (by kernel_rfl) rfl #[.int .i64 x1_1] rfl zM0 ?_;(with_reducible refine (laws_markText.calls k1 x1_1 t443 _ A4.out).mono ?_);rintro e w11 ⟨rfl,hb⟩;refine ⟨_,rfl,?_⟩;replace HO_0:=Aside0.mk (Kd.R_below (zR0 HO_0.out) hb);replace HK:=Aside0.mk (Kept.below (S:=(fun k_ => P0_ k_)) (by repeat (first | (with_reducible first | exact HK.out | apply Kept.alloc | apply Kept.drewN | apply Kept.drew) | exact HK.out)) hb);replace HB:=zs0 HB hb;(try clear hb);have p6 : 0 ≤ (x5_1 : Int):=zD0;have q6 : (x5_1 : Int) < ((x0_1.length : Int) : Int):=zD0;obtain ⟨go6,co6,eo6,gb6,gl6,cl6,HG6⟩:=Kd.R_form HO_0.out (by omega);(first | cases eo6 | (injection eo6 with ea_ en_ ec_;(first | subst ea_ | (injection ea_ with ea_;subst ea_));subst ec_;clear en_));have GB6:=Aside0.mk gb6;have GG6:=Aside0.mk HG6;clear gb6 gl6 HG6;have HMgo6:=Aside0.mk (show (P0_ go6 ∨ w.heap.size ≤ go6) from (HO_0.out.1 _ rfl));obtain ⟨ce6,hcl6,hM6,hcc6,hfr6⟩:=Kd.R_elem HO_0.out z46 (x5_1 : Int) p6 q6;obtain rfl:=k46_openM hM6;have hx6_0 : w11.cell? ⟨go6,(x5_1 : Int).toNat * 3,none⟩ = some (.string ((rd_T46 x0_1 x5_1).f0)):=hcc6 0 _ rfl;have hx6_1 : w11.cell? ⟨go6,(x5_1 : Int).toNat * 3 + 1,none⟩ = some (.string ((rd_T46 x0_1 x5_1).f1)):=hcc6 1 _ rfl;have hx6_2 : w11.cell? ⟨go6,(x5_1 : Int).toNat * 3 + 2,none⟩ = some (.int .i64 ((rd_T46 x0_1 x5_1).f2)):=hcc6 2 _ rfl;have hf6_0 : w11.frozen? ⟨go6,(x5_1 : Int).toNat * 3,none⟩ = false:=hfr6 0;have hf6_1 : w11.frozen? ⟨go6,(x5_1 : Int).toNat * 3 + 1,none⟩ = false:=hfr6 1;have hf6_2 : w11.frozen? ⟨go6,(x5_1 : Int).toNat * 3 + 2,none⟩ = false:=hfr6 2;clear hcl6 hcc6 hfr6 hM6;replace p6:=eq_true p6;replace q6:=eq_true q6;have HX12:=Aside0.mk (show Kd.R k46 46 w11 w0.heap.size (fun k_ => (P0_ k_ ∨ w.heap.size ≤ k_)) (.slice (some ⟨go6,0,none⟩) x0_1.length co10) x0_1 from (zR0 HO_0.out));obtain ⟨ce12,hcl12,hM12,hcc12,hfr12⟩:=Kd.R_elem HX12.out z46 (x5_1 : Int) (zD0) (by have h_ : (x5_1 : Int) < ((x0_1.length : Int) : Int):=zD0;first | exact h_ | (have e_:=(Kd.R_reads' HO_0.out).1;omega) | simpa using h_);obtain rfl:=k46_openM hM12;have HP12:=Kd.R_seg HX12.out (x5_1 : Int) (zD0) (by have h_ : (x5_1 : Int) < ((x0_1.length : Int) : Int):=zD0;first | exact h_ | (have e_:=(Kd.R_reads' HO_0.out).1;omega) | simpa using h_) (seg:=[.string t443]) (j:=0) hcl12 hcc12 (show 1 ≤ 3 from by decide) (x':=(⟨t443,(rd_T46 x0_1 x5_1).f1,(rd_T46 x0_1 x5_1).f2⟩ : S46)) (k46_mkM _ _ _ (⟨t443,(rd_T46 x0_1 x5_1).f1,(rd_T46 x0_1 x5_1).f2⟩ : S46) ) (fun _ hk => hk);have hx12_0:=hcc12 0 _ rfl;(try simp only [show (k46).sz = 3 from rfl,Nat.mul_one,Nat.add_zero] at hx12_0);have hf12_0:=hfr12 0;(try simp only [show (k46).sz = 3 from rfl,Nat.mul_one,Nat.add_zero] at hf12_0);clear hcl12 hcc12 hfr12 hM12) | ((with_reducible refine gate_store (t:=9) (p:=17) rfl ?_);refine store_event (t:=9) (p:=17) (v:=?vo_w13) (w1:=(w11.setCell ⟨go6,(x5_1 : Int).toNat * 3,none⟩ (.string t443))) ?hg ?ho ?hn ?hr ?_;(case ho => rfl);(case hg => rfl);(case hn => rfl);(case hr => first | (go_simp;done) | (go_simp;rfl));intro w13 hw;have hg : w11.grownBy w13 (some go6):=(by rw [hw];exact HP12.2);have hp_ : Kd.R k46 46 w13 w0.heap.size (fun k_ => (P0_ k_ ∨ w.heap.size ≤ k_)) (.slice (some ⟨go6,0,none⟩) x0_1.length co10) y444:=(by rw [hw,Ny444.out];exact HP12.1);clear HP12;replace HB:=Aside0.mk ((by rw [hw];exact below_set (HB.out) GB6.out : Below w0.heap.size w0 w13));replace HK:=Aside0.mk (Kept.of_grown (S:=(fun k_ => P0_ k_)) hg (by repeat (first | (with_reducible first | exact HK.out | apply Kept.alloc | apply Kept.drewN | apply Kept.drew) | exact HK.out)) (fun k_ e_ => (HO_0.out.1 k_ e_)));replace HO_0:=Aside0.mk hp_;clear hg hw hp_) | ((with_reducible refine gate_callee (f:=52) rfl ?_);refine goesL_ (some 23) rfl rfl Tryz.func52 (by kernel_rfl) rfl #[.int .i64 (wrap64 (x1_1 + 1))] rfl zM0 ?_;(with_reducible refine (laws_markText.calls k1 (wrap64 (x1_1 + 1)) t445 _ A7.out).mono ?_);rintro e w14 ⟨rfl,hb⟩;refine ⟨_,rfl,?_⟩;replace HO_0:=Aside0.mk (Kd.R_below (zR0 HO_0.out) hb);replace HK:=Aside0.mk (Kept.below (S:=(fun k_ => P0_ k_)) (by repeat (first | (with_reducible first | exact HK.out | apply Kept.alloc | apply Kept.drewN | apply Kept.drew) | exact HK.out)) hb);replace HB:=zs0 HB hb;(try clear hb);(try clear hk);have p8 : 0 ≤ (x5_1 : Int):=zD0;have q8 : (x5_1 : Int) < ((x0_1.length : Int) : Int):=zD0;obtain ⟨ce8,hcl8,hM8,hcc8,hfr8⟩:=Kd.R_elem HO_0.out z46 (x5_1 : Int) p8 q8;obtain rfl:=k46_openM hM8;have hx8_0 : w14.cell? ⟨go6,(x5_1 : Int).toNat * 3,none⟩ = some (.string ((rd_T46 y444 x5_1).f0)):=hcc8 0 _ rfl;have hx8_1 : w14.cell? ⟨go6,(x5_1 : Int).toNat * 3 + 1,none⟩ = some (.string ((rd_T46 y444 x5_1).f1)):=hcc8 1 _ rfl;have hx8_2 : w14.cell? ⟨go6,(x5_1 : Int).toNat * 3 + 2,none⟩ = some (.int .i64 ((rd_T46 y444 x5_1).f2)):=hcc8 2 _ rfl;have hf8_0 : w14.frozen? ⟨go6,(x5_1 : Int).toNat * 3,none⟩ = false:=hfr8 0;have hf8_1 : w14.frozen? ⟨go6,(x5_1 : Int).toNat * 3 + 1,none⟩ = false:=hfr8 1;have hf8_2 : w14.frozen? ⟨go6,(x5_1 : Int).toNat * 3 + 2,none⟩ = false:=hfr8 2;clear hcl8 hcc8 hfr8 hM8;replace p8:=eq_true p8;replace q8:=eq_true q8;have HX15:=Aside0.mk (show Kd.R k46 46 w14 w0.heap.size (fun k_ => (P0_ k_ ∨ w.heap.size ≤ k_)) (.slice (some ⟨go6,0,none⟩) x0_1.length co10) y444 from (zR0 HO_0.out));obtain ⟨ce15,hcl15,hM15,hcc15,hfr15⟩:=Kd.R_elem HX15.out z46 (x5_1 : Int) (zD0) (by have h_ : (x5_1 : Int) < ((x0_1.length : Int) : Int):=zD0;first | exact h_ | (have e_:=(Kd.R_reads' HO_0.out).1;omega) | simpa using h_);obtain rfl:=k46_openM hM15;have HP15:=Kd.R_seg HX15.out (x5_1 : Int) (zD0) (by have h_ : (x5_1 : Int) < ((x0_1.length : Int) : Int):=zD0;first | exact h_ | (have e_:=(Kd.R_reads' HO_0.out).1;omega) | simpa using h_) (seg:=[.string t445]) (j:=1) hcl15 hcc15 (show 2 ≤ 3 from by decide) (x':=(⟨(rd_T46 y444 x5_1).f0,t445,(rd_T46 y444 x5_1).f2⟩ : S46)) (k46_mkM _ _ _ (⟨(rd_T46 y444 x5_1).f0,t445,(rd_T46 y444 x5_1).f2⟩ : S46) ) (fun _ hk => hk);have hx15_1:=hcc15 1 _ rfl;(try simp only [show (k46).sz = 3 from rfl,Nat.mul_one,Nat.add_zero] at hx15_1);have hf15_1:=hfr15 1;(try simp only [show (k46).sz = 3 from rfl,Nat.mul_one,Nat.add_zero] at hf15_1);clear hcl15 hcc15 hfr15 hM15) | ((with_reducible refine gate_store (t:=9) (p:=25) rfl ?_);refine store_event (t:=9) (p:=25) (v:=?vo_w16) (w1:=(w14.setCell ⟨go6,(x5_1 : Int).toNat * 3 + 1,none⟩ (.string t445))) ?hg ?ho ?hn ?hr ?_;(case ho => rfl);(case hg => rfl);(case hn => rfl);(case hr => first | (go_simp;done) | (go_simp;rfl));intro w16 hw;have hg : w14.grownBy w16 (some go6):=(by rw [hw];exact HP15.2);have hp_ : Kd.R k46 46 w16 w0.heap.size (fun k_ => (P0_ k_ ∨ w.heap.size ≤ k_)) (.slice (some ⟨go6,0,none⟩) x0_1.length co10) y446:=(by rw [hw,Ny446.out];exact HP15.1);clear HP15;replace HB:=Aside0.mk ((by rw [hw];exact below_set (HB.out) GB6.out : Below w0.heap.size w0 w16));replace HK:=Aside0.mk (Kept.of_grown (S:=(fun k_ => P0_ k_)) hg (by repeat (first | (with_reducible first | exact HK.out | apply Kept.alloc | apply Kept.drewN | apply Kept.drew) | exact HK.out)) (fun k_ e_ => (HO_0.out.1 k_ e_)));replace HO_0:=Aside0.mk hp_;clear hg hw hp_;have p9 : 0 ≤ (x5_1 : Int):=zD0;have q9 : (x5_1 : Int) < ((x0_1.length : Int) : Int):=zD0;obtain ⟨ce9,hcl9,hM9,hcc9,hfr9⟩:=Kd.R_elem HO_0.out z46 (x5_1 : Int) p9 q9;obtain rfl:=k46_openM hM9;have hx9_0 : w16.cell? ⟨go6,(x5_1 : Int).toNat * 3,none⟩ = some (.string ((rd_T46 y446 x5_1).f0)):=hcc9 0 _ rfl;have hx9_1 : w16.cell? ⟨go6,(x5_1 : Int).toNat * 3 + 1,none⟩ = some (.string ((rd_T46 y446 x5_1).f1)):=hcc9 1 _ rfl;have hx9_2 : w16.cell? ⟨go6,(x5_1 : Int).toNat * 3 + 2,none⟩ = some (.int .i64 ((rd_T46 y446 x5_1).f2)):=hcc9 2 _ rfl;have hf9_0 : w16.frozen? ⟨go6,(x5_1 : Int).toNat * 3,none⟩ = false:=hfr9 0;have hf9_1 : w16.frozen? ⟨go6,(x5_1 : Int).toNat * 3 + 1,none⟩ = false:=hfr9 1;have hf9_2 : w16.frozen? ⟨go6,(x5_1 : Int).toNat * 3 + 2,none⟩ = false:=hfr9 2;clear hcl9 hcc9 hfr9 hM9;replace p9:=eq_true p9;replace q9:=eq_true q9;have HX17:=Aside0.mk (show Kd.R k46 46 w16 w0.heap.size (fun k_ => (P0_ k_ ∨ w.heap.size ≤ k_)) (.slice (some ⟨go6,0,none⟩) x0_1.length co10) y446 from (zR0 HO_0.out));obtain ⟨ce17,hcl17,hM17,hcc17,hfr17⟩:=Kd.R_elem HX17.out z46 (x5_1 : Int) (zD0) (by have h_ : (x5_1 : Int) < ((x0_1.length : Int) : Int):=zD0;first | exact h_ | (have e_:=(Kd.R_reads' HO_0.out).1;omega) | simpa using h_);obtain rfl:=k46_openM hM17;have HP17:=Kd.R_seg HX17.out (x5_1 : Int) (zD0) (by have h_ : (x5_1 : Int) < ((x0_1.length : Int) : Int):=zD0;first | exact h_ | (have e_:=(Kd.R_reads' HO_0.out).1;omega) | simpa using h_) (seg:=[.int .i64 (wrap64 ((wrap64 (x1_1 + 1)) + 1))]) (j:=2) hcl17 hcc17 (show 3 ≤ 3 from by decide) (x':=(⟨(rd_T46 y446 x5_1).f0,(rd_T46 y446 x5_1).f1,wrap64 ((wrap64 (x1_1 + 1)) + 1)⟩ : S46)) (k46_mkM _ _ _ (⟨(rd_T46 y446 x5_1).f0,(rd_T46 y446 x5_1).f1,wrap64 ((wrap64 (x1_1 + 1)) + 1)⟩ : S46) ) (fun _ hk => hk);have hx17_2:=hcc17 2 _ rfl;(try simp only [show (k46).sz = 3 from rfl,Nat.mul_one,Nat.add_zero] at hx17_2);have hf17_2:=hfr17 2;(try simp only [show (k46).sz = 3 from rfl,Nat.mul_one,Nat.add_zero] at hf17_2);clear hcl17 hcc17 hfr17 hM17) | ((with_reducible refine gate_store (t:=3) (p:=32) rfl ?_);refine store_event (t:=3) (p:=32) (v:=?vo_w18) (w1:=(w16.setCell ⟨go6,(x5_1 : Int).toNat * 3 + 2,none⟩ (.int .i64 (wrap64 ((wrap64 (x1_1 + 1)) + 1))))) ?hg ?ho ?hn ?hr ?_;(case ho => rfl);(case hg => rfl);(case hn => rfl);(case hr => first | (go_simp;done) | (go_simp;rfl));intro w18 hw;have hg : w16.grownBy w18 (some go6):=(by rw [hw];exact HP17.2);have hp_ : Kd.R k46 46 w18 w0.heap.size (fun k_ => (P0_ k_ ∨ w.heap.size ≤ k_)) (.slice (some ⟨go6,0,none⟩) x0_1.length co10) y447:=(by rw [hw,Ny447.out];exact HP17.1);clear HP17;replace HB:=Aside0.mk ((by rw [hw];exact below_set (HB.out) GB6.out : Below w0.heap.size w0 w18));replace HK:=Aside0.mk (Kept.of_grown (S:=(fun k_ => P0_ k_)) hg (by repeat (first | (with_reducible first | exact HK.out | apply Kept.alloc | apply Kept.drewN | apply Kept.drew) | exact HK.out)) (fun k_ e_ => (HO_0.out.1 k_ e_)));replace HO_0:=Aside0.mk hp_;clear hg hw hp_))
     go_roundg k1
     case measure => have:=HK1.out;omega
     case rel => exact ⟨(y447),(wrap64 ((wrap64 ((wrap64 (x1_1 + 1)) + 1)) + 1)),(wrap64 (x5_1 + 1)),zE0,zE0,H',⟨by have:=HK1.out;omega⟩,⟨zR0 HO_0.out⟩,⟨by repeat (first | (with_reducible first | exact HK.out | apply Kept.alloc | apply Kept.drewN | apply Kept.drew) | exact HK.out)⟩,⟨zY0 HB.out⟩⟩
    ·rw [if_neg c5] at H
     exact absurd H (by simp)
   ·rw [if_neg c3] at H
    have c3b0 : decide (x5_1 < (x0_1.length : Int)) = false:=decide_eq_false c3
    clear c3
    simp only [Option.some.injEq,Prod.mk.injEq] at H
    obtain ⟨rfl,rfl⟩:=H
    obtain ⟨Ao19,co19,eo19⟩:=Kd.R_slice HO_0.out
    subst eo19
    go_wp2
    go_ret
    exact ⟨zW0,by exact zR0 HO_0.out,(zY0 HB.out),by repeat (first | (with_reducible first | exact HK.out | apply Kept.alloc | apply Kept.drewN | apply Kept.drew) | exact HK.out)⟩

/-! ### laws_markDisk: function 10 -/
def laws_markDisk.f (k : Nat) (l0_0 : List (S46)) (a1 : Int) : Option (Int × (List (S46))):=(laws_markFileS.f k l0_0 a1).bind fun bt449 => (some (bt449.1,bt449.2))
theorem laws_markDisk.mono : ∀ a0 a1 k,LeO (laws_markDisk.f k a0 a1) (laws_markDisk.f (k + 1) a0 a1):=by
 intro a0 a1 k
 unfold laws_markDisk.f
 repeat' first
  | (with_reducible exact laws_markFileS.mono _ _ _)
  | (with_reducible exact LeO.refl _)
  | (with_reducible exact LeO.none _)
  | (with_reducible refine LeO.ite ?_ ?_)
  | (with_reducible refine LeO.bind ?_ (fun _ => ?_))
set_option maxHeartbeats 8000000 in
set_option maxRecDepth 100000 in
theorem laws_markDisk.calls (k : Nat) (P0_0_ : Nat → Prop) (u9000_ : Value) (l0_0 : List (S46)) (a1 : Int) (r1 : Int) (r2 : List (S46)) (w0 w : World) (hB : Below w0.heap.size w0 w) (ho0_0 : Kd.R k46 46 w w0.heap.size P0_0_ u9000_ l0_0) (h : laws_markDisk.f k l0_0 a1 = some (r1,r2)) :
  Calls Tryz.prog 10 #[.agg #[u9000_],.int .i64 a1] w fun e w' => e = .returned (.int .i64 r1) ∧ Kd.R k46 46 w' w0.heap.size (fun k_ => (P0_0_ k_ ∨ w.heap.size ≤ k_)) u9000_ r2 ∧ Below w0.heap.size w0 w' ∧ Kept w w' (fun k_ => P0_0_ k_):=by
 have hu31:=Tryz.underlying31
 have HO0_0:=Aside0.mk (show Kd.R k46 46 w w0.heap.size (fun k_ => (P0_0_ k_ ∨ w.heap.size ≤ k_)) u9000_ l0_0 from Kd.R_mono ho0_0 (fun k_ hk => (.inl hk)))
 have HK:=Aside0.mk (Kept.refl w (fun k_ => P0_0_ k_))
 have HW0:=Aside0.mk hB.size
 have HB:=Aside0.mk hB
 clear hB
 have H : ((laws_markFileS.f k l0_0 a1).bind fun bt449 => (some (bt449.1,bt449.2))) = some (r1,r2):=h
 clear h
 obtain ⟨⟨t449,t450⟩,A3,H⟩:=bX0 H
 dsimp only at H
 simp only [Option.some.injEq,Prod.mk.injEq] at H
 obtain ⟨rfl,rfl⟩:=H
 obtain ⟨Ao4,co4,eo4⟩:=Kd.R_slice HO0_0.out
 subst eo4
 go_enter Tryz.func10,Tryz.ntmps10
 go_wp2_with (first | ((with_reducible refine gate_dst (N:=2) rfl ?_);refine zy0 (cs:=#[.slice Ao4 l0_0.length co4]) (t:=31) ?_;intro gb448 hg w5 hbox hb;replace HO0_0:=Aside0.mk (Kd.R_below (zR0 HO0_0.out) hb);have BK448:=Aside0.mk hbox;have GW448:=Aside0.mk ((by rw [hg];exact (by first | exact HK.out.1 | exact (show Kept w _ (fun k_ => P0_0_ k_) from by repeat (first | (with_reducible first | exact HK.out | apply Kept.alloc | apply Kept.drewN | apply Kept.drew) | exact HK.out)).1) : w.heap.size ≤ gb448));replace HK:=Aside0.mk (Kept.below (S:=(fun k_ => P0_0_ k_)) (by repeat (first | (with_reducible first | exact HK.out | apply Kept.alloc | apply Kept.drewN | apply Kept.drew) | exact HK.out)) hb);have GE448:=Aside0.mk ((by rw [hg];exact (zZ0 HB.out) : w0.heap.size ≤ gb448));replace HB:=zs0 HB hb;clear hb hbox hg;obtain ⟨_,_⟩:=zd01 BK448) | ((with_reducible refine gate_callee (f:=28) rfl ?_);refine goesL_ (some 8) rfl rfl Tryz.func28 (by kernel_rfl) rfl #[.slice Ao4 l0_0.length co4,.int .i64 a1] rfl zM0 ?_;(with_reducible refine (laws_markFileS.calls k (fun k_ => some k_ = (.slice Ao4 l0_0.length co4 : Value).ownBlock) (.slice Ao4 l0_0.length co4) l0_0 a1 t449 t450 w0 _ ?side1 ?side2 A3.out).mono ?_);(case side1 => repeat (first | (with_reducible first | exact HB.out | apply below_alloc | apply pw_below_drewN | apply below_drew1 | refine below_set ?_ GE448.out) | exact HB.out));(case side2 => exact Kd.R_tight rfl HO0_0.out);rintro e w7 ⟨rfl,hy0,hb,hkp⟩;refine ⟨_,rfl,?_⟩;replace BK448:=Aside0.mk (blk_kept (zK0 BK448.out) hkp (fun hs_ => (fun e_ => (Kd.R_ne HO0_0.out BK448.out (by decide)) e_) hs_));replace HK:=Aside0.mk (Kept.then_ (S:=(fun k_ => P0_0_ k_)) (by repeat (first | (with_reducible first | exact HK.out | apply Kept.alloc | apply Kept.drewN | apply Kept.drew | refine Kept.setCell ?_ (.inr GW448.out) _) | exact HK.out)) hkp (fun k_ hs_ => (fun e_ => (HO0_0.out.1 k_ e_.symm)) hs_));replace HO0_0:=Aside0.mk (Kd.R_reok rfl hy0 (fun k_ e_ => HO0_0.out.1 k_ e_));replace HB:=Aside0.mk hb;(try clear hb);(try clear hkp);(try clear hy0)))
 go_ret
 exact ⟨zW0,by exact zR0 HO0_0.out,(zY0 HB.out),by repeat (first | (with_reducible first | exact HK.out | apply Kept.alloc | apply Kept.drewN | apply Kept.drew | refine Kept.setCell ?_ (.inr GW448.out) _) | exact HK.out)⟩

/-! ### laws_markIntS: function 11 -/
def laws_markIntS.l0 : Nat → List Int → Int → Int → Option (Int × List Int)
 | 0,_,_,_ => none
 | k + 1,x0,x1,x5 => if x5 < (x0.length : Int) then (if 0 ≤ x5 then (laws_markIntS.l0 k (x0.set (x5 : Int).toNat x1) (wrap64 (x1 + 1)) (wrap64 (x5 + 1))) else (none)) else (some (x1,x0))
def laws_markIntS.f (k : Nat) (l0 : List Int) (a1 : Int) : Option (Int × List Int):=laws_markIntS.l0 k l0 a1 0
theorem laws_markIntS.mono_l : ∀ k,(∀ y0 y1 y2,LeO (laws_markIntS.l0 k y0 y1 y2) (laws_markIntS.l0 (k + 1) y0 y1 y2))
 | 0 => fun _ _ _ r h => by simp [laws_markIntS.l0] at h
 | k + 1 => by
  have ih0:=laws_markIntS.mono_l k
  ·intro y0 y1 y2
   unfold laws_markIntS.l0
   repeat' first
  | (with_reducible exact ih0 _ _ _)
  | (with_reducible exact LeO.refl _)
  | (with_reducible exact LeO.none _)
  | (with_reducible refine LeO.ite ?_ ?_)
  | (with_reducible refine LeO.bind ?_ (fun _ => ?_))
theorem laws_markIntS.mono : ∀ a0 a1 k,LeO (laws_markIntS.f k a0 a1) (laws_markIntS.f (k + 1) a0 a1):=by
 intro a0 a1 k
 have ih0:=laws_markIntS.mono_l k
 unfold laws_markIntS.f
 repeat' first
  | (with_reducible exact ih0 _ _ _)
  | (with_reducible exact LeO.refl _)
  | (with_reducible exact LeO.none _)
  | (with_reducible refine LeO.ite ?_ ?_)
  | (with_reducible refine LeO.bind ?_ (fun _ => ?_))
set_option maxHeartbeats 8000000 in
set_option maxRecDepth 100000 in
theorem laws_markIntS.calls (k : Nat) (P0_ : Nat → Prop) (u9000_ : Value) (l0 : List Int) (a1 : Int) (r1 : Int) (r2 : List Int) (w0 w : World) (hB : Below w0.heap.size w0 w) (ho0 : Kd.R (Kd.int .i64) 3 w w0.heap.size P0_ u9000_ l0) (h : laws_markIntS.f k l0 a1 = some (r1,r2)) :
  Calls Tryz.prog 11 #[u9000_,.int .i64 a1] w fun e w' => e = .returned (.int .i64 r1) ∧ Kd.R (Kd.int .i64) 3 w' w0.heap.size (fun k_ => (P0_ k_ ∨ w.heap.size ≤ k_)) u9000_ r2 ∧ Below w0.heap.size w0 w' ∧ Kept w w' (fun k_ => P0_ k_):=by
 have HO0:=Aside0.mk (show Kd.R (Kd.int .i64) 3 w w0.heap.size (fun k_ => (P0_ k_ ∨ w.heap.size ≤ k_)) u9000_ l0 from Kd.R_mono ho0 (fun k_ hk => (.inl hk)))
 have HK:=Aside0.mk (Kept.refl w (fun k_ => P0_ k_))
 have HW0:=Aside0.mk hB.size
 have HB:=Aside0.mk hB
 clear hB
 have H : (laws_markIntS.l0 k l0 a1 0) = some (r1,r2):=h
 clear h
 have H':=Aside0.mk H
 clear H
 go_enter Tryz.func11,Tryz.ntmps11
 go_wp2
 go_loopg [1,5] k (fun kq v1 v5 w' => ∃ (x0_1 : List Int) (x1_1 : Int) (x5_1 : Int),v1 = .int .i64 x1_1 ∧ v5 = .int .i64 x5_1 ∧ Aside0 (laws_markIntS.l0 kq x0_1 x1_1 x5_1 = some (r1,r2)) ∧ Aside0 (kq ≤ k) ∧ Aside0 (Kd.R (Kd.int .i64) 3 w' w0.heap.size (fun k_ => (P0_ k_ ∨ w.heap.size ≤ k_)) u9000_ x0_1) ∧ Aside0 (Kept w w' (fun k_ => P0_ k_)) ∧ Aside0 (Below w0.heap.size w0 w'))
 case atStart => exact ⟨(l0),(a1),(0),zE0,zE0,H',⟨Nat.le_refl _⟩,⟨zR0 HO0.out⟩,⟨by repeat (first | (with_reducible first | exact HK.out | apply Kept.alloc | apply Kept.drewN | apply Kept.drew) | exact HK.out)⟩,⟨zY0 HB.out⟩⟩
 case round =>
  clear H'
  obtain ⟨x0_1,x1_1,x5_1,rfl,rfl,HA,HK1,HO_0,HK,HB⟩:=hrel
  cases gk with
  | zero => exact absurd HA.out (by simp [laws_markIntS.l0])
  | succ k1 =>
   have H:=HA.out
   clear HA
   simp only [laws_markIntS.l0] at H
   by_cases c3 : x5_1 < (x0_1.length : Int)
   ·rw [if_pos c3] at H
    have c3b0 : decide (x5_1 < (x0_1.length : Int)) = true:=decide_eq_true c3
    clear c3
    by_cases c4 : 0 ≤ x5_1
    ·rw [if_pos c4] at H
     have c4b0 : decide (0 ≤ x5_1) = true:=decide_eq_true c4
     clear c4
     obtain ⟨y451,hy451⟩ : ∃ y_ : List Int,y_ = (x0_1.set (x5_1 : Int).toNat x1_1):=⟨_,rfl⟩
     replace H : (laws_markIntS.l0 k1 y451 (wrap64 (x1_1 + 1)) (wrap64 (x5_1 + 1))) = some (r1,r2):=by first | (rw [hy451];with_reducible exact H) | (have H2_:=(Option.bind_some _ _).symm.trans H;rw [hy451];with_reducible exact H2_) | (have H2_:=(Option.bind_some _ _).symm.trans H;with_reducible exact H2_) | with_reducible exact H | (rw [hy451];exact H) | exact H
     have Ny451:=Aside0.mk hy451
     clear hy451
     have H':=Aside0.mk H
     clear H
     obtain ⟨Ao6,co6,eo6⟩:=Kd.R_slice HO_0.out
     subst eo6
     have p5 : 0 ≤ (x5_1 : Int):=zD0
     have q5 : (x5_1 : Int) < ((x0_1.length : Int) : Int):=zD0
     obtain ⟨go5,co5,eo5,gb5,gl5,cl5,HG5⟩:=Kd.R_form HO_0.out (by omega)
     (first | cases eo5 | (injection eo5 with ea_ en_ ec_;(first | subst ea_ | (injection ea_ with ea_;subst ea_));subst ec_;clear en_))
     have GB5:=Aside0.mk gb5
     have GG5:=Aside0.mk HG5
     clear gb5 gl5 HG5
     have HMgo5:=Aside0.mk (show (P0_ go5 ∨ w.heap.size ≤ go5) from (HO_0.out.1 _ rfl))
     obtain ⟨hx5_0,hf5_0⟩:=Kd.R_celln 0 HO_0.out (x5_1 : Int) p5 q5
     replace p5:=eq_true p5
     replace q5:=eq_true q5
     have HP7:=Kd.R_putg HO_0.out (x5_1 : Int) x1_1
     go_wp2_with (first | ((with_reducible refine gate_store (t:=3) (p:=15) rfl ?_);refine store_event (t:=3) (p:=15) (v:=?vo_w8) (w1:=(wr.setCell ⟨go5,(x5_1 : Int).toNat,none⟩ (.int .i64 x1_1))) ?hg ?ho ?hn ?hr ?_;(case ho => rfl);(case hg => rfl);(case hn => rfl);(case hr => first | (go_simp;done) | (go_simp;rfl));intro w8 hw;have hg : wr.grownBy w8 (some go5):=(by rw [hw];exact HP7.2);have hp_ : Kd.R (Kd.int .i64) 3 w8 w0.heap.size (fun k_ => (P0_ k_ ∨ w.heap.size ≤ k_)) (.slice (some ⟨go5,0,none⟩) x0_1.length co6) y451:=(by rw [hw,Ny451.out];exact HP7.1);clear HP7;replace HB:=Aside0.mk ((by rw [hw];exact below_set (HB.out) GB5.out : Below w0.heap.size w0 w8));replace HK:=Aside0.mk (Kept.of_grown (S:=(fun k_ => P0_ k_)) hg (by repeat (first | (with_reducible first | exact HK.out | apply Kept.alloc | apply Kept.drewN | apply Kept.drew) | exact HK.out)) (fun k_ e_ => (HO_0.out.1 k_ e_)));replace HO_0:=Aside0.mk hp_;clear hg hw hp_))
     go_roundg k1
     case measure => have:=HK1.out;omega
     case rel => exact ⟨(y451),(wrap64 (x1_1 + 1)),(wrap64 (x5_1 + 1)),zE0,zE0,H',⟨by have:=HK1.out;omega⟩,⟨zR0 HO_0.out⟩,⟨by repeat (first | (with_reducible first | exact HK.out | apply Kept.alloc | apply Kept.drewN | apply Kept.drew) | exact HK.out)⟩,⟨zY0 HB.out⟩⟩
    ·rw [if_neg c4] at H
     exact absurd H (by simp)
   ·rw [if_neg c3] at H
    have c3b0 : decide (x5_1 < (x0_1.length : Int)) = false:=decide_eq_false c3
    clear c3
    simp only [Option.some.injEq,Prod.mk.injEq] at H
    obtain ⟨rfl,rfl⟩:=H
    obtain ⟨Ao9,co9,eo9⟩:=Kd.R_slice HO_0.out
    subst eo9
    go_wp2
    go_ret
    exact ⟨zW0,by exact zR0 HO_0.out,(zY0 HB.out),by repeat (first | (with_reducible first | exact HK.out | apply Kept.alloc | apply Kept.drewN | apply Kept.drew) | exact HK.out)⟩

end Go.Proofs.YtlekhcopddajbaaGreatDoor.PFnExactSegments
