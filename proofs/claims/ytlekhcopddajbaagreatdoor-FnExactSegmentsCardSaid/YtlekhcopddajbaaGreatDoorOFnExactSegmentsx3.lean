/- Walks, turned from a print. -/
import Derived.Test.YtlekhcopddajbaaGreatDoorOFnExactSegmentsx0
import Derived.Test.YtlekhcopddajbaaGreatDoorOFnExactSegmentsx1
namespace Go.Proofs.YtlekhcopddajbaaGreatDoor.PFnExactSegments
open Go.RowKit Go.Proofs.YtlekhcopddajbaaGreatDoorW.PrintWords Go.Proofs.YtlekhcopddajbaaGreatDoorW.PrintLast Go.Proofs.YtlekhcopddajbaaGreatDoorW.PrintMore
attribute [local go_sem] max2_int min2_int max_two min_two max_three min_three max_four min_four
set_option linter.unusedVariables false
set_option linter.unusedSimpArgs false

/-! ### spec_l03At: function 15 -/
def spec_l03At.l0 : Nat → ByteArray → Int → List (S46) → Option (Int)
 | 0,_,_,_ => none
 | k + 1,x1,x5,x114000 => if x5 < (x114000.length : Int) then (if 0 ≤ x5 then (if ((rd_T46 x114000 x5).f0).toList = x1.toList then (some x5) else (spec_l03At.l0 k x1 (wrap64 (x5 + 1)) x114000)) else (none)) else (some (-1))
def spec_l03At.f (k : Nat) (l0_0 : List (S46)) (a1 : ByteArray) : Option (Int):=spec_l03At.l0 k a1 0 l0_0
theorem spec_l03At.mono_l : ∀ k,(∀ y0 y1 y2,LeO (spec_l03At.l0 k y0 y1 y2) (spec_l03At.l0 (k + 1) y0 y1 y2))
 | 0 => fun _ _ _ r h => by simp [spec_l03At.l0] at h
 | k + 1 => by
  have ih0:=spec_l03At.mono_l k
  ·intro y0 y1 y2
   unfold spec_l03At.l0
   repeat' first
  | (with_reducible exact ih0 _ _ _)
  | (with_reducible exact LeO.refl _)
  | (with_reducible exact LeO.none _)
  | (with_reducible refine LeO.ite ?_ ?_)
  | (with_reducible refine LeO.bind ?_ (fun _ => ?_))
theorem spec_l03At.mono : ∀ a0 a1 k,LeO (spec_l03At.f k a0 a1) (spec_l03At.f (k + 1) a0 a1):=by
 intro a0 a1 k
 have ih0:=spec_l03At.mono_l k
 unfold spec_l03At.f
 repeat' first
  | (with_reducible exact ih0 _ _ _)
  | (with_reducible exact LeO.refl _)
  | (with_reducible exact LeO.none _)
  | (with_reducible refine LeO.ite ?_ ?_)
  | (with_reducible refine LeO.bind ?_ (fun _ => ?_))
set_option maxHeartbeats 8000000 in
set_option maxRecDepth 100000 in
theorem spec_l03At.calls (k : Nat) (A0_0 : Option Addr) (c0_0 : Nat) (l0_0 : List (S46)) (a1 : ByteArray) (r : Int) (w : World) (hr0_0 : Kd.C k46 w A0_0 l0_0.length l0_0) (hc0_0 : l0_0.length ≤ c0_0) (h : spec_l03At.f k l0_0 a1 = some r) :
  Calls Tryz.prog 15 #[.agg #[.slice A0_0 l0_0.length c0_0],.string a1] w fun e w' => e = .returned (.int .i64 r) ∧ Below w.heap.size w w':=by
 have hu31:=Tryz.underlying31
 have HR0_0:=Aside0.mk hr0_0
 have HC0_0:=Aside0.mk hc0_0
 clear hr0_0 hc0_0
 have HB:=Aside0.mk (Below.refl w.heap.size w)
 have H : (spec_l03At.l0 k a1 0 l0_0) = some r:=h
 clear h
 have H':=Aside0.mk H
 clear H
 go_enter Tryz.func15,Tryz.ntmps15
 go_wp2_with (first | ((with_reducible refine gate_dst (N:=2) rfl ?_);refine zy0 (cs:=#[.slice A0_0 l0_0.length c0_0]) (t:=31) ?_;intro gb113 hg w3 hbox hb;have BK113:=Aside0.mk hbox;have GW113:=zz0 hg HB;have GE113:=zz0 hg HB;replace HB:=zs0 HB hb;clear hb hbox hg))
 go_loopg [5] k (fun kq v5 w' => ∃ (x5_1 : Int),v5 = .int .i64 x5_1 ∧ Aside0 (spec_l03At.l0 kq a1 x5_1 l0_0 = some r) ∧ Aside0 (kq ≤ k) ∧ Aside0 (w'.heap[gb113]? = some (.cells #[(.slice A0_0 l0_0.length c0_0)] 31 (0,0))) ∧ Aside0 (Below w.heap.size w w'))
 case atStart => exact ⟨(0),zE0,H',⟨Nat.le_refl _⟩,⟨zK0 BK113.out⟩,⟨zY0 HB.out⟩⟩
 case round =>
  clear H'
  obtain ⟨x5_1,rfl,HA,HK1,BK113,HB⟩:=hrel
  cases gk with
  | zero => exact absurd HA.out (by simp [spec_l03At.l0])
  | succ k1 =>
   have H:=HA.out
   clear HA
   simp only [spec_l03At.l0] at H
   by_cases c4 : x5_1 < (l0_0.length : Int)
   ·rw [if_pos c4] at H
    have c4b0 : decide (x5_1 < (l0_0.length : Int)) = true:=decide_eq_true c4
    clear c4
    by_cases c5 : 0 ≤ x5_1
    ·rw [if_pos c5] at H
     have c5b0 : decide (0 ≤ x5_1) = true:=decide_eq_true c5
     clear c5
     by_cases c6 : ((rd_T46 l0_0 x5_1).f0).toList = a1.toList
     ·rw [if_pos c6] at H
      have c6b0 : (((rd_T46 l0_0 x5_1).f0).toList == a1.toList) = true:=beq_iff_eq.mpr c6
      have c6b1 : (((rd_T46 l0_0 x5_1).f0).toList != a1.toList) = false:=bne_eq_false_iff_eq.mpr c6
      clear c6
      obtain rfl:=Option.some.inj H
      have hcz7_0 : wr.cell? ⟨gb113,0,none⟩ = some (.slice A0_0 l0_0.length c0_0):=zc00 BK113
      have hfz7_0:=blk_frozen BK113.out 0
      have p114 : 0 ≤ (x5_1 : Int):=zD0
      have q114 : x5_1 < (l0_0.length : Int):=zD0
      obtain ⟨ad114,e114,hx114_0,hx114_1,hx114_2⟩:=at_T46 HR0_0.out x5_1 p114 q114
      cases e114
      replace hx114_0:=zx0 HB hx114_0
      replace hx114_1:=zx0 HB hx114_1
      replace hx114_2:=zx0 HB hx114_2
      replace p114:=eq_true p114
      replace q114:=eq_true q114
      go_wp2
      all_goals try (exfalso;first | (have h_:=of_decide_eq_true c4b0;omega) | (have h_:=of_decide_eq_false c4b0;omega))
      go_ret
      exact ⟨zW0,(zY0 HB.out)⟩
     ·rw [if_neg c6] at H
      have c6b0 : (((rd_T46 l0_0 x5_1).f0).toList == a1.toList) = false:=beq_eq_false_iff_ne.mpr c6
      have c6b1 : (((rd_T46 l0_0 x5_1).f0).toList != a1.toList) = true:=bne_iff_ne.mpr c6
      have H':=Aside0.mk H
      clear H
      have hcz8_0 : wr.cell? ⟨gb113,0,none⟩ = some (.slice A0_0 l0_0.length c0_0):=zc00 BK113
      have hfz8_0:=blk_frozen BK113.out 0
      have p114 : 0 ≤ (x5_1 : Int):=zD0
      have q114 : x5_1 < (l0_0.length : Int):=zD0
      obtain ⟨ad114,e114,hx114_0,hx114_1,hx114_2⟩:=at_T46 HR0_0.out x5_1 p114 q114
      cases e114
      replace hx114_0:=zx0 HB hx114_0
      replace hx114_1:=zx0 HB hx114_1
      replace hx114_2:=zx0 HB hx114_2
      replace p114:=eq_true p114
      replace q114:=eq_true q114
      go_wp2
      go_roundg k1
      case measure => have:=HK1.out;omega
      case rel => exact ⟨(wrap64 (x5_1 + 1)),zE0,H',⟨by have:=HK1.out;omega⟩,⟨zK0 BK113.out⟩,⟨zY0 HB.out⟩⟩
    ·rw [if_neg c5] at H
     exact absurd H (by simp)
   ·rw [if_neg c4] at H
    have c4b0 : decide (x5_1 < (l0_0.length : Int)) = false:=decide_eq_false c4
    clear c4
    obtain rfl:=Option.some.inj H
    have hcz9_0 : wr.cell? ⟨gb113,0,none⟩ = some (.slice A0_0 l0_0.length c0_0):=zc00 BK113
    have hfz9_0:=blk_frozen BK113.out 0
    go_wp2
    all_goals try (exfalso;first | (have h_:=of_decide_eq_true c4b0;omega) | (have h_:=of_decide_eq_false c4b0;omega))
    go_ret
    exact ⟨zW0,(zY0 HB.out)⟩

/-! ### spec_l01Figure: function 53 -/
def spec_l01Figure.f (a0 : Int) : Option (Int):=if a0 < 10 then (some ((wrap64 (48 + a0)) % 256)) else (some ((wrap64 ((wrap64 (97 + a0)) - 10)) % 256))
set_option maxHeartbeats 8000000 in
set_option maxRecDepth 100000 in
theorem spec_l01Figure.calls (a0 : Int) (r : Int) (w : World) (h : spec_l01Figure.f a0 = some r) :
  Calls Tryz.prog 53 #[.int .i64 a0] w fun e w' => e = .returned (.int .u8 r) ∧ Drawn0 w w':=by
 have H : (if a0 < 10 then (some ((wrap64 (48 + a0)) % 256)) else (some ((wrap64 ((wrap64 (97 + a0)) - 10)) % 256))) = some r:=h
 clear h
 by_cases c2 : a0 < 10
 ·rw [if_pos c2] at H
  have c2b0 : decide (a0 < 10) = true:=decide_eq_true c2
  clear c2
  obtain rfl:=Option.some.inj H
  go_enter Tryz.func53,Tryz.ntmps53
  go_wp2
  all_goals try (exfalso;first | (have h_:=of_decide_eq_true c4b0;omega) | (have h_:=of_decide_eq_false c4b0;omega))
  go_ret
  exact ⟨by first | rfl | (simp;done) | (simp [*];done),by repeat (first | exact Drawn0.refl _ | apply Drawn0.step)⟩
 ·rw [if_neg c2] at H
  have c2b0 : decide (a0 < 10) = false:=decide_eq_false c2
  clear c2
  obtain rfl:=Option.some.inj H
  go_enter Tryz.func53,Tryz.ntmps53
  go_wp2
  all_goals try (exfalso;first | (have h_:=of_decide_eq_true c4b0;omega) | (have h_:=of_decide_eq_false c4b0;omega))
  go_ret
  exact ⟨by first | rfl | (simp;done) | (simp [*];done),by repeat (first | exact Drawn0.refl _ | apply Drawn0.step)⟩

/-! ### spec_Decimal: function 32 -/
def spec_Decimal.l0 : Nat → Int → Bool → ByteArray → Option (ByteArray)
 | 0,_,_,_ => none
 | k + 1,x0,x3,x4 => if x0 = 0 then (if x3 = true then (if 1 + x4.size ≤ 9223372036854775807 then (some ((⟨#[45]⟩ : ByteArray) ++ x4)) else (none)) else (some x4)) else (if (Int.tmod x0 10) < 0 then ((spec_l01Figure.f (wrap64 (-(Int.tmod x0 10)))).bind fun t115 => ((some (([t115] : List Int) : List Int)).bind fun y116 => (if (strOfNums y116).size + x4.size ≤ 9223372036854775807 then (spec_Decimal.l0 k (wrap64 (Int.tdiv x0 10)) x3 ((strOfNums y116) ++ x4)) else (none)))) else ((spec_l01Figure.f (Int.tmod x0 10)).bind fun t119 => ((some (([t119] : List Int) : List Int)).bind fun y120 => (if (strOfNums y120).size + x4.size ≤ 9223372036854775807 then (spec_Decimal.l0 k (wrap64 (Int.tdiv x0 10)) x3 ((strOfNums y120) ++ x4)) else (none)))))
def spec_Decimal.f (k : Nat) (a0 : Int) : Option (ByteArray):=if a0 = 0 then (some (⟨#[48]⟩ : ByteArray)) else (spec_Decimal.l0 k a0 (decide (a0 < 0)) (⟨#[]⟩ : ByteArray))
theorem spec_Decimal.mono_l : ∀ k,(∀ y0 y1 y2,LeO (spec_Decimal.l0 k y0 y1 y2) (spec_Decimal.l0 (k + 1) y0 y1 y2))
 | 0 => fun _ _ _ r h => by simp [spec_Decimal.l0] at h
 | k + 1 => by
  have ih0:=spec_Decimal.mono_l k
  ·intro y0 y1 y2
   unfold spec_Decimal.l0
   repeat' first
  | (with_reducible exact ih0 _ _ _)
  | (with_reducible exact LeO.refl _)
  | (with_reducible exact LeO.none _)
  | (with_reducible refine LeO.ite ?_ ?_)
  | (with_reducible refine LeO.bind ?_ (fun _ => ?_))
theorem spec_Decimal.mono : ∀ a0 k,LeO (spec_Decimal.f k a0) (spec_Decimal.f (k + 1) a0):=by
 intro a0 k
 have ih0:=spec_Decimal.mono_l k
 unfold spec_Decimal.f
 repeat' first
  | (with_reducible exact ih0 _ _ _)
  | (with_reducible exact LeO.refl _)
  | (with_reducible exact LeO.none _)
  | (with_reducible refine LeO.ite ?_ ?_)
  | (with_reducible refine LeO.bind ?_ (fun _ => ?_))
set_option maxHeartbeats 8000000 in
set_option maxRecDepth 100000 in
theorem spec_Decimal.calls (k : Nat) (a0 : Int) (r : ByteArray) (w : World) (h : spec_Decimal.f k a0 = some r) :
  Calls Tryz.prog 32 #[.int .i64 a0] w fun e w' => e = .returned (.string r) ∧ Below w.heap.size w w':=by
 have HB:=Aside0.mk (Below.refl w.heap.size w)
 have H : (if a0 = 0 then (some (⟨#[48]⟩ : ByteArray)) else (spec_Decimal.l0 k a0 (decide (a0 < 0)) (⟨#[]⟩ : ByteArray))) = some r:=h
 clear h
 by_cases c2 : a0 = 0
 ·rw [if_pos c2] at H
  have c2b0 : (a0 == 0) = true:=beq_iff_eq.mpr c2
  have c2b1 : (a0 != 0) = false:=bne_eq_false_iff_eq.mpr c2
  clear c2
  obtain rfl:=Option.some.inj H
  go_enter Tryz.func32,Tryz.ntmps32
  go_wp2
  all_goals try (exfalso;first | (have h_:=of_decide_eq_true c4b0;omega) | (have h_:=of_decide_eq_false c4b0;omega))
  go_ret
  exact ⟨zW0,(zY0 HB.out)⟩
 ·rw [if_neg c2] at H
  have c2b0 : (a0 == 0) = false:=beq_eq_false_iff_ne.mpr c2
  have c2b1 : (a0 != 0) = true:=bne_iff_ne.mpr c2
  have H':=Aside0.mk H
  clear H
  go_enter Tryz.func32,Tryz.ntmps32
  go_wp2
  go_loopg [0,4] k (fun kq v0 v4 w' => ∃ (x0_1 : Int) (x4_1 : ByteArray),v0 = .int .i64 x0_1 ∧ v4 = .string x4_1 ∧ Aside0 (spec_Decimal.l0 kq x0_1 (decide (a0 < 0)) x4_1 = some r) ∧ Aside0 (kq ≤ k) ∧ Aside0 (Below w.heap.size w w'))
  case atStart => exact ⟨(a0),((⟨#[]⟩ : ByteArray)),zE0,zE0,H',⟨Nat.le_refl _⟩,⟨zY0 HB.out⟩⟩
  case round =>
   clear H'
   try clear c2
   try clear c2b0
   try clear c2b1
   obtain ⟨x0_1,x4_1,rfl,rfl,HA,HK1,HB⟩:=hrel
   cases gk with
   | zero => exact absurd HA.out (by simp [spec_Decimal.l0])
   | succ k1 =>
    have H:=HA.out
    clear HA
    simp only [spec_Decimal.l0] at H
    by_cases c3 : x0_1 = 0
    ·rw [if_pos c3] at H
     have c3b0 : (x0_1 == 0) = true:=beq_iff_eq.mpr c3
     have c3b1 : (x0_1 != 0) = false:=bne_eq_false_iff_eq.mpr c3
     clear c3
     by_cases c4 : (decide (a0 < 0)) = true
     ·rw [if_pos c4] at H
      have c4b0 : (decide (a0 < 0)) = true:=c4
      clear c4
      by_cases c5 : 1 + x4_1.size ≤ 9223372036854775807
      ·rw [if_pos c5] at H
       have c5b0:=eq_true c5
       have c5b1 : decide (1 + x4_1.size ≤ 9223372036854775807) = true:=decide_eq_true c5
       try have c5b2 : (9223372036854775807 < 1 + x4_1.size) = False:=eq_false (Nat.not_lt.2 c5)
       obtain rfl:=Option.some.inj H
       go_wp2
       all_goals try (exfalso;first | (have h_:=of_decide_eq_true c4b0;omega) | (have h_:=of_decide_eq_false c4b0;omega))
       go_ret
       exact ⟨zW0,(zY0 HB.out)⟩
      ·rw [if_neg c5] at H
       exact absurd H (by simp)
     ·rw [if_neg c4] at H
      have c4b0 : (decide (a0 < 0)) = false:=by simpa using c4
      clear c4
      obtain rfl:=Option.some.inj H
      go_wp2
      all_goals try (exfalso;first | (have h_:=of_decide_eq_true c4b0;omega) | (have h_:=of_decide_eq_false c4b0;omega))
      go_ret
      exact ⟨zW0,(zY0 HB.out)⟩
    ·rw [if_neg c3] at H
     have c3b0 : (x0_1 == 0) = false:=beq_eq_false_iff_ne.mpr c3
     have c3b1 : (x0_1 != 0) = true:=bne_iff_ne.mpr c3
     by_cases c6 : (Int.tmod x0_1 10) < 0
     ·rw [if_pos c6] at H
      have c6b0 : decide ((Int.tmod x0_1 10) < 0) = true:=decide_eq_true c6
      clear c6
      obtain ⟨t115,A7,H⟩:=bX0 H
      obtain ⟨y116,hy116⟩ : ∃ y_ : List Int,y_ = (([t115] : List Int)):=⟨_,rfl⟩
      replace H : (if (strOfNums y116).size + x4_1.size ≤ 9223372036854775807 then (spec_Decimal.l0 k1 (wrap64 (Int.tdiv x0_1 10)) (decide (a0 < 0)) ((strOfNums y116) ++ x4_1)) else (none)) = some r:=by first | (rw [hy116];with_reducible exact H) | (have H2_:=(Option.bind_some _ _).symm.trans H;rw [hy116];with_reducible exact H2_) | (have H2_:=(Option.bind_some _ _).symm.trans H;with_reducible exact H2_) | with_reducible exact H | (rw [hy116];exact H) | exact H
      have Ny116:=Aside0.mk hy116
      clear hy116
      by_cases c8 : (strOfNums y116).size + x4_1.size ≤ 9223372036854775807
      ·rw [if_pos c8] at H
       have c8b0:=eq_true c8
       have c8b1 : decide ((strOfNums y116).size + x4_1.size ≤ 9223372036854775807) = true:=decide_eq_true c8
       try have c8b2 : (9223372036854775807 < (strOfNums y116).size + x4_1.size) = False:=eq_false (Nat.not_lt.2 c8)
       have H':=Aside0.mk H
       clear H
       go_wp2_with (first | ((with_reducible refine gate_callee (f:=53) rfl ?_);refine goesL_ (some 19) rfl rfl Tryz.func53 (by kernel_rfl) rfl #[.int .i64 (wrap64 (-(Int.tmod x0_1 10)))] rfl zM0 ?_;(with_reducible refine (spec_l01Figure.calls (wrap64 (-(Int.tmod x0_1 10))) t115 _ A7.out).mono ?_);rintro e w' ⟨rfl,⟨nd,rfl⟩⟩;refine ⟨_,rfl,?_⟩) | ((with_reducible refine gate_dst (N:=20) rfl ?_);refine Kd.R_lit (Kd.int .u8) _ 5 ?hg (N:=20) ?hd (xs:=([t115] : List Int)) (inner:=[.int .u8 t115]) (ok:=fun _ => True) (okp:=fun _ => True) ?hr ?hp (fun _ hk => hk) trivial (Below.refl _ _) (Nat.le_refl _) (by simp) ?_;(case hd => rfl);(case hg => rfl);(case hr => first | (go_simp;done) | (go_simp;rfl));(case hp => exact (Reps.one (show Kd.M (Kd.int .u8) _ _ _ t115 [.int .u8 t115] from rfl) (Reps.none _ _)));intro v117 w9 ho10 hb hg_ hnew_;clear hg_ hnew_;(first | rw [← Ny116.out] at ho10 | (simp only [Int.reduceToNat] at ho10;rw [← Ny116.out] at ho10));have HO118:=Aside0.mk (Kd.R_lower ho10 (zZ0 HB.out));replace HB:=zs0 HB hb;clear hb ho10;have hcv11:=own_string (P:=Tryz.prog) Tryz.underlying88 Tryz.underlying5 Tryz.underlying9 (Kd.own_of_R HO118.out)))
       go_roundg k1
       case measure => have:=HK1.out;omega
       case rel => exact ⟨(wrap64 (Int.tdiv x0_1 10)),((strOfNums y116) ++ x4_1),zE0,zE0,H',⟨by have:=HK1.out;omega⟩,⟨zY0 HB.out⟩⟩
      ·rw [if_neg c8] at H
       exact absurd H (by simp)
     ·rw [if_neg c6] at H
      have c6b0 : decide ((Int.tmod x0_1 10) < 0) = false:=decide_eq_false c6
      clear c6
      obtain ⟨t119,A12,H⟩:=bX0 H
      obtain ⟨y120,hy120⟩ : ∃ y_ : List Int,y_ = (([t119] : List Int)):=⟨_,rfl⟩
      replace H : (if (strOfNums y120).size + x4_1.size ≤ 9223372036854775807 then (spec_Decimal.l0 k1 (wrap64 (Int.tdiv x0_1 10)) (decide (a0 < 0)) ((strOfNums y120) ++ x4_1)) else (none)) = some r:=by first | (rw [hy120];with_reducible exact H) | (have H2_:=(Option.bind_some _ _).symm.trans H;rw [hy120];with_reducible exact H2_) | (have H2_:=(Option.bind_some _ _).symm.trans H;with_reducible exact H2_) | with_reducible exact H | (rw [hy120];exact H) | exact H
      have Ny120:=Aside0.mk hy120
      clear hy120
      by_cases c13 : (strOfNums y120).size + x4_1.size ≤ 9223372036854775807
      ·rw [if_pos c13] at H
       have c13b0:=eq_true c13
       have c13b1 : decide ((strOfNums y120).size + x4_1.size ≤ 9223372036854775807) = true:=decide_eq_true c13
       try have c13b2 : (9223372036854775807 < (strOfNums y120).size + x4_1.size) = False:=eq_false (Nat.not_lt.2 c13)
       have H':=Aside0.mk H
       clear H
       go_wp2_with (first | ((with_reducible refine gate_callee (f:=53) rfl ?_);refine goesL_ (some 19) rfl rfl Tryz.func53 (by kernel_rfl) rfl #[.int .i64 (Int.tmod x0_1 10)] rfl zM0 ?_;(with_reducible refine (spec_l01Figure.calls (Int.tmod x0_1 10) t119 _ A12.out).mono ?_);rintro e w' ⟨rfl,⟨nd,rfl⟩⟩;refine ⟨_,rfl,?_⟩) | ((with_reducible refine gate_dst (N:=20) rfl ?_);refine Kd.R_lit (Kd.int .u8) _ 5 ?hg (N:=20) ?hd (xs:=([t119] : List Int)) (inner:=[.int .u8 t119]) (ok:=fun _ => True) (okp:=fun _ => True) ?hr ?hp (fun _ hk => hk) trivial (Below.refl _ _) (Nat.le_refl _) (by simp) ?_;(case hd => rfl);(case hg => rfl);(case hr => first | (go_simp;done) | (go_simp;rfl));(case hp => exact (Reps.one (show Kd.M (Kd.int .u8) _ _ _ t119 [.int .u8 t119] from rfl) (Reps.none _ _)));intro v121 w14 ho15 hb hg_ hnew_;clear hg_ hnew_;(first | rw [← Ny120.out] at ho15 | (simp only [Int.reduceToNat] at ho15;rw [← Ny120.out] at ho15));have HO122:=Aside0.mk (Kd.R_lower ho15 (zZ0 HB.out));replace HB:=zs0 HB hb;clear hb ho15;have hcv16:=own_string (P:=Tryz.prog) Tryz.underlying88 Tryz.underlying5 Tryz.underlying9 (Kd.own_of_R HO122.out)))
       go_roundg k1
       case measure => have:=HK1.out;omega
       case rel => exact ⟨(wrap64 (Int.tdiv x0_1 10)),((strOfNums y120) ++ x4_1),zE0,zE0,H',⟨by have:=HK1.out;omega⟩,⟨zY0 HB.out⟩⟩
      ·rw [if_neg c13] at H
       exact absurd H (by simp)

/-! ### spec_SegName: function 16 -/
def spec_SegName.f (k : Nat) (a0 : Int) : Option (ByteArray):=(spec_l01In.f a0 0 99).bind fun t123 => (if t123 = true then ((spec_Decimal.f k a0).bind fun t124 => (if 1 + t124.size ≤ 9223372036854775807 then (some ((⟨#[98]⟩ : ByteArray) ++ t124)) else (none))) else (some (⟨#[]⟩ : ByteArray)))
theorem spec_SegName.mono : ∀ a0 k,LeO (spec_SegName.f k a0) (spec_SegName.f (k + 1) a0):=by
 intro a0 k
 unfold spec_SegName.f
 repeat' first
  | (with_reducible exact spec_Decimal.mono _ _)
  | (with_reducible exact LeO.refl _)
  | (with_reducible exact LeO.none _)
  | (with_reducible refine LeO.ite ?_ ?_)
  | (with_reducible refine LeO.bind ?_ (fun _ => ?_))
set_option maxHeartbeats 8000000 in
set_option maxRecDepth 100000 in
theorem spec_SegName.calls (k : Nat) (a0 : Int) (r : ByteArray) (w : World) (h : spec_SegName.f k a0 = some r) :
  Calls Tryz.prog 16 #[.int .i64 a0] w fun e w' => e = .returned (.string r) ∧ Below w.heap.size w w':=by
 have HB:=Aside0.mk (Below.refl w.heap.size w)
 have H : ((spec_l01In.f a0 0 99).bind fun t123 => (if t123 = true then ((spec_Decimal.f k a0).bind fun t124 => (if 1 + t124.size ≤ 9223372036854775807 then (some ((⟨#[98]⟩ : ByteArray) ++ t124)) else (none))) else (some (⟨#[]⟩ : ByteArray)))) = some r:=h
 clear h
 obtain ⟨t123,A2,H⟩:=bX0 H
 by_cases c3 : t123 = true
 ·subst c3
  rw [if_pos rfl] at H
  obtain ⟨t124,A4,H⟩:=bX0 H
  by_cases c5 : 1 + t124.size ≤ 9223372036854775807
  ·rw [if_pos c5] at H
   have c5b0:=eq_true c5
   have c5b1 : decide (1 + t124.size ≤ 9223372036854775807) = true:=decide_eq_true c5
   try have c5b2 : (9223372036854775807 < 1 + t124.size) = False:=eq_false (Nat.not_lt.2 c5)
   obtain rfl:=Option.some.inj H
   go_enter Tryz.func16,Tryz.ntmps16
   go_wp2_with (first | ((with_reducible refine gate_callee (f:=31) rfl ?_);refine goesL_ (some 4) rfl rfl Tryz.func31 (by kernel_rfl) rfl #[.int .i64 a0,.int .i64 0,.int .i64 99] rfl zM0 ?_;(with_reducible refine (spec_l01In.calls a0 0 99 true _ A2.out).mono ?_);rintro e w' ⟨rfl,⟨nd,rfl⟩⟩;refine ⟨_,rfl,?_⟩) | ((with_reducible refine gate_callee (f:=32) rfl ?_);refine goesL_ (some 7) rfl rfl Tryz.func32 (by kernel_rfl) rfl #[.int .i64 a0] rfl zM0 ?_;(with_reducible refine (spec_Decimal.calls k a0 t124 _ A4.out).mono ?_);rintro e w6 ⟨rfl,hb⟩;refine ⟨_,rfl,?_⟩;replace HB:=zs0 HB hb;(try clear hb)))
   go_ret
   exact ⟨zW0,(zY0 HB.out)⟩
  ·rw [if_neg c5] at H
   exact absurd H (by simp)
 ·replace c3:=Bool.eq_false_iff.mpr c3
  subst c3
  rw [if_neg (show ¬ (false = true) by decide)] at H
  obtain rfl:=Option.some.inj H
  go_enter Tryz.func16,Tryz.ntmps16
  go_wp2_with (first | ((with_reducible refine gate_callee (f:=31) rfl ?_);refine goesL_ (some 4) rfl rfl Tryz.func31 (by kernel_rfl) rfl #[.int .i64 a0,.int .i64 0,.int .i64 99] rfl zM0 ?_;(with_reducible refine (spec_l01In.calls a0 0 99 false _ A2.out).mono ?_);rintro e w' ⟨rfl,⟨nd,rfl⟩⟩;refine ⟨_,rfl,?_⟩))
  go_ret
  exact ⟨zW0,(zY0 HB.out)⟩

/-! ### spec_l01Var: function 57 -/
def spec_l01Var.l0 : Nat → Int → List Int → Option (ByteArray)
 | 0,_,_ => none
 | k + 1,x0,x3 => if x0 > 127 then (if x3.length < 140737488355328 then (spec_l01Var.l0 k (wrap64 (Int.tdiv x0 128)) (x3 ++ [(wrap64 ((Int.tmod x0 128) + 128)) % 256])) else (none)) else (if x3.length < 140737488355328 then (some (strOfNums (x3 ++ [(x0) % 256]))) else (none))
def spec_l01Var.f (k : Nat) (a0 : Int) : Option (ByteArray):=spec_l01Var.l0 k a0 (([] : List Int))
theorem spec_l01Var.mono_l : ∀ k,(∀ y0 y1,LeO (spec_l01Var.l0 k y0 y1) (spec_l01Var.l0 (k + 1) y0 y1))
 | 0 => fun _ _ r h => by simp [spec_l01Var.l0] at h
 | k + 1 => by
  have ih0:=spec_l01Var.mono_l k
  ·intro y0 y1
   unfold spec_l01Var.l0
   repeat' first
  | (with_reducible exact ih0 _ _)
  | (with_reducible exact LeO.refl _)
  | (with_reducible exact LeO.none _)
  | (with_reducible refine LeO.ite ?_ ?_)
  | (with_reducible refine LeO.bind ?_ (fun _ => ?_))
theorem spec_l01Var.mono : ∀ a0 k,LeO (spec_l01Var.f k a0) (spec_l01Var.f (k + 1) a0):=by
 intro a0 k
 have ih0:=spec_l01Var.mono_l k
 unfold spec_l01Var.f
 repeat' first
  | (with_reducible exact ih0 _ _)
  | (with_reducible exact LeO.refl _)
  | (with_reducible exact LeO.none _)
  | (with_reducible refine LeO.ite ?_ ?_)
  | (with_reducible refine LeO.bind ?_ (fun _ => ?_))
set_option maxHeartbeats 8000000 in
set_option maxRecDepth 100000 in
theorem spec_l01Var.calls (k : Nat) (a0 : Int) (r : ByteArray) (w : World) (h : spec_l01Var.f k a0 = some r) :
  Calls Tryz.prog 57 #[.int .i64 a0] w fun e w' => e = .returned (.string r) ∧ Below w.heap.size w w':=by
 have HB:=Aside0.mk (Below.refl w.heap.size w)
 have H : (spec_l01Var.l0 k a0 (([] : List Int))) = some r:=h
 clear h
 obtain ⟨y125,hy125⟩ : ∃ y_ : List Int,y_ = (([] : List Int)):=⟨_,rfl⟩
 replace H : (spec_l01Var.l0 k a0 y125) = some r:=by first | (rw [hy125];with_reducible exact H) | (have H2_:=(Option.bind_some _ _).symm.trans H;rw [hy125];with_reducible exact H2_) | (have H2_:=(Option.bind_some _ _).symm.trans H;with_reducible exact H2_) | with_reducible exact H | (rw [hy125];exact H) | exact H
 have Ny125:=Aside0.mk hy125
 clear hy125
 have H':=Aside0.mk H
 clear H
 go_enter Tryz.func57,Tryz.ntmps57
 go_wp2_with (first | ((with_reducible refine gate_dst (N:=4) rfl ?_);refine Kd.R_lit (Kd.int .u8) _ 5 ?hg (N:=4) ?hd (xs:=([] : List Int)) (inner:=[]) (ok:=fun _ => True) (okp:=fun _ => True) ?hr ?hp (fun _ hk => hk) trivial (Below.refl _ _) (Nat.le_refl _) (by simp) ?_;(case hd => rfl);(case hg => rfl);(case hr => first | (go_simp;done) | (go_simp;rfl));(case hp => exact (Reps.none _ _));intro v126 w2 ho3 hb hg_ hnew_;clear hg_ hnew_;(first | rw [← Ny125.out] at ho3 | (simp only [Int.reduceToNat] at ho3;rw [← Ny125.out] at ho3));have HO127:=Aside0.mk (Kd.R_lower ho3 (zZ0 HB.out));replace HB:=zs0 HB hb;clear hb ho3))
 go_loopg [0,3] k (fun kq v0 v3 w' => ∃ (x0_1 : Int) (x3_1 : List Int),v0 = .int .i64 x0_1 ∧ Aside0 (spec_l01Var.l0 kq x0_1 x3_1 = some r) ∧ Aside0 (kq ≤ k) ∧ Aside0 (Kd.R (Kd.int .u8) 5 w' w.heap.size (fun _ => True) v3 x3_1) ∧ Aside0 (Below w.heap.size w w'))
 case atStart => exact ⟨(a0),(y125),zE0,H',⟨Nat.le_refl _⟩,⟨zR0 HO127.out⟩,⟨zY0 HB.out⟩⟩
 case round =>
  clear H'
  obtain ⟨x0_1,x3_1,rfl,HA,HK1,HO_3,HB⟩:=hrel
  cases gk with
  | zero => exact absurd HA.out (by simp [spec_l01Var.l0])
  | succ k1 =>
   have H:=HA.out
   clear HA
   simp only [spec_l01Var.l0] at H
   by_cases c4 : x0_1 > 127
   ·rw [if_pos c4] at H
    have c4b0 : decide (127 < x0_1) = true:=decide_eq_true c4
    clear c4
    by_cases c5 : x3_1.length < 140737488355328
    ·rw [if_pos c5] at H
     have LMc5:=Aside0.mk c5
     clear c5
     obtain ⟨y128,hy128⟩ : ∃ y_ : List Int,y_ = (x3_1 ++ [(wrap64 ((Int.tmod x0_1 128) + 128)) % 256]):=⟨_,rfl⟩
     replace H : (spec_l01Var.l0 k1 (wrap64 (Int.tdiv x0_1 128)) y128) = some r:=by first | (rw [hy128];with_reducible exact H) | (have H2_:=(Option.bind_some _ _).symm.trans H;rw [hy128];with_reducible exact H2_) | (have H2_:=(Option.bind_some _ _).symm.trans H;with_reducible exact H2_) | with_reducible exact H | (rw [hy128];exact H) | exact H
     have Ny128:=Aside0.mk hy128
     clear hy128
     have H':=Aside0.mk H
     clear H
     go_wp2_with (first | ((with_reducible refine gate_builtin (b:=.append) (xs:=#[.tmp 7,.tmp 12]) rfl ?_);at_builtin;refine Kd.R_append (Kd.int .u8) (w0:=w) w.heap.size rfl (.tmp 7) (.tmp 12) 88 5 (.int .u8 0) 1 rfl Tryz.underlying88 info5 rfl (by decide) (by omega) u3 x3_1 ((wrap64 ((Int.tmod x0_1 128) + 128)) % 256) [.int .u8 ((wrap64 ((Int.tmod x0_1 128) + 128)) % 256)] (fun _ => True) (fun _ => False) rfl rfl ?aP (fun _ hk => hk.elim) ?aF ?aO ?aB ?aS ?aL ?_;(case aP => exact rfl);(case aB => exact (zY0 HB.out));(case aF => exact (fun _ _ => trivial));(case aO => exact (zR0 HO_3.out));(case aS => exact (zZ0 HB.out));(case aL => have:=LMc5.out;omega);intro v129 w6 ho hb hg hat;rw [← Ny128.out] at ho;replace HB:=Aside0.mk hb;have HO130:=Aside0.mk ho;clear HO_3;clear ho hb hg hat))
     go_roundg k1
     case measure => have:=HK1.out;omega
     case rel => exact ⟨(wrap64 (Int.tdiv x0_1 128)),(y128),zE0,H',⟨by have:=HK1.out;omega⟩,⟨zR0 HO130.out⟩,⟨zY0 HB.out⟩⟩
    ·rw [if_neg c5] at H
     exact absurd H (by simp)
   ·rw [if_neg c4] at H
    have c4b0 : decide (127 < x0_1) = false:=decide_eq_false c4
    clear c4
    by_cases c7 : x3_1.length < 140737488355328
    ·rw [if_pos c7] at H
     have LMc7:=Aside0.mk c7
     clear c7
     obtain ⟨y131,hy131⟩ : ∃ y_ : List Int,y_ = (x3_1 ++ [(x0_1) % 256]):=⟨_,rfl⟩
     replace H : (some (strOfNums y131)) = some r:=by first | (rw [hy131];with_reducible exact H) | (have H2_:=(Option.bind_some _ _).symm.trans H;rw [hy131];with_reducible exact H2_) | (have H2_:=(Option.bind_some _ _).symm.trans H;with_reducible exact H2_) | with_reducible exact H | (rw [hy131];exact H) | exact H
     have Ny131:=Aside0.mk hy131
     clear hy131
     obtain rfl:=Option.some.inj H
     go_wp2_with (first | ((with_reducible refine gate_builtin (b:=.append) (xs:=#[.tmp 16,.tmp 19]) rfl ?_);at_builtin;refine Kd.R_append (Kd.int .u8) (w0:=w) w.heap.size rfl (.tmp 16) (.tmp 19) 88 5 (.int .u8 0) 1 rfl Tryz.underlying88 info5 rfl (by decide) (by omega) u3 x3_1 ((x0_1) % 256) [.int .u8 ((x0_1) % 256)] (fun _ => True) (fun _ => False) rfl rfl ?aP (fun _ hk => hk.elim) ?aF ?aO ?aB ?aS ?aL ?_;(case aP => exact rfl);(case aB => exact (zY0 HB.out));(case aF => exact (fun _ _ => trivial));(case aO => exact (zR0 HO_3.out));(case aS => exact (zZ0 HB.out));(case aL => have:=LMc7.out;omega);intro v132 w8 ho hb hg hat;rw [← Ny131.out] at ho;replace HB:=Aside0.mk hb;have HO133:=Aside0.mk ho;clear HO_3;clear ho hb hg hat;have hcv9:=own_string (P:=Tryz.prog) Tryz.underlying88 Tryz.underlying5 Tryz.underlying9 (Kd.own_of_R HO133.out)))
     go_ret
     exact ⟨zW0,(zY0 HB.out)⟩
    ·rw [if_neg c7] at H
     exact absurd H (by simp)

/-! ### spec_l02Four: function 58 -/
def spec_l02Four.f (a0 : Int) : Option (ByteArray):=some (strOfNums (([(a0 / 16777216) % 256,(a0 / 65536) % 256,(a0 / 256) % 256,(a0) % 256] : List Int)))
set_option maxHeartbeats 8000000 in
set_option maxRecDepth 100000 in
theorem spec_l02Four.calls (a0 : Int) (r : ByteArray) (w : World) (h : spec_l02Four.f a0 = some r) :
  Calls Tryz.prog 58 #[.int .u32 a0] w fun e w' => e = .returned (.string r) ∧ Below w.heap.size w w':=by
 have HB:=Aside0.mk (Below.refl w.heap.size w)
 have H : (some (strOfNums (([(a0 / 16777216) % 256,(a0 / 65536) % 256,(a0 / 256) % 256,(a0) % 256] : List Int)))) = some r:=h
 clear h
 obtain ⟨y134,hy134⟩ : ∃ y_ : List Int,y_ = (([(a0 / 16777216) % 256,(a0 / 65536) % 256,(a0 / 256) % 256,(a0) % 256] : List Int)):=⟨_,rfl⟩
 replace H : (some (strOfNums y134)) = some r:=by first | (rw [hy134];with_reducible exact H) | (have H2_:=(Option.bind_some _ _).symm.trans H;rw [hy134];with_reducible exact H2_) | (have H2_:=(Option.bind_some _ _).symm.trans H;with_reducible exact H2_) | with_reducible exact H | (rw [hy134];exact H) | exact H
 have Ny134:=Aside0.mk hy134
 clear hy134
 obtain rfl:=Option.some.inj H
 go_enter Tryz.func58,Tryz.ntmps58
 go_wp2_with (first | ((with_reducible refine gate_dst (N:=14) rfl ?_);refine Kd.R_lit (Kd.int .u8) _ 5 ?hg (N:=14) ?hd (xs:=([(a0 / 16777216) % 256,(a0 / 65536) % 256,(a0 / 256) % 256,(a0) % 256] : List Int)) (inner:=[.int .u8 ((a0 / 16777216) % 256),.int .u8 ((a0 / 65536) % 256),.int .u8 ((a0 / 256) % 256),.int .u8 ((a0) % 256)]) (ok:=fun _ => True) (okp:=fun _ => True) ?hr ?hp (fun _ hk => hk) trivial (Below.refl _ _) (Nat.le_refl _) (by simp) ?_;(case hd => rfl);(case hg => rfl);(case hr => first | (go_simp;done) | (go_simp;rfl));(case hp => exact (Reps.one (show Kd.M (Kd.int .u8) _ _ _ ((a0 / 16777216) % 256) [.int .u8 ((a0 / 16777216) % 256)] from rfl) (Reps.one (show Kd.M (Kd.int .u8) _ _ _ ((a0 / 65536) % 256) [.int .u8 ((a0 / 65536) % 256)] from rfl) (Reps.one (show Kd.M (Kd.int .u8) _ _ _ ((a0 / 256) % 256) [.int .u8 ((a0 / 256) % 256)] from rfl) (Reps.one (show Kd.M (Kd.int .u8) _ _ _ ((a0) % 256) [.int .u8 ((a0) % 256)] from rfl) (Reps.none _ _))))));intro v135 w2 ho3 hb hg_ hnew_;clear hg_ hnew_;(first | rw [← Ny134.out] at ho3 | (simp only [Int.reduceToNat] at ho3;rw [← Ny134.out] at ho3));have HO136:=Aside0.mk (Kd.R_lower ho3 (zZ0 HB.out));replace HB:=zs0 HB hb;clear hb ho3;have hcv4:=own_string (P:=Tryz.prog) Tryz.underlying88 Tryz.underlying5 Tryz.underlying9 (Kd.own_of_R HO136.out)))
 go_ret
 exact ⟨zW0,(zY0 HB.out)⟩

/-! ### spec_SumMore: function 81 -/
mutual
def spec_SumMore.l0 : Nat → Int → ByteArray → Int → Option (Int)
 | 0,_,_,_ => none
 | k + 1,x0,x1,x5 => if x5 < (x1.size : Int) then (if 0 ≤ x5 then (spec_SumMore.l1 k (Go.bits .xor .u32 x0 ((bt x1 x5) % 4294967296)) x1 x5 0) else (none)) else (some x0)
def spec_SumMore.l1 : Nat → Int → ByteArray → Int → Int → Option (Int)
 | 0,_,_,_,_ => none
 | k + 1,x0,x1,x5,x6 => if x6 < 8 then (if (Int.tmod x0 2) = 1 then (spec_SumMore.l1 k (Go.bits .xor .u32 ((Int.tdiv x0 2) % 4294967296) 3558460437) x1 x5 (wrap64 (x6 + 1))) else (spec_SumMore.l1 k ((Int.tdiv x0 2) % 4294967296) x1 x5 (wrap64 (x6 + 1)))) else (spec_SumMore.l0 k x0 x1 (wrap64 (x5 + 1)))
end
def spec_SumMore.f (k : Nat) (a0 : Int) (a1 : ByteArray) : Option (Int):=spec_SumMore.l0 k a0 a1 0
theorem spec_SumMore.mono_l : ∀ k,(∀ y0 y1 y2,LeO (spec_SumMore.l0 k y0 y1 y2) (spec_SumMore.l0 (k + 1) y0 y1 y2)) ∧ (∀ y0 y1 y2 y3,LeO (spec_SumMore.l1 k y0 y1 y2 y3) (spec_SumMore.l1 (k + 1) y0 y1 y2 y3))
 | 0 => ⟨fun _ _ _ r h => by simp [spec_SumMore.l0] at h,fun _ _ _ _ r h => by simp [spec_SumMore.l1] at h⟩
 | k + 1 => by
  obtain ⟨ih0,ih1⟩:=spec_SumMore.mono_l k
  refine ⟨?_,?_⟩
  intro y0 y1 y2;unfold spec_SumMore.l0;rotate_left
  intro y0 y1 y2 y3;unfold spec_SumMore.l1;rotate_left
  all_goals repeat' first
  | (with_reducible exact ih0 _ _ _)
  | (with_reducible exact ih1 _ _ _ _)
  | (with_reducible exact LeO.refl _)
  | (with_reducible exact LeO.none _)
  | (with_reducible refine LeO.ite ?_ ?_)
  | (with_reducible refine LeO.bind ?_ (fun _ => ?_))
theorem spec_SumMore.mono : ∀ a0 a1 k,LeO (spec_SumMore.f k a0 a1) (spec_SumMore.f (k + 1) a0 a1):=by
 intro a0 a1 k
 obtain ⟨ih0,ih1⟩:=spec_SumMore.mono_l k
 unfold spec_SumMore.f
 repeat' first
  | (with_reducible exact ih0 _ _ _)
  | (with_reducible exact ih1 _ _ _ _)
  | (with_reducible exact LeO.refl _)
  | (with_reducible exact LeO.none _)
  | (with_reducible refine LeO.ite ?_ ?_)
  | (with_reducible refine LeO.bind ?_ (fun _ => ?_))
set_option maxHeartbeats 8000000 in
set_option maxRecDepth 100000 in
theorem spec_SumMore.calls (k : Nat) (a0 : Int) (a1 : ByteArray) (r : Int) (w : World) (h : spec_SumMore.f k a0 a1 = some r) :
  Calls Tryz.prog 81 #[.int .u32 a0,.string a1] w fun e w' => e = .returned (.int .u32 r) ∧ Drawn0 w w':=by
 have H : (spec_SumMore.l0 k a0 a1 0) = some r:=h
 clear h
 have H':=Aside0.mk H
 clear H
 go_enter Tryz.func81,Tryz.ntmps81
 go_wp2
 go_loopg [0,5] k (fun kq v0 v5 w' => ∃ (x0_1 : Int) (x5_1 : Int),v0 = .int .u32 x0_1 ∧ v5 = .int .i64 x5_1 ∧ Aside0 (spec_SumMore.l0 kq x0_1 a1 x5_1 = some r) ∧ Aside0 (kq ≤ k) ∧ Drawn0 w w')
 case atStart => exact ⟨(a0),(0),zE0,zE0,H',⟨Nat.le_refl _⟩,by repeat (first | exact Drawn0.refl _ | apply Drawn0.step)⟩
 case round =>
  clear H'
  obtain ⟨x0_1,x5_1,rfl,rfl,HA,HK1,⟨m1,rfl⟩⟩:=hrel
  cases gk with
  | zero => exact absurd HA.out (by simp [spec_SumMore.l0])
  | succ k1 =>
   have H:=HA.out
   clear HA
   simp only [spec_SumMore.l0] at H
   by_cases c3 : x5_1 < (a1.size : Int)
   ·rw [if_pos c3] at H
    have c3b0 : decide (x5_1 < (a1.size : Int)) = true:=decide_eq_true c3
    clear c3
    by_cases c4 : 0 ≤ x5_1
    ·rw [if_pos c4] at H
     have c4b0 : decide (0 ≤ x5_1) = true:=decide_eq_true c4
     clear c4
     have H':=Aside0.mk H
     clear H
     have p5 : 0 ≤ (x5_1 : Int):=zD0
     have q5 : x5_1 < (a1.size : Int):=zD0
     have hx5:=bt_at a1 x5_1
     replace p5:=eq_true p5
     replace q5:=eq_true q5
     go_wp2
     go_loopg [0,6] k1 (fun kq v0 v6 w' => ∃ (x0_2 : Int) (x6_2 : Int),v0 = .int .u32 x0_2 ∧ v6 = .int .i64 x6_2 ∧ Aside0 (spec_SumMore.l1 kq x0_2 a1 x5_1 x6_2 = some r) ∧ Aside0 (kq ≤ k1) ∧ Drawn0 w w')
     case atStart => exact ⟨(Go.bits .xor .u32 x0_1 ((bt a1 x5_1) % 4294967296)),(0),zE0,zE0,H',⟨Nat.le_refl _⟩,by repeat (first | exact Drawn0.refl _ | apply Drawn0.step)⟩
     case round =>
      clear H'
      try clear c3
      try clear c3b0
      try clear c4
      try clear c4b0
      try clear p5
      try clear q5
      try clear hx5
      try clear p5
      try clear q5
      obtain ⟨x0_2,x6_2,rfl,rfl,HA,HK2,⟨m2,rfl⟩⟩:=hrel
      cases gk with
      | zero => exact absurd HA.out (by simp [spec_SumMore.l1])
      | succ k2 =>
       have H:=HA.out
       clear HA
       simp only [spec_SumMore.l1] at H
       by_cases c6 : x6_2 < 8
       ·rw [if_pos c6] at H
        have c6b0 : decide (x6_2 < 8) = true:=decide_eq_true c6
        clear c6
        by_cases c7 : (Int.tmod x0_2 2) = 1
        ·rw [if_pos c7] at H
         have c7b0 : ((Int.tmod x0_2 2) == 1) = true:=beq_iff_eq.mpr c7
         have c7b1 : ((Int.tmod x0_2 2) != 1) = false:=bne_eq_false_iff_eq.mpr c7
         clear c7
         have H':=Aside0.mk H
         clear H
         go_wp2
         go_roundg k2
         case measure => have:=HK1.out;have:=HK2.out;omega
         case rel => exact ⟨(Go.bits .xor .u32 ((Int.tdiv x0_2 2) % 4294967296) 3558460437),(wrap64 (x6_2 + 1)),zE0,zE0,H',⟨by have:=HK1.out;have:=HK2.out;omega⟩,by repeat (first | exact Drawn0.refl _ | apply Drawn0.step)⟩
        ·rw [if_neg c7] at H
         have c7b0 : ((Int.tmod x0_2 2) == 1) = false:=beq_eq_false_iff_ne.mpr c7
         have c7b1 : ((Int.tmod x0_2 2) != 1) = true:=bne_iff_ne.mpr c7
         have H':=Aside0.mk H
         clear H
         go_wp2
         go_roundg k2
         case measure => have:=HK1.out;have:=HK2.out;omega
         case rel => exact ⟨((Int.tdiv x0_2 2) % 4294967296),(wrap64 (x6_2 + 1)),zE0,zE0,H',⟨by have:=HK1.out;have:=HK2.out;omega⟩,by repeat (first | exact Drawn0.refl _ | apply Drawn0.step)⟩
       ·rw [if_neg c6] at H
        have c6b0 : decide (x6_2 < 8) = false:=decide_eq_false c6
        clear c6
        have H':=Aside0.mk H
        clear H
        go_wp2
        go_roundg k2
        case measure => have:=HK1.out;have:=HK2.out;omega
        case rel => exact ⟨(x0_2),(wrap64 (x5_1 + 1)),zE0,zE0,H',⟨by have:=HK1.out;have:=HK2.out;omega⟩,by repeat (first | exact Drawn0.refl _ | apply Drawn0.step)⟩
    ·rw [if_neg c4] at H
     exact absurd H (by simp)
   ·rw [if_neg c3] at H
    have c3b0 : decide (x5_1 < (a1.size : Int)) = false:=decide_eq_false c3
    clear c3
    obtain rfl:=Option.some.inj H
    go_wp2
    all_goals try (exfalso;first | (have h_:=of_decide_eq_true c4b0;omega) | (have h_:=of_decide_eq_false c4b0;omega))
    go_ret
    exact ⟨by first | rfl | (simp;done) | (simp [*];done),by repeat (first | exact Drawn0.refl _ | apply Drawn0.step)⟩

/-! ### spec_SumOf: function 59 -/
def spec_SumOf.f (k : Nat) (a0 : ByteArray) : Option (Int):=(spec_SumMore.f k 4294967295 a0).bind fun t137 => (some t137)
theorem spec_SumOf.mono : ∀ a0 k,LeO (spec_SumOf.f k a0) (spec_SumOf.f (k + 1) a0):=by
 intro a0 k
 unfold spec_SumOf.f
 repeat' first
  | (with_reducible exact spec_SumMore.mono _ _ _)
  | (with_reducible exact LeO.refl _)
  | (with_reducible exact LeO.none _)
  | (with_reducible refine LeO.ite ?_ ?_)
  | (with_reducible refine LeO.bind ?_ (fun _ => ?_))
set_option maxHeartbeats 8000000 in
set_option maxRecDepth 100000 in
theorem spec_SumOf.calls (k : Nat) (a0 : ByteArray) (r : Int) (w : World) (h : spec_SumOf.f k a0 = some r) :
  Calls Tryz.prog 59 #[.string a0] w fun e w' => e = .returned (.int .u32 r) ∧ Drawn0 w w':=by
 have H : ((spec_SumMore.f k 4294967295 a0).bind fun t137 => (some t137)) = some r:=h
 clear h
 obtain ⟨t137,A2,H⟩:=bX0 H
 obtain rfl:=Option.some.inj H
 go_enter Tryz.func59,Tryz.ntmps59
 go_wp2_with (first | ((with_reducible refine gate_callee (f:=81) rfl ?_);refine goesL_ (some 4) rfl rfl Tryz.func81 (by kernel_rfl) rfl #[.int .u32 4294967295,.string a0] rfl zM0 ?_;(with_reducible refine (spec_SumMore.calls k 4294967295 a0 t137 _ A2.out).mono ?_);rintro e w' ⟨rfl,⟨nd,rfl⟩⟩;refine ⟨_,rfl,?_⟩))
 go_ret
 exact ⟨by first | rfl | (simp;done) | (simp [*];done),by repeat (first | exact Drawn0.refl _ | apply Drawn0.step)⟩

/-! ### spec_Frame: function 35 -/
def spec_Frame.f (k : Nat) (a0 : ByteArray) : Option (ByteArray × Bool):=(spec_l01In.f (a0.size : Int) 1 9000).bind fun t138 => (if t138 = true then ((spec_l01Var.f k (a0.size : Int)).bind fun t139 => ((spec_SumOf.f k a0).bind fun t140 => ((spec_l02Four.f t140).bind fun t141 => (if t139.size + t141.size ≤ 9223372036854775807 then (if (t139 ++ t141).size + a0.size ≤ 9223372036854775807 then (some ((t139 ++ t141) ++ a0,true)) else (none)) else (none))))) else (some ((⟨#[]⟩ : ByteArray),false)))
theorem spec_Frame.mono : ∀ a0 k,LeO (spec_Frame.f k a0) (spec_Frame.f (k + 1) a0):=by
 intro a0 k
 unfold spec_Frame.f
 repeat' first
  | (with_reducible exact spec_SumOf.mono _ _)
  | (with_reducible exact spec_l01Var.mono _ _)
  | (with_reducible exact LeO.refl _)
  | (with_reducible exact LeO.none _)
  | (with_reducible refine LeO.ite ?_ ?_)
  | (with_reducible refine LeO.bind ?_ (fun _ => ?_))
set_option maxHeartbeats 8000000 in
set_option maxRecDepth 100000 in
theorem spec_Frame.calls (k : Nat) (a0 : ByteArray) (r1 : ByteArray) (r2 : Bool) (w : World) (h : spec_Frame.f k a0 = some (r1,r2)) :
  Calls Tryz.prog 35 #[.string a0] w fun e w' => e = .returned (.tuple #[.string r1,.bool r2]) ∧ Below w.heap.size w w':=by
 have HB:=Aside0.mk (Below.refl w.heap.size w)
 have H : ((spec_l01In.f (a0.size : Int) 1 9000).bind fun t138 => (if t138 = true then ((spec_l01Var.f k (a0.size : Int)).bind fun t139 => ((spec_SumOf.f k a0).bind fun t140 => ((spec_l02Four.f t140).bind fun t141 => (if t139.size + t141.size ≤ 9223372036854775807 then (if (t139 ++ t141).size + a0.size ≤ 9223372036854775807 then (some ((t139 ++ t141) ++ a0,true)) else (none)) else (none))))) else (some ((⟨#[]⟩ : ByteArray),false)))) = some (r1,r2):=h
 clear h
 obtain ⟨t138,A2,H⟩:=bX0 H
 by_cases c3 : t138 = true
 ·subst c3
  rw [if_pos rfl] at H
  obtain ⟨t139,A4,H⟩:=bX0 H
  obtain ⟨t140,A5,H⟩:=bX0 H
  obtain ⟨t141,A6,H⟩:=bX0 H
  by_cases c7 : t139.size + t141.size ≤ 9223372036854775807
  ·rw [if_pos c7] at H
   have c7b0:=eq_true c7
   have c7b1 : decide (t139.size + t141.size ≤ 9223372036854775807) = true:=decide_eq_true c7
   try have c7b2 : (9223372036854775807 < t139.size + t141.size) = False:=eq_false (Nat.not_lt.2 c7)
   by_cases c8 : (t139 ++ t141).size + a0.size ≤ 9223372036854775807
   ·rw [if_pos c8] at H
    have c8b0:=eq_true c8
    have c8b1 : decide ((t139 ++ t141).size + a0.size ≤ 9223372036854775807) = true:=decide_eq_true c8
    try have c8b2 : (9223372036854775807 < (t139 ++ t141).size + a0.size) = False:=eq_false (Nat.not_lt.2 c8)
    have c8n:=c8
    simp only [ByteArray.size_append] at c8n
    have c8m1:=eq_true c8n
    have c8m2:=decide_eq_true c8n
    have c8m3:=eq_false (Nat.not_lt.2 c8n)
    try have c8q:=c8n
    try simp only [show (⟨#[66]⟩ : ByteArray).size = 1 from rfl,show (⟨#[72]⟩ : ByteArray).size = 1 from rfl] at c8q
    try have c8q1:=eq_true c8q
    try have c8q2:=decide_eq_true c8q
    try have c8q3:=eq_false (Nat.not_lt.2 c8q)
    simp only [Option.some.injEq,Prod.mk.injEq] at H
    obtain ⟨rfl,rfl⟩:=H
    go_enter Tryz.func35,Tryz.ntmps35
    go_wp2_with (first | ((with_reducible refine gate_callee (f:=31) rfl ?_);refine goesL_ (some 6) rfl rfl Tryz.func31 (by kernel_rfl) rfl #[.int .i64 (a0.size : Int),.int .i64 1,.int .i64 9000] rfl zM0 ?_;(with_reducible refine (spec_l01In.calls (a0.size : Int) 1 9000 true _ A2.out).mono ?_);rintro e w' ⟨rfl,⟨nd,rfl⟩⟩;refine ⟨_,rfl,?_⟩) | ((with_reducible refine gate_callee (f:=57) rfl ?_);refine goesL_ (some 10) rfl rfl Tryz.func57 (by kernel_rfl) rfl #[.int .i64 (a0.size : Int)] rfl zM0 ?_;(with_reducible refine (spec_l01Var.calls k (a0.size : Int) t139 _ A4.out).mono ?_);rintro e w9 ⟨rfl,hb⟩;refine ⟨_,rfl,?_⟩;replace HB:=zs0 HB hb;(try clear hb)) | ((with_reducible refine gate_callee (f:=59) rfl ?_);refine goesL_ (some 12) rfl rfl Tryz.func59 (by kernel_rfl) rfl #[.string a0] rfl zM0 ?_;(with_reducible refine (spec_SumOf.calls k a0 t140 _ A5.out).mono ?_);rintro e w' ⟨rfl,⟨nd,rfl⟩⟩;refine ⟨_,rfl,?_⟩) | ((with_reducible refine gate_callee (f:=58) rfl ?_);refine goesL_ (some 13) rfl rfl Tryz.func58 (by kernel_rfl) rfl #[.int .u32 t140] rfl zM0 ?_;(with_reducible refine (spec_l02Four.calls t140 t141 _ A6.out).mono ?_);rintro e w10 ⟨rfl,hb⟩;refine ⟨_,rfl,?_⟩;replace HB:=zs0 HB hb;(try clear hb)))
    go_ret2
    exact ⟨zW0,(zY0 HB.out)⟩
   ·rw [if_neg c8] at H
    exact absurd H (by simp)
  ·rw [if_neg c7] at H
   exact absurd H (by simp)
 ·replace c3:=Bool.eq_false_iff.mpr c3
  subst c3
  rw [if_neg (show ¬ (false = true) by decide)] at H
  simp only [Option.some.injEq,Prod.mk.injEq] at H
  obtain ⟨rfl,rfl⟩:=H
  go_enter Tryz.func35,Tryz.ntmps35
  go_wp2_with (first | ((with_reducible refine gate_callee (f:=31) rfl ?_);refine goesL_ (some 6) rfl rfl Tryz.func31 (by kernel_rfl) rfl #[.int .i64 (a0.size : Int),.int .i64 1,.int .i64 9000] rfl zM0 ?_;(with_reducible refine (spec_l01In.calls (a0.size : Int) 1 9000 false _ A2.out).mono ?_);rintro e w' ⟨rfl,⟨nd,rfl⟩⟩;refine ⟨_,rfl,?_⟩))
  go_ret2
  exact ⟨zW0,(zY0 HB.out)⟩

end Go.Proofs.YtlekhcopddajbaaGreatDoor.PFnExactSegments
