/- Walks, turned from a print. -/
import Derived.Test.YtlekhcopddajbaaGreatDoorConv
import Derived.Test.YtlekhcopddajbaaGreatDoorOFnExactSegmentsx0
import Derived.Test.YtlekhcopddajbaaGreatDoorOFnExactSegmentsx3
import Derived.Test.YtlekhcopddajbaaGreatDoorOFnExactSegmentsx6
namespace Go.Proofs.YtlekhcopddajbaaGreatDoor.PFnExactSegments
open Go.RowKit Go.Proofs.YtlekhcopddajbaaGreatDoorW.PrintWords Go.Proofs.YtlekhcopddajbaaGreatDoorW.PrintLast Go.Proofs.YtlekhcopddajbaaGreatDoorW.PrintMore
attribute [local go_sem] max2_int min2_int max_two min_two max_three min_three max_four min_four
set_option linter.unusedVariables false
set_option linter.unusedSimpArgs false

/-! ### spec_l05Short: function 83 -/
def spec_l05Short.f (k : Nat) (a0 : ByteArray) : Option (ByteArray):=(spec_l01Var.f k (a0.size : Int)).bind fun t186 => (if t186.size + a0.size ≤ 9223372036854775807 then (some (t186 ++ a0)) else (none))
theorem spec_l05Short.mono : ∀ a0 k,LeO (spec_l05Short.f k a0) (spec_l05Short.f (k + 1) a0):=by
 intro a0 k
 unfold spec_l05Short.f
 repeat' first
  | (with_reducible exact spec_l01Var.mono _ _)
  | (with_reducible exact LeO.refl _)
  | (with_reducible exact LeO.none _)
  | (with_reducible refine LeO.ite ?_ ?_)
  | (with_reducible refine LeO.bind ?_ (fun _ => ?_))
set_option maxHeartbeats 8000000 in
set_option maxRecDepth 100000 in
theorem spec_l05Short.calls (k : Nat) (a0 : ByteArray) (r : ByteArray) (w : World) (h : spec_l05Short.f k a0 = some r) :
  Calls Tryz.prog 83 #[.string a0] w fun e w' => e = .returned (.string r) ∧ Below w.heap.size w w':=by
 have HB:=Aside0.mk (Below.refl w.heap.size w)
 have H : ((spec_l01Var.f k (a0.size : Int)).bind fun t186 => (if t186.size + a0.size ≤ 9223372036854775807 then (some (t186 ++ a0)) else (none))) = some r:=h
 clear h
 obtain ⟨t186,A2,H⟩:=bX0 H
 by_cases c3 : t186.size + a0.size ≤ 9223372036854775807
 ·rw [if_pos c3] at H
  have c3b0:=eq_true c3
  have c3b1 : decide (t186.size + a0.size ≤ 9223372036854775807) = true:=decide_eq_true c3
  try have c3b2 : (9223372036854775807 < t186.size + a0.size) = False:=eq_false (Nat.not_lt.2 c3)
  obtain rfl:=Option.some.inj H
  go_enter Tryz.func83,Tryz.ntmps83
  go_wp2_with (first | ((with_reducible refine gate_callee (f:=57) rfl ?_);refine goesL_ (some 5) rfl rfl Tryz.func57 (by kernel_rfl) rfl #[.int .i64 (a0.size : Int)] rfl zM0 ?_;(with_reducible refine (spec_l01Var.calls k (a0.size : Int) t186 _ A2.out).mono ?_);rintro e w4 ⟨rfl,hb⟩;refine ⟨_,rfl,?_⟩;replace HB:=zs0 HB hb;(try clear hb)))
  go_ret
  exact ⟨zW0,(zY0 HB.out)⟩
 ·rw [if_neg c3] at H
  exact absurd H (by simp)

/-! ### spec_l05Flag: function 84 -/
def spec_l05Flag.f (a0 : Bool) : Option (ByteArray):=if a0 = true then (some (⟨#[1]⟩ : ByteArray)) else (some (⟨#[0]⟩ : ByteArray))
set_option maxHeartbeats 8000000 in
set_option maxRecDepth 100000 in
theorem spec_l05Flag.calls (a0 : Bool) (r : ByteArray) (w : World) (h : spec_l05Flag.f a0 = some r) :
  Calls Tryz.prog 84 #[.bool a0] w fun e w' => e = .returned (.string r) ∧ Drawn0 w w':=by
 have H : (if a0 = true then (some (⟨#[1]⟩ : ByteArray)) else (some (⟨#[0]⟩ : ByteArray))) = some r:=h
 clear h
 by_cases c2 : a0 = true
 ·subst c2
  rw [if_pos rfl] at H
  obtain rfl:=Option.some.inj H
  go_enter Tryz.func84,Tryz.ntmps84
  go_wp2
  go_ret
  exact ⟨by first | rfl | (simp;done) | (simp [*];done),by repeat (first | exact Drawn0.refl _ | apply Drawn0.step)⟩
 ·replace c2:=Bool.eq_false_iff.mpr c2
  subst c2
  rw [if_neg (show ¬ (false = true) by decide)] at H
  obtain rfl:=Option.some.inj H
  go_enter Tryz.func84,Tryz.ntmps84
  go_wp2
  go_ret
  exact ⟨by first | rfl | (simp;done) | (simp [*];done),by repeat (first | exact Drawn0.refl _ | apply Drawn0.step)⟩

/-! ### spec_BatchText: function 61 -/
def spec_BatchText.l0 : Nat → List Int → Int → Int → List (S100) → Option (ByteArray × Bool)
 | 0,_,_,_,_ => none
 | k + 1,x4,x5,x188000,x188001 => if x5 < (x188001.length : Int) then (if 0 ≤ x5 then ((spec_l05Short.f k ((rd_T100 x188001 x5).f0)).bind fun t196 => ((spec_l05Flag.f ((rd_T100 x188001 x5).f2)).bind fun t197 => (if t196.size + t197.size ≤ 9223372036854775807 then ((spec_l05Short.f k ((rd_T100 x188001 x5).f1)).bind fun t198 => (if (t196 ++ t197).size + t198.size ≤ 9223372036854775807 then (if ((t196 ++ t197) ++ t198).size < 140737488355328 then ((some (bytesOf ((t196 ++ t197) ++ t198) : List Int)).bind fun y199 => (if x4.length + y199.length < 140737488355328 then (spec_BatchText.l0 k (x4 ++ y199) (wrap64 (x5 + 1)) x188000 x188001) else (none))) else (none)) else (none))) else (none)))) else (none)) else (if (x4.length : Int) > 9000 then (some ((⟨#[]⟩ : ByteArray),false)) else (some (strOfNums x4,true)))
def spec_BatchText.f (k : Nat) (a0_0 : Int) (l0_1 : List (S100)) : Option (ByteArray × Bool):=(spec_BatchOk.f k a0_0 l0_1).bind fun t188 => (if t188 = true then ((spec_l01Var.f k a0_0).bind fun t189 => (if 1 + t189.size ≤ 9223372036854775807 then ((spec_l01Var.f k (l0_1.length : Int)).bind fun t190 => (if ((⟨#[66]⟩ : ByteArray) ++ t189).size + t190.size ≤ 9223372036854775807 then (if (((⟨#[66]⟩ : ByteArray) ++ t189) ++ t190).size < 140737488355328 then (spec_BatchText.l0 k (bytesOf (((⟨#[66]⟩ : ByteArray) ++ t189) ++ t190)) 0 a0_0 l0_1) else (none)) else (none))) else (none))) else (some ((⟨#[]⟩ : ByteArray),false)))
theorem spec_BatchText.mono_l : ∀ k,(∀ y0 y1 y2 y3,LeO (spec_BatchText.l0 k y0 y1 y2 y3) (spec_BatchText.l0 (k + 1) y0 y1 y2 y3))
 | 0 => fun _ _ _ _ r h => by simp [spec_BatchText.l0] at h
 | k + 1 => by
  have ih0:=spec_BatchText.mono_l k
  ·intro y0 y1 y2 y3
   unfold spec_BatchText.l0
   repeat' first
  | (with_reducible exact ih0 _ _ _ _)
  | (with_reducible exact spec_BatchOk.mono _ _ _)
  | (with_reducible exact spec_l01Var.mono _ _)
  | (with_reducible exact spec_l05Short.mono _ _)
  | (with_reducible exact LeO.refl _)
  | (with_reducible exact LeO.none _)
  | (with_reducible refine LeO.ite ?_ ?_)
  | (with_reducible refine LeO.bind ?_ (fun _ => ?_))
theorem spec_BatchText.mono : ∀ a0 a1 k,LeO (spec_BatchText.f k a0 a1) (spec_BatchText.f (k + 1) a0 a1):=by
 intro a0 a1 k
 have ih0:=spec_BatchText.mono_l k
 unfold spec_BatchText.f
 repeat' first
  | (with_reducible exact ih0 _ _ _ _)
  | (with_reducible exact spec_BatchOk.mono _ _ _)
  | (with_reducible exact spec_l01Var.mono _ _)
  | (with_reducible exact spec_l05Short.mono _ _)
  | (with_reducible exact LeO.refl _)
  | (with_reducible exact LeO.none _)
  | (with_reducible refine LeO.ite ?_ ?_)
  | (with_reducible refine LeO.bind ?_ (fun _ => ?_))
def spec_BatchText.T3 : Bool × List (List Nat × List Nat):=(true,[([],[]),([0],[0]),([1],[1]),([2],[2]),([],[]),([4],[4]),([5],[5]),([6,2],[6]),([3,7],[3,7]),([8],[8]),([9,7,0,1,2,3,4,5,6,7,8,9],[9])])
def spec_BatchText.B3 : List Nat:=[0,1,3,7,0,16,48,119,255,511,1023]
theorem spec_BatchText.tab3 : rtab .any (opsOf Tryz.f61 3) = spec_BatchText.T3:=by kernel_rfl
theorem spec_BatchText.bits3 : waitsOk spec_BatchText.T3.2 spec_BatchText.B3 = true:=by kernel_rfl
def spec_BatchText.T8 : Bool × List (List Nat × List Nat):=(true,[([],[]),([],[]),([1],[1]),([2],[2]),([],[]),([4],[4]),([5,3],[5]),([3,6],[3,6]),([],[]),([8],[8]),([9,6],[9]),([7,10],[7,10]),([11],[11]),([0,12,10],[0,12]),([13,13,0,1,2,3,4,5,6,7,8,9,10,11,12,13],[0,13])])
def spec_BatchText.B8 : List Nat:=[0,0,2,6,0,16,62,126,0,256,894,2046,4094,8191,16383]
theorem spec_BatchText.tab8 : rtab .any (opsOf Tryz.f61 8) = spec_BatchText.T8:=by kernel_rfl
theorem spec_BatchText.bits8 : waitsOk spec_BatchText.T8.2 spec_BatchText.B8 = true:=by kernel_rfl
set_option maxHeartbeats 8000000 in
set_option maxRecDepth 100000 in
theorem spec_BatchText.calls (k : Nat) (a0_0 : Int) (A0_1 : Option Addr) (c0_1 : Nat) (l0_1 : List (S100)) (r1 : ByteArray) (r2 : Bool) (w : World) (hr0_1 : Kd.C k100 w A0_1 l0_1.length l0_1) (hc0_1 : l0_1.length ≤ c0_1) (h : spec_BatchText.f k a0_0 l0_1 = some (r1,r2)) :
  Calls Tryz.prog 61 #[.agg #[.int .i64 a0_0,.slice A0_1 l0_1.length c0_1]] w fun e w' => e = .returned (.tuple #[.string r1,.bool r2]) ∧ Below w.heap.size w w':=by
 have hu70:=Tryz.underlying70
 have hu100:=Tryz.underlying100
 have HR0_1:=Aside0.mk hr0_1
 have HC0_1:=Aside0.mk hc0_1
 clear hr0_1 hc0_1
 have HB:=Aside0.mk (Below.refl w.heap.size w)
 have H : ((spec_BatchOk.f k a0_0 l0_1).bind fun t188 => (if t188 = true then ((spec_l01Var.f k a0_0).bind fun t189 => (if 1 + t189.size ≤ 9223372036854775807 then ((spec_l01Var.f k (l0_1.length : Int)).bind fun t190 => (if ((⟨#[66]⟩ : ByteArray) ++ t189).size + t190.size ≤ 9223372036854775807 then (if (((⟨#[66]⟩ : ByteArray) ++ t189) ++ t190).size < 140737488355328 then (spec_BatchText.l0 k (bytesOf (((⟨#[66]⟩ : ByteArray) ++ t189) ++ t190)) 0 a0_0 l0_1) else (none)) else (none))) else (none))) else (some ((⟨#[]⟩ : ByteArray),false)))) = some (r1,r2):=h
 clear h
 obtain ⟨t188,A2,H⟩:=bX0 H
 by_cases c3 : t188 = true
 ·subst c3
  rw [if_pos rfl] at H
  obtain ⟨t189,A4,H⟩:=bX0 H
  by_cases c5 : 1 + t189.size ≤ 9223372036854775807
  ·rw [if_pos c5] at H
   have c5b0:=eq_true c5
   have c5b1 : decide (1 + t189.size ≤ 9223372036854775807) = true:=decide_eq_true c5
   try have c5b2 : (9223372036854775807 < 1 + t189.size) = False:=eq_false (Nat.not_lt.2 c5)
   obtain ⟨t190,A6,H⟩:=bX0 H
   by_cases c7 : ((⟨#[66]⟩ : ByteArray) ++ t189).size + t190.size ≤ 9223372036854775807
   ·rw [if_pos c7] at H
    have c7b0:=eq_true c7
    have c7b1 : decide (((⟨#[66]⟩ : ByteArray) ++ t189).size + t190.size ≤ 9223372036854775807) = true:=decide_eq_true c7
    try have c7b2 : (9223372036854775807 < ((⟨#[66]⟩ : ByteArray) ++ t189).size + t190.size) = False:=eq_false (Nat.not_lt.2 c7)
    have c7n:=c7
    simp only [ByteArray.size_append] at c7n
    have c7m1:=eq_true c7n
    have c7m2:=decide_eq_true c7n
    have c7m3:=eq_false (Nat.not_lt.2 c7n)
    try have c7q:=c7n
    try simp only [show (⟨#[66]⟩ : ByteArray).size = 1 from rfl,show (⟨#[72]⟩ : ByteArray).size = 1 from rfl] at c7q
    try have c7q1:=eq_true c7q
    try have c7q2:=decide_eq_true c7q
    try have c7q3:=eq_false (Nat.not_lt.2 c7q)
    by_cases c8 : (((⟨#[66]⟩ : ByteArray) ++ t189) ++ t190).size < 140737488355328
    ·rw [if_pos c8] at H
     have c8b0:=eq_true c8
     have c8b1 : decide ((((⟨#[66]⟩ : ByteArray) ++ t189) ++ t190).size < 140737488355328) = true:=decide_eq_true c8
     obtain ⟨y191,hy191⟩ : ∃ y_ : List Int,y_ = (bytesOf (((⟨#[66]⟩ : ByteArray) ++ t189) ++ t190)):=⟨_,rfl⟩
     replace H : (spec_BatchText.l0 k y191 0 a0_0 l0_1) = some (r1,r2):=by first | (rw [hy191];with_reducible exact H) | (have H2_:=(Option.bind_some _ _).symm.trans H;rw [hy191];with_reducible exact H2_) | (have H2_:=(Option.bind_some _ _).symm.trans H;with_reducible exact H2_) | with_reducible exact H | (rw [hy191];exact H) | exact H
     have Ny191:=Aside0.mk hy191
     clear hy191
     have H':=Aside0.mk H
     clear H
     go_enter Tryz.func61,Tryz.ntmps61
     try go_wp2_with (first | ((with_reducible refine gate_dst (N:=1) rfl ?_);refine zy0 (cs:=#[.int .i64 a0_0,.slice A0_1 l0_1.length c0_1]) (t:=70) ?_;intro gb187 hg w9 hbox hb;have BK187:=Aside0.mk hbox;have GW187:=zz0 hg HB;have GE187:=zz0 hg HB;replace HB:=zs0 HB hb;clear hb hbox hg;obtain ⟨hcz10_0,hcz10_1,hfz10_0,hfz10_1⟩:=zd02 BK187) | ((with_reducible refine gate_callee (f:=82) rfl ?_);refine goesL_ (some 8) rfl rfl Tryz.func82 (by kernel_rfl) rfl #[.agg #[.int .i64 a0_0,.slice A0_1 l0_1.length c0_1]] rfl zM0 ?_;(with_reducible refine (spec_BatchOk.calls k a0_0 _ _ l0_1 true _ ?side1 ?side2 A2.out).mono ?_);(case side1 => exact zA0 ((Kd.C_below HR0_1.out HB.out)));(case side2 => exact HC0_1.out);rintro e w11 ⟨rfl,hb⟩;refine ⟨_,rfl,?_⟩;replace BK187:=zb0 BK187 hb;replace HB:=zs0 HB hb;(try clear hb)))
     replace BK187:=Aside0.mk (blk_drew BK187.out)
     replace HB:=Aside0.mk (below_drew1 HB.out)
     refine start_ (n:=11) (S:=fun w' => w'.cell? ⟨gb187,0,none⟩ = some (.int .i64 a0_0) ∧ w'.cell? ⟨gb187,1,none⟩ = some (.slice A0_1 l0_1.length c0_1)) (ds:=[]) (zF0 11 0) (by kernel_rfl) rfl rfl ⟨zc00 BK187,zc01 BK187⟩ (fun hHeld => ?_);refine with_tabW spec_BatchText.tab3 spec_BatchText.bits3 (fun HT_ HW_ => ?_)
     generalize w11.drew = w12 at BK187 HB hHeld ⊢
     refine zp0 0 10 11 1 HT_ ?_
     refine zp0 4 14 11 17 HT_ ?_
     refine zt0 1 11 11 19 HT_ HW_ hHeld ?_
     refine zt0 5 15 11 51 HT_ HW_ hHeld ?_
     refine zp0 6 16 11 115 HT_ ?_
     refine one_ (i:=2) (N:=some 12) (zF0 11 119) rfl rfl (one_of HT_.out (by kernel_rfl)) (by decide) (fun K hK => ?_)
     refine goes_ Tryz.func57 (by kernel_rfl) rfl #[.int .i64 a0_0] (by rfl) rfl rfl zM0 ?_
     with_reducible refine (spec_l01Var.calls k a0_0 t189 _ A4.out).mono ?_
     rintro e w13 ⟨rfl,hb⟩
     refine ⟨_,rfl,?_⟩
     replace BK187:=zb0 BK187 hb
     replace HB:=zs0 HB hb
     (try clear hb)
     (try clear hb2)
     (try clear hk)
     (try clear hi)
     refine hK.out _ _ ⟨zc00 BK187,zc01 BK187⟩ (fun hHeld => ?_)
     clear hK K
     refine norm_ (a':=?_) ?_ ?_;rotate_left
     ·show Act.put _ (some 12) _ = _;simp only [Act.put,qA0,qB0,qC0,i64_w,i32_w];rfl
     refine zp0 3 13 11 127 HT_ ?_
     refine one_ (i:=7) (N:=some 17) (zF0 11 255) rfl rfl (one_of HT_.out (by kernel_rfl)) (by decide) (fun K hK => ?_)
     refine goes_ Tryz.func57 (by kernel_rfl) rfl #[.int .i64 (l0_1.length : Int)] (by rfl) rfl rfl zM0 ?_
     with_reducible refine (spec_l01Var.calls k (l0_1.length : Int) t190 _ A6.out).mono ?_
     rintro e w14 ⟨rfl,hb⟩
     refine ⟨_,rfl,?_⟩
     replace BK187:=zb0 BK187 hb
     replace HB:=zs0 HB hb
     (try clear hb)
     (try clear hb2)
     (try clear hk)
     (try clear hi)
     refine hK.out _ _ ⟨zc00 BK187,zc01 BK187⟩ (fun hHeld => ?_)
     clear hK K
     refine norm_ (a':=?_) ?_ ?_;rotate_left
     ·show Act.put _ (some 17) _ = _;simp only [Act.put,qA0,qB0,qC0,i64_w,i32_w];rfl
     refine zp0 8 18 11 511 HT_ ?_
     refine one_ (i:=9) (N:=some 19) (zF0 11 1023) rfl rfl (one_of HT_.out (by kernel_rfl)) (by decide) (fun K hK => ?_)
     refine Md.R_conv_step _ 5 (by rfl) (N:=19) rfl 9 88 _ rfl Tryz.underlying9 Tryz.underlying88 Tryz.underlying5 (((⟨#[66]⟩ : ByteArray) ++ t189) ++ t190) rfl (ok:=fun _ => True) (okp:=fun _ => True) (fun _ hk => hk) trivial (zD0) (Below.refl _ _) (Nat.le_refl _) ?_
     intro v192 w15 ho16 hb hg_ hnew_
     clear hg_ hnew_
     (first | rw [← Ny191.out] at ho16 | (simp only [Int.reduceToNat] at ho16;rw [← Ny191.out] at ho16))
     have HO193:=Aside0.mk (Md.R_lower ho16 (zZ0 HB.out))
     replace BK187:=zb0 BK187 hb
     replace HB:=zs0 HB hb
     clear hb ho16
     refine hK.out _ _ ⟨zc00 BK187,zc01 BK187⟩ (fun hHeld => ?_)
     clear hK K
     refine norm_ (a':=?_) ?_ ?_;rotate_left
     ·show Act.put _ (some 19) _ = _;simp only [Act.put,qA0,qB0,qC0,i64_w,i32_w];rfl
     refine zp0 10 4 11 2047 HT_ ?_
     refine done_ (done_of HT_.out (by kernel_rfl)) ?_
     try go_wp2
     go_loopg [4,5] k (fun kq v4 v5 w' => ∃ (x4_1 : List Int) (x5_1 : Int),v5 = .int .i64 x5_1 ∧ Aside0 (spec_BatchText.l0 kq x4_1 x5_1 a0_0 l0_1 = some (r1,r2)) ∧ Aside0 (kq ≤ k) ∧ Aside0 (Md.R 5 w' w.heap.size (fun _ => True) v4 x4_1) ∧ Aside0 (w'.heap[gb187]? = some (.cells #[.int .i64 a0_0,(.slice A0_1 l0_1.length c0_1)] 70 (0,0))) ∧ Aside0 (Below w.heap.size w w'))
     case atStart => exact ⟨(y191),(0),zE0,H',⟨Nat.le_refl _⟩,⟨by (with_reducible repeat (first | apply Md.R_alloc | apply Md.R_drewN | apply Md.R_drew));exact HO193.out⟩,⟨zK0 BK187.out⟩,⟨zY0 HB.out⟩⟩
     case round =>
      clear H'
      try clear c3
      try clear c5
      try clear c5b0
      try clear c5b1
      try clear c5b2
      try clear c7
      try clear c7b0
      try clear c7b1
      try clear c7b2
      try clear c8
      try clear c8b0
      try clear c8b1
      try clear hcz10_0
      try clear hcz10_1
      try clear hfz10_0
      try clear hfz10_1
      obtain ⟨x4_1,x5_1,rfl,HA,HK1,HO_4,BK187,HB⟩:=hrel
      cases gk with
      | zero => exact absurd HA.out (by simp [spec_BatchText.l0])
      | succ k1 =>
       have H:=HA.out
       clear HA
       simp only [spec_BatchText.l0] at H
       by_cases c17 : x5_1 < (l0_1.length : Int)
       ·rw [if_pos c17] at H
        have c17b0 : decide (x5_1 < (l0_1.length : Int)) = true:=decide_eq_true c17
        clear c17
        by_cases c18 : 0 ≤ x5_1
        ·rw [if_pos c18] at H
         have c18b0 : decide (0 ≤ x5_1) = true:=decide_eq_true c18
         clear c18
         obtain ⟨t196,A19,H⟩:=bX0 H
         obtain ⟨t197,A20,H⟩:=bX0 H
         by_cases c21 : t196.size + t197.size ≤ 9223372036854775807
         ·rw [if_pos c21] at H
          have c21b0:=eq_true c21
          have c21b1 : decide (t196.size + t197.size ≤ 9223372036854775807) = true:=decide_eq_true c21
          try have c21b2 : (9223372036854775807 < t196.size + t197.size) = False:=eq_false (Nat.not_lt.2 c21)
          obtain ⟨t198,A22,H⟩:=bX0 H
          by_cases c23 : (t196 ++ t197).size + t198.size ≤ 9223372036854775807
          ·rw [if_pos c23] at H
           have c23b0:=eq_true c23
           have c23b1 : decide ((t196 ++ t197).size + t198.size ≤ 9223372036854775807) = true:=decide_eq_true c23
           try have c23b2 : (9223372036854775807 < (t196 ++ t197).size + t198.size) = False:=eq_false (Nat.not_lt.2 c23)
           have c23n:=c23
           simp only [ByteArray.size_append] at c23n
           have c23m1:=eq_true c23n
           have c23m2:=decide_eq_true c23n
           have c23m3:=eq_false (Nat.not_lt.2 c23n)
           try have c23q:=c23n
           try simp only [show (⟨#[66]⟩ : ByteArray).size = 1 from rfl,show (⟨#[72]⟩ : ByteArray).size = 1 from rfl] at c23q
           try have c23q1:=eq_true c23q
           try have c23q2:=decide_eq_true c23q
           try have c23q3:=eq_false (Nat.not_lt.2 c23q)
           by_cases c24 : ((t196 ++ t197) ++ t198).size < 140737488355328
           ·rw [if_pos c24] at H
            have c24b0:=eq_true c24
            have c24b1 : decide (((t196 ++ t197) ++ t198).size < 140737488355328) = true:=decide_eq_true c24
            obtain ⟨y199,hy199⟩ : ∃ y_ : List Int,y_ = (bytesOf ((t196 ++ t197) ++ t198)):=⟨_,rfl⟩
            replace H : (if x4_1.length + y199.length < 140737488355328 then (spec_BatchText.l0 k1 (x4_1 ++ y199) (wrap64 (x5_1 + 1)) a0_0 l0_1) else (none)) = some (r1,r2):=by first | (rw [hy199];with_reducible exact H) | (have H2_:=(Option.bind_some _ _).symm.trans H;rw [hy199];with_reducible exact H2_) | (have H2_:=(Option.bind_some _ _).symm.trans H;with_reducible exact H2_) | with_reducible exact H | (rw [hy199];exact H) | exact H
            have Ny199:=Aside0.mk hy199
            clear hy199
            by_cases c25 : x4_1.length + y199.length < 140737488355328
            ·rw [if_pos c25] at H
             have LMc25:=Aside0.mk c25
             clear c25
             obtain ⟨y202,hy202⟩ : ∃ y_ : List Int,y_ = (x4_1 ++ y199):=⟨_,rfl⟩
             replace H : (spec_BatchText.l0 k1 y202 (wrap64 (x5_1 + 1)) a0_0 l0_1) = some (r1,r2):=by first | (rw [hy202];with_reducible exact H) | (have H2_:=(Option.bind_some _ _).symm.trans H;rw [hy202];with_reducible exact H2_) | (have H2_:=(Option.bind_some _ _).symm.trans H;with_reducible exact H2_) | with_reducible exact H | (rw [hy202];exact H) | exact H
             have Ny202:=Aside0.mk hy202
             clear hy202
             have H':=Aside0.mk H
             clear H
             have hcz26_0 : wr.cell? ⟨gb187,0,none⟩ = some (.int .i64 a0_0):=zc00 BK187
             have hcz26_1 : wr.cell? ⟨gb187,1,none⟩ = some (.slice A0_1 l0_1.length c0_1):=zc01 BK187
             have hfz26_0:=blk_frozen BK187.out 0
             have hfz26_1:=blk_frozen BK187.out 1
             have p194 : 0 ≤ (x5_1 : Int):=zD0
             have q194 : x5_1 < (l0_1.length : Int):=zD0
             obtain ⟨ad194,e194,hx194_0,hx194_1,hx194_2⟩:=at_T100 HR0_1.out x5_1 p194 q194
             cases e194
             replace hx194_0:=zx0 HB hx194_0
             replace hx194_1:=zx0 HB hx194_1
             replace hx194_2:=zx0 HB hx194_2
             replace p194:=eq_true p194
             replace q194:=eq_true q194
             try go_wp2_with (first | ((with_reducible refine gate_dst (N:=6) rfl ?_);refine zy0 (cs:=#[.string (⟨#[]⟩ : ByteArray),.string (⟨#[]⟩ : ByteArray),.bool false]) (t:=100) ?_;intro gb195 hg w27 hbox hb;replace HO_4:=Aside0.mk (Md.R_below (by (with_reducible repeat (first | apply Md.R_alloc | apply Md.R_drewN | apply Md.R_drew));exact HO_4.out) hb);have BK195:=Aside0.mk hbox;have GW195:=zz0 hg HB;have GE195:=zz0 hg HB;replace HB:=zs0 HB hb;have NB187_195:=zl0 hg BK187;have NB195_187:=zg0 hg BK187;replace BK187:=zb0 BK187 hb;clear hb hbox hg;obtain ⟨_,_⟩:=zn0 NB195_187;obtain ⟨_,_,_,_,_,_⟩:=zd03 BK195))
             have n0_ : Aside0 (Md.R 5 (((w27.setCell ⟨gb195,0,none⟩ (.string ((rd_T100 l0_1 x5_1).f0))).setCell ⟨gb195,1,none⟩ (.string ((rd_T100 l0_1 x5_1).f1))).setCell ⟨gb195,2,none⟩ (.bool ((rd_T100 l0_1 x5_1).f2))) w.heap.size (fun _ => True) u4 x4_1):=⟨by (with_reducible repeat (first | apply Md.R_alloc | apply Md.R_drewN | apply Md.R_drew));exact Md.R_mono (Md.R_far (p:=⟨gb195,2,none⟩) (Md.R_far (p:=⟨gb195,1,none⟩) (Md.R_far (p:=⟨gb195,0,none⟩) (Md.R_types HO_4.out BK195.out (by decide)) (fun _ hk => hk.2) (.string ((rd_T100 l0_1 x5_1).f0))) (fun _ hk => hk.2) (.string ((rd_T100 l0_1 x5_1).f1))) (fun _ hk => hk.2) (.bool ((rd_T100 l0_1 x5_1).f2))) (fun _ hk => trivial)⟩
             have n1_ : Aside0 ((((w27.setCell ⟨gb195,0,none⟩ (.string ((rd_T100 l0_1 x5_1).f0))).setCell ⟨gb195,1,none⟩ (.string ((rd_T100 l0_1 x5_1).f1))).setCell ⟨gb195,2,none⟩ (.bool ((rd_T100 l0_1 x5_1).f2))).heap[gb187]? = some (.cells #[.int .i64 a0_0,.slice (some ad194) l0_1.length c0_1] 70 (0,0))):=⟨zK0 BK187.out⟩
             have n2_ : Aside0 ((((w27.setCell ⟨gb195,0,none⟩ (.string ((rd_T100 l0_1 x5_1).f0))).setCell ⟨gb195,1,none⟩ (.string ((rd_T100 l0_1 x5_1).f1))).setCell ⟨gb195,2,none⟩ (.bool ((rd_T100 l0_1 x5_1).f2))).heap[gb195]? = some (.cells #[.string ((rd_T100 l0_1 x5_1).f0),.string ((rd_T100 l0_1 x5_1).f1),.bool ((rd_T100 l0_1 x5_1).f2)] 100 (0,0))):=⟨by refine zT0 ?_;refine blk_put (cs:=#[.string ((rd_T100 l0_1 x5_1).f0),.string ((rd_T100 l0_1 x5_1).f1),.bool false]) ?_ 2 _ rfl;refine zT0 ?_;refine blk_put (cs:=#[.string ((rd_T100 l0_1 x5_1).f0),.string (⟨#[]⟩ : ByteArray),.bool false]) ?_ 1 _ rfl;refine zT0 ?_;refine blk_put (cs:=#[.string (⟨#[]⟩ : ByteArray),.string (⟨#[]⟩ : ByteArray),.bool false]) ?_ 0 _ rfl;exact zK0 BK195.out⟩
             have n3_ : Aside0 (Below w.heap.size w (((w27.setCell ⟨gb195,0,none⟩ (.string ((rd_T100 l0_1 x5_1).f0))).setCell ⟨gb195,1,none⟩ (.string ((rd_T100 l0_1 x5_1).f1))).setCell ⟨gb195,2,none⟩ (.bool ((rd_T100 l0_1 x5_1).f2)))):=⟨zY0 HB.out⟩
             (try clear HO_4)
             (try clear BK187)
             (try clear BK195)
             (try clear HB)
             generalize (((w27.setCell ⟨gb195,0,none⟩ (.string ((rd_T100 l0_1 x5_1).f0))).setCell ⟨gb195,1,none⟩ (.string ((rd_T100 l0_1 x5_1).f1))).setCell ⟨gb195,2,none⟩ (.bool ((rd_T100 l0_1 x5_1).f2))) = w30 at n0_ n1_ n2_ n3_ ⊢
             have HO_4:=n0_
             have BK187:=n1_
             have BK195:=n2_
             have HB:=n3_
             clear n0_ n1_ n2_ n3_
             replace HO_4:=Aside0.mk (Md.R_drew HO_4.out)
             replace BK187:=Aside0.mk (blk_drew BK187.out)
             replace BK195:=Aside0.mk (blk_drew BK195.out)
             replace HB:=Aside0.mk (below_drew1 HB.out)
             refine start_ (n:=15) (S:=fun w' => w'.cell? ⟨gb195,0,none⟩ = some (.string ((rd_T100 l0_1 x5_1).f0)) ∧ w'.cell? ⟨gb195,1,none⟩ = some (.string ((rd_T100 l0_1 x5_1).f1)) ∧ w'.cell? ⟨gb195,2,none⟩ = some (.bool ((rd_T100 l0_1 x5_1).f2))) (ds:=[]) (zF0 15 0) (by kernel_rfl) rfl rfl ⟨zc00 BK195,zc01 BK195,zc02 BK195⟩ (fun hHeld => ?_);refine with_tabW spec_BatchText.tab8 spec_BatchText.bits8 (fun HT_ HW_ => ?_)
             generalize w30.drew = w31 at HO_4 BK187 BK195 HB hHeld ⊢
             refine zp0 0 32 15 1 HT_ ?_
             refine zp0 1 33 15 3 HT_ ?_
             refine zp0 4 36 15 19 HT_ ?_
             refine zp0 8 40 15 275 HT_ ?_
             refine zt0 2 34 15 279 HT_ HW_ hHeld ?_
             refine zt0 5 37 15 311 HT_ HW_ hHeld ?_
             refine zt0 9 41 15 823 HT_ HW_ hHeld ?_
             refine one_ (i:=3) (N:=some 35) (zF0 15 831) rfl rfl (one_of HT_.out (by kernel_rfl)) (by decide) (fun K hK => ?_)
             refine goes_ Tryz.func83 (by kernel_rfl) rfl #[.string ((rd_T100 l0_1 x5_1).f0)] (by rfl) rfl rfl zM0 ?_
             with_reducible refine (spec_l05Short.calls k1 ((rd_T100 l0_1 x5_1).f0) t196 _ A19.out).mono ?_
             rintro e w32 ⟨rfl,hb⟩
             refine ⟨_,rfl,?_⟩
             replace HO_4:=Aside0.mk (Md.R_below (by (with_reducible repeat (first | apply Md.R_alloc | apply Md.R_drewN | apply Md.R_drew));exact HO_4.out) hb)
             replace BK187:=zb0 BK187 hb
             replace BK195:=zb0 BK195 hb
             replace HB:=zs0 HB hb
             (try clear hb)
             (try clear hb2)
             (try clear hk)
             (try clear hi)
             refine hK.out _ _ ⟨zc00 BK195,zc01 BK195,zc02 BK195⟩ (fun hHeld => ?_)
             clear hK K
             refine norm_ (a':=?_) ?_ ?_;rotate_left
             ·show Act.put _ (some 35) _ = _;simp only [Act.put,qA0,qB0,qC0,i64_w,i32_w];rfl
             refine one_ (i:=6) (N:=some 38) (zF0 15 895) rfl rfl (one_of HT_.out (by kernel_rfl)) (by decide) (fun K hK => ?_)
             refine goes_ Tryz.func84 (by kernel_rfl) rfl #[.bool ((rd_T100 l0_1 x5_1).f2)] (by rfl) rfl rfl zM0 ?_
             with_reducible refine (spec_l05Flag.calls ((rd_T100 l0_1 x5_1).f2) t197 _ A20.out).mono ?_
             rintro e w' ⟨rfl,⟨nd,rfl⟩⟩
             refine ⟨_,rfl,?_⟩
             refine hK.out _ _ ⟨zc00 BK195,zc01 BK195,zc02 BK195⟩ (fun hHeld => ?_)
             clear hK K
             refine norm_ (a':=?_) ?_ ?_;rotate_left
             ·show Act.put _ (some 38) _ = _;simp only [Act.put,qA0,qB0,qC0,i64_w,i32_w];rfl
             refine zp0 7 39 15 1023 HT_ ?_
             refine one_ (i:=10) (N:=some 42) (zF0 15 2047) rfl rfl (one_of HT_.out (by kernel_rfl)) (by decide) (fun K hK => ?_)
             refine goes_ Tryz.func83 (by kernel_rfl) rfl #[.string ((rd_T100 l0_1 x5_1).f1)] (by rfl) rfl rfl zM0 ?_
             with_reducible refine (spec_l05Short.calls k1 ((rd_T100 l0_1 x5_1).f1) t198 _ A22.out).mono ?_
             rintro e w33 ⟨rfl,hb⟩
             refine ⟨_,rfl,?_⟩
             replace HO_4:=Aside0.mk (Md.R_below (by (with_reducible repeat (first | apply Md.R_alloc | apply Md.R_drewN | apply Md.R_drew));exact HO_4.out) hb)
             replace BK187:=zb0 BK187 hb
             replace BK195:=zb0 BK195 hb
             replace HB:=zs0 HB hb
             (try clear hb)
             (try clear hb2)
             (try clear hk)
             (try clear hi)
             refine hK.out _ _ ⟨zc00 BK195,zc01 BK195,zc02 BK195⟩ (fun hHeld => ?_)
             clear hK K
             refine norm_ (a':=?_) ?_ ?_;rotate_left
             ·show Act.put _ (some 42) _ = _;simp only [Act.put,qA0,qB0,qC0,i64_w,i32_w];rfl
             refine zp0 11 43 15 4095 HT_ ?_
             refine one_ (i:=12) (N:=some 44) (zF0 15 8191) rfl rfl (one_of HT_.out (by kernel_rfl)) (by decide) (fun K hK => ?_)
             refine Md.R_conv_step _ 5 (by rfl) (N:=44) rfl 9 88 _ rfl Tryz.underlying9 Tryz.underlying88 Tryz.underlying5 ((t196 ++ t197) ++ t198) rfl (ok:=fun _ => True) (okp:=fun _ => True) (fun _ hk => hk) trivial (zD0) (Below.refl _ _) (Nat.le_refl _) ?_
             intro v200 w34 ho35 hb hg_ hnew_
             clear hg_ hnew_
             (first | rw [← Ny199.out] at ho35 | (simp only [Int.reduceToNat] at ho35;rw [← Ny199.out] at ho35))
             have HO201:=Aside0.mk (Md.R_lower (Md.R_new' ho35 (Md.R_lt (by (with_reducible repeat (first | apply Md.R_alloc | apply Md.R_drewN | apply Md.R_drew));exact HO_4.out))) (zZ0 HB.out))
             replace HO_4:=Aside0.mk (Md.R_elder' (by (with_reducible repeat (first | apply Md.R_alloc | apply Md.R_drewN | apply Md.R_drew));exact HO_4.out) (Md.R_base ho35) hb)
             replace BK187:=zb0 BK187 hb
             replace BK195:=zb0 BK195 hb
             replace HB:=zs0 HB hb
             clear hb ho35
             obtain ⟨Ao37,co37,eo37⟩:=Md.R_slice HO201.out
             (first | subst eo37 | (injection eo37 with f1_ f2_ f3_;have f4_:=f1_.symm;have f5_:=f3_.symm;clear f1_ f2_ f3_;subst f4_;subst f5_))
             refine hK.out _ _ ⟨zc00 BK195,zc01 BK195,zc02 BK195⟩ (fun hHeld => ?_)
             clear hK K
             refine norm_ (a':=?_) ?_ ?_;rotate_left
             ·show Act.put _ (some 44) _ = _;simp only [Act.put,qA0,qB0,qC0,i64_w,i32_w];rfl
             refine one_ (i:=13) (N:=some 45) (zF0 15 16383) rfl rfl (one_of HT_.out (by kernel_rfl)) (by decide) (fun K hK => ?_)
             refine Md.R_append_rows_step (w0:=w) w.heap.size (by rfl) (.tmp 32) (.tmp 44) 88 5 (.int .u8 0) 1 rfl Tryz.underlying88 info5 rfl (by decide) (by omega) u4 x4_1 y199 _ _ _ (fun k_ => some k_ ≠ (.slice Ao37 y199.length co37 : Value).ownBlock) (fun _ => False) rfl rfl ?aO ?aR (fun _ _ h => h) (fun _ h => h.elim) ?aF ?aB ?aS ?aL ?_
             (case aR => exact zA0 ((Md.R_reads' HO201.out).2.2))
             (case aB => exact (zY0 HB.out))
             (case aF => exact (fun k_ hk => Kd.fresh' (Md.R_lt (by (with_reducible repeat (first | apply Md.R_alloc | apply Md.R_drewN | apply Md.R_drew));exact HO201.out)) k_ hk))
             (case aO => exact (by (with_reducible repeat (first | apply Md.R_alloc | apply Md.R_drewN | apply Md.R_drew));exact Md.R_mono HO_4.out (fun _ hk => hk.2)))
             (case aS => exact (zZ0 HB.out))
             (case aL => have:=LMc25.out;omega)
             intro v203 w36 ho hb hg hat
             rw [← Ny202.out] at ho
             replace BK187:=Aside0.mk (blk_grown (g:=gb187) (o:=.cells #[.int .i64 a0_0,.slice (some ad194) l0_1.length c0_1] 70 (0,0)) (zK0 BK187.out) hg (Md.R_ne HO_4.out BK187.out (by decide)))
             replace BK195:=Aside0.mk (blk_grown (g:=gb195) (o:=.cells #[.string ((rd_T100 l0_1 x5_1).f0),.string ((rd_T100 l0_1 x5_1).f1),.bool ((rd_T100 l0_1 x5_1).f2)] 100 (0,0)) (zK0 BK195.out) hg (Md.R_ne HO_4.out BK195.out (by decide)))
             replace HO201:=Aside0.mk (Md.R_after (ok:=(fun _ => True)) (by (with_reducible repeat (first | apply Md.R_alloc | apply Md.R_drewN | apply Md.R_drew));exact HO201.out) hg hat)
             replace HB:=Aside0.mk hb
             have HO204:=Aside0.mk ho
             clear HO_4
             clear ho hb hg hat
             refine hK.out _ _ ⟨zc00 BK195,zc01 BK195,zc02 BK195⟩ (fun hHeld => ?_)
             clear hK K
             refine norm_ (a':=?_) ?_ ?_;rotate_left
             ·show Act.put _ (some 45) _ = _;simp only [Act.put,qA0,qB0,qC0,i64_w,i32_w];rfl
             refine zp0 14 4 15 32767 HT_ ?_
             refine done_ (done_of HT_.out (by kernel_rfl)) ?_
             try go_wp2
             go_roundg k1
             case measure => have:=HK1.out;omega
             case rel => exact ⟨(y202),(wrap64 (x5_1 + 1)),zE0,H',⟨by have:=HK1.out;omega⟩,⟨by (with_reducible repeat (first | apply Md.R_alloc | apply Md.R_drewN | apply Md.R_drew));exact Md.R_mono HO204.out (fun _ hk => trivial)⟩,⟨zK0 BK187.out⟩,⟨zY0 HB.out⟩⟩
            ·rw [if_neg c25] at H
             exact absurd H (by simp)
           ·rw [if_neg c24] at H
            exact absurd H (by simp)
          ·rw [if_neg c23] at H
           exact absurd H (by simp)
         ·rw [if_neg c21] at H
          exact absurd H (by simp)
        ·rw [if_neg c18] at H
         exact absurd H (by simp)
       ·rw [if_neg c17] at H
        have c17b0 : decide (x5_1 < (l0_1.length : Int)) = false:=decide_eq_false c17
        clear c17
        by_cases c38 : (x4_1.length : Int) > 9000
        ·rw [if_pos c38] at H
         have c38b0 : decide (9000 < (x4_1.length : Int)) = true:=decide_eq_true c38
         have c38b1 : decide (9000 < x4_1.length) = true:=decide_eq_true (by omega)
         clear c38
         simp only [Option.some.injEq,Prod.mk.injEq] at H
         obtain ⟨rfl,rfl⟩:=H
         have hcz39_0 : wr.cell? ⟨gb187,0,none⟩ = some (.int .i64 a0_0):=zc00 BK187
         have hcz39_1 : wr.cell? ⟨gb187,1,none⟩ = some (.slice A0_1 l0_1.length c0_1):=zc01 BK187
         have hfz39_0:=blk_frozen BK187.out 0
         have hfz39_1:=blk_frozen BK187.out 1
         obtain ⟨Ao40,co40,eo40⟩:=Md.R_slice HO_4.out
         subst eo40
         go_wp2
         go_ret2
         exact ⟨zW0,(zY0 HB.out)⟩
        ·rw [if_neg c38] at H
         have c38b0 : decide (9000 < (x4_1.length : Int)) = false:=decide_eq_false c38
         have c38b1 : decide (9000 < x4_1.length) = false:=decide_eq_false (by omega)
         clear c38
         simp only [Option.some.injEq,Prod.mk.injEq] at H
         obtain ⟨rfl,rfl⟩:=H
         have hcz41_0 : wr.cell? ⟨gb187,0,none⟩ = some (.int .i64 a0_0):=zc00 BK187
         have hcz41_1 : wr.cell? ⟨gb187,1,none⟩ = some (.slice A0_1 l0_1.length c0_1):=zc01 BK187
         have hfz41_0:=blk_frozen BK187.out 0
         have hfz41_1:=blk_frozen BK187.out 1
         obtain ⟨Ao42,co42,eo42⟩:=Md.R_slice HO_4.out
         subst eo42
         have hcv43:=Md.own_string (P:=Tryz.prog) Tryz.underlying88 Tryz.underlying5 Tryz.underlying9 (Md.own_of_R HO_4.out)
         go_wp2
         go_ret2
         exact ⟨zW0,(zY0 HB.out)⟩
    ·rw [if_neg c8] at H
     exact absurd H (by simp)
   ·rw [if_neg c7] at H
    exact absurd H (by simp)
  ·rw [if_neg c5] at H
   exact absurd H (by simp)
 ·replace c3:=Bool.eq_false_iff.mpr c3
  subst c3
  rw [if_neg (show ¬ (false = true) by decide)] at H
  simp only [Option.some.injEq,Prod.mk.injEq] at H
  obtain ⟨rfl,rfl⟩:=H
  go_enter Tryz.func61,Tryz.ntmps61
  go_wp2_with (first | ((with_reducible refine gate_dst (N:=1) rfl ?_);refine zy0 (cs:=#[.int .i64 a0_0,.slice A0_1 l0_1.length c0_1]) (t:=70) ?_;intro gb187 hg w44 hbox hb;have BK187:=Aside0.mk hbox;have GW187:=zz0 hg HB;have GE187:=zz0 hg HB;replace HB:=zs0 HB hb;clear hb hbox hg;obtain ⟨_,_,_,_⟩:=zd02 BK187) | ((with_reducible refine gate_callee (f:=82) rfl ?_);refine goesL_ (some 8) rfl rfl Tryz.func82 (by kernel_rfl) rfl #[.agg #[.int .i64 a0_0,.slice A0_1 l0_1.length c0_1]] rfl zM0 ?_;(with_reducible refine (spec_BatchOk.calls k a0_0 _ _ l0_1 false _ ?side1 ?side2 A2.out).mono ?_);(case side1 => exact zA0 ((Kd.C_below HR0_1.out HB.out)));(case side2 => exact HC0_1.out);rintro e w46 ⟨rfl,hb⟩;refine ⟨_,rfl,?_⟩;replace BK187:=zb0 BK187 hb;replace HB:=zs0 HB hb;(try clear hb)))
  go_ret2
  exact ⟨zW0,(zY0 HB.out)⟩

end Go.Proofs.YtlekhcopddajbaaGreatDoor.PFnExactSegments
