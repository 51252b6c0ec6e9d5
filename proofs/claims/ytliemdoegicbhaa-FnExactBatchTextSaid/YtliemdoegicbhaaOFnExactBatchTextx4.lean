/- Walks of functions that the law FnExactBatchText reaches, turned by this session from a print of which a part did not build; what was changed is listed in wip/patches of the proofs' repo. -/
import Derived.Test.YtliemdoegicbhaaConv
import Derived.Test.YtliemdoegicbhaaOFnExactBatchTextx0
import Derived.Test.YtliemdoegicbhaaOFnExactBatchTextx3
namespace Go.Proofs.Ytliemdoegicbhaa.PFnExactBatchText
open Go.RowKit Go.Proofs.YtliemdoegicbhaaW.PrintWords Go.Proofs.YtliemdoegicbhaaW.PrintLast Go.Proofs.YtliemdoegicbhaaW.PrintMore
attribute [local go_sem] max2_int min2_int max_two min_two max_three min_three max_four min_four   -- for this text's walks alone
set_option linter.unusedVariables false
set_option linter.unusedSimpArgs false

theorem q14 {α : Type} (l : List α) (i : Nat) (a : α) : l.toArray.setIfInBounds i a = (l.set i a).toArray := by simp
theorem q24 {α : Type} (x y : α) (l : List α) : (x :: l).set 0 y = y :: l := List.set_cons_zero ..
theorem q34 {α : Type} (x y : α) (l : List α) (n : Nat) : (x :: l).set (n + 1) y = x :: l.set n y := List.set_cons_succ ..

abbrev Y4:Bool:=true
abbrev Z4:Bool:=false
/-! ### spec_l01Var: function 59 -/
def spec_l01Var.l0 : Nat → Int → List Int → Option (ByteArray)
 | 0,_,_ => none
 | k + 1,x0,x3 => if x0 > 127 then (if x3.length < 140737488355328 then (spec_l01Var.l0 k (wrap64 (Int.tdiv x0 128)) (x3 ++ [(wrap64 ((Int.tmod x0 128) + 128)) % 256])) else (none)) else (if x3.length < 140737488355328 then (some (strOfNums (x3 ++ [(x0) % 256]))) else (none))
def spec_l01Var.f (k : Nat) (a0 : Int) : Option (ByteArray):=spec_l01Var.l0 k a0 (([] : List Int))
theorem spec_l01Var.mono_l : ∀ k,(∀ y0 y1,LeO (spec_l01Var.l0 k y0 y1) (spec_l01Var.l0 (k + 1) y0 y1))
 | 0 => fun _ _ r h => by simp [spec_l01Var.l0] at h
 | k + 1 => by
  have ih0:=spec_l01Var.mono_l k
  ·intro y0 y1
   unfold spec_l01Var.l0
   repeat' first
   | (with_reducible exact ih0 _ _)
   | (with_reducible exact LeO.refl _)
   | (with_reducible exact LeO.none _)
   | (with_reducible refine LeO.ite ?_ ?_)
   | (with_reducible refine LeO.bind ?_ (fun _ => ?_))
   | exact ih0 _ _
   | exact LeO.none _
   | refine LeO.ite ?_ ?_
   | refine LeO.bind ?_ (fun _ => ?_)
theorem spec_l01Var.mono : ∀ a0 k,LeO (spec_l01Var.f k a0) (spec_l01Var.f (k + 1) a0):=by
 intro a0 k
 have ih0:=spec_l01Var.mono_l k
 unfold spec_l01Var.f
 repeat' first
   | (with_reducible exact ih0 _ _)
   | (with_reducible exact LeO.refl _)
   | (with_reducible exact LeO.none _)
   | (with_reducible refine LeO.ite ?_ ?_)
   | (with_reducible refine LeO.bind ?_ (fun _ => ?_))
   | exact ih0 _ _
   | exact LeO.none _
   | refine LeO.ite ?_ ?_
   | refine LeO.bind ?_ (fun _ => ?_)
set_option maxHeartbeats 8000000 in
set_option maxRecDepth 100000 in
theorem spec_l01Var.calls (k : Nat) (a0 : Int) (r : ByteArray) (w : World) (h : spec_l01Var.f k a0 = some r) :
  Calls Try.prog 59 #[.int .i64 a0] w fun e w' => e = .returned (.string r) ∧ Below w.heap.size w w':=by
 have HB:=Aside0.mk (Below.refl w.heap.size w)
 have H : (spec_l01Var.l0 k a0 (([] : List Int))) = some r:=h
 clear h
 obtain ⟨y138,hy138⟩ : ∃ y_ : List Int,y_ = (([] : List Int)):=⟨_,rfl⟩
 replace H : (spec_l01Var.l0 k a0 y138) = some r:=by first | (rw [hy138];with_reducible exact H) | (have H2_:=(Option.bind_some _ _).symm.trans H;rw [hy138];with_reducible exact H2_) | (have H2_:=(Option.bind_some _ _).symm.trans H;with_reducible exact H2_) | with_reducible exact H | (rw [hy138];exact H) | exact H
 have Ny138:=Aside0.mk hy138
 clear hy138
 have H':=Aside0.mk H
 clear H
 go_enter Try.func59,Try.ntmps59
 go_wp2_with (first | ((with_reducible refine gate_dst (N:=4) rfl ?_);refine Kd.R_lit (Kd.int .u8) _ 5 ?hg (N:=4) ?hd (xs:=([] : List Int)) (inner:=[]) (ok:=fun _ => True) (okp:=fun _ => True) ?hr ?hp (fun _ hk => hk) trivial (Below.refl _ _) (Nat.le_refl _) (by simp) ?_;(case hd => rfl);(case hg => rfl);(case hr => first | (go_simp;done) | (go_simp;rfl));(case hp => exact (Reps.none _ _));intro v139 w2 ho3 hb hg_ hnew_;clear hg_ hnew_;(first | rw [← Ny138.out] at ho3 | (simp only [Int.reduceToNat] at ho3;rw [← Ny138.out] at ho3));have n0_:=Aside0.mk (Kd.R_lower ho3 (below_size (by repeat (first | (with_reducible first | exact HB.out | apply below_alloc | apply pw_below_drewN | apply below_drew1) | exact HB.out))));have n1_:=Aside0.mk (below_step (by repeat (first | (with_reducible first | exact HB.out | apply below_alloc | apply pw_below_drewN | apply below_drew1) | exact HB.out)) hb);clear HB;have HO140:=n0_;have HB:=n1_;clear n0_ n1_;clear hb ho3))
 go_loopg [0,3] k (fun kq v0 v3 w' => ∃ (x0_1 : Int) (x3_1 : List Int),v0 = .int .i64 x0_1 ∧ Aside0 (spec_l01Var.l0 kq x0_1 x3_1 = some r) ∧ Aside0 (kq ≤ k) ∧ Aside0 (Kd.R (Kd.int .u8) 5 w' w.heap.size (fun _ => True) v3 x3_1) ∧ Aside0 (Below w.heap.size w w'))
 case atStart => exact ⟨(a0),(y138),(by first | rfl | (simp;done) | (simp [*];done)),H',⟨Nat.le_refl _⟩,⟨by (with_reducible repeat (first | apply Kd.R_alloc | apply Kd.R_drewN | apply Kd.R_drew));exact HO140.out⟩,⟨by repeat (first | (with_reducible first | exact HB.out | apply below_alloc | apply pw_below_drewN | apply below_drew1) | exact HB.out)⟩⟩
 case round =>
  clear H'
  try clear p2
  obtain ⟨x0_1,x3_1,rfl,HA,HK1,HO_3,HB⟩:=hrel
  cases gk with
  | zero => exact absurd HA.out (by simp [spec_l01Var.l0])
  | succ k1 =>
   have H:=HA.out
   clear HA
   simp only [spec_l01Var.l0] at H
   by_cases c4 : x0_1 > 127
   ·rw [if_pos c4] at H
    have c4b0 : decide (127 < x0_1) = true:=decide_eq_true c4
    clear c4
    by_cases c5 : x3_1.length < 140737488355328
    ·rw [if_pos c5] at H
     have LMc5:=Aside0.mk c5
     clear c5
     obtain ⟨y141,hy141⟩ : ∃ y_ : List Int,y_ = (x3_1 ++ [(wrap64 ((Int.tmod x0_1 128) + 128)) % 256]):=⟨_,rfl⟩
     replace H : (spec_l01Var.l0 k1 (wrap64 (Int.tdiv x0_1 128)) y141) = some r:=by first | (rw [hy141];with_reducible exact H) | (have H2_:=(Option.bind_some _ _).symm.trans H;rw [hy141];with_reducible exact H2_) | (have H2_:=(Option.bind_some _ _).symm.trans H;with_reducible exact H2_) | with_reducible exact H | (rw [hy141];exact H) | exact H
     have Ny141:=Aside0.mk hy141
     clear hy141
     have H':=Aside0.mk H
     clear H
     go_wp2_with (first | ((with_reducible refine gate_builtin (b:=.append) (xs:=#[.tmp 7,.tmp 12]) rfl ?_);at_builtin;refine Kd.R_append (Kd.int .u8) (w0:=w) w.heap.size rfl (.tmp 7) (.tmp 12) 93 5 (.int .u8 0) 1 rfl Try.underlying93 info5 rfl (by decide) (by omega) u3 x3_1 ((wrap64 ((Int.tmod x0_1 128) + 128)) % 256) [.int .u8 ((wrap64 ((Int.tmod x0_1 128) + 128)) % 256)] (fun _ => True) (fun _ => False) rfl rfl ?aP (fun _ hk => hk.elim) ?aF ?aO ?aB ?aS ?aL ?_;(case aP => exact rfl);(case aB => exact (by repeat (first | (with_reducible first | exact HB.out | apply below_alloc | apply pw_below_drewN | apply below_drew1) | exact HB.out)));(case aF => exact (fun _ _ => trivial));(case aO => exact (by (with_reducible repeat (first | apply Kd.R_alloc | apply Kd.R_drewN | apply Kd.R_drew));exact HO_3.out));(case aS => exact (below_size (by repeat (first | (with_reducible first | exact HB.out | apply below_alloc | apply pw_below_drewN | apply below_drew1) | exact HB.out))));(case aL => have:=LMc5.out;omega);intro v142 w6 ho hb hg hat;rw [← Ny141.out] at ho;have n0_:=Aside0.mk (hb);have n1_:=Aside0.mk (ho);clear HB;clear HO_3;have HB:=n0_;have HO143:=n1_;clear n0_ n1_;clear ho hb hg hat))
     go_roundg k1
     case measure => have:=HK1.out;omega
     case rel => exact ⟨(wrap64 (Int.tdiv x0_1 128)),(y141),(by first | rfl | (simp;done) | (simp [*];done)),H',⟨by have:=HK1.out;omega⟩,⟨by (with_reducible repeat (first | apply Kd.R_alloc | apply Kd.R_drewN | apply Kd.R_drew));exact HO143.out⟩,⟨by repeat (first | (with_reducible first | exact HB.out | apply below_alloc | apply pw_below_drewN | apply below_drew1) | exact HB.out)⟩⟩
    ·rw [if_neg c5] at H
     exact absurd H (by simp)
   ·rw [if_neg c4] at H
    have c4b0 : decide (127 < x0_1) = false:=decide_eq_false c4
    clear c4
    by_cases c7 : x3_1.length < 140737488355328
    ·rw [if_pos c7] at H
     have LMc7:=Aside0.mk c7
     clear c7
     obtain ⟨y144,hy144⟩ : ∃ y_ : List Int,y_ = (x3_1 ++ [(x0_1) % 256]):=⟨_,rfl⟩
     replace H : (some (strOfNums y144)) = some r:=by first | (rw [hy144];with_reducible exact H) | (have H2_:=(Option.bind_some _ _).symm.trans H;rw [hy144];with_reducible exact H2_) | (have H2_:=(Option.bind_some _ _).symm.trans H;with_reducible exact H2_) | with_reducible exact H | (rw [hy144];exact H) | exact H
     have Ny144:=Aside0.mk hy144
     clear hy144
     obtain rfl:=Option.some.inj H
     go_wp2_with (first | ((with_reducible refine gate_builtin (b:=.append) (xs:=#[.tmp 16,.tmp 19]) rfl ?_);at_builtin;refine Kd.R_append (Kd.int .u8) (w0:=w) w.heap.size rfl (.tmp 16) (.tmp 19) 93 5 (.int .u8 0) 1 rfl Try.underlying93 info5 rfl (by decide) (by omega) u3 x3_1 ((x0_1) % 256) [.int .u8 ((x0_1) % 256)] (fun _ => True) (fun _ => False) rfl rfl ?aP (fun _ hk => hk.elim) ?aF ?aO ?aB ?aS ?aL ?_;(case aP => exact rfl);(case aB => exact (by repeat (first | (with_reducible first | exact HB.out | apply below_alloc | apply pw_below_drewN | apply below_drew1) | exact HB.out)));(case aF => exact (fun _ _ => trivial));(case aO => exact (by (with_reducible repeat (first | apply Kd.R_alloc | apply Kd.R_drewN | apply Kd.R_drew));exact HO_3.out));(case aS => exact (below_size (by repeat (first | (with_reducible first | exact HB.out | apply below_alloc | apply pw_below_drewN | apply below_drew1) | exact HB.out))));(case aL => have:=LMc7.out;omega);intro v145 w8 ho hb hg hat;rw [← Ny144.out] at ho;have n0_:=Aside0.mk (hb);have n1_:=Aside0.mk (ho);clear HB;clear HO_3;have HB:=n0_;have HO146:=n1_;clear n0_ n1_;clear ho hb hg hat;have hcv9:=own_string (P:=Try.prog) Try.underlying93 Try.underlying5 Try.underlying9 (Kd.own_of_R HO146.out)))
     go_ret
     exact ⟨by first | rfl | (simp [errW_none,errW_some] <;> rfl) | (simp [*,errW_none,errW_some] <;> rfl),by repeat (first | (with_reducible first | exact HB.out | apply below_alloc | apply pw_below_drewN | apply below_drew1) | exact HB.out)⟩
    ·rw [if_neg c7] at H
     exact absurd H (by simp)

/-! ### spec_l05Short: function 60 -/
def spec_l05Short.f (k : Nat) (a0 : ByteArray) : Option (ByteArray):=(spec_l01Var.f k (a0.size : Int)).bind fun t147 => (if t147.size + a0.size ≤ 9223372036854775807 then (some (t147 ++ a0)) else (none))
theorem spec_l05Short.mono : ∀ a0 k,LeO (spec_l05Short.f k a0) (spec_l05Short.f (k + 1) a0):=by
 intro a0 k
 unfold spec_l05Short.f
 repeat' first
   | (with_reducible exact spec_l01Var.mono _ _)
   | (with_reducible exact LeO.refl _)
   | (with_reducible exact LeO.none _)
   | (with_reducible refine LeO.ite ?_ ?_)
   | (with_reducible refine LeO.bind ?_ (fun _ => ?_))
   | exact spec_l01Var.mono _ _
   | exact LeO.none _
   | refine LeO.ite ?_ ?_
   | refine LeO.bind ?_ (fun _ => ?_)
set_option maxHeartbeats 8000000 in
set_option maxRecDepth 100000 in
theorem spec_l05Short.calls (k : Nat) (a0 : ByteArray) (r : ByteArray) (w : World) (h : spec_l05Short.f k a0 = some r) :
  Calls Try.prog 60 #[.string a0] w fun e w' => e = .returned (.string r) ∧ Below w.heap.size w w':=by
 have HB:=Aside0.mk (Below.refl w.heap.size w)
 have H : ((spec_l01Var.f k (a0.size : Int)).bind fun t147 => (if t147.size + a0.size ≤ 9223372036854775807 then (some (t147 ++ a0)) else (none))) = some r:=h
 clear h
 replace H:=Option.bind_eq_some_iff.mp H
 obtain ⟨t147,A20,H⟩:=H
 replace H : (if t147.size + a0.size ≤ 9223372036854775807 then (some (t147 ++ a0)) else (none)) = some r:=H
 have A2:=Aside0.mk A20
 clear A20
 by_cases c3 : t147.size + a0.size ≤ 9223372036854775807
 ·rw [if_pos c3] at H
  have c3b0:=eq_true c3
  have c3b1 : decide (t147.size + a0.size ≤ 9223372036854775807) = true:=decide_eq_true c3
  try have c3b2 : (9223372036854775807 < t147.size + a0.size) = False:=eq_false (Nat.not_lt.2 c3)
  obtain rfl:=Option.some.inj H
  go_enter Try.func60,Try.ntmps60
  go_wp2_with (first | ((with_reducible refine gate_callee (f:=59) rfl ?_);refine goesL_ (some 5) rfl rfl Try.func59 (by kernel_rfl) rfl #[.int .i64 (a0.size : Int)] rfl (by (try simp only [List.map_toArray,List.map_cons,List.map_nil]);first | done | rfl | (simp only [List.length_drop,List.length_take];rfl)) ?_;(with_reducible refine (spec_l01Var.calls k (a0.size : Int) t147 _ A2.out).mono ?_);rintro e w4 ⟨rfl,hb⟩;refine ⟨_,rfl,?_⟩;have n0_:=Aside0.mk (below_step (by repeat (first | (with_reducible first | exact HB.out | apply below_alloc | apply pw_below_drewN | apply below_drew1) | exact HB.out)) hb);clear HB;have HB:=n0_;clear n0_;(try clear hb);(try clear hb2);(try clear hk);(try clear hi)))
  go_ret
  exact ⟨by first | rfl | (simp [errW_none,errW_some] <;> rfl) | (simp [*,errW_none,errW_some] <;> rfl),by repeat (first | (with_reducible first | exact HB.out | apply below_alloc | apply pw_below_drewN | apply below_drew1) | exact HB.out)⟩
 ·rw [if_neg c3] at H
  exact absurd H (by simp)

/-! ### spec_l05Flag: function 63 -/
def spec_l05Flag.f (a0 : Bool) : Option (ByteArray):=if a0 = true then (some (⟨#[1]⟩ : ByteArray)) else (some (⟨#[0]⟩ : ByteArray))
set_option maxHeartbeats 8000000 in
set_option maxRecDepth 100000 in
theorem spec_l05Flag.calls (a0 : Bool) (r : ByteArray) (w : World) (h : spec_l05Flag.f a0 = some r) :
  Calls Try.prog 63 #[.bool a0] w fun e w' => e = .returned (.string r) ∧ Drawn0 w w':=by
 have H : (if a0 = true then (some (⟨#[1]⟩ : ByteArray)) else (some (⟨#[0]⟩ : ByteArray))) = some r:=h
 clear h
 by_cases c2 : a0 = true
 ·subst c2
  have H1 : (some (⟨#[1]⟩ : ByteArray)) = some r:=by rw [if_pos rfl] at H;exact H
  clear H
  have H:=H1
  clear H1
  obtain rfl:=Option.some.inj H
  go_enter Try.func63,Try.ntmps63
  go_wp2
  go_ret
  exact ⟨by first | rfl | (simp;done) | (simp [*];done),by repeat (first | exact Drawn0.refl _ | apply Drawn0.step)⟩
 ·replace c2:=Bool.eq_false_iff.mpr c2
  subst c2
  have H1 : (some (⟨#[0]⟩ : ByteArray)) = some r:=by rw [if_neg (show ¬ (false = true) by decide)] at H;exact H
  clear H
  have H:=H1
  clear H1
  obtain rfl:=Option.some.inj H
  go_enter Try.func63,Try.ntmps63
  go_wp2
  go_ret
  exact ⟨by first | rfl | (simp;done) | (simp [*];done),by repeat (first | exact Drawn0.refl _ | apply Drawn0.step)⟩

/-! ### spec_BatchText: function 33 -/
def spec_BatchText.l0 : Nat → List Int → Int → Int → List (S86) → Option (ByteArray × Bool)
 | 0,_,_,_,_ => none
 | k + 1,x4,x5,x149000,x149001 => if x5 < (x149001.length : Int) then (if 0 ≤ x5 then ((spec_l05Short.f k ((rd_T86 x149001 x5).f0)).bind fun t157 => ((spec_l05Flag.f ((rd_T86 x149001 x5).f2)).bind fun t158 => (if t157.size + t158.size ≤ 9223372036854775807 then ((spec_l05Short.f k ((rd_T86 x149001 x5).f1)).bind fun t159 => (if (t157 ++ t158).size + t159.size ≤ 9223372036854775807 then (if ((t157 ++ t158) ++ t159).size < 140737488355328 then ((some (bytesOf ((t157 ++ t158) ++ t159) : List Int)).bind fun y160 => (if x4.length + y160.length < 140737488355328 then (spec_BatchText.l0 k (x4 ++ y160) (wrap64 (x5 + 1)) x149000 x149001) else (none))) else (none)) else (none))) else (none)))) else (none)) else (if (x4.length : Int) > 9000 then (some ((⟨#[]⟩ : ByteArray),false)) else (some (strOfNums x4,true)))
def spec_BatchText.f (k : Nat) (a0_0 : Int) (l0_1 : List (S86)) : Option (ByteArray × Bool):=(spec_BatchOk.f k a0_0 l0_1).bind fun t149 => (if t149 = true then ((spec_l01Var.f k a0_0).bind fun t150 => (if 1 + t150.size ≤ 9223372036854775807 then ((spec_l01Var.f k (l0_1.length : Int)).bind fun t151 => (if ((⟨#[66]⟩ : ByteArray) ++ t150).size + t151.size ≤ 9223372036854775807 then (if (((⟨#[66]⟩ : ByteArray) ++ t150) ++ t151).size < 140737488355328 then (spec_BatchText.l0 k (bytesOf (((⟨#[66]⟩ : ByteArray) ++ t150) ++ t151)) 0 a0_0 l0_1) else (none)) else (none))) else (none))) else (some ((⟨#[]⟩ : ByteArray),false)))
theorem spec_BatchText.mono_l : ∀ k,(∀ y0 y1 y2 y3,LeO (spec_BatchText.l0 k y0 y1 y2 y3) (spec_BatchText.l0 (k + 1) y0 y1 y2 y3))
 | 0 => fun _ _ _ _ r h => by simp [spec_BatchText.l0] at h
 | k + 1 => by
  have ih0:=spec_BatchText.mono_l k
  ·intro y0 y1 y2 y3
   unfold spec_BatchText.l0
   repeat' first
   | (with_reducible exact ih0 _ _ _ _)
   | (with_reducible exact spec_BatchOk.mono _ _ _)
   | (with_reducible exact spec_l01Var.mono _ _)
   | (with_reducible exact spec_l05Short.mono _ _)
   | (with_reducible exact LeO.refl _)
   | (with_reducible exact LeO.none _)
   | (with_reducible refine LeO.ite ?_ ?_)
   | (with_reducible refine LeO.bind ?_ (fun _ => ?_))
   | exact ih0 _ _ _ _
   | exact spec_BatchOk.mono _ _ _
   | exact spec_l01Var.mono _ _
   | exact spec_l05Short.mono _ _
   | exact LeO.none _
   | refine LeO.ite ?_ ?_
   | refine LeO.bind ?_ (fun _ => ?_)
theorem spec_BatchText.mono : ∀ a0 a1 k,LeO (spec_BatchText.f k a0 a1) (spec_BatchText.f (k + 1) a0 a1):=by
 intro a0 a1 k
 have ih0:=spec_BatchText.mono_l k
 unfold spec_BatchText.f
 repeat' first
   | (with_reducible exact ih0 _ _ _ _)
   | (with_reducible exact spec_BatchOk.mono _ _ _)
   | (with_reducible exact spec_l01Var.mono _ _)
   | (with_reducible exact spec_l05Short.mono _ _)
   | (with_reducible exact LeO.refl _)
   | (with_reducible exact LeO.none _)
   | (with_reducible refine LeO.ite ?_ ?_)
   | (with_reducible refine LeO.bind ?_ (fun _ => ?_))
   | exact ih0 _ _ _ _
   | exact spec_BatchOk.mono _ _ _
   | exact spec_l01Var.mono _ _
   | exact spec_l05Short.mono _ _
   | exact LeO.none _
   | refine LeO.ite ?_ ?_
   | refine LeO.bind ?_ (fun _ => ?_)
def spec_BatchText.T3 : Bool × List (List Nat × List Nat):=(true,[([],[]),([0],[0]),([1],[1]),([2],[2]),([],[]),([4],[4]),([5],[5]),([6,2],[6]),([3,7],[3,7]),([8],[8]),([9,7,0,1,2,3,4,5,6,7,8,9],[9])])
def spec_BatchText.B3 : List Nat:=[0,1,3,7,0,16,48,119,255,511,1023]
theorem spec_BatchText.tab3 : rtab .any (opsOf Try.f33 3) = spec_BatchText.T3:=by kernel_rfl
theorem spec_BatchText.bits3 : waitsOk spec_BatchText.T3.2 spec_BatchText.B3 = true:=by kernel_rfl
def spec_BatchText.T8 : Bool × List (List Nat × List Nat):=(true,[([],[]),([],[]),([1],[1]),([2],[2]),([],[]),([4],[4]),([5,3],[5]),([3,6],[3,6]),([],[]),([8],[8]),([9,6],[9]),([7,10],[7,10]),([11],[11]),([0,12,10],[0,12]),([13,13,0,1,2,3,4,5,6,7,8,9,10,11,12,13],[0,13])])
def spec_BatchText.B8 : List Nat:=[0,0,2,6,0,16,62,126,0,256,894,2046,4094,8191,16383]
theorem spec_BatchText.tab8 : rtab .any (opsOf Try.f33 8) = spec_BatchText.T8:=by kernel_rfl
theorem spec_BatchText.bits8 : waitsOk spec_BatchText.T8.2 spec_BatchText.B8 = true:=by kernel_rfl
set_option maxHeartbeats 8000000 in
set_option maxRecDepth 100000 in
theorem spec_BatchText.calls (k : Nat) (a0_0 : Int) (A0_1 : Option Addr) (c0_1 : Nat) (l0_1 : List (S86)) (r1 : ByteArray) (r2 : Bool) (w : World) (hr0_1 : Kd.C k86 w A0_1 l0_1.length l0_1) (hc0_1 : l0_1.length ≤ c0_1) (h : spec_BatchText.f k a0_0 l0_1 = some (r1,r2)) :
  Calls Try.prog 33 #[.agg #[.int .i64 a0_0,.slice A0_1 l0_1.length c0_1]] w fun e w' => e = .returned (.tuple #[.string r1,.bool r2]) ∧ Below w.heap.size w w':=by
 have hu47:=Try.underlying47
 have hu86:=Try.underlying86
 have HR0_1:=Aside0.mk hr0_1
 have HC0_1:=Aside0.mk hc0_1
 clear hr0_1 hc0_1
 have HB:=Aside0.mk (Below.refl w.heap.size w)
 have H : ((spec_BatchOk.f k a0_0 l0_1).bind fun t149 => (if t149 = true then ((spec_l01Var.f k a0_0).bind fun t150 => (if 1 + t150.size ≤ 9223372036854775807 then ((spec_l01Var.f k (l0_1.length : Int)).bind fun t151 => (if ((⟨#[66]⟩ : ByteArray) ++ t150).size + t151.size ≤ 9223372036854775807 then (if (((⟨#[66]⟩ : ByteArray) ++ t150) ++ t151).size < 140737488355328 then (spec_BatchText.l0 k (bytesOf (((⟨#[66]⟩ : ByteArray) ++ t150) ++ t151)) 0 a0_0 l0_1) else (none)) else (none))) else (none))) else (some ((⟨#[]⟩ : ByteArray),false)))) = some (r1,r2):=h
 clear h
 replace H:=Option.bind_eq_some_iff.mp H
 obtain ⟨t149,A20,H⟩:=H
 replace H : (if t149 = true then ((spec_l01Var.f k a0_0).bind fun t150 => (if 1 + t150.size ≤ 9223372036854775807 then ((spec_l01Var.f k (l0_1.length : Int)).bind fun t151 => (if ((⟨#[66]⟩ : ByteArray) ++ t150).size + t151.size ≤ 9223372036854775807 then (if (((⟨#[66]⟩ : ByteArray) ++ t150) ++ t151).size < 140737488355328 then (spec_BatchText.l0 k (bytesOf (((⟨#[66]⟩ : ByteArray) ++ t150) ++ t151)) 0 a0_0 l0_1) else (none)) else (none))) else (none))) else (some ((⟨#[]⟩ : ByteArray),false))) = some (r1,r2):=H
 have A2:=Aside0.mk A20
 clear A20
 by_cases c3 : t149 = true
 ·subst c3
  have H1 : ((spec_l01Var.f k a0_0).bind fun t150 => (if 1 + t150.size ≤ 9223372036854775807 then ((spec_l01Var.f k (l0_1.length : Int)).bind fun t151 => (if ((⟨#[66]⟩ : ByteArray) ++ t150).size + t151.size ≤ 9223372036854775807 then (if (((⟨#[66]⟩ : ByteArray) ++ t150) ++ t151).size < 140737488355328 then (spec_BatchText.l0 k (bytesOf (((⟨#[66]⟩ : ByteArray) ++ t150) ++ t151)) 0 a0_0 l0_1) else (none)) else (none))) else (none))) = some (r1,r2):=by rw [if_pos rfl] at H;exact H
  clear H
  have H:=H1
  clear H1
  replace H:=Option.bind_eq_some_iff.mp H
  obtain ⟨t150,A40,H⟩:=H
  replace H : (if 1 + t150.size ≤ 9223372036854775807 then ((spec_l01Var.f k (l0_1.length : Int)).bind fun t151 => (if ((⟨#[66]⟩ : ByteArray) ++ t150).size + t151.size ≤ 9223372036854775807 then (if (((⟨#[66]⟩ : ByteArray) ++ t150) ++ t151).size < 140737488355328 then (spec_BatchText.l0 k (bytesOf (((⟨#[66]⟩ : ByteArray) ++ t150) ++ t151)) 0 a0_0 l0_1) else (none)) else (none))) else (none)) = some (r1,r2):=H
  have A4:=Aside0.mk A40
  clear A40
  by_cases c5 : 1 + t150.size ≤ 9223372036854775807
  ·rw [if_pos c5] at H
   have c5b0:=eq_true c5
   have c5b1 : decide (1 + t150.size ≤ 9223372036854775807) = true:=decide_eq_true c5
   try have c5b2 : (9223372036854775807 < 1 + t150.size) = False:=eq_false (Nat.not_lt.2 c5)
   replace H:=Option.bind_eq_some_iff.mp H
   obtain ⟨t151,A60,H⟩:=H
   replace H : (if ((⟨#[66]⟩ : ByteArray) ++ t150).size + t151.size ≤ 9223372036854775807 then (if (((⟨#[66]⟩ : ByteArray) ++ t150) ++ t151).size < 140737488355328 then (spec_BatchText.l0 k (bytesOf (((⟨#[66]⟩ : ByteArray) ++ t150) ++ t151)) 0 a0_0 l0_1) else (none)) else (none)) = some (r1,r2):=H
   have A6:=Aside0.mk A60
   clear A60
   by_cases c7 : ((⟨#[66]⟩ : ByteArray) ++ t150).size + t151.size ≤ 9223372036854775807
   ·rw [if_pos c7] at H
    have c7b0:=eq_true c7
    have c7b1 : decide (((⟨#[66]⟩ : ByteArray) ++ t150).size + t151.size ≤ 9223372036854775807) = true:=decide_eq_true c7
    try have c7b2 : (9223372036854775807 < ((⟨#[66]⟩ : ByteArray) ++ t150).size + t151.size) = False:=eq_false (Nat.not_lt.2 c7)
    have c7n:=c7
    simp only [ByteArray.size_append] at c7n
    have c7m1:=eq_true c7n
    have c7m2:=decide_eq_true c7n
    have c7m3:=eq_false (Nat.not_lt.2 c7n)
    try have c7q:=c7n
    try simp only [show (⟨#[66]⟩ : ByteArray).size = 1 from rfl] at c7q
    try have c7q1:=eq_true c7q
    try have c7q2:=decide_eq_true c7q
    try have c7q3:=eq_false (Nat.not_lt.2 c7q)
    by_cases c8 : (((⟨#[66]⟩ : ByteArray) ++ t150) ++ t151).size < 140737488355328
    ·rw [if_pos c8] at H
     have c8b0:=eq_true c8
     have c8b1 : decide ((((⟨#[66]⟩ : ByteArray) ++ t150) ++ t151).size < 140737488355328) = true:=decide_eq_true c8
     obtain ⟨y152,hy152⟩ : ∃ y_ : List Int,y_ = (bytesOf (((⟨#[66]⟩ : ByteArray) ++ t150) ++ t151)):=⟨_,rfl⟩
     replace H : (spec_BatchText.l0 k y152 0 a0_0 l0_1) = some (r1,r2):=by first | (rw [hy152];with_reducible exact H) | (have H2_:=(Option.bind_some _ _).symm.trans H;rw [hy152];with_reducible exact H2_) | (have H2_:=(Option.bind_some _ _).symm.trans H;with_reducible exact H2_) | with_reducible exact H | (rw [hy152];exact H) | exact H
     have Ny152:=Aside0.mk hy152
     clear hy152
     have H':=Aside0.mk H
     clear H
     go_enter Try.func33,Try.ntmps33
     try go_wp2_with (first | ((with_reducible refine gate_dst (N:=1) rfl ?_);refine box_event ?hg (N:=1) ?hd (cs:=#[.int .i64 a0_0,.slice A0_1 l0_1.length c0_1]) (t:=47) ?hr ?_;(case hd => rfl);(case hg => rfl);(case hr => first | (go_simp;done) | (go_simp;rfl));intro gb148 hg w9 hbox hb;have n0_:=Aside0.mk (below_step (by repeat (first | (with_reducible first | exact HB.out | apply below_alloc | apply pw_below_drewN | apply below_drew1) | exact HB.out)) hb);have n1_:=Aside0.mk (hbox);have n2_:=Aside0.mk ((by rw [hg];exact (below_size (by repeat (first | (with_reducible first | exact HB.out | apply below_alloc | apply pw_below_drewN | apply below_drew1) | exact HB.out))) : w.heap.size ≤ gb148));have n3_:=Aside0.mk ((by rw [hg];exact (below_size (by repeat (first | (with_reducible first | exact HB.out | apply below_alloc | apply pw_below_drewN | apply below_drew1) | exact HB.out))) : w.heap.size ≤ gb148));clear HB;have HB:=n0_;have BK148:=n1_;have GW148:=n2_;have GE148:=n3_;clear n0_ n1_ n2_ n3_;clear hb hbox hg;have hcz10_0 : w9.cell? ⟨gb148,0,none⟩ = some (.int .i64 a0_0):=(blk_cell BK148.out 0).trans rfl;have hcz10_1 : w9.cell? ⟨gb148,1,none⟩ = some (.slice A0_1 l0_1.length c0_1):=(blk_cell BK148.out 1).trans rfl;have hfz10_0:=blk_frozen BK148.out 0;have hfz10_1:=blk_frozen BK148.out 1) | ((with_reducible refine gate_callee (f:=22) rfl ?_);refine goesL_ (some 8) rfl rfl Try.func22 (by kernel_rfl) rfl #[.agg #[.int .i64 a0_0,.slice A0_1 l0_1.length c0_1]] rfl (by (try simp only [List.map_toArray,List.map_cons,List.map_nil]);first | done | rfl | (simp only [List.length_drop,List.length_take];rfl)) ?_;(with_reducible refine (spec_BatchOk.calls k a0_0 _ _ l0_1 true _ ?side1 ?side2 A2.out).mono ?_);(case side1 => repeat (first | exact (Kd.C_below HR0_1.out HB.out) | (with_reducible refine Kd.C_alloc ?_ _) | (with_reducible refine Kd.C_drewN ?_ _) | (with_reducible refine Kd.C_drew ?_)));(case side2 => exact HC0_1.out);rintro e w11 ⟨rfl,hb⟩;refine ⟨_,rfl,?_⟩;have n0_:=Aside0.mk (blk_below (g:=gb148) (o:=.cells #[.int .i64 a0_0,.slice A0_1 l0_1.length c0_1] 47 (0,0)) (by (with_reducible repeat (first | refine blk_drewN ?_ _ | refine blk_drew ?_ | refine blk_alloc ?_ _));exact BK148.out) hb);have n1_:=Aside0.mk (below_step (by repeat (first | (with_reducible first | exact HB.out | apply below_alloc | apply pw_below_drewN | apply below_drew1 | refine below_set ?_ GE148.out) | exact HB.out)) hb);clear BK148;clear HB;have BK148:=n0_;have HB:=n1_;clear n0_ n1_;(try clear hb);(try clear hb2);(try clear hk);(try clear hi)))
     have n0_:=Aside0.mk (blk_drew BK148.out)
     have n1_:=Aside0.mk (below_drew1 HB.out)
     clear BK148
     clear HB
     have BK148:=n0_
     have HB:=n1_
     clear n0_ n1_
     refine start_ (n:=11) (S:=fun w' => w'.cell? ⟨gb148,0,none⟩ = some (.int .i64 a0_0) ∧ w'.cell? ⟨gb148,1,none⟩ = some (.slice A0_1 l0_1.length c0_1)) (ds:=[]) #[Z4,Z4,Z4,Z4,Z4,Z4,Z4,Z4,Z4,Z4,Z4] (by kernel_rfl) rfl rfl ⟨(blk_cell BK148.out 0).trans rfl,(blk_cell BK148.out 1).trans rfl⟩ (fun hHeld => ?_);refine with_tabW spec_BatchText.tab3 spec_BatchText.bits3 (fun HT_ HW_ => ?_)
     generalize w11.drew = w12 at BK148 HB hHeld ⊢
     refine pure_ (i:=0) (N:=some 10) (v:=?_) (a':=?_) #[Y4,Z4,Z4,Z4,Z4,Z4,Z4,Z4,Z4,Z4,Z4] rfl rfl (any_of HT_.out (by kernel_rfl)) (fun _ _ _ h => h) (Or.inl ⟨by rfl,?_⟩) ?_ ?_;rotate_left
     ·intro w';go_simp;with_reducible rfl
     rotate_left
     ·simp only [Act.put,q14,q24,q34,i64_w,i32_w];rfl
     refine pure_ (i:=4) (N:=some 14) (v:=?_) (a':=?_) #[Y4,Z4,Z4,Z4,Y4,Z4,Z4,Z4,Z4,Z4,Z4] rfl rfl (any_of HT_.out (by kernel_rfl)) (fun _ _ _ h => h) (Or.inl ⟨by rfl,?_⟩) ?_ ?_;rotate_left
     ·intro w';go_simp;with_reducible rfl
     rotate_left
     ·simp only [Act.put,q14,q24,q34,i64_w,i32_w];rfl
     refine take_ (i:=1) (N:=some 11) (v:=?_) (a':=?_) #[Y4,Y4,Z4,Z4,Y4,Z4,Z4,Z4,Z4,Z4,Z4] rfl rfl (take_ofW HT_.out HW_.out (by kernel_rfl)) (fun _ _ _ h => h) (Or.inl ⟨by rfl,?_⟩) hHeld ?_ ?_;rotate_left
     ·rintro w' ⟨s0,s1⟩
      go_simp
      with_reducible rfl
     rotate_left
     ·simp only [Act.put,q14,q24,q34,i64_w,i32_w];rfl
     refine take_ (i:=5) (N:=some 15) (v:=?_) (a':=?_) #[Y4,Y4,Z4,Z4,Y4,Y4,Z4,Z4,Z4,Z4,Z4] rfl rfl (take_ofW HT_.out HW_.out (by kernel_rfl)) (fun _ _ _ h => h) (Or.inl ⟨by rfl,?_⟩) hHeld ?_ ?_;rotate_left
     ·rintro w' ⟨s0,s1⟩
      go_simp
      with_reducible rfl
     rotate_left
     ·simp only [Act.put,q14,q24,q34,i64_w,i32_w];rfl
     refine pure_ (i:=6) (N:=some 16) (v:=?_) (a':=?_) #[Y4,Y4,Z4,Z4,Y4,Y4,Y4,Z4,Z4,Z4,Z4] rfl rfl (any_of HT_.out (by kernel_rfl)) (fun _ _ _ h => h) (Or.inl ⟨by rfl,?_⟩) ?_ ?_;rotate_left
     ·intro w';go_simp;with_reducible rfl
     rotate_left
     ·simp only [Act.put,q14,q24,q34,i64_w,i32_w];rfl
     refine one_ (i:=2) (N:=some 12) #[Y4,Y4,Y4,Z4,Y4,Y4,Y4,Z4,Z4,Z4,Z4] rfl rfl (one_of HT_.out (by kernel_rfl)) (by decide) (fun K hK => ?_)
     refine goes_ Try.func59 (by kernel_rfl) rfl #[.int .i64 a0_0] (by rfl) rfl rfl (by (try simp only [List.map_toArray,List.map_cons,List.map_nil]);first | done | rfl | (simp only [List.length_drop,List.length_take];rfl)) ?_
     with_reducible refine (spec_l01Var.calls k a0_0 t150 _ A4.out).mono ?_
     rintro e w13 ⟨rfl,hb⟩
     refine ⟨_,rfl,?_⟩
     have n0_:=Aside0.mk (blk_below (g:=gb148) (o:=.cells #[.int .i64 a0_0,.slice A0_1 l0_1.length c0_1] 47 (0,0)) (by (with_reducible repeat (first | refine blk_drewN ?_ _ | refine blk_drew ?_ | refine blk_alloc ?_ _));exact BK148.out) hb)
     have n1_:=Aside0.mk (below_step (by repeat (first | (with_reducible first | exact HB.out | apply below_alloc | apply pw_below_drewN | apply below_drew1 | refine below_set ?_ GE148.out) | exact HB.out)) hb)
     clear BK148
     clear HB
     have BK148:=n0_
     have HB:=n1_
     clear n0_ n1_
     (try clear hb)
     (try clear hb2)
     (try clear hk)
     (try clear hi)
     refine hK.out _ _ ⟨(blk_cell BK148.out 0).trans rfl,(blk_cell BK148.out 1).trans rfl⟩ (fun hHeld => ?_)
     clear hK K
     refine norm_ (a':=?_) ?_ ?_;rotate_left
     ·show Act.put _ (some 12) _ = _;simp only [Act.put,q14,q24,q34,i64_w,i32_w];rfl
     refine pure_ (i:=3) (N:=some 13) (v:=?_) (a':=?_) #[Y4,Y4,Y4,Y4,Y4,Y4,Y4,Z4,Z4,Z4,Z4] rfl rfl (any_of HT_.out (by kernel_rfl)) (fun _ _ _ h => h) (Or.inl ⟨by rfl,?_⟩) ?_ ?_;rotate_left
     ·intro w';go_simp;with_reducible rfl
     rotate_left
     ·simp only [Act.put,q14,q24,q34,i64_w,i32_w];rfl
     refine one_ (i:=7) (N:=some 17) #[Y4,Y4,Y4,Y4,Y4,Y4,Y4,Y4,Z4,Z4,Z4] rfl rfl (one_of HT_.out (by kernel_rfl)) (by decide) (fun K hK => ?_)
     refine goes_ Try.func59 (by kernel_rfl) rfl #[.int .i64 (l0_1.length : Int)] (by rfl) rfl rfl (by (try simp only [List.map_toArray,List.map_cons,List.map_nil]);first | done | rfl | (simp only [List.length_drop,List.length_take];rfl)) ?_
     with_reducible refine (spec_l01Var.calls k (l0_1.length : Int) t151 _ A6.out).mono ?_
     rintro e w14 ⟨rfl,hb⟩
     refine ⟨_,rfl,?_⟩
     have n0_:=Aside0.mk (blk_below (g:=gb148) (o:=.cells #[.int .i64 a0_0,.slice A0_1 l0_1.length c0_1] 47 (0,0)) (by (with_reducible repeat (first | refine blk_drewN ?_ _ | refine blk_drew ?_ | refine blk_alloc ?_ _));exact BK148.out) hb)
     have n1_:=Aside0.mk (below_step (by repeat (first | (with_reducible first | exact HB.out | apply below_alloc | apply pw_below_drewN | apply below_drew1 | refine below_set ?_ GE148.out) | exact HB.out)) hb)
     clear BK148
     clear HB
     have BK148:=n0_
     have HB:=n1_
     clear n0_ n1_
     (try clear hb)
     (try clear hb2)
     (try clear hk)
     (try clear hi)
     refine hK.out _ _ ⟨(blk_cell BK148.out 0).trans rfl,(blk_cell BK148.out 1).trans rfl⟩ (fun hHeld => ?_)
     clear hK K
     refine norm_ (a':=?_) ?_ ?_;rotate_left
     ·show Act.put _ (some 17) _ = _;simp only [Act.put,q14,q24,q34,i64_w,i32_w];rfl
     refine pure_ (i:=8) (N:=some 18) (v:=?_) (a':=?_) #[Y4,Y4,Y4,Y4,Y4,Y4,Y4,Y4,Y4,Z4,Z4] rfl rfl (any_of HT_.out (by kernel_rfl)) (fun _ _ _ h => h) (Or.inl ⟨by rfl,?_⟩) ?_ ?_;rotate_left
     ·intro w';go_simp;with_reducible rfl
     rotate_left
     ·simp only [Act.put,q14,q24,q34,i64_w,i32_w];rfl
     refine one_ (i:=9) (N:=some 19) #[Y4,Y4,Y4,Y4,Y4,Y4,Y4,Y4,Y4,Y4,Z4] rfl rfl (one_of HT_.out (by kernel_rfl)) (by decide) (fun K hK => ?_)
     refine Md.R_conv_step _ 5 (by rfl) (N:=19) rfl 9 93 _ rfl Try.underlying9 Try.underlying93 Try.underlying5 (((⟨#[66]⟩ : ByteArray) ++ t150) ++ t151) rfl (ok:=fun _ => True) (okp:=fun _ => True) (fun _ hk => hk) trivial (of_decide_eq_true (by first | (with_reducible assumption) | assumption)) (Below.refl _ _) (Nat.le_refl _) ?_
     intro v153 w15 ho16 hb hg_ hnew_
     clear hg_ hnew_
     (first | rw [← Ny152.out] at ho16 | (simp only [Int.reduceToNat] at ho16;rw [← Ny152.out] at ho16))
     have n0_:=Aside0.mk (Md.R_lower ho16 (below_size (by repeat (first | (with_reducible first | exact HB.out | apply below_alloc | apply pw_below_drewN | apply below_drew1 | refine below_set ?_ GE148.out) | exact HB.out))))
     have n1_:=Aside0.mk (blk_below (g:=gb148) (o:=.cells #[.int .i64 a0_0,.slice A0_1 l0_1.length c0_1] 47 (0,0)) (by (with_reducible repeat (first | refine blk_drewN ?_ _ | refine blk_drew ?_ | refine blk_alloc ?_ _));exact BK148.out) hb)
     have n2_:=Aside0.mk (below_step (by repeat (first | (with_reducible first | exact HB.out | apply below_alloc | apply pw_below_drewN | apply below_drew1 | refine below_set ?_ GE148.out) | exact HB.out)) hb)
     clear BK148
     clear HB
     have HO154:=n0_
     have BK148:=n1_
     have HB:=n2_
     clear n0_ n1_ n2_
     clear hb ho16
     refine hK.out _ _ ⟨(blk_cell BK148.out 0).trans rfl,(blk_cell BK148.out 1).trans rfl⟩ (fun hHeld => ?_)
     clear hK K
     refine norm_ (a':=?_) ?_ ?_;rotate_left
     ·show Act.put _ (some 19) _ = _;simp only [Act.put,q14,q24,q34,i64_w,i32_w];rfl
     refine pure_ (i:=10) (N:=some 4) (v:=?_) (a':=?_) #[Y4,Y4,Y4,Y4,Y4,Y4,Y4,Y4,Y4,Y4,Y4] rfl rfl (any_of HT_.out (by kernel_rfl)) (fun _ _ _ h => h) (Or.inl ⟨by rfl,?_⟩) ?_ ?_;rotate_left
     ·intro w';go_simp;with_reducible rfl
     rotate_left
     ·simp only [Act.put,q14,q24,q34,i64_w,i32_w];rfl
     refine done_ (done_of HT_.out (by kernel_rfl)) ?_
     try go_wp2
     go_loopg [4,5] k (fun kq v4 v5 w' => ∃ (x4_1 : List Int) (x5_1 : Int),v5 = .int .i64 x5_1 ∧ Aside0 (spec_BatchText.l0 kq x4_1 x5_1 a0_0 l0_1 = some (r1,r2)) ∧ Aside0 (kq ≤ k) ∧ Aside0 (Md.R 5 w' w.heap.size (fun _ => True) v4 x4_1) ∧ Aside0 (w'.heap[gb148]? = some (.cells #[.int .i64 a0_0,(.slice A0_1 l0_1.length c0_1)] 47 (0,0))) ∧ Aside0 (Below w.heap.size w w'))
     case atStart => exact ⟨(y152),(0),(by first | rfl | (simp;done) | (simp [*];done)),H',⟨Nat.le_refl _⟩,⟨by (with_reducible repeat (first | apply Md.R_alloc | apply Md.R_drewN | apply Md.R_drew));exact HO154.out⟩,⟨by (with_reducible repeat (first | refine blk_drewN ?_ _ | refine blk_drew ?_ | refine blk_alloc ?_ _));exact BK148.out⟩,⟨by repeat (first | (with_reducible first | exact HB.out | apply below_alloc | apply pw_below_drewN | apply below_drew1 | refine below_set ?_ GE148.out) | exact HB.out)⟩⟩
     case round =>
      clear H'
      try clear c2
      try clear p2
      try clear c3
      try clear c5
      try clear c5b0
      try clear c5b1
      try clear c5b2
      try clear c7
      try clear c7b0
      try clear c7b1
      try clear c7b2
      try clear c8
      try clear c8b0
      try clear c8b1
      try clear hcz10_0
      try clear hcz10_1
      try clear hfz10_0
      try clear hfz10_1
      obtain ⟨x4_1,x5_1,rfl,HA,HK1,HO_4,BK148,HB⟩:=hrel
      cases gk with
      | zero => exact absurd HA.out (by simp [spec_BatchText.l0])
      | succ k1 =>
       have H:=HA.out
       clear HA
       simp only [spec_BatchText.l0] at H
       by_cases c17 : x5_1 < (l0_1.length : Int)
       ·rw [if_pos c17] at H
        have c17b0 : decide (x5_1 < (l0_1.length : Int)) = true:=decide_eq_true c17
        clear c17
        by_cases c18 : 0 ≤ x5_1
        ·rw [if_pos c18] at H
         have c18b0 : decide (0 ≤ x5_1) = true:=decide_eq_true c18
         clear c18
         replace H:=Option.bind_eq_some_iff.mp H
         obtain ⟨t157,A190,H⟩:=H
         replace H : ((spec_l05Flag.f ((rd_T86 l0_1 x5_1).f2)).bind fun t158 => (if t157.size + t158.size ≤ 9223372036854775807 then ((spec_l05Short.f k1 ((rd_T86 l0_1 x5_1).f1)).bind fun t159 => (if (t157 ++ t158).size + t159.size ≤ 9223372036854775807 then (if ((t157 ++ t158) ++ t159).size < 140737488355328 then ((some (bytesOf ((t157 ++ t158) ++ t159) : List Int)).bind fun y160 => (if x4_1.length + y160.length < 140737488355328 then (spec_BatchText.l0 k1 (x4_1 ++ y160) (wrap64 (x5_1 + 1)) a0_0 l0_1) else (none))) else (none)) else (none))) else (none))) = some (r1,r2):=H
         have A19:=Aside0.mk A190
         clear A190
         replace H:=Option.bind_eq_some_iff.mp H
         obtain ⟨t158,A200,H⟩:=H
         replace H : (if t157.size + t158.size ≤ 9223372036854775807 then ((spec_l05Short.f k1 ((rd_T86 l0_1 x5_1).f1)).bind fun t159 => (if (t157 ++ t158).size + t159.size ≤ 9223372036854775807 then (if ((t157 ++ t158) ++ t159).size < 140737488355328 then ((some (bytesOf ((t157 ++ t158) ++ t159) : List Int)).bind fun y160 => (if x4_1.length + y160.length < 140737488355328 then (spec_BatchText.l0 k1 (x4_1 ++ y160) (wrap64 (x5_1 + 1)) a0_0 l0_1) else (none))) else (none)) else (none))) else (none)) = some (r1,r2):=H
         have A20:=Aside0.mk A200
         clear A200
         by_cases c21 : t157.size + t158.size ≤ 9223372036854775807
         ·rw [if_pos c21] at H
          have c21b0:=eq_true c21
          have c21b1 : decide (t157.size + t158.size ≤ 9223372036854775807) = true:=decide_eq_true c21
          try have c21b2 : (9223372036854775807 < t157.size + t158.size) = False:=eq_false (Nat.not_lt.2 c21)
          replace H:=Option.bind_eq_some_iff.mp H
          obtain ⟨t159,A220,H⟩:=H
          replace H : (if (t157 ++ t158).size + t159.size ≤ 9223372036854775807 then (if ((t157 ++ t158) ++ t159).size < 140737488355328 then ((some (bytesOf ((t157 ++ t158) ++ t159) : List Int)).bind fun y160 => (if x4_1.length + y160.length < 140737488355328 then (spec_BatchText.l0 k1 (x4_1 ++ y160) (wrap64 (x5_1 + 1)) a0_0 l0_1) else (none))) else (none)) else (none)) = some (r1,r2):=H
          have A22:=Aside0.mk A220
          clear A220
          by_cases c23 : (t157 ++ t158).size + t159.size ≤ 9223372036854775807
          ·rw [if_pos c23] at H
           have c23b0:=eq_true c23
           have c23b1 : decide ((t157 ++ t158).size + t159.size ≤ 9223372036854775807) = true:=decide_eq_true c23
           try have c23b2 : (9223372036854775807 < (t157 ++ t158).size + t159.size) = False:=eq_false (Nat.not_lt.2 c23)
           have c23n:=c23
           simp only [ByteArray.size_append] at c23n
           have c23m1:=eq_true c23n
           have c23m2:=decide_eq_true c23n
           have c23m3:=eq_false (Nat.not_lt.2 c23n)
           try have c23q:=c23n
           try simp only [show (⟨#[66]⟩ : ByteArray).size = 1 from rfl] at c23q
           try have c23q1:=eq_true c23q
           try have c23q2:=decide_eq_true c23q
           try have c23q3:=eq_false (Nat.not_lt.2 c23q)
           by_cases c24 : ((t157 ++ t158) ++ t159).size < 140737488355328
           ·rw [if_pos c24] at H
            have c24b0:=eq_true c24
            have c24b1 : decide (((t157 ++ t158) ++ t159).size < 140737488355328) = true:=decide_eq_true c24
            obtain ⟨y160,hy160⟩ : ∃ y_ : List Int,y_ = (bytesOf ((t157 ++ t158) ++ t159)):=⟨_,rfl⟩
            replace H : (if x4_1.length + y160.length < 140737488355328 then (spec_BatchText.l0 k1 (x4_1 ++ y160) (wrap64 (x5_1 + 1)) a0_0 l0_1) else (none)) = some (r1,r2):=by first | (rw [hy160];with_reducible exact H) | (have H2_:=(Option.bind_some _ _).symm.trans H;rw [hy160];with_reducible exact H2_) | (have H2_:=(Option.bind_some _ _).symm.trans H;with_reducible exact H2_) | with_reducible exact H | (rw [hy160];exact H) | exact H
            have Ny160:=Aside0.mk hy160
            clear hy160
            by_cases c25 : x4_1.length + y160.length < 140737488355328
            ·rw [if_pos c25] at H
             have LMc25:=Aside0.mk c25
             clear c25
             obtain ⟨y163,hy163⟩ : ∃ y_ : List Int,y_ = (x4_1 ++ y160):=⟨_,rfl⟩
             replace H : (spec_BatchText.l0 k1 y163 (wrap64 (x5_1 + 1)) a0_0 l0_1) = some (r1,r2):=by first | (rw [hy163];with_reducible exact H) | (have H2_:=(Option.bind_some _ _).symm.trans H;rw [hy163];with_reducible exact H2_) | (have H2_:=(Option.bind_some _ _).symm.trans H;with_reducible exact H2_) | with_reducible exact H | (rw [hy163];exact H) | exact H
             have Ny163:=Aside0.mk hy163
             clear hy163
             have H':=Aside0.mk H
             clear H
             have hcz26_0 : wr.cell? ⟨gb148,0,none⟩ = some (.int .i64 a0_0):=(blk_cell BK148.out 0).trans rfl
             have hcz26_1 : wr.cell? ⟨gb148,1,none⟩ = some (.slice A0_1 l0_1.length c0_1):=(blk_cell BK148.out 1).trans rfl
             have hfz26_0:=blk_frozen BK148.out 0
             have hfz26_1:=blk_frozen BK148.out 1
             have p155 : 0 ≤ (x5_1 : Int):=of_decide_eq_true (by first | (with_reducible assumption) | assumption)
             have q155 : x5_1 < (l0_1.length : Int):=of_decide_eq_true (by first | (with_reducible assumption) | assumption)
             obtain ⟨ad155,e155,hx155_0,hx155_1,hx155_2⟩:=at_T86 HR0_1.out x5_1 p155 q155
             cases e155
             replace hx155_0:=(HB.out.cell (World.block_lt_of_cell? w _ hx155_0)).trans hx155_0
             replace hx155_1:=(HB.out.cell (World.block_lt_of_cell? w _ hx155_1)).trans hx155_1
             replace hx155_2:=(HB.out.cell (World.block_lt_of_cell? w _ hx155_2)).trans hx155_2
             replace p155:=eq_true p155
             replace q155:=eq_true q155
             try go_wp2_with (first | ((with_reducible refine gate_dst (N:=6) rfl ?_);refine box_event ?hg (N:=6) ?hd (cs:=#[.string (⟨#[]⟩ : ByteArray),.string (⟨#[]⟩ : ByteArray),.bool false]) (t:=86) ?hr ?_;(case hd => rfl);(case hg => rfl);(case hr => first | (go_simp;done) | (go_simp;rfl));intro gb156 hg w27 hbox hb;have n0_:=Aside0.mk (Md.R_below (by (with_reducible repeat (first | apply Md.R_alloc | apply Md.R_drewN | apply Md.R_drew));exact HO_4.out) hb);have n1_:=Aside0.mk (blk_below (g:=gb148) (o:=.cells #[.int .i64 a0_0,.slice (some ad155) l0_1.length c0_1] 47 (0,0)) (by (with_reducible repeat (first | refine blk_drewN ?_ _ | refine blk_drew ?_ | refine blk_alloc ?_ _));exact BK148.out) hb);have n2_:=Aside0.mk (below_step (by repeat (first | (with_reducible first | exact HB.out | apply below_alloc | apply pw_below_drewN | apply below_drew1 | refine below_set ?_ GE148.out) | exact HB.out)) hb);have n3_:=Aside0.mk (hbox);have n4_:=Aside0.mk ((by rw [hg];exact (below_size (by repeat (first | (with_reducible first | exact HB.out | apply below_alloc | apply pw_below_drewN | apply below_drew1 | refine below_set ?_ GE148.out) | exact HB.out))) : w.heap.size ≤ gb156));have n5_:=Aside0.mk ((by rw [hg];exact (below_size (by repeat (first | (with_reducible first | exact HB.out | apply below_alloc | apply pw_below_drewN | apply below_drew1 | refine below_set ?_ GE148.out) | exact HB.out))) : w.heap.size ≤ gb156));have n6_:=Aside0.mk ((by rw [hg];exact Nat.ne_of_lt (blk_lt (g:=gb148) (o:=.cells #[.int .i64 a0_0,.slice (some ad155) l0_1.length c0_1] 47 (0,0)) (by (with_reducible repeat (first | refine blk_drewN ?_ _ | refine blk_drew ?_ | refine blk_alloc ?_ _));exact BK148.out)) : gb148 ≠ gb156));have n7_:=Aside0.mk ((by rw [hg];exact Nat.ne_of_gt (blk_lt (g:=gb148) (o:=.cells #[.int .i64 a0_0,.slice (some ad155) l0_1.length c0_1] 47 (0,0)) (by (with_reducible repeat (first | refine blk_drewN ?_ _ | refine blk_drew ?_ | refine blk_alloc ?_ _));exact BK148.out)) : gb156 ≠ gb148));clear HO_4;clear BK148;clear HB;have HO_4:=n0_;have BK148:=n1_;have HB:=n2_;have BK156:=n3_;have GW156:=n4_;have GE156:=n5_;have NB148_156:=n6_;have NB156_148:=n7_;clear n0_ n1_ n2_ n3_ n4_ n5_ n6_ n7_;clear hb hbox hg;have hnb28:=NB156_148.out;have hnc28:=NB148_156.out;have hcz29_0 : w27.cell? ⟨gb156,0,none⟩ = some (.string (⟨#[]⟩ : ByteArray)):=(blk_cell BK156.out 0).trans rfl;have hcz29_1 : w27.cell? ⟨gb156,1,none⟩ = some (.string (⟨#[]⟩ : ByteArray)):=(blk_cell BK156.out 1).trans rfl;have hcz29_2 : w27.cell? ⟨gb156,2,none⟩ = some (.bool false):=(blk_cell BK156.out 2).trans rfl;have hfz29_0:=blk_frozen BK156.out 0;have hfz29_1:=blk_frozen BK156.out 1;have hfz29_2:=blk_frozen BK156.out 2))
             have n0_ : Aside0 (Md.R 5 (((w27.setCell ⟨gb156,0,none⟩ (.string ((rd_T86 l0_1 x5_1).f0))).setCell ⟨gb156,1,none⟩ (.string ((rd_T86 l0_1 x5_1).f1))).setCell ⟨gb156,2,none⟩ (.bool ((rd_T86 l0_1 x5_1).f2))) w.heap.size (fun _ => True) u4 x4_1):=⟨by (with_reducible repeat (first | apply Md.R_alloc | apply Md.R_drewN | apply Md.R_drew));exact Md.R_mono (Md.R_far (p:=⟨gb156,2,none⟩) (Md.R_far (p:=⟨gb156,1,none⟩) (Md.R_far (p:=⟨gb156,0,none⟩) (Md.R_types HO_4.out BK156.out (by decide)) (fun _ hk => hk.2) (.string ((rd_T86 l0_1 x5_1).f0))) (fun _ hk => hk.2) (.string ((rd_T86 l0_1 x5_1).f1))) (fun _ hk => hk.2) (.bool ((rd_T86 l0_1 x5_1).f2))) (fun _ hk => trivial)⟩
             have n1_ : Aside0 ((((w27.setCell ⟨gb156,0,none⟩ (.string ((rd_T86 l0_1 x5_1).f0))).setCell ⟨gb156,1,none⟩ (.string ((rd_T86 l0_1 x5_1).f1))).setCell ⟨gb156,2,none⟩ (.bool ((rd_T86 l0_1 x5_1).f2))).heap[gb148]? = some (.cells #[.int .i64 a0_0,.slice (some ad155) l0_1.length c0_1] 47 (0,0))):=⟨by (with_reducible repeat (first | refine blk_drewN ?_ _ | refine blk_drew ?_ | refine blk_alloc ?_ _));refine blk_far ?_ NB148_156.out _;(with_reducible repeat (first | refine blk_drewN ?_ _ | refine blk_drew ?_ | refine blk_alloc ?_ _));refine blk_far ?_ NB148_156.out _;(with_reducible repeat (first | refine blk_drewN ?_ _ | refine blk_drew ?_ | refine blk_alloc ?_ _));refine blk_far ?_ NB148_156.out _;(with_reducible repeat (first | refine blk_drewN ?_ _ | refine blk_drew ?_ | refine blk_alloc ?_ _));exact BK148.out⟩
             have n2_ : Aside0 ((((w27.setCell ⟨gb156,0,none⟩ (.string ((rd_T86 l0_1 x5_1).f0))).setCell ⟨gb156,1,none⟩ (.string ((rd_T86 l0_1 x5_1).f1))).setCell ⟨gb156,2,none⟩ (.bool ((rd_T86 l0_1 x5_1).f2))).heap[gb156]? = some (.cells #[.string ((rd_T86 l0_1 x5_1).f0),.string ((rd_T86 l0_1 x5_1).f1),.bool ((rd_T86 l0_1 x5_1).f2)] 86 (0,0))):=⟨by (with_reducible repeat (first | refine blk_drewN ?_ _ | refine blk_drew ?_ | refine blk_alloc ?_ _));refine blk_put (cs:=#[.string ((rd_T86 l0_1 x5_1).f0),.string ((rd_T86 l0_1 x5_1).f1),.bool false]) ?_ 2 _ rfl;(with_reducible repeat (first | refine blk_drewN ?_ _ | refine blk_drew ?_ | refine blk_alloc ?_ _));refine blk_put (cs:=#[.string ((rd_T86 l0_1 x5_1).f0),.string (⟨#[]⟩ : ByteArray),.bool false]) ?_ 1 _ rfl;(with_reducible repeat (first | refine blk_drewN ?_ _ | refine blk_drew ?_ | refine blk_alloc ?_ _));refine blk_put (cs:=#[.string (⟨#[]⟩ : ByteArray),.string (⟨#[]⟩ : ByteArray),.bool false]) ?_ 0 _ rfl;(with_reducible repeat (first | refine blk_drewN ?_ _ | refine blk_drew ?_ | refine blk_alloc ?_ _));exact BK156.out⟩
             have n3_ : Aside0 (Below w.heap.size w (((w27.setCell ⟨gb156,0,none⟩ (.string ((rd_T86 l0_1 x5_1).f0))).setCell ⟨gb156,1,none⟩ (.string ((rd_T86 l0_1 x5_1).f1))).setCell ⟨gb156,2,none⟩ (.bool ((rd_T86 l0_1 x5_1).f2)))):=⟨by repeat (first | (with_reducible first | exact HB.out | apply below_alloc | apply pw_below_drewN | apply below_drew1 | refine below_set ?_ GE148.out | refine below_set ?_ GE156.out) | exact HB.out)⟩
             (try clear HO_4)
             (try clear BK148)
             (try clear BK156)
             (try clear HB)
             generalize (((w27.setCell ⟨gb156,0,none⟩ (.string ((rd_T86 l0_1 x5_1).f0))).setCell ⟨gb156,1,none⟩ (.string ((rd_T86 l0_1 x5_1).f1))).setCell ⟨gb156,2,none⟩ (.bool ((rd_T86 l0_1 x5_1).f2))) = w30 at n0_ n1_ n2_ n3_ ⊢
             have HO_4:=n0_
             have BK148:=n1_
             have BK156:=n2_
             have HB:=n3_
             clear n0_ n1_ n2_ n3_
             have n0_:=Aside0.mk (Md.R_drew HO_4.out)
             have n1_:=Aside0.mk (blk_drew BK148.out)
             have n2_:=Aside0.mk (blk_drew BK156.out)
             have n3_:=Aside0.mk (below_drew1 HB.out)
             clear HO_4
             clear BK148
             clear BK156
             clear HB
             have HO_4:=n0_
             have BK148:=n1_
             have BK156:=n2_
             have HB:=n3_
             clear n0_ n1_ n2_ n3_
             refine start_ (n:=15) (S:=fun w' => w'.cell? ⟨gb156,0,none⟩ = some (.string ((rd_T86 l0_1 x5_1).f0)) ∧ w'.cell? ⟨gb156,1,none⟩ = some (.string ((rd_T86 l0_1 x5_1).f1)) ∧ w'.cell? ⟨gb156,2,none⟩ = some (.bool ((rd_T86 l0_1 x5_1).f2))) (ds:=[]) #[Z4,Z4,Z4,Z4,Z4,Z4,Z4,Z4,Z4,Z4,Z4,Z4,Z4,Z4,Z4] (by kernel_rfl) rfl rfl ⟨(blk_cell BK156.out 0).trans rfl,(blk_cell BK156.out 1).trans rfl,(blk_cell BK156.out 2).trans rfl⟩ (fun hHeld => ?_);refine with_tabW spec_BatchText.tab8 spec_BatchText.bits8 (fun HT_ HW_ => ?_)
             generalize w30.drew = w31 at HO_4 BK148 BK156 HB hHeld ⊢
             refine pure_ (i:=0) (N:=some 32) (v:=?_) (a':=?_) #[Y4,Z4,Z4,Z4,Z4,Z4,Z4,Z4,Z4,Z4,Z4,Z4,Z4,Z4,Z4] rfl rfl (any_of HT_.out (by kernel_rfl)) (fun _ _ _ h => h) (Or.inl ⟨by rfl,?_⟩) ?_ ?_;rotate_left
             ·intro w';go_simp;with_reducible rfl
             rotate_left
             ·simp only [Act.put,q14,q24,q34,i64_w,i32_w];rfl
             refine pure_ (i:=1) (N:=some 33) (v:=?_) (a':=?_) #[Y4,Y4,Z4,Z4,Z4,Z4,Z4,Z4,Z4,Z4,Z4,Z4,Z4,Z4,Z4] rfl rfl (any_of HT_.out (by kernel_rfl)) (fun _ _ _ h => h) (Or.inl ⟨by rfl,?_⟩) ?_ ?_;rotate_left
             ·intro w';go_simp;with_reducible rfl
             rotate_left
             ·simp only [Act.put,q14,q24,q34,i64_w,i32_w];rfl
             refine pure_ (i:=4) (N:=some 36) (v:=?_) (a':=?_) #[Y4,Y4,Z4,Z4,Y4,Z4,Z4,Z4,Z4,Z4,Z4,Z4,Z4,Z4,Z4] rfl rfl (any_of HT_.out (by kernel_rfl)) (fun _ _ _ h => h) (Or.inl ⟨by rfl,?_⟩) ?_ ?_;rotate_left
             ·intro w';go_simp;with_reducible rfl
             rotate_left
             ·simp only [Act.put,q14,q24,q34,i64_w,i32_w];rfl
             refine pure_ (i:=8) (N:=some 40) (v:=?_) (a':=?_) #[Y4,Y4,Z4,Z4,Y4,Z4,Z4,Z4,Y4,Z4,Z4,Z4,Z4,Z4,Z4] rfl rfl (any_of HT_.out (by kernel_rfl)) (fun _ _ _ h => h) (Or.inl ⟨by rfl,?_⟩) ?_ ?_;rotate_left
             ·intro w';go_simp;with_reducible rfl
             rotate_left
             ·simp only [Act.put,q14,q24,q34,i64_w,i32_w];rfl
             refine take_ (i:=2) (N:=some 34) (v:=?_) (a':=?_) #[Y4,Y4,Y4,Z4,Y4,Z4,Z4,Z4,Y4,Z4,Z4,Z4,Z4,Z4,Z4] rfl rfl (take_ofW HT_.out HW_.out (by kernel_rfl)) (fun _ _ _ h => h) (Or.inl ⟨by rfl,?_⟩) hHeld ?_ ?_;rotate_left
             ·rintro w' ⟨s0,s1,s2⟩
              go_simp
              with_reducible rfl
             rotate_left
             ·simp only [Act.put,q14,q24,q34,i64_w,i32_w];rfl
             refine take_ (i:=5) (N:=some 37) (v:=?_) (a':=?_) #[Y4,Y4,Y4,Z4,Y4,Y4,Z4,Z4,Y4,Z4,Z4,Z4,Z4,Z4,Z4] rfl rfl (take_ofW HT_.out HW_.out (by kernel_rfl)) (fun _ _ _ h => h) (Or.inl ⟨by rfl,?_⟩) hHeld ?_ ?_;rotate_left
             ·rintro w' ⟨s0,s1,s2⟩
              go_simp
              with_reducible rfl
             rotate_left
             ·simp only [Act.put,q14,q24,q34,i64_w,i32_w];rfl
             refine take_ (i:=9) (N:=some 41) (v:=?_) (a':=?_) #[Y4,Y4,Y4,Z4,Y4,Y4,Z4,Z4,Y4,Y4,Z4,Z4,Z4,Z4,Z4] rfl rfl (take_ofW HT_.out HW_.out (by kernel_rfl)) (fun _ _ _ h => h) (Or.inl ⟨by rfl,?_⟩) hHeld ?_ ?_;rotate_left
             ·rintro w' ⟨s0,s1,s2⟩
              go_simp
              with_reducible rfl
             rotate_left
             ·simp only [Act.put,q14,q24,q34,i64_w,i32_w];rfl
             refine one_ (i:=3) (N:=some 35) #[Y4,Y4,Y4,Y4,Y4,Y4,Z4,Z4,Y4,Y4,Z4,Z4,Z4,Z4,Z4] rfl rfl (one_of HT_.out (by kernel_rfl)) (by decide) (fun K hK => ?_)
             refine goes_ Try.func60 (by kernel_rfl) rfl #[.string ((rd_T86 l0_1 x5_1).f0)] (by rfl) rfl rfl (by (try simp only [List.map_toArray,List.map_cons,List.map_nil]);first | done | rfl | (simp only [List.length_drop,List.length_take];rfl)) ?_
             with_reducible refine (spec_l05Short.calls k1 ((rd_T86 l0_1 x5_1).f0) t157 _ A19.out).mono ?_
             rintro e w32 ⟨rfl,hb⟩
             refine ⟨_,rfl,?_⟩
             have n0_:=Aside0.mk (Md.R_below (by (with_reducible repeat (first | apply Md.R_alloc | apply Md.R_drewN | apply Md.R_drew));exact HO_4.out) hb)
             have n1_:=Aside0.mk (blk_below (g:=gb148) (o:=.cells #[.int .i64 a0_0,.slice (some ad155) l0_1.length c0_1] 47 (0,0)) (by (with_reducible repeat (first | refine blk_drewN ?_ _ | refine blk_drew ?_ | refine blk_alloc ?_ _));exact BK148.out) hb)
             have n2_:=Aside0.mk (blk_below (g:=gb156) (o:=.cells #[.string ((rd_T86 l0_1 x5_1).f0),.string ((rd_T86 l0_1 x5_1).f1),.bool ((rd_T86 l0_1 x5_1).f2)] 86 (0,0)) (by (with_reducible repeat (first | refine blk_drewN ?_ _ | refine blk_drew ?_ | refine blk_alloc ?_ _));exact BK156.out) hb)
             have n3_:=Aside0.mk (below_step (by repeat (first | (with_reducible first | exact HB.out | apply below_alloc | apply pw_below_drewN | apply below_drew1 | refine below_set ?_ GE148.out | refine below_set ?_ GE156.out) | exact HB.out)) hb)
             clear HO_4
             clear BK148
             clear BK156
             clear HB
             have HO_4:=n0_
             have BK148:=n1_
             have BK156:=n2_
             have HB:=n3_
             clear n0_ n1_ n2_ n3_
             (try clear hb)
             (try clear hb2)
             (try clear hk)
             (try clear hi)
             refine hK.out _ _ ⟨(blk_cell BK156.out 0).trans rfl,(blk_cell BK156.out 1).trans rfl,(blk_cell BK156.out 2).trans rfl⟩ (fun hHeld => ?_)
             clear hK K
             refine norm_ (a':=?_) ?_ ?_;rotate_left
             ·show Act.put _ (some 35) _ = _;simp only [Act.put,q14,q24,q34,i64_w,i32_w];rfl
             refine one_ (i:=6) (N:=some 38) #[Y4,Y4,Y4,Y4,Y4,Y4,Y4,Z4,Y4,Y4,Z4,Z4,Z4,Z4,Z4] rfl rfl (one_of HT_.out (by kernel_rfl)) (by decide) (fun K hK => ?_)
             refine goes_ Try.func63 (by kernel_rfl) rfl #[.bool ((rd_T86 l0_1 x5_1).f2)] (by rfl) rfl rfl (by (try simp only [List.map_toArray,List.map_cons,List.map_nil]);first | done | rfl | (simp only [List.length_drop,List.length_take];rfl)) ?_
             with_reducible refine (spec_l05Flag.calls ((rd_T86 l0_1 x5_1).f2) t158 _ A20.out).mono ?_
             rintro e w' ⟨rfl,⟨nd,rfl⟩⟩
             refine ⟨_,rfl,?_⟩
             refine hK.out _ _ ⟨(blk_cell BK156.out 0).trans rfl,(blk_cell BK156.out 1).trans rfl,(blk_cell BK156.out 2).trans rfl⟩ (fun hHeld => ?_)
             clear hK K
             refine norm_ (a':=?_) ?_ ?_;rotate_left
             ·show Act.put _ (some 38) _ = _;simp only [Act.put,q14,q24,q34,i64_w,i32_w];rfl
             refine pure_ (i:=7) (N:=some 39) (v:=?_) (a':=?_) #[Y4,Y4,Y4,Y4,Y4,Y4,Y4,Y4,Y4,Y4,Z4,Z4,Z4,Z4,Z4] rfl rfl (any_of HT_.out (by kernel_rfl)) (fun _ _ _ h => h) (Or.inl ⟨by rfl,?_⟩) ?_ ?_;rotate_left
             ·intro w';go_simp;with_reducible rfl
             rotate_left
             ·simp only [Act.put,q14,q24,q34,i64_w,i32_w];rfl
             refine one_ (i:=10) (N:=some 42) #[Y4,Y4,Y4,Y4,Y4,Y4,Y4,Y4,Y4,Y4,Y4,Z4,Z4,Z4,Z4] rfl rfl (one_of HT_.out (by kernel_rfl)) (by decide) (fun K hK => ?_)
             refine goes_ Try.func60 (by kernel_rfl) rfl #[.string ((rd_T86 l0_1 x5_1).f1)] (by rfl) rfl rfl (by (try simp only [List.map_toArray,List.map_cons,List.map_nil]);first | done | rfl | (simp only [List.length_drop,List.length_take];rfl)) ?_
             with_reducible refine (spec_l05Short.calls k1 ((rd_T86 l0_1 x5_1).f1) t159 _ A22.out).mono ?_
             rintro e w33 ⟨rfl,hb⟩
             refine ⟨_,rfl,?_⟩
             have n0_:=Aside0.mk (Md.R_below (by (with_reducible repeat (first | apply Md.R_alloc | apply Md.R_drewN | apply Md.R_drew));exact HO_4.out) hb)
             have n1_:=Aside0.mk (blk_below (g:=gb148) (o:=.cells #[.int .i64 a0_0,.slice (some ad155) l0_1.length c0_1] 47 (0,0)) (by (with_reducible repeat (first | refine blk_drewN ?_ _ | refine blk_drew ?_ | refine blk_alloc ?_ _));exact BK148.out) hb)
             have n2_:=Aside0.mk (blk_below (g:=gb156) (o:=.cells #[.string ((rd_T86 l0_1 x5_1).f0),.string ((rd_T86 l0_1 x5_1).f1),.bool ((rd_T86 l0_1 x5_1).f2)] 86 (0,0)) (by (with_reducible repeat (first | refine blk_drewN ?_ _ | refine blk_drew ?_ | refine blk_alloc ?_ _));exact BK156.out) hb)
             have n3_:=Aside0.mk (below_step (by repeat (first | (with_reducible first | exact HB.out | apply below_alloc | apply pw_below_drewN | apply below_drew1 | refine below_set ?_ GE148.out | refine below_set ?_ GE156.out) | exact HB.out)) hb)
             clear HO_4
             clear BK148
             clear BK156
             clear HB
             have HO_4:=n0_
             have BK148:=n1_
             have BK156:=n2_
             have HB:=n3_
             clear n0_ n1_ n2_ n3_
             (try clear hb)
             (try clear hb2)
             (try clear hk)
             (try clear hi)
             refine hK.out _ _ ⟨(blk_cell BK156.out 0).trans rfl,(blk_cell BK156.out 1).trans rfl,(blk_cell BK156.out 2).trans rfl⟩ (fun hHeld => ?_)
             clear hK K
             refine norm_ (a':=?_) ?_ ?_;rotate_left
             ·show Act.put _ (some 42) _ = _;simp only [Act.put,q14,q24,q34,i64_w,i32_w];rfl
             refine pure_ (i:=11) (N:=some 43) (v:=?_) (a':=?_) #[Y4,Y4,Y4,Y4,Y4,Y4,Y4,Y4,Y4,Y4,Y4,Y4,Z4,Z4,Z4] rfl rfl (any_of HT_.out (by kernel_rfl)) (fun _ _ _ h => h) (Or.inl ⟨by rfl,?_⟩) ?_ ?_;rotate_left
             ·intro w';go_simp;with_reducible rfl
             rotate_left
             ·simp only [Act.put,q14,q24,q34,i64_w,i32_w];rfl
             refine one_ (i:=12) (N:=some 44) #[Y4,Y4,Y4,Y4,Y4,Y4,Y4,Y4,Y4,Y4,Y4,Y4,Y4,Z4,Z4] rfl rfl (one_of HT_.out (by kernel_rfl)) (by decide) (fun K hK => ?_)
             refine Md.R_conv_step _ 5 (by rfl) (N:=44) rfl 9 93 _ rfl Try.underlying9 Try.underlying93 Try.underlying5 ((t157 ++ t158) ++ t159) rfl (ok:=fun _ => True) (okp:=fun _ => True) (fun _ hk => hk) trivial (of_decide_eq_true (by first | (with_reducible assumption) | assumption)) (Below.refl _ _) (Nat.le_refl _) ?_
             intro v161 w34 ho35 hb hg_ hnew_
             clear hg_ hnew_
             (first | rw [← Ny160.out] at ho35 | (simp only [Int.reduceToNat] at ho35;rw [← Ny160.out] at ho35))
             have n0_:=Aside0.mk (Md.R_elder' (by (with_reducible repeat (first | apply Md.R_alloc | apply Md.R_drewN | apply Md.R_drew));exact HO_4.out) (Md.R_base ho35) hb)
             have n1_:=Aside0.mk (Md.R_lower (Md.R_new' ho35 (Md.R_lt (by (with_reducible repeat (first | apply Md.R_alloc | apply Md.R_drewN | apply Md.R_drew));exact HO_4.out))) (below_size (by repeat (first | (with_reducible first | exact HB.out | apply below_alloc | apply pw_below_drewN | apply below_drew1 | refine below_set ?_ GE148.out | refine below_set ?_ GE156.out) | exact HB.out))))
             have n2_:=Aside0.mk (blk_below (g:=gb148) (o:=.cells #[.int .i64 a0_0,.slice (some ad155) l0_1.length c0_1] 47 (0,0)) (by (with_reducible repeat (first | refine blk_drewN ?_ _ | refine blk_drew ?_ | refine blk_alloc ?_ _));exact BK148.out) hb)
             have n3_:=Aside0.mk (blk_below (g:=gb156) (o:=.cells #[.string ((rd_T86 l0_1 x5_1).f0),.string ((rd_T86 l0_1 x5_1).f1),.bool ((rd_T86 l0_1 x5_1).f2)] 86 (0,0)) (by (with_reducible repeat (first | refine blk_drewN ?_ _ | refine blk_drew ?_ | refine blk_alloc ?_ _));exact BK156.out) hb)
             have n4_:=Aside0.mk (below_step (by repeat (first | (with_reducible first | exact HB.out | apply below_alloc | apply pw_below_drewN | apply below_drew1 | refine below_set ?_ GE148.out | refine below_set ?_ GE156.out) | exact HB.out)) hb)
             clear HO_4
             clear BK148
             clear BK156
             clear HB
             have HO_4:=n0_
             have HO162:=n1_
             have BK148:=n2_
             have BK156:=n3_
             have HB:=n4_
             clear n0_ n1_ n2_ n3_ n4_
             clear hb ho35
             obtain ⟨Ao37,co37,eo37⟩:=Md.R_slice HO162.out
             (first | subst eo37 | (injection eo37 with f1_ f2_ f3_;have f4_:=f1_.symm;have f5_:=f3_.symm;clear f1_ f2_ f3_;subst f4_;subst f5_))
             refine hK.out _ _ ⟨(blk_cell BK156.out 0).trans rfl,(blk_cell BK156.out 1).trans rfl,(blk_cell BK156.out 2).trans rfl⟩ (fun hHeld => ?_)
             clear hK K
             refine norm_ (a':=?_) ?_ ?_;rotate_left
             ·show Act.put _ (some 44) _ = _;simp only [Act.put,q14,q24,q34,i64_w,i32_w];rfl
             refine one_ (i:=13) (N:=some 45) #[Y4,Y4,Y4,Y4,Y4,Y4,Y4,Y4,Y4,Y4,Y4,Y4,Y4,Y4,Z4] rfl rfl (one_of HT_.out (by kernel_rfl)) (by decide) (fun K hK => ?_)
             refine Md.R_append_rows_step (w0:=w) w.heap.size (by rfl) (.tmp 32) (.tmp 44) 93 5 (.int .u8 0) 1 rfl Try.underlying93 info5 rfl (by decide) (by omega) u4 x4_1 y160 _ _ _ (fun k_ => some k_ ≠ (.slice Ao37 y160.length co37 : Value).ownBlock) (fun _ => False) rfl rfl ?aO ?aR (fun _ _ h => h) (fun _ h => h.elim) ?aF ?aB ?aS ?aL ?_
             (case aR => repeat (first | exact (Md.R_reads' HO162.out).2.2 | (with_reducible refine Kd.C_alloc ?_ _) | (with_reducible refine Kd.C_drewN ?_ _) | (with_reducible refine Kd.C_drew ?_)))
             (case aB => exact (by repeat (first | (with_reducible first | exact HB.out | apply below_alloc | apply pw_below_drewN | apply below_drew1 | refine below_set ?_ GE148.out | refine below_set ?_ GE156.out) | exact HB.out)))
             (case aF => exact (fun k_ hk => Kd.fresh' (Md.R_lt (by (with_reducible repeat (first | apply Md.R_alloc | apply Md.R_drewN | apply Md.R_drew));exact HO162.out)) k_ hk))
             (case aO => exact (by (with_reducible repeat (first | apply Md.R_alloc | apply Md.R_drewN | apply Md.R_drew));exact Md.R_mono HO_4.out (fun _ hk => hk.2)))
             (case aS => exact (below_size (by repeat (first | (with_reducible first | exact HB.out | apply below_alloc | apply pw_below_drewN | apply below_drew1 | refine below_set ?_ GE148.out | refine below_set ?_ GE156.out) | exact HB.out))))
             (case aL => have:=LMc25.out;omega)
             intro v164 w36 ho hb hg hat
             rw [← Ny163.out] at ho
             have n0_:=Aside0.mk (blk_grown (g:=gb148) (o:=.cells #[.int .i64 a0_0,.slice (some ad155) l0_1.length c0_1] 47 (0,0)) (by (with_reducible repeat (first | refine blk_drewN ?_ _ | refine blk_drew ?_ | refine blk_alloc ?_ _));exact BK148.out) hg (Md.R_ne HO_4.out BK148.out (by decide)))
             have n1_:=Aside0.mk (blk_grown (g:=gb156) (o:=.cells #[.string ((rd_T86 l0_1 x5_1).f0),.string ((rd_T86 l0_1 x5_1).f1),.bool ((rd_T86 l0_1 x5_1).f2)] 86 (0,0)) (by (with_reducible repeat (first | refine blk_drewN ?_ _ | refine blk_drew ?_ | refine blk_alloc ?_ _));exact BK156.out) hg (Md.R_ne HO_4.out BK156.out (by decide)))
             have n2_:=Aside0.mk (Md.R_after (ok:=(fun _ => True)) (by (with_reducible repeat (first | apply Md.R_alloc | apply Md.R_drewN | apply Md.R_drew));exact HO162.out) hg hat)
             have n3_:=Aside0.mk (hb)
             have n4_:=Aside0.mk (ho)
             clear BK148
             clear BK156
             clear HO162
             clear HB
             clear HO_4
             have BK148:=n0_
             have BK156:=n1_
             have HO162:=n2_
             have HB:=n3_
             have HO165:=n4_
             clear n0_ n1_ n2_ n3_ n4_
             clear ho hb hg hat
             refine hK.out _ _ ⟨(blk_cell BK156.out 0).trans rfl,(blk_cell BK156.out 1).trans rfl,(blk_cell BK156.out 2).trans rfl⟩ (fun hHeld => ?_)
             clear hK K
             refine norm_ (a':=?_) ?_ ?_;rotate_left
             ·show Act.put _ (some 45) _ = _;simp only [Act.put,q14,q24,q34,i64_w,i32_w];rfl
             refine pure_ (i:=14) (N:=some 4) (v:=?_) (a':=?_) #[Y4,Y4,Y4,Y4,Y4,Y4,Y4,Y4,Y4,Y4,Y4,Y4,Y4,Y4,Y4] rfl rfl (any_of HT_.out (by kernel_rfl)) (fun _ _ _ h => h) (Or.inl ⟨by rfl,?_⟩) ?_ ?_;rotate_left
             ·intro w';go_simp;with_reducible rfl
             rotate_left
             ·simp only [Act.put,q14,q24,q34,i64_w,i32_w];rfl
             refine done_ (done_of HT_.out (by kernel_rfl)) ?_
             try go_wp2
             go_roundg k1
             case measure => have:=HK1.out;omega
             case rel => exact ⟨(y163),(wrap64 (x5_1 + 1)),(by first | rfl | (simp;done) | (simp [*];done)),H',⟨by have:=HK1.out;omega⟩,⟨by (with_reducible repeat (first | apply Md.R_alloc | apply Md.R_drewN | apply Md.R_drew));exact Md.R_mono HO165.out (fun _ hk => trivial)⟩,⟨by (with_reducible repeat (first | refine blk_drewN ?_ _ | refine blk_drew ?_ | refine blk_alloc ?_ _));exact BK148.out⟩,⟨by repeat (first | (with_reducible first | exact HB.out | apply below_alloc | apply pw_below_drewN | apply below_drew1 | refine below_set ?_ GE148.out | refine below_set ?_ GE156.out) | exact HB.out)⟩⟩
            ·rw [if_neg c25] at H
             exact absurd H (by simp)
           ·rw [if_neg c24] at H
            exact absurd H (by simp)
          ·rw [if_neg c23] at H
           exact absurd H (by simp)
         ·rw [if_neg c21] at H
          exact absurd H (by simp)
        ·rw [if_neg c18] at H
         exact absurd H (by simp)
       ·rw [if_neg c17] at H
        have c17b0 : decide (x5_1 < (l0_1.length : Int)) = false:=decide_eq_false c17
        clear c17
        by_cases c38 : (x4_1.length : Int) > 9000
        ·rw [if_pos c38] at H
         have c38b0 : decide (9000 < (x4_1.length : Int)) = true:=decide_eq_true c38
         have c38b1 : decide (9000 < x4_1.length) = true:=decide_eq_true (by omega)
         clear c38
         simp only [Option.some.injEq,Prod.mk.injEq] at H
         obtain ⟨rfl,rfl⟩:=H
         have hcz39_0 : wr.cell? ⟨gb148,0,none⟩ = some (.int .i64 a0_0):=(blk_cell BK148.out 0).trans rfl
         have hcz39_1 : wr.cell? ⟨gb148,1,none⟩ = some (.slice A0_1 l0_1.length c0_1):=(blk_cell BK148.out 1).trans rfl
         have hfz39_0:=blk_frozen BK148.out 0
         have hfz39_1:=blk_frozen BK148.out 1
         obtain ⟨Ao40,co40,eo40⟩:=Md.R_slice HO_4.out
         subst eo40
         go_wp2
         go_ret2
         exact ⟨by first | rfl | (simp [errW_none,errW_some] <;> rfl) | (simp [*,errW_none,errW_some] <;> rfl),by repeat (first | (with_reducible first | exact HB.out | apply below_alloc | apply pw_below_drewN | apply below_drew1 | refine below_set ?_ GE148.out) | exact HB.out)⟩
        ·rw [if_neg c38] at H
         have c38b0 : decide (9000 < (x4_1.length : Int)) = false:=decide_eq_false c38
         have c38b1 : decide (9000 < x4_1.length) = false:=decide_eq_false (by omega)
         clear c38
         simp only [Option.some.injEq,Prod.mk.injEq] at H
         obtain ⟨rfl,rfl⟩:=H
         have hcz41_0 : wr.cell? ⟨gb148,0,none⟩ = some (.int .i64 a0_0):=(blk_cell BK148.out 0).trans rfl
         have hcz41_1 : wr.cell? ⟨gb148,1,none⟩ = some (.slice A0_1 l0_1.length c0_1):=(blk_cell BK148.out 1).trans rfl
         have hfz41_0:=blk_frozen BK148.out 0
         have hfz41_1:=blk_frozen BK148.out 1
         obtain ⟨Ao42,co42,eo42⟩:=Md.R_slice HO_4.out
         subst eo42
         have hcv43:=Md.own_string (P:=Try.prog) Try.underlying93 Try.underlying5 Try.underlying9 (Md.own_of_R HO_4.out)
         go_wp2
         go_ret2
         exact ⟨by first | rfl | (simp [errW_none,errW_some] <;> rfl) | (simp [*,errW_none,errW_some] <;> rfl),by repeat (first | (with_reducible first | exact HB.out | apply below_alloc | apply pw_below_drewN | apply below_drew1 | refine below_set ?_ GE148.out) | exact HB.out)⟩
    ·rw [if_neg c8] at H
     exact absurd H (by simp)
   ·rw [if_neg c7] at H
    exact absurd H (by simp)
  ·rw [if_neg c5] at H
   exact absurd H (by simp)
 ·replace c3:=Bool.eq_false_iff.mpr c3
  subst c3
  have H1 : (some ((⟨#[]⟩ : ByteArray),false)) = some (r1,r2):=by rw [if_neg (show ¬ (false = true) by decide)] at H;exact H
  clear H
  have H:=H1
  clear H1
  simp only [Option.some.injEq,Prod.mk.injEq] at H
  obtain ⟨rfl,rfl⟩:=H
  go_enter Try.func33,Try.ntmps33
  go_wp2_with (first | ((with_reducible refine gate_dst (N:=1) rfl ?_);refine box_event ?hg (N:=1) ?hd (cs:=#[.int .i64 a0_0,.slice A0_1 l0_1.length c0_1]) (t:=47) ?hr ?_;(case hd => rfl);(case hg => rfl);(case hr => first | (go_simp;done) | (go_simp;rfl));intro gb148 hg w44 hbox hb;have n0_:=Aside0.mk (below_step (by repeat (first | (with_reducible first | exact HB.out | apply below_alloc | apply pw_below_drewN | apply below_drew1) | exact HB.out)) hb);have n1_:=Aside0.mk (hbox);have n2_:=Aside0.mk ((by rw [hg];exact (below_size (by repeat (first | (with_reducible first | exact HB.out | apply below_alloc | apply pw_below_drewN | apply below_drew1) | exact HB.out))) : w.heap.size ≤ gb148));have n3_:=Aside0.mk ((by rw [hg];exact (below_size (by repeat (first | (with_reducible first | exact HB.out | apply below_alloc | apply pw_below_drewN | apply below_drew1) | exact HB.out))) : w.heap.size ≤ gb148));clear HB;have HB:=n0_;have BK148:=n1_;have GW148:=n2_;have GE148:=n3_;clear n0_ n1_ n2_ n3_;clear hb hbox hg;have hcz45_0 : w44.cell? ⟨gb148,0,none⟩ = some (.int .i64 a0_0):=(blk_cell BK148.out 0).trans rfl;have hcz45_1 : w44.cell? ⟨gb148,1,none⟩ = some (.slice A0_1 l0_1.length c0_1):=(blk_cell BK148.out 1).trans rfl;have hfz45_0:=blk_frozen BK148.out 0;have hfz45_1:=blk_frozen BK148.out 1) | ((with_reducible refine gate_callee (f:=22) rfl ?_);refine goesL_ (some 8) rfl rfl Try.func22 (by kernel_rfl) rfl #[.agg #[.int .i64 a0_0,.slice A0_1 l0_1.length c0_1]] rfl (by (try simp only [List.map_toArray,List.map_cons,List.map_nil]);first | done | rfl | (simp only [List.length_drop,List.length_take];rfl)) ?_;(with_reducible refine (spec_BatchOk.calls k a0_0 _ _ l0_1 false _ ?side1 ?side2 A2.out).mono ?_);(case side1 => repeat (first | exact (Kd.C_below HR0_1.out HB.out) | (with_reducible refine Kd.C_alloc ?_ _) | (with_reducible refine Kd.C_drewN ?_ _) | (with_reducible refine Kd.C_drew ?_)));(case side2 => exact HC0_1.out);rintro e w46 ⟨rfl,hb⟩;refine ⟨_,rfl,?_⟩;have n0_:=Aside0.mk (blk_below (g:=gb148) (o:=.cells #[.int .i64 a0_0,.slice A0_1 l0_1.length c0_1] 47 (0,0)) (by (with_reducible repeat (first | refine blk_drewN ?_ _ | refine blk_drew ?_ | refine blk_alloc ?_ _));exact BK148.out) hb);have n1_:=Aside0.mk (below_step (by repeat (first | (with_reducible first | exact HB.out | apply below_alloc | apply pw_below_drewN | apply below_drew1 | refine below_set ?_ GE148.out) | exact HB.out)) hb);clear BK148;clear HB;have BK148:=n0_;have HB:=n1_;clear n0_ n1_;(try clear hb);(try clear hb2);(try clear hk);(try clear hi)))
  go_ret2
  exact ⟨by first | rfl | (simp [errW_none,errW_some] <;> rfl) | (simp [*,errW_none,errW_some] <;> rfl),by repeat (first | (with_reducible first | exact HB.out | apply below_alloc | apply pw_below_drewN | apply below_drew1 | refine below_set ?_ GE148.out) | exact HB.out)⟩

/-! ### impl_within: function 46 -/
def impl_within.f (a0 : Int) (a1 : Int) (a2 : Int) : Option (Bool):=if a0 ≥ a1 then (some (decide (a0 ≤ a2))) else (some false)
set_option maxHeartbeats 8000000 in
set_option maxRecDepth 100000 in
theorem impl_within.calls (a0 : Int) (a1 : Int) (a2 : Int) (r : Bool) (w : World) (h : impl_within.f a0 a1 a2 = some r) :
  Calls Try.prog 46 #[.int .i64 a0,.int .i64 a1,.int .i64 a2] w fun e w' => e = .returned (.bool r) ∧ Drawn0 w w':=by
 have H : (if a0 ≥ a1 then (some (decide (a0 ≤ a2))) else (some false)) = some r:=h
 clear h
 by_cases c4 : a0 ≥ a1
 ·rw [if_pos c4] at H
  have c4b0 : decide (a1 ≤ a0) = true:=decide_eq_true c4
  clear c4
  obtain rfl:=Option.some.inj H
  go_enter Try.func46,Try.ntmps46
  go_wp2
  go_ret
  exact ⟨by first | rfl | (simp;done) | (simp [*];done),by repeat (first | exact Drawn0.refl _ | apply Drawn0.step)⟩
 ·rw [if_neg c4] at H
  have c4b0 : decide (a1 ≤ a0) = false:=decide_eq_false c4
  clear c4
  obtain rfl:=Option.some.inj H
  go_enter Try.func46,Try.ntmps46
  go_wp2
  go_ret
  exact ⟨by first | rfl | (simp;done) | (simp [*];done),by repeat (first | exact Drawn0.refl _ | apply Drawn0.step)⟩

/-! ### impl_keyOk: function 45 -/
def impl_keyOk.f (a0 : ByteArray) : Option (Bool):=(impl_within.f (a0.size : Int) 1 20).bind fun t166 => (some t166)
set_option maxHeartbeats 8000000 in
set_option maxRecDepth 100000 in
theorem impl_keyOk.calls (a0 : ByteArray) (r : Bool) (w : World) (h : impl_keyOk.f a0 = some r) :
  Calls Try.prog 45 #[.string a0] w fun e w' => e = .returned (.bool r) ∧ Drawn0 w w':=by
 have H : ((impl_within.f (a0.size : Int) 1 20).bind fun t166 => (some t166)) = some r:=h
 clear h
 replace H:=Option.bind_eq_some_iff.mp H
 obtain ⟨t166,A20,H⟩:=H
 replace H : (some t166) = some r:=H
 have A2:=Aside0.mk A20
 clear A20
 obtain rfl:=Option.some.inj H
 go_enter Try.func45,Try.ntmps45
 go_wp2_with (first | ((with_reducible refine gate_callee (f:=46) rfl ?_);refine goesL_ (some 5) rfl rfl Try.func46 (by kernel_rfl) rfl #[.int .i64 (a0.size : Int),.int .i64 1,.int .i64 20] rfl (by (try simp only [List.map_toArray,List.map_cons,List.map_nil]);first | done | rfl | (simp only [List.length_drop,List.length_take];rfl)) ?_;(with_reducible refine (impl_within.calls (a0.size : Int) 1 20 t166 _ A2.out).mono ?_);rintro e w' ⟨rfl,⟨nd,rfl⟩⟩;refine ⟨_,rfl,?_⟩))
 go_ret
 exact ⟨by first | rfl | (simp;done) | (simp [*];done),by repeat (first | exact Drawn0.refl _ | apply Drawn0.step)⟩

end Go.Proofs.Ytliemdoegicbhaa.PFnExactBatchText
