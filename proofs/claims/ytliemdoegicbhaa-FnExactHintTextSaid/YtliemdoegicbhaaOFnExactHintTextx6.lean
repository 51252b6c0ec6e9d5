/- Walks of functions that the law FnExactHintText reaches, turned by this session from a print of which a part did not build; what was changed is listed in wip/patches of the proofs' repo. -/
import Derived.Test.YtliemdoegicbhaaOFnExactHintTextx0
import Derived.Test.YtliemdoegicbhaaOFnExactHintTextx4
import Derived.Test.YtliemdoegicbhaaOFnExactHintTextx5
namespace Go.Proofs.Ytliemdoegicbhaa.PFnExactHintText
open Go.RowKit Go.Proofs.YtliemdoegicbhaaW.PrintWords Go.Proofs.YtliemdoegicbhaaW.PrintLast Go.Proofs.YtliemdoegicbhaaW.PrintMore
attribute [local go_sem] max2_int min2_int max_two min_two max_three min_three max_four min_four   -- for this text's walks alone
set_option linter.unusedVariables false
set_option linter.unusedSimpArgs false

theorem q16 {α : Type} (l : List α) (i : Nat) (a : α) : l.toArray.setIfInBounds i a = (l.set i a).toArray := by simp
theorem q26 {α : Type} (x y : α) (l : List α) : (x :: l).set 0 y = y :: l := List.set_cons_zero ..
theorem q36 {α : Type} (x y : α) (l : List α) (n : Nat) : (x :: l).set (n + 1) y = x :: l.set n y := List.set_cons_succ ..

abbrev Y6:Bool:=true
abbrev Z6:Bool:=false
/-! ### impl_VarText: function 61 -/
def impl_VarText.l0 : Nat → Int → List Int → Option (ByteArray × Bool)
 | 0,_,_ => none
 | k + 1,x0,x4 => if x0 > 127 then (if x4.length < 140737488355328 then (impl_VarText.l0 k (wrap64 (Int.tdiv x0 128)) (x4 ++ [(wrap64 ((Int.tmod x0 128) + 128)) % 256])) else (none)) else (if x4.length < 140737488355328 then (some (strOfNums (x4 ++ [(x0) % 256]),true)) else (none))
def impl_VarText.f (k : Nat) (a0 : Int) : Option (ByteArray × Bool):=(impl_within.f a0 0 1000000000).bind fun t174 => (if t174 = true then (impl_VarText.l0 k a0 ([] : List Int)) else (some ((⟨#[]⟩ : ByteArray),false)))
theorem impl_VarText.mono_l : ∀ k,(∀ y0 y1,LeO (impl_VarText.l0 k y0 y1) (impl_VarText.l0 (k + 1) y0 y1))
 | 0 => fun _ _ r h => by simp [impl_VarText.l0] at h
 | k + 1 => by
  have ih0:=impl_VarText.mono_l k
  ·intro y0 y1
   unfold impl_VarText.l0
   repeat' first
   | (with_reducible exact ih0 _ _)
   | (with_reducible exact LeO.refl _)
   | (with_reducible exact LeO.none _)
   | (with_reducible refine LeO.ite ?_ ?_)
   | (with_reducible refine LeO.bind ?_ (fun _ => ?_))
   | exact ih0 _ _
   | exact LeO.none _
   | refine LeO.ite ?_ ?_
   | refine LeO.bind ?_ (fun _ => ?_)
theorem impl_VarText.mono : ∀ a0 k,LeO (impl_VarText.f k a0) (impl_VarText.f (k + 1) a0):=by
 intro a0 k
 have ih0:=impl_VarText.mono_l k
 unfold impl_VarText.f
 repeat' first
   | (with_reducible exact ih0 _ _)
   | (with_reducible exact LeO.refl _)
   | (with_reducible exact LeO.none _)
   | (with_reducible refine LeO.ite ?_ ?_)
   | (with_reducible refine LeO.bind ?_ (fun _ => ?_))
   | exact ih0 _ _
   | exact LeO.none _
   | refine LeO.ite ?_ ?_
   | refine LeO.bind ?_ (fun _ => ?_)
set_option maxHeartbeats 8000000 in
set_option maxRecDepth 100000 in
theorem impl_VarText.calls (k : Nat) (a0 : Int) (r1 : ByteArray) (r2 : Bool) (w : World) (h : impl_VarText.f k a0 = some (r1,r2)) :
  Calls Try.prog 61 #[.int .i64 a0] w fun e w' => e = .returned (.tuple #[.string r1,.bool r2]) ∧ Below w.heap.size w w':=by
 have HB:=Aside0.mk (Below.refl w.heap.size w)
 have H : ((impl_within.f a0 0 1000000000).bind fun t174 => (if t174 = true then (impl_VarText.l0 k a0 ([] : List Int)) else (some ((⟨#[]⟩ : ByteArray),false)))) = some (r1,r2):=h
 clear h
 replace H:=Option.bind_eq_some_iff.mp H
 obtain ⟨t174,A20,H⟩:=H
 replace H : (if t174 = true then (impl_VarText.l0 k a0 ([] : List Int)) else (some ((⟨#[]⟩ : ByteArray),false))) = some (r1,r2):=H
 have A2:=Aside0.mk A20
 clear A20
 by_cases c3 : t174 = true
 ·subst c3
  have H1 : (impl_VarText.l0 k a0 ([] : List Int)) = some (r1,r2):=by rw [if_pos rfl] at H;exact H
  clear H
  have H:=H1
  clear H1
  have H':=Aside0.mk H
  clear H
  go_enter Try.func61,Try.ntmps61
  go_wp2_with (first | ((with_reducible refine gate_callee (f:=46) rfl ?_);refine goesL_ (some 6) rfl rfl Try.func46 (by kernel_rfl) rfl #[.int .i64 a0,.int .i64 0,.int .i64 1000000000] rfl (by (try simp only [List.map_toArray,List.map_cons,List.map_nil]);first | done | rfl | (simp only [List.length_drop,List.length_take];rfl)) ?_;(with_reducible refine (impl_within.calls a0 0 1000000000 true _ A2.out).mono ?_);rintro e w' ⟨rfl,⟨nd,rfl⟩⟩;refine ⟨_,rfl,?_⟩))
  go_loopg [0,4] k (fun kq v0 v4 w' => ∃ (x0_1 : Int) (x4_1 : List Int),v0 = .int .i64 x0_1 ∧ Aside0 (impl_VarText.l0 kq x0_1 x4_1 = some (r1,r2)) ∧ Aside0 (kq ≤ k) ∧ Aside0 (Kd.R (Kd.int .u8) 5 w' w.heap.size (fun _ => True) v4 x4_1) ∧ Aside0 (Below w.heap.size w w'))
  case atStart => exact ⟨(a0),(([] : List Int)),(by first | rfl | (simp;done) | (simp [*];done)),H',⟨Nat.le_refl _⟩,⟨by first | exact Kd.R_nil _ _ _ _ _ | exact Kd.N_nil _ _ _ _ _ | exact Kd.V_nil _ _ _ _ _ | exact Kd.Q_nil _ _ _ _ _ | exact Kd.S_nil _ _ _ _ _⟩,⟨by repeat (first | (with_reducible first | exact HB.out | apply below_alloc | apply pw_below_drewN | apply below_drew1) | exact HB.out)⟩⟩
  case round =>
   clear H'
   try clear p2
   try clear c3
   obtain ⟨x0_1,x4_1,rfl,HA,HK1,HO_4,HB⟩:=hrel
   cases gk with
   | zero => exact absurd HA.out (by simp [impl_VarText.l0])
   | succ k1 =>
    have H:=HA.out
    clear HA
    simp only [impl_VarText.l0] at H
    by_cases c4 : x0_1 > 127
    ·rw [if_pos c4] at H
     have c4b0 : decide (127 < x0_1) = true:=decide_eq_true c4
     clear c4
     by_cases c5 : x4_1.length < 140737488355328
     ·rw [if_pos c5] at H
      have LMc5:=Aside0.mk c5
      clear c5
      obtain ⟨y175,hy175⟩ : ∃ y_ : List Int,y_ = (x4_1 ++ [(wrap64 ((Int.tmod x0_1 128) + 128)) % 256]):=⟨_,rfl⟩
      replace H : (impl_VarText.l0 k1 (wrap64 (Int.tdiv x0_1 128)) y175) = some (r1,r2):=by first | (rw [hy175];with_reducible exact H) | (have H2_:=(Option.bind_some _ _).symm.trans H;rw [hy175];with_reducible exact H2_) | (have H2_:=(Option.bind_some _ _).symm.trans H;with_reducible exact H2_) | with_reducible exact H | (rw [hy175];exact H) | exact H
      have Ny175:=Aside0.mk hy175
      clear hy175
      have H':=Aside0.mk H
      clear H
      go_wp2_with (first | ((with_reducible refine gate_builtin (b:=.append) (xs:=#[.tmp 10,.tmp 15]) rfl ?_);at_builtin;refine Kd.R_append (Kd.int .u8) (w0:=w) w.heap.size rfl (.tmp 10) (.tmp 15) 93 5 (.int .u8 0) 1 rfl Try.underlying93 info5 rfl (by decide) (by omega) u4 x4_1 ((wrap64 ((Int.tmod x0_1 128) + 128)) % 256) [.int .u8 ((wrap64 ((Int.tmod x0_1 128) + 128)) % 256)] (fun _ => True) (fun _ => False) rfl rfl ?aP (fun _ hk => hk.elim) ?aF ?aO ?aB ?aS ?aL ?_;(case aP => exact rfl);(case aB => exact (by repeat (first | (with_reducible first | exact HB.out | apply below_alloc | apply pw_below_drewN | apply below_drew1) | exact HB.out)));(case aF => exact (fun _ _ => trivial));(case aO => exact (by (with_reducible repeat (first | apply Kd.R_alloc | apply Kd.R_drewN | apply Kd.R_drew));exact HO_4.out));(case aS => exact (below_size (by repeat (first | (with_reducible first | exact HB.out | apply below_alloc | apply pw_below_drewN | apply below_drew1) | exact HB.out))));(case aL => have:=LMc5.out;omega);intro v176 w6 ho hb hg hat;rw [← Ny175.out] at ho;have n0_:=Aside0.mk (hb);have n1_:=Aside0.mk (ho);clear HB;clear HO_4;have HB:=n0_;have HO177:=n1_;clear n0_ n1_;clear ho hb hg hat))
      go_roundg k1
      case measure => have:=HK1.out;omega
      case rel => exact ⟨(wrap64 (Int.tdiv x0_1 128)),(y175),(by first | rfl | (simp;done) | (simp [*];done)),H',⟨by have:=HK1.out;omega⟩,⟨by (with_reducible repeat (first | apply Kd.R_alloc | apply Kd.R_drewN | apply Kd.R_drew));exact HO177.out⟩,⟨by repeat (first | (with_reducible first | exact HB.out | apply below_alloc | apply pw_below_drewN | apply below_drew1) | exact HB.out)⟩⟩
     ·rw [if_neg c5] at H
      exact absurd H (by simp)
    ·rw [if_neg c4] at H
     have c4b0 : decide (127 < x0_1) = false:=decide_eq_false c4
     clear c4
     by_cases c7 : x4_1.length < 140737488355328
     ·rw [if_pos c7] at H
      have LMc7:=Aside0.mk c7
      clear c7
      obtain ⟨y178,hy178⟩ : ∃ y_ : List Int,y_ = (x4_1 ++ [(x0_1) % 256]):=⟨_,rfl⟩
      replace H : (some (strOfNums y178,true)) = some (r1,r2):=by first | (rw [hy178];with_reducible exact H) | (have H2_:=(Option.bind_some _ _).symm.trans H;rw [hy178];with_reducible exact H2_) | (have H2_:=(Option.bind_some _ _).symm.trans H;with_reducible exact H2_) | with_reducible exact H | (rw [hy178];exact H) | exact H
      have Ny178:=Aside0.mk hy178
      clear hy178
      simp only [Option.some.injEq,Prod.mk.injEq] at H
      obtain ⟨rfl,rfl⟩:=H
      go_wp2_with (first | ((with_reducible refine gate_builtin (b:=.append) (xs:=#[.tmp 19,.tmp 22]) rfl ?_);at_builtin;refine Kd.R_append (Kd.int .u8) (w0:=w) w.heap.size rfl (.tmp 19) (.tmp 22) 93 5 (.int .u8 0) 1 rfl Try.underlying93 info5 rfl (by decide) (by omega) u4 x4_1 ((x0_1) % 256) [.int .u8 ((x0_1) % 256)] (fun _ => True) (fun _ => False) rfl rfl ?aP (fun _ hk => hk.elim) ?aF ?aO ?aB ?aS ?aL ?_;(case aP => exact rfl);(case aB => exact (by repeat (first | (with_reducible first | exact HB.out | apply below_alloc | apply pw_below_drewN | apply below_drew1) | exact HB.out)));(case aF => exact (fun _ _ => trivial));(case aO => exact (by (with_reducible repeat (first | apply Kd.R_alloc | apply Kd.R_drewN | apply Kd.R_drew));exact HO_4.out));(case aS => exact (below_size (by repeat (first | (with_reducible first | exact HB.out | apply below_alloc | apply pw_below_drewN | apply below_drew1) | exact HB.out))));(case aL => have:=LMc7.out;omega);intro v179 w8 ho hb hg hat;rw [← Ny178.out] at ho;have n0_:=Aside0.mk (hb);have n1_:=Aside0.mk (ho);clear HB;clear HO_4;have HB:=n0_;have HO180:=n1_;clear n0_ n1_;clear ho hb hg hat;have hcv9:=own_string (P:=Try.prog) Try.underlying93 Try.underlying5 Try.underlying9 (Kd.own_of_R HO180.out)))
      go_ret2
      exact ⟨by first | rfl | (simp [errW_none,errW_some] <;> rfl) | (simp [*,errW_none,errW_some] <;> rfl),by repeat (first | (with_reducible first | exact HB.out | apply below_alloc | apply pw_below_drewN | apply below_drew1) | exact HB.out)⟩
     ·rw [if_neg c7] at H
      exact absurd H (by simp)
 ·replace c3:=Bool.eq_false_iff.mpr c3
  subst c3
  have H1 : (some ((⟨#[]⟩ : ByteArray),false)) = some (r1,r2):=by rw [if_neg (show ¬ (false = true) by decide)] at H;exact H
  clear H
  have H:=H1
  clear H1
  simp only [Option.some.injEq,Prod.mk.injEq] at H
  obtain ⟨rfl,rfl⟩:=H
  go_enter Try.func61,Try.ntmps61
  go_wp2_with (first | ((with_reducible refine gate_callee (f:=46) rfl ?_);refine goesL_ (some 6) rfl rfl Try.func46 (by kernel_rfl) rfl #[.int .i64 a0,.int .i64 0,.int .i64 1000000000] rfl (by (try simp only [List.map_toArray,List.map_cons,List.map_nil]);first | done | rfl | (simp only [List.length_drop,List.length_take];rfl)) ?_;(with_reducible refine (impl_within.calls a0 0 1000000000 false _ A2.out).mono ?_);rintro e w' ⟨rfl,⟨nd,rfl⟩⟩;refine ⟨_,rfl,?_⟩))
  go_ret2
  exact ⟨by first | rfl | (simp [errW_none,errW_some] <;> rfl) | (simp [*,errW_none,errW_some] <;> rfl),by repeat (first | (with_reducible first | exact HB.out | apply below_alloc | apply pw_below_drewN | apply below_drew1) | exact HB.out)⟩

/-! ### impl_ShortText: function 77 -/
def impl_ShortText.f (k : Nat) (a0 : ByteArray) : Option (ByteArray × Bool):=if (a0.size : Int) > 20000 then (some ((⟨#[]⟩ : ByteArray),false)) else ((impl_VarText.f k (a0.size : Int)).bind fun bt181 => (if bt181.1.size + a0.size ≤ 9223372036854775807 then (some (bt181.1 ++ a0,true)) else (none)))
theorem impl_ShortText.mono : ∀ a0 k,LeO (impl_ShortText.f k a0) (impl_ShortText.f (k + 1) a0):=by
 intro a0 k
 unfold impl_ShortText.f
 repeat' first
   | (with_reducible exact impl_VarText.mono _ _)
   | (with_reducible exact LeO.refl _)
   | (with_reducible exact LeO.none _)
   | (with_reducible refine LeO.ite ?_ ?_)
   | (with_reducible refine LeO.bind ?_ (fun _ => ?_))
   | exact impl_VarText.mono _ _
   | exact LeO.none _
   | refine LeO.ite ?_ ?_
   | refine LeO.bind ?_ (fun _ => ?_)
set_option maxHeartbeats 8000000 in
set_option maxRecDepth 100000 in
theorem impl_ShortText.calls (k : Nat) (a0 : ByteArray) (r1 : ByteArray) (r2 : Bool) (w : World) (h : impl_ShortText.f k a0 = some (r1,r2)) :
  Calls Try.prog 77 #[.string a0] w fun e w' => e = .returned (.tuple #[.string r1,.bool r2]) ∧ Below w.heap.size w w':=by
 have HB:=Aside0.mk (Below.refl w.heap.size w)
 have H : (if (a0.size : Int) > 20000 then (some ((⟨#[]⟩ : ByteArray),false)) else ((impl_VarText.f k (a0.size : Int)).bind fun bt181 => (if bt181.1.size + a0.size ≤ 9223372036854775807 then (some (bt181.1 ++ a0,true)) else (none)))) = some (r1,r2):=h
 clear h
 by_cases c2 : (a0.size : Int) > 20000
 ·rw [if_pos c2] at H
  have c2b0 : decide (20000 < (a0.size : Int)) = true:=decide_eq_true c2
  have c2b1 : decide (20000 < a0.size) = true:=decide_eq_true (by omega)
  clear c2
  simp only [Option.some.injEq,Prod.mk.injEq] at H
  obtain ⟨rfl,rfl⟩:=H
  go_enter Try.func77,Try.ntmps77
  go_wp2
  go_ret2
  exact ⟨by first | rfl | (simp [errW_none,errW_some] <;> rfl) | (simp [*,errW_none,errW_some] <;> rfl),by repeat (first | (with_reducible first | exact HB.out | apply below_alloc | apply pw_below_drewN | apply below_drew1) | exact HB.out)⟩
 ·rw [if_neg c2] at H
  have c2b0 : decide (20000 < (a0.size : Int)) = false:=decide_eq_false c2
  have c2b1 : decide (20000 < a0.size) = false:=decide_eq_false (by omega)
  clear c2
  replace H:=Option.bind_eq_some_iff.mp H
  obtain ⟨⟨t181,t182⟩,A30,H⟩:=H
  replace H : (if t181.size + a0.size ≤ 9223372036854775807 then (some (t181 ++ a0,true)) else (none)) = some (r1,r2):=H
  have A3:=Aside0.mk A30
  clear A30
  by_cases c4 : t181.size + a0.size ≤ 9223372036854775807
  ·rw [if_pos c4] at H
   have c4b0:=eq_true c4
   have c4b1 : decide (t181.size + a0.size ≤ 9223372036854775807) = true:=decide_eq_true c4
   try have c4b2 : (9223372036854775807 < t181.size + a0.size) = False:=eq_false (Nat.not_lt.2 c4)
   simp only [Option.some.injEq,Prod.mk.injEq] at H
   obtain ⟨rfl,rfl⟩:=H
   go_enter Try.func77,Try.ntmps77
   go_wp2_with (first | ((with_reducible refine gate_callee (f:=61) rfl ?_);refine goesL_ (some 12) rfl rfl Try.func61 (by kernel_rfl) rfl #[.int .i64 (a0.size : Int)] rfl (by (try simp only [List.map_toArray,List.map_cons,List.map_nil]);first | done | rfl | (simp only [List.length_drop,List.length_take];rfl)) ?_;(with_reducible refine (impl_VarText.calls k (a0.size : Int) t181 t182 _ A3.out).mono ?_);rintro e w5 ⟨rfl,hb⟩;refine ⟨_,rfl,?_⟩;have n0_:=Aside0.mk (below_step (by repeat (first | (with_reducible first | exact HB.out | apply below_alloc | apply pw_below_drewN | apply below_drew1) | exact HB.out)) hb);clear HB;have HB:=n0_;clear n0_;(try clear hb);(try clear hb2);(try clear hk);(try clear hi)))
   go_ret2
   exact ⟨by first | rfl | (simp [errW_none,errW_some] <;> rfl) | (simp [*,errW_none,errW_some] <;> rfl),by repeat (first | (with_reducible first | exact HB.out | apply below_alloc | apply pw_below_drewN | apply below_drew1) | exact HB.out)⟩
  ·rw [if_neg c4] at H
   exact absurd H (by simp)

/-! ### impl_short: function 62 -/
def impl_short.f (k : Nat) (a0 : ByteArray) : Option (ByteArray):=(impl_ShortText.f k a0).bind fun bt183 => (some bt183.1)
theorem impl_short.mono : ∀ a0 k,LeO (impl_short.f k a0) (impl_short.f (k + 1) a0):=by
 intro a0 k
 unfold impl_short.f
 repeat' first
   | (with_reducible exact impl_ShortText.mono _ _)
   | (with_reducible exact LeO.refl _)
   | (with_reducible exact LeO.none _)
   | (with_reducible refine LeO.ite ?_ ?_)
   | (with_reducible refine LeO.bind ?_ (fun _ => ?_))
   | exact impl_ShortText.mono _ _
   | exact LeO.none _
   | refine LeO.ite ?_ ?_
   | refine LeO.bind ?_ (fun _ => ?_)
set_option maxHeartbeats 8000000 in
set_option maxRecDepth 100000 in
theorem impl_short.calls (k : Nat) (a0 : ByteArray) (r : ByteArray) (w : World) (h : impl_short.f k a0 = some r) :
  Calls Try.prog 62 #[.string a0] w fun e w' => e = .returned (.string r) ∧ Below w.heap.size w w':=by
 have HB:=Aside0.mk (Below.refl w.heap.size w)
 have H : ((impl_ShortText.f k a0).bind fun bt183 => (some bt183.1)) = some r:=h
 clear h
 replace H:=Option.bind_eq_some_iff.mp H
 obtain ⟨⟨t183,t184⟩,A20,H⟩:=H
 replace H : (some t183) = some r:=H
 have A2:=Aside0.mk A20
 clear A20
 obtain rfl:=Option.some.inj H
 go_enter Try.func62,Try.ntmps62
 go_wp2_with (first | ((with_reducible refine gate_callee (f:=77) rfl ?_);refine goesL_ (some 7) rfl rfl Try.func77 (by kernel_rfl) rfl #[.string a0] rfl (by (try simp only [List.map_toArray,List.map_cons,List.map_nil]);first | done | rfl | (simp only [List.length_drop,List.length_take];rfl)) ?_;(with_reducible refine (impl_ShortText.calls k a0 t183 t184 _ A2.out).mono ?_);rintro e w3 ⟨rfl,hb⟩;refine ⟨_,rfl,?_⟩;have n0_:=Aside0.mk (below_step (by repeat (first | (with_reducible first | exact HB.out | apply below_alloc | apply pw_below_drewN | apply below_drew1) | exact HB.out)) hb);clear HB;have HB:=n0_;clear n0_;(try clear hb);(try clear hb2);(try clear hk);(try clear hi)))
 go_ret
 exact ⟨by first | rfl | (simp [errW_none,errW_some] <;> rfl) | (simp [*,errW_none,errW_some] <;> rfl),by repeat (first | (with_reducible first | exact HB.out | apply below_alloc | apply pw_below_drewN | apply below_drew1) | exact HB.out)⟩

/-! ### impl_vars: function 64 -/
def impl_vars.l0 : Nat → List Int → List Int → Int → Int → Option (ByteArray × Bool)
 | 0,_,_,_,_ => none
 | k + 1,x4,x9,x10,x11 => if x11 < x10 then (if 0 ≤ x11 then (if x11 < (x9.length : Int) then ((impl_VarText.f k (rd x9 x11)).bind fun bt186 => (if bt186.2 = true then (if x4.length + bt186.1.size < 140737488355328 then (impl_vars.l0 k (x4 ++ bytesOf bt186.1) x9 x10 (wrap64 (x11 + 1))) else (none)) else (some ((⟨#[]⟩ : ByteArray),false)))) else (none)) else (none)) else (some (strOfNums x4,true))
def impl_vars.f (k : Nat) (l0 : List Int) : Option (ByteArray × Bool):=impl_vars.l0 k ([] : List Int) l0 (l0.length : Int) 0
theorem impl_vars.mono_l : ∀ k,(∀ y0 y1 y2 y3,LeO (impl_vars.l0 k y0 y1 y2 y3) (impl_vars.l0 (k + 1) y0 y1 y2 y3))
 | 0 => fun _ _ _ _ r h => by simp [impl_vars.l0] at h
 | k + 1 => by
  have ih0:=impl_vars.mono_l k
  ·intro y0 y1 y2 y3
   unfold impl_vars.l0
   repeat' first
   | (with_reducible exact ih0 _ _ _ _)
   | (with_reducible exact impl_VarText.mono _ _)
   | (with_reducible exact LeO.refl _)
   | (with_reducible exact LeO.none _)
   | (with_reducible refine LeO.ite ?_ ?_)
   | (with_reducible refine LeO.bind ?_ (fun _ => ?_))
   | exact ih0 _ _ _ _
   | exact impl_VarText.mono _ _
   | exact LeO.none _
   | refine LeO.ite ?_ ?_
   | refine LeO.bind ?_ (fun _ => ?_)
theorem impl_vars.mono : ∀ a0 k,LeO (impl_vars.f k a0) (impl_vars.f (k + 1) a0):=by
 intro a0 k
 have ih0:=impl_vars.mono_l k
 unfold impl_vars.f
 repeat' first
   | (with_reducible exact ih0 _ _ _ _)
   | (with_reducible exact impl_VarText.mono _ _)
   | (with_reducible exact LeO.refl _)
   | (with_reducible exact LeO.none _)
   | (with_reducible refine LeO.ite ?_ ?_)
   | (with_reducible refine LeO.bind ?_ (fun _ => ?_))
   | exact ih0 _ _ _ _
   | exact impl_VarText.mono _ _
   | exact LeO.none _
   | refine LeO.ite ?_ ?_
   | refine LeO.bind ?_ (fun _ => ?_)
set_option maxHeartbeats 8000000 in
set_option maxRecDepth 100000 in
theorem impl_vars.calls (k : Nat) (A0 : Option Addr) (c0 : Nat) (l0 : List Int) (r1 : ByteArray) (r2 : Bool) (w : World) (hr0 : Kd.C (Kd.int .i64) w A0 l0.length l0) (hc0 : l0.length ≤ c0) (h : impl_vars.f k l0 = some (r1,r2)) :
  Calls Try.prog 64 #[.slice A0 l0.length c0] w fun e w' => e = .returned (.tuple #[.string r1,.bool r2]) ∧ Below w.heap.size w w':=by
 have HR0:=Aside0.mk hr0
 have HC0:=Aside0.mk hc0
 clear hr0 hc0
 have HB:=Aside0.mk (Below.refl w.heap.size w)
 have H : (impl_vars.l0 k ([] : List Int) l0 (l0.length : Int) 0) = some (r1,r2):=h
 clear h
 have H':=Aside0.mk H
 clear H
 go_enter Try.func64,Try.ntmps64
 go_wp2
 go_loopg [4,11] k (fun kq v4 v11 w' => ∃ (x4_1 : List Int) (x11_1 : Int),v11 = .int .i64 x11_1 ∧ Aside0 (impl_vars.l0 kq x4_1 l0 (l0.length : Int) x11_1 = some (r1,r2)) ∧ Aside0 (kq ≤ k) ∧ Aside0 (Kd.R (Kd.int .u8) 5 w' w.heap.size (fun _ => True) v4 x4_1) ∧ Aside0 (Below w.heap.size w w'))
 case atStart => exact ⟨(([] : List Int)),(0),(by first | rfl | (simp;done) | (simp [*];done)),H',⟨Nat.le_refl _⟩,⟨by first | exact Kd.R_nil _ _ _ _ _ | exact Kd.N_nil _ _ _ _ _ | exact Kd.V_nil _ _ _ _ _ | exact Kd.Q_nil _ _ _ _ _ | exact Kd.S_nil _ _ _ _ _⟩,⟨by repeat (first | (with_reducible first | exact HB.out | apply below_alloc | apply pw_below_drewN | apply below_drew1) | exact HB.out)⟩⟩
 case round =>
  clear H'
  obtain ⟨x4_1,x11_1,rfl,HA,HK1,HO_4,HB⟩:=hrel
  cases gk with
  | zero => exact absurd HA.out (by simp [impl_vars.l0])
  | succ k1 =>
   have H:=HA.out
   clear HA
   simp only [impl_vars.l0] at H
   by_cases c2 : x11_1 < (l0.length : Int)
   ·rw [if_pos c2] at H
    have c2b0 : decide (x11_1 < (l0.length : Int)) = true:=decide_eq_true c2
    clear c2
    by_cases c3 : 0 ≤ x11_1
    ·rw [if_pos c3] at H
     have c3b0 : decide (0 ≤ x11_1) = true:=decide_eq_true c3
     clear c3
     by_cases c4 : x11_1 < (l0.length : Int)
     ·rw [if_pos c4] at H
      have c4b0 : decide (x11_1 < (l0.length : Int)) = true:=decide_eq_true c4
      clear c4
      replace H:=Option.bind_eq_some_iff.mp H
      obtain ⟨⟨t186,t187⟩,A50,H⟩:=H
      replace H : (if t187 = true then (if x4_1.length + t186.size < 140737488355328 then (impl_vars.l0 k1 (x4_1 ++ bytesOf t186) l0 (l0.length : Int) (wrap64 (x11_1 + 1))) else (none)) else (some ((⟨#[]⟩ : ByteArray),false))) = some (r1,r2):=H
      have A5:=Aside0.mk A50
      clear A50
      by_cases c6 : t187 = true
      ·subst c6
       have H1 : (if x4_1.length + t186.size < 140737488355328 then (impl_vars.l0 k1 (x4_1 ++ bytesOf t186) l0 (l0.length : Int) (wrap64 (x11_1 + 1))) else (none)) = some (r1,r2):=by rw [if_pos rfl] at H;exact H
       clear H
       have H:=H1
       clear H1
       by_cases c7 : x4_1.length + t186.size < 140737488355328
       ·rw [if_pos c7] at H
        have LMc7:=Aside0.mk c7
        clear c7
        obtain ⟨y188,hy188⟩ : ∃ y_ : List Int,y_ = (x4_1 ++ bytesOf t186):=⟨_,rfl⟩
        replace H : (impl_vars.l0 k1 y188 l0 (l0.length : Int) (wrap64 (x11_1 + 1))) = some (r1,r2):=by first | (rw [hy188];with_reducible exact H) | (have H2_:=(Option.bind_some _ _).symm.trans H;rw [hy188];with_reducible exact H2_) | (have H2_:=(Option.bind_some _ _).symm.trans H;with_reducible exact H2_) | with_reducible exact H | (rw [hy188];exact H) | exact H
        have Ny188:=Aside0.mk hy188
        clear hy188
        have H':=Aside0.mk H
        clear H
        have p185 : 0 ≤ (x11_1 : Int):=of_decide_eq_true (by first | (with_reducible assumption) | assumption)
        have q185 : x11_1 < (l0.length : Int):=of_decide_eq_true (by first | (with_reducible assumption) | assumption)
        obtain ⟨ad185,e185,hx185_0⟩:=Kd.at_int HR0.out x11_1 p185 q185
        cases e185
        replace hx185_0:=(HB.out.cell (World.block_lt_of_cell? w _ hx185_0)).trans hx185_0
        replace p185:=eq_true p185
        replace q185:=eq_true q185
        go_wp2_with (first | ((with_reducible refine gate_callee (f:=61) rfl ?_);refine goesL_ (some 17) rfl rfl Try.func61 (by kernel_rfl) rfl #[.int .i64 (rd l0 x11_1)] rfl (by (try simp only [List.map_toArray,List.map_cons,List.map_nil]);first | done | rfl | (simp only [List.length_drop,List.length_take];rfl)) ?_;(with_reducible refine (impl_VarText.calls k1 (rd l0 x11_1) t186 true _ A5.out).mono ?_);rintro e w8 ⟨rfl,hb⟩;refine ⟨_,rfl,?_⟩;have n0_:=Aside0.mk (Kd.R_below (by (with_reducible repeat (first | apply Kd.R_alloc | apply Kd.R_drewN | apply Kd.R_drew));exact HO_4.out) hb);have n1_:=Aside0.mk (below_step (by repeat (first | (with_reducible first | exact HB.out | apply below_alloc | apply pw_below_drewN | apply below_drew1) | exact HB.out)) hb);clear HO_4;clear HB;have HO_4:=n0_;have HB:=n1_;clear n0_ n1_;(try clear hb);(try clear hb2);(try clear hk);(try clear hi)) | (at_builtin;refine print_append_str (w0:=w) w.heap.size rfl (.tmp 22) _ 93 9 5 rfl Try.underlying93 Try.underlying9 info5 u4 x4_1 t186 rfl rfl ?aO ?aB ?aS ?aL ?_;(case aB => exact (by repeat (first | (with_reducible first | exact HB.out | apply below_alloc | apply pw_below_drewN | apply below_drew1) | exact HB.out)));(case aO => exact (Kd.own_of_R (by (with_reducible repeat (first | apply Kd.R_alloc | apply Kd.R_drewN | apply Kd.R_drew));exact HO_4.out)));(case aS => exact (below_size (by repeat (first | (with_reducible first | exact HB.out | apply below_alloc | apply pw_below_drewN | apply below_drew1) | exact HB.out))));(case aL => have:=LMc7.out;omega);intro v189 w9 ho0 hb hg;have ho:=Kd.R_of_own (h1:=fun _ => rfl) (ok:=fun _ => True) ho0 (fun _ _ => trivial);clear ho0;have hat:=True.intro;rw [← Ny188.out] at ho;change Kd.R (Kd.int .u8) 5 w9 w.heap.size (fun _ => True) v189 y188 at ho;have n0_:=Aside0.mk (hb);have n1_:=Aside0.mk (ho);clear HB;clear HO_4;have HB:=n0_;have HO190:=n1_;clear n0_ n1_;clear ho hb hg hat))
        go_roundg k1
        case measure => have:=HK1.out;omega
        case rel => exact ⟨(y188),(wrap64 (x11_1 + 1)),(by first | rfl | (simp;done) | (simp [*];done)),H',⟨by have:=HK1.out;omega⟩,⟨by (with_reducible repeat (first | apply Kd.R_alloc | apply Kd.R_drewN | apply Kd.R_drew));exact HO190.out⟩,⟨by repeat (first | (with_reducible first | exact HB.out | apply below_alloc | apply pw_below_drewN | apply below_drew1) | exact HB.out)⟩⟩
       ·rw [if_neg c7] at H
        exact absurd H (by simp)
      ·replace c6:=Bool.eq_false_iff.mpr c6
       subst c6
       have H1 : (some ((⟨#[]⟩ : ByteArray),false)) = some (r1,r2):=by rw [if_neg (show ¬ (false = true) by decide)] at H;exact H
       clear H
       have H:=H1
       clear H1
       simp only [Option.some.injEq,Prod.mk.injEq] at H
       obtain ⟨rfl,rfl⟩:=H
       have p185 : 0 ≤ (x11_1 : Int):=of_decide_eq_true (by first | (with_reducible assumption) | assumption)
       have q185 : x11_1 < (l0.length : Int):=of_decide_eq_true (by first | (with_reducible assumption) | assumption)
       obtain ⟨ad185,e185,hx185_0⟩:=Kd.at_int HR0.out x11_1 p185 q185
       cases e185
       replace hx185_0:=(HB.out.cell (World.block_lt_of_cell? w _ hx185_0)).trans hx185_0
       replace p185:=eq_true p185
       replace q185:=eq_true q185
       go_wp2_with (first | ((with_reducible refine gate_callee (f:=61) rfl ?_);refine goesL_ (some 17) rfl rfl Try.func61 (by kernel_rfl) rfl #[.int .i64 (rd l0 x11_1)] rfl (by (try simp only [List.map_toArray,List.map_cons,List.map_nil]);first | done | rfl | (simp only [List.length_drop,List.length_take];rfl)) ?_;(with_reducible refine (impl_VarText.calls k1 (rd l0 x11_1) t186 false _ A5.out).mono ?_);rintro e w10 ⟨rfl,hb⟩;refine ⟨_,rfl,?_⟩;have n0_:=Aside0.mk (Kd.R_below (by (with_reducible repeat (first | apply Kd.R_alloc | apply Kd.R_drewN | apply Kd.R_drew));exact HO_4.out) hb);have n1_:=Aside0.mk (below_step (by repeat (first | (with_reducible first | exact HB.out | apply below_alloc | apply pw_below_drewN | apply below_drew1) | exact HB.out)) hb);clear HO_4;clear HB;have HO_4:=n0_;have HB:=n1_;clear n0_ n1_;(try clear hb);(try clear hb2);(try clear hk);(try clear hi)))
       go_ret2
       exact ⟨by first | rfl | (simp [errW_none,errW_some] <;> rfl) | (simp [*,errW_none,errW_some] <;> rfl),by repeat (first | (with_reducible first | exact HB.out | apply below_alloc | apply pw_below_drewN | apply below_drew1) | exact HB.out)⟩
     ·rw [if_neg c4] at H
      exact absurd H (by simp)
    ·rw [if_neg c3] at H
     exact absurd H (by simp)
   ·rw [if_neg c2] at H
    have c2b0 : decide (x11_1 < (l0.length : Int)) = false:=decide_eq_false c2
    clear c2
    simp only [Option.some.injEq,Prod.mk.injEq] at H
    obtain ⟨rfl,rfl⟩:=H
    have hcv11:=own_string (P:=Try.prog) Try.underlying93 Try.underlying5 Try.underlying9 (Kd.own_of_R HO_4.out)
    go_wp2
    go_ret2
    exact ⟨by first | rfl | (simp [errW_none,errW_some] <;> rfl) | (simp [*,errW_none,errW_some] <;> rfl),by repeat (first | (with_reducible first | exact HB.out | apply below_alloc | apply pw_below_drewN | apply below_drew1) | exact HB.out)⟩

/-! ### impl_SumMore: function 82 -/
mutual
def impl_SumMore.l0 : Nat → Int → ByteArray → Int → Option (Int)
 | 0,_,_,_ => none
 | k + 1,x0,x1,x5 => if x5 < (x1.size : Int) then (if 0 ≤ x5 then (impl_SumMore.l1 k (Go.bits .xor .u32 x0 ((bt x1 x5) % 4294967296)) x1 x5 0) else (none)) else (some x0)
def impl_SumMore.l1 : Nat → Int → ByteArray → Int → Int → Option (Int)
 | 0,_,_,_,_ => none
 | k + 1,x0,x1,x5,x6 => if x6 < 8 then (if (Int.tmod x0 2) = 1 then (impl_SumMore.l1 k (Go.bits .xor .u32 ((Int.tdiv x0 2) % 4294967296) 3558460437) x1 x5 (wrap64 (x6 + 1))) else (impl_SumMore.l1 k ((Int.tdiv x0 2) % 4294967296) x1 x5 (wrap64 (x6 + 1)))) else (impl_SumMore.l0 k x0 x1 (wrap64 (x5 + 1)))
end
def impl_SumMore.f (k : Nat) (a0 : Int) (a1 : ByteArray) : Option (Int):=impl_SumMore.l0 k a0 a1 0
theorem impl_SumMore.mono_l : ∀ k,(∀ y0 y1 y2,LeO (impl_SumMore.l0 k y0 y1 y2) (impl_SumMore.l0 (k + 1) y0 y1 y2)) ∧ (∀ y0 y1 y2 y3,LeO (impl_SumMore.l1 k y0 y1 y2 y3) (impl_SumMore.l1 (k + 1) y0 y1 y2 y3))
 | 0 => ⟨fun _ _ _ r h => by simp [impl_SumMore.l0] at h,fun _ _ _ _ r h => by simp [impl_SumMore.l1] at h⟩
 | k + 1 => by
  obtain ⟨ih0,ih1⟩:=impl_SumMore.mono_l k
  refine ⟨?_,?_⟩
  ·intro y0 y1 y2
   unfold impl_SumMore.l0
   repeat' first
   | (with_reducible exact ih0 _ _ _)
   | (with_reducible exact ih1 _ _ _ _)
   | (with_reducible exact LeO.refl _)
   | (with_reducible exact LeO.none _)
   | (with_reducible refine LeO.ite ?_ ?_)
   | (with_reducible refine LeO.bind ?_ (fun _ => ?_))
   | exact ih0 _ _ _
   | exact ih1 _ _ _ _
   | exact LeO.none _
   | refine LeO.ite ?_ ?_
   | refine LeO.bind ?_ (fun _ => ?_)
  ·intro y0 y1 y2 y3
   unfold impl_SumMore.l1
   repeat' first
   | (with_reducible exact ih0 _ _ _)
   | (with_reducible exact ih1 _ _ _ _)
   | (with_reducible exact LeO.refl _)
   | (with_reducible exact LeO.none _)
   | (with_reducible refine LeO.ite ?_ ?_)
   | (with_reducible refine LeO.bind ?_ (fun _ => ?_))
   | exact ih0 _ _ _
   | exact ih1 _ _ _ _
   | exact LeO.none _
   | refine LeO.ite ?_ ?_
   | refine LeO.bind ?_ (fun _ => ?_)
theorem impl_SumMore.mono : ∀ a0 a1 k,LeO (impl_SumMore.f k a0 a1) (impl_SumMore.f (k + 1) a0 a1):=by
 intro a0 a1 k
 obtain ⟨ih0,ih1⟩:=impl_SumMore.mono_l k
 unfold impl_SumMore.f
 repeat' first
   | (with_reducible exact ih0 _ _ _)
   | (with_reducible exact ih1 _ _ _ _)
   | (with_reducible exact LeO.refl _)
   | (with_reducible exact LeO.none _)
   | (with_reducible refine LeO.ite ?_ ?_)
   | (with_reducible refine LeO.bind ?_ (fun _ => ?_))
   | exact ih0 _ _ _
   | exact ih1 _ _ _ _
   | exact LeO.none _
   | refine LeO.ite ?_ ?_
   | refine LeO.bind ?_ (fun _ => ?_)
set_option maxHeartbeats 8000000 in
set_option maxRecDepth 100000 in
theorem impl_SumMore.calls (k : Nat) (a0 : Int) (a1 : ByteArray) (r : Int) (w : World) (h : impl_SumMore.f k a0 a1 = some r) :
  Calls Try.prog 82 #[.int .u32 a0,.string a1] w fun e w' => e = .returned (.int .u32 r) ∧ Drawn0 w w':=by
 have H : (impl_SumMore.l0 k a0 a1 0) = some r:=h
 clear h
 have H':=Aside0.mk H
 clear H
 go_enter Try.func82,Try.ntmps82
 go_wp2
 go_loopg [0,5] k (fun kq v0 v5 w' => ∃ (x0_1 : Int) (x5_1 : Int),v0 = .int .u32 x0_1 ∧ v5 = .int .i64 x5_1 ∧ Aside0 (impl_SumMore.l0 kq x0_1 a1 x5_1 = some r) ∧ Aside0 (kq ≤ k) ∧ Drawn0 w w')
 case atStart => exact ⟨(a0),(0),(by first | rfl | (simp;done) | (simp [*];done)),(by first | rfl | (simp;done) | (simp [*];done)),H',⟨Nat.le_refl _⟩,by repeat (first | exact Drawn0.refl _ | apply Drawn0.step)⟩
 case round =>
  clear H'
  try clear p2
  obtain ⟨x0_1,x5_1,rfl,rfl,HA,HK1,⟨m1,rfl⟩⟩:=hrel
  cases gk with
  | zero => exact absurd HA.out (by simp [impl_SumMore.l0])
  | succ k1 =>
   have H:=HA.out
   clear HA
   simp only [impl_SumMore.l0] at H
   by_cases c3 : x5_1 < (a1.size : Int)
   ·rw [if_pos c3] at H
    have c3b0 : decide (x5_1 < (a1.size : Int)) = true:=decide_eq_true c3
    clear c3
    by_cases c4 : 0 ≤ x5_1
    ·rw [if_pos c4] at H
     have c4b0 : decide (0 ≤ x5_1) = true:=decide_eq_true c4
     clear c4
     have H':=Aside0.mk H
     clear H
     have p5 : 0 ≤ (x5_1 : Int):=of_decide_eq_true (by first | (with_reducible assumption) | assumption)
     have q5 : x5_1 < (a1.size : Int):=of_decide_eq_true (by first | (with_reducible assumption) | assumption)
     have hx5:=bt_at a1 x5_1
     replace p5:=eq_true p5
     replace q5:=eq_true q5
     go_wp2
     go_loopg [0,6] k1 (fun kq v0 v6 w' => ∃ (x0_2 : Int) (x6_2 : Int),v0 = .int .u32 x0_2 ∧ v6 = .int .i64 x6_2 ∧ Aside0 (impl_SumMore.l1 kq x0_2 a1 x5_1 x6_2 = some r) ∧ Aside0 (kq ≤ k1) ∧ Drawn0 w w')
     case atStart => exact ⟨(Go.bits .xor .u32 x0_1 ((bt a1 x5_1) % 4294967296)),(0),(by first | rfl | (simp;done) | (simp [*];done)),(by first | rfl | (simp;done) | (simp [*];done)),H',⟨Nat.le_refl _⟩,by repeat (first | exact Drawn0.refl _ | apply Drawn0.step)⟩
     case round =>
      clear H'
      try clear p2
      try clear c3
      try clear c3b0
      try clear c4
      try clear c4b0
      try clear p5
      try clear q5
      try clear hx5
      try clear p2
      try clear p5
      try clear q5
      obtain ⟨x0_2,x6_2,rfl,rfl,HA,HK2,⟨m2,rfl⟩⟩:=hrel
      cases gk with
      | zero => exact absurd HA.out (by simp [impl_SumMore.l1])
      | succ k2 =>
       have H:=HA.out
       clear HA
       simp only [impl_SumMore.l1] at H
       by_cases c6 : x6_2 < 8
       ·rw [if_pos c6] at H
        have c6b0 : decide (x6_2 < 8) = true:=decide_eq_true c6
        clear c6
        by_cases c7 : (Int.tmod x0_2 2) = 1
        ·rw [if_pos c7] at H
         have c7b0 : ((Int.tmod x0_2 2) == 1) = true:=beq_iff_eq.mpr c7
         have c7b1 : ((Int.tmod x0_2 2) != 1) = false:=bne_eq_false_iff_eq.mpr c7
         clear c7
         have H':=Aside0.mk H
         clear H
         go_wp2
         go_roundg k2
         case measure => have:=HK1.out;have:=HK2.out;omega
         case rel => exact ⟨(Go.bits .xor .u32 ((Int.tdiv x0_2 2) % 4294967296) 3558460437),(wrap64 (x6_2 + 1)),(by first | rfl | (simp;done) | (simp [*];done)),(by first | rfl | (simp;done) | (simp [*];done)),H',⟨by have:=HK1.out;have:=HK2.out;omega⟩,by repeat (first | exact Drawn0.refl _ | apply Drawn0.step)⟩
        ·rw [if_neg c7] at H
         have c7b0 : ((Int.tmod x0_2 2) == 1) = false:=beq_eq_false_iff_ne.mpr c7
         have c7b1 : ((Int.tmod x0_2 2) != 1) = true:=bne_iff_ne.mpr c7
         have H':=Aside0.mk H
         clear H
         go_wp2
         go_roundg k2
         case measure => have:=HK1.out;have:=HK2.out;omega
         case rel => exact ⟨((Int.tdiv x0_2 2) % 4294967296),(wrap64 (x6_2 + 1)),(by first | rfl | (simp;done) | (simp [*];done)),(by first | rfl | (simp;done) | (simp [*];done)),H',⟨by have:=HK1.out;have:=HK2.out;omega⟩,by repeat (first | exact Drawn0.refl _ | apply Drawn0.step)⟩
       ·rw [if_neg c6] at H
        have c6b0 : decide (x6_2 < 8) = false:=decide_eq_false c6
        clear c6
        have H':=Aside0.mk H
        clear H
        go_wp2
        go_roundg k2
        case measure => have:=HK1.out;have:=HK2.out;omega
        case rel => exact ⟨(x0_2),(wrap64 (x5_1 + 1)),(by first | rfl | (simp;done) | (simp [*];done)),(by first | rfl | (simp;done) | (simp [*];done)),H',⟨by have:=HK1.out;have:=HK2.out;omega⟩,by repeat (first | exact Drawn0.refl _ | apply Drawn0.step)⟩
    ·rw [if_neg c4] at H
     exact absurd H (by simp)
   ·rw [if_neg c3] at H
    have c3b0 : decide (x5_1 < (a1.size : Int)) = false:=decide_eq_false c3
    clear c3
    obtain rfl:=Option.some.inj H
    go_wp2
    go_ret
    exact ⟨by first | rfl | (simp;done) | (simp [*];done),by repeat (first | exact Drawn0.refl _ | apply Drawn0.step)⟩

/-! ### impl_SumOf: function 80 -/
def impl_SumOf.f (k : Nat) (a0 : ByteArray) : Option (Int):=(impl_SumMore.f k 4294967295 a0).bind fun t191 => (some t191)
theorem impl_SumOf.mono : ∀ a0 k,LeO (impl_SumOf.f k a0) (impl_SumOf.f (k + 1) a0):=by
 intro a0 k
 unfold impl_SumOf.f
 repeat' first
   | (with_reducible exact impl_SumMore.mono _ _ _)
   | (with_reducible exact LeO.refl _)
   | (with_reducible exact LeO.none _)
   | (with_reducible refine LeO.ite ?_ ?_)
   | (with_reducible refine LeO.bind ?_ (fun _ => ?_))
   | exact impl_SumMore.mono _ _ _
   | exact LeO.none _
   | refine LeO.ite ?_ ?_
   | refine LeO.bind ?_ (fun _ => ?_)
set_option maxHeartbeats 8000000 in
set_option maxRecDepth 100000 in
theorem impl_SumOf.calls (k : Nat) (a0 : ByteArray) (r : Int) (w : World) (h : impl_SumOf.f k a0 = some r) :
  Calls Try.prog 80 #[.string a0] w fun e w' => e = .returned (.int .u32 r) ∧ Drawn0 w w':=by
 have H : ((impl_SumMore.f k 4294967295 a0).bind fun t191 => (some t191)) = some r:=h
 clear h
 replace H:=Option.bind_eq_some_iff.mp H
 obtain ⟨t191,A20,H⟩:=H
 replace H : (some t191) = some r:=H
 have A2:=Aside0.mk A20
 clear A20
 obtain rfl:=Option.some.inj H
 go_enter Try.func80,Try.ntmps80
 go_wp2_with (first | ((with_reducible refine gate_callee (f:=82) rfl ?_);refine goesL_ (some 4) rfl rfl Try.func82 (by kernel_rfl) rfl #[.int .u32 4294967295,.string a0] rfl (by (try simp only [List.map_toArray,List.map_cons,List.map_nil]);first | done | rfl | (simp only [List.length_drop,List.length_take];rfl)) ?_;(with_reducible refine (impl_SumMore.calls k 4294967295 a0 t191 _ A2.out).mono ?_);rintro e w' ⟨rfl,⟨nd,rfl⟩⟩;refine ⟨_,rfl,?_⟩))
 go_ret
 exact ⟨by first | rfl | (simp;done) | (simp [*];done),by repeat (first | exact Drawn0.refl _ | apply Drawn0.step)⟩

/-! ### impl_Sealed: function 70 -/
def impl_Sealed.f (k : Nat) (a0 : ByteArray) : Option (ByteArray × Bool):=if (a0.size : Int) > 20000 then (some ((⟨#[]⟩ : ByteArray),false)) else ((impl_SumOf.f k a0).bind fun t192 => ((some (([(t192 / 16777216) % 256,(t192 / 65536) % 256,(t192 / 256) % 256,(t192) % 256] : List Int) : List Int)).bind fun y193 => (if a0.size + (strOfNums y193).size ≤ 9223372036854775807 then (some (a0 ++ (strOfNums y193),true)) else (none))))
theorem impl_Sealed.mono : ∀ a0 k,LeO (impl_Sealed.f k a0) (impl_Sealed.f (k + 1) a0):=by
 intro a0 k
 unfold impl_Sealed.f
 repeat' first
   | (with_reducible exact impl_SumOf.mono _ _)
   | (with_reducible exact LeO.refl _)
   | (with_reducible exact LeO.none _)
   | (with_reducible refine LeO.ite ?_ ?_)
   | (with_reducible refine LeO.bind ?_ (fun _ => ?_))
   | exact impl_SumOf.mono _ _
   | exact LeO.none _
   | refine LeO.ite ?_ ?_
   | refine LeO.bind ?_ (fun _ => ?_)
set_option maxHeartbeats 8000000 in
set_option maxRecDepth 100000 in
theorem impl_Sealed.calls (k : Nat) (a0 : ByteArray) (r1 : ByteArray) (r2 : Bool) (w : World) (h : impl_Sealed.f k a0 = some (r1,r2)) :
  Calls Try.prog 70 #[.string a0] w fun e w' => e = .returned (.tuple #[.string r1,.bool r2]) ∧ Below w.heap.size w w':=by
 have HB:=Aside0.mk (Below.refl w.heap.size w)
 have H : (if (a0.size : Int) > 20000 then (some ((⟨#[]⟩ : ByteArray),false)) else ((impl_SumOf.f k a0).bind fun t192 => ((some (([(t192 / 16777216) % 256,(t192 / 65536) % 256,(t192 / 256) % 256,(t192) % 256] : List Int) : List Int)).bind fun y193 => (if a0.size + (strOfNums y193).size ≤ 9223372036854775807 then (some (a0 ++ (strOfNums y193),true)) else (none))))) = some (r1,r2):=h
 clear h
 by_cases c2 : (a0.size : Int) > 20000
 ·rw [if_pos c2] at H
  have c2b0 : decide (20000 < (a0.size : Int)) = true:=decide_eq_true c2
  have c2b1 : decide (20000 < a0.size) = true:=decide_eq_true (by omega)
  clear c2
  simp only [Option.some.injEq,Prod.mk.injEq] at H
  obtain ⟨rfl,rfl⟩:=H
  go_enter Try.func70,Try.ntmps70
  go_wp2
  go_ret2
  exact ⟨by first | rfl | (simp [errW_none,errW_some] <;> rfl) | (simp [*,errW_none,errW_some] <;> rfl),by repeat (first | (with_reducible first | exact HB.out | apply below_alloc | apply pw_below_drewN | apply below_drew1) | exact HB.out)⟩
 ·rw [if_neg c2] at H
  have c2b0 : decide (20000 < (a0.size : Int)) = false:=decide_eq_false c2
  have c2b1 : decide (20000 < a0.size) = false:=decide_eq_false (by omega)
  clear c2
  replace H:=Option.bind_eq_some_iff.mp H
  obtain ⟨t192,A30,H⟩:=H
  replace H : ((some (([(t192 / 16777216) % 256,(t192 / 65536) % 256,(t192 / 256) % 256,(t192) % 256] : List Int) : List Int)).bind fun y193 => (if a0.size + (strOfNums y193).size ≤ 9223372036854775807 then (some (a0 ++ (strOfNums y193),true)) else (none))) = some (r1,r2):=H
  have A3:=Aside0.mk A30
  clear A30
  obtain ⟨y193,hy193⟩ : ∃ y_ : List Int,y_ = (([(t192 / 16777216) % 256,(t192 / 65536) % 256,(t192 / 256) % 256,(t192) % 256] : List Int)):=⟨_,rfl⟩
  replace H : (if a0.size + (strOfNums y193).size ≤ 9223372036854775807 then (some (a0 ++ (strOfNums y193),true)) else (none)) = some (r1,r2):=by first | (rw [hy193];with_reducible exact H) | (have H2_:=(Option.bind_some _ _).symm.trans H;rw [hy193];with_reducible exact H2_) | (have H2_:=(Option.bind_some _ _).symm.trans H;with_reducible exact H2_) | with_reducible exact H | (rw [hy193];exact H) | exact H
  have Ny193:=Aside0.mk hy193
  clear hy193
  by_cases c4 : a0.size + (strOfNums y193).size ≤ 9223372036854775807
  ·rw [if_pos c4] at H
   have c4b0:=eq_true c4
   have c4b1 : decide (a0.size + (strOfNums y193).size ≤ 9223372036854775807) = true:=decide_eq_true c4
   try have c4b2 : (9223372036854775807 < a0.size + (strOfNums y193).size) = False:=eq_false (Nat.not_lt.2 c4)
   simp only [Option.some.injEq,Prod.mk.injEq] at H
   obtain ⟨rfl,rfl⟩:=H
   go_enter Try.func70,Try.ntmps70
   go_wp2_with (first | ((with_reducible refine gate_callee (f:=80) rfl ?_);refine goesL_ (some 9) rfl rfl Try.func80 (by kernel_rfl) rfl #[.string a0] rfl (by (try simp only [List.map_toArray,List.map_cons,List.map_nil]);first | done | rfl | (simp only [List.length_drop,List.length_take];rfl)) ?_;(with_reducible refine (impl_SumOf.calls k a0 t192 _ A3.out).mono ?_);rintro e w' ⟨rfl,⟨nd,rfl⟩⟩;refine ⟨_,rfl,?_⟩) | ((with_reducible refine gate_dst (N:=22) rfl ?_);refine Kd.R_lit (Kd.int .u8) _ 5 ?hg (N:=22) ?hd (xs:=([(t192 / 16777216) % 256,(t192 / 65536) % 256,(t192 / 256) % 256,(t192) % 256] : List Int)) (inner:=[.int .u8 ((t192 / 16777216) % 256),.int .u8 ((t192 / 65536) % 256),.int .u8 ((t192 / 256) % 256),.int .u8 ((t192) % 256)]) (ok:=fun _ => True) (okp:=fun _ => True) ?hr ?hp (fun _ hk => hk) trivial (Below.refl _ _) (Nat.le_refl _) (by simp) ?_;(case hd => rfl);(case hg => rfl);(case hr => first | (go_simp;done) | (go_simp;rfl));(case hp => exact (Reps.one (show Kd.M (Kd.int .u8) _ _ _ ((t192 / 16777216) % 256) [.int .u8 ((t192 / 16777216) % 256)] from rfl) (Reps.one (show Kd.M (Kd.int .u8) _ _ _ ((t192 / 65536) % 256) [.int .u8 ((t192 / 65536) % 256)] from rfl) (Reps.one (show Kd.M (Kd.int .u8) _ _ _ ((t192 / 256) % 256) [.int .u8 ((t192 / 256) % 256)] from rfl) (Reps.one (show Kd.M (Kd.int .u8) _ _ _ ((t192) % 256) [.int .u8 ((t192) % 256)] from rfl) (Reps.none _ _))))));intro v194 w5 ho6 hb hg_ hnew_;clear hg_ hnew_;(first | rw [← Ny193.out] at ho6 | (simp only [Int.reduceToNat] at ho6;rw [← Ny193.out] at ho6));have n0_:=Aside0.mk (Kd.R_lower ho6 (below_size (by repeat (first | (with_reducible first | exact HB.out | apply below_alloc | apply pw_below_drewN | apply below_drew1) | exact HB.out))));have n1_:=Aside0.mk (below_step (by repeat (first | (with_reducible first | exact HB.out | apply below_alloc | apply pw_below_drewN | apply below_drew1) | exact HB.out)) hb);clear HB;have HO195:=n0_;have HB:=n1_;clear n0_ n1_;clear hb ho6;have hcv7:=own_string (P:=Try.prog) Try.underlying93 Try.underlying5 Try.underlying9 (Kd.own_of_R HO195.out)))
   go_ret2
   exact ⟨by first | rfl | (simp [errW_none,errW_some] <;> rfl) | (simp [*,errW_none,errW_some] <;> rfl),by repeat (first | (with_reducible first | exact HB.out | apply below_alloc | apply pw_below_drewN | apply below_drew1) | exact HB.out)⟩
  ·rw [if_neg c4] at H
   exact absurd H (by simp)

/-! ### impl_HintText: function 41 -/
def impl_HintText.l0 : Nat → ByteArray → List (S74) → Int → Int → Option (ByteArray × Bool)
 | 0,_,_,_,_ => none
 | k + 1,x4,x22,x23,x24 => if x24 < x23 then (if 0 ≤ x24 then (if x24 < (x22.length : Int) then ((impl_vars.f k (([(rd_T74 x22 x24).f1,(rd_T74 x22 x24).f2,(rd_T74 x22 x24).f3] : List Int))).bind fun bt207 => ((impl_short.f k ((rd_T74 x22 x24).f0)).bind fun t209 => (if t209.size + bt207.1.size ≤ 9223372036854775807 then (if x4.size + (t209 ++ bt207.1).size ≤ 9223372036854775807 then (impl_HintText.l0 k (x4 ++ (t209 ++ bt207.1)) x22 x23 (wrap64 (x24 + 1))) else (none)) else (none)))) else (none)) else (none)) else ((impl_Sealed.f k x4).bind fun bt210 => (if bt210.2 = true then (if (bt210.1.size : Int) > 20000 then (some ((⟨#[]⟩ : ByteArray),false)) else (some (bt210.1,true))) else (some ((⟨#[]⟩ : ByteArray),false))))
def impl_HintText.f (k : Nat) (l0 : List (S74)) : Option (ByteArray × Bool):=(impl_DirOk.f k l0).bind fun t196 => (if t196 = true then ((impl_vars.f k (([(l0.length : Int)] : List Int))).bind fun bt200 => (impl_HintText.l0 k bt200.1 l0 (l0.length : Int) 0)) else (some ((⟨#[]⟩ : ByteArray),false)))
theorem impl_HintText.mono_l : ∀ k,(∀ y0 y1 y2 y3,LeO (impl_HintText.l0 k y0 y1 y2 y3) (impl_HintText.l0 (k + 1) y0 y1 y2 y3))
 | 0 => fun _ _ _ _ r h => by simp [impl_HintText.l0] at h
 | k + 1 => by
  have ih0:=impl_HintText.mono_l k
  ·intro y0 y1 y2 y3
   unfold impl_HintText.l0
   repeat' first
   | (with_reducible exact ih0 _ _ _ _)
   | (with_reducible exact impl_DirOk.mono _ _)
   | (with_reducible exact impl_Sealed.mono _ _)
   | (with_reducible exact impl_short.mono _ _)
   | (with_reducible exact impl_vars.mono _ _)
   | (with_reducible exact LeO.refl _)
   | (with_reducible exact LeO.none _)
   | (with_reducible refine LeO.ite ?_ ?_)
   | (with_reducible refine LeO.bind ?_ (fun _ => ?_))
   | exact ih0 _ _ _ _
   | exact impl_DirOk.mono _ _
   | exact impl_Sealed.mono _ _
   | exact impl_short.mono _ _
   | exact impl_vars.mono _ _
   | exact LeO.none _
   | refine LeO.ite ?_ ?_
   | refine LeO.bind ?_ (fun _ => ?_)
theorem impl_HintText.mono : ∀ a0 k,LeO (impl_HintText.f k a0) (impl_HintText.f (k + 1) a0):=by
 intro a0 k
 have ih0:=impl_HintText.mono_l k
 unfold impl_HintText.f
 repeat' first
   | (with_reducible exact ih0 _ _ _ _)
   | (with_reducible exact impl_DirOk.mono _ _)
   | (with_reducible exact impl_Sealed.mono _ _)
   | (with_reducible exact impl_short.mono _ _)
   | (with_reducible exact impl_vars.mono _ _)
   | (with_reducible exact LeO.refl _)
   | (with_reducible exact LeO.none _)
   | (with_reducible refine LeO.ite ?_ ?_)
   | (with_reducible refine LeO.bind ?_ (fun _ => ?_))
   | exact ih0 _ _ _ _
   | exact impl_DirOk.mono _ _
   | exact impl_Sealed.mono _ _
   | exact impl_short.mono _ _
   | exact impl_vars.mono _ _
   | exact LeO.none _
   | refine LeO.ite ?_ ?_
   | refine LeO.bind ?_ (fun _ => ?_)
set_option maxHeartbeats 8000000 in
set_option maxRecDepth 100000 in
theorem impl_HintText.calls (k : Nat) (A0 : Option Addr) (c0 : Nat) (l0 : List (S74)) (r1 : ByteArray) (r2 : Bool) (w : World) (hr0 : Kd.C k74 w A0 l0.length l0) (hc0 : l0.length ≤ c0) (h : impl_HintText.f k l0 = some (r1,r2)) :
  Calls Try.prog 41 #[.slice A0 l0.length c0] w fun e w' => e = .returned (.tuple #[.string r1,.bool r2]) ∧ Below w.heap.size w w':=by
 have hu74:=Try.underlying74
 have HR0:=Aside0.mk hr0
 have HC0:=Aside0.mk hc0
 clear hr0 hc0
 have HB:=Aside0.mk (Below.refl w.heap.size w)
 have H : ((impl_DirOk.f k l0).bind fun t196 => (if t196 = true then ((impl_vars.f k (([(l0.length : Int)] : List Int))).bind fun bt200 => (impl_HintText.l0 k bt200.1 l0 (l0.length : Int) 0)) else (some ((⟨#[]⟩ : ByteArray),false)))) = some (r1,r2):=h
 clear h
 replace H:=Option.bind_eq_some_iff.mp H
 obtain ⟨t196,A20,H⟩:=H
 replace H : (if t196 = true then ((impl_vars.f k (([(l0.length : Int)] : List Int))).bind fun bt200 => (impl_HintText.l0 k bt200.1 l0 (l0.length : Int) 0)) else (some ((⟨#[]⟩ : ByteArray),false))) = some (r1,r2):=H
 have A2:=Aside0.mk A20
 clear A20
 by_cases c3 : t196 = true
 ·subst c3
  have H1 : ((impl_vars.f k (([(l0.length : Int)] : List Int))).bind fun bt200 => (impl_HintText.l0 k bt200.1 l0 (l0.length : Int) 0)) = some (r1,r2):=by rw [if_pos rfl] at H;exact H
  clear H
  have H:=H1
  clear H1
  obtain ⟨y197,hy197⟩ : ∃ y_ : List Int,y_ = (([(l0.length : Int)] : List Int)):=⟨_,rfl⟩
  replace H : ((impl_vars.f k y197).bind fun bt200 => (impl_HintText.l0 k bt200.1 l0 (l0.length : Int) 0)) = some (r1,r2):=by first | (rw [hy197];with_reducible exact H) | (have H2_:=(Option.bind_some _ _).symm.trans H;rw [hy197];with_reducible exact H2_) | (have H2_:=(Option.bind_some _ _).symm.trans H;with_reducible exact H2_) | with_reducible exact H | (rw [hy197];exact H) | exact H
  have Ny197:=Aside0.mk hy197
  clear hy197
  replace H:=Option.bind_eq_some_iff.mp H
  obtain ⟨⟨t200,t201⟩,A40,H⟩:=H
  replace H : (impl_HintText.l0 k t200 l0 (l0.length : Int) 0) = some (r1,r2):=H
  have A4:=Aside0.mk A40
  clear A40
  have H':=Aside0.mk H
  clear H
  go_enter Try.func41,Try.ntmps41
  go_wp2_with (first | ((with_reducible refine gate_callee (f:=14) rfl ?_);refine goesL_ (some 13) rfl rfl Try.func14 (by kernel_rfl) rfl #[.slice A0 l0.length c0] rfl (by (try simp only [List.map_toArray,List.map_cons,List.map_nil]);first | done | rfl | (simp only [List.length_drop,List.length_take];rfl)) ?_;(with_reducible refine (impl_DirOk.calls k _ _ l0 true _ ?side1 ?side2 A2.out).mono ?_);(case side1 => repeat (first | exact HR0.out | (with_reducible refine Kd.C_alloc ?_ _) | (with_reducible refine Kd.C_drewN ?_ _) | (with_reducible refine Kd.C_drew ?_)));(case side2 => exact HC0.out);rintro e w5 ⟨rfl,hb⟩;refine ⟨_,rfl,?_⟩;have n0_:=Aside0.mk (below_step (by repeat (first | (with_reducible first | exact HB.out | apply below_alloc | apply pw_below_drewN | apply below_drew1) | exact HB.out)) hb);clear HB;have HB:=n0_;clear n0_;(try clear hb);(try clear hb2);(try clear hk);(try clear hi)) | ((with_reducible refine gate_dst (N:=18) rfl ?_);(try (refine gate_guard (by rfl) ?_;dsimp only));refine Kd.R_lit (Kd.int .i64) _ 3 ?hg (N:=18) ?hd (xs:=([(l0.length : Int)] : List Int)) (inner:=[.int .i64 (l0.length : Int)]) (ok:=fun _ => True) (okp:=fun _ => True) ?hr ?hp (fun _ hk => hk) trivial (Below.refl _ _) (Nat.le_refl _) (by simp) ?_;(case hd => rfl);(case hg => rfl);(case hr => first | (go_simp;done) | (go_simp;rfl));(case hp => exact (Reps.one (show Kd.M (Kd.int .i64) _ _ _ (l0.length : Int) [.int .i64 (l0.length : Int)] from rfl) (Reps.none _ _)));intro v198 w6 ho7 hb hg_ hnew_;clear hg_ hnew_;(first | rw [← Ny197.out] at ho7 | (simp only [Int.reduceToNat] at ho7;rw [← Ny197.out] at ho7));have n0_:=Aside0.mk (Kd.R_lower ho7 (below_size (by repeat (first | (with_reducible first | exact HB.out | apply below_alloc | apply pw_below_drewN | apply below_drew1) | exact HB.out))));have n1_:=Aside0.mk (below_step (by repeat (first | (with_reducible first | exact HB.out | apply below_alloc | apply pw_below_drewN | apply below_drew1) | exact HB.out)) hb);clear HB;have HO199:=n0_;have HB:=n1_;clear n0_ n1_;clear hb ho7;obtain ⟨Ao8,co8,eo8⟩:=Kd.R_slice HO199.out;subst eo8) | ((with_reducible refine gate_callee (f:=64) rfl ?_);refine goesL_ (some 19) rfl rfl Try.func64 (by kernel_rfl) rfl #[.slice Ao8 y197.length co8] rfl (by (try simp only [List.map_toArray,List.map_cons,List.map_nil]);first | done | rfl | (simp only [List.length_drop,List.length_take];rfl)) ?_;(with_reducible refine (impl_vars.calls k _ _ y197 t200 t201 _ ?side1 ?side2 A4.out).mono ?_);(case side1 => repeat (first | exact (Kd.R_reads' HO199.out).2.2 | (with_reducible refine Kd.C_alloc ?_ _) | (with_reducible refine Kd.C_drewN ?_ _) | (with_reducible refine Kd.C_drew ?_)));(case side2 => exact (Kd.R_reads' HO199.out).2.1);rintro e w9 ⟨rfl,hb⟩;refine ⟨_,rfl,?_⟩;have n0_:=Aside0.mk (Kd.R_below (by (with_reducible repeat (first | apply Kd.R_alloc | apply Kd.R_drewN | apply Kd.R_drew));exact HO199.out) hb);have n1_:=Aside0.mk (below_step (by repeat (first | (with_reducible first | exact HB.out | apply below_alloc | apply pw_below_drewN | apply below_drew1) | exact HB.out)) hb);clear HO199;clear HB;have HO199:=n0_;have HB:=n1_;clear n0_ n1_;(try clear hb);(try clear hb2);(try clear hk);(try clear hi)))
  go_loopg [4,24] k (fun kq v4 v24 w' => ∃ (x4_1 : ByteArray) (x24_1 : Int),v4 = .string x4_1 ∧ v24 = .int .i64 x24_1 ∧ Aside0 (impl_HintText.l0 kq x4_1 l0 (l0.length : Int) x24_1 = some (r1,r2)) ∧ Aside0 (kq ≤ k) ∧ Aside0 (Below w.heap.size w w'))
  case atStart => exact ⟨(t200),(0),(by first | rfl | (simp;done) | (simp [*];done)),(by first | rfl | (simp;done) | (simp [*];done)),H',⟨Nat.le_refl _⟩,⟨by repeat (first | (with_reducible first | exact HB.out | apply below_alloc | apply pw_below_drewN | apply below_drew1) | exact HB.out)⟩⟩
  case round =>
   clear H'
   try clear c1
   try clear p2
   try clear c3
   try clear c4
   try clear c6
   obtain ⟨x4_1,x24_1,rfl,rfl,HA,HK1,HB⟩:=hrel
   cases gk with
   | zero => exact absurd HA.out (by simp [impl_HintText.l0])
   | succ k1 =>
    have H:=HA.out
    clear HA
    simp only [impl_HintText.l0] at H
    by_cases c10 : x24_1 < (l0.length : Int)
    ·rw [if_pos c10] at H
     have c10b0 : decide (x24_1 < (l0.length : Int)) = true:=decide_eq_true c10
     clear c10
     by_cases c11 : 0 ≤ x24_1
     ·rw [if_pos c11] at H
      have c11b0 : decide (0 ≤ x24_1) = true:=decide_eq_true c11
      clear c11
      by_cases c12 : x24_1 < (l0.length : Int)
      ·rw [if_pos c12] at H
       have c12b0 : decide (x24_1 < (l0.length : Int)) = true:=decide_eq_true c12
       clear c12
       obtain ⟨y204,hy204⟩ : ∃ y_ : List Int,y_ = (([(rd_T74 l0 x24_1).f1,(rd_T74 l0 x24_1).f2,(rd_T74 l0 x24_1).f3] : List Int)):=⟨_,rfl⟩
       replace H : ((impl_vars.f k1 y204).bind fun bt207 => ((impl_short.f k1 ((rd_T74 l0 x24_1).f0)).bind fun t209 => (if t209.size + bt207.1.size ≤ 9223372036854775807 then (if x4_1.size + (t209 ++ bt207.1).size ≤ 9223372036854775807 then (impl_HintText.l0 k1 (x4_1 ++ (t209 ++ bt207.1)) l0 (l0.length : Int) (wrap64 (x24_1 + 1))) else (none)) else (none)))) = some (r1,r2):=by first | (rw [hy204];with_reducible exact H) | (have H2_:=(Option.bind_some _ _).symm.trans H;rw [hy204];with_reducible exact H2_) | (have H2_:=(Option.bind_some _ _).symm.trans H;with_reducible exact H2_) | with_reducible exact H | (rw [hy204];exact H) | exact H
       have Ny204:=Aside0.mk hy204
       clear hy204
       replace H:=Option.bind_eq_some_iff.mp H
       obtain ⟨⟨t207,t208⟩,A130,H⟩:=H
       replace H : ((impl_short.f k1 ((rd_T74 l0 x24_1).f0)).bind fun t209 => (if t209.size + t207.size ≤ 9223372036854775807 then (if x4_1.size + (t209 ++ t207).size ≤ 9223372036854775807 then (impl_HintText.l0 k1 (x4_1 ++ (t209 ++ t207)) l0 (l0.length : Int) (wrap64 (x24_1 + 1))) else (none)) else (none))) = some (r1,r2):=H
       have A13:=Aside0.mk A130
       clear A130
       replace H:=Option.bind_eq_some_iff.mp H
       obtain ⟨t209,A140,H⟩:=H
       replace H : (if t209.size + t207.size ≤ 9223372036854775807 then (if x4_1.size + (t209 ++ t207).size ≤ 9223372036854775807 then (impl_HintText.l0 k1 (x4_1 ++ (t209 ++ t207)) l0 (l0.length : Int) (wrap64 (x24_1 + 1))) else (none)) else (none)) = some (r1,r2):=H
       have A14:=Aside0.mk A140
       clear A140
       by_cases c15 : t209.size + t207.size ≤ 9223372036854775807
       ·rw [if_pos c15] at H
        have c15b0:=eq_true c15
        have c15b1 : decide (t209.size + t207.size ≤ 9223372036854775807) = true:=decide_eq_true c15
        try have c15b2 : (9223372036854775807 < t209.size + t207.size) = False:=eq_false (Nat.not_lt.2 c15)
        by_cases c16 : x4_1.size + (t209 ++ t207).size ≤ 9223372036854775807
        ·rw [if_pos c16] at H
         have c16b0:=eq_true c16
         have c16b1 : decide (x4_1.size + (t209 ++ t207).size ≤ 9223372036854775807) = true:=decide_eq_true c16
         try have c16b2 : (9223372036854775807 < x4_1.size + (t209 ++ t207).size) = False:=eq_false (Nat.not_lt.2 c16)
         have H':=Aside0.mk H
         clear H
         have p202 : 0 ≤ (x24_1 : Int):=of_decide_eq_true (by first | (with_reducible assumption) | assumption)
         have q202 : x24_1 < (l0.length : Int):=of_decide_eq_true (by first | (with_reducible assumption) | assumption)
         obtain ⟨ad202,e202,hx202_0,hx202_1,hx202_2,hx202_3⟩:=at_T74 HR0.out x24_1 p202 q202
         cases e202
         replace hx202_0:=(HB.out.cell (World.block_lt_of_cell? w _ hx202_0)).trans hx202_0
         replace hx202_1:=(HB.out.cell (World.block_lt_of_cell? w _ hx202_1)).trans hx202_1
         replace hx202_2:=(HB.out.cell (World.block_lt_of_cell? w _ hx202_2)).trans hx202_2
         replace hx202_3:=(HB.out.cell (World.block_lt_of_cell? w _ hx202_3)).trans hx202_3
         replace p202:=eq_true p202
         replace q202:=eq_true q202
         go_wp2_with (first | ((with_reducible refine gate_dst (N:=7) rfl ?_);(try (refine gate_guard (by rfl) ?_;dsimp only));refine box_event ?hg (N:=7) ?hd (cs:=#[.string (⟨#[]⟩ : ByteArray),.int .i64 0,.int .i64 0,.int .i64 0]) (t:=74) ?hr ?_;(case hd => rfl);(case hg => rfl);(case hr => first | (go_simp;done) | (go_simp;rfl));intro gb203 hg w17 hbox hb;have n0_:=Aside0.mk (below_step (by repeat (first | (with_reducible first | exact HB.out | apply below_alloc | apply pw_below_drewN | apply below_drew1) | exact HB.out)) hb);have n1_:=Aside0.mk (hbox);have n2_:=Aside0.mk ((by rw [hg];exact (below_size (by repeat (first | (with_reducible first | exact HB.out | apply below_alloc | apply pw_below_drewN | apply below_drew1) | exact HB.out))) : w.heap.size ≤ gb203));have n3_:=Aside0.mk ((by rw [hg];exact (below_size (by repeat (first | (with_reducible first | exact HB.out | apply below_alloc | apply pw_below_drewN | apply below_drew1) | exact HB.out))) : w.heap.size ≤ gb203));clear HB;have HB:=n0_;have BK203:=n1_;have GW203:=n2_;have GE203:=n3_;clear n0_ n1_ n2_ n3_;clear hb hbox hg;have hcz18_0 : w17.cell? ⟨gb203,0,none⟩ = some (.string (⟨#[]⟩ : ByteArray)):=(blk_cell BK203.out 0).trans rfl;have hcz18_1 : w17.cell? ⟨gb203,1,none⟩ = some (.int .i64 0):=(blk_cell BK203.out 1).trans rfl;have hcz18_2 : w17.cell? ⟨gb203,2,none⟩ = some (.int .i64 0):=(blk_cell BK203.out 2).trans rfl;have hcz18_3 : w17.cell? ⟨gb203,3,none⟩ = some (.int .i64 0):=(blk_cell BK203.out 3).trans rfl;have hfz18_0:=blk_frozen BK203.out 0;have hfz18_1:=blk_frozen BK203.out 1;have hfz18_2:=blk_frozen BK203.out 2;have hfz18_3:=blk_frozen BK203.out 3) | ((with_reducible refine gate_dst (N:=35) rfl ?_);(try (refine gate_guard (by rfl) ?_;dsimp only));refine Kd.R_lit (Kd.int .i64) _ 3 ?hg (N:=35) ?hd (xs:=([(rd_T74 l0 x24_1).f1,(rd_T74 l0 x24_1).f2,(rd_T74 l0 x24_1).f3] : List Int)) (inner:=[.int .i64 ((rd_T74 l0 x24_1).f1),.int .i64 ((rd_T74 l0 x24_1).f2),.int .i64 ((rd_T74 l0 x24_1).f3)]) (ok:=fun _ => True) (okp:=fun _ => True) ?hr ?hp (fun _ hk => hk) trivial (Below.refl _ _) (Nat.le_refl _) (by simp) ?_;(case hd => rfl);(case hg => rfl);(case hr => first | (go_simp;done) | (go_simp;rfl));(case hp => exact (Reps.one (show Kd.M (Kd.int .i64) _ _ _ ((rd_T74 l0 x24_1).f1) [.int .i64 ((rd_T74 l0 x24_1).f1)] from rfl) (Reps.one (show Kd.M (Kd.int .i64) _ _ _ ((rd_T74 l0 x24_1).f2) [.int .i64 ((rd_T74 l0 x24_1).f2)] from rfl) (Reps.one (show Kd.M (Kd.int .i64) _ _ _ ((rd_T74 l0 x24_1).f3) [.int .i64 ((rd_T74 l0 x24_1).f3)] from rfl) (Reps.none _ _)))));intro v205 w19 ho20 hb hg_ hnew_;clear hg_ hnew_;(first | rw [← Ny204.out] at ho20 | (simp only [Int.reduceToNat] at ho20;rw [← Ny204.out] at ho20));have n0_:=Aside0.mk (Kd.R_lower ho20 (below_size (by repeat (first | (with_reducible first | exact HB.out | apply below_alloc | apply pw_below_drewN | apply below_drew1 | refine below_set ?_ GE203.out) | exact HB.out))));have n1_:=Aside0.mk (blk_below (g:=gb203) (o:=.cells #[.string ((rd_T74 l0 x24_1).f0),.int .i64 ((rd_T74 l0 x24_1).f1),.int .i64 ((rd_T74 l0 x24_1).f2),.int .i64 ((rd_T74 l0 x24_1).f3)] 74 (0,0)) (by (with_reducible repeat (first | refine blk_drewN ?_ _ | refine blk_drew ?_ | refine blk_alloc ?_ _));refine blk_put (cs:=#[.string ((rd_T74 l0 x24_1).f0),.int .i64 ((rd_T74 l0 x24_1).f1),.int .i64 ((rd_T74 l0 x24_1).f2),.int .i64 0]) ?_ 3 _ rfl;(with_reducible repeat (first | refine blk_drewN ?_ _ | refine blk_drew ?_ | refine blk_alloc ?_ _));refine blk_put (cs:=#[.string ((rd_T74 l0 x24_1).f0),.int .i64 ((rd_T74 l0 x24_1).f1),.int .i64 0,.int .i64 0]) ?_ 2 _ rfl;(with_reducible repeat (first | refine blk_drewN ?_ _ | refine blk_drew ?_ | refine blk_alloc ?_ _));refine blk_put (cs:=#[.string ((rd_T74 l0 x24_1).f0),.int .i64 0,.int .i64 0,.int .i64 0]) ?_ 1 _ rfl;(with_reducible repeat (first | refine blk_drewN ?_ _ | refine blk_drew ?_ | refine blk_alloc ?_ _));refine blk_put (cs:=#[.string (⟨#[]⟩ : ByteArray),.int .i64 0,.int .i64 0,.int .i64 0]) ?_ 0 _ rfl;(with_reducible repeat (first | refine blk_drewN ?_ _ | refine blk_drew ?_ | refine blk_alloc ?_ _));exact BK203.out) hb);have n2_:=Aside0.mk (below_step (by repeat (first | (with_reducible first | exact HB.out | apply below_alloc | apply pw_below_drewN | apply below_drew1 | refine below_set ?_ GE203.out) | exact HB.out)) hb);clear BK203;clear HB;have HO206:=n0_;have BK203:=n1_;have HB:=n2_;clear n0_ n1_ n2_;clear hb ho20;obtain ⟨Ao21,co21,eo21⟩:=Kd.R_slice HO206.out;subst eo21) | ((with_reducible refine gate_callee (f:=64) rfl ?_);refine goesL_ (some 36) rfl rfl Try.func64 (by kernel_rfl) rfl #[.slice Ao21 y204.length co21] rfl (by (try simp only [List.map_toArray,List.map_cons,List.map_nil]);first | done | rfl | (simp only [List.length_drop,List.length_take];rfl)) ?_;(with_reducible refine (impl_vars.calls k1 _ _ y204 t207 t208 _ ?side1 ?side2 A13.out).mono ?_);(case side1 => repeat (first | exact (Kd.R_reads' HO206.out).2.2 | (with_reducible refine Kd.C_alloc ?_ _) | (with_reducible refine Kd.C_drewN ?_ _) | (with_reducible refine Kd.C_drew ?_)));(case side2 => exact (Kd.R_reads' HO206.out).2.1);rintro e w22 ⟨rfl,hb⟩;refine ⟨_,rfl,?_⟩;have n0_:=Aside0.mk (Kd.R_below (by (with_reducible repeat (first | apply Kd.R_alloc | apply Kd.R_drewN | apply Kd.R_drew));exact HO206.out) hb);have n1_:=Aside0.mk (blk_below (g:=gb203) (o:=.cells #[.string ((rd_T74 l0 x24_1).f0),.int .i64 ((rd_T74 l0 x24_1).f1),.int .i64 ((rd_T74 l0 x24_1).f2),.int .i64 ((rd_T74 l0 x24_1).f3)] 74 (0,0)) (by (with_reducible repeat (first | refine blk_drewN ?_ _ | refine blk_drew ?_ | refine blk_alloc ?_ _));exact BK203.out) hb);have n2_:=Aside0.mk (below_step (by repeat (first | (with_reducible first | exact HB.out | apply below_alloc | apply pw_below_drewN | apply below_drew1 | refine below_set ?_ GE203.out) | exact HB.out)) hb);clear HO206;clear BK203;clear HB;have HO206:=n0_;have BK203:=n1_;have HB:=n2_;clear n0_ n1_ n2_;(try clear hb);(try clear hb2);(try clear hk);(try clear hi);have hcz23_0 : w22.cell? ⟨gb203,0,none⟩ = some (.string ((rd_T74 l0 x24_1).f0)):=(blk_cell BK203.out 0).trans rfl;have hcz23_1 : w22.cell? ⟨gb203,1,none⟩ = some (.int .i64 ((rd_T74 l0 x24_1).f1)):=(blk_cell BK203.out 1).trans rfl;have hcz23_2 : w22.cell? ⟨gb203,2,none⟩ = some (.int .i64 ((rd_T74 l0 x24_1).f2)):=(blk_cell BK203.out 2).trans rfl;have hcz23_3 : w22.cell? ⟨gb203,3,none⟩ = some (.int .i64 ((rd_T74 l0 x24_1).f3)):=(blk_cell BK203.out 3).trans rfl;have hfz23_0:=blk_frozen BK203.out 0;have hfz23_1:=blk_frozen BK203.out 1;have hfz23_2:=blk_frozen BK203.out 2;have hfz23_3:=blk_frozen BK203.out 3) | ((with_reducible refine gate_callee (f:=62) rfl ?_);refine goesL_ (some 42) rfl rfl Try.func62 (by kernel_rfl) rfl #[.string ((rd_T74 l0 x24_1).f0)] rfl (by (try simp only [List.map_toArray,List.map_cons,List.map_nil]);first | done | rfl | (simp only [List.length_drop,List.length_take];rfl)) ?_;(with_reducible refine (impl_short.calls k1 ((rd_T74 l0 x24_1).f0) t209 _ A14.out).mono ?_);rintro e w24 ⟨rfl,hb⟩;refine ⟨_,rfl,?_⟩;have n0_:=Aside0.mk (Kd.R_below (by (with_reducible repeat (first | apply Kd.R_alloc | apply Kd.R_drewN | apply Kd.R_drew));exact HO206.out) hb);have n1_:=Aside0.mk (blk_below (g:=gb203) (o:=.cells #[.string ((rd_T74 l0 x24_1).f0),.int .i64 ((rd_T74 l0 x24_1).f1),.int .i64 ((rd_T74 l0 x24_1).f2),.int .i64 ((rd_T74 l0 x24_1).f3)] 74 (0,0)) (by (with_reducible repeat (first | refine blk_drewN ?_ _ | refine blk_drew ?_ | refine blk_alloc ?_ _));exact BK203.out) hb);have n2_:=Aside0.mk (below_step (by repeat (first | (with_reducible first | exact HB.out | apply below_alloc | apply pw_below_drewN | apply below_drew1 | refine below_set ?_ GE203.out) | exact HB.out)) hb);clear HO206;clear BK203;clear HB;have HO206:=n0_;have BK203:=n1_;have HB:=n2_;clear n0_ n1_ n2_;(try clear hb);(try clear hb2);(try clear hk);(try clear hi)))
         go_roundg k1
         case measure => have:=HK1.out;omega
         case rel => exact ⟨(x4_1 ++ (t209 ++ t207)),(wrap64 (x24_1 + 1)),(by first | rfl | (simp;done) | (simp [*];done)),(by first | rfl | (simp;done) | (simp [*];done)),H',⟨by have:=HK1.out;omega⟩,⟨by repeat (first | (with_reducible first | exact HB.out | apply below_alloc | apply pw_below_drewN | apply below_drew1 | refine below_set ?_ GE203.out) | exact HB.out)⟩⟩
        ·rw [if_neg c16] at H
         exact absurd H (by simp)
       ·rw [if_neg c15] at H
        exact absurd H (by simp)
      ·rw [if_neg c12] at H
       exact absurd H (by simp)
     ·rw [if_neg c11] at H
      exact absurd H (by simp)
    ·rw [if_neg c10] at H
     have c10b0 : decide (x24_1 < (l0.length : Int)) = false:=decide_eq_false c10
     clear c10
     replace H:=Option.bind_eq_some_iff.mp H
     obtain ⟨⟨t210,t211⟩,A250,H⟩:=H
     replace H : (if t211 = true then (if (t210.size : Int) > 20000 then (some ((⟨#[]⟩ : ByteArray),false)) else (some (t210,true))) else (some ((⟨#[]⟩ : ByteArray),false))) = some (r1,r2):=H
     have A25:=Aside0.mk A250
     clear A250
     by_cases c26 : t211 = true
     ·subst c26
      have H1 : (if (t210.size : Int) > 20000 then (some ((⟨#[]⟩ : ByteArray),false)) else (some (t210,true))) = some (r1,r2):=by rw [if_pos rfl] at H;exact H
      clear H
      have H:=H1
      clear H1
      by_cases c27 : (t210.size : Int) > 20000
      ·rw [if_pos c27] at H
       have c27b0 : decide (20000 < (t210.size : Int)) = true:=decide_eq_true c27
       have c27b1 : decide (20000 < t210.size) = true:=decide_eq_true (by omega)
       clear c27
       simp only [Option.some.injEq,Prod.mk.injEq] at H
       obtain ⟨rfl,rfl⟩:=H
       go_wp2_with (first | ((with_reducible refine gate_callee (f:=70) rfl ?_);refine goesL_ (some 49) rfl rfl Try.func70 (by kernel_rfl) rfl #[.string x4_1] rfl (by (try simp only [List.map_toArray,List.map_cons,List.map_nil]);first | done | rfl | (simp only [List.length_drop,List.length_take];rfl)) ?_;(with_reducible refine (impl_Sealed.calls k1 x4_1 t210 true _ A25.out).mono ?_);rintro e w28 ⟨rfl,hb⟩;refine ⟨_,rfl,?_⟩;have n0_:=Aside0.mk (below_step (by repeat (first | (with_reducible first | exact HB.out | apply below_alloc | apply pw_below_drewN | apply below_drew1) | exact HB.out)) hb);clear HB;have HB:=n0_;clear n0_;(try clear hb);(try clear hb2);(try clear hk);(try clear hi)))
       go_ret2
       exact ⟨by first | rfl | (simp [errW_none,errW_some] <;> rfl) | (simp [*,errW_none,errW_some] <;> rfl),by repeat (first | (with_reducible first | exact HB.out | apply below_alloc | apply pw_below_drewN | apply below_drew1) | exact HB.out)⟩
      ·rw [if_neg c27] at H
       have c27b0 : decide (20000 < (t210.size : Int)) = false:=decide_eq_false c27
       have c27b1 : decide (20000 < t210.size) = false:=decide_eq_false (by omega)
       clear c27
       simp only [Option.some.injEq,Prod.mk.injEq] at H
       obtain ⟨rfl,rfl⟩:=H
       go_wp2_with (first | ((with_reducible refine gate_callee (f:=70) rfl ?_);refine goesL_ (some 49) rfl rfl Try.func70 (by kernel_rfl) rfl #[.string x4_1] rfl (by (try simp only [List.map_toArray,List.map_cons,List.map_nil]);first | done | rfl | (simp only [List.length_drop,List.length_take];rfl)) ?_;(with_reducible refine (impl_Sealed.calls k1 x4_1 t210 true _ A25.out).mono ?_);rintro e w29 ⟨rfl,hb⟩;refine ⟨_,rfl,?_⟩;have n0_:=Aside0.mk (below_step (by repeat (first | (with_reducible first | exact HB.out | apply below_alloc | apply pw_below_drewN | apply below_drew1) | exact HB.out)) hb);clear HB;have HB:=n0_;clear n0_;(try clear hb);(try clear hb2);(try clear hk);(try clear hi)))
       go_ret2
       exact ⟨by first | rfl | (simp [errW_none,errW_some] <;> rfl) | (simp [*,errW_none,errW_some] <;> rfl),by repeat (first | (with_reducible first | exact HB.out | apply below_alloc | apply pw_below_drewN | apply below_drew1) | exact HB.out)⟩
     ·replace c26:=Bool.eq_false_iff.mpr c26
      subst c26
      have H1 : (some ((⟨#[]⟩ : ByteArray),false)) = some (r1,r2):=by rw [if_neg (show ¬ (false = true) by decide)] at H;exact H
      clear H
      have H:=H1
      clear H1
      simp only [Option.some.injEq,Prod.mk.injEq] at H
      obtain ⟨rfl,rfl⟩:=H
      go_wp2_with (first | ((with_reducible refine gate_callee (f:=70) rfl ?_);refine goesL_ (some 49) rfl rfl Try.func70 (by kernel_rfl) rfl #[.string x4_1] rfl (by (try simp only [List.map_toArray,List.map_cons,List.map_nil]);first | done | rfl | (simp only [List.length_drop,List.length_take];rfl)) ?_;(with_reducible refine (impl_Sealed.calls k1 x4_1 t210 false _ A25.out).mono ?_);rintro e w30 ⟨rfl,hb⟩;refine ⟨_,rfl,?_⟩;have n0_:=Aside0.mk (below_step (by repeat (first | (with_reducible first | exact HB.out | apply below_alloc | apply pw_below_drewN | apply below_drew1) | exact HB.out)) hb);clear HB;have HB:=n0_;clear n0_;(try clear hb);(try clear hb2);(try clear hk);(try clear hi)))
      go_ret2
      exact ⟨by first | rfl | (simp [errW_none,errW_some] <;> rfl) | (simp [*,errW_none,errW_some] <;> rfl),by repeat (first | (with_reducible first | exact HB.out | apply below_alloc | apply pw_below_drewN | apply below_drew1) | exact HB.out)⟩
 ·replace c3:=Bool.eq_false_iff.mpr c3
  subst c3
  have H1 : (some ((⟨#[]⟩ : ByteArray),false)) = some (r1,r2):=by rw [if_neg (show ¬ (false = true) by decide)] at H;exact H
  clear H
  have H:=H1
  clear H1
  simp only [Option.some.injEq,Prod.mk.injEq] at H
  obtain ⟨rfl,rfl⟩:=H
  go_enter Try.func41,Try.ntmps41
  go_wp2_with (first | ((with_reducible refine gate_callee (f:=14) rfl ?_);refine goesL_ (some 13) rfl rfl Try.func14 (by kernel_rfl) rfl #[.slice A0 l0.length c0] rfl (by (try simp only [List.map_toArray,List.map_cons,List.map_nil]);first | done | rfl | (simp only [List.length_drop,List.length_take];rfl)) ?_;(with_reducible refine (impl_DirOk.calls k _ _ l0 false _ ?side1 ?side2 A2.out).mono ?_);(case side1 => repeat (first | exact HR0.out | (with_reducible refine Kd.C_alloc ?_ _) | (with_reducible refine Kd.C_drewN ?_ _) | (with_reducible refine Kd.C_drew ?_)));(case side2 => exact HC0.out);rintro e w31 ⟨rfl,hb⟩;refine ⟨_,rfl,?_⟩;have n0_:=Aside0.mk (below_step (by repeat (first | (with_reducible first | exact HB.out | apply below_alloc | apply pw_below_drewN | apply below_drew1) | exact HB.out)) hb);clear HB;have HB:=n0_;clear n0_;(try clear hb);(try clear hb2);(try clear hk);(try clear hi)))
  go_ret2
  exact ⟨by first | rfl | (simp [errW_none,errW_some] <;> rfl) | (simp [*,errW_none,errW_some] <;> rfl),by repeat (first | (with_reducible first | exact HB.out | apply below_alloc | apply pw_below_drewN | apply below_drew1) | exact HB.out)⟩

end Go.Proofs.Ytliemdoegicbhaa.PFnExactHintText
