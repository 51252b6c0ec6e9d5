/- Walks, turned from a print. -/
import Derived.Test.YtlekhcopddajbaaGreatDoorOFnExactSegmentsx0
import Derived.Test.YtlekhcopddajbaaGreatDoorOFnExactSegmentsx10
import Derived.Test.YtlekhcopddajbaaGreatDoorOFnExactSegmentsx12
namespace Go.Proofs.YtlekhcopddajbaaGreatDoor.PFnExactSegments
open Go.RowKit Go.Proofs.YtlekhcopddajbaaGreatDoorW.PrintWords Go.Proofs.YtlekhcopddajbaaGreatDoorW.PrintLast Go.Proofs.YtlekhcopddajbaaGreatDoorW.PrintMore
attribute [local go_sem] max2_int min2_int max_two min_two max_three min_three max_four min_four
set_option linter.unusedVariables false
set_option linter.unusedSimpArgs false

/-! ### impl_SumMore: function 102 -/
mutual
def impl_SumMore.l0 : Nat → Int → ByteArray → Int → Option (Int)
 | 0,_,_,_ => none
 | k + 1,x0,x1,x5 => if x5 < (x1.size : Int) then (if 0 ≤ x5 then (impl_SumMore.l1 k (Go.bits .xor .u32 x0 ((bt x1 x5) % 4294967296)) x1 x5 0) else (none)) else (some x0)
def impl_SumMore.l1 : Nat → Int → ByteArray → Int → Int → Option (Int)
 | 0,_,_,_,_ => none
 | k + 1,x0,x1,x5,x6 => if x6 < 8 then (if (Int.tmod x0 2) = 1 then (impl_SumMore.l1 k (Go.bits .xor .u32 ((Int.tdiv x0 2) % 4294967296) 3558460437) x1 x5 (wrap64 (x6 + 1))) else (impl_SumMore.l1 k ((Int.tdiv x0 2) % 4294967296) x1 x5 (wrap64 (x6 + 1)))) else (impl_SumMore.l0 k x0 x1 (wrap64 (x5 + 1)))
end
def impl_SumMore.f (k : Nat) (a0 : Int) (a1 : ByteArray) : Option (Int):=impl_SumMore.l0 k a0 a1 0
theorem impl_SumMore.mono_l : ∀ k,(∀ y0 y1 y2,LeO (impl_SumMore.l0 k y0 y1 y2) (impl_SumMore.l0 (k + 1) y0 y1 y2)) ∧ (∀ y0 y1 y2 y3,LeO (impl_SumMore.l1 k y0 y1 y2 y3) (impl_SumMore.l1 (k + 1) y0 y1 y2 y3))
 | 0 => ⟨fun _ _ _ r h => by simp [impl_SumMore.l0] at h,fun _ _ _ _ r h => by simp [impl_SumMore.l1] at h⟩
 | k + 1 => by
  obtain ⟨ih0,ih1⟩:=impl_SumMore.mono_l k
  refine ⟨?_,?_⟩
  intro y0 y1 y2;unfold impl_SumMore.l0;rotate_left
  intro y0 y1 y2 y3;unfold impl_SumMore.l1;rotate_left
  all_goals repeat' first
  | (with_reducible exact ih0 _ _ _)
  | (with_reducible exact ih1 _ _ _ _)
  | (with_reducible exact LeO.refl _)
  | (with_reducible exact LeO.none _)
  | (with_reducible refine LeO.ite ?_ ?_)
  | (with_reducible refine LeO.bind ?_ (fun _ => ?_))
theorem impl_SumMore.mono : ∀ a0 a1 k,LeO (impl_SumMore.f k a0 a1) (impl_SumMore.f (k + 1) a0 a1):=by
 intro a0 a1 k
 obtain ⟨ih0,ih1⟩:=impl_SumMore.mono_l k
 unfold impl_SumMore.f
 repeat' first
  | (with_reducible exact ih0 _ _ _)
  | (with_reducible exact ih1 _ _ _ _)
  | (with_reducible exact LeO.refl _)
  | (with_reducible exact LeO.none _)
  | (with_reducible refine LeO.ite ?_ ?_)
  | (with_reducible refine LeO.bind ?_ (fun _ => ?_))
set_option maxHeartbeats 8000000 in
set_option maxRecDepth 100000 in
theorem impl_SumMore.calls (k : Nat) (a0 : Int) (a1 : ByteArray) (r : Int) (w : World) (h : impl_SumMore.f k a0 a1 = some r) :
  Calls Tryz.prog 102 #[.int .u32 a0,.string a1] w fun e w' => e = .returned (.int .u32 r) ∧ Drawn0 w w':=by
 have H : (impl_SumMore.l0 k a0 a1 0) = some r:=h
 clear h
 have H':=Aside0.mk H
 clear H
 go_enter Tryz.func102,Tryz.ntmps102
 go_wp2
 go_loopg [0,5] k (fun kq v0 v5 w' => ∃ (x0_1 : Int) (x5_1 : Int),v0 = .int .u32 x0_1 ∧ v5 = .int .i64 x5_1 ∧ Aside0 (impl_SumMore.l0 kq x0_1 a1 x5_1 = some r) ∧ Aside0 (kq ≤ k) ∧ Drawn0 w w')
 case atStart => exact ⟨(a0),(0),zE0,zE0,H',⟨Nat.le_refl _⟩,by repeat (first | exact Drawn0.refl _ | apply Drawn0.step)⟩
 case round =>
  clear H'
  obtain ⟨x0_1,x5_1,rfl,rfl,HA,HK1,⟨m1,rfl⟩⟩:=hrel
  cases gk with
  | zero => exact absurd HA.out (by simp [impl_SumMore.l0])
  | succ k1 =>
   have H:=HA.out
   clear HA
   simp only [impl_SumMore.l0] at H
   by_cases c3 : x5_1 < (a1.size : Int)
   ·rw [if_pos c3] at H
    have c3b0 : decide (x5_1 < (a1.size : Int)) = true:=decide_eq_true c3
    clear c3
    by_cases c4 : 0 ≤ x5_1
    ·rw [if_pos c4] at H
     have c4b0 : decide (0 ≤ x5_1) = true:=decide_eq_true c4
     clear c4
     have H':=Aside0.mk H
     clear H
     have p5 : 0 ≤ (x5_1 : Int):=zD0
     have q5 : x5_1 < (a1.size : Int):=zD0
     have hx5:=bt_at a1 x5_1
     replace p5:=eq_true p5
     replace q5:=eq_true q5
     go_wp2
     go_loopg [0,6] k1 (fun kq v0 v6 w' => ∃ (x0_2 : Int) (x6_2 : Int),v0 = .int .u32 x0_2 ∧ v6 = .int .i64 x6_2 ∧ Aside0 (impl_SumMore.l1 kq x0_2 a1 x5_1 x6_2 = some r) ∧ Aside0 (kq ≤ k1) ∧ Drawn0 w w')
     case atStart => exact ⟨(Go.bits .xor .u32 x0_1 ((bt a1 x5_1) % 4294967296)),(0),zE0,zE0,H',⟨Nat.le_refl _⟩,by repeat (first | exact Drawn0.refl _ | apply Drawn0.step)⟩
     case round =>
      clear H'
      try clear c3
      try clear c3b0
      try clear c4
      try clear c4b0
      try clear p5
      try clear q5
      try clear hx5
      try clear p5
      try clear q5
      obtain ⟨x0_2,x6_2,rfl,rfl,HA,HK2,⟨m2,rfl⟩⟩:=hrel
      cases gk with
      | zero => exact absurd HA.out (by simp [impl_SumMore.l1])
      | succ k2 =>
       have H:=HA.out
       clear HA
       simp only [impl_SumMore.l1] at H
       by_cases c6 : x6_2 < 8
       ·rw [if_pos c6] at H
        have c6b0 : decide (x6_2 < 8) = true:=decide_eq_true c6
        clear c6
        by_cases c7 : (Int.tmod x0_2 2) = 1
        ·rw [if_pos c7] at H
         have c7b0 : ((Int.tmod x0_2 2) == 1) = true:=beq_iff_eq.mpr c7
         have c7b1 : ((Int.tmod x0_2 2) != 1) = false:=bne_eq_false_iff_eq.mpr c7
         clear c7
         have H':=Aside0.mk H
         clear H
         go_wp2
         go_roundg k2
         case measure => have:=HK1.out;have:=HK2.out;omega
         case rel => exact ⟨(Go.bits .xor .u32 ((Int.tdiv x0_2 2) % 4294967296) 3558460437),(wrap64 (x6_2 + 1)),zE0,zE0,H',⟨by have:=HK1.out;have:=HK2.out;omega⟩,by repeat (first | exact Drawn0.refl _ | apply Drawn0.step)⟩
        ·rw [if_neg c7] at H
         have c7b0 : ((Int.tmod x0_2 2) == 1) = false:=beq_eq_false_iff_ne.mpr c7
         have c7b1 : ((Int.tmod x0_2 2) != 1) = true:=bne_iff_ne.mpr c7
         have H':=Aside0.mk H
         clear H
         go_wp2
         go_roundg k2
         case measure => have:=HK1.out;have:=HK2.out;omega
         case rel => exact ⟨((Int.tdiv x0_2 2) % 4294967296),(wrap64 (x6_2 + 1)),zE0,zE0,H',⟨by have:=HK1.out;have:=HK2.out;omega⟩,by repeat (first | exact Drawn0.refl _ | apply Drawn0.step)⟩
       ·rw [if_neg c6] at H
        have c6b0 : decide (x6_2 < 8) = false:=decide_eq_false c6
        clear c6
        have H':=Aside0.mk H
        clear H
        go_wp2
        go_roundg k2
        case measure => have:=HK1.out;have:=HK2.out;omega
        case rel => exact ⟨(x0_2),(wrap64 (x5_1 + 1)),zE0,zE0,H',⟨by have:=HK1.out;have:=HK2.out;omega⟩,by repeat (first | exact Drawn0.refl _ | apply Drawn0.step)⟩
    ·rw [if_neg c4] at H
     exact absurd H (by simp)
   ·rw [if_neg c3] at H
    have c3b0 : decide (x5_1 < (a1.size : Int)) = false:=decide_eq_false c3
    clear c3
    obtain rfl:=Option.some.inj H
    go_wp2
    go_ret
    exact ⟨by first | rfl | (simp;done) | (simp [*];done),by repeat (first | exact Drawn0.refl _ | apply Drawn0.step)⟩

/-! ### impl_SumOf: function 89 -/
def impl_SumOf.f (k : Nat) (a0 : ByteArray) : Option (Int):=(impl_SumMore.f k 4294967295 a0).bind fun t347 => (some t347)
theorem impl_SumOf.mono : ∀ a0 k,LeO (impl_SumOf.f k a0) (impl_SumOf.f (k + 1) a0):=by
 intro a0 k
 unfold impl_SumOf.f
 repeat' first
  | (with_reducible exact impl_SumMore.mono _ _ _)
  | (with_reducible exact LeO.refl _)
  | (with_reducible exact LeO.none _)
  | (with_reducible refine LeO.ite ?_ ?_)
  | (with_reducible refine LeO.bind ?_ (fun _ => ?_))
set_option maxHeartbeats 8000000 in
set_option maxRecDepth 100000 in
theorem impl_SumOf.calls (k : Nat) (a0 : ByteArray) (r : Int) (w : World) (h : impl_SumOf.f k a0 = some r) :
  Calls Tryz.prog 89 #[.string a0] w fun e w' => e = .returned (.int .u32 r) ∧ Drawn0 w w':=by
 have H : ((impl_SumMore.f k 4294967295 a0).bind fun t347 => (some t347)) = some r:=h
 clear h
 obtain ⟨t347,A2,H⟩:=bX0 H
 obtain rfl:=Option.some.inj H
 go_enter Tryz.func89,Tryz.ntmps89
 go_wp2_with (first | ((with_reducible refine gate_callee (f:=102) rfl ?_);refine goesL_ (some 4) rfl rfl Tryz.func102 (by kernel_rfl) rfl #[.int .u32 4294967295,.string a0] rfl zM0 ?_;(with_reducible refine (impl_SumMore.calls k 4294967295 a0 t347 _ A2.out).mono ?_);rintro e w' ⟨rfl,⟨nd,rfl⟩⟩;refine ⟨_,rfl,?_⟩))
 go_ret
 exact ⟨by first | rfl | (simp;done) | (simp [*];done),by repeat (first | exact Drawn0.refl _ | apply Drawn0.step)⟩

/-! ### impl_Frame: function 65 -/
def impl_Frame.f (k : Nat) (a0 : ByteArray) : Option (ByteArray × Bool):=(impl_within.f (a0.size : Int) 1 9000).bind fun t348 => (if t348 = true then ((impl_VarText.f k (a0.size : Int)).bind fun bt349 => ((impl_SumOf.f k a0).bind fun t351 => ((some (([(t351 / 16777216) % 256,(t351 / 65536) % 256,(t351 / 256) % 256,(t351) % 256] : List Int) : List Int)).bind fun y352 => (if bt349.1.size + (strOfNums y352).size ≤ 9223372036854775807 then (if (bt349.1 ++ (strOfNums y352)).size + a0.size ≤ 9223372036854775807 then (some ((bt349.1 ++ (strOfNums y352)) ++ a0,true)) else (none)) else (none))))) else (some ((⟨#[]⟩ : ByteArray),false)))
theorem impl_Frame.mono : ∀ a0 k,LeO (impl_Frame.f k a0) (impl_Frame.f (k + 1) a0):=by
 intro a0 k
 unfold impl_Frame.f
 repeat' first
  | (with_reducible exact impl_SumOf.mono _ _)
  | (with_reducible exact impl_VarText.mono _ _)
  | (with_reducible exact LeO.refl _)
  | (with_reducible exact LeO.none _)
  | (with_reducible refine LeO.ite ?_ ?_)
  | (with_reducible refine LeO.bind ?_ (fun _ => ?_))
set_option maxHeartbeats 8000000 in
set_option maxRecDepth 100000 in
theorem impl_Frame.calls (k : Nat) (a0 : ByteArray) (r1 : ByteArray) (r2 : Bool) (w : World) (h : impl_Frame.f k a0 = some (r1,r2)) :
  Calls Tryz.prog 65 #[.string a0] w fun e w' => e = .returned (.tuple #[.string r1,.bool r2]) ∧ Below w.heap.size w w':=by
 have HB:=Aside0.mk (Below.refl w.heap.size w)
 have H : ((impl_within.f (a0.size : Int) 1 9000).bind fun t348 => (if t348 = true then ((impl_VarText.f k (a0.size : Int)).bind fun bt349 => ((impl_SumOf.f k a0).bind fun t351 => ((some (([(t351 / 16777216) % 256,(t351 / 65536) % 256,(t351 / 256) % 256,(t351) % 256] : List Int) : List Int)).bind fun y352 => (if bt349.1.size + (strOfNums y352).size ≤ 9223372036854775807 then (if (bt349.1 ++ (strOfNums y352)).size + a0.size ≤ 9223372036854775807 then (some ((bt349.1 ++ (strOfNums y352)) ++ a0,true)) else (none)) else (none))))) else (some ((⟨#[]⟩ : ByteArray),false)))) = some (r1,r2):=h
 clear h
 obtain ⟨t348,A2,H⟩:=bX0 H
 by_cases c3 : t348 = true
 ·subst c3
  rw [if_pos rfl] at H
  obtain ⟨⟨t349,t350⟩,A4,H⟩:=bX0 H
  dsimp only at H
  obtain ⟨t351,A5,H⟩:=bX0 H
  obtain ⟨y352,hy352⟩ : ∃ y_ : List Int,y_ = (([(t351 / 16777216) % 256,(t351 / 65536) % 256,(t351 / 256) % 256,(t351) % 256] : List Int)):=⟨_,rfl⟩
  replace H : (if t349.size + (strOfNums y352).size ≤ 9223372036854775807 then (if (t349 ++ (strOfNums y352)).size + a0.size ≤ 9223372036854775807 then (some ((t349 ++ (strOfNums y352)) ++ a0,true)) else (none)) else (none)) = some (r1,r2):=by first | (rw [hy352];with_reducible exact H) | (have H2_:=(Option.bind_some _ _).symm.trans H;rw [hy352];with_reducible exact H2_) | (have H2_:=(Option.bind_some _ _).symm.trans H;with_reducible exact H2_) | with_reducible exact H | (rw [hy352];exact H) | exact H
  have Ny352:=Aside0.mk hy352
  clear hy352
  by_cases c6 : t349.size + (strOfNums y352).size ≤ 9223372036854775807
  ·rw [if_pos c6] at H
   have c6b0:=eq_true c6
   have c6b1 : decide (t349.size + (strOfNums y352).size ≤ 9223372036854775807) = true:=decide_eq_true c6
   try have c6b2 : (9223372036854775807 < t349.size + (strOfNums y352).size) = False:=eq_false (Nat.not_lt.2 c6)
   by_cases c7 : (t349 ++ (strOfNums y352)).size + a0.size ≤ 9223372036854775807
   ·rw [if_pos c7] at H
    have c7b0:=eq_true c7
    have c7b1 : decide ((t349 ++ (strOfNums y352)).size + a0.size ≤ 9223372036854775807) = true:=decide_eq_true c7
    try have c7b2 : (9223372036854775807 < (t349 ++ (strOfNums y352)).size + a0.size) = False:=eq_false (Nat.not_lt.2 c7)
    have c7n:=c7
    simp only [ByteArray.size_append] at c7n
    have c7m1:=eq_true c7n
    have c7m2:=decide_eq_true c7n
    have c7m3:=eq_false (Nat.not_lt.2 c7n)
    try have c7q:=c7n
    try simp only [show (⟨#[66]⟩ : ByteArray).size = 1 from rfl,show (⟨#[72]⟩ : ByteArray).size = 1 from rfl] at c7q
    try have c7q1:=eq_true c7q
    try have c7q2:=decide_eq_true c7q
    try have c7q3:=eq_false (Nat.not_lt.2 c7q)
    simp only [Option.some.injEq,Prod.mk.injEq] at H
    obtain ⟨rfl,rfl⟩:=H
    go_enter Tryz.func65,Tryz.ntmps65
    go_wp2_with (first | ((with_reducible refine gate_callee (f:=38) rfl ?_);refine goesL_ (some 9) rfl rfl Tryz.func38 (by kernel_rfl) rfl #[.int .i64 (a0.size : Int),.int .i64 1,.int .i64 9000] rfl zM0 ?_;(with_reducible refine (impl_within.calls (a0.size : Int) 1 9000 true _ A2.out).mono ?_);rintro e w' ⟨rfl,⟨nd,rfl⟩⟩;refine ⟨_,rfl,?_⟩) | ((with_reducible refine gate_callee (f:=88) rfl ?_);refine goesL_ (some 14) rfl rfl Tryz.func88 (by kernel_rfl) rfl #[.int .i64 (a0.size : Int)] rfl zM0 ?_;(with_reducible refine (impl_VarText.calls k (a0.size : Int) t349 t350 _ A4.out).mono ?_);rintro e w8 ⟨rfl,hb⟩;refine ⟨_,rfl,?_⟩;replace HB:=zs0 HB hb;(try clear hb)) | ((with_reducible refine gate_callee (f:=89) rfl ?_);refine goesL_ (some 18) rfl rfl Tryz.func89 (by kernel_rfl) rfl #[.string a0] rfl zM0 ?_;(with_reducible refine (impl_SumOf.calls k a0 t351 _ A5.out).mono ?_);rintro e w' ⟨rfl,⟨nd,rfl⟩⟩;refine ⟨_,rfl,?_⟩) | ((with_reducible refine gate_dst (N:=31) rfl ?_);refine Kd.R_lit (Kd.int .u8) _ 5 ?hg (N:=31) ?hd (xs:=([(t351 / 16777216) % 256,(t351 / 65536) % 256,(t351 / 256) % 256,(t351) % 256] : List Int)) (inner:=[.int .u8 ((t351 / 16777216) % 256),.int .u8 ((t351 / 65536) % 256),.int .u8 ((t351 / 256) % 256),.int .u8 ((t351) % 256)]) (ok:=fun _ => True) (okp:=fun _ => True) ?hr ?hp (fun _ hk => hk) trivial (Below.refl _ _) (Nat.le_refl _) (by simp) ?_;(case hd => rfl);(case hg => rfl);(case hr => first | (go_simp;done) | (go_simp;rfl));(case hp => exact (Reps.one (show Kd.M (Kd.int .u8) _ _ _ ((t351 / 16777216) % 256) [.int .u8 ((t351 / 16777216) % 256)] from rfl) (Reps.one (show Kd.M (Kd.int .u8) _ _ _ ((t351 / 65536) % 256) [.int .u8 ((t351 / 65536) % 256)] from rfl) (Reps.one (show Kd.M (Kd.int .u8) _ _ _ ((t351 / 256) % 256) [.int .u8 ((t351 / 256) % 256)] from rfl) (Reps.one (show Kd.M (Kd.int .u8) _ _ _ ((t351) % 256) [.int .u8 ((t351) % 256)] from rfl) (Reps.none _ _))))));intro v353 w9 ho10 hb hg_ hnew_;clear hg_ hnew_;(first | rw [← Ny352.out] at ho10 | (simp only [Int.reduceToNat] at ho10;rw [← Ny352.out] at ho10));have HO354:=Aside0.mk (Kd.R_lower ho10 (zZ0 HB.out));replace HB:=zs0 HB hb;clear hb ho10;have hcv11:=own_string (P:=Tryz.prog) Tryz.underlying88 Tryz.underlying5 Tryz.underlying9 (Kd.own_of_R HO354.out)))
    go_ret2
    exact ⟨zW0,(zY0 HB.out)⟩
   ·rw [if_neg c7] at H
    exact absurd H (by simp)
  ·rw [if_neg c6] at H
   exact absurd H (by simp)
 ·replace c3:=Bool.eq_false_iff.mpr c3
  subst c3
  rw [if_neg (show ¬ (false = true) by decide)] at H
  simp only [Option.some.injEq,Prod.mk.injEq] at H
  obtain ⟨rfl,rfl⟩:=H
  go_enter Tryz.func65,Tryz.ntmps65
  go_wp2_with (first | ((with_reducible refine gate_callee (f:=38) rfl ?_);refine goesL_ (some 9) rfl rfl Tryz.func38 (by kernel_rfl) rfl #[.int .i64 (a0.size : Int),.int .i64 1,.int .i64 9000] rfl zM0 ?_;(with_reducible refine (impl_within.calls (a0.size : Int) 1 9000 false _ A2.out).mono ?_);rintro e w' ⟨rfl,⟨nd,rfl⟩⟩;refine ⟨_,rfl,?_⟩))
  go_ret2
  exact ⟨zW0,(zY0 HB.out)⟩

/-! ### impl_Unframe: function 41 -/
mutual
def impl_Unframe.l0 : Nat → ByteArray → List ByteArray → Int → Option (List ByteArray × Int)
 | 0,_,_,_ => none
 | k + 1,x0,x4,x5 => (impl_ReadVar.f k x0 x5).bind fun bt355 => (if bt355.2.2 = true then (impl_Unframe.j1 k x0 x4 x5 bt355.1 bt355.2.1 (decide (bt355.1 > (wrap64 ((wrap64 ((x0.size : Int) - bt355.2.1)) - 4))))) else (impl_Unframe.j1 k x0 x4 x5 bt355.1 bt355.2.1 true))
def impl_Unframe.j1 : Nat → ByteArray → List ByteArray → Int → Int → Int → Bool → Option (List ByteArray × Int)
 | 0,_,_,_,_,_,_ => none
 | k + 1,x0,x4,x5,x6,x7,x32 => if x32 = true then (some (x4,x5)) else (if 0 ≤ (wrap64 (x7 + 4)) then (if (wrap64 (x7 + 4)) ≤ (wrap64 ((wrap64 (x7 + 4)) + x6)) then (if (wrap64 ((wrap64 (x7 + 4)) + x6)) ≤ (x0.size : Int) then ((impl_Frame.f k (x0.extract ((wrap64 (x7 + 4)) : Int).toNat ((wrap64 ((wrap64 (x7 + 4)) + x6)) : Int).toNat)).bind fun bt358 => (if bt358.2 = true then (if 0 ≤ x5 then (if x5 ≤ (wrap64 ((wrap64 (x7 + 4)) + x6)) then (if bt358.1.toList = (x0.extract (x5 : Int).toNat ((wrap64 ((wrap64 (x7 + 4)) + x6)) : Int).toNat).toList then (if x4.length < 8796093022208 then (impl_Unframe.l0 k x0 (x4 ++ [x0.extract ((wrap64 (x7 + 4)) : Int).toNat ((wrap64 ((wrap64 (x7 + 4)) + x6)) : Int).toNat]) (wrap64 ((wrap64 (x7 + 4)) + x6))) else (none)) else (some (x4,x5))) else (none)) else (none)) else (some (x4,x5)))) else (none)) else (none)) else (none))
end
def impl_Unframe.f (k : Nat) (a0 : ByteArray) : Option (List ByteArray × Int):=if (a0.size : Int) > 20000 then (some (([] : List ByteArray),0)) else (impl_Unframe.l0 k a0 ([] : List ByteArray) 0)
theorem impl_Unframe.mono_l : ∀ k,(∀ y0 y1 y2,LeO (impl_Unframe.l0 k y0 y1 y2) (impl_Unframe.l0 (k + 1) y0 y1 y2)) ∧ (∀ y0 y1 y2 y3 y4 y5,LeO (impl_Unframe.j1 k y0 y1 y2 y3 y4 y5) (impl_Unframe.j1 (k + 1) y0 y1 y2 y3 y4 y5))
 | 0 => ⟨fun _ _ _ r h => by simp [impl_Unframe.l0] at h,fun _ _ _ _ _ _ r h => by simp [impl_Unframe.j1] at h⟩
 | k + 1 => by
  obtain ⟨ih0,ih1⟩:=impl_Unframe.mono_l k
  refine ⟨?_,?_⟩
  intro y0 y1 y2;unfold impl_Unframe.l0;rotate_left
  intro y0 y1 y2 y3 y4 y5;unfold impl_Unframe.j1;rotate_left
  all_goals repeat' first
  | (with_reducible exact ih0 _ _ _)
  | (with_reducible exact ih1 _ _ _ _ _ _)
  | (with_reducible exact impl_Frame.mono _ _)
  | (with_reducible exact impl_ReadVar.mono _ _ _)
  | (with_reducible exact LeO.refl _)
  | (with_reducible exact LeO.none _)
  | (with_reducible refine LeO.ite ?_ ?_)
  | (with_reducible refine LeO.bind ?_ (fun _ => ?_))
theorem impl_Unframe.mono : ∀ a0 k,LeO (impl_Unframe.f k a0) (impl_Unframe.f (k + 1) a0):=by
 intro a0 k
 obtain ⟨ih0,ih1⟩:=impl_Unframe.mono_l k
 unfold impl_Unframe.f
 repeat' first
  | (with_reducible exact ih0 _ _ _)
  | (with_reducible exact ih1 _ _ _ _ _ _)
  | (with_reducible exact impl_Frame.mono _ _)
  | (with_reducible exact impl_ReadVar.mono _ _ _)
  | (with_reducible exact LeO.refl _)
  | (with_reducible exact LeO.none _)
  | (with_reducible refine LeO.ite ?_ ?_)
  | (with_reducible refine LeO.bind ?_ (fun _ => ?_))
set_option maxHeartbeats 8000000 in
set_option maxRecDepth 100000 in
theorem impl_Unframe.calls (k : Nat) (a0 : ByteArray) (r1 : List ByteArray) (r2 : Int) (w : World) (h : impl_Unframe.f k a0 = some (r1,r2)) :
  Calls Tryz.prog 41 #[.string a0] w fun e w' => ∃ v0_ : Value,e = .returned (.tuple #[v0_,.int .i64 r2]) ∧ Kd.R Kd.string 9 w' w.heap.size (fun _ => True) v0_ r1 ∧ Below w.heap.size w w':=by
 have HB:=Aside0.mk (Below.refl w.heap.size w)
 have H : (if (a0.size : Int) > 20000 then (some (([] : List ByteArray),0)) else (impl_Unframe.l0 k a0 ([] : List ByteArray) 0)) = some (r1,r2):=h
 clear h
 by_cases c2 : (a0.size : Int) > 20000
 ·rw [if_pos c2] at H
  have c2b0 : decide (20000 < (a0.size : Int)) = true:=decide_eq_true c2
  have c2b1 : decide (20000 < a0.size) = true:=decide_eq_true (by omega)
  clear c2
  simp only [Option.some.injEq,Prod.mk.injEq] at H
  obtain ⟨rfl,rfl⟩:=H
  go_enter Tryz.func41,Tryz.ntmps41
  go_wp2
  go_ret2
  exact ⟨_,zW0,by first | exact Kd.R_nil _ _ _ _ _ | exact Kd.N_nil _ _ _ _ _ | exact Kd.V_nil _ _ _ _ _ | exact Kd.Q_nil _ _ _ _ _ | exact Kd.S_nil _ _ _ _ _,(zY0 HB.out)⟩
 ·rw [if_neg c2] at H
  have c2b0 : decide (20000 < (a0.size : Int)) = false:=decide_eq_false c2
  have c2b1 : decide (20000 < a0.size) = false:=decide_eq_false (by omega)
  clear c2
  have H':=Aside0.mk H
  clear H
  go_enter Tryz.func41,Tryz.ntmps41
  go_wp2
  go_loopg [4,5] k (fun kq v4 v5 w' => ∃ (x4_1 : List ByteArray) (x5_1 : Int),v5 = .int .i64 x5_1 ∧ Aside0 (impl_Unframe.l0 kq a0 x4_1 x5_1 = some (r1,r2)) ∧ Aside0 (kq ≤ k) ∧ Aside0 (Kd.R Kd.string 9 w' w.heap.size (fun _ => True) v4 x4_1) ∧ Aside0 (Below w.heap.size w w'))
  case atStart => exact ⟨(([] : List ByteArray)),(0),zE0,H',⟨Nat.le_refl _⟩,⟨by first | exact Kd.R_nil _ _ _ _ _ | exact Kd.N_nil _ _ _ _ _ | exact Kd.V_nil _ _ _ _ _ | exact Kd.Q_nil _ _ _ _ _ | exact Kd.S_nil _ _ _ _ _⟩,⟨zY0 HB.out⟩⟩
  case round =>
   clear H'
   try clear c2
   try clear c2b0
   try clear c2b1
   obtain ⟨x4_1,x5_1,rfl,HA,HK1,HO_4,HB⟩:=hrel
   cases gk with
   | zero => exact absurd HA.out (by simp [impl_Unframe.l0])
   | succ k1 =>
    have H:=HA.out
    clear HA
    simp only [impl_Unframe.l0] at H
    obtain ⟨⟨t355,t356,t357⟩,A3,H⟩:=bX0 H
    dsimp only at H
    have HC4:=Aside0.mk H
    clear H
    go_upto_region 6 with (first | ((with_reducible refine gate_callee (f:=64) rfl ?_);refine goesL_ (some 18) rfl rfl Tryz.func64 (by kernel_rfl) rfl #[.string a0,.int .i64 x5_1] rfl zM0 ?_;(with_reducible refine (impl_ReadVar.calls k1 a0 x5_1 t355 t356 t357 _ A3.out).mono ?_);rintro e w5 ⟨rfl,hb⟩;refine ⟨_,rfl,?_⟩;replace HO_4:=Aside0.mk (Kd.R_below (zR0 HO_4.out) hb);replace HB:=zs0 HB hb;(try clear hb)))
    (try simp only [Act.put,qA0,qB0,qC0])
    go_cut [32] (fun v32 wc => ∃ (kq : Nat) (x32_3 : Bool),v32 = .bool x32_3 ∧ Aside0 (impl_Unframe.j1 kq a0 x4_1 x5_1 t355 t356 x32_3 = some (r1,r2)) ∧ Aside0 (kq ≤ k1) ∧ Aside0 (Kd.R Kd.string 9 wc w.heap.size (fun _ => True) u4 x4_1) ∧ Aside0 (Below w.heap.size w wc))
    case first =>
     have H:=HC4.out
     clear HC4
     by_cases c6 : t357 = true
     ·subst c6
      rw [if_pos rfl] at H
      have H':=Aside0.mk H
      clear H
      go_wp2
      go_meet
      case rel => exact ⟨_,(decide (t355 > (wrap64 ((wrap64 ((a0.size : Int) - t356)) - 4)))),zE0,H',⟨by have:=HK1.out;first | omega | exact Nat.le_refl _⟩,⟨zR0 HO_4.out⟩,⟨zY0 HB.out⟩⟩
     ·replace c6:=Bool.eq_false_iff.mpr c6
      subst c6
      rw [if_neg (show ¬ (false = true) by decide)] at H
      have H':=Aside0.mk H
      clear H
      go_wp2
      go_meet
      case rel => exact ⟨_,(true),zE0,H',⟨by have:=HK1.out;first | omega | exact Nat.le_refl _⟩,⟨zR0 HO_4.out⟩,⟨zY0 HB.out⟩⟩
    case rest =>
     clear HC4
     try clear c2
     try clear c2b0
     try clear c2b1
     obtain ⟨kq,x32_3,rfl,HA,HJ3,HO_4,HB⟩:=hcut
     cases kq with
     | zero => exact absurd HA.out (by simp [impl_Unframe.j1])
     | succ kj3 =>
      have H:=HA.out
      clear HA
      simp only [impl_Unframe.j1] at H
      by_cases c7 : x32_3 = true
      ·subst c7
       rw [if_pos rfl] at H
       simp only [Option.some.injEq,Prod.mk.injEq] at H
       obtain ⟨rfl,rfl⟩:=H
       go_wp2
       go_ret2
       exact ⟨_,zW0,by exact zR0 HO_4.out,(zY0 HB.out)⟩
      ·replace c7:=Bool.eq_false_iff.mpr c7
       subst c7
       rw [if_neg (show ¬ (false = true) by decide)] at H
       obtain ⟨ji8,hji8⟩ : ∃ j_ : Int,(wrap64 (t356 + 4)) = j_:=⟨_,rfl⟩
       replace H : (if 0 ≤ (ji8) then (if (ji8) ≤ (wrap64 ((ji8) + t355)) then (if (wrap64 ((ji8) + t355)) ≤ (a0.size : Int) then ((impl_Frame.f kj3 (a0.extract ((ji8) : Int).toNat ((wrap64 ((ji8) + t355)) : Int).toNat)).bind fun bt358 => (if bt358.2 = true then (if 0 ≤ x5_1 then (if x5_1 ≤ (wrap64 ((ji8) + t355)) then (if bt358.1.toList = (a0.extract (x5_1 : Int).toNat ((wrap64 ((ji8) + t355)) : Int).toNat).toList then (if x4_1.length < 8796093022208 then (impl_Unframe.l0 kj3 a0 (x4_1 ++ [a0.extract ((ji8) : Int).toNat ((wrap64 ((ji8) + t355)) : Int).toNat]) (wrap64 ((ji8) + t355))) else (none)) else (some (x4_1,x5_1))) else (none)) else (none)) else (some (x4_1,x5_1)))) else (none)) else (none)) else (none)) = some (r1,r2):=by first | (rw [hji8] at H;exact H) | (simp only [hji8] at H ⊢;exact H)
       have hji8w : (IntKind.i64.wrap (t356 + 4)) = ji8:=(i64_w _).trans hji8
       by_cases c9 : 0 ≤ (ji8)
       ·rw [if_pos c9] at H
        have c9b0:=eq_true c9
        have c9b1 : decide (0 ≤ (ji8)) = true:=decide_eq_true c9
        clear c9
        by_cases c10 : (ji8) ≤ (wrap64 ((ji8) + t355))
        ·rw [if_pos c10] at H
         have c10b0:=eq_true c10
         have c10b1 : decide ((ji8) ≤ (wrap64 ((ji8) + t355))) = true:=decide_eq_true c10
         by_cases c11 : (wrap64 ((ji8) + t355)) ≤ (a0.size : Int)
         ·rw [if_pos c11] at H
          have c11b0:=eq_true c11
          have c11b1 : decide ((wrap64 ((ji8) + t355)) ≤ (a0.size : Int)) = true:=decide_eq_true c11
          obtain ⟨⟨t358,t359⟩,A12,H⟩:=bX0 H
          dsimp only at H
          by_cases c13 : t359 = true
          ·subst c13
           rw [if_pos rfl] at H
           by_cases c14 : 0 ≤ x5_1
           ·rw [if_pos c14] at H
            have c14b0:=eq_true c14
            have c14b1 : decide (0 ≤ x5_1) = true:=decide_eq_true c14
            clear c14
            by_cases c15 : x5_1 ≤ (wrap64 ((ji8) + t355))
            ·rw [if_pos c15] at H
             have c15b0:=eq_true c15
             have c15b1 : decide (x5_1 ≤ (wrap64 ((ji8) + t355))) = true:=decide_eq_true c15
             have c16b0:=eq_true (zD0 : (wrap64 ((ji8) + t355)) ≤ (a0.size : Int))
             by_cases c17 : t358.toList = (a0.extract (x5_1 : Int).toNat ((wrap64 ((ji8) + t355)) : Int).toNat).toList
             ·rw [if_pos c17] at H
              have c17b0 : (t358.toList == (a0.extract (x5_1 : Int).toNat ((wrap64 ((ji8) + t355)) : Int).toNat).toList) = true:=beq_iff_eq.mpr c17
              have c17b1 : (t358.toList != (a0.extract (x5_1 : Int).toNat ((wrap64 ((ji8) + t355)) : Int).toNat).toList) = false:=bne_eq_false_iff_eq.mpr c17
              clear c17
              by_cases c18 : x4_1.length < 8796093022208
              ·rw [if_pos c18] at H
               have LMc18:=Aside0.mk c18
               clear c18
               obtain ⟨y360,hy360⟩ : ∃ y_ : List ByteArray,y_ = (x4_1 ++ [a0.extract ((ji8) : Int).toNat ((wrap64 ((ji8) + t355)) : Int).toNat]):=⟨_,rfl⟩
               replace H : (impl_Unframe.l0 kj3 a0 y360 (wrap64 ((ji8) + t355))) = some (r1,r2):=by first | (rw [hy360];with_reducible exact H) | (have H2_:=(Option.bind_some _ _).symm.trans H;rw [hy360];with_reducible exact H2_) | (have H2_:=(Option.bind_some _ _).symm.trans H;with_reducible exact H2_) | with_reducible exact H | (rw [hy360];exact H) | exact H
               have Ny360:=Aside0.mk hy360
               clear hy360
               have H':=Aside0.mk H
               clear H
               go_wp2_with (first | ((with_reducible refine gate_callee (f:=65) rfl ?_);refine goesL_ (some 45) rfl rfl Tryz.func65 (by kernel_rfl) rfl #[.string (a0.extract ((ji8) : Int).toNat ((wrap64 ((ji8) + t355)) : Int).toNat)] rfl (by (try simp only [List.map_toArray,List.map_cons,List.map_nil]);first | done | (simp only [hji8];rfl) | rfl | (simp only [List.length_drop,List.length_take];rfl)) ?_;(with_reducible refine (impl_Frame.calls kj3 (a0.extract ((ji8) : Int).toNat ((wrap64 ((ji8) + t355)) : Int).toNat) t358 true _ A12.out).mono ?_);rintro e w19 ⟨rfl,hb⟩;refine ⟨_,rfl,?_⟩;replace HO_4:=Aside0.mk (Kd.R_below (zR0 HO_4.out) hb);replace HB:=zs0 HB hb;(try clear hb)) | ((with_reducible refine gate_builtin (b:=.append) (xs:=#[.tmp 63,.tmp 65]) rfl ?_);(try (refine gate_guard (by rfl) ?_;dsimp only));at_builtin;refine Kd.R_append Kd.string (w0:=w) w.heap.size rfl (.tmp 63) (.tmp 65) 62 9 (.string ⟨#[]⟩) 16 rfl Tryz.underlying62 info9 rfl (by decide) (by omega) u4 x4_1 (a0.extract ((ji8) : Int).toNat ((wrap64 ((ji8) + t355)) : Int).toNat) [.string (a0.extract ((ji8) : Int).toNat ((wrap64 ((ji8) + t355)) : Int).toNat)] (fun _ => True) (fun _ => False) rfl rfl ?aP (fun _ hk => hk.elim) ?aF ?aO ?aB ?aS ?aL ?_;(case aP => exact rfl);(case aB => exact (zY0 HB.out));(case aF => exact (fun _ _ => trivial));(case aO => exact (zR0 HO_4.out));(case aS => exact (zZ0 HB.out));(case aL => have:=LMc18.out;omega);intro v361 w20 ho hb hg hat;rw [← Ny360.out] at ho;replace HB:=Aside0.mk hb;have HO362:=Aside0.mk ho;clear HO_4;clear ho hb hg hat))
               go_roundg kj3
               case measure => have:=HK1.out;have:=HJ3.out;omega
               case rel => exact ⟨(y360),(wrap64 ((ji8) + t355)),(by first | rfl | (simp;done) | (simp only [← hji8] <;> (first | rfl | simp)) | (simp [*];done)),H',⟨by have:=HK1.out;have:=HJ3.out;omega⟩,⟨zR0 HO362.out⟩,⟨zY0 HB.out⟩⟩
              ·rw [if_neg c18] at H
               exact absurd H (by simp)
             ·rw [if_neg c17] at H
              have c17b0 : (t358.toList == (a0.extract (x5_1 : Int).toNat ((wrap64 ((ji8) + t355)) : Int).toNat).toList) = false:=beq_eq_false_iff_ne.mpr c17
              have c17b1 : (t358.toList != (a0.extract (x5_1 : Int).toNat ((wrap64 ((ji8) + t355)) : Int).toNat).toList) = true:=bne_iff_ne.mpr c17
              simp only [Option.some.injEq,Prod.mk.injEq] at H
              obtain ⟨rfl,rfl⟩:=H
              go_wp2_with (first | ((with_reducible refine gate_callee (f:=65) rfl ?_);refine goesL_ (some 45) rfl rfl Tryz.func65 (by kernel_rfl) rfl #[.string (a0.extract ((ji8) : Int).toNat ((wrap64 ((ji8) + t355)) : Int).toNat)] rfl (by (try simp only [List.map_toArray,List.map_cons,List.map_nil]);first | done | (simp only [hji8];rfl) | rfl | (simp only [List.length_drop,List.length_take];rfl)) ?_;(with_reducible refine (impl_Frame.calls kj3 (a0.extract ((ji8) : Int).toNat ((wrap64 ((ji8) + t355)) : Int).toNat) t358 true _ A12.out).mono ?_);rintro e w21 ⟨rfl,hb⟩;refine ⟨_,rfl,?_⟩;replace HO_4:=Aside0.mk (Kd.R_below (zR0 HO_4.out) hb);replace HB:=zs0 HB hb;(try clear hb)))
              go_ret2
              exact ⟨_,by first | rfl | (simp [errW_none,errW_some] <;> rfl) | (simp only [← hji8];first | rfl | (simp [errW_none,errW_some] <;> rfl)) | (simp [*,errW_none,errW_some] <;> rfl),by exact zR0 HO_4.out,(zY0 HB.out)⟩
            ·rw [if_neg c15] at H
             exact absurd H (by simp)
           ·rw [if_neg c14] at H
            exact absurd H (by simp)
          ·replace c13:=Bool.eq_false_iff.mpr c13
           subst c13
           rw [if_neg (show ¬ (false = true) by decide)] at H
           simp only [Option.some.injEq,Prod.mk.injEq] at H
           obtain ⟨rfl,rfl⟩:=H
           go_wp2_with (first | ((with_reducible refine gate_callee (f:=65) rfl ?_);refine goesL_ (some 45) rfl rfl Tryz.func65 (by kernel_rfl) rfl #[.string (a0.extract ((ji8) : Int).toNat ((wrap64 ((ji8) + t355)) : Int).toNat)] rfl (by (try simp only [List.map_toArray,List.map_cons,List.map_nil]);first | done | (simp only [hji8];rfl) | rfl | (simp only [List.length_drop,List.length_take];rfl)) ?_;(with_reducible refine (impl_Frame.calls kj3 (a0.extract ((ji8) : Int).toNat ((wrap64 ((ji8) + t355)) : Int).toNat) t358 false _ A12.out).mono ?_);rintro e w22 ⟨rfl,hb⟩;refine ⟨_,rfl,?_⟩;replace HO_4:=Aside0.mk (Kd.R_below (zR0 HO_4.out) hb);replace HB:=zs0 HB hb;(try clear hb)))
           go_ret2
           exact ⟨_,by first | rfl | (simp [errW_none,errW_some] <;> rfl) | (simp only [← hji8];first | rfl | (simp [errW_none,errW_some] <;> rfl)) | (simp [*,errW_none,errW_some] <;> rfl),by exact zR0 HO_4.out,(zY0 HB.out)⟩
         ·rw [if_neg c11] at H
          exact absurd H (by simp)
        ·rw [if_neg c10] at H
         exact absurd H (by simp)
       ·rw [if_neg c9] at H
        exact absurd H (by simp)

/-- A state of type 78 at block g of W; what its slices lead to came in by w0. -/
def IsS78 (w0 W : World) (g : Nat) (f0 : ByteArray) (f1 : Int) (f2 : Bool) : Prop:=W.heap[g]? = some (.cells #[.string f0,.int .i64 f1,.bool f2] 78 (0,0)) ∧ w0.heap.size ≤ g
theorem IsS78.grown {w0 W : World} {g : Nat} {f0 : ByteArray} {f1 : Int} {f2 : Bool} {W1 : World} {row : Option Nat} (h : IsS78 w0 W g f0 f1 f2) (hw : W.grownBy W1 row) (hne : some g ≠ row) : IsS78 w0 W1 g f0 f1 f2:=by
 obtain ⟨hb,hg⟩:=h
 exact ⟨blk_grown hb hw hne,hg⟩
theorem IsS78.own_neN {w0 W : World} {g : Nat} {f0 : ByteArray} {f1 : Int} {f2 : Bool} {α : Type} {d : Kd α} {e : Nat} {base : Nat} {ok : Nat → Prop} {v : Value} {xs : List α} (h : IsS78 w0 W g f0 f1 f2) (ho : Kd.N d e W base ok v xs) (ht : e ≠ 78) : some g ≠ v.ownBlock:=by
 obtain ⟨hb,hg⟩:=h
 exact Kd.N_ne ho hb ht
theorem IsS78.fresh {w0 W : World} {g : Nat} {f0 : ByteArray} {f1 : Int} {f2 : Bool} (h : IsS78 w0 W g f0 f1 f2) : ∀ k,W.heap.size ≤ k → k ≠ g:=by
 obtain ⟨hb,hg⟩:=h
 exact Kd.freshB hb
theorem IsS78.kept {w0 W : World} {g : Nat} {f0 : ByteArray} {f1 : Int} {f2 : Bool} {W1 : World} {S : Nat → Prop} (h : IsS78 w0 W g f0 f1 f2) (hk : Kept W W1 S) (hne : ¬ S g) : IsS78 w0 W1 g f0 f1 f2:=by
 obtain ⟨hb,hg⟩:=h
 exact ⟨blk_kept hb hk hne,hg⟩
theorem IsS78.below {w0 W : World} {g : Nat} {f0 : ByteArray} {f1 : Int} {f2 : Bool} {W1 : World} (h : IsS78 w0 W g f0 f1 f2) (hw : Below W.heap.size W W1) : IsS78 w0 W1 g f0 f1 f2:=h.grown (grown_of_below hw none) (by simp)
theorem IsS78.alloc {w0 W : World} {g : Nat} {f0 : ByteArray} {f1 : Int} {f2 : Bool} (h : IsS78 w0 W g f0 f1 f2) (o : Obj) : IsS78 w0 (W.alloc o) g f0 f1 f2:=h.below (below_alloc (Below.refl _ _) o)
theorem IsS78.drewN {w0 W : World} {g : Nat} {f0 : ByteArray} {f1 : Int} {f2 : Bool} (h : IsS78 w0 W g f0 f1 f2) (m : Nat) : IsS78 w0 (W.drewN m) g f0 f1 f2:=h
theorem IsS78.drew {w0 W : World} {g : Nat} {f0 : ByteArray} {f1 : Int} {f2 : Bool} (h : IsS78 w0 W g f0 f1 f2) : IsS78 w0 W.drew g f0 f1 f2:=h
theorem IsS78.at_ {w0 W : World} {g : Nat} {f0 : ByteArray} {f1 : Int} {f2 : Bool} {w' : World} {m : Nat} (hq : W.drewN m = w') (h : IsS78 w0 W g f0 f1 f2) : IsS78 w0 w' g f0 f1 f2:=by subst hq;exact IsS78.drewN h m
theorem IsS78.apart {w0 W : World} {g : Nat} {f0 : ByteArray} {f1 : Int} {f2 : Bool} {α : Type} {d : Kd α} {e : Nat} {base : Nat} {ok : Nat → Prop} {v : Value} {xs : List α} (h : IsS78 w0 W g f0 f1 f2) (ho : d.R e W base ok v xs) (ht : ∀ q,q ∈ e :: d.E → q ≠ 78) : d.R e W base (fun k => ok k ∧ k ≠ g) v xs:=by
 obtain ⟨hb,hg⟩:=h
 exact Kd.R_types ho hb ht
theorem IsS78.own_ne {w0 W : World} {g : Nat} {f0 : ByteArray} {f1 : Int} {f2 : Bool} {α : Type} {d : Kd α} {e : Nat} {base : Nat} {ok : Nat → Prop} {v : Value} {xs : List α} (h : IsS78 w0 W g f0 f1 f2) (ho : d.R e W base ok v xs) (ht : e ≠ 78) : some g ≠ v.ownBlock:=by
 obtain ⟨hb,hg⟩:=h
 exact Kd.R_ne ho hb ht
theorem IsS78.apartQ {w0 W : World} {g : Nat} {f0 : ByteArray} {f1 : Int} {f2 : Bool} {α : Type} {d : Kd α} {e : Nat} {base : Nat} {ok : Nat → Prop} {v : Value} {xs : List α} (h : IsS78 w0 W g f0 f1 f2) (ho : d.Q e W base ok v xs) (ht : ∀ q,q ∈ e :: d.E → q ≠ 78) : d.Q e W base (fun k => ok k ∧ k ≠ g) v xs:=by
 obtain ⟨hb,hg⟩:=h
 exact Kd.Q_types ho hb ht
theorem IsS78.own_neQ {w0 W : World} {g : Nat} {f0 : ByteArray} {f1 : Int} {f2 : Bool} {α : Type} {d : Kd α} {e : Nat} {base : Nat} {ok : Nat → Prop} {v : Value} {xs : List α} (h : IsS78 w0 W g f0 f1 f2) (ho : d.Q e W base ok v xs) (ht : e ≠ 78) : some g ≠ v.ownBlock:=by
 obtain ⟨hb,hg⟩:=h
 exact Kd.Q_ne ho hb ht
theorem IsS78.apartS {w0 W : World} {g : Nat} {f0 : ByteArray} {f1 : Int} {f2 : Bool} {α : Type} {d : Kd α} {e : Nat} {base : Nat} {ok : Nat → Prop} {v : Value} {xs : List α} (h : IsS78 w0 W g f0 f1 f2) (ho : d.S e W base ok v xs) (ht : ∀ q,q ∈ e :: d.E → q ≠ 78) : d.S e W base (fun k => ok k ∧ k ≠ g) v xs:=by
 obtain ⟨hb,hg⟩:=h
 exact Kd.S_types ho hb ht
theorem IsS78.own_neS {w0 W : World} {g : Nat} {f0 : ByteArray} {f1 : Int} {f2 : Bool} {α : Type} {d : Kd α} {e : Nat} {base : Nat} {ok : Nat → Prop} {v : Value} {xs : List α} (h : IsS78 w0 W g f0 f1 f2) (ho : d.S e W base ok v xs) (ht : e ≠ 78) : some g ≠ v.ownBlock:=by
 obtain ⟨hb,hg⟩:=h
 exact Kd.S_ne ho hb ht
theorem IsS78.lt {w0 W : World} {g : Nat} {f0 : ByteArray} {f1 : Int} {f2 : Bool} (h : IsS78 w0 W g f0 f1 f2) : g < W.heap.size:=by
 obtain ⟨hb,hg⟩:=h
 exact blk_lt hb
theorem IsS78.ge {w0 W : World} {g : Nat} {f0 : ByteArray} {f1 : Int} {f2 : Bool} (h : IsS78 w0 W g f0 f1 f2) : w0.heap.size ≤ g:=by
 obtain ⟨hb,hg⟩:=h
 exact hg
theorem IsS78.ne_blk {w0 W : World} {g : Nat} {f0 : ByteArray} {f1 : Int} {f2 : Bool} {a : Nat} {cs : Array Value} {t : TypeId} {fr : Nat × Nat} (h : IsS78 w0 W g f0 f1 f2) (hb2 : W.heap[a]? = some (.cells cs t fr)) (ht : t ≠ 78) : g ≠ a:=by
 obtain ⟨hb,hg⟩:=h
 rintro rfl
 rw [hb] at hb2
 injection hb2 with hb2
 injection hb2 with _ ht2
 exact ht ht2.symm
theorem IsS78.far {w0 W : World} {g : Nat} {f0 : ByteArray} {f1 : Int} {f2 : Bool} {p : Addr} (h : IsS78 w0 W g f0 f1 f2) (hne : g ≠ p.block) (u : Value) : IsS78 w0 (W.setCell p u) g f0 f1 f2:=by
 obtain ⟨hb,hg⟩:=h
 exact ⟨blk_far hb hne u,hg⟩
theorem cellS78_0 {W : World} {g : Nat} {f0 : ByteArray} {f1 : Int} {f2 : Bool} (h : W.heap[g]? = some (.cells #[.string f0,.int .i64 f1,.bool f2] 78 (0,0))) : W.cell? ⟨g,0,none⟩ = some (.string f0):=(blk_cell h 0).trans rfl
theorem IsS78.set_0 {w0 W : World} {g : Nat} {f0 : ByteArray} {f1 : Int} {f2 : Bool} (h : IsS78 w0 W g f0 f1 f2) (x : ByteArray) : IsS78 w0 (W.setCell ⟨g,0,none⟩ (.string x)) g x f1 f2:=by
 obtain ⟨hb,hg⟩:=h
 exact ⟨by simpa using blk_set hb 0 (.string x),hg⟩
theorem cellS78_1 {W : World} {g : Nat} {f0 : ByteArray} {f1 : Int} {f2 : Bool} (h : W.heap[g]? = some (.cells #[.string f0,.int .i64 f1,.bool f2] 78 (0,0))) : W.cell? ⟨g,1,none⟩ = some (.int .i64 f1):=(blk_cell h 1).trans rfl
theorem IsS78.set_1 {w0 W : World} {g : Nat} {f0 : ByteArray} {f1 : Int} {f2 : Bool} (h : IsS78 w0 W g f0 f1 f2) (x : Int) : IsS78 w0 (W.setCell ⟨g,1,none⟩ (.int .i64 x)) g f0 x f2:=by
 obtain ⟨hb,hg⟩:=h
 exact ⟨by simpa using blk_set hb 1 (.int .i64 x),hg⟩
theorem cellS78_2 {W : World} {g : Nat} {f0 : ByteArray} {f1 : Int} {f2 : Bool} (h : W.heap[g]? = some (.cells #[.string f0,.int .i64 f1,.bool f2] 78 (0,0))) : W.cell? ⟨g,2,none⟩ = some (.bool f2):=(blk_cell h 2).trans rfl
theorem IsS78.set_2 {w0 W : World} {g : Nat} {f0 : ByteArray} {f1 : Int} {f2 : Bool} (h : IsS78 w0 W g f0 f1 f2) (x : Bool) : IsS78 w0 (W.setCell ⟨g,2,none⟩ (.bool x)) g f0 f1 x:=by
 obtain ⟨hb,hg⟩:=h
 exact ⟨by simpa using blk_set hb 2 (.bool x),hg⟩
theorem IsS78.new (w0 W : World) (f0 : ByteArray) (f1 : Int) (f2 : Bool) (hB : Below w0.heap.size w0 W) : IsS78 w0 (W.alloc (.cells #[.string f0,.int .i64 f1,.bool f2] 78)) W.heap.size f0 f1 f2:=⟨by simpa using heap_alloc_new W _,hB.size⟩
theorem zi078 {w0 W W1 : World} {g : Nat} {f0 f0b : ByteArray} {f1 f1b : Int} {f2 f2b : Bool} (h : Aside0 (IsS78 w0 W g f0 f1 f2)) (f : IsS78 w0 W g f0 f1 f2 → IsS78 w0 W1 g f0b f1b f2b := by intro h_; repeat (first | (with_reducible first | exact h_ | apply IsS78.alloc | apply IsS78.drewN | apply IsS78.drew | apply IsS78.set_0 | apply IsS78.set_1 | apply IsS78.set_2 | refine IsS78.far ?_ (Aside0.out (by clear h_; assumption)) _) | exact h_)) : IsS78 w0 W1 g f0b f1b f2b := f h.out
theorem zj078 {B : Nat} {w W W1 : World} {r : Prop} (h : Aside0 (Below B w W)) (h2 : Aside0 r) (f : r → Below B w W → Below B w W1 := by intro k_ h_; repeat (first | (with_reducible first | exact h_ | apply below_alloc | apply pw_below_drewN | apply below_drew1 | refine below_set ?_ (IsS78.ge k_) | refine below_set ?_ (Aside0.out (by clear h_ k_; assumption))) | exact h_)) : Below B w W1 := f h2.out h.out

/-! ### impl_reader_byte: function 42 -/
def impl_reader_byte.f (s0_0 : ByteArray) (s0_1 : Int) (s0_2 : Bool) : Option (Int × ByteArray × Int × Bool):=if s0_2 = true then (some (0,s0_0,s0_1,true)) else (if s0_1 ≥ (s0_0.size : Int) then (some (0,s0_0,s0_1,true)) else (if 0 ≤ (wrap64 ((wrap64 (s0_1 + 1)) - 1)) then (if (wrap64 ((wrap64 (s0_1 + 1)) - 1)) < (s0_0.size : Int) then (some (wrap64 (bt s0_0 (wrap64 ((wrap64 (s0_1 + 1)) - 1))),s0_0,wrap64 (s0_1 + 1),s0_2)) else (none)) else (none)))
set_option maxHeartbeats 8000000 in
set_option maxRecDepth 100000 in
theorem impl_reader_byte.calls (g : Nat) (s0_0 : ByteArray) (s0_1 : Int) (s0_2 : Bool) (r1 : Int) (r2 : ByteArray) (r3 : Int) (r4 : Bool) (w0 w : World) (hI : IsS78 w0 w g s0_0 s0_1 s0_2) (hB : Below w0.heap.size w0 w) (h : impl_reader_byte.f s0_0 s0_1 s0_2 = some (r1,r2,r3,r4)) :
  Calls Tryz.prog 42 #[.pointer (some ⟨g,0,none⟩)] w fun e w' => e = .returned (.int .i64 r1) ∧ IsS78 w0 w' g r2 r3 r4 ∧ Below w0.heap.size w0 w' ∧ KeepBut w w' g none:=by
 have HI0:=Aside0.mk hI
 have HK:=Aside0.mk (KeepBut.refl w g none)
 have HL:=Aside0.mk hB.size
 clear hI
 have HW0:=Aside0.mk hB.size
 have HB:=Aside0.mk hB
 clear hB
 have H : (if s0_2 = true then (some (0,s0_0,s0_1,true)) else (if s0_1 ≥ (s0_0.size : Int) then (some (0,s0_0,s0_1,true)) else (if 0 ≤ (wrap64 ((wrap64 (s0_1 + 1)) - 1)) then (if (wrap64 ((wrap64 (s0_1 + 1)) - 1)) < (s0_0.size : Int) then (some (wrap64 (bt s0_0 (wrap64 ((wrap64 (s0_1 + 1)) - 1))),s0_0,wrap64 (s0_1 + 1),s0_2)) else (none)) else (none)))) = some (r1,r2,r3,r4):=h
 clear h
 by_cases c2 : s0_2 = true
 ·subst c2
  rw [if_pos rfl] at H
  simp only [Option.some.injEq,Prod.mk.injEq] at H
  obtain ⟨rfl,rfl,rfl,rfl⟩:=H
  obtain ⟨HGz3,hgz3⟩:=HI0.out
  have hcz3_0:=cellS78_0 HGz3
  have hcz3_1:=cellS78_1 HGz3
  have hcz3_2:=cellS78_2 HGz3
  have hfz3_0:=blk_frozen HGz3 0
  have hfz3_1:=blk_frozen HGz3 1
  have hfz3_2:=blk_frozen HGz3 2
  clear HGz3 hgz3
  go_enter Tryz.func42,Tryz.ntmps42
  go_wp2
  repeat (go_quiet (fail);try go_wp2)
  go_ret
  exact ⟨zW0,zi078 HI0,zj078 HB HI0,zk0 HK⟩
 ·replace c2:=Bool.eq_false_iff.mpr c2
  subst c2
  rw [if_neg (show ¬ (false = true) by decide)] at H
  by_cases c4 : s0_1 ≥ (s0_0.size : Int)
  ·rw [if_pos c4] at H
   have c4b0 : decide ((s0_0.size : Int) ≤ s0_1) = true:=decide_eq_true c4
   clear c4
   simp only [Option.some.injEq,Prod.mk.injEq] at H
   obtain ⟨rfl,rfl,rfl,rfl⟩:=H
   obtain ⟨HGz5,hgz5⟩:=HI0.out
   have hcz5_0:=cellS78_0 HGz5
   have hcz5_1:=cellS78_1 HGz5
   have hcz5_2:=cellS78_2 HGz5
   have hfz5_0:=blk_frozen HGz5 0
   have hfz5_1:=blk_frozen HGz5 1
   have hfz5_2:=blk_frozen HGz5 2
   clear HGz5 hgz5
   go_enter Tryz.func42,Tryz.ntmps42
   go_wp2
   repeat (go_quiet (fail);try go_wp2)
   go_ret
   exact ⟨zW0,zi078 HI0,zj078 HB HI0,zk0 HK⟩
  ·rw [if_neg c4] at H
   have c4b0 : decide ((s0_0.size : Int) ≤ s0_1) = false:=decide_eq_false c4
   clear c4
   obtain ⟨ji6,hji6⟩ : ∃ j_ : Int,(wrap64 ((wrap64 (s0_1 + 1)) - 1)) = j_:=⟨_,rfl⟩
   replace H : (if 0 ≤ (ji6) then (if (ji6) < (s0_0.size : Int) then (some (wrap64 (bt s0_0 (ji6)),s0_0,wrap64 (s0_1 + 1),false)) else (none)) else (none)) = some (r1,r2,r3,r4):=by first | (rw [hji6] at H;exact H) | (simp only [hji6] at H ⊢;exact H)
   have hji6w : (IntKind.i64.wrap ((wrap64 (s0_1 + 1)) - 1)) = ji6:=(i64_w _).trans hji6
   by_cases c7 : 0 ≤ (ji6)
   ·rw [if_pos c7] at H
    have c7b0 : decide (0 ≤ (ji6)) = true:=decide_eq_true c7
    clear c7
    by_cases c8 : (ji6) < (s0_0.size : Int)
    ·rw [if_pos c8] at H
     have c8b0 : decide ((ji6) < (s0_0.size : Int)) = true:=decide_eq_true c8
     clear c8
     simp only [Option.some.injEq,Prod.mk.injEq] at H
     obtain ⟨rfl,rfl,rfl,rfl⟩:=H
     obtain ⟨HGz10,hgz10⟩:=HI0.out
     have hcz10_0:=cellS78_0 HGz10
     have hcz10_1:=cellS78_1 HGz10
     have hcz10_2:=cellS78_2 HGz10
     have hfz10_0:=blk_frozen HGz10 0
     have hfz10_1:=blk_frozen HGz10 1
     have hfz10_2:=blk_frozen HGz10 2
     clear HGz10 hgz10
     have p9 : 0 ≤ ((ji6) : Int):=zD0
     have q9 : (ji6) < (s0_0.size : Int):=zD0
     have hx9:=bt_at s0_0 (ji6)
     replace p9:=eq_true p9
     replace q9:=eq_true q9
     go_enter Tryz.func42,Tryz.ntmps42
     go_wp2
     repeat (go_quiet (fail);try go_wp2)
     go_ret
     exact ⟨by first | rfl | (simp [errW_none,errW_some] <;> rfl) | (simp only [← hji6];first | rfl | (simp [errW_none,errW_some] <;> rfl)) | (simp [*,errW_none,errW_some] <;> rfl),zi078 HI0,zj078 HB HI0,zk0 HK⟩
    ·rw [if_neg c8] at H
     exact absurd H (by simp)
   ·rw [if_neg c7] at H
    exact absurd H (by simp)

/-! ### impl_reader_num: function 43 (a text of its own) -/
def impl_reader_num.f (k : Nat) (s0_0 : ByteArray) (s0_1 : Int) (s0_2 : Bool) : Option (Int × ByteArray × Int × Bool):=(impl_ReadVar.f k s0_0 s0_1).bind fun bt => (if s0_2 = true then (some (0,s0_0,s0_1,true)) else (if bt.2.2 = true then (some (bt.1,s0_0,bt.2.1,false)) else (some (0,s0_0,s0_1,true))))
theorem impl_reader_num.mono : ∀ a0 a1 a2 k,LeO (impl_reader_num.f k a0 a1 a2) (impl_reader_num.f (k + 1) a0 a1 a2):=by
 intro a0 a1 a2 k
 unfold impl_reader_num.f
 exact LeO.bind (impl_ReadVar.mono _ _ _) (fun _ => LeO.refl _)
set_option maxHeartbeats 8000000 in
set_option maxRecDepth 100000 in
theorem impl_reader_num.calls (k : Nat) (g : Nat) (s0_0 : ByteArray) (s0_1 : Int) (s0_2 : Bool) (r1 : Int) (r2 : ByteArray) (r3 : Int) (r4 : Bool) (w0 w : World) (hI : IsS78 w0 w g s0_0 s0_1 s0_2) (hB : Below w0.heap.size w0 w) (h : impl_reader_num.f k s0_0 s0_1 s0_2 = some (r1,r2,r3,r4)) :
  Calls Tryz.prog 43 #[.pointer (some ⟨g,0,none⟩)] w fun e w' => e = .returned (.int .i64 r1) ∧ IsS78 w0 w' g r2 r3 r4 ∧ Below w0.heap.size w0 w' ∧ KeepBut w w' g none:=by
 obtain ⟨⟨t1,t2,t3⟩,A,H⟩:=Option.bind_eq_some_iff.mp h
 clear h
 have hc:=impl_ReadVar.calls k s0_0 s0_1 t1 t2 t3 w.drew A
 have c0:=cellS78_0 hI.1
 have c1:=cellS78_1 hI.1
 have hlt : g < w.heap.size:=hI.lt
 have HI:=Aside0.mk hI
 have HB:=Aside0.mk hB
 clear hI hB A
 dsimp only at H
 go_enter Tryz.func43,Tryz.ntmps43
 go_wp2_with fail
 go_region_held3 (fun w' => w'.cell? ⟨g,0,none⟩ = some (.string s0_0) ∧ w'.cell? ⟨g,1,none⟩ = some (.int .i64 s0_1))
  (first
   | go_keep
   | exact ⟨(hb1.cell (p:=⟨g,0,none⟩) hlt).trans c0,(hb1.cell (p:=⟨g,1,none⟩) hlt).trans c1⟩)
  (first | (go_simp;go_at_call 64;refine hc.mono ?_;rintro e w1 ⟨rfl,hb1⟩))
 have hI1 : IsS78 w0 w1 g s0_0 s0_1 s0_2:=IsS78.below (W:=w.drew) (IsS78.drew HI.out) hb1
 have hB1 : Below w0.heap.size w0 w1:=below_step (below_drew1 HB.out) hb1
 have hK1 : KeepBut w w1 g none:=KeepBut.trans (keep_drew (KeepBut.refl w g none)) (KeepBut.of_below hb1 g none) (.inl rfl)
 clear c0 c1 hc
 have d1:=cellS78_1 hI1.1
 have d2:=cellS78_2 hI1.1
 have f1:=blk_frozen hI1.1 1
 have f2:=blk_frozen hI1.1 2
 have HI1:=Aside0.mk hI1
 have HB1:=Aside0.mk hB1
 have HK1:=Aside0.mk hK1
 clear HI HB hI1 hB1 hK1 hb1
 cases s0_2 with
 | true =>
  rw [if_pos rfl] at H
  obtain ⟨rfl,rfl,rfl,rfl⟩ : 0 = r1 ∧ s0_0 = r2 ∧ s0_1 = r3 ∧ true = r4:=by simpa using H
  go_wp2
  go_ret
  exact ⟨rfl,IsS78.set_2 HI1.out _,below_set HB1.out (IsS78.ge HI1.out),KeepBut.set_ HK1.out _ _⟩
 | false =>
  rw [if_neg (by decide)] at H
  cases t3 with
  | true =>
   rw [if_pos rfl] at H
   obtain ⟨rfl,rfl,rfl,rfl⟩ : t1 = r1 ∧ s0_0 = r2 ∧ t2 = r3 ∧ false = r4:=by simpa using H
   go_wp2
   go_ret
   exact ⟨rfl,IsS78.set_1 HI1.out _,below_set HB1.out (IsS78.ge HI1.out),KeepBut.set_ HK1.out _ _⟩
  | false =>
   rw [if_neg (by decide)] at H
   obtain ⟨rfl,rfl,rfl,rfl⟩ : 0 = r1 ∧ s0_0 = r2 ∧ s0_1 = r3 ∧ true = r4:=by simpa using H
   go_wp2
   go_ret
   exact ⟨rfl,IsS78.set_2 HI1.out _,below_set HB1.out (IsS78.ge HI1.out),KeepBut.set_ HK1.out _ _⟩

end Go.Proofs.YtlekhcopddajbaaGreatDoor.PFnExactSegments
