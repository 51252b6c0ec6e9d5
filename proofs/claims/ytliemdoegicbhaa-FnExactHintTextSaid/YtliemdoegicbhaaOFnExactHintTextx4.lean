/- Walks of functions that the law FnExactHintText reaches, turned by this session from a print of which a part did not build; what was changed is listed in wip/patches of the proofs' repo. -/
import Derived.Test.YtliemdoegicbhaaConv
import Derived.Test.YtliemdoegicbhaaOFnExactHintTextx0
import Derived.Test.YtliemdoegicbhaaOFnExactHintTextx2
import Derived.Test.YtliemdoegicbhaaOFnExactHintTextx3
namespace Go.Proofs.Ytliemdoegicbhaa.PFnExactHintText
open Go.RowKit Go.Proofs.YtliemdoegicbhaaW.PrintWords Go.Proofs.YtliemdoegicbhaaW.PrintLast Go.Proofs.YtliemdoegicbhaaW.PrintMore
attribute [local go_sem] max2_int min2_int max_two min_two max_three min_three max_four min_four   -- for this text's walks alone
set_option linter.unusedVariables false
set_option linter.unusedSimpArgs false

theorem q14 {α : Type} (l : List α) (i : Nat) (a : α) : l.toArray.setIfInBounds i a = (l.set i a).toArray := by simp
theorem q24 {α : Type} (x y : α) (l : List α) : (x :: l).set 0 y = y :: l := List.set_cons_zero ..
theorem q34 {α : Type} (x y : α) (l : List α) (n : Nat) : (x :: l).set (n + 1) y = x :: l.set n y := List.set_cons_succ ..

abbrev Y4:Bool:=true
abbrev Z4:Bool:=false
/-! ### spec_HintText: function 40 -/
def spec_HintText.l0 : Nat → List (S74) → List Int → Int → Option (ByteArray × Bool)
 | 0,_,_,_ => none
 | k + 1,x0,x4,x5 => if x5 < (x0.length : Int) then (if 0 ≤ x5 then ((spec_l05Short.f k ((rd_T74 x0 x5).f0)).bind fun t156 => ((spec_l01Var.f k ((rd_T74 x0 x5).f1)).bind fun t157 => (if t156.size + t157.size ≤ 9223372036854775807 then ((spec_l01Var.f k ((rd_T74 x0 x5).f2)).bind fun t158 => (if (t156 ++ t157).size + t158.size ≤ 9223372036854775807 then ((spec_l01Var.f k ((rd_T74 x0 x5).f3)).bind fun t159 => (if ((t156 ++ t157) ++ t158).size + t159.size ≤ 9223372036854775807 then (if (((t156 ++ t157) ++ t158) ++ t159).size < 140737488355328 then ((some (bytesOf (((t156 ++ t157) ++ t158) ++ t159) : List Int)).bind fun y160 => (if x4.length + y160.length < 140737488355328 then (spec_HintText.l0 k x0 (x4 ++ y160) (wrap64 (x5 + 1))) else (none))) else (none)) else (none))) else (none))) else (none)))) else (none)) else ((spec_Sealed.f k (strOfNums x4)).bind fun bt152 => (some (bt152.1,bt152.2)))
def spec_HintText.f (k : Nat) (l0 : List (S74)) : Option (ByteArray × Bool):=(spec_DirOk.f k l0).bind fun t147 => (if t147 = true then ((spec_l01Var.f k (l0.length : Int)).bind fun t148 => (if t148.size < 140737488355328 then (spec_HintText.l0 k l0 (bytesOf t148) 0) else (none))) else (some ((⟨#[]⟩ : ByteArray),false)))
theorem spec_HintText.mono_l : ∀ k,(∀ y0 y1 y2,LeO (spec_HintText.l0 k y0 y1 y2) (spec_HintText.l0 (k + 1) y0 y1 y2))
 | 0 => fun _ _ _ r h => by simp [spec_HintText.l0] at h
 | k + 1 => by
  have ih0:=spec_HintText.mono_l k
  ·intro y0 y1 y2
   unfold spec_HintText.l0
   repeat' first
   | (with_reducible exact ih0 _ _ _)
   | (with_reducible exact spec_DirOk.mono _ _)
   | (with_reducible exact spec_Sealed.mono _ _)
   | (with_reducible exact spec_l01Var.mono _ _)
   | (with_reducible exact spec_l05Short.mono _ _)
   | (with_reducible exact LeO.refl _)
   | (with_reducible exact LeO.none _)
   | (with_reducible refine LeO.ite ?_ ?_)
   | (with_reducible refine LeO.bind ?_ (fun _ => ?_))
   | exact ih0 _ _ _
   | exact spec_DirOk.mono _ _
   | exact spec_Sealed.mono _ _
   | exact spec_l01Var.mono _ _
   | exact spec_l05Short.mono _ _
   | exact LeO.none _
   | refine LeO.ite ?_ ?_
   | refine LeO.bind ?_ (fun _ => ?_)
theorem spec_HintText.mono : ∀ a0 k,LeO (spec_HintText.f k a0) (spec_HintText.f (k + 1) a0):=by
 intro a0 k
 have ih0:=spec_HintText.mono_l k
 unfold spec_HintText.f
 repeat' first
   | (with_reducible exact ih0 _ _ _)
   | (with_reducible exact spec_DirOk.mono _ _)
   | (with_reducible exact spec_Sealed.mono _ _)
   | (with_reducible exact spec_l01Var.mono _ _)
   | (with_reducible exact spec_l05Short.mono _ _)
   | (with_reducible exact LeO.refl _)
   | (with_reducible exact LeO.none _)
   | (with_reducible refine LeO.ite ?_ ?_)
   | (with_reducible refine LeO.bind ?_ (fun _ => ?_))
   | exact ih0 _ _ _
   | exact spec_DirOk.mono _ _
   | exact spec_Sealed.mono _ _
   | exact spec_l01Var.mono _ _
   | exact spec_l05Short.mono _ _
   | exact LeO.none _
   | refine LeO.ite ?_ ?_
   | refine LeO.bind ?_ (fun _ => ?_)
def spec_HintText.T8 : Bool × List (List Nat × List Nat):=(true,[([],[]),([],[]),([1],[1]),([2],[2]),([],[]),([4],[4]),([5,3],[5]),([3,6],[3,6]),([],[]),([8],[8]),([9,6],[9]),([7,10],[7,10]),([],[]),([12],[12]),([13,10],[13]),([11,14],[11,14]),([15],[15]),([0,16,14],[0,16]),([17,17,0,1,2,3,4,5,6,7,8,9,10,11,12,13,14,15,16,17],[0,17])])
def spec_HintText.B8 : List Nat:=[0,0,2,6,0,16,62,126,0,256,894,2046,0,4096,14206,32766,65534,131071,262143]
theorem spec_HintText.tab8 : rtab .any (opsOf Try.f40 8) = spec_HintText.T8:=by kernel_rfl
theorem spec_HintText.bits8 : waitsOk spec_HintText.T8.2 spec_HintText.B8 = true:=by kernel_rfl
set_option maxHeartbeats 8000000 in
set_option maxRecDepth 100000 in
theorem spec_HintText.calls (k : Nat) (A0 : Option Addr) (c0 : Nat) (l0 : List (S74)) (r1 : ByteArray) (r2 : Bool) (w : World) (hr0 : Kd.C k74 w A0 l0.length l0) (hc0 : l0.length ≤ c0) (h : spec_HintText.f k l0 = some (r1,r2)) :
  Calls Try.prog 40 #[.slice A0 l0.length c0] w fun e w' => e = .returned (.tuple #[.string r1,.bool r2]) ∧ Below w.heap.size w w':=by
 have hu74:=Try.underlying74
 have HR0:=Aside0.mk hr0
 have HC0:=Aside0.mk hc0
 clear hr0 hc0
 have HB:=Aside0.mk (Below.refl w.heap.size w)
 have H : ((spec_DirOk.f k l0).bind fun t147 => (if t147 = true then ((spec_l01Var.f k (l0.length : Int)).bind fun t148 => (if t148.size < 140737488355328 then (spec_HintText.l0 k l0 (bytesOf t148) 0) else (none))) else (some ((⟨#[]⟩ : ByteArray),false)))) = some (r1,r2):=h
 clear h
 replace H:=Option.bind_eq_some_iff.mp H
 obtain ⟨t147,A20,H⟩:=H
 replace H : (if t147 = true then ((spec_l01Var.f k (l0.length : Int)).bind fun t148 => (if t148.size < 140737488355328 then (spec_HintText.l0 k l0 (bytesOf t148) 0) else (none))) else (some ((⟨#[]⟩ : ByteArray),false))) = some (r1,r2):=H
 have A2:=Aside0.mk A20
 clear A20
 by_cases c3 : t147 = true
 ·subst c3
  have H1 : ((spec_l01Var.f k (l0.length : Int)).bind fun t148 => (if t148.size < 140737488355328 then (spec_HintText.l0 k l0 (bytesOf t148) 0) else (none))) = some (r1,r2):=by rw [if_pos rfl] at H;exact H
  clear H
  have H:=H1
  clear H1
  replace H:=Option.bind_eq_some_iff.mp H
  obtain ⟨t148,A40,H⟩:=H
  replace H : (if t148.size < 140737488355328 then (spec_HintText.l0 k l0 (bytesOf t148) 0) else (none)) = some (r1,r2):=H
  have A4:=Aside0.mk A40
  clear A40
  by_cases c5 : t148.size < 140737488355328
  ·rw [if_pos c5] at H
   have c5b0:=eq_true c5
   have c5b1 : decide (t148.size < 140737488355328) = true:=decide_eq_true c5
   clear c5
   obtain ⟨y149,hy149⟩ : ∃ y_ : List Int,y_ = (bytesOf t148):=⟨_,rfl⟩
   replace H : (spec_HintText.l0 k l0 y149 0) = some (r1,r2):=by first | (rw [hy149];with_reducible exact H) | (have H2_:=(Option.bind_some _ _).symm.trans H;rw [hy149];with_reducible exact H2_) | (have H2_:=(Option.bind_some _ _).symm.trans H;with_reducible exact H2_) | with_reducible exact H | (rw [hy149];exact H) | exact H
   have Ny149:=Aside0.mk hy149
   clear hy149
   have H':=Aside0.mk H
   clear H
   go_enter Try.func40,Try.ntmps40
   go_wp2_with (first | ((with_reducible refine gate_callee (f:=12) rfl ?_);refine goesL_ (some 8) rfl rfl Try.func12 (by kernel_rfl) rfl #[.slice A0 l0.length c0] rfl (by (try simp only [List.map_toArray,List.map_cons,List.map_nil]);first | done | rfl | (simp only [List.length_drop,List.length_take];rfl)) ?_;(with_reducible refine (spec_DirOk.calls k _ _ l0 true _ ?side1 ?side2 A2.out).mono ?_);(case side1 => repeat (first | exact HR0.out | (with_reducible refine Kd.C_alloc ?_ _) | (with_reducible refine Kd.C_drewN ?_ _) | (with_reducible refine Kd.C_drew ?_)));(case side2 => exact HC0.out);rintro e w6 ⟨rfl,hb⟩;refine ⟨_,rfl,?_⟩;have n0_:=Aside0.mk (below_step (by repeat (first | (with_reducible first | exact HB.out | apply below_alloc | apply pw_below_drewN | apply below_drew1) | exact HB.out)) hb);clear HB;have HB:=n0_;clear n0_;(try clear hb);(try clear hb2);(try clear hk);(try clear hi)) | ((with_reducible refine gate_callee (f:=59) rfl ?_);refine goesL_ (some 12) rfl rfl Try.func59 (by kernel_rfl) rfl #[.int .i64 (l0.length : Int)] rfl (by (try simp only [List.map_toArray,List.map_cons,List.map_nil]);first | done | rfl | (simp only [List.length_drop,List.length_take];rfl)) ?_;(with_reducible refine (spec_l01Var.calls k (l0.length : Int) t148 _ A4.out).mono ?_);rintro e w7 ⟨rfl,hb⟩;refine ⟨_,rfl,?_⟩;have n0_:=Aside0.mk (below_step (by repeat (first | (with_reducible first | exact HB.out | apply below_alloc | apply pw_below_drewN | apply below_drew1) | exact HB.out)) hb);clear HB;have HB:=n0_;clear n0_;(try clear hb);(try clear hb2);(try clear hk);(try clear hi)) | ((with_reducible refine gate_dst (N:=13) rfl ?_);refine Md.R_conv _ 5 rfl (N:=13) rfl 9 93 _ rfl Try.underlying9 Try.underlying93 Try.underlying5 t148 rfl (ok:=fun _ => True) (okp:=fun _ => True) (fun _ hk => hk) trivial (of_decide_eq_true (by first | (with_reducible assumption) | assumption)) (Below.refl _ _) (Nat.le_refl _) ?_;intro v150 w8 ho9 hb hg_ hnew_;clear hg_ hnew_;(first | rw [← Ny149.out] at ho9 | (simp only [Int.reduceToNat] at ho9;rw [← Ny149.out] at ho9));have n0_:=Aside0.mk (Md.R_lower ho9 (below_size (by repeat (first | (with_reducible first | exact HB.out | apply below_alloc | apply pw_below_drewN | apply below_drew1) | exact HB.out))));have n1_:=Aside0.mk (below_step (by repeat (first | (with_reducible first | exact HB.out | apply below_alloc | apply pw_below_drewN | apply below_drew1) | exact HB.out)) hb);clear HB;have HO151:=n0_;have HB:=n1_;clear n0_ n1_;clear hb ho9))
   go_loopg [4,5] k (fun kq v4 v5 w' => ∃ (x4_1 : List Int) (x5_1 : Int),v5 = .int .i64 x5_1 ∧ Aside0 (spec_HintText.l0 kq l0 x4_1 x5_1 = some (r1,r2)) ∧ Aside0 (kq ≤ k) ∧ Aside0 (Md.R 5 w' w.heap.size (fun _ => True) v4 x4_1) ∧ Aside0 (Below w.heap.size w w'))
   case atStart => exact ⟨(y149),(0),(by first | rfl | (simp;done) | (simp [*];done)),H',⟨Nat.le_refl _⟩,⟨by (with_reducible repeat (first | apply Md.R_alloc | apply Md.R_drewN | apply Md.R_drew));exact HO151.out⟩,⟨by repeat (first | (with_reducible first | exact HB.out | apply below_alloc | apply pw_below_drewN | apply below_drew1) | exact HB.out)⟩⟩
   case round =>
    clear H'
    try clear c1
    try clear p2
    try clear c3
    try clear c4
    try clear c5
    try clear c5b0
    try clear c5b1
    obtain ⟨x4_1,x5_1,rfl,HA,HK1,HO_4,HB⟩:=hrel
    cases gk with
    | zero => exact absurd HA.out (by simp [spec_HintText.l0])
    | succ k1 =>
     have H:=HA.out
     clear HA
     simp only [spec_HintText.l0] at H
     by_cases c10 : x5_1 < (l0.length : Int)
     ·rw [if_pos c10] at H
      have c10b0 : decide (x5_1 < (l0.length : Int)) = true:=decide_eq_true c10
      clear c10
      by_cases c11 : 0 ≤ x5_1
      ·rw [if_pos c11] at H
       have c11b0 : decide (0 ≤ x5_1) = true:=decide_eq_true c11
       clear c11
       replace H:=Option.bind_eq_some_iff.mp H
       obtain ⟨t156,A120,H⟩:=H
       replace H : ((spec_l01Var.f k1 ((rd_T74 l0 x5_1).f1)).bind fun t157 => (if t156.size + t157.size ≤ 9223372036854775807 then ((spec_l01Var.f k1 ((rd_T74 l0 x5_1).f2)).bind fun t158 => (if (t156 ++ t157).size + t158.size ≤ 9223372036854775807 then ((spec_l01Var.f k1 ((rd_T74 l0 x5_1).f3)).bind fun t159 => (if ((t156 ++ t157) ++ t158).size + t159.size ≤ 9223372036854775807 then (if (((t156 ++ t157) ++ t158) ++ t159).size < 140737488355328 then ((some (bytesOf (((t156 ++ t157) ++ t158) ++ t159) : List Int)).bind fun y160 => (if x4_1.length + y160.length < 140737488355328 then (spec_HintText.l0 k1 l0 (x4_1 ++ y160) (wrap64 (x5_1 + 1))) else (none))) else (none)) else (none))) else (none))) else (none))) = some (r1,r2):=H
       have A12:=Aside0.mk A120
       clear A120
       replace H:=Option.bind_eq_some_iff.mp H
       obtain ⟨t157,A130,H⟩:=H
       replace H : (if t156.size + t157.size ≤ 9223372036854775807 then ((spec_l01Var.f k1 ((rd_T74 l0 x5_1).f2)).bind fun t158 => (if (t156 ++ t157).size + t158.size ≤ 9223372036854775807 then ((spec_l01Var.f k1 ((rd_T74 l0 x5_1).f3)).bind fun t159 => (if ((t156 ++ t157) ++ t158).size + t159.size ≤ 9223372036854775807 then (if (((t156 ++ t157) ++ t158) ++ t159).size < 140737488355328 then ((some (bytesOf (((t156 ++ t157) ++ t158) ++ t159) : List Int)).bind fun y160 => (if x4_1.length + y160.length < 140737488355328 then (spec_HintText.l0 k1 l0 (x4_1 ++ y160) (wrap64 (x5_1 + 1))) else (none))) else (none)) else (none))) else (none))) else (none)) = some (r1,r2):=H
       have A13:=Aside0.mk A130
       clear A130
       by_cases c14 : t156.size + t157.size ≤ 9223372036854775807
       ·rw [if_pos c14] at H
        have c14b0:=eq_true c14
        have c14b1 : decide (t156.size + t157.size ≤ 9223372036854775807) = true:=decide_eq_true c14
        try have c14b2 : (9223372036854775807 < t156.size + t157.size) = False:=eq_false (Nat.not_lt.2 c14)
        replace H:=Option.bind_eq_some_iff.mp H
        obtain ⟨t158,A150,H⟩:=H
        replace H : (if (t156 ++ t157).size + t158.size ≤ 9223372036854775807 then ((spec_l01Var.f k1 ((rd_T74 l0 x5_1).f3)).bind fun t159 => (if ((t156 ++ t157) ++ t158).size + t159.size ≤ 9223372036854775807 then (if (((t156 ++ t157) ++ t158) ++ t159).size < 140737488355328 then ((some (bytesOf (((t156 ++ t157) ++ t158) ++ t159) : List Int)).bind fun y160 => (if x4_1.length + y160.length < 140737488355328 then (spec_HintText.l0 k1 l0 (x4_1 ++ y160) (wrap64 (x5_1 + 1))) else (none))) else (none)) else (none))) else (none)) = some (r1,r2):=H
        have A15:=Aside0.mk A150
        clear A150
        by_cases c16 : (t156 ++ t157).size + t158.size ≤ 9223372036854775807
        ·rw [if_pos c16] at H
         have c16b0:=eq_true c16
         have c16b1 : decide ((t156 ++ t157).size + t158.size ≤ 9223372036854775807) = true:=decide_eq_true c16
         try have c16b2 : (9223372036854775807 < (t156 ++ t157).size + t158.size) = False:=eq_false (Nat.not_lt.2 c16)
         have c16n:=c16
         simp only [ByteArray.size_append] at c16n
         have c16m1:=eq_true c16n
         have c16m2:=decide_eq_true c16n
         have c16m3:=eq_false (Nat.not_lt.2 c16n)
         try have c16q:=c16n
         try simp only [show (⟨#[66]⟩ : ByteArray).size = 1 from rfl] at c16q
         try have c16q1:=eq_true c16q
         try have c16q2:=decide_eq_true c16q
         try have c16q3:=eq_false (Nat.not_lt.2 c16q)
         replace H:=Option.bind_eq_some_iff.mp H
         obtain ⟨t159,A170,H⟩:=H
         replace H : (if ((t156 ++ t157) ++ t158).size + t159.size ≤ 9223372036854775807 then (if (((t156 ++ t157) ++ t158) ++ t159).size < 140737488355328 then ((some (bytesOf (((t156 ++ t157) ++ t158) ++ t159) : List Int)).bind fun y160 => (if x4_1.length + y160.length < 140737488355328 then (spec_HintText.l0 k1 l0 (x4_1 ++ y160) (wrap64 (x5_1 + 1))) else (none))) else (none)) else (none)) = some (r1,r2):=H
         have A17:=Aside0.mk A170
         clear A170
         by_cases c18 : ((t156 ++ t157) ++ t158).size + t159.size ≤ 9223372036854775807
         ·rw [if_pos c18] at H
          have c18b0:=eq_true c18
          have c18b1 : decide (((t156 ++ t157) ++ t158).size + t159.size ≤ 9223372036854775807) = true:=decide_eq_true c18
          try have c18b2 : (9223372036854775807 < ((t156 ++ t157) ++ t158).size + t159.size) = False:=eq_false (Nat.not_lt.2 c18)
          have c18n:=c18
          simp only [ByteArray.size_append] at c18n
          have c18m1:=eq_true c18n
          have c18m2:=decide_eq_true c18n
          have c18m3:=eq_false (Nat.not_lt.2 c18n)
          try have c18q:=c18n
          try simp only [show (⟨#[66]⟩ : ByteArray).size = 1 from rfl] at c18q
          try have c18q1:=eq_true c18q
          try have c18q2:=decide_eq_true c18q
          try have c18q3:=eq_false (Nat.not_lt.2 c18q)
          by_cases c19 : (((t156 ++ t157) ++ t158) ++ t159).size < 140737488355328
          ·rw [if_pos c19] at H
           have c19b0:=eq_true c19
           have c19b1 : decide ((((t156 ++ t157) ++ t158) ++ t159).size < 140737488355328) = true:=decide_eq_true c19
           obtain ⟨y160,hy160⟩ : ∃ y_ : List Int,y_ = (bytesOf (((t156 ++ t157) ++ t158) ++ t159)):=⟨_,rfl⟩
           replace H : (if x4_1.length + y160.length < 140737488355328 then (spec_HintText.l0 k1 l0 (x4_1 ++ y160) (wrap64 (x5_1 + 1))) else (none)) = some (r1,r2):=by first | (rw [hy160];with_reducible exact H) | (have H2_:=(Option.bind_some _ _).symm.trans H;rw [hy160];with_reducible exact H2_) | (have H2_:=(Option.bind_some _ _).symm.trans H;with_reducible exact H2_) | with_reducible exact H | (rw [hy160];exact H) | exact H
           have Ny160:=Aside0.mk hy160
           clear hy160
           by_cases c20 : x4_1.length + y160.length < 140737488355328
           ·rw [if_pos c20] at H
            have LMc20:=Aside0.mk c20
            clear c20
            obtain ⟨y163,hy163⟩ : ∃ y_ : List Int,y_ = (x4_1 ++ y160):=⟨_,rfl⟩
            replace H : (spec_HintText.l0 k1 l0 y163 (wrap64 (x5_1 + 1))) = some (r1,r2):=by first | (rw [hy163];with_reducible exact H) | (have H2_:=(Option.bind_some _ _).symm.trans H;rw [hy163];with_reducible exact H2_) | (have H2_:=(Option.bind_some _ _).symm.trans H;with_reducible exact H2_) | with_reducible exact H | (rw [hy163];exact H) | exact H
            have Ny163:=Aside0.mk hy163
            clear hy163
            have H':=Aside0.mk H
            clear H
            have p154 : 0 ≤ (x5_1 : Int):=of_decide_eq_true (by first | (with_reducible assumption) | assumption)
            have q154 : x5_1 < (l0.length : Int):=of_decide_eq_true (by first | (with_reducible assumption) | assumption)
            obtain ⟨ad154,e154,hx154_0,hx154_1,hx154_2,hx154_3⟩:=at_T74 HR0.out x5_1 p154 q154
            cases e154
            replace hx154_0:=(HB.out.cell (World.block_lt_of_cell? w _ hx154_0)).trans hx154_0
            replace hx154_1:=(HB.out.cell (World.block_lt_of_cell? w _ hx154_1)).trans hx154_1
            replace hx154_2:=(HB.out.cell (World.block_lt_of_cell? w _ hx154_2)).trans hx154_2
            replace hx154_3:=(HB.out.cell (World.block_lt_of_cell? w _ hx154_3)).trans hx154_3
            replace p154:=eq_true p154
            replace q154:=eq_true q154
            try go_wp2_with (first | ((with_reducible refine gate_dst (N:=6) rfl ?_);refine box_event ?hg (N:=6) ?hd (cs:=#[.string (⟨#[]⟩ : ByteArray),.int .i64 0,.int .i64 0,.int .i64 0]) (t:=74) ?hr ?_;(case hd => rfl);(case hg => rfl);(case hr => first | (go_simp;done) | (go_simp;rfl));intro gb155 hg w21 hbox hb;have n0_:=Aside0.mk (Md.R_below (by (with_reducible repeat (first | apply Md.R_alloc | apply Md.R_drewN | apply Md.R_drew));exact HO_4.out) hb);have n1_:=Aside0.mk (below_step (by repeat (first | (with_reducible first | exact HB.out | apply below_alloc | apply pw_below_drewN | apply below_drew1) | exact HB.out)) hb);have n2_:=Aside0.mk (hbox);have n3_:=Aside0.mk ((by rw [hg];exact (below_size (by repeat (first | (with_reducible first | exact HB.out | apply below_alloc | apply pw_below_drewN | apply below_drew1) | exact HB.out))) : w.heap.size ≤ gb155));have n4_:=Aside0.mk ((by rw [hg];exact (below_size (by repeat (first | (with_reducible first | exact HB.out | apply below_alloc | apply pw_below_drewN | apply below_drew1) | exact HB.out))) : w.heap.size ≤ gb155));clear HO_4;clear HB;have HO_4:=n0_;have HB:=n1_;have BK155:=n2_;have GW155:=n3_;have GE155:=n4_;clear n0_ n1_ n2_ n3_ n4_;clear hb hbox hg;have hcz22_0 : w21.cell? ⟨gb155,0,none⟩ = some (.string (⟨#[]⟩ : ByteArray)):=(blk_cell BK155.out 0).trans rfl;have hcz22_1 : w21.cell? ⟨gb155,1,none⟩ = some (.int .i64 0):=(blk_cell BK155.out 1).trans rfl;have hcz22_2 : w21.cell? ⟨gb155,2,none⟩ = some (.int .i64 0):=(blk_cell BK155.out 2).trans rfl;have hcz22_3 : w21.cell? ⟨gb155,3,none⟩ = some (.int .i64 0):=(blk_cell BK155.out 3).trans rfl;have hfz22_0:=blk_frozen BK155.out 0;have hfz22_1:=blk_frozen BK155.out 1;have hfz22_2:=blk_frozen BK155.out 2;have hfz22_3:=blk_frozen BK155.out 3))
            have n0_ : Aside0 (Md.R 5 ((((w21.setCell ⟨gb155,0,none⟩ (.string ((rd_T74 l0 x5_1).f0))).setCell ⟨gb155,1,none⟩ (.int .i64 ((rd_T74 l0 x5_1).f1))).setCell ⟨gb155,2,none⟩ (.int .i64 ((rd_T74 l0 x5_1).f2))).setCell ⟨gb155,3,none⟩ (.int .i64 ((rd_T74 l0 x5_1).f3))) w.heap.size (fun _ => True) u4 x4_1):=⟨by (with_reducible repeat (first | apply Md.R_alloc | apply Md.R_drewN | apply Md.R_drew));exact Md.R_mono (Md.R_far (p:=⟨gb155,3,none⟩) (Md.R_far (p:=⟨gb155,2,none⟩) (Md.R_far (p:=⟨gb155,1,none⟩) (Md.R_far (p:=⟨gb155,0,none⟩) (Md.R_types HO_4.out BK155.out (by decide)) (fun _ hk => hk.2) (.string ((rd_T74 l0 x5_1).f0))) (fun _ hk => hk.2) (.int .i64 ((rd_T74 l0 x5_1).f1))) (fun _ hk => hk.2) (.int .i64 ((rd_T74 l0 x5_1).f2))) (fun _ hk => hk.2) (.int .i64 ((rd_T74 l0 x5_1).f3))) (fun _ hk => trivial)⟩
            have n1_ : Aside0 (((((w21.setCell ⟨gb155,0,none⟩ (.string ((rd_T74 l0 x5_1).f0))).setCell ⟨gb155,1,none⟩ (.int .i64 ((rd_T74 l0 x5_1).f1))).setCell ⟨gb155,2,none⟩ (.int .i64 ((rd_T74 l0 x5_1).f2))).setCell ⟨gb155,3,none⟩ (.int .i64 ((rd_T74 l0 x5_1).f3))).heap[gb155]? = some (.cells #[.string ((rd_T74 l0 x5_1).f0),.int .i64 ((rd_T74 l0 x5_1).f1),.int .i64 ((rd_T74 l0 x5_1).f2),.int .i64 ((rd_T74 l0 x5_1).f3)] 74 (0,0))):=⟨by (with_reducible repeat (first | refine blk_drewN ?_ _ | refine blk_drew ?_ | refine blk_alloc ?_ _));refine blk_put (cs:=#[.string ((rd_T74 l0 x5_1).f0),.int .i64 ((rd_T74 l0 x5_1).f1),.int .i64 ((rd_T74 l0 x5_1).f2),.int .i64 0]) ?_ 3 _ rfl;(with_reducible repeat (first | refine blk_drewN ?_ _ | refine blk_drew ?_ | refine blk_alloc ?_ _));refine blk_put (cs:=#[.string ((rd_T74 l0 x5_1).f0),.int .i64 ((rd_T74 l0 x5_1).f1),.int .i64 0,.int .i64 0]) ?_ 2 _ rfl;(with_reducible repeat (first | refine blk_drewN ?_ _ | refine blk_drew ?_ | refine blk_alloc ?_ _));refine blk_put (cs:=#[.string ((rd_T74 l0 x5_1).f0),.int .i64 0,.int .i64 0,.int .i64 0]) ?_ 1 _ rfl;(with_reducible repeat (first | refine blk_drewN ?_ _ | refine blk_drew ?_ | refine blk_alloc ?_ _));refine blk_put (cs:=#[.string (⟨#[]⟩ : ByteArray),.int .i64 0,.int .i64 0,.int .i64 0]) ?_ 0 _ rfl;(with_reducible repeat (first | refine blk_drewN ?_ _ | refine blk_drew ?_ | refine blk_alloc ?_ _));exact BK155.out⟩
            have n2_ : Aside0 (Below w.heap.size w ((((w21.setCell ⟨gb155,0,none⟩ (.string ((rd_T74 l0 x5_1).f0))).setCell ⟨gb155,1,none⟩ (.int .i64 ((rd_T74 l0 x5_1).f1))).setCell ⟨gb155,2,none⟩ (.int .i64 ((rd_T74 l0 x5_1).f2))).setCell ⟨gb155,3,none⟩ (.int .i64 ((rd_T74 l0 x5_1).f3)))):=⟨by repeat (first | (with_reducible first | exact HB.out | apply below_alloc | apply pw_below_drewN | apply below_drew1 | refine below_set ?_ GE155.out) | exact HB.out)⟩
            (try clear HO_4)
            (try clear BK155)
            (try clear HB)
            generalize ((((w21.setCell ⟨gb155,0,none⟩ (.string ((rd_T74 l0 x5_1).f0))).setCell ⟨gb155,1,none⟩ (.int .i64 ((rd_T74 l0 x5_1).f1))).setCell ⟨gb155,2,none⟩ (.int .i64 ((rd_T74 l0 x5_1).f2))).setCell ⟨gb155,3,none⟩ (.int .i64 ((rd_T74 l0 x5_1).f3))) = w23 at n0_ n1_ n2_ ⊢
            have HO_4:=n0_
            have BK155:=n1_
            have HB:=n2_
            clear n0_ n1_ n2_
            have n0_:=Aside0.mk (Md.R_drew HO_4.out)
            have n1_:=Aside0.mk (blk_drew BK155.out)
            have n2_:=Aside0.mk (below_drew1 HB.out)
            clear HO_4
            clear BK155
            clear HB
            have HO_4:=n0_
            have BK155:=n1_
            have HB:=n2_
            clear n0_ n1_ n2_
            refine start_ (n:=19) (S:=fun w' => w'.cell? ⟨gb155,0,none⟩ = some (.string ((rd_T74 l0 x5_1).f0)) ∧ w'.cell? ⟨gb155,1,none⟩ = some (.int .i64 ((rd_T74 l0 x5_1).f1)) ∧ w'.cell? ⟨gb155,2,none⟩ = some (.int .i64 ((rd_T74 l0 x5_1).f2)) ∧ w'.cell? ⟨gb155,3,none⟩ = some (.int .i64 ((rd_T74 l0 x5_1).f3))) (ds:=[]) #[Z4,Z4,Z4,Z4,Z4,Z4,Z4,Z4,Z4,Z4,Z4,Z4,Z4,Z4,Z4,Z4,Z4,Z4,Z4] (by kernel_rfl) rfl rfl ⟨(blk_cell BK155.out 0).trans rfl,(blk_cell BK155.out 1).trans rfl,(blk_cell BK155.out 2).trans rfl,(blk_cell BK155.out 3).trans rfl⟩ (fun hHeld => ?_);refine with_tabW spec_HintText.tab8 spec_HintText.bits8 (fun HT_ HW_ => ?_)
            generalize w23.drew = w24 at HO_4 BK155 HB hHeld ⊢
            refine pure_ (i:=0) (N:=some 24) (v:=?_) (a':=?_) #[Y4,Z4,Z4,Z4,Z4,Z4,Z4,Z4,Z4,Z4,Z4,Z4,Z4,Z4,Z4,Z4,Z4,Z4,Z4] rfl rfl (any_of HT_.out (by kernel_rfl)) (fun _ _ _ h => h) (Or.inl ⟨by rfl,?_⟩) ?_ ?_
            rotate_left
            ·intro w'
             go_simp
             with_reducible rfl
            rotate_left
            ·simp only [Act.put,q14,q24,q34,i64_w,i32_w]
             rfl
            refine pure_ (i:=1) (N:=some 25) (v:=?_) (a':=?_) #[Y4,Y4,Z4,Z4,Z4,Z4,Z4,Z4,Z4,Z4,Z4,Z4,Z4,Z4,Z4,Z4,Z4,Z4,Z4] rfl rfl (any_of HT_.out (by kernel_rfl)) (fun _ _ _ h => h) (Or.inl ⟨by rfl,?_⟩) ?_ ?_
            rotate_left
            ·intro w'
             go_simp
             with_reducible rfl
            rotate_left
            ·simp only [Act.put,q14,q24,q34,i64_w,i32_w]
             rfl
            refine pure_ (i:=4) (N:=some 28) (v:=?_) (a':=?_) #[Y4,Y4,Z4,Z4,Y4,Z4,Z4,Z4,Z4,Z4,Z4,Z4,Z4,Z4,Z4,Z4,Z4,Z4,Z4] rfl rfl (any_of HT_.out (by kernel_rfl)) (fun _ _ _ h => h) (Or.inl ⟨by rfl,?_⟩) ?_ ?_
            rotate_left
            ·intro w'
             go_simp
             with_reducible rfl
            rotate_left
            ·simp only [Act.put,q14,q24,q34,i64_w,i32_w]
             rfl
            refine pure_ (i:=8) (N:=some 32) (v:=?_) (a':=?_) #[Y4,Y4,Z4,Z4,Y4,Z4,Z4,Z4,Y4,Z4,Z4,Z4,Z4,Z4,Z4,Z4,Z4,Z4,Z4] rfl rfl (any_of HT_.out (by kernel_rfl)) (fun _ _ _ h => h) (Or.inl ⟨by rfl,?_⟩) ?_ ?_
            rotate_left
            ·intro w'
             go_simp
             with_reducible rfl
            rotate_left
            ·simp only [Act.put,q14,q24,q34,i64_w,i32_w]
             rfl
            refine pure_ (i:=12) (N:=some 36) (v:=?_) (a':=?_) #[Y4,Y4,Z4,Z4,Y4,Z4,Z4,Z4,Y4,Z4,Z4,Z4,Y4,Z4,Z4,Z4,Z4,Z4,Z4] rfl rfl (any_of HT_.out (by kernel_rfl)) (fun _ _ _ h => h) (Or.inl ⟨by rfl,?_⟩) ?_ ?_
            rotate_left
            ·intro w'
             go_simp
             with_reducible rfl
            rotate_left
            ·simp only [Act.put,q14,q24,q34,i64_w,i32_w]
             rfl
            refine take_ (i:=2) (N:=some 26) (v:=?_) (a':=?_) #[Y4,Y4,Y4,Z4,Y4,Z4,Z4,Z4,Y4,Z4,Z4,Z4,Y4,Z4,Z4,Z4,Z4,Z4,Z4] rfl rfl (take_ofW HT_.out HW_.out (by kernel_rfl)) (fun _ _ _ h => h) (Or.inl ⟨by rfl,?_⟩) hHeld ?_ ?_
            rotate_left
            ·rintro w' ⟨s0,s1,s2,s3⟩
             go_simp
             with_reducible rfl
            rotate_left
            ·simp only [Act.put,q14,q24,q34,i64_w,i32_w]
             rfl
            refine take_ (i:=5) (N:=some 29) (v:=?_) (a':=?_) #[Y4,Y4,Y4,Z4,Y4,Y4,Z4,Z4,Y4,Z4,Z4,Z4,Y4,Z4,Z4,Z4,Z4,Z4,Z4] rfl rfl (take_ofW HT_.out HW_.out (by kernel_rfl)) (fun _ _ _ h => h) (Or.inl ⟨by rfl,?_⟩) hHeld ?_ ?_
            rotate_left
            ·rintro w' ⟨s0,s1,s2,s3⟩
             go_simp
             with_reducible rfl
            rotate_left
            ·simp only [Act.put,q14,q24,q34,i64_w,i32_w]
             rfl
            refine take_ (i:=9) (N:=some 33) (v:=?_) (a':=?_) #[Y4,Y4,Y4,Z4,Y4,Y4,Z4,Z4,Y4,Y4,Z4,Z4,Y4,Z4,Z4,Z4,Z4,Z4,Z4] rfl rfl (take_ofW HT_.out HW_.out (by kernel_rfl)) (fun _ _ _ h => h) (Or.inl ⟨by rfl,?_⟩) hHeld ?_ ?_
            rotate_left
            ·rintro w' ⟨s0,s1,s2,s3⟩
             go_simp
             with_reducible rfl
            rotate_left
            ·simp only [Act.put,q14,q24,q34,i64_w,i32_w]
             rfl
            refine take_ (i:=13) (N:=some 37) (v:=?_) (a':=?_) #[Y4,Y4,Y4,Z4,Y4,Y4,Z4,Z4,Y4,Y4,Z4,Z4,Y4,Y4,Z4,Z4,Z4,Z4,Z4] rfl rfl (take_ofW HT_.out HW_.out (by kernel_rfl)) (fun _ _ _ h => h) (Or.inl ⟨by rfl,?_⟩) hHeld ?_ ?_
            rotate_left
            ·rintro w' ⟨s0,s1,s2,s3⟩
             go_simp
             with_reducible rfl
            rotate_left
            ·simp only [Act.put,q14,q24,q34,i64_w,i32_w]
             rfl
            refine one_ (i:=3) (N:=some 27) #[Y4,Y4,Y4,Y4,Y4,Y4,Z4,Z4,Y4,Y4,Z4,Z4,Y4,Y4,Z4,Z4,Z4,Z4,Z4] rfl rfl (one_of HT_.out (by kernel_rfl)) (by decide) (fun K hK => ?_)
            refine goes_ Try.func60 (by kernel_rfl) rfl #[.string ((rd_T74 l0 x5_1).f0)] (by rfl) rfl rfl (by (try simp only [List.map_toArray,List.map_cons,List.map_nil]);first | done | rfl | (simp only [List.length_drop,List.length_take];rfl)) ?_
            with_reducible refine (spec_l05Short.calls k1 ((rd_T74 l0 x5_1).f0) t156 _ A12.out).mono ?_
            rintro e w25 ⟨rfl,hb⟩
            refine ⟨_,rfl,?_⟩
            have n0_:=Aside0.mk (Md.R_below (by (with_reducible repeat (first | apply Md.R_alloc | apply Md.R_drewN | apply Md.R_drew));exact HO_4.out) hb)
            have n1_:=Aside0.mk (blk_below (g:=gb155) (o:=.cells #[.string ((rd_T74 l0 x5_1).f0),.int .i64 ((rd_T74 l0 x5_1).f1),.int .i64 ((rd_T74 l0 x5_1).f2),.int .i64 ((rd_T74 l0 x5_1).f3)] 74 (0,0)) (by (with_reducible repeat (first | refine blk_drewN ?_ _ | refine blk_drew ?_ | refine blk_alloc ?_ _));exact BK155.out) hb)
            have n2_:=Aside0.mk (below_step (by repeat (first | (with_reducible first | exact HB.out | apply below_alloc | apply pw_below_drewN | apply below_drew1 | refine below_set ?_ GE155.out) | exact HB.out)) hb)
            clear HO_4
            clear BK155
            clear HB
            have HO_4:=n0_
            have BK155:=n1_
            have HB:=n2_
            clear n0_ n1_ n2_
            (try clear hb)
            (try clear hb2)
            (try clear hk)
            (try clear hi)
            refine hK.out _ _ ⟨(blk_cell BK155.out 0).trans rfl,(blk_cell BK155.out 1).trans rfl,(blk_cell BK155.out 2).trans rfl,(blk_cell BK155.out 3).trans rfl⟩ (fun hHeld => ?_)
            clear hK K
            refine norm_ (a':=?_) ?_ ?_
            rotate_left
            ·show Act.put _ (some 27) _ = _
             simp only [Act.put,q14,q24,q34,i64_w,i32_w]
             rfl
            refine one_ (i:=6) (N:=some 30) #[Y4,Y4,Y4,Y4,Y4,Y4,Y4,Z4,Y4,Y4,Z4,Z4,Y4,Y4,Z4,Z4,Z4,Z4,Z4] rfl rfl (one_of HT_.out (by kernel_rfl)) (by decide) (fun K hK => ?_)
            refine goes_ Try.func59 (by kernel_rfl) rfl #[.int .i64 ((rd_T74 l0 x5_1).f1)] (by rfl) rfl rfl (by (try simp only [List.map_toArray,List.map_cons,List.map_nil]);first | done | rfl | (simp only [List.length_drop,List.length_take];rfl)) ?_
            with_reducible refine (spec_l01Var.calls k1 ((rd_T74 l0 x5_1).f1) t157 _ A13.out).mono ?_
            rintro e w26 ⟨rfl,hb⟩
            refine ⟨_,rfl,?_⟩
            have n0_:=Aside0.mk (Md.R_below (by (with_reducible repeat (first | apply Md.R_alloc | apply Md.R_drewN | apply Md.R_drew));exact HO_4.out) hb)
            have n1_:=Aside0.mk (blk_below (g:=gb155) (o:=.cells #[.string ((rd_T74 l0 x5_1).f0),.int .i64 ((rd_T74 l0 x5_1).f1),.int .i64 ((rd_T74 l0 x5_1).f2),.int .i64 ((rd_T74 l0 x5_1).f3)] 74 (0,0)) (by (with_reducible repeat (first | refine blk_drewN ?_ _ | refine blk_drew ?_ | refine blk_alloc ?_ _));exact BK155.out) hb)
            have n2_:=Aside0.mk (below_step (by repeat (first | (with_reducible first | exact HB.out | apply below_alloc | apply pw_below_drewN | apply below_drew1 | refine below_set ?_ GE155.out) | exact HB.out)) hb)
            clear HO_4
            clear BK155
            clear HB
            have HO_4:=n0_
            have BK155:=n1_
            have HB:=n2_
            clear n0_ n1_ n2_
            (try clear hb)
            (try clear hb2)
            (try clear hk)
            (try clear hi)
            refine hK.out _ _ ⟨(blk_cell BK155.out 0).trans rfl,(blk_cell BK155.out 1).trans rfl,(blk_cell BK155.out 2).trans rfl,(blk_cell BK155.out 3).trans rfl⟩ (fun hHeld => ?_)
            clear hK K
            refine norm_ (a':=?_) ?_ ?_
            rotate_left
            ·show Act.put _ (some 30) _ = _
             simp only [Act.put,q14,q24,q34,i64_w,i32_w]
             rfl
            refine pure_ (i:=7) (N:=some 31) (v:=?_) (a':=?_) #[Y4,Y4,Y4,Y4,Y4,Y4,Y4,Y4,Y4,Y4,Z4,Z4,Y4,Y4,Z4,Z4,Z4,Z4,Z4] rfl rfl (any_of HT_.out (by kernel_rfl)) (fun _ _ _ h => h) (Or.inl ⟨by rfl,?_⟩) ?_ ?_
            rotate_left
            ·intro w'
             go_simp
             with_reducible rfl
            rotate_left
            ·simp only [Act.put,q14,q24,q34,i64_w,i32_w]
             rfl
            refine one_ (i:=10) (N:=some 34) #[Y4,Y4,Y4,Y4,Y4,Y4,Y4,Y4,Y4,Y4,Y4,Z4,Y4,Y4,Z4,Z4,Z4,Z4,Z4] rfl rfl (one_of HT_.out (by kernel_rfl)) (by decide) (fun K hK => ?_)
            refine goes_ Try.func59 (by kernel_rfl) rfl #[.int .i64 ((rd_T74 l0 x5_1).f2)] (by rfl) rfl rfl (by (try simp only [List.map_toArray,List.map_cons,List.map_nil]);first | done | rfl | (simp only [List.length_drop,List.length_take];rfl)) ?_
            with_reducible refine (spec_l01Var.calls k1 ((rd_T74 l0 x5_1).f2) t158 _ A15.out).mono ?_
            rintro e w27 ⟨rfl,hb⟩
            refine ⟨_,rfl,?_⟩
            have n0_:=Aside0.mk (Md.R_below (by (with_reducible repeat (first | apply Md.R_alloc | apply Md.R_drewN | apply Md.R_drew));exact HO_4.out) hb)
            have n1_:=Aside0.mk (blk_below (g:=gb155) (o:=.cells #[.string ((rd_T74 l0 x5_1).f0),.int .i64 ((rd_T74 l0 x5_1).f1),.int .i64 ((rd_T74 l0 x5_1).f2),.int .i64 ((rd_T74 l0 x5_1).f3)] 74 (0,0)) (by (with_reducible repeat (first | refine blk_drewN ?_ _ | refine blk_drew ?_ | refine blk_alloc ?_ _));exact BK155.out) hb)
            have n2_:=Aside0.mk (below_step (by repeat (first | (with_reducible first | exact HB.out | apply below_alloc | apply pw_below_drewN | apply below_drew1 | refine below_set ?_ GE155.out) | exact HB.out)) hb)
            clear HO_4
            clear BK155
            clear HB
            have HO_4:=n0_
            have BK155:=n1_
            have HB:=n2_
            clear n0_ n1_ n2_
            (try clear hb)
            (try clear hb2)
            (try clear hk)
            (try clear hi)
            refine hK.out _ _ ⟨(blk_cell BK155.out 0).trans rfl,(blk_cell BK155.out 1).trans rfl,(blk_cell BK155.out 2).trans rfl,(blk_cell BK155.out 3).trans rfl⟩ (fun hHeld => ?_)
            clear hK K
            refine norm_ (a':=?_) ?_ ?_
            rotate_left
            ·show Act.put _ (some 34) _ = _
             simp only [Act.put,q14,q24,q34,i64_w,i32_w]
             rfl
            refine pure_ (i:=11) (N:=some 35) (v:=?_) (a':=?_) #[Y4,Y4,Y4,Y4,Y4,Y4,Y4,Y4,Y4,Y4,Y4,Y4,Y4,Y4,Z4,Z4,Z4,Z4,Z4] rfl rfl (any_of HT_.out (by kernel_rfl)) (fun _ _ _ h => h) (Or.inl ⟨by rfl,?_⟩) ?_ ?_
            rotate_left
            ·intro w'
             go_simp
             with_reducible rfl
            rotate_left
            ·simp only [Act.put,q14,q24,q34,i64_w,i32_w]
             rfl
            refine one_ (i:=14) (N:=some 38) #[Y4,Y4,Y4,Y4,Y4,Y4,Y4,Y4,Y4,Y4,Y4,Y4,Y4,Y4,Y4,Z4,Z4,Z4,Z4] rfl rfl (one_of HT_.out (by kernel_rfl)) (by decide) (fun K hK => ?_)
            refine goes_ Try.func59 (by kernel_rfl) rfl #[.int .i64 ((rd_T74 l0 x5_1).f3)] (by rfl) rfl rfl (by (try simp only [List.map_toArray,List.map_cons,List.map_nil]);first | done | rfl | (simp only [List.length_drop,List.length_take];rfl)) ?_
            with_reducible refine (spec_l01Var.calls k1 ((rd_T74 l0 x5_1).f3) t159 _ A17.out).mono ?_
            rintro e w28 ⟨rfl,hb⟩
            refine ⟨_,rfl,?_⟩
            have n0_:=Aside0.mk (Md.R_below (by (with_reducible repeat (first | apply Md.R_alloc | apply Md.R_drewN | apply Md.R_drew));exact HO_4.out) hb)
            have n1_:=Aside0.mk (blk_below (g:=gb155) (o:=.cells #[.string ((rd_T74 l0 x5_1).f0),.int .i64 ((rd_T74 l0 x5_1).f1),.int .i64 ((rd_T74 l0 x5_1).f2),.int .i64 ((rd_T74 l0 x5_1).f3)] 74 (0,0)) (by (with_reducible repeat (first | refine blk_drewN ?_ _ | refine blk_drew ?_ | refine blk_alloc ?_ _));exact BK155.out) hb)
            have n2_:=Aside0.mk (below_step (by repeat (first | (with_reducible first | exact HB.out | apply below_alloc | apply pw_below_drewN | apply below_drew1 | refine below_set ?_ GE155.out) | exact HB.out)) hb)
            clear HO_4
            clear BK155
            clear HB
            have HO_4:=n0_
            have BK155:=n1_
            have HB:=n2_
            clear n0_ n1_ n2_
            (try clear hb)
            (try clear hb2)
            (try clear hk)
            (try clear hi)
            refine hK.out _ _ ⟨(blk_cell BK155.out 0).trans rfl,(blk_cell BK155.out 1).trans rfl,(blk_cell BK155.out 2).trans rfl,(blk_cell BK155.out 3).trans rfl⟩ (fun hHeld => ?_)
            clear hK K
            refine norm_ (a':=?_) ?_ ?_
            rotate_left
            ·show Act.put _ (some 38) _ = _
             simp only [Act.put,q14,q24,q34,i64_w,i32_w]
             rfl
            refine pure_ (i:=15) (N:=some 39) (v:=?_) (a':=?_) #[Y4,Y4,Y4,Y4,Y4,Y4,Y4,Y4,Y4,Y4,Y4,Y4,Y4,Y4,Y4,Y4,Z4,Z4,Z4] rfl rfl (any_of HT_.out (by kernel_rfl)) (fun _ _ _ h => h) (Or.inl ⟨by rfl,?_⟩) ?_ ?_
            rotate_left
            ·intro w'
             go_simp
             with_reducible rfl
            rotate_left
            ·simp only [Act.put,q14,q24,q34,i64_w,i32_w]
             rfl
            refine one_ (i:=16) (N:=some 40) #[Y4,Y4,Y4,Y4,Y4,Y4,Y4,Y4,Y4,Y4,Y4,Y4,Y4,Y4,Y4,Y4,Y4,Z4,Z4] rfl rfl (one_of HT_.out (by kernel_rfl)) (by decide) (fun K hK => ?_)
            refine Md.R_conv_step _ 5 (by rfl) (N:=40) rfl 9 93 _ rfl Try.underlying9 Try.underlying93 Try.underlying5 (((t156 ++ t157) ++ t158) ++ t159) rfl (ok:=fun _ => True) (okp:=fun _ => True) (fun _ hk => hk) trivial (of_decide_eq_true (by first | (with_reducible assumption) | assumption)) (Below.refl _ _) (Nat.le_refl _) ?_
            intro v161 w29 ho30 hb hg_ hnew_
            clear hg_ hnew_
            (first | rw [← Ny160.out] at ho30 | (simp only [Int.reduceToNat] at ho30;rw [← Ny160.out] at ho30))
            have n0_:=Aside0.mk (Md.R_elder' (by (with_reducible repeat (first | apply Md.R_alloc | apply Md.R_drewN | apply Md.R_drew));exact HO_4.out) (Md.R_base ho30) hb)
            have n1_:=Aside0.mk (Md.R_lower (Md.R_new' ho30 (Md.R_lt (by (with_reducible repeat (first | apply Md.R_alloc | apply Md.R_drewN | apply Md.R_drew));exact HO_4.out))) (below_size (by repeat (first | (with_reducible first | exact HB.out | apply below_alloc | apply pw_below_drewN | apply below_drew1 | refine below_set ?_ GE155.out) | exact HB.out))))
            have n2_:=Aside0.mk (blk_below (g:=gb155) (o:=.cells #[.string ((rd_T74 l0 x5_1).f0),.int .i64 ((rd_T74 l0 x5_1).f1),.int .i64 ((rd_T74 l0 x5_1).f2),.int .i64 ((rd_T74 l0 x5_1).f3)] 74 (0,0)) (by (with_reducible repeat (first | refine blk_drewN ?_ _ | refine blk_drew ?_ | refine blk_alloc ?_ _));exact BK155.out) hb)
            have n3_:=Aside0.mk (below_step (by repeat (first | (with_reducible first | exact HB.out | apply below_alloc | apply pw_below_drewN | apply below_drew1 | refine below_set ?_ GE155.out) | exact HB.out)) hb)
            clear HO_4
            clear BK155
            clear HB
            have HO_4:=n0_
            have HO162:=n1_
            have BK155:=n2_
            have HB:=n3_
            clear n0_ n1_ n2_ n3_
            clear hb ho30
            obtain ⟨Ao32,co32,eo32⟩:=Md.R_slice HO162.out
            (first | subst eo32 | (injection eo32 with f1_ f2_ f3_;have f4_:=f1_.symm;have f5_:=f3_.symm;clear f1_ f2_ f3_;subst f4_;subst f5_))
            refine hK.out _ _ ⟨(blk_cell BK155.out 0).trans rfl,(blk_cell BK155.out 1).trans rfl,(blk_cell BK155.out 2).trans rfl,(blk_cell BK155.out 3).trans rfl⟩ (fun hHeld => ?_)
            clear hK K
            refine norm_ (a':=?_) ?_ ?_
            rotate_left
            ·show Act.put _ (some 40) _ = _
             simp only [Act.put,q14,q24,q34,i64_w,i32_w]
             rfl
            refine one_ (i:=17) (N:=some 41) #[Y4,Y4,Y4,Y4,Y4,Y4,Y4,Y4,Y4,Y4,Y4,Y4,Y4,Y4,Y4,Y4,Y4,Y4,Z4] rfl rfl (one_of HT_.out (by kernel_rfl)) (by decide) (fun K hK => ?_)
            refine Md.R_append_rows_step (w0:=w) w.heap.size (by rfl) (.tmp 24) (.tmp 40) 93 5 (.int .u8 0) 1 rfl Try.underlying93 info5 rfl (by decide) (by omega) u4 x4_1 y160 _ _ _ (fun k_ => some k_ ≠ (.slice Ao32 y160.length co32 : Value).ownBlock) (fun _ => False) rfl rfl ?aO ?aR (fun _ _ h => h) (fun _ h => h.elim) ?aF ?aB ?aS ?aL ?_
            (case aR => repeat (first | exact (Md.R_reads' HO162.out).2.2 | (with_reducible refine Kd.C_alloc ?_ _) | (with_reducible refine Kd.C_drewN ?_ _) | (with_reducible refine Kd.C_drew ?_)))
            (case aB => exact (by repeat (first | (with_reducible first | exact HB.out | apply below_alloc | apply pw_below_drewN | apply below_drew1 | refine below_set ?_ GE155.out) | exact HB.out)))
            (case aF => exact (fun k_ hk => Kd.fresh' (Md.R_lt (by (with_reducible repeat (first | apply Md.R_alloc | apply Md.R_drewN | apply Md.R_drew));exact HO162.out)) k_ hk))
            (case aO => exact (by (with_reducible repeat (first | apply Md.R_alloc | apply Md.R_drewN | apply Md.R_drew));exact Md.R_mono HO_4.out (fun _ hk => hk.2)))
            (case aS => exact (below_size (by repeat (first | (with_reducible first | exact HB.out | apply below_alloc | apply pw_below_drewN | apply below_drew1 | refine below_set ?_ GE155.out) | exact HB.out))))
            (case aL => have:=LMc20.out;omega)
            intro v164 w31 ho hb hg hat
            rw [← Ny163.out] at ho
            have n0_:=Aside0.mk (blk_grown (g:=gb155) (o:=.cells #[.string ((rd_T74 l0 x5_1).f0),.int .i64 ((rd_T74 l0 x5_1).f1),.int .i64 ((rd_T74 l0 x5_1).f2),.int .i64 ((rd_T74 l0 x5_1).f3)] 74 (0,0)) (by (with_reducible repeat (first | refine blk_drewN ?_ _ | refine blk_drew ?_ | refine blk_alloc ?_ _));exact BK155.out) hg (Md.R_ne HO_4.out BK155.out (by decide)))
            have n1_:=Aside0.mk (Md.R_after (ok:=(fun _ => True)) (by (with_reducible repeat (first | apply Md.R_alloc | apply Md.R_drewN | apply Md.R_drew));exact HO162.out) hg hat)
            have n2_:=Aside0.mk (hb)
            have n3_:=Aside0.mk (ho)
            clear BK155
            clear HO162
            clear HB
            clear HO_4
            have BK155:=n0_
            have HO162:=n1_
            have HB:=n2_
            have HO165:=n3_
            clear n0_ n1_ n2_ n3_
            clear ho hb hg hat
            refine hK.out _ _ ⟨(blk_cell BK155.out 0).trans rfl,(blk_cell BK155.out 1).trans rfl,(blk_cell BK155.out 2).trans rfl,(blk_cell BK155.out 3).trans rfl⟩ (fun hHeld => ?_)
            clear hK K
            refine norm_ (a':=?_) ?_ ?_
            rotate_left
            ·show Act.put _ (some 41) _ = _
             simp only [Act.put,q14,q24,q34,i64_w,i32_w]
             rfl
            refine pure_ (i:=18) (N:=some 4) (v:=?_) (a':=?_) #[Y4,Y4,Y4,Y4,Y4,Y4,Y4,Y4,Y4,Y4,Y4,Y4,Y4,Y4,Y4,Y4,Y4,Y4,Y4] rfl rfl (any_of HT_.out (by kernel_rfl)) (fun _ _ _ h => h) (Or.inl ⟨by rfl,?_⟩) ?_ ?_
            rotate_left
            ·intro w'
             go_simp
             with_reducible rfl
            rotate_left
            ·simp only [Act.put,q14,q24,q34,i64_w,i32_w]
             rfl
            refine done_ (done_of HT_.out (by kernel_rfl)) ?_
            try go_wp2
            go_roundg k1
            case measure => have:=HK1.out;omega
            case rel => exact ⟨(y163),(wrap64 (x5_1 + 1)),(by first | rfl | (simp;done) | (simp [*];done)),H',⟨by have:=HK1.out;omega⟩,⟨by (with_reducible repeat (first | apply Md.R_alloc | apply Md.R_drewN | apply Md.R_drew));exact Md.R_mono HO165.out (fun _ hk => trivial)⟩,⟨by repeat (first | (with_reducible first | exact HB.out | apply below_alloc | apply pw_below_drewN | apply below_drew1 | refine below_set ?_ GE155.out) | exact HB.out)⟩⟩
           ·rw [if_neg c20] at H
            exact absurd H (by simp)
          ·rw [if_neg c19] at H
           exact absurd H (by simp)
         ·rw [if_neg c18] at H
          exact absurd H (by simp)
        ·rw [if_neg c16] at H
         exact absurd H (by simp)
       ·rw [if_neg c14] at H
        exact absurd H (by simp)
      ·rw [if_neg c11] at H
       exact absurd H (by simp)
     ·rw [if_neg c10] at H
      have c10b0 : decide (x5_1 < (l0.length : Int)) = false:=decide_eq_false c10
      clear c10
      replace H:=Option.bind_eq_some_iff.mp H
      obtain ⟨⟨t152,t153⟩,A330,H⟩:=H
      replace H : (some (t152,t153)) = some (r1,r2):=H
      have A33:=Aside0.mk A330
      clear A330
      simp only [Option.some.injEq,Prod.mk.injEq] at H
      obtain ⟨rfl,rfl⟩:=H
      have hcv34:=Md.own_string (P:=Try.prog) Try.underlying93 Try.underlying5 Try.underlying9 (Md.own_of_R HO_4.out)
      go_wp2_with (first | ((with_reducible refine gate_callee (f:=69) rfl ?_);refine goesL_ (some 44) rfl rfl Try.func69 (by kernel_rfl) rfl #[.string (strOfNums x4_1)] rfl (by (try simp only [List.map_toArray,List.map_cons,List.map_nil]);first | done | rfl | (simp only [List.length_drop,List.length_take];rfl)) ?_;(with_reducible refine (spec_Sealed.calls k1 (strOfNums x4_1) t152 t153 _ A33.out).mono ?_);rintro e w35 ⟨rfl,hb⟩;refine ⟨_,rfl,?_⟩;have n0_:=Aside0.mk (Md.R_below (by (with_reducible repeat (first | apply Md.R_alloc | apply Md.R_drewN | apply Md.R_drew));exact HO_4.out) hb);have n1_:=Aside0.mk (below_step (by repeat (first | (with_reducible first | exact HB.out | apply below_alloc | apply pw_below_drewN | apply below_drew1) | exact HB.out)) hb);clear HO_4;clear HB;have HO_4:=n0_;have HB:=n1_;clear n0_ n1_;(try clear hb);(try clear hb2);(try clear hk);(try clear hi)))
      go_ret2
      exact ⟨by first | rfl | (simp [errW_none,errW_some] <;> rfl) | (simp [*,errW_none,errW_some] <;> rfl),by repeat (first | (with_reducible first | exact HB.out | apply below_alloc | apply pw_below_drewN | apply below_drew1) | exact HB.out)⟩
  ·rw [if_neg c5] at H
   exact absurd H (by simp)
 ·replace c3:=Bool.eq_false_iff.mpr c3
  subst c3
  have H1 : (some ((⟨#[]⟩ : ByteArray),false)) = some (r1,r2):=by rw [if_neg (show ¬ (false = true) by decide)] at H;exact H
  clear H
  have H:=H1
  clear H1
  simp only [Option.some.injEq,Prod.mk.injEq] at H
  obtain ⟨rfl,rfl⟩:=H
  go_enter Try.func40,Try.ntmps40
  go_wp2_with (first | ((with_reducible refine gate_callee (f:=12) rfl ?_);refine goesL_ (some 8) rfl rfl Try.func12 (by kernel_rfl) rfl #[.slice A0 l0.length c0] rfl (by (try simp only [List.map_toArray,List.map_cons,List.map_nil]);first | done | rfl | (simp only [List.length_drop,List.length_take];rfl)) ?_;(with_reducible refine (spec_DirOk.calls k _ _ l0 false _ ?side1 ?side2 A2.out).mono ?_);(case side1 => repeat (first | exact HR0.out | (with_reducible refine Kd.C_alloc ?_ _) | (with_reducible refine Kd.C_drewN ?_ _) | (with_reducible refine Kd.C_drew ?_)));(case side2 => exact HC0.out);rintro e w36 ⟨rfl,hb⟩;refine ⟨_,rfl,?_⟩;have n0_:=Aside0.mk (below_step (by repeat (first | (with_reducible first | exact HB.out | apply below_alloc | apply pw_below_drewN | apply below_drew1) | exact HB.out)) hb);clear HB;have HB:=n0_;clear n0_;(try clear hb);(try clear hb2);(try clear hk);(try clear hi)))
  go_ret2
  exact ⟨by first | rfl | (simp [errW_none,errW_some] <;> rfl) | (simp [*,errW_none,errW_some] <;> rfl),by repeat (first | (with_reducible first | exact HB.out | apply below_alloc | apply pw_below_drewN | apply below_drew1) | exact HB.out)⟩

/-! ### impl_within: function 46 -/
def impl_within.f (a0 : Int) (a1 : Int) (a2 : Int) : Option (Bool):=if a0 ≥ a1 then (some (decide (a0 ≤ a2))) else (some false)
set_option maxHeartbeats 8000000 in
set_option maxRecDepth 100000 in
theorem impl_within.calls (a0 : Int) (a1 : Int) (a2 : Int) (r : Bool) (w : World) (h : impl_within.f a0 a1 a2 = some r) :
  Calls Try.prog 46 #[.int .i64 a0,.int .i64 a1,.int .i64 a2] w fun e w' => e = .returned (.bool r) ∧ Drawn0 w w':=by
 have H : (if a0 ≥ a1 then (some (decide (a0 ≤ a2))) else (some false)) = some r:=h
 clear h
 by_cases c4 : a0 ≥ a1
 ·rw [if_pos c4] at H
  have c4b0 : decide (a1 ≤ a0) = true:=decide_eq_true c4
  clear c4
  obtain rfl:=Option.some.inj H
  go_enter Try.func46,Try.ntmps46
  go_wp2
  go_ret
  exact ⟨by first | rfl | (simp;done) | (simp [*];done),by repeat (first | exact Drawn0.refl _ | apply Drawn0.step)⟩
 ·rw [if_neg c4] at H
  have c4b0 : decide (a1 ≤ a0) = false:=decide_eq_false c4
  clear c4
  obtain rfl:=Option.some.inj H
  go_enter Try.func46,Try.ntmps46
  go_wp2
  go_ret
  exact ⟨by first | rfl | (simp;done) | (simp [*];done),by repeat (first | exact Drawn0.refl _ | apply Drawn0.step)⟩

/-! ### impl_keyOk: function 45 -/
def impl_keyOk.f (a0 : ByteArray) : Option (Bool):=(impl_within.f (a0.size : Int) 1 20).bind fun t166 => (some t166)
set_option maxHeartbeats 8000000 in
set_option maxRecDepth 100000 in
theorem impl_keyOk.calls (a0 : ByteArray) (r : Bool) (w : World) (h : impl_keyOk.f a0 = some r) :
  Calls Try.prog 45 #[.string a0] w fun e w' => e = .returned (.bool r) ∧ Drawn0 w w':=by
 have H : ((impl_within.f (a0.size : Int) 1 20).bind fun t166 => (some t166)) = some r:=h
 clear h
 replace H:=Option.bind_eq_some_iff.mp H
 obtain ⟨t166,A20,H⟩:=H
 replace H : (some t166) = some r:=H
 have A2:=Aside0.mk A20
 clear A20
 obtain rfl:=Option.some.inj H
 go_enter Try.func45,Try.ntmps45
 go_wp2_with (first | ((with_reducible refine gate_callee (f:=46) rfl ?_);refine goesL_ (some 5) rfl rfl Try.func46 (by kernel_rfl) rfl #[.int .i64 (a0.size : Int),.int .i64 1,.int .i64 20] rfl (by (try simp only [List.map_toArray,List.map_cons,List.map_nil]);first | done | rfl | (simp only [List.length_drop,List.length_take];rfl)) ?_;(with_reducible refine (impl_within.calls (a0.size : Int) 1 20 t166 _ A2.out).mono ?_);rintro e w' ⟨rfl,⟨nd,rfl⟩⟩;refine ⟨_,rfl,?_⟩))
 go_ret
 exact ⟨by first | rfl | (simp;done) | (simp [*];done),by repeat (first | exact Drawn0.refl _ | apply Drawn0.step)⟩

end Go.Proofs.Ytliemdoegicbhaa.PFnExactHintText
