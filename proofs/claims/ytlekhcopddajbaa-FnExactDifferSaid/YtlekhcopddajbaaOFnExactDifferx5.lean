/- Walks of functions that the law FnExactDiffer reaches, turned by this session from a print of which a part did not build; what was changed is listed in wip/patches of the proofs' repo. -/
import Derived.Test.YtlekhcopddajbaaOFnExactDifferx0
import Derived.Test.YtlekhcopddajbaaOFnExactDifferx2
import Derived.Test.YtlekhcopddajbaaOFnExactDifferx4
namespace Go.Proofs.Ytlekhcopddajbaa.PFnExactDiffer
open Go.RowKit Go.Proofs.YtlekhcopddajbaaW.PrintWords Go.Proofs.YtlekhcopddajbaaW.PrintLast Go.Proofs.YtlekhcopddajbaaW.PrintMore
attribute [local go_sem] max2_int min2_int max_two min_two max_three min_three max_four min_four   -- for this text's walks alone
set_option linter.unusedVariables false
set_option linter.unusedSimpArgs false

/-! ### spec_ValText: function 15 -/
def spec_ValText.l0 : Nat → ByteArray → Int → Int → Int → ByteArray → List ByteArray → Option (ByteArray × Bool)
 | 0,_,_,_,_,_,_ => none
 | k + 1,x4,x5,x140000,x140001,x140002,x140003 => if x5 < (x140003.length : Int) then (if 0 ≤ x5 then ((spec_l05Short.f k (rdOf ByteArray.empty x140003 x5)).bind fun t148 => (if x4.size + t148.size ≤ 9223372036854775807 then (spec_ValText.l0 k (x4 ++ t148) (wrap64 (x5 + 1)) x140000 x140001 x140002 x140003) else (none))) else (none)) else (some (x4,true))
def spec_ValText.f (k : Nat) (a0_0 : Int) (a0_1 : Int) (a0_2 : ByteArray) (l0_3 : List ByteArray) : Option (ByteArray × Bool):=(spec_ValOk.f k a0_0 a0_1 a0_2 l0_3).bind fun t140 => (if t140 = true then ((some (([(a0_0) % 256] : List Int) : List Int)).bind fun y141 => ((spec_l01Var.f k a0_1).bind fun t144 => (if (strOfNums y141).size + t144.size ≤ 9223372036854775807 then ((spec_l05Short.f k a0_2).bind fun t145 => (if ((strOfNums y141) ++ t144).size + t145.size ≤ 9223372036854775807 then ((spec_l01Var.f k (l0_3.length : Int)).bind fun t146 => (if (((strOfNums y141) ++ t144) ++ t145).size + t146.size ≤ 9223372036854775807 then (spec_ValText.l0 k ((((strOfNums y141) ++ t144) ++ t145) ++ t146) 0 a0_0 a0_1 a0_2 l0_3) else (none))) else (none))) else (none)))) else (some ((⟨#[]⟩ : ByteArray),false)))
theorem spec_ValText.mono_l : ∀ k,(∀ y0 y1 y2 y3 y4 y5,LeO (spec_ValText.l0 k y0 y1 y2 y3 y4 y5) (spec_ValText.l0 (k + 1) y0 y1 y2 y3 y4 y5))
 | 0 => fun _ _ _ _ _ _ r h => by simp [spec_ValText.l0] at h
 | k + 1 => by
  have ih0:=spec_ValText.mono_l k
  ·intro y0 y1 y2 y3 y4 y5
   unfold spec_ValText.l0
   repeat' first
   | (with_reducible exact ih0 _ _ _ _ _ _)
   | (with_reducible exact spec_ValOk.mono _ _ _ _ _)
   | (with_reducible exact spec_l01Var.mono _ _)
   | (with_reducible exact spec_l05Short.mono _ _)
   | (with_reducible exact LeO.refl _)
   | (with_reducible exact LeO.none _)
   | (with_reducible refine LeO.ite ?_ ?_)
   | (with_reducible refine LeO.bind ?_ (fun _ => ?_))
   | exact ih0 _ _ _ _ _ _
   | exact spec_ValOk.mono _ _ _ _ _
   | exact spec_l01Var.mono _ _
   | exact spec_l05Short.mono _ _
   | exact LeO.none _
   | refine LeO.ite ?_ ?_
   | refine LeO.bind ?_ (fun _ => ?_)
theorem spec_ValText.mono : ∀ a0 a1 a2 a3 k,LeO (spec_ValText.f k a0 a1 a2 a3) (spec_ValText.f (k + 1) a0 a1 a2 a3):=by
 intro a0 a1 a2 a3 k
 have ih0:=spec_ValText.mono_l k
 unfold spec_ValText.f
 repeat' first
   | (with_reducible exact ih0 _ _ _ _ _ _)
   | (with_reducible exact spec_ValOk.mono _ _ _ _ _)
   | (with_reducible exact spec_l01Var.mono _ _)
   | (with_reducible exact spec_l05Short.mono _ _)
   | (with_reducible exact LeO.refl _)
   | (with_reducible exact LeO.none _)
   | (with_reducible refine LeO.ite ?_ ?_)
   | (with_reducible refine LeO.bind ?_ (fun _ => ?_))
   | exact ih0 _ _ _ _ _ _
   | exact spec_ValOk.mono _ _ _ _ _
   | exact spec_l01Var.mono _ _
   | exact spec_l05Short.mono _ _
   | exact LeO.none _
   | refine LeO.ite ?_ ?_
   | refine LeO.bind ?_ (fun _ => ?_)
def spec_ValText.T3 : Bool × List (List Nat × List Nat):=(true,[([],[]),([0],[0]),([1],[1]),([2],[2]),([3],[3]),([],[]),([5],[5]),([6],[6]),([4,7],[4,7]),([],[]),([9],[9]),([10,7],[10]),([8,11],[8,11]),([],[]),([13],[13]),([14],[14]),([15,11],[15]),([12,16],[12,16]),([17,16,0,1,2,3,4,5,6,7,8,9,10,11,12,13,14,15,16,17],[17])])
def spec_ValText.B3 : List Nat:=[0,1,3,7,15,0,32,96,255,0,512,1760,4095,0,8192,24576,61152,131071,262143]
theorem spec_ValText.tab3 : rtab .any (opsOf Try.f15 3) = spec_ValText.T3:=by kernel_rfl
theorem spec_ValText.bits3 : waitsOk spec_ValText.T3.2 spec_ValText.B3 = true:=by kernel_rfl
set_option maxHeartbeats 8000000 in
set_option maxRecDepth 100000 in
theorem spec_ValText.calls (k : Nat) (a0_0 : Int) (a0_1 : Int) (a0_2 : ByteArray) (A0_3 : Option Addr) (c0_3 : Nat) (l0_3 : List ByteArray) (r1 : ByteArray) (r2 : Bool) (w : World) (hr0_3 : Kd.C Kd.string w A0_3 l0_3.length l0_3) (hc0_3 : l0_3.length ≤ c0_3) (h : spec_ValText.f k a0_0 a0_1 a0_2 l0_3 = some (r1,r2)) :
  Calls Try.prog 15 #[.agg #[.int .i64 a0_0,.int .i64 a0_1,.string a0_2,.slice A0_3 l0_3.length c0_3]] w fun e w' => e = .returned (.tuple #[.string r1,.bool r2]) ∧ Below w.heap.size w w':=by
 have hu40:=Try.underlying40
 have HR0_3:=Aside0.mk hr0_3
 have HC0_3:=Aside0.mk hc0_3
 clear hr0_3 hc0_3
 have HB:=Aside0.mk (Below.refl w.heap.size w)
 have H : ((spec_ValOk.f k a0_0 a0_1 a0_2 l0_3).bind fun t140 => (if t140 = true then ((some (([(a0_0) % 256] : List Int) : List Int)).bind fun y141 => ((spec_l01Var.f k a0_1).bind fun t144 => (if (strOfNums y141).size + t144.size ≤ 9223372036854775807 then ((spec_l05Short.f k a0_2).bind fun t145 => (if ((strOfNums y141) ++ t144).size + t145.size ≤ 9223372036854775807 then ((spec_l01Var.f k (l0_3.length : Int)).bind fun t146 => (if (((strOfNums y141) ++ t144) ++ t145).size + t146.size ≤ 9223372036854775807 then (spec_ValText.l0 k ((((strOfNums y141) ++ t144) ++ t145) ++ t146) 0 a0_0 a0_1 a0_2 l0_3) else (none))) else (none))) else (none)))) else (some ((⟨#[]⟩ : ByteArray),false)))) = some (r1,r2):=h
 clear h
 replace H:=Option.bind_eq_some_iff.mp H
 obtain ⟨t140,A20,H⟩:=H
 replace H : (if t140 = true then ((some (([(a0_0) % 256] : List Int) : List Int)).bind fun y141 => ((spec_l01Var.f k a0_1).bind fun t144 => (if (strOfNums y141).size + t144.size ≤ 9223372036854775807 then ((spec_l05Short.f k a0_2).bind fun t145 => (if ((strOfNums y141) ++ t144).size + t145.size ≤ 9223372036854775807 then ((spec_l01Var.f k (l0_3.length : Int)).bind fun t146 => (if (((strOfNums y141) ++ t144) ++ t145).size + t146.size ≤ 9223372036854775807 then (spec_ValText.l0 k ((((strOfNums y141) ++ t144) ++ t145) ++ t146) 0 a0_0 a0_1 a0_2 l0_3) else (none))) else (none))) else (none)))) else (some ((⟨#[]⟩ : ByteArray),false))) = some (r1,r2):=H
 have A2:=Aside0.mk A20
 clear A20
 by_cases c3 : t140 = true
 ·subst c3
  have H1 : ((some (([(a0_0) % 256] : List Int) : List Int)).bind fun y141 => ((spec_l01Var.f k a0_1).bind fun t144 => (if (strOfNums y141).size + t144.size ≤ 9223372036854775807 then ((spec_l05Short.f k a0_2).bind fun t145 => (if ((strOfNums y141) ++ t144).size + t145.size ≤ 9223372036854775807 then ((spec_l01Var.f k (l0_3.length : Int)).bind fun t146 => (if (((strOfNums y141) ++ t144) ++ t145).size + t146.size ≤ 9223372036854775807 then (spec_ValText.l0 k ((((strOfNums y141) ++ t144) ++ t145) ++ t146) 0 a0_0 a0_1 a0_2 l0_3) else (none))) else (none))) else (none)))) = some (r1,r2):=by rw [if_pos rfl] at H;exact H
  clear H
  have H:=H1
  clear H1
  obtain ⟨y141,hy141⟩ : ∃ y_ : List Int,y_ = (([(a0_0) % 256] : List Int)):=⟨_,rfl⟩
  replace H : ((spec_l01Var.f k a0_1).bind fun t144 => (if (strOfNums y141).size + t144.size ≤ 9223372036854775807 then ((spec_l05Short.f k a0_2).bind fun t145 => (if ((strOfNums y141) ++ t144).size + t145.size ≤ 9223372036854775807 then ((spec_l01Var.f k (l0_3.length : Int)).bind fun t146 => (if (((strOfNums y141) ++ t144) ++ t145).size + t146.size ≤ 9223372036854775807 then (spec_ValText.l0 k ((((strOfNums y141) ++ t144) ++ t145) ++ t146) 0 a0_0 a0_1 a0_2 l0_3) else (none))) else (none))) else (none))) = some (r1,r2):=by first | (rw [hy141];with_reducible exact H) | (have H2_:=(Option.bind_some _ _).symm.trans H;rw [hy141];with_reducible exact H2_) | (have H2_:=(Option.bind_some _ _).symm.trans H;with_reducible exact H2_) | with_reducible exact H | (rw [hy141];exact H) | exact H
  have Ny141:=Aside0.mk hy141
  clear hy141
  replace H:=Option.bind_eq_some_iff.mp H
  obtain ⟨t144,A40,H⟩:=H
  replace H : (if (strOfNums y141).size + t144.size ≤ 9223372036854775807 then ((spec_l05Short.f k a0_2).bind fun t145 => (if ((strOfNums y141) ++ t144).size + t145.size ≤ 9223372036854775807 then ((spec_l01Var.f k (l0_3.length : Int)).bind fun t146 => (if (((strOfNums y141) ++ t144) ++ t145).size + t146.size ≤ 9223372036854775807 then (spec_ValText.l0 k ((((strOfNums y141) ++ t144) ++ t145) ++ t146) 0 a0_0 a0_1 a0_2 l0_3) else (none))) else (none))) else (none)) = some (r1,r2):=H
  have A4:=Aside0.mk A40
  clear A40
  by_cases c5 : (strOfNums y141).size + t144.size ≤ 9223372036854775807
  ·rw [if_pos c5] at H
   have c5b0:=eq_true c5
   have c5b1 : decide ((strOfNums y141).size + t144.size ≤ 9223372036854775807) = true:=decide_eq_true c5
   try have c5b2 : (9223372036854775807 < (strOfNums y141).size + t144.size) = False:=eq_false (Nat.not_lt.2 c5)
   replace H:=Option.bind_eq_some_iff.mp H
   obtain ⟨t145,A60,H⟩:=H
   replace H : (if ((strOfNums y141) ++ t144).size + t145.size ≤ 9223372036854775807 then ((spec_l01Var.f k (l0_3.length : Int)).bind fun t146 => (if (((strOfNums y141) ++ t144) ++ t145).size + t146.size ≤ 9223372036854775807 then (spec_ValText.l0 k ((((strOfNums y141) ++ t144) ++ t145) ++ t146) 0 a0_0 a0_1 a0_2 l0_3) else (none))) else (none)) = some (r1,r2):=H
   have A6:=Aside0.mk A60
   clear A60
   by_cases c7 : ((strOfNums y141) ++ t144).size + t145.size ≤ 9223372036854775807
   ·rw [if_pos c7] at H
    have c7b0:=eq_true c7
    have c7b1 : decide (((strOfNums y141) ++ t144).size + t145.size ≤ 9223372036854775807) = true:=decide_eq_true c7
    try have c7b2 : (9223372036854775807 < ((strOfNums y141) ++ t144).size + t145.size) = False:=eq_false (Nat.not_lt.2 c7)
    have c7n:=c7
    simp only [ByteArray.size_append] at c7n
    have c7m1:=eq_true c7n
    have c7m2:=decide_eq_true c7n
    have c7m3:=eq_false (Nat.not_lt.2 c7n)
    replace H:=Option.bind_eq_some_iff.mp H
    obtain ⟨t146,A80,H⟩:=H
    replace H : (if (((strOfNums y141) ++ t144) ++ t145).size + t146.size ≤ 9223372036854775807 then (spec_ValText.l0 k ((((strOfNums y141) ++ t144) ++ t145) ++ t146) 0 a0_0 a0_1 a0_2 l0_3) else (none)) = some (r1,r2):=H
    have A8:=Aside0.mk A80
    clear A80
    by_cases c9 : (((strOfNums y141) ++ t144) ++ t145).size + t146.size ≤ 9223372036854775807
    ·rw [if_pos c9] at H
     have c9b0:=eq_true c9
     have c9b1 : decide ((((strOfNums y141) ++ t144) ++ t145).size + t146.size ≤ 9223372036854775807) = true:=decide_eq_true c9
     try have c9b2 : (9223372036854775807 < (((strOfNums y141) ++ t144) ++ t145).size + t146.size) = False:=eq_false (Nat.not_lt.2 c9)
     have c9n:=c9
     simp only [ByteArray.size_append] at c9n
     have c9m1:=eq_true c9n
     have c9m2:=decide_eq_true c9n
     have c9m3:=eq_false (Nat.not_lt.2 c9n)
     have H':=Aside0.mk H
     clear H
     go_enter Try.func15,Try.ntmps15
     try go_wp2_with (first | ((with_reducible refine gate_dst (N:=1) rfl ?_);refine box_event ?hg (N:=1) ?hd (cs:=#[.int .i64 a0_0,.int .i64 a0_1,.string a0_2,.slice A0_3 l0_3.length c0_3]) (t:=40) ?hr ?_;(case hd => rfl);(case hg => rfl);(case hr => first | (go_simp;done) | (go_simp;rfl));intro gb139 hg w10 hbox hb;have n0_:=Aside0.mk (zS0 HB.out hb);have n1_:=Aside0.mk (hbox);have n2_:=Aside0.mk ((by rw [hg];exact (zZ0 HB.out) : w.heap.size ≤ gb139));have n3_:=Aside0.mk ((by rw [hg];exact (zZ0 HB.out) : w.heap.size ≤ gb139));clear HB;have HB:=n0_;have BK139:=n1_;have GW139:=n2_;have GE139:=n3_;clear n0_ n1_ n2_ n3_;clear hb hbox hg;have hcz11_0 : w10.cell? ⟨gb139,0,none⟩ = some (.int .i64 a0_0):=(blk_cell BK139.out 0).trans rfl;have hcz11_1 : w10.cell? ⟨gb139,1,none⟩ = some (.int .i64 a0_1):=(blk_cell BK139.out 1).trans rfl;have hcz11_2 : w10.cell? ⟨gb139,2,none⟩ = some (.string a0_2):=(blk_cell BK139.out 2).trans rfl;have hcz11_3 : w10.cell? ⟨gb139,3,none⟩ = some (.slice A0_3 l0_3.length c0_3):=(blk_cell BK139.out 3).trans rfl;have hfz11_0:=blk_frozen BK139.out 0;have hfz11_1:=blk_frozen BK139.out 1;have hfz11_2:=blk_frozen BK139.out 2;have hfz11_3:=blk_frozen BK139.out 3) | ((with_reducible refine gate_callee (f:=31) rfl ?_);refine goesL_ (some 7) rfl rfl Try.func31 (by kernel_rfl) rfl #[.agg #[.int .i64 a0_0,.int .i64 a0_1,.string a0_2,.slice A0_3 l0_3.length c0_3]] rfl zM0 ?_;(with_reducible refine (spec_ValOk.calls k a0_0 a0_1 a0_2 _ _ l0_3 true _ ?side1 ?side2 A2.out).mono ?_);(case side1 => repeat (first | exact (Kd.C_below HR0_3.out HB.out) | (with_reducible refine Kd.C_alloc ?_ _) | (with_reducible refine Kd.C_drewN ?_ _) | (with_reducible refine Kd.C_drew ?_)));(case side2 => exact HC0_3.out);rintro e w12 ⟨rfl,hb⟩;refine ⟨_,rfl,?_⟩;have n0_:=Aside0.mk (zB0 BK139.out hb);have n1_:=Aside0.mk (zS0 HB.out hb);clear BK139;clear HB;have BK139:=n0_;have HB:=n1_;clear n0_ n1_;(try clear hb);(try clear hb2);(try clear hk);(try clear hi)))
     have n0_:=Aside0.mk (blk_drew BK139.out)
     have n1_:=Aside0.mk (below_drew1 HB.out)
     clear BK139
     clear HB
     have BK139:=n0_
     have HB:=n1_
     clear n0_ n1_
     refine start_ (n:=19) (S:=fun w' => w'.cell? ⟨gb139,0,none⟩ = some (.int .i64 a0_0) ∧ w'.cell? ⟨gb139,1,none⟩ = some (.int .i64 a0_1) ∧ w'.cell? ⟨gb139,2,none⟩ = some (.string a0_2) ∧ w'.cell? ⟨gb139,3,none⟩ = some (.slice A0_3 l0_3.length c0_3)) (ds:=[]) (zF0 19 0) (by kernel_rfl) rfl rfl ⟨(blk_cell BK139.out 0).trans rfl,(blk_cell BK139.out 1).trans rfl,(blk_cell BK139.out 2).trans rfl,(blk_cell BK139.out 3).trans rfl⟩ (fun hHeld => ?_);refine with_tabW spec_ValText.tab3 spec_ValText.bits3 (fun HT_ HW_ => ?_)
     generalize w12.drew = w13 at BK139 HB hHeld ⊢
     refine zP0 (i:=0) (N:=some 9) (zF0 19 1) rfl rfl HT_.out ?_
     refine zP0 (i:=5) (N:=some 14) (zF0 19 33) rfl rfl HT_.out ?_
     refine zP0 (i:=9) (N:=some 18) (zF0 19 545) rfl rfl HT_.out ?_
     refine zP0 (i:=13) (N:=some 22) (zF0 19 8737) rfl rfl HT_.out ?_
     refine take_ (i:=1) (N:=some 10) (v:=?_) (a':=?_) (zF0 19 8739) rfl rfl (take_ofW HT_.out HW_.out (by kernel_rfl)) (fun _ _ _ h => h) (Or.inl ⟨by rfl,?_⟩) hHeld ?_ ?_;rotate_left
     ·rintro w' ⟨s0,s1,s2,s3⟩
      go_simp
      with_reducible rfl
     rotate_left
     ·simp only [Act.put,qA0,qB0,qC0,i64_w,i32_w];rfl
     refine zP0 (i:=2) (N:=some 11) (zF0 19 8743) rfl rfl HT_.out ?_
     refine take_ (i:=6) (N:=some 15) (v:=?_) (a':=?_) (zF0 19 8807) rfl rfl (take_ofW HT_.out HW_.out (by kernel_rfl)) (fun _ _ _ h => h) (Or.inl ⟨by rfl,?_⟩) hHeld ?_ ?_;rotate_left
     ·rintro w' ⟨s0,s1,s2,s3⟩
      go_simp
      with_reducible rfl
     rotate_left
     ·simp only [Act.put,qA0,qB0,qC0,i64_w,i32_w];rfl
     refine take_ (i:=10) (N:=some 19) (v:=?_) (a':=?_) (zF0 19 9831) rfl rfl (take_ofW HT_.out HW_.out (by kernel_rfl)) (fun _ _ _ h => h) (Or.inl ⟨by rfl,?_⟩) hHeld ?_ ?_;rotate_left
     ·rintro w' ⟨s0,s1,s2,s3⟩
      go_simp
      with_reducible rfl
     rotate_left
     ·simp only [Act.put,qA0,qB0,qC0,i64_w,i32_w];rfl
     refine take_ (i:=14) (N:=some 23) (v:=?_) (a':=?_) (zF0 19 26215) rfl rfl (take_ofW HT_.out HW_.out (by kernel_rfl)) (fun _ _ _ h => h) (Or.inl ⟨by rfl,?_⟩) hHeld ?_ ?_;rotate_left
     ·rintro w' ⟨s0,s1,s2,s3⟩
      go_simp
      with_reducible rfl
     rotate_left
     ·simp only [Act.put,qA0,qB0,qC0,i64_w,i32_w];rfl
     refine zP0 (i:=15) (N:=some 24) (zF0 19 58983) rfl rfl HT_.out ?_
     refine join_ (σ:=Value) 2 (zF0 19 131071) (fun s_ => [(12,s_),(13,.string (strOfNums y141)),(16,.string t144),(20,.string t145),(25,.string t146),(17,.string ((strOfNums y141) ++ t144)),(21,.string (((strOfNums y141) ++ t144) ++ t145))]) (fun s_ w' => (w'.cell? ⟨gb139,0,none⟩ = some (.int .i64 a0_0) ∧ w'.cell? ⟨gb139,1,none⟩ = some (.int .i64 a0_1) ∧ w'.cell? ⟨gb139,2,none⟩ = some (.string a0_2) ∧ w'.cell? ⟨gb139,3,none⟩ = some (.slice A0_3 l0_3.length c0_3)) ∧ (Kd.R (Kd.int .u8) 5 w' w.heap.size (fun _ => True) s_ y141) ∧ (w'.heap[gb139]? = some (.cells #[.int .i64 a0_0,.int .i64 a0_1,.string a0_2,.slice A0_3 l0_3.length c0_3] 40 (0,0))) ∧ (Below w.heap.size w w')) ?_ ?_
     rotate_left
     ·intro hJ3_4_7_11_16
      refine join_ (σ:=Value) 3 (zF0 19 65535) (fun s_ => [(12,s_),(13,.string (strOfNums y141)),(16,.string t144),(20,.string t145),(17,.string ((strOfNums y141) ++ t144)),(21,.string (((strOfNums y141) ++ t144) ++ t145))]) (fun s_ w' => (w'.cell? ⟨gb139,0,none⟩ = some (.int .i64 a0_0) ∧ w'.cell? ⟨gb139,1,none⟩ = some (.int .i64 a0_1) ∧ w'.cell? ⟨gb139,2,none⟩ = some (.string a0_2) ∧ w'.cell? ⟨gb139,3,none⟩ = some (.slice A0_3 l0_3.length c0_3)) ∧ (Kd.R (Kd.int .u8) 5 w' w.heap.size (fun _ => True) s_ y141) ∧ (w'.heap[gb139]? = some (.cells #[.int .i64 a0_0,.int .i64 a0_1,.string a0_2,.slice A0_3 l0_3.length c0_3] 40 (0,0))) ∧ (Below w.heap.size w w')) ?_ ?_
      rotate_left
      ·intro hJ3_4_7_11
       refine join_ (σ:=Value) 5 (zF0 19 126703) (fun s_ => [(12,s_),(16,.string t144),(20,.string t145),(25,.string t146)]) (fun s_ w' => (w'.cell? ⟨gb139,0,none⟩ = some (.int .i64 a0_0) ∧ w'.cell? ⟨gb139,1,none⟩ = some (.int .i64 a0_1) ∧ w'.cell? ⟨gb139,2,none⟩ = some (.string a0_2) ∧ w'.cell? ⟨gb139,3,none⟩ = some (.slice A0_3 l0_3.length c0_3)) ∧ (Kd.R (Kd.int .u8) 5 w' w.heap.size (fun _ => True) s_ y141) ∧ (w'.heap[gb139]? = some (.cells #[.int .i64 a0_0,.int .i64 a0_1,.string a0_2,.slice A0_3 l0_3.length c0_3] 40 (0,0))) ∧ (Below w.heap.size w w')) ?_ ?_
       rotate_left
       ·intro hJ3_7_11_16
        refine join_ (σ:=Value) 5 (zF0 19 59391) (fun s_ => [(12,s_),(13,.string (strOfNums y141)),(16,.string t144),(17,.string ((strOfNums y141) ++ t144))]) (fun s_ w' => (w'.cell? ⟨gb139,0,none⟩ = some (.int .i64 a0_0) ∧ w'.cell? ⟨gb139,1,none⟩ = some (.int .i64 a0_1) ∧ w'.cell? ⟨gb139,2,none⟩ = some (.string a0_2) ∧ w'.cell? ⟨gb139,3,none⟩ = some (.slice A0_3 l0_3.length c0_3)) ∧ (Kd.R (Kd.int .u8) 5 w' w.heap.size (fun _ => True) s_ y141) ∧ (w'.heap[gb139]? = some (.cells #[.int .i64 a0_0,.int .i64 a0_1,.string a0_2,.slice A0_3 l0_3.length c0_3] 40 (0,0))) ∧ (Below w.heap.size w w')) ?_ ?_
        rotate_left
        ·intro hJ3_4_7
         refine join_ (σ:=Value) 6 (zF0 19 61167) (fun s_ => [(12,s_),(16,.string t144),(20,.string t145)]) (fun s_ w' => (w'.cell? ⟨gb139,0,none⟩ = some (.int .i64 a0_0) ∧ w'.cell? ⟨gb139,1,none⟩ = some (.int .i64 a0_1) ∧ w'.cell? ⟨gb139,2,none⟩ = some (.string a0_2) ∧ w'.cell? ⟨gb139,3,none⟩ = some (.slice A0_3 l0_3.length c0_3)) ∧ (Kd.R (Kd.int .u8) 5 w' w.heap.size (fun _ => True) s_ y141) ∧ (w'.heap[gb139]? = some (.cells #[.int .i64 a0_0,.int .i64 a0_1,.string a0_2,.slice A0_3 l0_3.length c0_3] 40 (0,0))) ∧ (Below w.heap.size w w')) ?_ ?_
         rotate_left
         ·intro hJ3_7_11
          refine join_ (σ:=Unit) 6 (zF0 19 126695) (fun s_ => [(16,.string t144),(20,.string t145),(25,.string t146)]) (fun s_ w' => (w'.cell? ⟨gb139,0,none⟩ = some (.int .i64 a0_0) ∧ w'.cell? ⟨gb139,1,none⟩ = some (.int .i64 a0_1) ∧ w'.cell? ⟨gb139,2,none⟩ = some (.string a0_2) ∧ w'.cell? ⟨gb139,3,none⟩ = some (.slice A0_3 l0_3.length c0_3)) ∧ (w'.heap[gb139]? = some (.cells #[.int .i64 a0_0,.int .i64 a0_1,.string a0_2,.slice A0_3 l0_3.length c0_3] 40 (0,0))) ∧ (Below w.heap.size w w')) ?_ ?_
          rotate_left
          ·intro hJ7_11_16
           refine join_ (σ:=Value) 7 (zF0 19 59007) (fun s_ => [(12,s_),(13,.string (strOfNums y141))]) (fun s_ w' => (w'.cell? ⟨gb139,0,none⟩ = some (.int .i64 a0_0) ∧ w'.cell? ⟨gb139,1,none⟩ = some (.int .i64 a0_1) ∧ w'.cell? ⟨gb139,2,none⟩ = some (.string a0_2) ∧ w'.cell? ⟨gb139,3,none⟩ = some (.slice A0_3 l0_3.length c0_3)) ∧ (Kd.R (Kd.int .u8) 5 w' w.heap.size (fun _ => True) s_ y141) ∧ (w'.heap[gb139]? = some (.cells #[.int .i64 a0_0,.int .i64 a0_1,.string a0_2,.slice A0_3 l0_3.length c0_3] 40 (0,0))) ∧ (Below w.heap.size w w')) ?_ ?_
           rotate_left
           ·intro hJ3_4
            refine join_ (σ:=Value) 7 (zF0 19 59119) (fun s_ => [(12,s_),(16,.string t144)]) (fun s_ w' => (w'.cell? ⟨gb139,0,none⟩ = some (.int .i64 a0_0) ∧ w'.cell? ⟨gb139,1,none⟩ = some (.int .i64 a0_1) ∧ w'.cell? ⟨gb139,2,none⟩ = some (.string a0_2) ∧ w'.cell? ⟨gb139,3,none⟩ = some (.slice A0_3 l0_3.length c0_3)) ∧ (Kd.R (Kd.int .u8) 5 w' w.heap.size (fun _ => True) s_ y141) ∧ (w'.heap[gb139]? = some (.cells #[.int .i64 a0_0,.int .i64 a0_1,.string a0_2,.slice A0_3 l0_3.length c0_3] 40 (0,0))) ∧ (Below w.heap.size w w')) ?_ ?_
            rotate_left
            ·intro hJ3_7
             refine join_ (σ:=Unit) 7 (zF0 19 61159) (fun s_ => [(16,.string t144),(20,.string t145)]) (fun s_ w' => (w'.cell? ⟨gb139,0,none⟩ = some (.int .i64 a0_0) ∧ w'.cell? ⟨gb139,1,none⟩ = some (.int .i64 a0_1) ∧ w'.cell? ⟨gb139,2,none⟩ = some (.string a0_2) ∧ w'.cell? ⟨gb139,3,none⟩ = some (.slice A0_3 l0_3.length c0_3)) ∧ (w'.heap[gb139]? = some (.cells #[.int .i64 a0_0,.int .i64 a0_1,.string a0_2,.slice A0_3 l0_3.length c0_3] 40 (0,0))) ∧ (Below w.heap.size w w')) ?_ ?_
             rotate_left
             ·intro hJ7_11
              refine join_ (σ:=Value) 8 (zF0 19 58991) (fun s_ => [(12,s_)]) (fun s_ w' => (w'.cell? ⟨gb139,0,none⟩ = some (.int .i64 a0_0) ∧ w'.cell? ⟨gb139,1,none⟩ = some (.int .i64 a0_1) ∧ w'.cell? ⟨gb139,2,none⟩ = some (.string a0_2) ∧ w'.cell? ⟨gb139,3,none⟩ = some (.slice A0_3 l0_3.length c0_3)) ∧ (Kd.R (Kd.int .u8) 5 w' w.heap.size (fun _ => True) s_ y141) ∧ (w'.heap[gb139]? = some (.cells #[.int .i64 a0_0,.int .i64 a0_1,.string a0_2,.slice A0_3 l0_3.length c0_3] 40 (0,0))) ∧ (Below w.heap.size w w')) ?_ ?_
              rotate_left
              ·intro hJ3
               refine join_ (σ:=Unit) 8 (zF0 19 59111) (fun s_ => [(16,.string t144)]) (fun s_ w' => (w'.cell? ⟨gb139,0,none⟩ = some (.int .i64 a0_0) ∧ w'.cell? ⟨gb139,1,none⟩ = some (.int .i64 a0_1) ∧ w'.cell? ⟨gb139,2,none⟩ = some (.string a0_2) ∧ w'.cell? ⟨gb139,3,none⟩ = some (.slice A0_3 l0_3.length c0_3)) ∧ (w'.heap[gb139]? = some (.cells #[.int .i64 a0_0,.int .i64 a0_1,.string a0_2,.slice A0_3 l0_3.length c0_3] 40 (0,0))) ∧ (Below w.heap.size w w')) ?_ ?_
               rotate_left
               ·intro hJ7
                refine two_ (i:=3) (j:=7) (Ni:=some 12) (Nj:=some 16) (zF0 19 58991) (zF0 19 59111) rfl rfl rfl rfl (two_of HT_.out (by kernel_rfl)) (by decide) (by decide) (fun K hK => ?_) (fun K hK => ?_)
                ·skip
                 refine Kd.R_lit_step (Kd.int .u8) _ 5 ?hg (N:=12) ?hd (xs:=([(a0_0) % 256] : List Int)) (inner:=[.int .u8 ((a0_0) % 256)]) (ok:=fun _ => True) (okp:=fun _ => True) ?hr ?hp (fun _ hk => hk) trivial (Below.refl _ _) (Nat.le_refl _) (by simp) ?_;(case hd => rfl);(case hg => rfl);(case hr => first | (go_simp;done) | (go_simp;rfl));(case hp => exact (Reps.one (show Kd.M (Kd.int .u8) _ _ _ ((a0_0) % 256) [.int .u8 ((a0_0) % 256)] from rfl) (Reps.none _ _)))
                 intro v142 w14 ho15 hb hg_ hnew_
                 clear hg_ hnew_
                 (first | rw [← Ny141.out] at ho15 | (simp only [Int.reduceToNat] at ho15;rw [← Ny141.out] at ho15))
                 have n0_:=Aside0.mk (Kd.R_lower ho15 (zZ0 HB.out))
                 have n1_:=Aside0.mk (zB0 BK139.out hb)
                 have n2_:=Aside0.mk (zS0 HB.out hb)
                 clear BK139
                 clear HB
                 have HO143:=n0_
                 have BK139:=n1_
                 have HB:=n2_
                 clear n0_ n1_ n2_
                 clear hb ho15
                 refine hK.out _ _ ⟨(blk_cell BK139.out 0).trans rfl,(blk_cell BK139.out 1).trans rfl,(blk_cell BK139.out 2).trans rfl,(blk_cell BK139.out 3).trans rfl⟩ (fun hHeld => ?_)
                 clear hK K
                 refine norm_ (a':=?_) ?_ ?_;rotate_left
                 ·show Act.put _ (some 12) _ = _;simp only [Act.put,qA0,qB0,qC0,i64_w,i32_w];rfl
                 exact norm_ (by first | (simp only [putAll,Act.put,qA0,qB0,qC0];done) | (simp only [putAll,Act.put,qA0,qB0,qC0];rfl)) (hJ3 (v142) _ ⟨hHeld,(zR0 HO143.out),(zK0 BK139.out),(by repeat (first | (with_reducible first | exact HB.out | apply below_alloc | apply pw_below_drewN | apply below_drew1 | refine below_set ?_ GE139.out) | exact HB.out))⟩)
                ·skip
                 refine goes_ Try.func32 (by kernel_rfl) rfl #[.int .i64 a0_1] (by rfl) rfl rfl zM0 ?_
                 with_reducible refine (spec_l01Var.calls k a0_1 t144 _ A4.out).mono ?_
                 rintro e w14 ⟨rfl,hb⟩
                 refine ⟨_,rfl,?_⟩
                 have n0_:=Aside0.mk (zB0 BK139.out hb)
                 have n1_:=Aside0.mk (zS0 HB.out hb)
                 clear BK139
                 clear HB
                 have BK139:=n0_
                 have HB:=n1_
                 clear n0_ n1_
                 (try clear hb)
                 (try clear hb2)
                 (try clear hk)
                 (try clear hi)
                 refine hK.out _ _ ⟨(blk_cell BK139.out 0).trans rfl,(blk_cell BK139.out 1).trans rfl,(blk_cell BK139.out 2).trans rfl,(blk_cell BK139.out 3).trans rfl⟩ (fun hHeld => ?_)
                 clear hK K
                 refine norm_ (a':=?_) ?_ ?_;rotate_left
                 ·show Act.put _ (some 16) _ = _;simp only [Act.put,qA0,qB0,qC0,i64_w,i32_w];rfl
                 exact norm_ (by first | (simp only [putAll,Act.put,qA0,qB0,qC0];done) | (simp only [putAll,Act.put,qA0,qB0,qC0];rfl)) (hJ7 () _ ⟨hHeld,(zK0 BK139.out),(by repeat (first | (with_reducible first | exact HB.out | apply below_alloc | apply pw_below_drewN | apply below_drew1 | refine below_set ?_ GE139.out) | exact HB.out))⟩)
               ·skip
                rintro _ w15 ⟨hS_,h0_,h1_⟩
                have n0_ : Aside0 (w15.heap[gb139]? = some (.cells #[.int .i64 a0_0,.int .i64 a0_1,.string a0_2,.slice A0_3 l0_3.length c0_3] 40 (0,0))):=⟨h0_⟩
                have n1_ : Aside0 (Below w.heap.size w w15):=⟨h1_⟩
                clear BK139
                clear HB
                clear h0_ h1_
                have BK139:=n0_
                have HB:=n1_
                clear n0_ n1_
                have hHeld : w15.cell? ⟨gb139,0,none⟩ = some (.int .i64 a0_0) ∧ w15.cell? ⟨gb139,1,none⟩ = some (.int .i64 a0_1) ∧ w15.cell? ⟨gb139,2,none⟩ = some (.string a0_2) ∧ w15.cell? ⟨gb139,3,none⟩ = some (.slice A0_3 l0_3.length c0_3):=hS_
                refine norm_ (a':=?_) ?_ ?_;rotate_left
                ·simp only [putAll,Act.put,qA0,qB0,qC0]
                 rfl
                refine two_ (i:=3) (j:=11) (Ni:=some 12) (Nj:=some 20) (zF0 19 59119) (zF0 19 61159) rfl rfl rfl rfl (two_of HT_.out (by kernel_rfl)) (by decide) (by decide) (fun K hK => ?_) (fun K hK => ?_)
                ·skip
                 refine Kd.R_lit_step (Kd.int .u8) _ 5 ?hg (N:=12) ?hd (xs:=([(a0_0) % 256] : List Int)) (inner:=[.int .u8 ((a0_0) % 256)]) (ok:=fun _ => True) (okp:=fun _ => True) ?hr ?hp (fun _ hk => hk) trivial (Below.refl _ _) (Nat.le_refl _) (by simp) ?_;(case hd => rfl);(case hg => rfl);(case hr => first | (go_simp;done) | (go_simp;rfl));(case hp => exact (Reps.one (show Kd.M (Kd.int .u8) _ _ _ ((a0_0) % 256) [.int .u8 ((a0_0) % 256)] from rfl) (Reps.none _ _)))
                 intro v142 w16 ho17 hb hg_ hnew_
                 clear hg_ hnew_
                 (first | rw [← Ny141.out] at ho17 | (simp only [Int.reduceToNat] at ho17;rw [← Ny141.out] at ho17))
                 have n0_:=Aside0.mk (Kd.R_lower ho17 (zZ0 HB.out))
                 have n1_:=Aside0.mk (zB0 BK139.out hb)
                 have n2_:=Aside0.mk (zS0 HB.out hb)
                 clear BK139
                 clear HB
                 have HO143:=n0_
                 have BK139:=n1_
                 have HB:=n2_
                 clear n0_ n1_ n2_
                 clear hb ho17
                 refine hK.out _ _ ⟨(blk_cell BK139.out 0).trans rfl,(blk_cell BK139.out 1).trans rfl,(blk_cell BK139.out 2).trans rfl,(blk_cell BK139.out 3).trans rfl⟩ (fun hHeld => ?_)
                 clear hK K
                 refine norm_ (a':=?_) ?_ ?_;rotate_left
                 ·show Act.put _ (some 12) _ = _;simp only [Act.put,qA0,qB0,qC0,i64_w,i32_w];rfl
                 exact norm_ (by first | (simp only [putAll,Act.put,qA0,qB0,qC0];done) | (simp only [putAll,Act.put,qA0,qB0,qC0];rfl)) (hJ3_7 (v142) _ ⟨hHeld,(zR0 HO143.out),(zK0 BK139.out),(by repeat (first | (with_reducible first | exact HB.out | apply below_alloc | apply pw_below_drewN | apply below_drew1 | refine below_set ?_ GE139.out) | exact HB.out))⟩)
                ·skip
                 refine goes_ Try.func33 (by kernel_rfl) rfl #[.string a0_2] (by rfl) rfl rfl zM0 ?_
                 with_reducible refine (spec_l05Short.calls k a0_2 t145 _ A6.out).mono ?_
                 rintro e w16 ⟨rfl,hb⟩
                 refine ⟨_,rfl,?_⟩
                 have n0_:=Aside0.mk (zB0 BK139.out hb)
                 have n1_:=Aside0.mk (zS0 HB.out hb)
                 clear BK139
                 clear HB
                 have BK139:=n0_
                 have HB:=n1_
                 clear n0_ n1_
                 (try clear hb)
                 (try clear hb2)
                 (try clear hk)
                 (try clear hi)
                 refine hK.out _ _ ⟨(blk_cell BK139.out 0).trans rfl,(blk_cell BK139.out 1).trans rfl,(blk_cell BK139.out 2).trans rfl,(blk_cell BK139.out 3).trans rfl⟩ (fun hHeld => ?_)
                 clear hK K
                 refine norm_ (a':=?_) ?_ ?_;rotate_left
                 ·show Act.put _ (some 20) _ = _;simp only [Act.put,qA0,qB0,qC0,i64_w,i32_w];rfl
                 exact norm_ (by first | (simp only [putAll,Act.put,qA0,qB0,qC0];done) | (simp only [putAll,Act.put,qA0,qB0,qC0];rfl)) (hJ7_11 () _ ⟨hHeld,(zK0 BK139.out),(by repeat (first | (with_reducible first | exact HB.out | apply below_alloc | apply pw_below_drewN | apply below_drew1 | refine below_set ?_ GE139.out) | exact HB.out))⟩)
              ·skip
               rintro v142 w16 ⟨hS_,h0_,h1_,h2_⟩
               have n0_ : Aside0 (Kd.R (Kd.int .u8) 5 w16 w.heap.size (fun _ => True) v142 y141):=⟨h0_⟩
               have n1_ : Aside0 (w16.heap[gb139]? = some (.cells #[.int .i64 a0_0,.int .i64 a0_1,.string a0_2,.slice A0_3 l0_3.length c0_3] 40 (0,0))):=⟨h1_⟩
               have n2_ : Aside0 (Below w.heap.size w w16):=⟨h2_⟩
               clear BK139
               clear HB
               clear h0_ h1_ h2_
               have HO143:=n0_
               have BK139:=n1_
               have HB:=n2_
               clear n0_ n1_ n2_
               have hHeld : w16.cell? ⟨gb139,0,none⟩ = some (.int .i64 a0_0) ∧ w16.cell? ⟨gb139,1,none⟩ = some (.int .i64 a0_1) ∧ w16.cell? ⟨gb139,2,none⟩ = some (.string a0_2) ∧ w16.cell? ⟨gb139,3,none⟩ = some (.slice A0_3 l0_3.length c0_3):=hS_
               refine norm_ (a':=?_) ?_ ?_;rotate_left
               ·simp only [putAll,Act.put,qA0,qB0,qC0]
                rfl
               refine two_ (i:=4) (j:=7) (Ni:=some 13) (Nj:=some 16) (zF0 19 59007) (zF0 19 59119) rfl rfl rfl rfl (two_of HT_.out (by kernel_rfl)) (by decide) (by decide) (fun K hK => ?_) (fun K hK => ?_)
               ·skip
                have hcv17:=own_string (P:=Try.prog) Try.underlying61 Try.underlying5 Try.underlying9 (Kd.own_of_R HO143.out)
                refine value_ (w1:=?_) (v:=?_) (by rfl) rfl ?_ ?_
                rotate_left 2
                ·go_simp
                 constructor
                 ·rfl
                 ·rfl
                clear hcv17
                refine hK.out _ _ ⟨(blk_cell BK139.out 0).trans rfl,(blk_cell BK139.out 1).trans rfl,(blk_cell BK139.out 2).trans rfl,(blk_cell BK139.out 3).trans rfl⟩ (fun hHeld => ?_)
                clear hK K
                refine norm_ (a':=?_) ?_ ?_;rotate_left
                ·show Act.put _ (some 13) _ = _;simp only [Act.put,qA0,qB0,qC0,i64_w,i32_w];rfl
                exact norm_ (by first | (simp only [putAll,Act.put,qA0,qB0,qC0];done) | (simp only [putAll,Act.put,qA0,qB0,qC0];rfl)) (hJ3_4 (v142) _ ⟨hHeld,(zR0 HO143.out),(zK0 BK139.out),(by repeat (first | (with_reducible first | exact HB.out | apply below_alloc | apply pw_below_drewN | apply below_drew1 | refine below_set ?_ GE139.out) | exact HB.out))⟩)
               ·skip
                refine goes_ Try.func32 (by kernel_rfl) rfl #[.int .i64 a0_1] (by rfl) rfl rfl zM0 ?_
                with_reducible refine (spec_l01Var.calls k a0_1 t144 _ A4.out).mono ?_
                rintro e w17 ⟨rfl,hb⟩
                refine ⟨_,rfl,?_⟩
                have n0_:=Aside0.mk (Kd.R_below (zR0 HO143.out) hb)
                have n1_:=Aside0.mk (zB0 BK139.out hb)
                have n2_:=Aside0.mk (zS0 HB.out hb)
                clear HO143
                clear BK139
                clear HB
                have HO143:=n0_
                have BK139:=n1_
                have HB:=n2_
                clear n0_ n1_ n2_
                (try clear hb)
                (try clear hb2)
                (try clear hk)
                (try clear hi)
                refine hK.out _ _ ⟨(blk_cell BK139.out 0).trans rfl,(blk_cell BK139.out 1).trans rfl,(blk_cell BK139.out 2).trans rfl,(blk_cell BK139.out 3).trans rfl⟩ (fun hHeld => ?_)
                clear hK K
                refine norm_ (a':=?_) ?_ ?_;rotate_left
                ·show Act.put _ (some 16) _ = _;simp only [Act.put,qA0,qB0,qC0,i64_w,i32_w];rfl
                exact norm_ (by first | (simp only [putAll,Act.put,qA0,qB0,qC0];done) | (simp only [putAll,Act.put,qA0,qB0,qC0];rfl)) (hJ3_7 (v142) _ ⟨hHeld,(zR0 HO143.out),(zK0 BK139.out),(by repeat (first | (with_reducible first | exact HB.out | apply below_alloc | apply pw_below_drewN | apply below_drew1 | refine below_set ?_ GE139.out) | exact HB.out))⟩)
             ·skip
              rintro _ w16 ⟨hS_,h0_,h1_⟩
              have n0_ : Aside0 (w16.heap[gb139]? = some (.cells #[.int .i64 a0_0,.int .i64 a0_1,.string a0_2,.slice A0_3 l0_3.length c0_3] 40 (0,0))):=⟨h0_⟩
              have n1_ : Aside0 (Below w.heap.size w w16):=⟨h1_⟩
              clear BK139
              clear HB
              clear h0_ h1_
              have BK139:=n0_
              have HB:=n1_
              clear n0_ n1_
              have hHeld : w16.cell? ⟨gb139,0,none⟩ = some (.int .i64 a0_0) ∧ w16.cell? ⟨gb139,1,none⟩ = some (.int .i64 a0_1) ∧ w16.cell? ⟨gb139,2,none⟩ = some (.string a0_2) ∧ w16.cell? ⟨gb139,3,none⟩ = some (.slice A0_3 l0_3.length c0_3):=hS_
              refine norm_ (a':=?_) ?_ ?_;rotate_left
              ·simp only [putAll,Act.put,qA0,qB0,qC0]
               rfl
              refine two_ (i:=3) (j:=16) (Ni:=some 12) (Nj:=some 25) (zF0 19 61167) (zF0 19 126695) rfl rfl rfl rfl (two_of HT_.out (by kernel_rfl)) (by decide) (by decide) (fun K hK => ?_) (fun K hK => ?_)
              ·skip
               refine Kd.R_lit_step (Kd.int .u8) _ 5 ?hg (N:=12) ?hd (xs:=([(a0_0) % 256] : List Int)) (inner:=[.int .u8 ((a0_0) % 256)]) (ok:=fun _ => True) (okp:=fun _ => True) ?hr ?hp (fun _ hk => hk) trivial (Below.refl _ _) (Nat.le_refl _) (by simp) ?_;(case hd => rfl);(case hg => rfl);(case hr => first | (go_simp;done) | (go_simp;rfl));(case hp => exact (Reps.one (show Kd.M (Kd.int .u8) _ _ _ ((a0_0) % 256) [.int .u8 ((a0_0) % 256)] from rfl) (Reps.none _ _)))
               intro v142 w17 ho18 hb hg_ hnew_
               clear hg_ hnew_
               (first | rw [← Ny141.out] at ho18 | (simp only [Int.reduceToNat] at ho18;rw [← Ny141.out] at ho18))
               have n0_:=Aside0.mk (Kd.R_lower ho18 (zZ0 HB.out))
               have n1_:=Aside0.mk (zB0 BK139.out hb)
               have n2_:=Aside0.mk (zS0 HB.out hb)
               clear BK139
               clear HB
               have HO143:=n0_
               have BK139:=n1_
               have HB:=n2_
               clear n0_ n1_ n2_
               clear hb ho18
               refine hK.out _ _ ⟨(blk_cell BK139.out 0).trans rfl,(blk_cell BK139.out 1).trans rfl,(blk_cell BK139.out 2).trans rfl,(blk_cell BK139.out 3).trans rfl⟩ (fun hHeld => ?_)
               clear hK K
               refine norm_ (a':=?_) ?_ ?_;rotate_left
               ·show Act.put _ (some 12) _ = _;simp only [Act.put,qA0,qB0,qC0,i64_w,i32_w];rfl
               exact norm_ (by first | (simp only [putAll,Act.put,qA0,qB0,qC0];done) | (simp only [putAll,Act.put,qA0,qB0,qC0];rfl)) (hJ3_7_11 (v142) _ ⟨hHeld,(zR0 HO143.out),(zK0 BK139.out),(by repeat (first | (with_reducible first | exact HB.out | apply below_alloc | apply pw_below_drewN | apply below_drew1 | refine below_set ?_ GE139.out) | exact HB.out))⟩)
              ·skip
               refine goes_ Try.func32 (by kernel_rfl) rfl #[.int .i64 (l0_3.length : Int)] (by rfl) rfl rfl zM0 ?_
               with_reducible refine (spec_l01Var.calls k (l0_3.length : Int) t146 _ A8.out).mono ?_
               rintro e w17 ⟨rfl,hb⟩
               refine ⟨_,rfl,?_⟩
               have n0_:=Aside0.mk (zB0 BK139.out hb)
               have n1_:=Aside0.mk (zS0 HB.out hb)
               clear BK139
               clear HB
               have BK139:=n0_
               have HB:=n1_
               clear n0_ n1_
               (try clear hb)
               (try clear hb2)
               (try clear hk)
               (try clear hi)
               refine hK.out _ _ ⟨(blk_cell BK139.out 0).trans rfl,(blk_cell BK139.out 1).trans rfl,(blk_cell BK139.out 2).trans rfl,(blk_cell BK139.out 3).trans rfl⟩ (fun hHeld => ?_)
               clear hK K
               refine norm_ (a':=?_) ?_ ?_;rotate_left
               ·show Act.put _ (some 25) _ = _;simp only [Act.put,qA0,qB0,qC0,i64_w,i32_w];rfl
               exact norm_ (by first | (simp only [putAll,Act.put,qA0,qB0,qC0];done) | (simp only [putAll,Act.put,qA0,qB0,qC0];rfl)) (hJ7_11_16 () _ ⟨hHeld,(zK0 BK139.out),(by repeat (first | (with_reducible first | exact HB.out | apply below_alloc | apply pw_below_drewN | apply below_drew1 | refine below_set ?_ GE139.out) | exact HB.out))⟩)
            ·skip
             rintro v142 w17 ⟨hS_,h0_,h1_,h2_⟩
             have n0_ : Aside0 (Kd.R (Kd.int .u8) 5 w17 w.heap.size (fun _ => True) v142 y141):=⟨h0_⟩
             have n1_ : Aside0 (w17.heap[gb139]? = some (.cells #[.int .i64 a0_0,.int .i64 a0_1,.string a0_2,.slice A0_3 l0_3.length c0_3] 40 (0,0))):=⟨h1_⟩
             have n2_ : Aside0 (Below w.heap.size w w17):=⟨h2_⟩
             clear BK139
             clear HB
             clear h0_ h1_ h2_
             have HO143:=n0_
             have BK139:=n1_
             have HB:=n2_
             clear n0_ n1_ n2_
             have hHeld : w17.cell? ⟨gb139,0,none⟩ = some (.int .i64 a0_0) ∧ w17.cell? ⟨gb139,1,none⟩ = some (.int .i64 a0_1) ∧ w17.cell? ⟨gb139,2,none⟩ = some (.string a0_2) ∧ w17.cell? ⟨gb139,3,none⟩ = some (.slice A0_3 l0_3.length c0_3):=hS_
             refine norm_ (a':=?_) ?_ ?_;rotate_left
             ·simp only [putAll,Act.put,qA0,qB0,qC0]
              rfl
             refine two_ (i:=4) (j:=11) (Ni:=some 13) (Nj:=some 20) (zF0 19 59135) (zF0 19 61167) rfl rfl rfl rfl (two_of HT_.out (by kernel_rfl)) (by decide) (by decide) (fun K hK => ?_) (fun K hK => ?_)
             ·skip
              have hcv18:=own_string (P:=Try.prog) Try.underlying61 Try.underlying5 Try.underlying9 (Kd.own_of_R HO143.out)
              refine value_ (w1:=?_) (v:=?_) (by rfl) rfl ?_ ?_
              rotate_left 2
              ·go_simp
               constructor
               ·rfl
               ·rfl
              clear hcv18
              refine hK.out _ _ ⟨(blk_cell BK139.out 0).trans rfl,(blk_cell BK139.out 1).trans rfl,(blk_cell BK139.out 2).trans rfl,(blk_cell BK139.out 3).trans rfl⟩ (fun hHeld => ?_)
              clear hK K
              refine norm_ (a':=?_) ?_ ?_;rotate_left
              ·show Act.put _ (some 13) _ = _;simp only [Act.put,qA0,qB0,qC0,i64_w,i32_w];rfl
              refine zP0 (i:=8) (N:=some 17) (zF0 19 59391) rfl rfl HT_.out ?_
              exact norm_ (by first | (simp only [putAll,Act.put,qA0,qB0,qC0];done) | (simp only [putAll,Act.put,qA0,qB0,qC0];rfl)) (hJ3_4_7 (v142) _ ⟨hHeld,(zR0 HO143.out),(zK0 BK139.out),(by repeat (first | (with_reducible first | exact HB.out | apply below_alloc | apply pw_below_drewN | apply below_drew1 | refine below_set ?_ GE139.out) | exact HB.out))⟩)
             ·skip
              refine goes_ Try.func33 (by kernel_rfl) rfl #[.string a0_2] (by rfl) rfl rfl zM0 ?_
              with_reducible refine (spec_l05Short.calls k a0_2 t145 _ A6.out).mono ?_
              rintro e w18 ⟨rfl,hb⟩
              refine ⟨_,rfl,?_⟩
              have n0_:=Aside0.mk (Kd.R_below (zR0 HO143.out) hb)
              have n1_:=Aside0.mk (zB0 BK139.out hb)
              have n2_:=Aside0.mk (zS0 HB.out hb)
              clear HO143
              clear BK139
              clear HB
              have HO143:=n0_
              have BK139:=n1_
              have HB:=n2_
              clear n0_ n1_ n2_
              (try clear hb)
              (try clear hb2)
              (try clear hk)
              (try clear hi)
              refine hK.out _ _ ⟨(blk_cell BK139.out 0).trans rfl,(blk_cell BK139.out 1).trans rfl,(blk_cell BK139.out 2).trans rfl,(blk_cell BK139.out 3).trans rfl⟩ (fun hHeld => ?_)
              clear hK K
              refine norm_ (a':=?_) ?_ ?_;rotate_left
              ·show Act.put _ (some 20) _ = _;simp only [Act.put,qA0,qB0,qC0,i64_w,i32_w];rfl
              exact norm_ (by first | (simp only [putAll,Act.put,qA0,qB0,qC0];done) | (simp only [putAll,Act.put,qA0,qB0,qC0];rfl)) (hJ3_7_11 (v142) _ ⟨hHeld,(zR0 HO143.out),(zK0 BK139.out),(by repeat (first | (with_reducible first | exact HB.out | apply below_alloc | apply pw_below_drewN | apply below_drew1 | refine below_set ?_ GE139.out) | exact HB.out))⟩)
           ·skip
            rintro v142 w17 ⟨hS_,h0_,h1_,h2_⟩
            have n0_ : Aside0 (Kd.R (Kd.int .u8) 5 w17 w.heap.size (fun _ => True) v142 y141):=⟨h0_⟩
            have n1_ : Aside0 (w17.heap[gb139]? = some (.cells #[.int .i64 a0_0,.int .i64 a0_1,.string a0_2,.slice A0_3 l0_3.length c0_3] 40 (0,0))):=⟨h1_⟩
            have n2_ : Aside0 (Below w.heap.size w w17):=⟨h2_⟩
            clear BK139
            clear HB
            clear h0_ h1_ h2_
            have HO143:=n0_
            have BK139:=n1_
            have HB:=n2_
            clear n0_ n1_ n2_
            have hHeld : w17.cell? ⟨gb139,0,none⟩ = some (.int .i64 a0_0) ∧ w17.cell? ⟨gb139,1,none⟩ = some (.int .i64 a0_1) ∧ w17.cell? ⟨gb139,2,none⟩ = some (.string a0_2) ∧ w17.cell? ⟨gb139,3,none⟩ = some (.slice A0_3 l0_3.length c0_3):=hS_
            refine norm_ (a':=?_) ?_ ?_;rotate_left
            ·simp only [putAll,Act.put,qA0,qB0,qC0]
             rfl
            refine one_ (i:=7) (N:=some 16) (zF0 19 59135) rfl rfl (one_of HT_.out (by kernel_rfl)) (by decide) (fun K hK => ?_)
            refine goes_ Try.func32 (by kernel_rfl) rfl #[.int .i64 a0_1] (by rfl) rfl rfl zM0 ?_
            with_reducible refine (spec_l01Var.calls k a0_1 t144 _ A4.out).mono ?_
            rintro e w18 ⟨rfl,hb⟩
            refine ⟨_,rfl,?_⟩
            have n0_:=Aside0.mk (Kd.R_below (zR0 HO143.out) hb)
            have n1_:=Aside0.mk (zB0 BK139.out hb)
            have n2_:=Aside0.mk (zS0 HB.out hb)
            clear HO143
            clear BK139
            clear HB
            have HO143:=n0_
            have BK139:=n1_
            have HB:=n2_
            clear n0_ n1_ n2_
            (try clear hb)
            (try clear hb2)
            (try clear hk)
            (try clear hi)
            refine hK.out _ _ ⟨(blk_cell BK139.out 0).trans rfl,(blk_cell BK139.out 1).trans rfl,(blk_cell BK139.out 2).trans rfl,(blk_cell BK139.out 3).trans rfl⟩ (fun hHeld => ?_)
            clear hK K
            refine norm_ (a':=?_) ?_ ?_;rotate_left
            ·show Act.put _ (some 16) _ = _;simp only [Act.put,qA0,qB0,qC0,i64_w,i32_w];rfl
            refine zP0 (i:=8) (N:=some 17) (zF0 19 59391) rfl rfl HT_.out ?_
            exact norm_ (by first | (simp only [putAll,Act.put,qA0,qB0,qC0];done) | (simp only [putAll,Act.put,qA0,qB0,qC0];rfl)) (hJ3_4_7 (v142) _ ⟨hHeld,(zR0 HO143.out),(zK0 BK139.out),(by repeat (first | (with_reducible first | exact HB.out | apply below_alloc | apply pw_below_drewN | apply below_drew1 | refine below_set ?_ GE139.out) | exact HB.out))⟩)
          ·skip
           rintro _ w17 ⟨hS_,h0_,h1_⟩
           have n0_ : Aside0 (w17.heap[gb139]? = some (.cells #[.int .i64 a0_0,.int .i64 a0_1,.string a0_2,.slice A0_3 l0_3.length c0_3] 40 (0,0))):=⟨h0_⟩
           have n1_ : Aside0 (Below w.heap.size w w17):=⟨h1_⟩
           clear BK139
           clear HB
           clear h0_ h1_
           have BK139:=n0_
           have HB:=n1_
           clear n0_ n1_
           have hHeld : w17.cell? ⟨gb139,0,none⟩ = some (.int .i64 a0_0) ∧ w17.cell? ⟨gb139,1,none⟩ = some (.int .i64 a0_1) ∧ w17.cell? ⟨gb139,2,none⟩ = some (.string a0_2) ∧ w17.cell? ⟨gb139,3,none⟩ = some (.slice A0_3 l0_3.length c0_3):=hS_
           refine norm_ (a':=?_) ?_ ?_;rotate_left
           ·simp only [putAll,Act.put,qA0,qB0,qC0]
            rfl
           refine one_ (i:=3) (N:=some 12) (zF0 19 126703) rfl rfl (one_of HT_.out (by kernel_rfl)) (by decide) (fun K hK => ?_)
           refine Kd.R_lit_step (Kd.int .u8) _ 5 ?hg (N:=12) ?hd (xs:=([(a0_0) % 256] : List Int)) (inner:=[.int .u8 ((a0_0) % 256)]) (ok:=fun _ => True) (okp:=fun _ => True) ?hr ?hp (fun _ hk => hk) trivial (Below.refl _ _) (Nat.le_refl _) (by simp) ?_;(case hd => rfl);(case hg => rfl);(case hr => first | (go_simp;done) | (go_simp;rfl));(case hp => exact (Reps.one (show Kd.M (Kd.int .u8) _ _ _ ((a0_0) % 256) [.int .u8 ((a0_0) % 256)] from rfl) (Reps.none _ _)))
           intro v142 w18 ho19 hb hg_ hnew_
           clear hg_ hnew_
           (first | rw [← Ny141.out] at ho19 | (simp only [Int.reduceToNat] at ho19;rw [← Ny141.out] at ho19))
           have n0_:=Aside0.mk (Kd.R_lower ho19 (zZ0 HB.out))
           have n1_:=Aside0.mk (zB0 BK139.out hb)
           have n2_:=Aside0.mk (zS0 HB.out hb)
           clear BK139
           clear HB
           have HO143:=n0_
           have BK139:=n1_
           have HB:=n2_
           clear n0_ n1_ n2_
           clear hb ho19
           refine hK.out _ _ ⟨(blk_cell BK139.out 0).trans rfl,(blk_cell BK139.out 1).trans rfl,(blk_cell BK139.out 2).trans rfl,(blk_cell BK139.out 3).trans rfl⟩ (fun hHeld => ?_)
           clear hK K
           refine norm_ (a':=?_) ?_ ?_;rotate_left
           ·show Act.put _ (some 12) _ = _;simp only [Act.put,qA0,qB0,qC0,i64_w,i32_w];rfl
           exact norm_ (by first | (simp only [putAll,Act.put,qA0,qB0,qC0];done) | (simp only [putAll,Act.put,qA0,qB0,qC0];rfl)) (hJ3_7_11_16 (v142) _ ⟨hHeld,(zR0 HO143.out),(zK0 BK139.out),(by repeat (first | (with_reducible first | exact HB.out | apply below_alloc | apply pw_below_drewN | apply below_drew1 | refine below_set ?_ GE139.out) | exact HB.out))⟩)
         ·skip
          rintro v142 w18 ⟨hS_,h0_,h1_,h2_⟩
          have n0_ : Aside0 (Kd.R (Kd.int .u8) 5 w18 w.heap.size (fun _ => True) v142 y141):=⟨h0_⟩
          have n1_ : Aside0 (w18.heap[gb139]? = some (.cells #[.int .i64 a0_0,.int .i64 a0_1,.string a0_2,.slice A0_3 l0_3.length c0_3] 40 (0,0))):=⟨h1_⟩
          have n2_ : Aside0 (Below w.heap.size w w18):=⟨h2_⟩
          clear BK139
          clear HB
          clear h0_ h1_ h2_
          have HO143:=n0_
          have BK139:=n1_
          have HB:=n2_
          clear n0_ n1_ n2_
          have hHeld : w18.cell? ⟨gb139,0,none⟩ = some (.int .i64 a0_0) ∧ w18.cell? ⟨gb139,1,none⟩ = some (.int .i64 a0_1) ∧ w18.cell? ⟨gb139,2,none⟩ = some (.string a0_2) ∧ w18.cell? ⟨gb139,3,none⟩ = some (.slice A0_3 l0_3.length c0_3):=hS_
          refine norm_ (a':=?_) ?_ ?_;rotate_left
          ·simp only [putAll,Act.put,qA0,qB0,qC0]
           rfl
          refine two_ (i:=4) (j:=16) (Ni:=some 13) (Nj:=some 25) (zF0 19 61183) (zF0 19 126703) rfl rfl rfl rfl (two_of HT_.out (by kernel_rfl)) (by decide) (by decide) (fun K hK => ?_) (fun K hK => ?_)
          ·skip
           have hcv19:=own_string (P:=Try.prog) Try.underlying61 Try.underlying5 Try.underlying9 (Kd.own_of_R HO143.out)
           refine value_ (w1:=?_) (v:=?_) (by rfl) rfl ?_ ?_
           rotate_left 2
           ·go_simp
            constructor
            ·rfl
            ·rfl
           clear hcv19
           refine hK.out _ _ ⟨(blk_cell BK139.out 0).trans rfl,(blk_cell BK139.out 1).trans rfl,(blk_cell BK139.out 2).trans rfl,(blk_cell BK139.out 3).trans rfl⟩ (fun hHeld => ?_)
           clear hK K
           refine norm_ (a':=?_) ?_ ?_;rotate_left
           ·show Act.put _ (some 13) _ = _;simp only [Act.put,qA0,qB0,qC0,i64_w,i32_w];rfl
           refine zP0 (i:=8) (N:=some 17) (zF0 19 61439) rfl rfl HT_.out ?_
           refine zP0 (i:=12) (N:=some 21) (zF0 19 65535) rfl rfl HT_.out ?_
           exact norm_ (by first | (simp only [putAll,Act.put,qA0,qB0,qC0];done) | (simp only [putAll,Act.put,qA0,qB0,qC0];rfl)) (hJ3_4_7_11 (v142) _ ⟨hHeld,(zR0 HO143.out),(zK0 BK139.out),(by repeat (first | (with_reducible first | exact HB.out | apply below_alloc | apply pw_below_drewN | apply below_drew1 | refine below_set ?_ GE139.out) | exact HB.out))⟩)
          ·skip
           refine goes_ Try.func32 (by kernel_rfl) rfl #[.int .i64 (l0_3.length : Int)] (by rfl) rfl rfl zM0 ?_
           with_reducible refine (spec_l01Var.calls k (l0_3.length : Int) t146 _ A8.out).mono ?_
           rintro e w19 ⟨rfl,hb⟩
           refine ⟨_,rfl,?_⟩
           have n0_:=Aside0.mk (Kd.R_below (zR0 HO143.out) hb)
           have n1_:=Aside0.mk (zB0 BK139.out hb)
           have n2_:=Aside0.mk (zS0 HB.out hb)
           clear HO143
           clear BK139
           clear HB
           have HO143:=n0_
           have BK139:=n1_
           have HB:=n2_
           clear n0_ n1_ n2_
           (try clear hb)
           (try clear hb2)
           (try clear hk)
           (try clear hi)
           refine hK.out _ _ ⟨(blk_cell BK139.out 0).trans rfl,(blk_cell BK139.out 1).trans rfl,(blk_cell BK139.out 2).trans rfl,(blk_cell BK139.out 3).trans rfl⟩ (fun hHeld => ?_)
           clear hK K
           refine norm_ (a':=?_) ?_ ?_;rotate_left
           ·show Act.put _ (some 25) _ = _;simp only [Act.put,qA0,qB0,qC0,i64_w,i32_w];rfl
           exact norm_ (by first | (simp only [putAll,Act.put,qA0,qB0,qC0];done) | (simp only [putAll,Act.put,qA0,qB0,qC0];rfl)) (hJ3_7_11_16 (v142) _ ⟨hHeld,(zR0 HO143.out),(zK0 BK139.out),(by repeat (first | (with_reducible first | exact HB.out | apply below_alloc | apply pw_below_drewN | apply below_drew1 | refine below_set ?_ GE139.out) | exact HB.out))⟩)
        ·skip
         rintro v142 w18 ⟨hS_,h0_,h1_,h2_⟩
         have n0_ : Aside0 (Kd.R (Kd.int .u8) 5 w18 w.heap.size (fun _ => True) v142 y141):=⟨h0_⟩
         have n1_ : Aside0 (w18.heap[gb139]? = some (.cells #[.int .i64 a0_0,.int .i64 a0_1,.string a0_2,.slice A0_3 l0_3.length c0_3] 40 (0,0))):=⟨h1_⟩
         have n2_ : Aside0 (Below w.heap.size w w18):=⟨h2_⟩
         clear BK139
         clear HB
         clear h0_ h1_ h2_
         have HO143:=n0_
         have BK139:=n1_
         have HB:=n2_
         clear n0_ n1_ n2_
         have hHeld : w18.cell? ⟨gb139,0,none⟩ = some (.int .i64 a0_0) ∧ w18.cell? ⟨gb139,1,none⟩ = some (.int .i64 a0_1) ∧ w18.cell? ⟨gb139,2,none⟩ = some (.string a0_2) ∧ w18.cell? ⟨gb139,3,none⟩ = some (.slice A0_3 l0_3.length c0_3):=hS_
         refine norm_ (a':=?_) ?_ ?_;rotate_left
         ·simp only [putAll,Act.put,qA0,qB0,qC0]
          rfl
         refine one_ (i:=11) (N:=some 20) (zF0 19 61439) rfl rfl (one_of HT_.out (by kernel_rfl)) (by decide) (fun K hK => ?_)
         refine goes_ Try.func33 (by kernel_rfl) rfl #[.string a0_2] (by rfl) rfl rfl zM0 ?_
         with_reducible refine (spec_l05Short.calls k a0_2 t145 _ A6.out).mono ?_
         rintro e w19 ⟨rfl,hb⟩
         refine ⟨_,rfl,?_⟩
         have n0_:=Aside0.mk (Kd.R_below (zR0 HO143.out) hb)
         have n1_:=Aside0.mk (zB0 BK139.out hb)
         have n2_:=Aside0.mk (zS0 HB.out hb)
         clear HO143
         clear BK139
         clear HB
         have HO143:=n0_
         have BK139:=n1_
         have HB:=n2_
         clear n0_ n1_ n2_
         (try clear hb)
         (try clear hb2)
         (try clear hk)
         (try clear hi)
         refine hK.out _ _ ⟨(blk_cell BK139.out 0).trans rfl,(blk_cell BK139.out 1).trans rfl,(blk_cell BK139.out 2).trans rfl,(blk_cell BK139.out 3).trans rfl⟩ (fun hHeld => ?_)
         clear hK K
         refine norm_ (a':=?_) ?_ ?_;rotate_left
         ·show Act.put _ (some 20) _ = _;simp only [Act.put,qA0,qB0,qC0,i64_w,i32_w];rfl
         refine zP0 (i:=12) (N:=some 21) (zF0 19 65535) rfl rfl HT_.out ?_
         exact norm_ (by first | (simp only [putAll,Act.put,qA0,qB0,qC0];done) | (simp only [putAll,Act.put,qA0,qB0,qC0];rfl)) (hJ3_4_7_11 (v142) _ ⟨hHeld,(zR0 HO143.out),(zK0 BK139.out),(by repeat (first | (with_reducible first | exact HB.out | apply below_alloc | apply pw_below_drewN | apply below_drew1 | refine below_set ?_ GE139.out) | exact HB.out))⟩)
       ·skip
        rintro v142 w19 ⟨hS_,h0_,h1_,h2_⟩
        have n0_ : Aside0 (Kd.R (Kd.int .u8) 5 w19 w.heap.size (fun _ => True) v142 y141):=⟨h0_⟩
        have n1_ : Aside0 (w19.heap[gb139]? = some (.cells #[.int .i64 a0_0,.int .i64 a0_1,.string a0_2,.slice A0_3 l0_3.length c0_3] 40 (0,0))):=⟨h1_⟩
        have n2_ : Aside0 (Below w.heap.size w w19):=⟨h2_⟩
        clear BK139
        clear HB
        clear h0_ h1_ h2_
        have HO143:=n0_
        have BK139:=n1_
        have HB:=n2_
        clear n0_ n1_ n2_
        have hHeld : w19.cell? ⟨gb139,0,none⟩ = some (.int .i64 a0_0) ∧ w19.cell? ⟨gb139,1,none⟩ = some (.int .i64 a0_1) ∧ w19.cell? ⟨gb139,2,none⟩ = some (.string a0_2) ∧ w19.cell? ⟨gb139,3,none⟩ = some (.slice A0_3 l0_3.length c0_3):=hS_
        refine norm_ (a':=?_) ?_ ?_;rotate_left
        ·simp only [putAll,Act.put,qA0,qB0,qC0]
         rfl
        refine one_ (i:=4) (N:=some 13) (zF0 19 126719) rfl rfl (one_of HT_.out (by kernel_rfl)) (by decide) (fun K hK => ?_)
        have hcv20:=own_string (P:=Try.prog) Try.underlying61 Try.underlying5 Try.underlying9 (Kd.own_of_R HO143.out)
        refine value_ (w1:=?_) (v:=?_) (by rfl) rfl ?_ ?_
        rotate_left 2
        ·go_simp
         constructor
         ·rfl
         ·rfl
        clear hcv20
        refine hK.out _ _ ⟨(blk_cell BK139.out 0).trans rfl,(blk_cell BK139.out 1).trans rfl,(blk_cell BK139.out 2).trans rfl,(blk_cell BK139.out 3).trans rfl⟩ (fun hHeld => ?_)
        clear hK K
        refine norm_ (a':=?_) ?_ ?_;rotate_left
        ·show Act.put _ (some 13) _ = _;simp only [Act.put,qA0,qB0,qC0,i64_w,i32_w];rfl
        refine zP0 (i:=8) (N:=some 17) (zF0 19 126975) rfl rfl HT_.out ?_
        refine zP0 (i:=12) (N:=some 21) (zF0 19 131071) rfl rfl HT_.out ?_
        exact norm_ (by first | (simp only [putAll,Act.put,qA0,qB0,qC0];done) | (simp only [putAll,Act.put,qA0,qB0,qC0];rfl)) (hJ3_4_7_11_16 (v142) _ ⟨hHeld,(zR0 HO143.out),(zK0 BK139.out),(by repeat (first | (with_reducible first | exact HB.out | apply below_alloc | apply pw_below_drewN | apply below_drew1 | refine below_set ?_ GE139.out) | exact HB.out))⟩)
      ·skip
       rintro v142 w19 ⟨hS_,h0_,h1_,h2_⟩
       have n0_ : Aside0 (Kd.R (Kd.int .u8) 5 w19 w.heap.size (fun _ => True) v142 y141):=⟨h0_⟩
       have n1_ : Aside0 (w19.heap[gb139]? = some (.cells #[.int .i64 a0_0,.int .i64 a0_1,.string a0_2,.slice A0_3 l0_3.length c0_3] 40 (0,0))):=⟨h1_⟩
       have n2_ : Aside0 (Below w.heap.size w w19):=⟨h2_⟩
       clear BK139
       clear HB
       clear h0_ h1_ h2_
       have HO143:=n0_
       have BK139:=n1_
       have HB:=n2_
       clear n0_ n1_ n2_
       have hHeld : w19.cell? ⟨gb139,0,none⟩ = some (.int .i64 a0_0) ∧ w19.cell? ⟨gb139,1,none⟩ = some (.int .i64 a0_1) ∧ w19.cell? ⟨gb139,2,none⟩ = some (.string a0_2) ∧ w19.cell? ⟨gb139,3,none⟩ = some (.slice A0_3 l0_3.length c0_3):=hS_
       refine norm_ (a':=?_) ?_ ?_;rotate_left
       ·simp only [putAll,Act.put,qA0,qB0,qC0]
        rfl
       refine one_ (i:=16) (N:=some 25) (zF0 19 131071) rfl rfl (one_of HT_.out (by kernel_rfl)) (by decide) (fun K hK => ?_)
       refine goes_ Try.func32 (by kernel_rfl) rfl #[.int .i64 (l0_3.length : Int)] (by rfl) rfl rfl zM0 ?_
       with_reducible refine (spec_l01Var.calls k (l0_3.length : Int) t146 _ A8.out).mono ?_
       rintro e w20 ⟨rfl,hb⟩
       refine ⟨_,rfl,?_⟩
       have n0_:=Aside0.mk (Kd.R_below (zR0 HO143.out) hb)
       have n1_:=Aside0.mk (zB0 BK139.out hb)
       have n2_:=Aside0.mk (zS0 HB.out hb)
       clear HO143
       clear BK139
       clear HB
       have HO143:=n0_
       have BK139:=n1_
       have HB:=n2_
       clear n0_ n1_ n2_
       (try clear hb)
       (try clear hb2)
       (try clear hk)
       (try clear hi)
       refine hK.out _ _ ⟨(blk_cell BK139.out 0).trans rfl,(blk_cell BK139.out 1).trans rfl,(blk_cell BK139.out 2).trans rfl,(blk_cell BK139.out 3).trans rfl⟩ (fun hHeld => ?_)
       clear hK K
       refine norm_ (a':=?_) ?_ ?_;rotate_left
       ·show Act.put _ (some 25) _ = _;simp only [Act.put,qA0,qB0,qC0,i64_w,i32_w];rfl
       exact norm_ (by first | (simp only [putAll,Act.put,qA0,qB0,qC0];done) | (simp only [putAll,Act.put,qA0,qB0,qC0];rfl)) (hJ3_4_7_11_16 (v142) _ ⟨hHeld,(zR0 HO143.out),(zK0 BK139.out),(by repeat (first | (with_reducible first | exact HB.out | apply below_alloc | apply pw_below_drewN | apply below_drew1 | refine below_set ?_ GE139.out) | exact HB.out))⟩)
     rintro v142 w20 ⟨hS_,h0_,h1_,h2_⟩
     have n0_ : Aside0 (Kd.R (Kd.int .u8) 5 w20 w.heap.size (fun _ => True) v142 y141):=⟨h0_⟩
     have n1_ : Aside0 (w20.heap[gb139]? = some (.cells #[.int .i64 a0_0,.int .i64 a0_1,.string a0_2,.slice A0_3 l0_3.length c0_3] 40 (0,0))):=⟨h1_⟩
     have n2_ : Aside0 (Below w.heap.size w w20):=⟨h2_⟩
     clear BK139
     clear HB
     clear h0_ h1_ h2_
     have HO143:=n0_
     have BK139:=n1_
     have HB:=n2_
     clear n0_ n1_ n2_
     have hHeld : w20.cell? ⟨gb139,0,none⟩ = some (.int .i64 a0_0) ∧ w20.cell? ⟨gb139,1,none⟩ = some (.int .i64 a0_1) ∧ w20.cell? ⟨gb139,2,none⟩ = some (.string a0_2) ∧ w20.cell? ⟨gb139,3,none⟩ = some (.slice A0_3 l0_3.length c0_3):=hS_
     refine norm_ (a':=?_) ?_ ?_;rotate_left
     ·simp only [putAll,Act.put,qA0,qB0,qC0]
      rfl
     refine zP0 (i:=17) (N:=some 26) (zF0 19 262143) rfl rfl HT_.out ?_
     refine zP0 (i:=18) (N:=some 4) (zF0 19 524287) rfl rfl HT_.out ?_
     refine done_ (done_of HT_.out (by kernel_rfl)) ?_
     try go_wp2
     go_loopg [4,5] k (fun kq v4 v5 w' => ∃ (x4_1 : ByteArray) (x5_1 : Int),v4 = .string x4_1 ∧ v5 = .int .i64 x5_1 ∧ Aside0 (spec_ValText.l0 kq x4_1 x5_1 a0_0 a0_1 a0_2 l0_3 = some (r1,r2)) ∧ Aside0 (kq ≤ k) ∧ Aside0 (w'.heap[gb139]? = some (.cells #[.int .i64 a0_0,.int .i64 a0_1,.string a0_2,(.slice A0_3 l0_3.length c0_3)] 40 (0,0))) ∧ Aside0 (Below w.heap.size w w'))
     case atStart => exact ⟨((((strOfNums y141) ++ t144) ++ t145) ++ t146),(0),(by first | rfl | (simp;done) | (simp [*];done)),(by first | rfl | (simp;done) | (simp [*];done)),H',⟨Nat.le_refl _⟩,⟨by (with_reducible repeat (first | refine blk_drewN ?_ _ | refine blk_drew ?_ | refine blk_alloc ?_ _));exact BK139.out⟩,⟨by repeat (first | (with_reducible first | exact HB.out | apply below_alloc | apply pw_below_drewN | apply below_drew1 | refine below_set ?_ GE139.out) | exact HB.out)⟩⟩
     case round =>
      clear H'
      try clear hcv1
      try clear p2
      try clear hcv2
      try clear c3
      try clear hcv17
      try clear hcv18
      try clear hcv19
      try clear hcv20
      obtain ⟨x4_1,x5_1,rfl,rfl,HA,HK1,BK139,HB⟩:=hrel
      cases gk with
      | zero => exact absurd HA.out (by simp [spec_ValText.l0])
      | succ k1 =>
       have H:=HA.out
       clear HA
       simp only [spec_ValText.l0] at H
       by_cases c21 : x5_1 < (l0_3.length : Int)
       ·rw [if_pos c21] at H
        have c21b0 : decide (x5_1 < (l0_3.length : Int)) = true:=decide_eq_true c21
        clear c21
        by_cases c22 : 0 ≤ x5_1
        ·rw [if_pos c22] at H
         have c22b0 : decide (0 ≤ x5_1) = true:=decide_eq_true c22
         clear c22
         replace H:=Option.bind_eq_some_iff.mp H
         obtain ⟨t148,A230,H⟩:=H
         replace H : (if x4_1.size + t148.size ≤ 9223372036854775807 then (spec_ValText.l0 k1 (x4_1 ++ t148) (wrap64 (x5_1 + 1)) a0_0 a0_1 a0_2 l0_3) else (none)) = some (r1,r2):=H
         have A23:=Aside0.mk A230
         clear A230
         by_cases c24 : x4_1.size + t148.size ≤ 9223372036854775807
         ·rw [if_pos c24] at H
          have c24b0:=eq_true c24
          have c24b1 : decide (x4_1.size + t148.size ≤ 9223372036854775807) = true:=decide_eq_true c24
          try have c24b2 : (9223372036854775807 < x4_1.size + t148.size) = False:=eq_false (Nat.not_lt.2 c24)
          have H':=Aside0.mk H
          clear H
          have hcz25_0 : wr.cell? ⟨gb139,0,none⟩ = some (.int .i64 a0_0):=(blk_cell BK139.out 0).trans rfl
          have hcz25_1 : wr.cell? ⟨gb139,1,none⟩ = some (.int .i64 a0_1):=(blk_cell BK139.out 1).trans rfl
          have hcz25_2 : wr.cell? ⟨gb139,2,none⟩ = some (.string a0_2):=(blk_cell BK139.out 2).trans rfl
          have hcz25_3 : wr.cell? ⟨gb139,3,none⟩ = some (.slice A0_3 l0_3.length c0_3):=(blk_cell BK139.out 3).trans rfl
          have hfz25_0:=blk_frozen BK139.out 0
          have hfz25_1:=blk_frozen BK139.out 1
          have hfz25_2:=blk_frozen BK139.out 2
          have hfz25_3:=blk_frozen BK139.out 3
          have p147 : 0 ≤ (x5_1 : Int):=of_decide_eq_true (by first | (with_reducible assumption) | assumption)
          have q147 : x5_1 < (l0_3.length : Int):=of_decide_eq_true (by first | (with_reducible assumption) | assumption)
          obtain ⟨ad147,e147,hx147_0⟩:=Kd.at_string HR0_3.out x5_1 p147 q147
          cases e147
          replace hx147_0:=(HB.out.cell (World.block_lt_of_cell? w _ hx147_0)).trans hx147_0
          replace p147:=eq_true p147
          replace q147:=eq_true q147
          go_wp2_with (first | ((with_reducible refine gate_callee (f:=33) rfl ?_);refine goesL_ (some 40) rfl rfl Try.func33 (by kernel_rfl) rfl #[.string (rdOf ByteArray.empty l0_3 x5_1)] rfl zM0 ?_;(with_reducible refine (spec_l05Short.calls k1 (rdOf ByteArray.empty l0_3 x5_1) t148 _ A23.out).mono ?_);rintro e w26 ⟨rfl,hb⟩;refine ⟨_,rfl,?_⟩;have n0_:=Aside0.mk (zB0 BK139.out hb);have n1_:=Aside0.mk (zS0 HB.out hb);clear BK139;clear HB;have BK139:=n0_;have HB:=n1_;clear n0_ n1_;(try clear hb);(try clear hb2);(try clear hk);(try clear hi)))
          go_roundg k1
          case measure => have:=HK1.out;omega
          case rel => exact ⟨(x4_1 ++ t148),(wrap64 (x5_1 + 1)),(by first | rfl | (simp;done) | (simp [*];done)),(by first | rfl | (simp;done) | (simp [*];done)),H',⟨by have:=HK1.out;omega⟩,⟨by (with_reducible repeat (first | refine blk_drewN ?_ _ | refine blk_drew ?_ | refine blk_alloc ?_ _));exact BK139.out⟩,⟨by repeat (first | (with_reducible first | exact HB.out | apply below_alloc | apply pw_below_drewN | apply below_drew1 | refine below_set ?_ GE139.out) | exact HB.out)⟩⟩
         ·rw [if_neg c24] at H
          exact absurd H (by simp)
        ·rw [if_neg c22] at H
         exact absurd H (by simp)
       ·rw [if_neg c21] at H
        have c21b0 : decide (x5_1 < (l0_3.length : Int)) = false:=decide_eq_false c21
        clear c21
        simp only [Option.some.injEq,Prod.mk.injEq] at H
        obtain ⟨rfl,rfl⟩:=H
        have hcz27_0 : wr.cell? ⟨gb139,0,none⟩ = some (.int .i64 a0_0):=(blk_cell BK139.out 0).trans rfl
        have hcz27_1 : wr.cell? ⟨gb139,1,none⟩ = some (.int .i64 a0_1):=(blk_cell BK139.out 1).trans rfl
        have hcz27_2 : wr.cell? ⟨gb139,2,none⟩ = some (.string a0_2):=(blk_cell BK139.out 2).trans rfl
        have hcz27_3 : wr.cell? ⟨gb139,3,none⟩ = some (.slice A0_3 l0_3.length c0_3):=(blk_cell BK139.out 3).trans rfl
        have hfz27_0:=blk_frozen BK139.out 0
        have hfz27_1:=blk_frozen BK139.out 1
        have hfz27_2:=blk_frozen BK139.out 2
        have hfz27_3:=blk_frozen BK139.out 3
        go_wp2
        go_ret2
        exact ⟨by first | rfl | (simp [errW_none,errW_some] <;> rfl) | (simp [*,errW_none,errW_some] <;> rfl),by repeat (first | (with_reducible first | exact HB.out | apply below_alloc | apply pw_below_drewN | apply below_drew1 | refine below_set ?_ GE139.out) | exact HB.out)⟩
    ·rw [if_neg c9] at H
     exact absurd H (by simp)
   ·rw [if_neg c7] at H
    exact absurd H (by simp)
  ·rw [if_neg c5] at H
   exact absurd H (by simp)
 ·replace c3:=Bool.eq_false_iff.mpr c3
  subst c3
  have H1 : (some ((⟨#[]⟩ : ByteArray),false)) = some (r1,r2):=by rw [if_neg (show ¬ (false = true) by decide)] at H;exact H
  clear H
  have H:=H1
  clear H1
  simp only [Option.some.injEq,Prod.mk.injEq] at H
  obtain ⟨rfl,rfl⟩:=H
  go_enter Try.func15,Try.ntmps15
  go_wp2_with (first | ((with_reducible refine gate_dst (N:=1) rfl ?_);refine box_event ?hg (N:=1) ?hd (cs:=#[.int .i64 a0_0,.int .i64 a0_1,.string a0_2,.slice A0_3 l0_3.length c0_3]) (t:=40) ?hr ?_;(case hd => rfl);(case hg => rfl);(case hr => first | (go_simp;done) | (go_simp;rfl));intro gb139 hg w28 hbox hb;have n0_:=Aside0.mk (zS0 HB.out hb);have n1_:=Aside0.mk (hbox);have n2_:=Aside0.mk ((by rw [hg];exact (zZ0 HB.out) : w.heap.size ≤ gb139));have n3_:=Aside0.mk ((by rw [hg];exact (zZ0 HB.out) : w.heap.size ≤ gb139));clear HB;have HB:=n0_;have BK139:=n1_;have GW139:=n2_;have GE139:=n3_;clear n0_ n1_ n2_ n3_;clear hb hbox hg;have hcz29_0 : w28.cell? ⟨gb139,0,none⟩ = some (.int .i64 a0_0):=(blk_cell BK139.out 0).trans rfl;have hcz29_1 : w28.cell? ⟨gb139,1,none⟩ = some (.int .i64 a0_1):=(blk_cell BK139.out 1).trans rfl;have hcz29_2 : w28.cell? ⟨gb139,2,none⟩ = some (.string a0_2):=(blk_cell BK139.out 2).trans rfl;have hcz29_3 : w28.cell? ⟨gb139,3,none⟩ = some (.slice A0_3 l0_3.length c0_3):=(blk_cell BK139.out 3).trans rfl;have hfz29_0:=blk_frozen BK139.out 0;have hfz29_1:=blk_frozen BK139.out 1;have hfz29_2:=blk_frozen BK139.out 2;have hfz29_3:=blk_frozen BK139.out 3) | ((with_reducible refine gate_callee (f:=31) rfl ?_);refine goesL_ (some 7) rfl rfl Try.func31 (by kernel_rfl) rfl #[.agg #[.int .i64 a0_0,.int .i64 a0_1,.string a0_2,.slice A0_3 l0_3.length c0_3]] rfl zM0 ?_;(with_reducible refine (spec_ValOk.calls k a0_0 a0_1 a0_2 _ _ l0_3 false _ ?side1 ?side2 A2.out).mono ?_);(case side1 => repeat (first | exact (Kd.C_below HR0_3.out HB.out) | (with_reducible refine Kd.C_alloc ?_ _) | (with_reducible refine Kd.C_drewN ?_ _) | (with_reducible refine Kd.C_drew ?_)));(case side2 => exact HC0_3.out);rintro e w30 ⟨rfl,hb⟩;refine ⟨_,rfl,?_⟩;have n0_:=Aside0.mk (zB0 BK139.out hb);have n1_:=Aside0.mk (zS0 HB.out hb);clear BK139;clear HB;have BK139:=n0_;have HB:=n1_;clear n0_ n1_;(try clear hb);(try clear hb2);(try clear hk);(try clear hi)))
  go_ret2
  exact ⟨by first | rfl | (simp [errW_none,errW_some] <;> rfl) | (simp [*,errW_none,errW_some] <;> rfl),by repeat (first | (with_reducible first | exact HB.out | apply below_alloc | apply pw_below_drewN | apply below_drew1 | refine below_set ?_ GE139.out) | exact HB.out)⟩

end Go.Proofs.Ytlekhcopddajbaa.PFnExactDiffer
