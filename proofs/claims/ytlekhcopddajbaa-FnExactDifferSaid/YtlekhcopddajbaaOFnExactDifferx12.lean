/- Walks of functions that the law FnExactDiffer reaches, turned by this session from a print of which a part did not build; what was changed is listed in wip/patches of the proofs' repo. -/
import Derived.Shelf.SlSortCmp.NoneTotal
import Derived.Shelf.Small.Strs
import Derived.Test.YtlekhcopddajbaaOFnExactDifferx0
import Derived.Test.YtlekhcopddajbaaOFnExactDifferx9
import Derived.Test.YtlekhcopddajbaaOFnExactDifferx11
namespace Go.Proofs.Ytlekhcopddajbaa.PFnExactDiffer
open Go.RowKit Go.Proofs.YtlekhcopddajbaaW.PrintWords Go.Proofs.YtlekhcopddajbaaW.PrintLast Go.Proofs.YtlekhcopddajbaaW.PrintMore
attribute [local go_sem] max2_int min2_int max_two min_two max_three min_three max_four min_four   -- for this text's walks alone
set_option linter.unusedVariables false
set_option linter.unusedSimpArgs false

/-! ### impl_ValText: function 21 -/
def impl_ValText.l0 : Nat → ByteArray → List ByteArray → Int → Int → Option (ByteArray × Bool)
 | 0,_,_,_,_ => none
 | k + 1,x8,x41,x42,x43 => if x43 < x42 then (if 0 ≤ x43 then (if x43 < (x41.length : Int) then ((impl_short.f k (rdOf ByteArray.empty x41 x43)).bind fun t261 => (if x8.size + t261.size ≤ 9223372036854775807 then (impl_ValText.l0 k (x8 ++ t261) x41 x42 (wrap64 (x43 + 1))) else (none))) else (none)) else (none)) else (some (x8,true))
def impl_ValText.f (k : Nat) (a0_0 : Int) (a0_1 : Int) (a0_2 : ByteArray) (l0_3 : List ByteArray) : Option (ByteArray × Bool):=(impl_ValOk.f k a0_0 a0_1 a0_2 l0_3).bind fun t251 => (if t251 = true then ((impl_VarText.f k a0_1).bind fun bt252 => ((impl_VarText.f k (l0_3.length : Int)).bind fun bt254 => ((some (([(a0_0) % 256] : List Int) : List Int)).bind fun y256 => (if (strOfNums y256).size + bt252.1.size ≤ 9223372036854775807 then ((impl_short.f k a0_2).bind fun t259 => (if ((strOfNums y256) ++ bt252.1).size + t259.size ≤ 9223372036854775807 then (if (((strOfNums y256) ++ bt252.1) ++ t259).size + bt254.1.size ≤ 9223372036854775807 then (impl_ValText.l0 k ((((strOfNums y256) ++ bt252.1) ++ t259) ++ bt254.1) l0_3 (l0_3.length : Int) 0) else (none)) else (none))) else (none))))) else (some ((⟨#[]⟩ : ByteArray),false)))
theorem impl_ValText.mono_l : ∀ k,(∀ y0 y1 y2 y3,LeO (impl_ValText.l0 k y0 y1 y2 y3) (impl_ValText.l0 (k + 1) y0 y1 y2 y3))
 | 0 => fun _ _ _ _ r h => by simp [impl_ValText.l0] at h
 | k + 1 => by
  have ih0:=impl_ValText.mono_l k
  ·intro y0 y1 y2 y3
   unfold impl_ValText.l0
   repeat' first
   | (with_reducible exact ih0 _ _ _ _)
   | (with_reducible exact impl_ValOk.mono _ _ _ _ _)
   | (with_reducible exact impl_VarText.mono _ _)
   | (with_reducible exact impl_short.mono _ _)
   | (with_reducible exact LeO.refl _)
   | (with_reducible exact LeO.none _)
   | (with_reducible refine LeO.ite ?_ ?_)
   | (with_reducible refine LeO.bind ?_ (fun _ => ?_))
   | exact ih0 _ _ _ _
   | exact impl_ValOk.mono _ _ _ _ _
   | exact impl_VarText.mono _ _
   | exact impl_short.mono _ _
   | exact LeO.none _
   | refine LeO.ite ?_ ?_
   | refine LeO.bind ?_ (fun _ => ?_)
theorem impl_ValText.mono : ∀ a0 a1 a2 a3 k,LeO (impl_ValText.f k a0 a1 a2 a3) (impl_ValText.f (k + 1) a0 a1 a2 a3):=by
 intro a0 a1 a2 a3 k
 have ih0:=impl_ValText.mono_l k
 unfold impl_ValText.f
 repeat' first
   | (with_reducible exact ih0 _ _ _ _)
   | (with_reducible exact impl_ValOk.mono _ _ _ _ _)
   | (with_reducible exact impl_VarText.mono _ _)
   | (with_reducible exact impl_short.mono _ _)
   | (with_reducible exact LeO.refl _)
   | (with_reducible exact LeO.none _)
   | (with_reducible refine LeO.ite ?_ ?_)
   | (with_reducible refine LeO.bind ?_ (fun _ => ?_))
   | exact ih0 _ _ _ _
   | exact impl_ValOk.mono _ _ _ _ _
   | exact impl_VarText.mono _ _
   | exact impl_short.mono _ _
   | exact LeO.none _
   | refine LeO.ite ?_ ?_
   | refine LeO.bind ?_ (fun _ => ?_)
def impl_ValText.T5 : Bool × List (List Nat × List Nat):=(true,[([],[]),([0],[0]),([1],[1]),([2],[2]),([3],[3]),([],[]),([4,5],[4,5]),([],[]),([7],[7]),([8],[8]),([6,9],[6,9]),([],[]),([10,11],[10,11]),([12,9,0,1,2,3,4,5,6,7,8,9,10,11,12],[12])])
def impl_ValText.B5 : List Nat:=[0,1,3,7,15,0,63,0,128,384,1023,0,4095,8191]
theorem impl_ValText.tab5 : rtab .any (opsOf Try.f21 5) = impl_ValText.T5:=by kernel_rfl
theorem impl_ValText.bits5 : waitsOk impl_ValText.T5.2 impl_ValText.B5 = true:=by kernel_rfl
set_option maxHeartbeats 8000000 in
set_option maxRecDepth 100000 in
theorem impl_ValText.calls (k : Nat) (a0_0 : Int) (a0_1 : Int) (a0_2 : ByteArray) (A0_3 : Option Addr) (c0_3 : Nat) (l0_3 : List ByteArray) (r1 : ByteArray) (r2 : Bool) (w : World) (hr0_3 : Kd.C Kd.string w A0_3 l0_3.length l0_3) (hc0_3 : l0_3.length ≤ c0_3) (h : impl_ValText.f k a0_0 a0_1 a0_2 l0_3 = some (r1,r2)) :
  Calls Try.prog 21 #[.agg #[.int .i64 a0_0,.int .i64 a0_1,.string a0_2,.slice A0_3 l0_3.length c0_3]] w fun e w' => e = .returned (.tuple #[.string r1,.bool r2]) ∧ Below w.heap.size w w':=by
 have hu40:=Try.underlying40
 have HR0_3:=Aside0.mk hr0_3
 have HC0_3:=Aside0.mk hc0_3
 clear hr0_3 hc0_3
 have HB:=Aside0.mk (Below.refl w.heap.size w)
 have H : ((impl_ValOk.f k a0_0 a0_1 a0_2 l0_3).bind fun t251 => (if t251 = true then ((impl_VarText.f k a0_1).bind fun bt252 => ((impl_VarText.f k (l0_3.length : Int)).bind fun bt254 => ((some (([(a0_0) % 256] : List Int) : List Int)).bind fun y256 => (if (strOfNums y256).size + bt252.1.size ≤ 9223372036854775807 then ((impl_short.f k a0_2).bind fun t259 => (if ((strOfNums y256) ++ bt252.1).size + t259.size ≤ 9223372036854775807 then (if (((strOfNums y256) ++ bt252.1) ++ t259).size + bt254.1.size ≤ 9223372036854775807 then (impl_ValText.l0 k ((((strOfNums y256) ++ bt252.1) ++ t259) ++ bt254.1) l0_3 (l0_3.length : Int) 0) else (none)) else (none))) else (none))))) else (some ((⟨#[]⟩ : ByteArray),false)))) = some (r1,r2):=h
 clear h
 replace H:=Option.bind_eq_some_iff.mp H
 obtain ⟨t251,A20,H⟩:=H
 replace H : (if t251 = true then ((impl_VarText.f k a0_1).bind fun bt252 => ((impl_VarText.f k (l0_3.length : Int)).bind fun bt254 => ((some (([(a0_0) % 256] : List Int) : List Int)).bind fun y256 => (if (strOfNums y256).size + bt252.1.size ≤ 9223372036854775807 then ((impl_short.f k a0_2).bind fun t259 => (if ((strOfNums y256) ++ bt252.1).size + t259.size ≤ 9223372036854775807 then (if (((strOfNums y256) ++ bt252.1) ++ t259).size + bt254.1.size ≤ 9223372036854775807 then (impl_ValText.l0 k ((((strOfNums y256) ++ bt252.1) ++ t259) ++ bt254.1) l0_3 (l0_3.length : Int) 0) else (none)) else (none))) else (none))))) else (some ((⟨#[]⟩ : ByteArray),false))) = some (r1,r2):=H
 have A2:=Aside0.mk A20
 clear A20
 by_cases c3 : t251 = true
 ·subst c3
  have H1 : ((impl_VarText.f k a0_1).bind fun bt252 => ((impl_VarText.f k (l0_3.length : Int)).bind fun bt254 => ((some (([(a0_0) % 256] : List Int) : List Int)).bind fun y256 => (if (strOfNums y256).size + bt252.1.size ≤ 9223372036854775807 then ((impl_short.f k a0_2).bind fun t259 => (if ((strOfNums y256) ++ bt252.1).size + t259.size ≤ 9223372036854775807 then (if (((strOfNums y256) ++ bt252.1) ++ t259).size + bt254.1.size ≤ 9223372036854775807 then (impl_ValText.l0 k ((((strOfNums y256) ++ bt252.1) ++ t259) ++ bt254.1) l0_3 (l0_3.length : Int) 0) else (none)) else (none))) else (none))))) = some (r1,r2):=by rw [if_pos rfl] at H;exact H
  clear H
  have H:=H1
  clear H1
  replace H:=Option.bind_eq_some_iff.mp H
  obtain ⟨⟨t252,t253⟩,A40,H⟩:=H
  replace H : ((impl_VarText.f k (l0_3.length : Int)).bind fun bt254 => ((some (([(a0_0) % 256] : List Int) : List Int)).bind fun y256 => (if (strOfNums y256).size + t252.size ≤ 9223372036854775807 then ((impl_short.f k a0_2).bind fun t259 => (if ((strOfNums y256) ++ t252).size + t259.size ≤ 9223372036854775807 then (if (((strOfNums y256) ++ t252) ++ t259).size + bt254.1.size ≤ 9223372036854775807 then (impl_ValText.l0 k ((((strOfNums y256) ++ t252) ++ t259) ++ bt254.1) l0_3 (l0_3.length : Int) 0) else (none)) else (none))) else (none)))) = some (r1,r2):=H
  have A4:=Aside0.mk A40
  clear A40
  replace H:=Option.bind_eq_some_iff.mp H
  obtain ⟨⟨t254,t255⟩,A50,H⟩:=H
  replace H : ((some (([(a0_0) % 256] : List Int) : List Int)).bind fun y256 => (if (strOfNums y256).size + t252.size ≤ 9223372036854775807 then ((impl_short.f k a0_2).bind fun t259 => (if ((strOfNums y256) ++ t252).size + t259.size ≤ 9223372036854775807 then (if (((strOfNums y256) ++ t252) ++ t259).size + t254.size ≤ 9223372036854775807 then (impl_ValText.l0 k ((((strOfNums y256) ++ t252) ++ t259) ++ t254) l0_3 (l0_3.length : Int) 0) else (none)) else (none))) else (none))) = some (r1,r2):=H
  have A5:=Aside0.mk A50
  clear A50
  obtain ⟨y256,hy256⟩ : ∃ y_ : List Int,y_ = (([(a0_0) % 256] : List Int)):=⟨_,rfl⟩
  replace H : (if (strOfNums y256).size + t252.size ≤ 9223372036854775807 then ((impl_short.f k a0_2).bind fun t259 => (if ((strOfNums y256) ++ t252).size + t259.size ≤ 9223372036854775807 then (if (((strOfNums y256) ++ t252) ++ t259).size + t254.size ≤ 9223372036854775807 then (impl_ValText.l0 k ((((strOfNums y256) ++ t252) ++ t259) ++ t254) l0_3 (l0_3.length : Int) 0) else (none)) else (none))) else (none)) = some (r1,r2):=by first | (rw [hy256];with_reducible exact H) | (have H2_:=(Option.bind_some _ _).symm.trans H;rw [hy256];with_reducible exact H2_) | (have H2_:=(Option.bind_some _ _).symm.trans H;with_reducible exact H2_) | with_reducible exact H | (rw [hy256];exact H) | exact H
  have Ny256:=Aside0.mk hy256
  clear hy256
  by_cases c6 : (strOfNums y256).size + t252.size ≤ 9223372036854775807
  ·rw [if_pos c6] at H
   have c6b0:=eq_true c6
   have c6b1 : decide ((strOfNums y256).size + t252.size ≤ 9223372036854775807) = true:=decide_eq_true c6
   try have c6b2 : (9223372036854775807 < (strOfNums y256).size + t252.size) = False:=eq_false (Nat.not_lt.2 c6)
   replace H:=Option.bind_eq_some_iff.mp H
   obtain ⟨t259,A70,H⟩:=H
   replace H : (if ((strOfNums y256) ++ t252).size + t259.size ≤ 9223372036854775807 then (if (((strOfNums y256) ++ t252) ++ t259).size + t254.size ≤ 9223372036854775807 then (impl_ValText.l0 k ((((strOfNums y256) ++ t252) ++ t259) ++ t254) l0_3 (l0_3.length : Int) 0) else (none)) else (none)) = some (r1,r2):=H
   have A7:=Aside0.mk A70
   clear A70
   by_cases c8 : ((strOfNums y256) ++ t252).size + t259.size ≤ 9223372036854775807
   ·rw [if_pos c8] at H
    have c8b0:=eq_true c8
    have c8b1 : decide (((strOfNums y256) ++ t252).size + t259.size ≤ 9223372036854775807) = true:=decide_eq_true c8
    try have c8b2 : (9223372036854775807 < ((strOfNums y256) ++ t252).size + t259.size) = False:=eq_false (Nat.not_lt.2 c8)
    have c8n:=c8
    simp only [ByteArray.size_append] at c8n
    have c8m1:=eq_true c8n
    have c8m2:=decide_eq_true c8n
    have c8m3:=eq_false (Nat.not_lt.2 c8n)
    by_cases c9 : (((strOfNums y256) ++ t252) ++ t259).size + t254.size ≤ 9223372036854775807
    ·rw [if_pos c9] at H
     have c9b0:=eq_true c9
     have c9b1 : decide ((((strOfNums y256) ++ t252) ++ t259).size + t254.size ≤ 9223372036854775807) = true:=decide_eq_true c9
     try have c9b2 : (9223372036854775807 < (((strOfNums y256) ++ t252) ++ t259).size + t254.size) = False:=eq_false (Nat.not_lt.2 c9)
     have c9n:=c9
     simp only [ByteArray.size_append] at c9n
     have c9m1:=eq_true c9n
     have c9m2:=decide_eq_true c9n
     have c9m3:=eq_false (Nat.not_lt.2 c9n)
     have H':=Aside0.mk H
     clear H
     go_enter Try.func21,Try.ntmps21
     try go_wp2_with (first | ((with_reducible refine gate_dst (N:=1) rfl ?_);refine box_event ?hg (N:=1) ?hd (cs:=#[.int .i64 a0_0,.int .i64 a0_1,.string a0_2,.slice A0_3 l0_3.length c0_3]) (t:=40) ?hr ?_;(case hd => rfl);(case hg => rfl);(case hr => first | (go_simp;done) | (go_simp;rfl));intro gb250 hg w10 hbox hb;have n0_:=Aside0.mk (zS0 HB.out hb);have n1_:=Aside0.mk (hbox);have n2_:=Aside0.mk ((by rw [hg];exact (zZ0 HB.out) : w.heap.size ≤ gb250));have n3_:=Aside0.mk ((by rw [hg];exact (zZ0 HB.out) : w.heap.size ≤ gb250));clear HB;have HB:=n0_;have BK250:=n1_;have GW250:=n2_;have GE250:=n3_;clear n0_ n1_ n2_ n3_;clear hb hbox hg;have hcz11_0 : w10.cell? ⟨gb250,0,none⟩ = some (.int .i64 a0_0):=(blk_cell BK250.out 0).trans rfl;have hcz11_1 : w10.cell? ⟨gb250,1,none⟩ = some (.int .i64 a0_1):=(blk_cell BK250.out 1).trans rfl;have hcz11_2 : w10.cell? ⟨gb250,2,none⟩ = some (.string a0_2):=(blk_cell BK250.out 2).trans rfl;have hcz11_3 : w10.cell? ⟨gb250,3,none⟩ = some (.slice A0_3 l0_3.length c0_3):=(blk_cell BK250.out 3).trans rfl;have hfz11_0:=blk_frozen BK250.out 0;have hfz11_1:=blk_frozen BK250.out 1;have hfz11_2:=blk_frozen BK250.out 2;have hfz11_3:=blk_frozen BK250.out 3) | ((with_reducible refine gate_callee (f:=36) rfl ?_);refine goesL_ (some 12) rfl rfl Try.func36 (by kernel_rfl) rfl #[.agg #[.int .i64 a0_0,.int .i64 a0_1,.string a0_2,.slice A0_3 l0_3.length c0_3]] rfl zM0 ?_;(with_reducible refine (impl_ValOk.calls k a0_0 a0_1 a0_2 _ _ l0_3 true _ ?side1 ?side2 A2.out).mono ?_);(case side1 => repeat (first | exact (Kd.C_below HR0_3.out HB.out) | (with_reducible refine Kd.C_alloc ?_ _) | (with_reducible refine Kd.C_drewN ?_ _) | (with_reducible refine Kd.C_drew ?_)));(case side2 => exact HC0_3.out);rintro e w12 ⟨rfl,hb⟩;refine ⟨_,rfl,?_⟩;have n0_:=Aside0.mk (zB0 BK250.out hb);have n1_:=Aside0.mk (zS0 HB.out hb);clear BK250;clear HB;have BK250:=n0_;have HB:=n1_;clear n0_ n1_;(try clear hb);(try clear hb2);(try clear hk);(try clear hi);have hcz13_0 : w12.cell? ⟨gb250,0,none⟩ = some (.int .i64 a0_0):=(blk_cell BK250.out 0).trans rfl;have hcz13_1 : w12.cell? ⟨gb250,1,none⟩ = some (.int .i64 a0_1):=(blk_cell BK250.out 1).trans rfl;have hcz13_2 : w12.cell? ⟨gb250,2,none⟩ = some (.string a0_2):=(blk_cell BK250.out 2).trans rfl;have hcz13_3 : w12.cell? ⟨gb250,3,none⟩ = some (.slice A0_3 l0_3.length c0_3):=(blk_cell BK250.out 3).trans rfl;have hfz13_0:=blk_frozen BK250.out 0;have hfz13_1:=blk_frozen BK250.out 1;have hfz13_2:=blk_frozen BK250.out 2;have hfz13_3:=blk_frozen BK250.out 3) | ((with_reducible refine gate_callee (f:=41) rfl ?_);refine goesL_ (some 17) rfl rfl Try.func41 (by kernel_rfl) rfl #[.int .i64 a0_1] rfl zM0 ?_;(with_reducible refine (impl_VarText.calls k a0_1 t252 t253 _ A4.out).mono ?_);rintro e w14 ⟨rfl,hb⟩;refine ⟨_,rfl,?_⟩;have n0_:=Aside0.mk (zB0 BK250.out hb);have n1_:=Aside0.mk (zS0 HB.out hb);clear BK250;clear HB;have BK250:=n0_;have HB:=n1_;clear n0_ n1_;(try clear hb);(try clear hb2);(try clear hk);(try clear hi);have hcz15_0 : w14.cell? ⟨gb250,0,none⟩ = some (.int .i64 a0_0):=(blk_cell BK250.out 0).trans rfl;have hcz15_1 : w14.cell? ⟨gb250,1,none⟩ = some (.int .i64 a0_1):=(blk_cell BK250.out 1).trans rfl;have hcz15_2 : w14.cell? ⟨gb250,2,none⟩ = some (.string a0_2):=(blk_cell BK250.out 2).trans rfl;have hcz15_3 : w14.cell? ⟨gb250,3,none⟩ = some (.slice A0_3 l0_3.length c0_3):=(blk_cell BK250.out 3).trans rfl;have hfz15_0:=blk_frozen BK250.out 0;have hfz15_1:=blk_frozen BK250.out 1;have hfz15_2:=blk_frozen BK250.out 2;have hfz15_3:=blk_frozen BK250.out 3) | ((with_reducible refine gate_callee (f:=41) rfl ?_);refine goesL_ (some 24) rfl rfl Try.func41 (by kernel_rfl) rfl #[.int .i64 (l0_3.length : Int)] rfl zM0 ?_;(with_reducible refine (impl_VarText.calls k (l0_3.length : Int) t254 t255 _ A5.out).mono ?_);rintro e w16 ⟨rfl,hb⟩;refine ⟨_,rfl,?_⟩;have n0_:=Aside0.mk (zB0 BK250.out hb);have n1_:=Aside0.mk (zS0 HB.out hb);clear BK250;clear HB;have BK250:=n0_;have HB:=n1_;clear n0_ n1_;(try clear hb);(try clear hb2);(try clear hk);(try clear hi)))
     have n0_:=Aside0.mk (blk_drew BK250.out)
     have n1_:=Aside0.mk (below_drew1 HB.out)
     clear BK250
     clear HB
     have BK250:=n0_
     have HB:=n1_
     clear n0_ n1_
     refine start_ (n:=14) (S:=fun w' => w'.cell? ⟨gb250,0,none⟩ = some (.int .i64 a0_0) ∧ w'.cell? ⟨gb250,1,none⟩ = some (.int .i64 a0_1) ∧ w'.cell? ⟨gb250,2,none⟩ = some (.string a0_2) ∧ w'.cell? ⟨gb250,3,none⟩ = some (.slice A0_3 l0_3.length c0_3)) (ds:=[]) (zF0 14 0) (by kernel_rfl) rfl rfl ⟨(blk_cell BK250.out 0).trans rfl,(blk_cell BK250.out 1).trans rfl,(blk_cell BK250.out 2).trans rfl,(blk_cell BK250.out 3).trans rfl⟩ (fun hHeld => ?_);refine with_tabW impl_ValText.tab5 impl_ValText.bits5 (fun HT_ HW_ => ?_)
     generalize w16.drew = w17 at BK250 HB hHeld ⊢
     refine zP0 (i:=0) (N:=some 27) (zF0 14 1) rfl rfl HT_.out ?_
     refine zP0 (i:=5) (N:=some 32) (zF0 14 33) rfl rfl HT_.out ?_
     refine zP0 (i:=7) (N:=some 34) (zF0 14 161) rfl rfl HT_.out ?_
     refine zP0 (i:=11) (N:=some 38) (zF0 14 2209) rfl rfl HT_.out ?_
     refine take_ (i:=1) (N:=some 28) (v:=?_) (a':=?_) (zF0 14 2211) rfl rfl (take_ofW HT_.out HW_.out (by kernel_rfl)) (fun _ _ _ h => h) (Or.inl ⟨by rfl,?_⟩) hHeld ?_ ?_;rotate_left
     ·rintro w' ⟨s0,s1,s2,s3⟩
      go_simp
      with_reducible rfl
     rotate_left
     ·simp only [Act.put,qA0,qB0,qC0,i64_w,i32_w];rfl
     refine zP0 (i:=2) (N:=some 29) (zF0 14 2215) rfl rfl HT_.out ?_
     refine take_ (i:=8) (N:=some 35) (v:=?_) (a':=?_) (zF0 14 2471) rfl rfl (take_ofW HT_.out HW_.out (by kernel_rfl)) (fun _ _ _ h => h) (Or.inl ⟨by rfl,?_⟩) hHeld ?_ ?_;rotate_left
     ·rintro w' ⟨s0,s1,s2,s3⟩
      go_simp
      with_reducible rfl
     rotate_left
     ·simp only [Act.put,qA0,qB0,qC0,i64_w,i32_w];rfl
     refine join_ (σ:=Value) 3 (zF0 14 3071) (fun s_ => [(30,s_),(31,.string (strOfNums y256)),(36,.string t259),(33,.string ((strOfNums y256) ++ t252))]) (fun s_ w' => (w'.cell? ⟨gb250,0,none⟩ = some (.int .i64 a0_0) ∧ w'.cell? ⟨gb250,1,none⟩ = some (.int .i64 a0_1) ∧ w'.cell? ⟨gb250,2,none⟩ = some (.string a0_2) ∧ w'.cell? ⟨gb250,3,none⟩ = some (.slice A0_3 l0_3.length c0_3)) ∧ (Kd.R (Kd.int .u8) 5 w' w.heap.size (fun _ => True) s_ y256) ∧ (w'.heap[gb250]? = some (.cells #[.int .i64 a0_0,.int .i64 a0_1,.string a0_2,.slice A0_3 l0_3.length c0_3] 40 (0,0))) ∧ (Below w.heap.size w w')) ?_ ?_
     rotate_left
     ·intro hCont
      refine two_ (i:=3) (j:=9) (Ni:=some 30) (Nj:=some 36) (zF0 14 2479) (zF0 14 2983) rfl rfl rfl rfl (two_of HT_.out (by kernel_rfl)) (by decide) (by decide) (fun K hK => ?_) (fun K hK => ?_)
      ·skip
       refine Kd.R_lit_step (Kd.int .u8) _ 5 ?hg (N:=30) ?hd (xs:=([(a0_0) % 256] : List Int)) (inner:=[.int .u8 ((a0_0) % 256)]) (ok:=fun _ => True) (okp:=fun _ => True) ?hr ?hp (fun _ hk => hk) trivial (Below.refl _ _) (Nat.le_refl _) (by simp) ?_;(case hd => rfl);(case hg => rfl);(case hr => first | (go_simp;done) | (go_simp;rfl));(case hp => exact (Reps.one (show Kd.M (Kd.int .u8) _ _ _ ((a0_0) % 256) [.int .u8 ((a0_0) % 256)] from rfl) (Reps.none _ _)))
       intro v257 w18 ho19 hb hg_ hnew_
       clear hg_ hnew_
       (first | rw [← Ny256.out] at ho19 | (simp only [Int.reduceToNat] at ho19;rw [← Ny256.out] at ho19))
       have n0_:=Aside0.mk (Kd.R_lower ho19 (zZ0 HB.out))
       have n1_:=Aside0.mk (zB0 BK250.out hb)
       have n2_:=Aside0.mk (zS0 HB.out hb)
       clear BK250
       clear HB
       have HO258:=n0_
       have BK250:=n1_
       have HB:=n2_
       clear n0_ n1_ n2_
       clear hb ho19
       refine hK.out _ _ ⟨(blk_cell BK250.out 0).trans rfl,(blk_cell BK250.out 1).trans rfl,(blk_cell BK250.out 2).trans rfl,(blk_cell BK250.out 3).trans rfl⟩ (fun hHeld => ?_)
       clear hK K
       refine norm_ (a':=?_) ?_ ?_;rotate_left
       ·show Act.put _ (some 30) _ = _;simp only [Act.put,qA0,qB0,qC0,i64_w,i32_w];rfl
       refine two_ (i:=4) (j:=9) (Ni:=some 31) (Nj:=some 36) (zF0 14 2495) (zF0 14 2991) rfl rfl rfl rfl (two_of HT_.out (by kernel_rfl)) (by decide) (by decide) (fun K hK => ?_) (fun K hK => ?_)
       ·skip
        have hcv20:=own_string (P:=Try.prog) Try.underlying61 Try.underlying5 Try.underlying9 (Kd.own_of_R HO258.out)
        refine value_ (w1:=?_) (v:=?_) (by rfl) rfl ?_ ?_
        rotate_left 2
        ·go_simp
         constructor
         ·rfl
         ·rfl
        clear hcv20
        refine hK.out _ _ ⟨(blk_cell BK250.out 0).trans rfl,(blk_cell BK250.out 1).trans rfl,(blk_cell BK250.out 2).trans rfl,(blk_cell BK250.out 3).trans rfl⟩ (fun hHeld => ?_)
        clear hK K
        refine norm_ (a':=?_) ?_ ?_;rotate_left
        ·show Act.put _ (some 31) _ = _;simp only [Act.put,qA0,qB0,qC0,i64_w,i32_w];rfl
        refine zP0 (i:=6) (N:=some 33) (zF0 14 2559) rfl rfl HT_.out ?_
        refine one_ (i:=9) (N:=some 36) (zF0 14 3071) rfl rfl (one_of HT_.out (by kernel_rfl)) (by decide) (fun K hK => ?_)
        refine goes_ Try.func42 (by kernel_rfl) rfl #[.string a0_2] (by rfl) rfl rfl zM0 ?_
        with_reducible refine (impl_short.calls k a0_2 t259 _ A7.out).mono ?_
        rintro e w21 ⟨rfl,hb⟩
        refine ⟨_,rfl,?_⟩
        have n0_:=Aside0.mk (Kd.R_below (zR0 HO258.out) hb)
        have n1_:=Aside0.mk (zB0 BK250.out hb)
        have n2_:=Aside0.mk (zS0 HB.out hb)
        clear HO258
        clear BK250
        clear HB
        have HO258:=n0_
        have BK250:=n1_
        have HB:=n2_
        clear n0_ n1_ n2_
        (try clear hb)
        (try clear hb2)
        (try clear hk)
        (try clear hi)
        refine hK.out _ _ ⟨(blk_cell BK250.out 0).trans rfl,(blk_cell BK250.out 1).trans rfl,(blk_cell BK250.out 2).trans rfl,(blk_cell BK250.out 3).trans rfl⟩ (fun hHeld => ?_)
        clear hK K
        refine norm_ (a':=?_) ?_ ?_;rotate_left
        ·show Act.put _ (some 36) _ = _;simp only [Act.put,qA0,qB0,qC0,i64_w,i32_w];rfl
        exact norm_ (by simp only [putAll,Act.put,qA0,qB0,qC0]) (hCont (v257) _ ⟨hHeld,(zR0 HO258.out),(zK0 BK250.out),(by repeat (first | (with_reducible first | exact HB.out | apply below_alloc | apply pw_below_drewN | apply below_drew1 | refine below_set ?_ GE250.out) | exact HB.out))⟩)
       ·skip
        refine goes_ Try.func42 (by kernel_rfl) rfl #[.string a0_2] (by rfl) rfl rfl zM0 ?_
        with_reducible refine (impl_short.calls k a0_2 t259 _ A7.out).mono ?_
        rintro e w20 ⟨rfl,hb⟩
        refine ⟨_,rfl,?_⟩
        have n0_:=Aside0.mk (Kd.R_below (zR0 HO258.out) hb)
        have n1_:=Aside0.mk (zB0 BK250.out hb)
        have n2_:=Aside0.mk (zS0 HB.out hb)
        clear HO258
        clear BK250
        clear HB
        have HO258:=n0_
        have BK250:=n1_
        have HB:=n2_
        clear n0_ n1_ n2_
        (try clear hb)
        (try clear hb2)
        (try clear hk)
        (try clear hi)
        refine hK.out _ _ ⟨(blk_cell BK250.out 0).trans rfl,(blk_cell BK250.out 1).trans rfl,(blk_cell BK250.out 2).trans rfl,(blk_cell BK250.out 3).trans rfl⟩ (fun hHeld => ?_)
        clear hK K
        refine norm_ (a':=?_) ?_ ?_;rotate_left
        ·show Act.put _ (some 36) _ = _;simp only [Act.put,qA0,qB0,qC0,i64_w,i32_w];rfl
        refine one_ (i:=4) (N:=some 31) (zF0 14 3007) rfl rfl (one_of HT_.out (by kernel_rfl)) (by decide) (fun K hK => ?_)
        have hcv21:=own_string (P:=Try.prog) Try.underlying61 Try.underlying5 Try.underlying9 (Kd.own_of_R HO258.out)
        refine value_ (w1:=?_) (v:=?_) (by rfl) rfl ?_ ?_
        rotate_left 2
        ·go_simp
         constructor
         ·rfl
         ·rfl
        clear hcv21
        refine hK.out _ _ ⟨(blk_cell BK250.out 0).trans rfl,(blk_cell BK250.out 1).trans rfl,(blk_cell BK250.out 2).trans rfl,(blk_cell BK250.out 3).trans rfl⟩ (fun hHeld => ?_)
        clear hK K
        refine norm_ (a':=?_) ?_ ?_;rotate_left
        ·show Act.put _ (some 31) _ = _;simp only [Act.put,qA0,qB0,qC0,i64_w,i32_w];rfl
        refine zP0 (i:=6) (N:=some 33) (zF0 14 3071) rfl rfl HT_.out ?_
        exact norm_ (by simp only [putAll,Act.put,qA0,qB0,qC0]) (hCont (v257) _ ⟨hHeld,(zR0 HO258.out),(zK0 BK250.out),(by repeat (first | (with_reducible first | exact HB.out | apply below_alloc | apply pw_below_drewN | apply below_drew1 | refine below_set ?_ GE250.out) | exact HB.out))⟩)
      ·skip
       refine goes_ Try.func42 (by kernel_rfl) rfl #[.string a0_2] (by rfl) rfl rfl zM0 ?_
       with_reducible refine (impl_short.calls k a0_2 t259 _ A7.out).mono ?_
       rintro e w18 ⟨rfl,hb⟩
       refine ⟨_,rfl,?_⟩
       have n0_:=Aside0.mk (zB0 BK250.out hb)
       have n1_:=Aside0.mk (zS0 HB.out hb)
       clear BK250
       clear HB
       have BK250:=n0_
       have HB:=n1_
       clear n0_ n1_
       (try clear hb)
       (try clear hb2)
       (try clear hk)
       (try clear hi)
       refine hK.out _ _ ⟨(blk_cell BK250.out 0).trans rfl,(blk_cell BK250.out 1).trans rfl,(blk_cell BK250.out 2).trans rfl,(blk_cell BK250.out 3).trans rfl⟩ (fun hHeld => ?_)
       clear hK K
       refine norm_ (a':=?_) ?_ ?_;rotate_left
       ·show Act.put _ (some 36) _ = _;simp only [Act.put,qA0,qB0,qC0,i64_w,i32_w];rfl
       refine one_ (i:=3) (N:=some 30) (zF0 14 2991) rfl rfl (one_of HT_.out (by kernel_rfl)) (by decide) (fun K hK => ?_)
       refine Kd.R_lit_step (Kd.int .u8) _ 5 ?hg (N:=30) ?hd (xs:=([(a0_0) % 256] : List Int)) (inner:=[.int .u8 ((a0_0) % 256)]) (ok:=fun _ => True) (okp:=fun _ => True) ?hr ?hp (fun _ hk => hk) trivial (Below.refl _ _) (Nat.le_refl _) (by simp) ?_;(case hd => rfl);(case hg => rfl);(case hr => first | (go_simp;done) | (go_simp;rfl));(case hp => exact (Reps.one (show Kd.M (Kd.int .u8) _ _ _ ((a0_0) % 256) [.int .u8 ((a0_0) % 256)] from rfl) (Reps.none _ _)))
       intro v257 w19 ho20 hb hg_ hnew_
       clear hg_ hnew_
       (first | rw [← Ny256.out] at ho20 | (simp only [Int.reduceToNat] at ho20;rw [← Ny256.out] at ho20))
       have n0_:=Aside0.mk (Kd.R_lower ho20 (zZ0 HB.out))
       have n1_:=Aside0.mk (zB0 BK250.out hb)
       have n2_:=Aside0.mk (zS0 HB.out hb)
       clear BK250
       clear HB
       have HO258:=n0_
       have BK250:=n1_
       have HB:=n2_
       clear n0_ n1_ n2_
       clear hb ho20
       refine hK.out _ _ ⟨(blk_cell BK250.out 0).trans rfl,(blk_cell BK250.out 1).trans rfl,(blk_cell BK250.out 2).trans rfl,(blk_cell BK250.out 3).trans rfl⟩ (fun hHeld => ?_)
       clear hK K
       refine norm_ (a':=?_) ?_ ?_;rotate_left
       ·show Act.put _ (some 30) _ = _;simp only [Act.put,qA0,qB0,qC0,i64_w,i32_w];rfl
       refine one_ (i:=4) (N:=some 31) (zF0 14 3007) rfl rfl (one_of HT_.out (by kernel_rfl)) (by decide) (fun K hK => ?_)
       have hcv21:=own_string (P:=Try.prog) Try.underlying61 Try.underlying5 Try.underlying9 (Kd.own_of_R HO258.out)
       refine value_ (w1:=?_) (v:=?_) (by rfl) rfl ?_ ?_
       rotate_left 2
       ·go_simp
        constructor
        ·rfl
        ·rfl
       clear hcv21
       refine hK.out _ _ ⟨(blk_cell BK250.out 0).trans rfl,(blk_cell BK250.out 1).trans rfl,(blk_cell BK250.out 2).trans rfl,(blk_cell BK250.out 3).trans rfl⟩ (fun hHeld => ?_)
       clear hK K
       refine norm_ (a':=?_) ?_ ?_;rotate_left
       ·show Act.put _ (some 31) _ = _;simp only [Act.put,qA0,qB0,qC0,i64_w,i32_w];rfl
       refine zP0 (i:=6) (N:=some 33) (zF0 14 3071) rfl rfl HT_.out ?_
       exact norm_ (by simp only [putAll,Act.put,qA0,qB0,qC0]) (hCont (v257) _ ⟨hHeld,(zR0 HO258.out),(zK0 BK250.out),(by repeat (first | (with_reducible first | exact HB.out | apply below_alloc | apply pw_below_drewN | apply below_drew1 | refine below_set ?_ GE250.out) | exact HB.out))⟩)
     rintro v257 w22 ⟨hS_,h0_,h1_,h2_⟩
     have n0_ : Aside0 (Kd.R (Kd.int .u8) 5 w22 w.heap.size (fun _ => True) v257 y256):=⟨h0_⟩
     have n1_ : Aside0 (w22.heap[gb250]? = some (.cells #[.int .i64 a0_0,.int .i64 a0_1,.string a0_2,.slice A0_3 l0_3.length c0_3] 40 (0,0))):=⟨h1_⟩
     have n2_ : Aside0 (Below w.heap.size w w22):=⟨h2_⟩
     clear BK250
     clear HB
     clear h0_ h1_ h2_
     have HO258:=n0_
     have BK250:=n1_
     have HB:=n2_
     clear n0_ n1_ n2_
     have hHeld : w22.cell? ⟨gb250,0,none⟩ = some (.int .i64 a0_0) ∧ w22.cell? ⟨gb250,1,none⟩ = some (.int .i64 a0_1) ∧ w22.cell? ⟨gb250,2,none⟩ = some (.string a0_2) ∧ w22.cell? ⟨gb250,3,none⟩ = some (.slice A0_3 l0_3.length c0_3):=hS_
     refine norm_ (a':=?_) ?_ ?_;rotate_left
     ·simp only [putAll,Act.put,qA0,qB0,qC0]
      rfl
     refine zP0 (i:=10) (N:=some 37) (zF0 14 4095) rfl rfl HT_.out ?_
     refine zP0 (i:=12) (N:=some 39) (zF0 14 8191) rfl rfl HT_.out ?_
     refine zP0 (i:=13) (N:=some 8) (zF0 14 16383) rfl rfl HT_.out ?_
     refine done_ (done_of HT_.out (by kernel_rfl)) ?_
     have hcz23_0 : w22.cell? ⟨gb250,0,none⟩ = some (.int .i64 a0_0):=(blk_cell BK250.out 0).trans rfl
     have hcz23_1 : w22.cell? ⟨gb250,1,none⟩ = some (.int .i64 a0_1):=(blk_cell BK250.out 1).trans rfl
     have hcz23_2 : w22.cell? ⟨gb250,2,none⟩ = some (.string a0_2):=(blk_cell BK250.out 2).trans rfl
     have hcz23_3 : w22.cell? ⟨gb250,3,none⟩ = some (.slice A0_3 l0_3.length c0_3):=(blk_cell BK250.out 3).trans rfl
     have hfz23_0:=blk_frozen BK250.out 0
     have hfz23_1:=blk_frozen BK250.out 1
     have hfz23_2:=blk_frozen BK250.out 2
     have hfz23_3:=blk_frozen BK250.out 3
     try go_wp2
     go_loopg [8,43] k (fun kq v8 v43 w' => ∃ (x8_1 : ByteArray) (x43_1 : Int),v8 = .string x8_1 ∧ v43 = .int .i64 x43_1 ∧ Aside0 (impl_ValText.l0 kq x8_1 l0_3 (l0_3.length : Int) x43_1 = some (r1,r2)) ∧ Aside0 (kq ≤ k) ∧ Aside0 (w'.heap[gb250]? = some (.cells #[.int .i64 a0_0,.int .i64 a0_1,.string a0_2,(.slice A0_3 l0_3.length c0_3)] 40 (0,0))) ∧ Aside0 (Below w.heap.size w w'))
     case atStart => exact ⟨((((strOfNums y256) ++ t252) ++ t259) ++ t254),(0),(by first | rfl | (simp;done) | (simp [*];done)),(by first | rfl | (simp;done) | (simp [*];done)),H',⟨Nat.le_refl _⟩,⟨by (with_reducible repeat (first | refine blk_drewN ?_ _ | refine blk_drew ?_ | refine blk_alloc ?_ _));exact BK250.out⟩,⟨by repeat (first | (with_reducible first | exact HB.out | apply below_alloc | apply pw_below_drewN | apply below_drew1 | refine below_set ?_ GE250.out) | exact HB.out)⟩⟩
     case round =>
      clear H'
      try clear c2
      try clear p2
      try clear hcv2
      try clear c3
      try clear c4
      try clear c6
      try clear c6b0
      try clear c6b1
      try clear c6b2
      try clear c8
      try clear c8b0
      try clear c8b1
      try clear c8b2
      try clear c9
      try clear c9b0
      try clear c9b1
      try clear c9b2
      try clear hcv20
      try clear c21
      try clear hcv21
      try clear hcz11_0
      try clear hcz11_1
      try clear hcz11_2
      try clear hcz11_3
      try clear hcz13_0
      try clear hcz13_1
      try clear hcz13_2
      try clear hcz13_3
      try clear hcz15_0
      try clear hcz15_1
      try clear hcz15_2
      try clear hcz15_3
      try clear hcz23_0
      try clear hcz23_1
      try clear hcz23_2
      try clear hcz23_3
      try clear hfz11_0
      try clear hfz11_1
      try clear hfz11_2
      try clear hfz11_3
      try clear hfz13_0
      try clear hfz13_1
      try clear hfz13_2
      try clear hfz13_3
      try clear hfz15_0
      try clear hfz15_1
      try clear hfz15_2
      try clear hfz15_3
      try clear hfz23_0
      try clear hfz23_1
      try clear hfz23_2
      try clear hfz23_3
      obtain ⟨x8_1,x43_1,rfl,rfl,HA,HK1,BK250,HB⟩:=hrel
      cases gk with
      | zero => exact absurd HA.out (by simp [impl_ValText.l0])
      | succ k1 =>
       have H:=HA.out
       clear HA
       simp only [impl_ValText.l0] at H
       by_cases c24 : x43_1 < (l0_3.length : Int)
       ·rw [if_pos c24] at H
        have c24b0 : decide (x43_1 < (l0_3.length : Int)) = true:=decide_eq_true c24
        clear c24
        by_cases c25 : 0 ≤ x43_1
        ·rw [if_pos c25] at H
         have c25b0 : decide (0 ≤ x43_1) = true:=decide_eq_true c25
         clear c25
         by_cases c26 : x43_1 < (l0_3.length : Int)
         ·rw [if_pos c26] at H
          have c26b0 : decide (x43_1 < (l0_3.length : Int)) = true:=decide_eq_true c26
          clear c26
          replace H:=Option.bind_eq_some_iff.mp H
          obtain ⟨t261,A270,H⟩:=H
          replace H : (if x8_1.size + t261.size ≤ 9223372036854775807 then (impl_ValText.l0 k1 (x8_1 ++ t261) l0_3 (l0_3.length : Int) (wrap64 (x43_1 + 1))) else (none)) = some (r1,r2):=H
          have A27:=Aside0.mk A270
          clear A270
          by_cases c28 : x8_1.size + t261.size ≤ 9223372036854775807
          ·rw [if_pos c28] at H
           have c28b0:=eq_true c28
           have c28b1 : decide (x8_1.size + t261.size ≤ 9223372036854775807) = true:=decide_eq_true c28
           try have c28b2 : (9223372036854775807 < x8_1.size + t261.size) = False:=eq_false (Nat.not_lt.2 c28)
           have H':=Aside0.mk H
           clear H
           have p260 : 0 ≤ (x43_1 : Int):=of_decide_eq_true (by first | (with_reducible assumption) | assumption)
           have q260 : x43_1 < (l0_3.length : Int):=of_decide_eq_true (by first | (with_reducible assumption) | assumption)
           obtain ⟨ad260,e260,hx260_0⟩:=Kd.at_string HR0_3.out x43_1 p260 q260
           cases e260
           replace hx260_0:=(HB.out.cell (World.block_lt_of_cell? w _ hx260_0)).trans hx260_0
           replace p260:=eq_true p260
           replace q260:=eq_true q260
           go_wp2_with (first | ((with_reducible refine gate_callee (f:=42) rfl ?_);refine goesL_ (some 49) rfl rfl Try.func42 (by kernel_rfl) rfl #[.string (rdOf ByteArray.empty l0_3 x43_1)] rfl zM0 ?_;(with_reducible refine (impl_short.calls k1 (rdOf ByteArray.empty l0_3 x43_1) t261 _ A27.out).mono ?_);rintro e w29 ⟨rfl,hb⟩;refine ⟨_,rfl,?_⟩;have n0_:=Aside0.mk (zB0 BK250.out hb);have n1_:=Aside0.mk (zS0 HB.out hb);clear BK250;clear HB;have BK250:=n0_;have HB:=n1_;clear n0_ n1_;(try clear hb);(try clear hb2);(try clear hk);(try clear hi)))
           go_roundg k1
           case measure => have:=HK1.out;omega
           case rel => exact ⟨(x8_1 ++ t261),(wrap64 (x43_1 + 1)),(by first | rfl | (simp;done) | (simp [*];done)),(by first | rfl | (simp;done) | (simp [*];done)),H',⟨by have:=HK1.out;omega⟩,⟨by (with_reducible repeat (first | refine blk_drewN ?_ _ | refine blk_drew ?_ | refine blk_alloc ?_ _));exact BK250.out⟩,⟨by repeat (first | (with_reducible first | exact HB.out | apply below_alloc | apply pw_below_drewN | apply below_drew1 | refine below_set ?_ GE250.out) | exact HB.out)⟩⟩
          ·rw [if_neg c28] at H
           exact absurd H (by simp)
         ·rw [if_neg c26] at H
          exact absurd H (by simp)
        ·rw [if_neg c25] at H
         exact absurd H (by simp)
       ·rw [if_neg c24] at H
        have c24b0 : decide (x43_1 < (l0_3.length : Int)) = false:=decide_eq_false c24
        clear c24
        simp only [Option.some.injEq,Prod.mk.injEq] at H
        obtain ⟨rfl,rfl⟩:=H
        go_wp2
        go_ret2
        exact ⟨by first | rfl | (simp [errW_none,errW_some] <;> rfl) | (simp [*,errW_none,errW_some] <;> rfl),by repeat (first | (with_reducible first | exact HB.out | apply below_alloc | apply pw_below_drewN | apply below_drew1 | refine below_set ?_ GE250.out) | exact HB.out)⟩
    ·rw [if_neg c9] at H
     exact absurd H (by simp)
   ·rw [if_neg c8] at H
    exact absurd H (by simp)
  ·rw [if_neg c6] at H
   exact absurd H (by simp)
 ·replace c3:=Bool.eq_false_iff.mpr c3
  subst c3
  have H1 : (some ((⟨#[]⟩ : ByteArray),false)) = some (r1,r2):=by rw [if_neg (show ¬ (false = true) by decide)] at H;exact H
  clear H
  have H:=H1
  clear H1
  simp only [Option.some.injEq,Prod.mk.injEq] at H
  obtain ⟨rfl,rfl⟩:=H
  go_enter Try.func21,Try.ntmps21
  go_wp2_with (first | ((with_reducible refine gate_dst (N:=1) rfl ?_);refine box_event ?hg (N:=1) ?hd (cs:=#[.int .i64 a0_0,.int .i64 a0_1,.string a0_2,.slice A0_3 l0_3.length c0_3]) (t:=40) ?hr ?_;(case hd => rfl);(case hg => rfl);(case hr => first | (go_simp;done) | (go_simp;rfl));intro gb250 hg w30 hbox hb;have n0_:=Aside0.mk (zS0 HB.out hb);have n1_:=Aside0.mk (hbox);have n2_:=Aside0.mk ((by rw [hg];exact (zZ0 HB.out) : w.heap.size ≤ gb250));have n3_:=Aside0.mk ((by rw [hg];exact (zZ0 HB.out) : w.heap.size ≤ gb250));clear HB;have HB:=n0_;have BK250:=n1_;have GW250:=n2_;have GE250:=n3_;clear n0_ n1_ n2_ n3_;clear hb hbox hg;have hcz31_0 : w30.cell? ⟨gb250,0,none⟩ = some (.int .i64 a0_0):=(blk_cell BK250.out 0).trans rfl;have hcz31_1 : w30.cell? ⟨gb250,1,none⟩ = some (.int .i64 a0_1):=(blk_cell BK250.out 1).trans rfl;have hcz31_2 : w30.cell? ⟨gb250,2,none⟩ = some (.string a0_2):=(blk_cell BK250.out 2).trans rfl;have hcz31_3 : w30.cell? ⟨gb250,3,none⟩ = some (.slice A0_3 l0_3.length c0_3):=(blk_cell BK250.out 3).trans rfl;have hfz31_0:=blk_frozen BK250.out 0;have hfz31_1:=blk_frozen BK250.out 1;have hfz31_2:=blk_frozen BK250.out 2;have hfz31_3:=blk_frozen BK250.out 3) | ((with_reducible refine gate_callee (f:=36) rfl ?_);refine goesL_ (some 12) rfl rfl Try.func36 (by kernel_rfl) rfl #[.agg #[.int .i64 a0_0,.int .i64 a0_1,.string a0_2,.slice A0_3 l0_3.length c0_3]] rfl zM0 ?_;(with_reducible refine (impl_ValOk.calls k a0_0 a0_1 a0_2 _ _ l0_3 false _ ?side1 ?side2 A2.out).mono ?_);(case side1 => repeat (first | exact (Kd.C_below HR0_3.out HB.out) | (with_reducible refine Kd.C_alloc ?_ _) | (with_reducible refine Kd.C_drewN ?_ _) | (with_reducible refine Kd.C_drew ?_)));(case side2 => exact HC0_3.out);rintro e w32 ⟨rfl,hb⟩;refine ⟨_,rfl,?_⟩;have n0_:=Aside0.mk (zB0 BK250.out hb);have n1_:=Aside0.mk (zS0 HB.out hb);clear BK250;clear HB;have BK250:=n0_;have HB:=n1_;clear n0_ n1_;(try clear hb);(try clear hb2);(try clear hk);(try clear hi)))
  go_ret2
  exact ⟨by first | rfl | (simp [errW_none,errW_some] <;> rfl) | (simp [*,errW_none,errW_some] <;> rfl),by repeat (first | (with_reducible first | exact HB.out | apply below_alloc | apply pw_below_drewN | apply below_drew1 | refine below_set ?_ GE250.out) | exact HB.out)⟩

/-! ### impl_Change_22: function 22 (a text of its own) -/
def Try.sortChanges_ren : Go.Shelf.Ren := ⟨fun | 6 => 22 | 15 => 44 | 14 => 43 | 28 => 60 | 29 => 61 | 20 => 52 | 21 => 53 | 22 => 54 | 23 => 55 | 24 => 56 | 25 => 57 | 26 => 58 | 27 => 59 | 46 => 64 | 47 => 65 | 48 => 66 | 49 => 67 | 50 => 68 | 57 => 69 | n => n, fun | 22 => 24 | 24 => 44 | 25 => 53 | 3 => 3 | 39 => 72 | 0 => 0 | 53 => 85 | 55 => 87 | 4 => 4 | 46 => 78 | 45 => 77 | 50 => 82 | 5 => 5 | 9 => 9 | 66 => 88 | 70 => 92 | 76 => 94 | 77 => 95 | n => n, fun | n => n⟩
theorem Try.sortChanges : Go.Proofs.SlLaysF0.n6 Try.prog Try.sortChanges_ren := {
  mixed := by kernel_rfl
  f6 := ⟨Try.f22.name, by decide, Try.func22.trans (congrArg some (by kernel_rfl))⟩
  f14 := ⟨Try.f43.name, by decide, Try.func43.trans (congrArg some (by kernel_rfl))⟩
  f15 := Try.func44.trans (congrArg some (by kernel_rfl))
  f20 := ⟨Try.f52.name, by decide, Try.func52.trans (congrArg some (by kernel_rfl))⟩
  f21 := ⟨Try.f53.name, by decide, Try.func53.trans (congrArg some (by kernel_rfl))⟩
  f22 := ⟨Try.f54.name, by decide, Try.func54.trans (congrArg some (by kernel_rfl))⟩
  f23 := ⟨Try.f55.name, by decide, Try.func55.trans (congrArg some (by kernel_rfl))⟩
  f24 := ⟨Try.f56.name, by decide, Try.func56.trans (congrArg some (by kernel_rfl))⟩
  f25 := ⟨Try.f57.name, by decide, Try.func57.trans (congrArg some (by kernel_rfl))⟩
  f26 := ⟨Try.f58.name, by decide, Try.func58.trans (congrArg some (by kernel_rfl))⟩
  f27 := ⟨Try.f59.name, by decide, Try.func59.trans (congrArg some (by kernel_rfl))⟩
  f28 := Try.func60.trans (congrArg some (by kernel_rfl))
  f29 := Try.func61.trans (congrArg some (by kernel_rfl))
  f46 := ⟨Try.f64.name, by decide, Try.func64.trans (congrArg some (by kernel_rfl))⟩
  f47 := Try.func65.trans (congrArg some (by kernel_rfl))
  f48 := Try.func66.trans (congrArg some (by kernel_rfl))
  f49 := ⟨Try.f67.name, by decide, Try.func67.trans (congrArg some (by kernel_rfl))⟩
  f50 := ⟨Try.f68.name, by decide, Try.func68.trans (congrArg some (by kernel_rfl))⟩
  f57 := ⟨Try.f69.name, by decide, Try.func69.trans (congrArg some (by kernel_rfl))⟩
  t0 := Try.underlying0
  a0 := Try.isAgg0
  z0 := Try.sizeOf0
  v0 := Try.zeroValue0
  t3 := Try.underlying3
  a3 := Try.isAgg3
  z3 := Try.sizeOf3
  v3 := Try.zeroValue3
  t4 := Try.underlying4
  a4 := Try.isAgg4
  z4 := Try.sizeOf4
  v4 := Try.zeroValue4
  t5 := Try.underlying5
  a5 := Try.isAgg5
  z5 := Try.sizeOf5
  v5 := Try.zeroValue5
  t9 := Try.underlying9
  a9 := Try.isAgg9
  z9 := Try.sizeOf9
  v9 := Try.zeroValue9
  t22 := Try.underlying24
  a22 := Try.isAgg24
  z22 := Try.sizeOf24
  v22 := Try.zeroValue24
  t25 := Try.underlying53
  a25 := Try.isAgg53
  z25 := Try.sizeOf53
  v25 := Try.zeroValue53
  t39 := Try.underlying72
  a39 := Try.isAgg72
  z39 := Try.sizeOf72
  v39 := Try.zeroValue72
  t45 := Try.underlying77
  a45 := Try.isAgg77
  z45 := Try.sizeOf77
  v45 := Try.zeroValue77
  t46 := Try.underlying78
  a46 := Try.isAgg78
  z46 := Try.sizeOf78
  v46 := Try.zeroValue78
  t50 := Try.underlying82
  a50 := Try.isAgg82
  z50 := Try.sizeOf82
  v50 := Try.zeroValue82
  t53 := Try.underlying85
  a53 := Try.isAgg85
  z53 := Try.sizeOf85
  v53 := Try.zeroValue85
  t55 := Try.underlying87
  a55 := Try.isAgg87
  z55 := Try.sizeOf87
  v55 := Try.zeroValue87
  t66 := Try.underlying88
  a66 := Try.isAgg88
  z66 := Try.sizeOf88
  v66 := Try.zeroValue88
  t70 := Try.underlying92
  a70 := Try.isAgg92
  z70 := Try.sizeOf92
  v70 := Try.zeroValue92
  t76 := Try.underlying94
  a76 := Try.isAgg94
  z76 := Try.sizeOf94
  v76 := Try.zeroValue94
  t77 := Try.underlying95
  a77 := Try.isAgg95
  z77 := Try.sizeOf95
  v77 := Try.zeroValue95 }
def Try.stringsCompare_ren : Go.Shelf.Ren := ⟨fun | 106 => 24 | 213 => 45 | 265 => 62 | n => n, fun | 9 => 9 | 3 => 3 | n => n, fun | n => n⟩
theorem Try.stringsCompare : Go.Proofs.Lays.n106 Try.prog Try.stringsCompare_ren := {
  mixed := by kernel_rfl
  f106 := Try.func24.trans (congrArg some (by kernel_rfl))
  f213 := Try.func45.trans (congrArg some (by kernel_rfl))
  f265 := Try.func62.trans (congrArg some (by kernel_rfl))
  t3 := Try.underlying3
  a3 := Try.isAgg3
  z3 := Try.sizeOf3
  v3 := Try.zeroValue3
  t9 := Try.underlying9
  a9 := Try.isAgg9
  z9 := Try.sizeOf9
  v9 := Try.zeroValue9 }
instance : Inhabited S44:=⟨z44⟩
def encC (x : S44) : List Value:=[.string x.f0,.string x.f1,.bool x.f2]
def cmpC (x y : S44) : Int:=Lib.compareBytes x.f0.data.toList y.f0.data.toList
theorem compare_lt : ∀ (a b : List UInt8),Lib.compareBytes a b < 0 ↔ Op.bytesLess a b = true
 | [],[] => by simp [Lib.compareBytes,Op.bytesLess]
 | [],_ :: _ => by simp [Lib.compareBytes,Op.bytesLess]
 | _ :: _,[] => by simp [Lib.compareBytes,Op.bytesLess]
 | a :: s,b :: t => by
  unfold Lib.compareBytes
  simp only [Op.bytesLess,Bool.or_eq_true,Bool.and_eq_true,decide_eq_true_eq,beq_iff_eq]
  by_cases h : a < b
  ·simp [h]
  ·by_cases h2 : b < a
   ·have : a ≠ b:=fun e => by subst e;exact h h2
    simp [h,h2,this]
   ·have : a = b:=UInt8.le_antisymm (UInt8.not_lt.1 h2) (UInt8.not_lt.1 h)
    subst this
    simp [h,compare_lt s t]
theorem lessB_trans : ∀ (x y z : List UInt8),Op.bytesLess x y = true → Op.bytesLess y z = true → Op.bytesLess x z = true
 | _,_,[],_,h => by simp [Op.bytesLess] at h
 | _,[],_ :: _,h,_ => by simp [Op.bytesLess] at h
 | [],_ :: _,_ :: _,_,_ => by simp [Op.bytesLess]
 | a :: s,b :: t,c :: u,h,k => by
  simp only [Op.bytesLess,Bool.or_eq_true,Bool.and_eq_true,decide_eq_true_eq,beq_iff_eq] at h k ⊢
  rcases h with h | ⟨rfl,h⟩
  ·rcases k with k | ⟨rfl,k⟩
   ·exact .inl (UInt8.lt_trans h k)
   ·exact .inl h
  ·rcases k with k | ⟨rfl,k⟩
   ·exact .inl k
   ·exact .inr ⟨rfl,lessB_trans s t u h k⟩
theorem lessB_irrefl : ∀ (x : List UInt8),Op.bytesLess x x = false
 | [] => by simp [Op.bytesLess]
 | a :: s => by simp [Op.bytesLess,lessB_irrefl s]
theorem lessB_two : ∀ (x y : List UInt8),Op.bytesLess x y = false → Op.bytesLess y x = false → x = y
 | [],[],_,_ => rfl
 | [],_ :: _,h,_ => by simp [Op.bytesLess] at h
 | _ :: _,[],_,h => by simp [Op.bytesLess] at h
 | a :: s,b :: t,h,k => by
  simp only [Op.bytesLess,Bool.or_eq_false_iff,Bool.and_eq_false_imp,decide_eq_false_iff_not,beq_iff_eq] at h k
  have e : a = b:=UInt8.le_antisymm (UInt8.not_lt.1 k.1) (UInt8.not_lt.1 h.1)
  subst e
  rw [lessB_two s t (h.2 rfl) (k.2 rfl)]
theorem ltC (x y : S44) : ltOf cmpC x y = Op.bytesLess x.f0.data.toList y.f0.data.toList:=by
 unfold ltOf cmpC
 rcases h : Op.bytesLess x.f0.data.toList y.f0.data.toList with _ | _
 ·rw [decide_eq_false_iff_not,compare_lt,h];decide
 ·rw [decide_eq_true_eq,compare_lt,h]
theorem swoC : Sort.SWO (ltOf cmpC) where
 irrefl x:=by rw [ltC];exact lessB_irrefl _
 trans x y z h1 h2:=by rw [ltC] at *;exact lessB_trans _ _ _ h1 h2
 ntrans x y z h1 h2:=by
  rw [ltC] at *
  rcases h3 : Op.bytesLess z.f0.data.toList y.f0.data.toList with _ | _
  ·rw [← lessB_two _ _ h2 h3];exact h1
  ·rcases h4 : Op.bytesLess x.f0.data.toList z.f0.data.toList with _ | _
   ·rfl
   ·rw [lessB_trans _ _ _ h4 h3] at h1;exact h1
set_option maxHeartbeats 1000000 in
theorem cmpC_walk (x y : S44) (W : World) : Calls Try.prog 23 #[.agg #[.string x.f0,.string x.f1,.bool x.f2],.agg #[.string y.f0,.string y.f1,.bool y.f2]] W fun e w' => e = .returned (.int .i64 (cmpC x y)) ∧ ∃ q os',w' = Sort.grow (W.drewN q) os':=by
 have hcon:=fun W' => Any.strings_Compare Try.stringsCompare x.f0 y.f0 W'
 change ∀ W',Calls Try.prog 24 _ _ _ at hcon
 unfold cmpC
 generalize Lib.compareBytes x.f0.data.toList y.f0.data.toList = r at hcon ⊢
 go_enter Try.func23,Try.ntmps23
 go_wp2_with (go_at_call 24;refine (hcon _).mono ?_;rintro e w' ⟨rfl,rfl⟩)
 go_ret
 exact ⟨rfl,0,_,by rw [Sort.alloc_eq_grow,Sort.alloc_eq_grow,Sort.grow_grow];rfl⟩
def slices_SortFunc_c.f (l : List S44) : Option (List S44):=if l.length < 4611686018427387904 then some (Sort.pdq (ltOf cmpC) l.toArray 0 l.toArray.size (Lib.bitLen l.toArray.size) true true).toList else none
theorem mapBlock_heap (w : World) (g : Nat) (f : Array Value → Array Value) (k : Nat) : (Sort.mapBlock w g f).heap[k]? = if g = k then (w.heap[k]?).map (Sort.onCells f) else w.heap[k]?:=by
 unfold Sort.mapBlock
 simp only [Array.getElem?_modify]
theorem sorted_heap (w : World) (g m : Nat) (d : Array S44) (os : Array Obj) (k : Nat) (hk : k < w.heap.size) :
  (sortWorldK encC 3 w g 0 m d os).heap[k]? = if g = k then (w.heap[k]?).map (Sort.onCells (Sort.putCells id 0 (Sort.flatK encC 3 d))) else w.heap[k]?:=by
 unfold sortWorldK Sort.grow Sort.putRowK Sort.putRow
 have : k < (Sort.mapBlock (Sort.ahead w m) g (Sort.putCells id 0 (Sort.flatK encC 3 d))).heap.size:=by simp [Sort.mapBlock,hk]
 show ((Sort.mapBlock (Sort.ahead w m) g (Sort.putCells id 0 (Sort.flatK encC 3 d))).heap ++ os)[k]? = _
 rw [Array.getElem?_append_left this,mapBlock_heap]
 rfl
set_option maxHeartbeats 2000000 in
theorem slices_SortFunc_c.calls (P0_ : Nat → Prop) (u : Value) (l0 r1 : List S44) (w0 w : World) (hB : Below w0.heap.size w0 w) (ho0 : Kd.R k44 44 w w0.heap.size P0_ u l0) (h : slices_SortFunc_c.f l0 = some r1) :
  Calls Try.prog 22 #[u,.func (.func 23) #[] #[]] w fun e w' => e = .returned (.tuple #[]) ∧ Kd.R k44 44 w' w0.heap.size (fun k_ => (P0_ k_ ∨ w.heap.size ≤ k_)) u r1 ∧ Below w0.heap.size w0 w' ∧ Kept w w' (fun k_ => P0_ k_):=by
 unfold slices_SortFunc_c.f at h
 split at h
 case isFalse => cases h
 rename_i hl
 replace h:=Option.some.inj h
 have hsize : r1.length = l0.length:=by
  rw [← h,Array.length_toList]
  have:=(Sort.pdq_sorts (ltOf cmpC) swoC l0.toArray 0 l0.toArray.size (Lib.bitLen l0.toArray.size) true true (Nat.zero_le _) (Nat.le_refl _) (Or.inl rfl)).1.1
  rw [this,List.size_toArray]
 obtain ⟨hok,inner,⟨hlen,hform⟩,hreps⟩:=ho0
 simp only [show k44.sz = 3 from rfl] at hlen hform hreps
 rcases hform with ⟨rfl,hn⟩ | ⟨g,cap,cur,rfl,hg,hh,hnc,hcm,hcs,hct⟩
 ·have e0 : l0 = []:=List.eq_nil_of_length_eq_zero hn
  have e1 : r1 = []:=List.eq_nil_of_length_eq_zero (by rw [hsize,hn])
  subst e0 e1
  exact (AnyF.slices_SortFunc_none { Try.sortChanges with } none 0 (.func (.func 23) #[] #[]) w).mono (fun e w' h_ => by obtain ⟨he,hw⟩:=h_;subst hw;exact ⟨he,Kd.R_nil _ _ _ _ _,hB,Kept.refl _ _⟩)
 ·have hcur : ∀ j,j < l0.length * 3 → cur[j]? = inner[j]?:=fun j hj => by
   rw [← hct,List.getElem?_take,if_pos hj,Array.getElem?_toList]
  have hin : ∀ q,(hq : q < l0.length) → ∀ c,c < 3 → inner[q * 3 + c]? = (encC l0[q])[c]?:=fun q hq c hc => by
   have hM:=hreps.2 q l0[q] (List.getElem?_eq_getElem hq)
   have e:=k44_openM hM
   have e2 : ((inner.drop (q * 3)).take 3)[c]? = inner[q * 3 + c]?:=by
    rw [List.getElem?_take,if_pos hc,List.getElem?_drop]
   rw [← e2]
   exact congrArg (fun l : List Value => l[c]?) e
  have hH : Sort.HoldsK encC 3 w g 0 l0.toArray:=fun j hj => by
   rw [Sort.size_flatK,List.size_toArray] at hj
   refine ⟨?_,blk_frozen hh _⟩
   rw [Sort.get_flatK _ _ _ _ (by rw [List.size_toArray];exact hj),Nat.zero_add,blk_cell hh,hcur j hj]
   have hq : j / 3 < l0.length:=by omega
   have hc : j % 3 < 3:=by omega
   have e:=hin (j / 3) hq (j % 3) hc
   rw [show j / 3 * 3 + j % 3 = j from by omega] at e
   rw [e,getElem!_pos l0.toArray (j / 3) (by simpa using hq),List.getElem_toArray,List.getElem?_eq_getElem (show j % 3 < (encC l0[j / 3]).length from hc),getElem!_pos (encC l0[j / 3]) (j % 3) hc]
   rfl
  have hgl : g < w.heap.size:=blk_lt hh
  have hcon:=AnyQ.slices_SortFunc_eq Try.sortChanges 3 Try.isAgg44 Try.sizeOf44 encC (fun _ => rfl) (fun x v hv => by simp [encC] at hv;rcases hv with rfl | rfl | rfl <;> rfl) cmpC swoC 23 #[] g 0 cap l0.toArray w (enters_of Try.func23 (by kernel_rfl) rfl) (fun m os dk _ x y => cmpC_walk x y _) hH hgl (by simpa using hl)
  rw [List.size_toArray] at hcon h
  change Calls Try.prog 22 _ _ _ at hcon
  clear hH hin
  refine hcon.mono ?_
  rintro e w' ⟨rfl,n,os,rfl⟩
  generalize Sort.pdq (ltOf cmpC) l0.toArray 0 l0.length (Lib.bitLen l0.length) true true = d at h ⊢
  subst h
  have hsd : d.size = l0.length:=by rw [← Array.length_toList];exact hsize
  have hgt : (sortWorldK encC 3 w g 0 n d os).heap[g]? = some (.cells (Sort.putCells id 0 (Sort.flatK encC 3 d) cur) 44 (0,0)):=by
   rw [sorted_heap _ _ _ _ _ _ hgl,if_pos rfl,hh]
   rfl
  have hot : ∀ k,k < w.heap.size → k ≠ g → (sortWorldK encC 3 w g 0 n d os).heap[k]? = w.heap[k]?:=fun k hk hne => by
   rw [sorted_heap _ _ _ _ _ _ hk,if_neg (Ne.symm hne)]
  have hsz : w.heap.size ≤ (sortWorldK encC 3 w g 0 n d os).heap.size:=by
   unfold sortWorldK Sort.grow Sort.putRowK Sort.putRow Sort.mapBlock
   simp
  have hfl : (Sort.flatK encC 3 d).toList.length = d.toList.length * 3:=by rw [Array.length_toList,Sort.size_flatK,Array.length_toList]
  have hk0 : P0_ g:=hok g rfl
  refine ⟨rfl,⟨fun k hk => .inl (hok k hk),(Sort.flatK encC 3 d).toList,⟨hfl,.inr ⟨g,cap,Sort.putCells id 0 (Sort.flatK encC 3 d) cur,by rw [hsize],hg,hgt,by rw [hsize];exact hnc,hcm,by show _ = cap * 3;rw [← hcs];unfold Sort.putCells;simp,?_⟩⟩,hfl,?_⟩,⟨?_,?_,?_,Nat.le_trans hB.size hsz,fun k hk => ?_⟩,hsz,fun k hk hn => hot k hk (fun e => hn (by rw [e];exact hk0))⟩
  ·show (Sort.putCells id 0 (Sort.flatK encC 3 d) cur).toList.take (d.toList.length * 3) = _
   apply List.ext_getElem?
   intro j
   rw [List.getElem?_take]
   split
   ·rename_i hj
    rw [hsize,← hsd] at hj
    have hj2 : j < (Sort.flatK encC 3 d).size:=by rw [Sort.size_flatK];exact hj
    have hj3 : j < cur.size:=by rw [hcs];rw [hsd] at hj;have:=Nat.mul_le_mul_right 3 hnc;omega
    rw [Array.getElem?_toList,Array.getElem?_toList]
    unfold Sort.putCells
    rw [Array.getElem?_mapIdx,Array.getElem?_eq_getElem hj3,Option.map_some,if_pos ⟨Nat.zero_le _,by omega⟩,Nat.sub_zero,Array.getElem?_eq_getElem hj2,getElem!_pos _ j hj2]
    rfl
   ·rename_i hj
    exact (List.getElem?_eq_none (by rw [hfl];exact Nat.le_of_not_lt hj)).symm
  ·intro q p hp
   show k44.M _ _ _ p (((Sort.flatK encC 3 d).toList.drop (q * 3)).take 3)
   have hq : q < d.size:=by
    have:=(List.getElem?_eq_some_iff.1 hp).1
    rwa [Array.length_toList] at this
   have hpe : d[q]! = p:=by
    rw [Array.getElem?_toList,Array.getElem?_eq_getElem hq] at hp
    rw [getElem!_pos d q hq]
    exact Option.some.inj hp
   have : ((Sort.flatK encC 3 d).toList.drop (q * 3)).take 3 = encC p:=by
    apply List.ext_getElem?
    intro c
    rw [List.getElem?_take]
    split
    ·rename_i hc
     have hlt : q * 3 + c < d.size * 3:=by omega
     rw [List.getElem?_drop,Array.getElem?_toList,Array.getElem?_eq_getElem (by rw [Sort.size_flatK];exact hlt),← getElem!_pos (Sort.flatK encC 3 d) _ (by rw [Sort.size_flatK];exact hlt),Sort.get_flatK _ _ _ _ hlt,show (q * 3 + c) / 3 = q from by omega,show (q * 3 + c) % 3 = c from by omega,hpe,getElem!_pos (encC p) c hc,List.getElem?_eq_getElem (show c < (encC p).length from hc)]
     rfl
    ·rename_i hc
     rw [List.getElem?_eq_none (show (encC p).length ≤ c from by show 3 ≤ c;omega)]
   rw [this]
   exact k44_mkM _ _ _ _
  ·exact hB.os
  ·exact hB.tape
  ·exact hB.output
  ·rw [hot k (Nat.lt_of_lt_of_le hk hB.size) (by omega)]
   exact hB.block k hk

end Go.Proofs.Ytlekhcopddajbaa.PFnExactDiffer
