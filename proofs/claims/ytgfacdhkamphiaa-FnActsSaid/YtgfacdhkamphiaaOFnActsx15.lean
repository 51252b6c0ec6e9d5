/- Walks, turned from a print. -/
import Derived.Test.YtgfacdhkamphiaaOFnActsx0
import Derived.Test.YtgfacdhkamphiaaOFnActsx10
import Derived.Test.YtgfacdhkamphiaaOFnActsx12
import Derived.Test.YtgfacdhkamphiaaOFnActsx14
namespace Go.Proofs.Ytgfacdhkamphiaa.PFnActs
open Go.RowKit Go.Proofs.YtgfacdhkamphiaaW.PrintWords Go.Proofs.YtgfacdhkamphiaaW.PrintLast Go.Proofs.YtgfacdhkamphiaaW.PrintMore
attribute [local go_sem] max2_int min2_int max_two min_two max_three min_three max_four min_four
set_option linter.unusedVariables false
set_option linter.unusedSimpArgs false

/-! ### spec_l03Act: function 119 -/
def spec_l03Act.j0 : Nat → List Int → Int → Int → Int → ByteArray → ByteArray → ByteArray → Option (Int × ByteArray × ByteArray × ByteArray × Int × Int)
 | 0,_,_,_,_,_,_,_ => none
 | k + 1,x1000,x1001,x1002,x332000,x332001,x332002,x332003 => (spec_l01Below.f x1000 x1001 x1002 40).bind fun bt341 => (if bt341.1 = 0 then ((spec_l01PickInt.f x1000 bt341.2.1 bt341.2.2 (([0,5] : List Int))).bind fun bt347 => (some (bt347.1,x332001,x332002,x332003,bt347.2.1,bt347.2.2))) else (if bt341.1 = 1 then ((spec_l01Pick.f x1000 bt341.2.1 bt341.2.2 (([(⟨#[]⟩ : ByteArray),(⟨#[49,50,51,52,53,54,55,56,57]⟩ : ByteArray),(⟨#[110,101,119]⟩ : ByteArray)] : List ByteArray))).bind fun bt353 => (some (x332000,bt353.1,x332002,x332003,bt353.2.1,bt353.2.2))) else (if bt341.1 = 2 then (some (x332000,x332001,x332002,(⟨#[120]⟩ : ByteArray),bt341.2.1,bt341.2.2)) else (if bt341.1 = 3 then (some (x332000,x332001,(⟨#[120]⟩ : ByteArray),x332003,bt341.2.1,bt341.2.2)) else (some (x332000,x332001,x332002,x332003,bt341.2.1,bt341.2.2))))))
def spec_l03Act.f (k : Nat) (s0_0 : List Int) (s0_1 : Int) (s0_2 : Int) : Option (Int × ByteArray × ByteArray × ByteArray × Int × Int):=(spec_l01Below.f s0_0 s0_1 s0_2 4).bind fun bt325 => ((spec_l03Named.f s0_0 bt325.2.1 bt325.2.2).bind fun bt328 => (if (wrap64 (1 + bt325.1)) = 1 then ((spec_l01Below.f s0_0 bt328.2.1 bt328.2.2 6).bind fun bt332 => ((spec_l01Text.f k s0_0 bt332.2.1 bt332.2.2 bt332.1).bind fun bt335 => (spec_l03Act.j0 k s0_0 bt335.2.1 bt335.2.2 (wrap64 (1 + bt325.1)) bt328.1 bt335.1 (⟨#[]⟩ : ByteArray)))) else (if (wrap64 (1 + bt325.1)) = 3 then ((spec_l03Named.f s0_0 bt328.2.1 bt328.2.2).bind fun bt338 => (spec_l03Act.j0 k s0_0 bt338.2.1 bt338.2.2 (wrap64 (1 + bt325.1)) bt328.1 (⟨#[]⟩ : ByteArray) bt338.1)) else (spec_l03Act.j0 k s0_0 bt328.2.1 bt328.2.2 (wrap64 (1 + bt325.1)) bt328.1 (⟨#[]⟩ : ByteArray) (⟨#[]⟩ : ByteArray)))))
theorem spec_l03Act.mono_l : ∀ k,(∀ y0 y1 y2 y3 y4 y5 y6,LeO (spec_l03Act.j0 k y0 y1 y2 y3 y4 y5 y6) (spec_l03Act.j0 (k + 1) y0 y1 y2 y3 y4 y5 y6))
 | 0 => fun _ _ _ _ _ _ _ r h => by simp [spec_l03Act.j0] at h
 | k + 1 => by
  have ih0:=spec_l03Act.mono_l k
  ·intro y0 y1 y2 y3 y4 y5 y6
   unfold spec_l03Act.j0
   repeat' first
  | (with_reducible exact ih0 _ _ _ _ _ _ _)
  | (with_reducible exact spec_l01Text.mono _ _ _ _ _)
  | (with_reducible exact LeO.refl _)
  | (with_reducible exact LeO.none _)
  | (with_reducible refine LeO.ite ?_ ?_)
  | (with_reducible refine LeO.bind ?_ (fun _ => ?_))
theorem spec_l03Act.mono : ∀ a0 a1 a2 k,LeO (spec_l03Act.f k a0 a1 a2) (spec_l03Act.f (k + 1) a0 a1 a2):=by
 intro a0 a1 a2 k
 have ih0:=spec_l03Act.mono_l k
 unfold spec_l03Act.f
 repeat' first
  | (with_reducible exact ih0 _ _ _ _ _ _ _)
  | (with_reducible exact spec_l01Text.mono _ _ _ _ _)
  | (with_reducible exact LeO.refl _)
  | (with_reducible exact LeO.none _)
  | (with_reducible refine LeO.ite ?_ ?_)
  | (with_reducible refine LeO.bind ?_ (fun _ => ?_))
set_option maxHeartbeats 8000000 in
set_option maxRecDepth 100000 in
theorem spec_l03Act.calls (k : Nat) (g : Nat) (s0_0 : List Int) (s0_1 : Int) (s0_2 : Int) (r1 : Int) (r2 : ByteArray) (r3 : ByteArray) (r4 : ByteArray) (r5 : Int) (r6 : Int) (w0 w : World) (hI : IsS139 w0 w g s0_0 s0_1 s0_2) (hB : Below w0.heap.size w0 w) (h : spec_l03Act.f k s0_0 s0_1 s0_2 = some (r1,r2,r3,r4,r5,r6)) :
  Calls Try.prog 119 #[.pointer (some ⟨g,0,none⟩)] w fun e w' => e = .returned (.agg #[.int .i64 r1,.string r2,.string r3,.string r4]) ∧ IsS139 w0 w' g s0_0 r5 r6 ∧ Below w0.heap.size w0 w' ∧ KeepBut w w' g none:=by
 have hu55:=Try.underlying55
 have HI0:=Aside0.mk hI
 have HK:=Aside0.mk (KeepBut.refl w g none)
 have HL:=Aside0.mk hB.size
 clear hI
 have HW0:=Aside0.mk hB.size
 have HB:=Aside0.mk hB
 clear hB
 have H : ((spec_l01Below.f s0_0 s0_1 s0_2 4).bind fun bt325 => ((spec_l03Named.f s0_0 bt325.2.1 bt325.2.2).bind fun bt328 => (if (wrap64 (1 + bt325.1)) = 1 then ((spec_l01Below.f s0_0 bt328.2.1 bt328.2.2 6).bind fun bt332 => ((spec_l01Text.f k s0_0 bt332.2.1 bt332.2.2 bt332.1).bind fun bt335 => (spec_l03Act.j0 k s0_0 bt335.2.1 bt335.2.2 (wrap64 (1 + bt325.1)) bt328.1 bt335.1 (⟨#[]⟩ : ByteArray)))) else (if (wrap64 (1 + bt325.1)) = 3 then ((spec_l03Named.f s0_0 bt328.2.1 bt328.2.2).bind fun bt338 => (spec_l03Act.j0 k s0_0 bt338.2.1 bt338.2.2 (wrap64 (1 + bt325.1)) bt328.1 (⟨#[]⟩ : ByteArray) bt338.1)) else (spec_l03Act.j0 k s0_0 bt328.2.1 bt328.2.2 (wrap64 (1 + bt325.1)) bt328.1 (⟨#[]⟩ : ByteArray) (⟨#[]⟩ : ByteArray)))))) = some (r1,r2,r3,r4,r5,r6):=h
 clear h
 obtain ⟨⟨t325,t326,t327⟩,A2,H⟩:=bX0 H
 dsimp only at H
 obtain ⟨⟨t328,t329,t330⟩,A3,H⟩:=bX0 H
 dsimp only at H
 have HC4:=Aside0.mk H
 clear H
 go_enter Try.func119,Try.ntmps119
 go_upto_block 0 with (first | ((with_reducible refine gate_dst (N:=2) rfl ?_);refine zy0 (cs:=#[.int .i64 0,.string (⟨#[]⟩ : ByteArray),.string (⟨#[]⟩ : ByteArray),.string (⟨#[]⟩ : ByteArray)]) (t:=55) ?_;intro gb324 hg w5 hbox hb;replace HB:=Aside0.mk (below_step (zj0 HB HI0) hb);have BK324:=Aside0.mk hbox;have GW324:=Aside0.mk ((by rw [hg];exact (keep_size (w:=w) (g:=g) (row:=none) (zk0 HK)) : w.heap.size ≤ gb324));have GE324:=Aside0.mk ((Nat.le_trans HW0.out (by rw [hg];exact (keep_size (w:=w) (g:=g) (row:=none) (zk0 HK)) : w.heap.size ≤ gb324) : w0.heap.size ≤ gb324));replace HK:=Aside0.mk (KeepBut.trans (zk0 HK) (KeepBut.of_below hb g none) (.inl rfl));have NB0_324:=Aside0.mk ((by rw [hg];exact Nat.ne_of_lt (IsS139.lt (show IsS139 w0 _ g s0_0 s0_1 s0_2 from zi0 HI0)) : g ≠ gb324));have NB324_0:=Aside0.mk ((by rw [hg];exact Nat.ne_of_gt (IsS139.lt (show IsS139 w0 _ g s0_0 s0_1 s0_2 from zi0 HI0)) : gb324 ≠ g));replace HI0:=Aside0.mk (IsS139.below (zi0 HI0) hb);clear hb hbox hg) | ((with_reducible refine gate_callee (f:=72) rfl ?_);refine goesL_ (some 5) rfl rfl Try.func72 (by kernel_rfl) rfl #[.pointer (some ⟨g,0,none⟩),.int .i64 4] rfl zM0 ?_;(with_reducible refine (spec_l01Below.calls g s0_0 s0_1 s0_2 4 t325 t326 t327 w0 _ ?side1 ?side2 A2.out).mono ?_);(case side1 => exact zi0 HI0);(case side2 => exact zj0 HB HI0);rintro e w6 ⟨rfl,hi,hb,hk⟩;refine ⟨_,rfl,?_⟩;replace BK324:=zw0 hk BK324 NB324_0;replace HK:=zm0 HK hk;replace HB:=Aside0.mk hb;replace HI0:=Aside0.mk hi;(try clear hb);(try clear hk);(try clear hi)) | ((with_reducible refine gate_callee (f:=75) rfl ?_);refine goesL_ (some 8) rfl rfl Try.func75 (by kernel_rfl) rfl #[.pointer (some ⟨g,0,none⟩)] rfl zM0 ?_;(with_reducible refine (spec_l03Named.calls g s0_0 t326 t327 t328 t329 t330 w0 _ ?side1 ?side2 A3.out).mono ?_);(case side1 => exact zi0 HI0);(case side2 => exact zj0 HB HI0);rintro e w7 ⟨rfl,hi,hb,hk⟩;refine ⟨_,rfl,?_⟩;replace BK324:=zw0 hk BK324 NB324_0;replace HK:=zm0 HK hk;replace HB:=Aside0.mk hb;replace HI0:=Aside0.mk hi;(try clear hb);(try clear hk);(try clear hi)) | ((with_reducible refine gate_dst (N:=3) rfl ?_);refine zy0 (cs:=#[.int .i64 0,.string (⟨#[]⟩ : ByteArray),.string (⟨#[]⟩ : ByteArray),.string (⟨#[]⟩ : ByteArray)]) (t:=55) ?_;intro gb331 hg w8 hbox hb;replace HB:=Aside0.mk (below_step (zj0 HB HI0) hb);have BK331:=Aside0.mk hbox;have GW331:=Aside0.mk ((by rw [hg];exact (keep_size (w:=w) (g:=g) (row:=none) (zk0 HK)) : w.heap.size ≤ gb331));have GE331:=Aside0.mk ((Nat.le_trans HW0.out (by rw [hg];exact (keep_size (w:=w) (g:=g) (row:=none) (zk0 HK)) : w.heap.size ≤ gb331) : w0.heap.size ≤ gb331));replace HK:=Aside0.mk (KeepBut.trans (zk0 HK) (KeepBut.of_below hb g none) (.inl rfl));have NB324_331:=zl0 hg BK324;have NB331_324:=zg0 hg BK324;replace BK324:=zb0 BK324 hb;have NB0_331:=Aside0.mk ((by rw [hg];exact Nat.ne_of_lt (IsS139.lt (show IsS139 w0 _ g s0_0 t329 t330 from zi0 HI0)) : g ≠ gb331));have NB331_0:=Aside0.mk ((by rw [hg];exact Nat.ne_of_gt (IsS139.lt (show IsS139 w0 _ g s0_0 t329 t330 from zi0 HI0)) : gb331 ≠ g));replace HI0:=Aside0.mk (IsS139.below (zi0 HI0) hb);clear hb hbox hg;obtain ⟨_,_⟩:=zn0 NB331_324;obtain ⟨_,_⟩:=zn0 NB331_0;obtain ⟨hcz11_0,hcz11_1,hcz11_2,hcz11_3,hfz11_0,hfz11_1,hfz11_2,hfz11_3⟩:=zd04 BK331))
 (try simp only [Act.put,qA0,qB0,qC0])
 go_cut [] (fun wc => ∃ (kq : Nat) (x1001_3 : Int) (x1002_3 : Int) (x332002_3 : ByteArray) (x332003_3 : ByteArray),Aside0 (spec_l03Act.j0 kq s0_0 x1001_3 x1002_3 (wrap64 (1 + t325)) t328 x332002_3 x332003_3 = some (r1,r2,r3,r4,r5,r6)) ∧ Aside0 (kq ≤ k) ∧ Aside0 (wc.heap[gb324]? = some (.cells #[.int .i64 0,.string (⟨#[]⟩ : ByteArray),.string (⟨#[]⟩ : ByteArray),.string (⟨#[]⟩ : ByteArray)] 55 (0,0))) ∧ Aside0 (wc.heap[gb331]? = some (.cells #[.int .i64 (wrap64 (1 + t325)),.string t328,.string x332002_3,.string x332003_3] 55 (0,0))) ∧ Aside0 (IsS139 w0 wc g s0_0 x1001_3 x1002_3) ∧ Aside0 (KeepBut w wc g none) ∧ Aside0 (Below w0.heap.size w0 wc))
 case first =>
  have H:=HC4.out
  clear HC4
  by_cases c12 : (wrap64 (1 + t325)) = 1
  ·rw [if_pos c12] at H
   have c12b0 : ((wrap64 (1 + t325)) == 1) = true:=beq_iff_eq.mpr c12
   have c12b1 : ((wrap64 (1 + t325)) != 1) = false:=bne_eq_false_iff_eq.mpr c12
   clear c12
   (first | rw [c12b0] | (simp only [i64_w,i32_w];rw [c12b0]) | skip)
   obtain ⟨⟨t332,t333,t334⟩,A13,H⟩:=bX0 H
   dsimp only at H
   obtain ⟨⟨t335,t336,t337⟩,A14,H⟩:=bX0 H
   dsimp only at H
   have H':=Aside0.mk H
   clear H
   go_wp2_with (first | ((with_reducible refine gate_callee (f:=72) rfl ?_);refine goesL_ (some 16) rfl rfl Try.func72 (by kernel_rfl) rfl #[.pointer (some ⟨g,0,none⟩),.int .i64 6] rfl zM0 ?_;(with_reducible refine (spec_l01Below.calls g s0_0 t329 t330 6 t332 t333 t334 w0 _ ?side1 ?side2 A13.out).mono ?_);(case side1 => exact zi0 HI0);(case side2 => exact zj0 HB HI0);rintro e w15 ⟨rfl,hi,hb,hk⟩;refine ⟨_,rfl,?_⟩;replace BK324:=zw0 hk BK324 NB324_0;replace BK331:=Aside0.mk (KeepBut.blk hk (g':=gb331) (o:=.cells #[.int .i64 (wrap64 (1 + t325)),.string t328,.string (⟨#[]⟩ : ByteArray),.string (⟨#[]⟩ : ByteArray)] 55 (0,0)) (by refine zT0 ?_;refine blk_put (cs:=#[.int .i64 (wrap64 (1 + t325)),.string t328,.string (⟨#[]⟩ : ByteArray),.string (⟨#[]⟩ : ByteArray)]) ?_ 3 _ rfl;refine zT0 ?_;refine blk_put (cs:=#[.int .i64 (wrap64 (1 + t325)),.string t328,.string (⟨#[]⟩ : ByteArray),.string (⟨#[]⟩ : ByteArray)]) ?_ 2 _ rfl;refine zT0 ?_;refine blk_put (cs:=#[.int .i64 (wrap64 (1 + t325)),.string (⟨#[]⟩ : ByteArray),.string (⟨#[]⟩ : ByteArray),.string (⟨#[]⟩ : ByteArray)]) ?_ 1 _ rfl;refine zT0 ?_;refine blk_put (cs:=#[.int .i64 0,.string (⟨#[]⟩ : ByteArray),.string (⟨#[]⟩ : ByteArray),.string (⟨#[]⟩ : ByteArray)]) ?_ 0 _ rfl;exact zK0 BK331.out) NB331_0.out (by simp));replace HK:=zm0 HK hk;replace HB:=Aside0.mk hb;replace HI0:=Aside0.mk hi;(try clear hb);(try clear hk);(try clear hi)) | ((with_reducible refine gate_callee (f:=73) rfl ?_);refine goesL_ (some 17) rfl rfl Try.func73 (by kernel_rfl) rfl #[.pointer (some ⟨g,0,none⟩),.int .i64 t332] rfl zM0 ?_;(with_reducible refine (spec_l01Text.calls k g s0_0 t333 t334 t332 t335 t336 t337 w0 _ ?side1 ?side2 A14.out).mono ?_);(case side1 => exact zi0 HI0);(case side2 => exact zj0 HB HI0);rintro e w16 ⟨rfl,hi,hb,hk⟩;refine ⟨_,rfl,?_⟩;replace BK324:=zw0 hk BK324 NB324_0;replace BK331:=zw0 hk BK331 NB331_0;replace HK:=zm0 HK hk;replace HB:=Aside0.mk hb;replace HI0:=Aside0.mk hi;(try clear hb);(try clear hk);(try clear hi);obtain ⟨_,_⟩:=zn0 NB331_324;obtain ⟨_,_⟩:=zn0 NB331_0;obtain ⟨hcz19_0,_,_,_,hfz19_0,_,_,_⟩:=zd04 BK331))
   go_meet
   case rel => exact ⟨_,(t336),(t337),(t335),((⟨#[]⟩ : ByteArray)),H',⟨by first | omega | exact Nat.le_refl _⟩,⟨zK0 BK324.out⟩,⟨by refine zT0 ?_;refine blk_put (cs:=#[.int .i64 (wrap64 (1 + t325)),.string t328,.string (⟨#[]⟩ : ByteArray),.string (⟨#[]⟩ : ByteArray)]) ?_ 2 _ rfl;exact zK0 BK331.out⟩,⟨zi0 HI0⟩,⟨zk0 HK⟩,⟨zj0 HB HI0⟩⟩
  ·rw [if_neg c12] at H
   have c12b0 : ((wrap64 (1 + t325)) == 1) = false:=beq_eq_false_iff_ne.mpr c12
   have c12b1 : ((wrap64 (1 + t325)) != 1) = true:=bne_iff_ne.mpr c12
   (first | rw [c12b0] | (simp only [i64_w,i32_w];rw [c12b0]) | skip)
   by_cases c20 : (wrap64 (1 + t325)) = 3
   ·rw [if_pos c20] at H
    have c20b0 : ((wrap64 (1 + t325)) == 3) = true:=beq_iff_eq.mpr c20
    have c20b1 : ((wrap64 (1 + t325)) != 3) = false:=bne_eq_false_iff_eq.mpr c20
    clear c20
    obtain ⟨⟨t338,t339,t340⟩,A21,H⟩:=bX0 H
    dsimp only at H
    have H':=Aside0.mk H
    clear H
    go_wp2_with (first | ((with_reducible refine gate_callee (f:=75) rfl ?_);refine goesL_ (some 22) rfl rfl Try.func75 (by kernel_rfl) rfl #[.pointer (some ⟨g,0,none⟩)] rfl zM0 ?_;(with_reducible refine (spec_l03Named.calls g s0_0 t329 t330 t338 t339 t340 w0 _ ?side1 ?side2 A21.out).mono ?_);(case side1 => exact zi0 HI0);(case side2 => exact zj0 HB HI0);rintro e w22 ⟨rfl,hi,hb,hk⟩;refine ⟨_,rfl,?_⟩;replace BK324:=zw0 hk BK324 NB324_0;replace BK331:=Aside0.mk (KeepBut.blk hk (g':=gb331) (o:=.cells #[.int .i64 (wrap64 (1 + t325)),.string t328,.string (⟨#[]⟩ : ByteArray),.string (⟨#[]⟩ : ByteArray)] 55 (0,0)) (by refine zT0 ?_;refine blk_put (cs:=#[.int .i64 (wrap64 (1 + t325)),.string t328,.string (⟨#[]⟩ : ByteArray),.string (⟨#[]⟩ : ByteArray)]) ?_ 3 _ rfl;refine zT0 ?_;refine blk_put (cs:=#[.int .i64 (wrap64 (1 + t325)),.string t328,.string (⟨#[]⟩ : ByteArray),.string (⟨#[]⟩ : ByteArray)]) ?_ 2 _ rfl;refine zT0 ?_;refine blk_put (cs:=#[.int .i64 (wrap64 (1 + t325)),.string (⟨#[]⟩ : ByteArray),.string (⟨#[]⟩ : ByteArray),.string (⟨#[]⟩ : ByteArray)]) ?_ 1 _ rfl;refine zT0 ?_;refine blk_put (cs:=#[.int .i64 0,.string (⟨#[]⟩ : ByteArray),.string (⟨#[]⟩ : ByteArray),.string (⟨#[]⟩ : ByteArray)]) ?_ 0 _ rfl;exact zK0 BK331.out) NB331_0.out (by simp));replace HK:=zm0 HK hk;replace HB:=Aside0.mk hb;replace HI0:=Aside0.mk hi;(try clear hb);(try clear hk);(try clear hi);obtain ⟨_,_⟩:=zn0 NB331_324;obtain ⟨_,_⟩:=zn0 NB331_0;obtain ⟨_,_,_,_,_,_,_,_⟩:=zd04 BK331))
    go_meet
    case rel => exact ⟨_,(t339),(t340),((⟨#[]⟩ : ByteArray)),(t338),H',⟨by first | omega | exact Nat.le_refl _⟩,⟨zK0 BK324.out⟩,⟨by refine zT0 ?_;refine blk_put (cs:=#[.int .i64 (wrap64 (1 + t325)),.string t328,.string (⟨#[]⟩ : ByteArray),.string (⟨#[]⟩ : ByteArray)]) ?_ 3 _ rfl;exact zK0 BK331.out⟩,⟨zi0 HI0⟩,⟨zk0 HK⟩,⟨zj0 HB HI0⟩⟩
   ·rw [if_neg c20] at H
    have c20b0 : ((wrap64 (1 + t325)) == 3) = false:=beq_eq_false_iff_ne.mpr c20
    have c20b1 : ((wrap64 (1 + t325)) != 3) = true:=bne_iff_ne.mpr c20
    have H':=Aside0.mk H
    clear H
    go_wp2
    go_meet
    case rel => exact ⟨_,(t329),(t330),((⟨#[]⟩ : ByteArray)),((⟨#[]⟩ : ByteArray)),H',⟨by first | omega | exact Nat.le_refl _⟩,⟨zK0 BK324.out⟩,⟨by refine zT0 ?_;refine blk_put (cs:=#[.int .i64 (wrap64 (1 + t325)),.string t328,.string (⟨#[]⟩ : ByteArray),.string (⟨#[]⟩ : ByteArray)]) ?_ 3 _ rfl;refine zT0 ?_;refine blk_put (cs:=#[.int .i64 (wrap64 (1 + t325)),.string t328,.string (⟨#[]⟩ : ByteArray),.string (⟨#[]⟩ : ByteArray)]) ?_ 2 _ rfl;refine zT0 ?_;refine blk_put (cs:=#[.int .i64 (wrap64 (1 + t325)),.string (⟨#[]⟩ : ByteArray),.string (⟨#[]⟩ : ByteArray),.string (⟨#[]⟩ : ByteArray)]) ?_ 1 _ rfl;refine zT0 ?_;refine blk_put (cs:=#[.int .i64 0,.string (⟨#[]⟩ : ByteArray),.string (⟨#[]⟩ : ByteArray),.string (⟨#[]⟩ : ByteArray)]) ?_ 0 _ rfl;exact zK0 BK331.out⟩,⟨zi0 HI0⟩,⟨zk0 HK⟩,⟨zj0 HB HI0⟩⟩
 case rest =>
  clear HC4
  try clear hcz11_0
  try clear hcz11_1
  try clear hcz11_2
  try clear hcz11_3
  try clear hfz11_0
  try clear hfz11_1
  try clear hfz11_2
  try clear hfz11_3
  obtain ⟨kq,x1001_3,x1002_3,x332002_3,x332003_3,HA,HJ3,BK324,BK331,HI0,HK,HB⟩:=hcut
  cases kq with
  | zero => exact absurd HA.out (by simp [spec_l03Act.j0])
  | succ kj3 =>
   have H:=HA.out
   clear HA
   simp only [spec_l03Act.j0] at H
   obtain ⟨⟨t341,t342,t343⟩,A26,H⟩:=bX0 H
   dsimp only at H
   by_cases c27 : t341 = 0
   ·rw [if_pos c27] at H
    have c27b0 : (t341 == 0) = true:=beq_iff_eq.mpr c27
    have c27b1 : (t341 != 0) = false:=bne_eq_false_iff_eq.mpr c27
    clear c27
    obtain ⟨y344,hy344⟩ : ∃ y_ : List Int,y_ = (([0,5] : List Int)):=⟨_,rfl⟩
    replace H : ((spec_l01PickInt.f s0_0 t342 t343 y344).bind fun bt347 => (some (bt347.1,t328,x332002_3,x332003_3,bt347.2.1,bt347.2.2))) = some (r1,r2,r3,r4,r5,r6):=by first | (rw [hy344];with_reducible exact H) | (have H2_:=(Option.bind_some _ _).symm.trans H;rw [hy344];with_reducible exact H2_) | (have H2_:=(Option.bind_some _ _).symm.trans H;with_reducible exact H2_) | with_reducible exact H | (rw [hy344];exact H) | exact H
    have Ny344:=Aside0.mk hy344
    clear hy344
    obtain ⟨⟨t347,t348,t349⟩,A28,H⟩:=bX0 H
    dsimp only at H
    simp only [Option.some.injEq,Prod.mk.injEq] at H
    obtain ⟨rfl,rfl,rfl,rfl,rfl,rfl⟩:=H
    go_wp2_with (first | ((with_reducible refine gate_callee (f:=72) rfl ?_);refine goesL_ (some 25) rfl rfl Try.func72 (by kernel_rfl) rfl #[.pointer (some ⟨g,0,none⟩),.int .i64 40] rfl zM0 ?_;(with_reducible refine (spec_l01Below.calls g s0_0 x1001_3 x1002_3 40 t341 t342 t343 w0 _ ?side1 ?side2 A26.out).mono ?_);(case side1 => exact zi0 HI0);(case side2 => exact zj0 HB HI0);rintro e w29 ⟨rfl,hi,hb,hk⟩;refine ⟨_,rfl,?_⟩;replace BK324:=zw0 hk BK324 NB324_0;replace BK331:=zw0 hk BK331 NB331_0;replace HK:=zm0 HK hk;replace HB:=Aside0.mk hb;replace HI0:=Aside0.mk hi;(try clear hb);(try clear hk);(try clear hi)) | ((with_reducible refine gate_dst (N:=29) rfl ?_);refine Kd.R_lit (Kd.int .i64) _ 3 ?hg (N:=29) ?hd (xs:=([0,5] : List Int)) (inner:=[.int .i64 0,.int .i64 5]) (ok:=fun _ => True) (okp:=fun _ => True) ?hr ?hp (fun _ hk => hk) trivial (Below.refl _ _) (Nat.le_refl _) (by simp) ?_;(case hd => rfl);(case hg => rfl);(case hr => first | (go_simp;done) | (go_simp;rfl));(case hp => exact (Reps.one (show Kd.M (Kd.int .i64) _ _ _ 0 [.int .i64 0] from rfl) (Reps.one (show Kd.M (Kd.int .i64) _ _ _ 5 [.int .i64 5] from rfl) (Reps.none _ _))));intro v345 w30 ho31 hb hg_ hnew_;clear hg_ hnew_;(first | rw [← Ny344.out] at ho31 | (simp only [Int.reduceToNat] at ho31;rw [← Ny344.out] at ho31));have HO346:=Aside0.mk (Kd.R_lower ho31 (keep_size (w:=w) (g:=g) (row:=none) (zk0 HK)));replace BK324:=zb0 BK324 hb;replace BK331:=zb0 BK331 hb;replace HK:=Aside0.mk (KeepBut.trans (zk0 HK) (KeepBut.of_below hb g none) (.inl rfl));replace HB:=Aside0.mk (below_step (zj0 HB HI0) hb);replace HI0:=Aside0.mk (IsS139.below (zi0 HI0) hb);clear hb ho31;obtain ⟨Ao32,co32,eo32⟩:=Kd.R_slice HO346.out;subst eo32) | ((with_reducible refine gate_callee (f:=116) rfl ?_);refine goesL_ (some 30) rfl rfl Try.func116 (by kernel_rfl) rfl #[.pointer (some ⟨g,0,none⟩),.slice Ao32 y344.length co32] rfl zM0 ?_;(with_reducible refine (spec_l01PickInt.calls g s0_0 t342 t343 _ _ y344 t347 t348 t349 w0 _ ?side1 ?side2 ?side3 ?side4 ?side5 A28.out).mono ?_);(case side1 => exact zi0 HI0);(case side2 => exact zj0 HB HI0);(case side3 => exact zA0 ((Kd.R_reads' HO346.out).2.2));(case side4 => exact (Kd.R_reads' HO346.out).2.1);(case side5 => exact far_slice (IsS139.own_ne HI0.out HO346.out (by decide)));rintro e w33 ⟨rfl,hi,hb,hk⟩;refine ⟨_,rfl,?_⟩;replace BK324:=zw0 hk BK324 NB324_0;replace BK331:=zw0 hk BK331 NB331_0;replace HO346:=Aside0.mk (Kd.R_mono (Kd.R_keep (IsS139.apart (show IsS139 w0 _ g s0_0 t342 t343 from zi0 HI0) (zR0 HO346.out) (by decide)) hk (fun _ h => h.2)) (fun _ h => h.1));replace HK:=zm0 HK hk;replace HB:=Aside0.mk hb;replace HI0:=Aside0.mk hi;(try clear hb);(try clear hk);(try clear hi);obtain ⟨_,_⟩:=zn0 NB331_324;obtain ⟨_,_⟩:=zn0 NB331_0;obtain ⟨_,_,_,_,_,_,_,_⟩:=zd04 BK331;obtain ⟨_,_⟩:=zn0 NB324_0;obtain ⟨_,_,_,_,_,_,_,_⟩:=zd04 BK324))
    refine bodyPost_ret (results_cell_row rfl _ _ gb324 55 #[.int .i64 t347,.string t328,.string x332002_3,.string x332003_3] (0,0) _ rfl (by refine zT0 ?_;refine blk_put (cs:=#[.int .i64 t347,.string t328,.string x332002_3,.string (⟨#[]⟩ : ByteArray)]) ?_ 3 _ rfl;refine zT0 ?_;refine blk_put (cs:=#[.int .i64 t347,.string t328,.string (⟨#[]⟩ : ByteArray),.string (⟨#[]⟩ : ByteArray)]) ?_ 2 _ rfl;refine zT0 ?_;refine blk_put (cs:=#[.int .i64 t347,.string (⟨#[]⟩ : ByteArray),.string (⟨#[]⟩ : ByteArray),.string (⟨#[]⟩ : ByteArray)]) ?_ 1 _ rfl;refine zT0 ?_;refine blk_put (cs:=#[.int .i64 0,.string (⟨#[]⟩ : ByteArray),.string (⟨#[]⟩ : ByteArray),.string (⟨#[]⟩ : ByteArray)]) ?_ 0 _ rfl;exact zK0 BK324.out) Try.underlying55 rfl (by kernel_rfl)) rfl ?_
    exact ⟨zW0,zi0 HI0,zj0 HB HI0,zk0 HK⟩
   ·rw [if_neg c27] at H
    have c27b0 : (t341 == 0) = false:=beq_eq_false_iff_ne.mpr c27
    have c27b1 : (t341 != 0) = true:=bne_iff_ne.mpr c27
    by_cases c39 : t341 = 1
    ·rw [if_pos c39] at H
     have c39b0 : (t341 == 1) = true:=beq_iff_eq.mpr c39
     have c39b1 : (t341 != 1) = false:=bne_eq_false_iff_eq.mpr c39
     clear c39
     obtain ⟨y350,hy350⟩ : ∃ y_ : List ByteArray,y_ = (([(⟨#[]⟩ : ByteArray),(⟨#[49,50,51,52,53,54,55,56,57]⟩ : ByteArray),(⟨#[110,101,119]⟩ : ByteArray)] : List ByteArray)):=⟨_,rfl⟩
     replace H : ((spec_l01Pick.f s0_0 t342 t343 y350).bind fun bt353 => (some ((wrap64 (1 + t325)),bt353.1,x332002_3,x332003_3,bt353.2.1,bt353.2.2))) = some (r1,r2,r3,r4,r5,r6):=by first | (rw [hy350];with_reducible exact H) | (have H2_:=(Option.bind_some _ _).symm.trans H;rw [hy350];with_reducible exact H2_) | (have H2_:=(Option.bind_some _ _).symm.trans H;with_reducible exact H2_) | with_reducible exact H | (rw [hy350];exact H) | exact H
     have Ny350:=Aside0.mk hy350
     clear hy350
     obtain ⟨⟨t353,t354,t355⟩,A40,H⟩:=bX0 H
     dsimp only at H
     simp only [Option.some.injEq,Prod.mk.injEq] at H
     obtain ⟨rfl,rfl,rfl,rfl,rfl,rfl⟩:=H
     go_wp2_with (first | ((with_reducible refine gate_callee (f:=72) rfl ?_);refine goesL_ (some 25) rfl rfl Try.func72 (by kernel_rfl) rfl #[.pointer (some ⟨g,0,none⟩),.int .i64 40] rfl zM0 ?_;(with_reducible refine (spec_l01Below.calls g s0_0 x1001_3 x1002_3 40 t341 t342 t343 w0 _ ?side1 ?side2 A26.out).mono ?_);(case side1 => exact zi0 HI0);(case side2 => exact zj0 HB HI0);rintro e w41 ⟨rfl,hi,hb,hk⟩;refine ⟨_,rfl,?_⟩;replace BK324:=zw0 hk BK324 NB324_0;replace BK331:=zw0 hk BK331 NB331_0;replace HK:=zm0 HK hk;replace HB:=Aside0.mk hb;replace HI0:=Aside0.mk hi;(try clear hb);(try clear hk);(try clear hi)) | ((with_reducible refine gate_dst (N:=35) rfl ?_);refine Kd.R_lit Kd.string _ 9 ?hg (N:=35) ?hd (xs:=([(⟨#[]⟩ : ByteArray),(⟨#[49,50,51,52,53,54,55,56,57]⟩ : ByteArray),(⟨#[110,101,119]⟩ : ByteArray)] : List ByteArray)) (inner:=[.string (⟨#[]⟩ : ByteArray),.string (⟨#[49,50,51,52,53,54,55,56,57]⟩ : ByteArray),.string (⟨#[110,101,119]⟩ : ByteArray)]) (ok:=fun _ => True) (okp:=fun _ => True) ?hr ?hp (fun _ hk => hk) trivial (Below.refl _ _) (Nat.le_refl _) (by simp) ?_;(case hd => rfl);(case hg => rfl);(case hr => first | (go_simp;done) | (go_simp;rfl));(case hp => exact (Reps.one (show Kd.M Kd.string _ _ _ (⟨#[]⟩ : ByteArray) [.string (⟨#[]⟩ : ByteArray)] from rfl) (Reps.one (show Kd.M Kd.string _ _ _ (⟨#[49,50,51,52,53,54,55,56,57]⟩ : ByteArray) [.string (⟨#[49,50,51,52,53,54,55,56,57]⟩ : ByteArray)] from rfl) (Reps.one (show Kd.M Kd.string _ _ _ (⟨#[110,101,119]⟩ : ByteArray) [.string (⟨#[110,101,119]⟩ : ByteArray)] from rfl) (Reps.none _ _)))));intro v351 w42 ho43 hb hg_ hnew_;clear hg_ hnew_;(first | rw [← Ny350.out] at ho43 | (simp only [Int.reduceToNat] at ho43;rw [← Ny350.out] at ho43));have HO352:=Aside0.mk (Kd.R_lower ho43 (keep_size (w:=w) (g:=g) (row:=none) (zk0 HK)));replace BK324:=zb0 BK324 hb;replace BK331:=zb0 BK331 hb;replace HK:=Aside0.mk (KeepBut.trans (zk0 HK) (KeepBut.of_below hb g none) (.inl rfl));replace HB:=Aside0.mk (below_step (zj0 HB HI0) hb);replace HI0:=Aside0.mk (IsS139.below (zi0 HI0) hb);clear hb ho43;obtain ⟨Ao44,co44,eo44⟩:=Kd.R_slice HO352.out;subst eo44) | ((with_reducible refine gate_callee (f:=113) rfl ?_);refine goesL_ (some 36) rfl rfl Try.func113 (by kernel_rfl) rfl #[.pointer (some ⟨g,0,none⟩),.slice Ao44 y350.length co44] rfl zM0 ?_;(with_reducible refine (spec_l01Pick.calls g s0_0 t342 t343 _ _ y350 t353 t354 t355 w0 _ ?side1 ?side2 ?side3 ?side4 ?side5 A40.out).mono ?_);(case side1 => exact zi0 HI0);(case side2 => exact zj0 HB HI0);(case side3 => exact zA0 ((Kd.R_reads' HO352.out).2.2));(case side4 => exact (Kd.R_reads' HO352.out).2.1);(case side5 => exact far_slice (IsS139.own_ne HI0.out HO352.out (by decide)));rintro e w45 ⟨rfl,hi,hb,hk⟩;refine ⟨_,rfl,?_⟩;replace BK324:=zw0 hk BK324 NB324_0;replace BK331:=zw0 hk BK331 NB331_0;replace HO352:=Aside0.mk (Kd.R_mono (Kd.R_keep (IsS139.apart (show IsS139 w0 _ g s0_0 t342 t343 from zi0 HI0) (zR0 HO352.out) (by decide)) hk (fun _ h => h.2)) (fun _ h => h.1));replace HK:=zm0 HK hk;replace HB:=Aside0.mk hb;replace HI0:=Aside0.mk hi;(try clear hb);(try clear hk);(try clear hi);obtain ⟨_,_⟩:=zn0 NB331_324;obtain ⟨_,_⟩:=zn0 NB331_0;obtain ⟨_,_,_,_,_,_,_,_⟩:=zd04 BK331;obtain ⟨_,_⟩:=zn0 NB324_0;obtain ⟨hcz50_0,_,_,_,hfz50_0,_,_,_⟩:=zd04 BK324))
     refine bodyPost_ret (results_cell_row rfl _ _ gb324 55 #[.int .i64 (wrap64 (1 + t325)),.string t353,.string x332002_3,.string x332003_3] (0,0) _ rfl (by refine zT0 ?_;refine blk_put (cs:=#[.int .i64 (wrap64 (1 + t325)),.string t353,.string x332002_3,.string (⟨#[]⟩ : ByteArray)]) ?_ 3 _ rfl;refine zT0 ?_;refine blk_put (cs:=#[.int .i64 (wrap64 (1 + t325)),.string t353,.string (⟨#[]⟩ : ByteArray),.string (⟨#[]⟩ : ByteArray)]) ?_ 2 _ rfl;refine zT0 ?_;refine blk_put (cs:=#[.int .i64 (wrap64 (1 + t325)),.string (⟨#[]⟩ : ByteArray),.string (⟨#[]⟩ : ByteArray),.string (⟨#[]⟩ : ByteArray)]) ?_ 1 _ rfl;refine zT0 ?_;refine blk_put (cs:=#[.int .i64 0,.string (⟨#[]⟩ : ByteArray),.string (⟨#[]⟩ : ByteArray),.string (⟨#[]⟩ : ByteArray)]) ?_ 0 _ rfl;exact zK0 BK324.out) Try.underlying55 rfl (by kernel_rfl)) rfl ?_
     exact ⟨zW0,zi0 HI0,zj0 HB HI0,zk0 HK⟩
    ·rw [if_neg c39] at H
     have c39b0 : (t341 == 1) = false:=beq_eq_false_iff_ne.mpr c39
     have c39b1 : (t341 != 1) = true:=bne_iff_ne.mpr c39
     by_cases c51 : t341 = 2
     ·rw [if_pos c51] at H
      have c51b0 : (t341 == 2) = true:=beq_iff_eq.mpr c51
      have c51b1 : (t341 != 2) = false:=bne_eq_false_iff_eq.mpr c51
      clear c51
      simp only [Option.some.injEq,Prod.mk.injEq] at H
      obtain ⟨rfl,rfl,rfl,rfl,rfl,rfl⟩:=H
      go_wp2_with (first | ((with_reducible refine gate_callee (f:=72) rfl ?_);refine goesL_ (some 25) rfl rfl Try.func72 (by kernel_rfl) rfl #[.pointer (some ⟨g,0,none⟩),.int .i64 40] rfl zM0 ?_;(with_reducible refine (spec_l01Below.calls g s0_0 x1001_3 x1002_3 40 t341 t342 t343 w0 _ ?side1 ?side2 A26.out).mono ?_);(case side1 => exact zi0 HI0);(case side2 => exact zj0 HB HI0);rintro e w52 ⟨rfl,hi,hb,hk⟩;refine ⟨_,rfl,?_⟩;replace BK324:=zw0 hk BK324 NB324_0;replace BK331:=zw0 hk BK331 NB331_0;replace HK:=zm0 HK hk;replace HB:=Aside0.mk hb;replace HI0:=Aside0.mk hi;(try clear hb);(try clear hk);(try clear hi);obtain ⟨_,_⟩:=zn0 NB331_324;obtain ⟨_,_⟩:=zn0 NB331_0;obtain ⟨hcz55_0,_,_,_,hfz55_0,_,_,_⟩:=zd04 BK331;obtain ⟨_,_⟩:=zn0 NB324_0;obtain ⟨_,_,_,_,_,_,_,_⟩:=zd04 BK324))
      refine bodyPost_ret (results_cell_row rfl _ _ gb324 55 #[.int .i64 (wrap64 (1 + t325)),.string t328,.string x332002_3,.string (⟨#[120]⟩ : ByteArray)] (0,0) _ rfl (by refine zT0 ?_;refine blk_put (cs:=#[.int .i64 (wrap64 (1 + t325)),.string t328,.string x332002_3,.string (⟨#[]⟩ : ByteArray)]) ?_ 3 _ rfl;refine zT0 ?_;refine blk_put (cs:=#[.int .i64 (wrap64 (1 + t325)),.string t328,.string (⟨#[]⟩ : ByteArray),.string (⟨#[]⟩ : ByteArray)]) ?_ 2 _ rfl;refine zT0 ?_;refine blk_put (cs:=#[.int .i64 (wrap64 (1 + t325)),.string (⟨#[]⟩ : ByteArray),.string (⟨#[]⟩ : ByteArray),.string (⟨#[]⟩ : ByteArray)]) ?_ 1 _ rfl;refine zT0 ?_;refine blk_put (cs:=#[.int .i64 0,.string (⟨#[]⟩ : ByteArray),.string (⟨#[]⟩ : ByteArray),.string (⟨#[]⟩ : ByteArray)]) ?_ 0 _ rfl;exact zK0 BK324.out) Try.underlying55 rfl (by kernel_rfl)) rfl ?_
      exact ⟨zW0,zi0 HI0,zj0 HB HI0,zk0 HK⟩
     ·rw [if_neg c51] at H
      have c51b0 : (t341 == 2) = false:=beq_eq_false_iff_ne.mpr c51
      have c51b1 : (t341 != 2) = true:=bne_iff_ne.mpr c51
      by_cases c58 : t341 = 3
      ·rw [if_pos c58] at H
       have c58b0 : (t341 == 3) = true:=beq_iff_eq.mpr c58
       have c58b1 : (t341 != 3) = false:=bne_eq_false_iff_eq.mpr c58
       clear c58
       simp only [Option.some.injEq,Prod.mk.injEq] at H
       obtain ⟨rfl,rfl,rfl,rfl,rfl,rfl⟩:=H
       go_wp2_with (first | ((with_reducible refine gate_callee (f:=72) rfl ?_);refine goesL_ (some 25) rfl rfl Try.func72 (by kernel_rfl) rfl #[.pointer (some ⟨g,0,none⟩),.int .i64 40] rfl zM0 ?_;(with_reducible refine (spec_l01Below.calls g s0_0 x1001_3 x1002_3 40 t341 t342 t343 w0 _ ?side1 ?side2 A26.out).mono ?_);(case side1 => exact zi0 HI0);(case side2 => exact zj0 HB HI0);rintro e w59 ⟨rfl,hi,hb,hk⟩;refine ⟨_,rfl,?_⟩;replace BK324:=zw0 hk BK324 NB324_0;replace BK331:=zw0 hk BK331 NB331_0;replace HK:=zm0 HK hk;replace HB:=Aside0.mk hb;replace HI0:=Aside0.mk hi;(try clear hb);(try clear hk);(try clear hi);obtain ⟨_,_⟩:=zn0 NB331_324;obtain ⟨_,_⟩:=zn0 NB331_0;obtain ⟨_,_,_,_,_,_,_,_⟩:=zd04 BK331;obtain ⟨_,_⟩:=zn0 NB324_0;obtain ⟨_,_,_,_,_,_,_,_⟩:=zd04 BK324))
       refine bodyPost_ret (results_cell_row rfl _ _ gb324 55 #[.int .i64 (wrap64 (1 + t325)),.string t328,.string (⟨#[120]⟩ : ByteArray),.string x332003_3] (0,0) _ rfl (by refine zT0 ?_;refine blk_put (cs:=#[.int .i64 (wrap64 (1 + t325)),.string t328,.string (⟨#[120]⟩ : ByteArray),.string (⟨#[]⟩ : ByteArray)]) ?_ 3 _ rfl;refine zT0 ?_;refine blk_put (cs:=#[.int .i64 (wrap64 (1 + t325)),.string t328,.string (⟨#[]⟩ : ByteArray),.string (⟨#[]⟩ : ByteArray)]) ?_ 2 _ rfl;refine zT0 ?_;refine blk_put (cs:=#[.int .i64 (wrap64 (1 + t325)),.string (⟨#[]⟩ : ByteArray),.string (⟨#[]⟩ : ByteArray),.string (⟨#[]⟩ : ByteArray)]) ?_ 1 _ rfl;refine zT0 ?_;refine blk_put (cs:=#[.int .i64 0,.string (⟨#[]⟩ : ByteArray),.string (⟨#[]⟩ : ByteArray),.string (⟨#[]⟩ : ByteArray)]) ?_ 0 _ rfl;exact zK0 BK324.out) Try.underlying55 rfl (by kernel_rfl)) rfl ?_
       exact ⟨zW0,zi0 HI0,zj0 HB HI0,zk0 HK⟩
      ·rw [if_neg c58] at H
       have c58b0 : (t341 == 3) = false:=beq_eq_false_iff_ne.mpr c58
       have c58b1 : (t341 != 3) = true:=bne_iff_ne.mpr c58
       simp only [Option.some.injEq,Prod.mk.injEq] at H
       obtain ⟨rfl,rfl,rfl,rfl,rfl,rfl⟩:=H
       go_wp2_with (first | ((with_reducible refine gate_callee (f:=72) rfl ?_);refine goesL_ (some 25) rfl rfl Try.func72 (by kernel_rfl) rfl #[.pointer (some ⟨g,0,none⟩),.int .i64 40] rfl zM0 ?_;(with_reducible refine (spec_l01Below.calls g s0_0 x1001_3 x1002_3 40 t341 t342 t343 w0 _ ?side1 ?side2 A26.out).mono ?_);(case side1 => exact zi0 HI0);(case side2 => exact zj0 HB HI0);rintro e w65 ⟨rfl,hi,hb,hk⟩;refine ⟨_,rfl,?_⟩;replace BK324:=zw0 hk BK324 NB324_0;replace BK331:=zw0 hk BK331 NB331_0;replace HK:=zm0 HK hk;replace HB:=Aside0.mk hb;replace HI0:=Aside0.mk hi;(try clear hb);(try clear hk);(try clear hi);obtain ⟨_,_⟩:=zn0 NB331_324;obtain ⟨_,_⟩:=zn0 NB331_0;obtain ⟨_,_,_,_,_,_,_,_⟩:=zd04 BK331;obtain ⟨_,_⟩:=zn0 NB324_0;obtain ⟨_,_,_,_,_,_,_,_⟩:=zd04 BK324))
       refine bodyPost_ret (results_cell_row rfl _ _ gb324 55 #[.int .i64 (wrap64 (1 + t325)),.string t328,.string x332002_3,.string x332003_3] (0,0) _ rfl (by refine zT0 ?_;refine blk_put (cs:=#[.int .i64 (wrap64 (1 + t325)),.string t328,.string x332002_3,.string (⟨#[]⟩ : ByteArray)]) ?_ 3 _ rfl;refine zT0 ?_;refine blk_put (cs:=#[.int .i64 (wrap64 (1 + t325)),.string t328,.string (⟨#[]⟩ : ByteArray),.string (⟨#[]⟩ : ByteArray)]) ?_ 2 _ rfl;refine zT0 ?_;refine blk_put (cs:=#[.int .i64 (wrap64 (1 + t325)),.string (⟨#[]⟩ : ByteArray),.string (⟨#[]⟩ : ByteArray),.string (⟨#[]⟩ : ByteArray)]) ?_ 1 _ rfl;refine zT0 ?_;refine blk_put (cs:=#[.int .i64 0,.string (⟨#[]⟩ : ByteArray),.string (⟨#[]⟩ : ByteArray),.string (⟨#[]⟩ : ByteArray)]) ?_ 0 _ rfl;exact zK0 BK324.out) Try.underlying55 rfl (by kernel_rfl)) rfl ?_
       exact ⟨zW0,zi0 HI0,zj0 HB HI0,zk0 HK⟩

/-! ### spec_l01Once: function 120 -/
def spec_l01Once.f (s0_0 : List Int) (s0_1 : Int) (s0_2 : Int) (a1 : Int) : Option (Bool × Int × Int):=(spec_l01Below.f s0_0 s0_1 s0_2 a1).bind fun bt356 => (some ((bt356.1 == 0),bt356.2.1,bt356.2.2))
set_option maxHeartbeats 8000000 in
set_option maxRecDepth 100000 in
theorem spec_l01Once.calls (g : Nat) (s0_0 : List Int) (s0_1 : Int) (s0_2 : Int) (a1 : Int) (r1 : Bool) (r2 : Int) (r3 : Int) (w0 w : World) (hI : IsS139 w0 w g s0_0 s0_1 s0_2) (hB : Below w0.heap.size w0 w) (h : spec_l01Once.f s0_0 s0_1 s0_2 a1 = some (r1,r2,r3)) :
  Calls Try.prog 120 #[.pointer (some ⟨g,0,none⟩),.int .i64 a1] w fun e w' => e = .returned (.bool r1) ∧ IsS139 w0 w' g s0_0 r2 r3 ∧ Below w0.heap.size w0 w' ∧ KeepBut w w' g none:=by
 have HI0:=Aside0.mk hI
 have HK:=Aside0.mk (KeepBut.refl w g none)
 have HL:=Aside0.mk hB.size
 clear hI
 have HW0:=Aside0.mk hB.size
 have HB:=Aside0.mk hB
 clear hB
 have H : ((spec_l01Below.f s0_0 s0_1 s0_2 a1).bind fun bt356 => (some ((bt356.1 == 0),bt356.2.1,bt356.2.2))) = some (r1,r2,r3):=h
 clear h
 obtain ⟨⟨t356,t357,t358⟩,A3,H⟩:=bX0 H
 dsimp only at H
 simp only [Option.some.injEq,Prod.mk.injEq] at H
 obtain ⟨rfl,rfl,rfl⟩:=H
 go_enter Try.func120,Try.ntmps120
 go_wp2_with (first | ((with_reducible refine gate_callee (f:=72) rfl ?_);refine goesL_ (some 7) rfl rfl Try.func72 (by kernel_rfl) rfl #[.pointer (some ⟨g,0,none⟩),.int .i64 a1] rfl zM0 ?_;(with_reducible refine (spec_l01Below.calls g s0_0 s0_1 s0_2 a1 t356 t357 t358 w0 _ ?side1 ?side2 A3.out).mono ?_);(case side1 => exact zi0 HI0);(case side2 => exact zj0 HB HI0);rintro e w4 ⟨rfl,hi,hb,hk⟩;refine ⟨_,rfl,?_⟩;replace HK:=zm0 HK hk;replace HB:=Aside0.mk hb;replace HI0:=Aside0.mk hi;(try clear hb);(try clear hk);(try clear hi)))
 go_ret
 exact ⟨zW0,zi0 HI0,zj0 HB HI0,zk0 HK⟩

/-! ### spec_l03Acts: function 88 -/
def spec_l03Acts.l0 : Nat → List (S55) → Int → List Int → Int → Int → List (S45) → Option ((List (S55)) × Int × Int)
 | 0,_,_,_,_,_,_ => none
 | k + 1,x5,x6,x1000,x1001,x1002,x360000 => (spec_l01Below.f x1000 x1001 x1002 9).bind fun bt363 => (if x6 < bt363.1 then ((spec_l03Act.f k x1000 bt363.2.1 bt363.2.2).bind fun bt366 => ((spec_DoAct.f k x360000 bt366.1 bt366.2.1 bt366.2.2.1 bt366.2.2.2.1).bind fun bt373 => (if bt373.2 = true then (if x5.length < 2513169434916 then (spec_l03Acts.l0 k (x5 ++ [(⟨bt366.1,bt366.2.1,bt366.2.2.1,bt366.2.2.2.1⟩ : S55)]) (wrap64 (x6 + 1)) x1000 bt366.2.2.2.2.1 bt366.2.2.2.2.2 bt373.1) else (none)) else ((spec_l01Once.f x1000 bt366.2.2.2.2.1 bt366.2.2.2.2.2 20).bind fun bt381 => (if bt381.1 = true then (if x5.length < 2513169434916 then (spec_l03Acts.l0 k (x5 ++ [(⟨bt366.1,bt366.2.1,bt366.2.2.1,bt366.2.2.2.1⟩ : S55)]) (wrap64 (x6 + 1)) x1000 bt381.2.1 bt381.2.2 bt373.1) else (none)) else (spec_l03Acts.l0 k x5 (wrap64 (x6 + 1)) x1000 bt381.2.1 bt381.2.2 x360000)))))) else (some (x5,bt363.2.1,bt363.2.2)))
def spec_l03Acts.f (k : Nat) (s0_0 : List Int) (s0_1 : Int) (s0_2 : Int) (l1_0 : List (S45)) : Option ((List (S55)) × Int × Int):=spec_l03Acts.l0 k (([] : List (S55))) 0 s0_0 s0_1 s0_2 l1_0
theorem spec_l03Acts.mono_l : ∀ k,(∀ y0 y1 y2 y3 y4 y5,LeO (spec_l03Acts.l0 k y0 y1 y2 y3 y4 y5) (spec_l03Acts.l0 (k + 1) y0 y1 y2 y3 y4 y5))
 | 0 => fun _ _ _ _ _ _ r h => by simp [spec_l03Acts.l0] at h
 | k + 1 => by
  have ih0:=spec_l03Acts.mono_l k
  ·intro y0 y1 y2 y3 y4 y5
   unfold spec_l03Acts.l0
   repeat' first
  | (with_reducible exact ih0 _ _ _ _ _ _)
  | (with_reducible exact spec_DoAct.mono _ _ _ _ _ _)
  | (with_reducible exact spec_l03Act.mono _ _ _ _)
  | (with_reducible exact LeO.refl _)
  | (with_reducible exact LeO.none _)
  | (with_reducible refine LeO.ite ?_ ?_)
  | (with_reducible refine LeO.bind ?_ (fun _ => ?_))
theorem spec_l03Acts.mono : ∀ a0 a1 a2 a3 k,LeO (spec_l03Acts.f k a0 a1 a2 a3) (spec_l03Acts.f (k + 1) a0 a1 a2 a3):=by
 intro a0 a1 a2 a3 k
 have ih0:=spec_l03Acts.mono_l k
 unfold spec_l03Acts.f
 repeat' first
  | (with_reducible exact ih0 _ _ _ _ _ _)
  | (with_reducible exact spec_DoAct.mono _ _ _ _ _ _)
  | (with_reducible exact spec_l03Act.mono _ _ _ _)
  | (with_reducible exact LeO.refl _)
  | (with_reducible exact LeO.none _)
  | (with_reducible refine LeO.ite ?_ ?_)
  | (with_reducible refine LeO.bind ?_ (fun _ => ?_))
set_option maxHeartbeats 8000000 in
set_option maxRecDepth 100000 in
theorem spec_l03Acts.calls (k : Nat) (g : Nat) (s0_0 : List Int) (s0_1 : Int) (s0_2 : Int) (P1_0_ : Nat → Prop) (A1_0 : Option Addr) (c1_0 : Nat) (l1_0 : List (S45)) (r1 : List (S55)) (r2 : Int) (r3 : Int) (w0 w : World) (hI : IsS139 w0 w g s0_0 s0_1 s0_2) (hB : Below w0.heap.size w0 w) (hs1_0 : Kd.V k45 45 w w.heap.size (fun k_ => P1_0_ k_ ∧ k_ ≠ g) (.slice A1_0 l1_0.length c1_0) l1_0) (h : spec_l03Acts.f k s0_0 s0_1 s0_2 l1_0 = some (r1,r2,r3)) :
  Calls Try.prog 88 #[.pointer (some ⟨g,0,none⟩),.agg #[.slice A1_0 l1_0.length c1_0]] w fun e w' => ∃ v0_ : Value,e = .returned (v0_) ∧ Kd.R k55 55 w' w.heap.size (fun k_ => (w.heap.size ≤ k_)) v0_ r1 ∧ IsS139 w0 w' g s0_0 r2 r3 ∧ Below w0.heap.size w0 w' ∧ KeepBut w w' g none:=by
 have hu30:=Try.underlying30
 have hu55:=Try.underlying55
 have HO1_0:=Aside0.mk (show Kd.V k45 45 w w.heap.size (fun k_ => (P1_0_ k_ ∨ w.heap.size ≤ k_) ∧ k_ ≠ g) (.slice A1_0 l1_0.length c1_0) l1_0 from Kd.V_mono hs1_0 (fun k_ hk => ⟨.inl hk.1,hk.2⟩))
 have HI0:=Aside0.mk hI
 have HK:=Aside0.mk (KeepBut.refl w g none)
 have HL:=Aside0.mk hB.size
 clear hI
 have HW0:=Aside0.mk hB.size
 have HB:=Aside0.mk hB
 clear hB
 have H : (spec_l03Acts.l0 k (([] : List (S55))) 0 s0_0 s0_1 s0_2 l1_0) = some (r1,r2,r3):=h
 clear h
 obtain ⟨y360,hy360⟩ : ∃ y_ : List (S55),y_ = (([] : List (S55))):=⟨_,rfl⟩
 replace H : (spec_l03Acts.l0 k y360 0 s0_0 s0_1 s0_2 l1_0) = some (r1,r2,r3):=by first | (rw [hy360];with_reducible exact H) | (have H2_:=(Option.bind_some _ _).symm.trans H;rw [hy360];with_reducible exact H2_) | (have H2_:=(Option.bind_some _ _).symm.trans H;with_reducible exact H2_) | with_reducible exact H | (rw [hy360];exact H) | exact H
 have Ny360:=Aside0.mk hy360
 clear hy360
 have H':=Aside0.mk H
 clear H
 go_enter Try.func88,Try.ntmps88
 go_wp2_with (first | ((with_reducible refine gate_dst (N:=3) rfl ?_);refine zy0 (cs:=#[.slice A1_0 l1_0.length c1_0]) (t:=30) ?_;intro gb359 hg w3 hbox hb;replace HO1_0:=Aside0.mk (Kd.V_below (Kd.V_elderB (by (with_reducible repeat (first | apply Kd.V_alloc | apply Kd.V_drewN | apply Kd.V_drew));exact HO1_0.out) gb359 (Nat.le_of_eq hg.symm)) hb);replace HB:=Aside0.mk (below_step (zj0 HB HI0) hb);have BK359:=Aside0.mk hbox;have GW359:=Aside0.mk ((by rw [hg];exact (keep_size (w:=w) (g:=g) (row:=none) (zk0 HK)) : w.heap.size ≤ gb359));have GE359:=Aside0.mk ((Nat.le_trans HW0.out (by rw [hg];exact (keep_size (w:=w) (g:=g) (row:=none) (zk0 HK)) : w.heap.size ≤ gb359) : w0.heap.size ≤ gb359));replace HK:=Aside0.mk (KeepBut.trans (zk0 HK) (KeepBut.of_below hb g none) (.inl rfl));have NB0_359:=Aside0.mk ((by rw [hg];exact Nat.ne_of_lt (IsS139.lt (show IsS139 w0 _ g s0_0 s0_1 s0_2 from zi0 HI0)) : g ≠ gb359));have NB359_0:=Aside0.mk ((by rw [hg];exact Nat.ne_of_gt (IsS139.lt (show IsS139 w0 _ g s0_0 s0_1 s0_2 from zi0 HI0)) : gb359 ≠ g));replace HI0:=Aside0.mk (IsS139.below (zi0 HI0) hb);clear hb hbox hg) | ((with_reducible refine gate_dst (N:=10) rfl ?_);refine Kd.R_lit k55 _ 55 ?hg (N:=10) ?hd (xs:=([] : List (S55))) (inner:=[]) (ok:=fun _ => True) (okp:=fun _ => True) ?hr ?hp (fun _ hk => hk) trivial (Below.refl _ _) (Nat.le_refl _) (by simp) ?_;(case hd => rfl);(case hg => rfl);(case hr => first | (go_simp;done) | (go_simp;rfl));(case hp => exact (Reps.none _ _));intro v361 w4 ho5 hb hg_ hnew_;clear hg_ hnew_;(first | rw [← Ny360.out] at ho5 | (simp only [Int.reduceToNat] at ho5;rw [← Ny360.out] at ho5));replace HO1_0:=Aside0.mk (Kd.V_elder' (by (with_reducible repeat (first | apply Kd.V_alloc | apply Kd.V_drewN | apply Kd.V_drew));exact HO1_0.out) (Kd.R_base ho5) hb);have HO362:=Aside0.mk (Kd.R_lower (Kd.R_newM (M:=fun k_ => (w.heap.size ≤ k_)) ho5 (keep_size (w:=w) (g:=g) (row:=none) (zk0 HK)) (fun k_ h_ => h_)) (keep_size (w:=w) (g:=g) (row:=none) (zk0 HK)));replace BK359:=zb0 BK359 hb;replace HK:=Aside0.mk (KeepBut.trans (zk0 HK) (KeepBut.of_below hb g none) (.inl rfl));replace HB:=Aside0.mk (below_step (zj0 HB HI0) hb);replace HI0:=Aside0.mk (IsS139.below (zi0 HI0) hb);clear hb ho5))
 go_loopg [5,6] k (fun kq v5 v6 w' => ∃ (x5_1 : List (S55)) (x6_1 : Int) (x1001_1 : Int) (x1002_1 : Int) (x360000_1 : List (S45)) (u360000 : Value),v6 = .int .i64 x6_1 ∧ Aside0 (spec_l03Acts.l0 kq x5_1 x6_1 s0_0 x1001_1 x1002_1 x360000_1 = some (r1,r2,r3)) ∧ Aside0 (kq ≤ k) ∧ Aside0 (Kd.R k55 55 w' w.heap.size (fun k_ => (w.heap.size ≤ k_)) v5 x5_1) ∧ Aside0 (Kd.V k45 45 w' w.heap.size (fun k_ => (P1_0_ k_ ∨ w.heap.size ≤ k_) ∧ some k_ ≠ (v5 : Value).ownBlock ∧ k_ ≠ gb359 ∧ k_ ≠ g) u360000 x360000_1) ∧ Aside0 (w'.heap[gb359]? = some (.cells #[u360000] 30 (0,0))) ∧ Aside0 (IsS139 w0 w' g s0_0 x1001_1 x1002_1) ∧ Aside0 (KeepBut w w' g none) ∧ Aside0 (Below w0.heap.size w0 w'))
 case atStart => exact ⟨(y360),(0),(s0_1),(s0_2),(l1_0),(.slice A1_0 l1_0.length c1_0),zE0,H',⟨Nat.le_refl _⟩,⟨by refine zV0 ?_;exact Kd.R_mono HO362.out (fun _ hk => hk.1)⟩,⟨by (with_reducible repeat (first | apply Kd.V_alloc | apply Kd.V_drewN | apply Kd.V_drew));exact Kd.V_mono HO1_0.out (fun _ hk => ⟨hk.1.1.1,⟨hk.2,⟨hk.1.2,hk.1.1.2⟩⟩⟩)⟩,⟨zK0 BK359.out⟩,⟨zi0 HI0⟩,⟨zk0 HK⟩,⟨zj0 HB HI0⟩⟩
 case round =>
  clear H'
  obtain ⟨x5_1,x6_1,x1001_1,x1002_1,x360000_1,u360000,rfl,HA,HK1,HO_5,HO_360000,BK359,HI0,HK,HB⟩:=hrel
  cases gk with
  | zero => exact absurd HA.out (by simp [spec_l03Acts.l0])
  | succ k1 =>
   have H:=HA.out
   clear HA
   simp only [spec_l03Acts.l0] at H
   obtain ⟨⟨t363,t364,t365⟩,A6,H⟩:=bX0 H
   dsimp only at H
   by_cases c7 : x6_1 < t363
   ·rw [if_pos c7] at H
    have c7b0 : decide (x6_1 < t363) = true:=decide_eq_true c7
    clear c7
    obtain ⟨⟨t366,t367,t368,t369,t370,t371⟩,A8,H⟩:=bX0 H
    dsimp only at H
    obtain ⟨⟨t373,t376⟩,A9,H⟩:=bX0 H
    dsimp only at H
    by_cases c10 : t376 = true
    ·subst c10
     rw [if_pos rfl] at H
     by_cases c11 : x5_1.length < 2513169434916
     ·rw [if_pos c11] at H
      have LMc11:=Aside0.mk c11
      clear c11
      obtain ⟨y378,hy378⟩ : ∃ y_ : List (S55),y_ = (x5_1 ++ [(⟨t366,t367,t368,t369⟩ : S55)]):=⟨_,rfl⟩
      replace H : (spec_l03Acts.l0 k1 y378 (wrap64 (x6_1 + 1)) s0_0 t370 t371 t373) = some (r1,r2,r3):=by first | (rw [hy378];with_reducible exact H) | (have H2_:=(Option.bind_some _ _).symm.trans H;rw [hy378];with_reducible exact H2_) | (have H2_:=(Option.bind_some _ _).symm.trans H;with_reducible exact H2_) | with_reducible exact H | (rw [hy378];exact H) | exact H
      have Ny378:=Aside0.mk hy378
      clear hy378
      have H':=Aside0.mk H
      clear H
      go_wp2_with (first | ((with_reducible refine gate_callee (f:=72) rfl ?_);refine goesL_ (some 13) rfl rfl Try.func72 (by kernel_rfl) rfl #[.pointer (some ⟨g,0,none⟩),.int .i64 9] rfl zM0 ?_;(with_reducible refine (spec_l01Below.calls g s0_0 x1001_1 x1002_1 9 t363 t364 t365 w0 _ ?side1 ?side2 A6.out).mono ?_);(case side1 => exact zi0 HI0);(case side2 => exact zj0 HB HI0);rintro e w12 ⟨rfl,hi,hb,hk⟩;refine ⟨_,rfl,?_⟩;replace HO_5:=Aside0.mk (Kd.R_mono (Kd.R_keep (IsS139.apart (show IsS139 w0 _ g s0_0 x1001_1 x1002_1 from zi0 HI0) (zR0 HO_5.out) (by decide)) hk (fun _ h => h.2)) (fun _ h => h.1));replace HO_360000:=Aside0.mk (Kd.V_mono (Kd.V_keep (Kd.V_mono (ok:=fun k_ => (((P1_0_ k_ ∨ w.heap.size ≤ k_)) ∧ (some k_ ≠ (u5 : Value).ownBlock ∧ (k_ ≠ gb359 ∧ k_ ≠ g)))) (by (with_reducible repeat (first | apply Kd.V_alloc | apply Kd.V_drewN | apply Kd.V_drew));exact HO_360000.out) (fun k_ hk_ => (⟨hk_,hk_.2.2.2⟩ : _ ∧ k_ ≠ g))) hk (fun _ h => h.2)) (fun _ h => h.1));replace BK359:=zw0 hk BK359 NB359_0;replace HK:=zm0 HK hk;replace HB:=Aside0.mk hb;replace HI0:=Aside0.mk hi;(try clear hb);(try clear hk);(try clear hi)) | ((with_reducible refine gate_callee (f:=119) rfl ?_);refine goesL_ (some 18) rfl rfl Try.func119 (by kernel_rfl) rfl #[.pointer (some ⟨g,0,none⟩)] rfl zM0 ?_;(with_reducible refine (spec_l03Act.calls k1 g s0_0 t364 t365 t366 t367 t368 t369 t370 t371 w0 _ ?side1 ?side2 A8.out).mono ?_);(case side1 => exact zi0 HI0);(case side2 => exact zj0 HB HI0);rintro e w13 ⟨rfl,hi,hb,hk⟩;refine ⟨_,rfl,?_⟩;replace HO_5:=Aside0.mk (Kd.R_mono (Kd.R_keep (IsS139.apart (show IsS139 w0 _ g s0_0 t364 t365 from zi0 HI0) (zR0 HO_5.out) (by decide)) hk (fun _ h => h.2)) (fun _ h => h.1));replace HO_360000:=Aside0.mk (Kd.V_mono (Kd.V_keep (Kd.V_mono (ok:=fun k_ => (((P1_0_ k_ ∨ w.heap.size ≤ k_)) ∧ (some k_ ≠ (u5 : Value).ownBlock ∧ (k_ ≠ gb359 ∧ k_ ≠ g)))) (by (with_reducible repeat (first | apply Kd.V_alloc | apply Kd.V_drewN | apply Kd.V_drew));exact HO_360000.out) (fun k_ hk_ => (⟨hk_,hk_.2.2.2⟩ : _ ∧ k_ ≠ g))) hk (fun _ h => h.2)) (fun _ h => h.1));replace BK359:=zw0 hk BK359 NB359_0;replace HK:=zm0 HK hk;replace HB:=Aside0.mk hb;replace HI0:=Aside0.mk hi;(try clear hb);(try clear hk);(try clear hi)) | ((with_reducible refine gate_dst (N:=7) rfl ?_);refine zy0 (cs:=#[.int .i64 0,.string (⟨#[]⟩ : ByteArray),.string (⟨#[]⟩ : ByteArray),.string (⟨#[]⟩ : ByteArray)]) (t:=55) ?_;intro gb372 hg w14 hbox hb;replace HO_5:=Aside0.mk (Kd.R_below (Kd.R_elderB (zR0 HO_5.out) gb372 (Nat.le_of_eq hg.symm)) hb);replace HO_360000:=Aside0.mk (Kd.V_below (Kd.V_elderB (by (with_reducible repeat (first | apply Kd.V_alloc | apply Kd.V_drewN | apply Kd.V_drew));exact HO_360000.out) gb372 (Nat.le_of_eq hg.symm)) hb);replace HB:=Aside0.mk (below_step (zj0 HB HI0) hb);have BK372:=Aside0.mk hbox;have GW372:=Aside0.mk ((by rw [hg];exact (keep_size (w:=w) (g:=g) (row:=none) (zk0 HK)) : w.heap.size ≤ gb372));have GE372:=Aside0.mk ((Nat.le_trans HW0.out (by rw [hg];exact (keep_size (w:=w) (g:=g) (row:=none) (zk0 HK)) : w.heap.size ≤ gb372) : w0.heap.size ≤ gb372));replace HK:=Aside0.mk (KeepBut.trans (zk0 HK) (KeepBut.of_below hb g none) (.inl rfl));have NB359_372:=zl0 hg BK359;have NB372_359:=zg0 hg BK359;replace BK359:=zb0 BK359 hb;have NB0_372:=Aside0.mk ((by rw [hg];exact Nat.ne_of_lt (IsS139.lt (show IsS139 w0 _ g s0_0 t370 t371 from zi0 HI0)) : g ≠ gb372));have NB372_0:=Aside0.mk ((by rw [hg];exact Nat.ne_of_gt (IsS139.lt (show IsS139 w0 _ g s0_0 t370 t371 from zi0 HI0)) : gb372 ≠ g));replace HI0:=Aside0.mk (IsS139.below (zi0 HI0) hb);clear hb hbox hg;obtain ⟨_,_⟩:=zn0 NB372_359;obtain ⟨_,_⟩:=zn0 NB372_0;obtain ⟨_,_,_,_,_,_,_,_⟩:=zd04 BK372;obtain ⟨_,_⟩:=zn0 NB359_0;obtain ⟨hcz19_0,hfz19_0⟩:=zd01 BK359;obtain ⟨Ao20,co20,eo20⟩:=Kd.V_slice HO_360000.out;subst eo20) | ((with_reducible refine gate_callee (f:=36) rfl ?_);refine goesL_ (some 22) rfl rfl Try.func36 (by kernel_rfl) rfl #[.agg #[.slice Ao20 x360000_1.length co20],.agg #[.int .i64 t366,.string t367,.string t368,.string t369]] rfl zM0 ?_;(with_reducible refine (spec_DoAct.calls k1 _ _ x360000_1 t366 t367 t368 t369 t373 true _ ?side1 ?side2 A9.out).mono ?_);(case side1 => refine (Kd.V_reads' (e:=45) (base:=w.heap.size) (ok:=fun k_ => (((P1_0_ k_ ∨ w.heap.size ≤ k_) ∧ (some k_ ≠ (u5 : Value).ownBlock ∧ (k_ ≠ gb359 ∧ k_ ≠ g))) ∧ k_ ≠ gb372)) (n:=x360000_1.length) (c:=co20) ?_).2.2;exact (by (with_reducible repeat (first | apply Kd.V_alloc | apply Kd.V_drewN | apply Kd.V_drew));exact (Kd.V_mono (Kd.V_far (p:=⟨gb372,3,none⟩) (Kd.V_far (p:=⟨gb372,2,none⟩) (Kd.V_far (p:=⟨gb372,1,none⟩) (Kd.V_far (p:=⟨gb372,0,none⟩) (Kd.V_mono HO_360000.out (fun k_ hk => (⟨hk,hk.2⟩ : _ ∧ k_ ≠ gb372))) (fun _ hk => hk.2) (.int .i64 t366)) (fun _ hk => hk.2) (.string t367)) (fun _ hk => hk.2) (.string t368)) (fun _ hk => hk.2) (.string t369)) (fun _ h_ => h_.1))));(case side2 => exact (Kd.V_reads' HO_360000.out).2.1);rintro e w21 ⟨v374,rfl,ho0,hb⟩;refine ⟨_,rfl,?_⟩;replace HO_5:=Aside0.mk (Kd.R_below (by refine zV0 ?_;exact (Kd.R_mono (Kd.R_far (p:=⟨gb372,3,none⟩) (Kd.R_far (p:=⟨gb372,2,none⟩) (Kd.R_far (p:=⟨gb372,1,none⟩) (Kd.R_far (p:=⟨gb372,0,none⟩) (Kd.R_mono HO_5.out (fun k_ hk => (⟨hk,hk.2⟩ : _ ∧ k_ ≠ gb372))) (fun _ hk => hk.2) (.int .i64 t366)) (fun _ hk => hk.2) (.string t367)) (fun _ hk => hk.2) (.string t368)) (fun _ hk => hk.2) (.string t369)) (fun _ h_ => h_.1))) hb);replace HO_360000:=Aside0.mk (Kd.V_elder' (by (with_reducible repeat (first | apply Kd.V_alloc | apply Kd.V_drewN | apply Kd.V_drew));exact (Kd.V_mono (Kd.V_far (p:=⟨gb372,3,none⟩) (Kd.V_far (p:=⟨gb372,2,none⟩) (Kd.V_far (p:=⟨gb372,1,none⟩) (Kd.V_far (p:=⟨gb372,0,none⟩) (Kd.V_mono HO_360000.out (fun k_ hk => (⟨hk,hk.2⟩ : _ ∧ k_ ≠ gb372))) (fun _ hk => hk.2) (.int .i64 t366)) (fun _ hk => hk.2) (.string t367)) (fun _ hk => hk.2) (.string t368)) (fun _ hk => hk.2) (.string t369)) (fun _ h_ => h_.1))) (Kd.R_base ho0) hb);have HO375:=Aside0.mk (Kd.R_lower (Kd.R_newM (M:=fun k_ => (w.heap.size ≤ k_)) ho0 (keep_size (w:=w) (g:=g) (row:=none) (zk0 HK)) (fun k_ h_ => h_)) (keep_size (w:=w) (g:=g) (row:=none) (zk0 HK)));replace BK359:=zb0 BK359 hb;replace BK372:=Aside0.mk (blk_below (g:=gb372) (o:=.cells #[.int .i64 t366,.string t367,.string t368,.string t369] 55 (0,0)) (by refine zT0 ?_;refine blk_put (cs:=#[.int .i64 t366,.string t367,.string t368,.string (⟨#[]⟩ : ByteArray)]) ?_ 3 _ rfl;refine zT0 ?_;refine blk_put (cs:=#[.int .i64 t366,.string t367,.string (⟨#[]⟩ : ByteArray),.string (⟨#[]⟩ : ByteArray)]) ?_ 2 _ rfl;refine zT0 ?_;refine blk_put (cs:=#[.int .i64 t366,.string (⟨#[]⟩ : ByteArray),.string (⟨#[]⟩ : ByteArray),.string (⟨#[]⟩ : ByteArray)]) ?_ 1 _ rfl;refine zT0 ?_;refine blk_put (cs:=#[.int .i64 0,.string (⟨#[]⟩ : ByteArray),.string (⟨#[]⟩ : ByteArray),.string (⟨#[]⟩ : ByteArray)]) ?_ 0 _ rfl;exact zK0 BK372.out) hb);replace HK:=Aside0.mk (KeepBut.trans (zk0 HK) (KeepBut.of_below hb g none) (.inl rfl));replace HB:=Aside0.mk (below_step (zj0 HB HI0) hb);replace HI0:=Aside0.mk (IsS139.below (show IsS139 w0 ((((w14.setCell ⟨gb372,0,none⟩ (.int .i64 t366)).setCell ⟨gb372,1,none⟩ (.string t367)).setCell ⟨gb372,2,none⟩ (.string t368)).setCell ⟨gb372,3,none⟩ (.string t369)) g s0_0 t370 t371 from zi0 HI0) hb);(try clear hb);(try clear hk);(try clear hi);(try clear ho0)) | ((with_reducible refine gate_dst (N:=8) rfl ?_);refine zy0 (cs:=#[.slice none 0 0]) (t:=30) ?_;intro gb377 hg w22 hbox hb;replace HO_5:=Aside0.mk (Kd.R_below (zR0 HO_5.out) hb);replace HO_360000:=Aside0.mk (Kd.V_below (Kd.V_elderB (by (with_reducible repeat (first | apply Kd.V_alloc | apply Kd.V_drewN | apply Kd.V_drew));exact HO_360000.out) gb377 (Nat.le_of_eq hg.symm)) hb);replace HO375:=Aside0.mk (Kd.R_below (zR0 HO375.out) hb);replace HB:=Aside0.mk (below_step (zj0 HB HI0) hb);have BK377:=Aside0.mk hbox;have GW377:=Aside0.mk ((by rw [hg];exact (keep_size (w:=w) (g:=g) (row:=none) (zk0 HK)) : w.heap.size ≤ gb377));have GE377:=Aside0.mk ((Nat.le_trans HW0.out (by rw [hg];exact (keep_size (w:=w) (g:=g) (row:=none) (zk0 HK)) : w.heap.size ≤ gb377) : w0.heap.size ≤ gb377));replace HK:=Aside0.mk (KeepBut.trans (zk0 HK) (KeepBut.of_below hb g none) (.inl rfl));have NB359_377:=zl0 hg BK359;have NB377_359:=zg0 hg BK359;replace BK359:=zb0 BK359 hb;have NB372_377:=zl0 hg BK372;have NB377_372:=zg0 hg BK372;replace BK372:=zb0 BK372 hb;have NB0_377:=Aside0.mk ((by rw [hg];exact Nat.ne_of_lt (IsS139.lt (show IsS139 w0 _ g s0_0 t370 t371 from zi0 HI0)) : g ≠ gb377));have NB377_0:=Aside0.mk ((by rw [hg];exact Nat.ne_of_gt (IsS139.lt (show IsS139 w0 _ g s0_0 t370 t371 from zi0 HI0)) : gb377 ≠ g));replace HI0:=Aside0.mk (IsS139.below (zi0 HI0) hb);clear hb hbox hg;obtain ⟨Ao23,co23,eo23⟩:=Kd.R_slice HO375.out;subst eo23;obtain ⟨_,_⟩:=zn0 NB377_359;obtain ⟨_,_⟩:=zn0 NB377_372;obtain ⟨_,_⟩:=zn0 NB377_0;obtain ⟨_,_⟩:=zd01 BK377;obtain ⟨_,_,_,_,_,_,_,_⟩:=zd04 BK372) | ((with_reducible refine gate_builtin (b:=.append) (xs:=#[.tmp 30,.tmp 32]) rfl ?_);at_builtin;refine Kd.R_append k55 w.heap.size rfl (.tmp 30) (.tmp 32) 62 55 (.agg #[(.int .i64 0),(.string ⟨#[]⟩),(.string ⟨#[]⟩),(.string ⟨#[]⟩)]) 56 rfl Try.underlying62 info55 rfl (by decide) (by omega) u5 x5_1 (⟨t366,t367,t368,t369⟩ : S55) [.int .i64 t366,.string t367,.string t368,.string t369] (fun k_ => (w.heap.size ≤ k_) ∧ k_ ≠ gb372) (fun _ => False) rfl (by first | (go_simp;done) | (go_simp;rfl)) ?aP (fun _ hk => hk.elim) ?aF ?aO (Below.refl _ _) ?aS ?aL ?_;(case aP => exact k55_mkM _ _ _ (⟨t366,t367,t368,t369⟩ : S55));(case aF => exact (fun k_ hk => ⟨(Nat.le_trans (keep_size (w:=w) (g:=g) (row:=none) (zk0 HK)) hk),Kd.freshB (g:=gb372) (o:=.cells #[.int .i64 t366,.string t367,.string t368,.string t369] 55 (0,0)) (zK0 BK372.out) k_ hk⟩));(case aO => exact (by refine zV0 ?_;exact Kd.R_mono (Kd.R_far (p:=⟨gb377,0,none⟩) (Kd.R_types HO_5.out BK377.out (by decide)) (fun _ hk => hk.2) (.slice Ao23 t373.length co23)) (fun _ hk => ⟨hk.1.1,hk.1.2⟩)));(case aS => exact (keep_size (w:=w) (g:=g) (row:=none) (zk0 HK)));(case aL => have:=LMc11.out;omega);intro v379 w29 ho hb hg hat;rw [← Ny378.out] at ho;replace HO_360000:=Aside0.mk (Kd.V_afterv (ok:=(fun k_ => (P1_0_ k_ ∨ w.heap.size ≤ k_) ∧ some k_ ≠ (.slice Ao23 t373.length co23 : Value).ownBlock ∧ k_ ≠ gb359 ∧ k_ ≠ g ∧ k_ ≠ gb372 ∧ k_ ≠ gb377)) (by (with_reducible repeat (first | apply Kd.V_alloc | apply Kd.V_drewN | apply Kd.V_drew));exact Kd.V_mono (Kd.V_far (p:=⟨gb377,0,none⟩) (Kd.V_mono HO_360000.out (fun k_ hk => (⟨hk,hk.2⟩ : _ ∧ k_ ≠ gb377))) (fun _ hk => hk.2) (.slice Ao23 t373.length co23)) (fun _ hk => ⟨⟨hk.1.1.1.1.1,⟨hk.1.1.2,⟨hk.1.1.1.1.2.2.1,⟨hk.1.1.1.1.2.2.2,⟨hk.1.1.1.2,hk.1.2⟩⟩⟩⟩⟩,hk.1.1.1.1.2.1⟩)) hg hat);replace BK359:=Aside0.mk (blk_grown (g:=gb359) (o:=.cells #[.slice Ao20 x360000_1.length co20] 30 (0,0)) (zK0 BK359.out) hg (Kd.R_ne HO_5.out BK359.out (by decide)));replace BK372:=Aside0.mk (blk_grown (g:=gb372) (o:=.cells #[.int .i64 t366,.string t367,.string t368,.string t369] 55 (0,0)) (zK0 BK372.out) hg (Kd.R_away HO_5.out (fun _ hk => hk.2)));replace HO375:=Aside0.mk (Kd.R_over' (by refine zV0 ?_;exact (Kd.R_set HO375.out BK377.out (by decide) 0 _)) (Kd.R_typed (by refine zV0 ?_;exact (Kd.R_set HO_5.out BK377.out (by decide) 0 _))) (by decide) hg);replace BK377:=Aside0.mk (blk_grown (g:=gb377) (o:=.cells #[.slice Ao23 t373.length co23] 30 (0,0)) (by refine zT0 ?_;refine blk_put (cs:=#[.slice none 0 0]) ?_ 0 _ rfl;exact zK0 BK377.out) hg (Kd.R_ne HO_5.out BK377.out (by decide)));replace HB:=Aside0.mk (below_weaken (zj0 HB HI0) HL.out hb);replace HI0:=Aside0.mk (IsS139.grown (show IsS139 w0 _ g s0_0 t370 t371 from zi0 HI0) hg (IsS139.own_ne HI0.out HO_5.out (by decide)));replace HK:=Aside0.mk (KeepBut.trans (zk0 HK) (KeepBut.of_grown hg g) (Kd.R_base2 HO_5.out));have HO380:=Aside0.mk ho;clear HO_5;clear ho hb hg hat;obtain ⟨_,_⟩:=zd01 BK377;obtain ⟨_,_⟩:=zd01 BK359))
      go_roundg k1
      case measure => have:=HK1.out;omega
      case rel => exact ⟨(y378),(wrap64 (x6_1 + 1)),(t370),(t371),(t373),(.slice Ao23 t373.length co23),zE0,H',⟨by have:=HK1.out;omega⟩,⟨by refine zV0 ?_;exact Kd.R_mono (Kd.R_far (p:=⟨gb359,0,none⟩) (Kd.R_types HO380.out BK359.out (by decide)) (fun _ hk => hk.2) (.slice Ao23 t373.length co23)) (fun _ hk => hk.1.1)⟩,⟨Kd.V_mono (ok:=fun k_ => w.heap.size ≤ k_ ∧ some k_ ≠ (v379 : Value).ownBlock ∧ k_ ≠ gb359 ∧ k_ ≠ g) (Kd.R_V (by refine zV0 ?_;exact Kd.R_mono (Kd.R_far (p:=⟨gb359,0,none⟩) (Kd.R_types (IsS139.apart HI0.out (Kd.R_types (Kd.R_apart' HO375.out (Kd.R_typed HO380.out) (by decide)) BK359.out (by decide)) (by decide)) BK359.out (by decide)) (fun _ hk => hk.2) (.slice Ao23 t373.length co23)) (fun _ hk => ⟨hk.1.1.1.1.1,⟨hk.1.1.1.2,⟨hk.1.1.2,hk.1.2⟩⟩⟩))) (fun k_ hk => by first | exact ⟨(.inr (hk.1)),hk.2⟩ | exact (.inr (hk)))⟩,⟨by refine zT0 ?_;refine blk_put (cs:=#[.slice Ao20 x360000_1.length co20]) ?_ 0 _ rfl;exact zK0 BK359.out⟩,⟨zi0 HI0⟩,⟨zk0 HK⟩,⟨zj0 HB HI0⟩⟩
     ·rw [if_neg c11] at H
      exact absurd H (by simp)
    ·replace c10:=Bool.eq_false_iff.mpr c10
     subst c10
     rw [if_neg (show ¬ (false = true) by decide)] at H
     obtain ⟨⟨t381,t382,t383⟩,A32,H⟩:=bX0 H
     dsimp only at H
     by_cases c33 : t381 = true
     ·subst c33
      rw [if_pos rfl] at H
      by_cases c34 : x5_1.length < 2513169434916
      ·rw [if_pos c34] at H
       have LMc34:=Aside0.mk c34
       clear c34
       obtain ⟨y384,hy384⟩ : ∃ y_ : List (S55),y_ = (x5_1 ++ [(⟨t366,t367,t368,t369⟩ : S55)]):=⟨_,rfl⟩
       replace H : (spec_l03Acts.l0 k1 y384 (wrap64 (x6_1 + 1)) s0_0 t382 t383 t373) = some (r1,r2,r3):=by first | (rw [hy384];with_reducible exact H) | (have H2_:=(Option.bind_some _ _).symm.trans H;rw [hy384];with_reducible exact H2_) | (have H2_:=(Option.bind_some _ _).symm.trans H;with_reducible exact H2_) | with_reducible exact H | (rw [hy384];exact H) | exact H
       have Ny384:=Aside0.mk hy384
       clear hy384
       have H':=Aside0.mk H
       clear H
       go_wp2_with (first | ((with_reducible refine gate_callee (f:=72) rfl ?_);refine goesL_ (some 13) rfl rfl Try.func72 (by kernel_rfl) rfl #[.pointer (some ⟨g,0,none⟩),.int .i64 9] rfl zM0 ?_;(with_reducible refine (spec_l01Below.calls g s0_0 x1001_1 x1002_1 9 t363 t364 t365 w0 _ ?side1 ?side2 A6.out).mono ?_);(case side1 => exact zi0 HI0);(case side2 => exact zj0 HB HI0);rintro e w35 ⟨rfl,hi,hb,hk⟩;refine ⟨_,rfl,?_⟩;replace HO_5:=Aside0.mk (Kd.R_mono (Kd.R_keep (IsS139.apart (show IsS139 w0 _ g s0_0 x1001_1 x1002_1 from zi0 HI0) (zR0 HO_5.out) (by decide)) hk (fun _ h => h.2)) (fun _ h => h.1));replace HO_360000:=Aside0.mk (Kd.V_mono (Kd.V_keep (Kd.V_mono (ok:=fun k_ => (((P1_0_ k_ ∨ w.heap.size ≤ k_)) ∧ (some k_ ≠ (u5 : Value).ownBlock ∧ (k_ ≠ gb359 ∧ k_ ≠ g)))) (by (with_reducible repeat (first | apply Kd.V_alloc | apply Kd.V_drewN | apply Kd.V_drew));exact HO_360000.out) (fun k_ hk_ => (⟨hk_,hk_.2.2.2⟩ : _ ∧ k_ ≠ g))) hk (fun _ h => h.2)) (fun _ h => h.1));replace BK359:=zw0 hk BK359 NB359_0;replace HK:=zm0 HK hk;replace HB:=Aside0.mk hb;replace HI0:=Aside0.mk hi;(try clear hb);(try clear hk);(try clear hi)) | ((with_reducible refine gate_callee (f:=119) rfl ?_);refine goesL_ (some 18) rfl rfl Try.func119 (by kernel_rfl) rfl #[.pointer (some ⟨g,0,none⟩)] rfl zM0 ?_;(with_reducible refine (spec_l03Act.calls k1 g s0_0 t364 t365 t366 t367 t368 t369 t370 t371 w0 _ ?side1 ?side2 A8.out).mono ?_);(case side1 => exact zi0 HI0);(case side2 => exact zj0 HB HI0);rintro e w36 ⟨rfl,hi,hb,hk⟩;refine ⟨_,rfl,?_⟩;replace HO_5:=Aside0.mk (Kd.R_mono (Kd.R_keep (IsS139.apart (show IsS139 w0 _ g s0_0 t364 t365 from zi0 HI0) (zR0 HO_5.out) (by decide)) hk (fun _ h => h.2)) (fun _ h => h.1));replace HO_360000:=Aside0.mk (Kd.V_mono (Kd.V_keep (Kd.V_mono (ok:=fun k_ => (((P1_0_ k_ ∨ w.heap.size ≤ k_)) ∧ (some k_ ≠ (u5 : Value).ownBlock ∧ (k_ ≠ gb359 ∧ k_ ≠ g)))) (by (with_reducible repeat (first | apply Kd.V_alloc | apply Kd.V_drewN | apply Kd.V_drew));exact HO_360000.out) (fun k_ hk_ => (⟨hk_,hk_.2.2.2⟩ : _ ∧ k_ ≠ g))) hk (fun _ h => h.2)) (fun _ h => h.1));replace BK359:=zw0 hk BK359 NB359_0;replace HK:=zm0 HK hk;replace HB:=Aside0.mk hb;replace HI0:=Aside0.mk hi;(try clear hb);(try clear hk);(try clear hi)) | ((with_reducible refine gate_dst (N:=7) rfl ?_);refine zy0 (cs:=#[.int .i64 0,.string (⟨#[]⟩ : ByteArray),.string (⟨#[]⟩ : ByteArray),.string (⟨#[]⟩ : ByteArray)]) (t:=55) ?_;intro gb372 hg w37 hbox hb;replace HO_5:=Aside0.mk (Kd.R_below (Kd.R_elderB (zR0 HO_5.out) gb372 (Nat.le_of_eq hg.symm)) hb);replace HO_360000:=Aside0.mk (Kd.V_below (Kd.V_elderB (by (with_reducible repeat (first | apply Kd.V_alloc | apply Kd.V_drewN | apply Kd.V_drew));exact HO_360000.out) gb372 (Nat.le_of_eq hg.symm)) hb);replace HB:=Aside0.mk (below_step (zj0 HB HI0) hb);have BK372:=Aside0.mk hbox;have GW372:=Aside0.mk ((by rw [hg];exact (keep_size (w:=w) (g:=g) (row:=none) (zk0 HK)) : w.heap.size ≤ gb372));have GE372:=Aside0.mk ((Nat.le_trans HW0.out (by rw [hg];exact (keep_size (w:=w) (g:=g) (row:=none) (zk0 HK)) : w.heap.size ≤ gb372) : w0.heap.size ≤ gb372));replace HK:=Aside0.mk (KeepBut.trans (zk0 HK) (KeepBut.of_below hb g none) (.inl rfl));have NB359_372:=zl0 hg BK359;have NB372_359:=zg0 hg BK359;replace BK359:=zb0 BK359 hb;have NB0_372:=Aside0.mk ((by rw [hg];exact Nat.ne_of_lt (IsS139.lt (show IsS139 w0 _ g s0_0 t370 t371 from zi0 HI0)) : g ≠ gb372));have NB372_0:=Aside0.mk ((by rw [hg];exact Nat.ne_of_gt (IsS139.lt (show IsS139 w0 _ g s0_0 t370 t371 from zi0 HI0)) : gb372 ≠ g));replace HI0:=Aside0.mk (IsS139.below (zi0 HI0) hb);clear hb hbox hg;obtain ⟨_,_⟩:=zn0 NB372_359;obtain ⟨_,_⟩:=zn0 NB372_0;obtain ⟨_,_,_,_,_,_,_,_⟩:=zd04 BK372;obtain ⟨_,_⟩:=zn0 NB359_0;obtain ⟨_,_⟩:=zd01 BK359;obtain ⟨Ao43,co43,eo43⟩:=Kd.V_slice HO_360000.out;subst eo43) | ((with_reducible refine gate_callee (f:=36) rfl ?_);refine goesL_ (some 22) rfl rfl Try.func36 (by kernel_rfl) rfl #[.agg #[.slice Ao43 x360000_1.length co43],.agg #[.int .i64 t366,.string t367,.string t368,.string t369]] rfl zM0 ?_;(with_reducible refine (spec_DoAct.calls k1 _ _ x360000_1 t366 t367 t368 t369 t373 false _ ?side1 ?side2 A9.out).mono ?_);(case side1 => refine (Kd.V_reads' (e:=45) (base:=w.heap.size) (ok:=fun k_ => (((P1_0_ k_ ∨ w.heap.size ≤ k_) ∧ (some k_ ≠ (u5 : Value).ownBlock ∧ (k_ ≠ gb359 ∧ k_ ≠ g))) ∧ k_ ≠ gb372)) (n:=x360000_1.length) (c:=co43) ?_).2.2;exact (by (with_reducible repeat (first | apply Kd.V_alloc | apply Kd.V_drewN | apply Kd.V_drew));exact (Kd.V_mono (Kd.V_far (p:=⟨gb372,3,none⟩) (Kd.V_far (p:=⟨gb372,2,none⟩) (Kd.V_far (p:=⟨gb372,1,none⟩) (Kd.V_far (p:=⟨gb372,0,none⟩) (Kd.V_mono HO_360000.out (fun k_ hk => (⟨hk,hk.2⟩ : _ ∧ k_ ≠ gb372))) (fun _ hk => hk.2) (.int .i64 t366)) (fun _ hk => hk.2) (.string t367)) (fun _ hk => hk.2) (.string t368)) (fun _ hk => hk.2) (.string t369)) (fun _ h_ => h_.1))));(case side2 => exact (Kd.V_reads' HO_360000.out).2.1);rintro e w44 ⟨v374,rfl,ho0,hb⟩;refine ⟨_,rfl,?_⟩;replace HO_5:=Aside0.mk (Kd.R_below (by refine zV0 ?_;exact (Kd.R_mono (Kd.R_far (p:=⟨gb372,3,none⟩) (Kd.R_far (p:=⟨gb372,2,none⟩) (Kd.R_far (p:=⟨gb372,1,none⟩) (Kd.R_far (p:=⟨gb372,0,none⟩) (Kd.R_mono HO_5.out (fun k_ hk => (⟨hk,hk.2⟩ : _ ∧ k_ ≠ gb372))) (fun _ hk => hk.2) (.int .i64 t366)) (fun _ hk => hk.2) (.string t367)) (fun _ hk => hk.2) (.string t368)) (fun _ hk => hk.2) (.string t369)) (fun _ h_ => h_.1))) hb);replace HO_360000:=Aside0.mk (Kd.V_elder' (by (with_reducible repeat (first | apply Kd.V_alloc | apply Kd.V_drewN | apply Kd.V_drew));exact (Kd.V_mono (Kd.V_far (p:=⟨gb372,3,none⟩) (Kd.V_far (p:=⟨gb372,2,none⟩) (Kd.V_far (p:=⟨gb372,1,none⟩) (Kd.V_far (p:=⟨gb372,0,none⟩) (Kd.V_mono HO_360000.out (fun k_ hk => (⟨hk,hk.2⟩ : _ ∧ k_ ≠ gb372))) (fun _ hk => hk.2) (.int .i64 t366)) (fun _ hk => hk.2) (.string t367)) (fun _ hk => hk.2) (.string t368)) (fun _ hk => hk.2) (.string t369)) (fun _ h_ => h_.1))) (Kd.R_base ho0) hb);have HO375:=Aside0.mk (Kd.R_lower (Kd.R_newM (M:=fun k_ => (w.heap.size ≤ k_)) ho0 (keep_size (w:=w) (g:=g) (row:=none) (zk0 HK)) (fun k_ h_ => h_)) (keep_size (w:=w) (g:=g) (row:=none) (zk0 HK)));replace BK359:=zb0 BK359 hb;replace BK372:=Aside0.mk (blk_below (g:=gb372) (o:=.cells #[.int .i64 t366,.string t367,.string t368,.string t369] 55 (0,0)) (by refine zT0 ?_;refine blk_put (cs:=#[.int .i64 t366,.string t367,.string t368,.string (⟨#[]⟩ : ByteArray)]) ?_ 3 _ rfl;refine zT0 ?_;refine blk_put (cs:=#[.int .i64 t366,.string t367,.string (⟨#[]⟩ : ByteArray),.string (⟨#[]⟩ : ByteArray)]) ?_ 2 _ rfl;refine zT0 ?_;refine blk_put (cs:=#[.int .i64 t366,.string (⟨#[]⟩ : ByteArray),.string (⟨#[]⟩ : ByteArray),.string (⟨#[]⟩ : ByteArray)]) ?_ 1 _ rfl;refine zT0 ?_;refine blk_put (cs:=#[.int .i64 0,.string (⟨#[]⟩ : ByteArray),.string (⟨#[]⟩ : ByteArray),.string (⟨#[]⟩ : ByteArray)]) ?_ 0 _ rfl;exact zK0 BK372.out) hb);replace HK:=Aside0.mk (KeepBut.trans (zk0 HK) (KeepBut.of_below hb g none) (.inl rfl));replace HB:=Aside0.mk (below_step (zj0 HB HI0) hb);replace HI0:=Aside0.mk (IsS139.below (show IsS139 w0 ((((w37.setCell ⟨gb372,0,none⟩ (.int .i64 t366)).setCell ⟨gb372,1,none⟩ (.string t367)).setCell ⟨gb372,2,none⟩ (.string t368)).setCell ⟨gb372,3,none⟩ (.string t369)) g s0_0 t370 t371 from zi0 HI0) hb);(try clear hb);(try clear hk);(try clear hi);(try clear ho0)) | ((with_reducible refine gate_dst (N:=8) rfl ?_);refine zy0 (cs:=#[.slice none 0 0]) (t:=30) ?_;intro gb377 hg w45 hbox hb;replace HO_5:=Aside0.mk (Kd.R_below (zR0 HO_5.out) hb);replace HO_360000:=Aside0.mk (Kd.V_below (Kd.V_elderB (by (with_reducible repeat (first | apply Kd.V_alloc | apply Kd.V_drewN | apply Kd.V_drew));exact HO_360000.out) gb377 (Nat.le_of_eq hg.symm)) hb);replace HO375:=Aside0.mk (Kd.R_below (zR0 HO375.out) hb);replace HB:=Aside0.mk (below_step (zj0 HB HI0) hb);have BK377:=Aside0.mk hbox;have GW377:=Aside0.mk ((by rw [hg];exact (keep_size (w:=w) (g:=g) (row:=none) (zk0 HK)) : w.heap.size ≤ gb377));have GE377:=Aside0.mk ((Nat.le_trans HW0.out (by rw [hg];exact (keep_size (w:=w) (g:=g) (row:=none) (zk0 HK)) : w.heap.size ≤ gb377) : w0.heap.size ≤ gb377));replace HK:=Aside0.mk (KeepBut.trans (zk0 HK) (KeepBut.of_below hb g none) (.inl rfl));have NB359_377:=zl0 hg BK359;have NB377_359:=zg0 hg BK359;replace BK359:=zb0 BK359 hb;have NB372_377:=zl0 hg BK372;have NB377_372:=zg0 hg BK372;replace BK372:=zb0 BK372 hb;have NB0_377:=Aside0.mk ((by rw [hg];exact Nat.ne_of_lt (IsS139.lt (show IsS139 w0 _ g s0_0 t370 t371 from zi0 HI0)) : g ≠ gb377));have NB377_0:=Aside0.mk ((by rw [hg];exact Nat.ne_of_gt (IsS139.lt (show IsS139 w0 _ g s0_0 t370 t371 from zi0 HI0)) : gb377 ≠ g));replace HI0:=Aside0.mk (IsS139.below (zi0 HI0) hb);clear hb hbox hg;obtain ⟨Ao46,co46,eo46⟩:=Kd.R_slice HO375.out;subst eo46;obtain ⟨_,_⟩:=zn0 NB377_359;obtain ⟨_,_⟩:=zn0 NB377_372;obtain ⟨_,_⟩:=zn0 NB377_0;obtain ⟨hcz50_0,hfz50_0⟩:=zd01 BK377) | (go_at_call 120;(with_reducible refine (spec_l01Once.calls g s0_0 t370 t371 20 true t382 t383 w0 _ ?side1 ?side2 A32.out).mono ?_);(case side1 => exact zi0 HI0);(case side2 => exact zj0 HB HI0);rintro e w51 ⟨rfl,hi,hb,hk⟩;replace HO_5:=Aside0.mk (Kd.R_mono (Kd.R_keep (IsS139.apart (show IsS139 w0 _ g s0_0 t370 t371 from zi0 HI0) (by refine zV0 ?_;exact (Kd.R_set HO_5.out BK377.out (by decide) 0 _)) (by decide)) hk (fun _ h => h.2)) (fun _ h => h.1));replace HO_360000:=Aside0.mk (Kd.V_mono (Kd.V_keep (Kd.V_mono (ok:=fun k_ => ((((((P1_0_ k_ ∨ w.heap.size ≤ k_)) ∧ (some k_ ≠ (u5 : Value).ownBlock ∧ (k_ ≠ gb359 ∧ k_ ≠ g))) ∧ k_ ≠ gb372) ∧ some k_ ≠ (.slice Ao46 t373.length co46 : Value).ownBlock) ∧ k_ ≠ gb377)) (by (with_reducible repeat (first | apply Kd.V_alloc | apply Kd.V_drewN | apply Kd.V_drew));exact (Kd.V_mono (Kd.V_far (p:=⟨gb377,0,none⟩) (Kd.V_mono HO_360000.out (fun k_ hk => (⟨hk,hk.2⟩ : _ ∧ k_ ≠ gb377))) (fun _ hk => hk.2) (.slice Ao46 t373.length co46)) (fun _ h_ => h_.1))) (fun k_ hk_ => (⟨hk_,hk_.1.1.1.2.2.2⟩ : _ ∧ k_ ≠ g))) hk (fun _ h => h.2)) (fun _ h => h.1));replace BK359:=zw0 hk BK359 NB359_0;replace BK372:=zw0 hk BK372 NB372_0;replace HO375:=Aside0.mk (Kd.R_mono (Kd.R_keep (IsS139.apart (show IsS139 w0 _ g s0_0 t370 t371 from zi0 HI0) (by refine zV0 ?_;exact (Kd.R_set HO375.out BK377.out (by decide) 0 _)) (by decide)) hk (fun _ h => h.2)) (fun _ h => h.1));replace BK377:=Aside0.mk (KeepBut.blk hk (g':=gb377) (o:=.cells #[.slice Ao46 t373.length co46] 30 (0,0)) (by refine zT0 ?_;refine blk_put (cs:=#[.slice none 0 0]) ?_ 0 _ rfl;exact zK0 BK377.out) NB377_0.out (by simp));replace HK:=zm0 HK hk;replace HB:=Aside0.mk hb;replace HI0:=Aside0.mk hi;(try clear hb);(try clear hk);(try clear hi);obtain ⟨_,_,_,_,_,_,_,_⟩:=zd04 BK372) | ((with_reducible refine gate_builtin (b:=.append) (xs:=#[.tmp 30,.tmp 32]) rfl ?_);at_builtin;refine Kd.R_append k55 w.heap.size rfl (.tmp 30) (.tmp 32) 62 55 (.agg #[(.int .i64 0),(.string ⟨#[]⟩),(.string ⟨#[]⟩),(.string ⟨#[]⟩)]) 56 rfl Try.underlying62 info55 rfl (by decide) (by omega) u5 x5_1 (⟨t366,t367,t368,t369⟩ : S55) [.int .i64 t366,.string t367,.string t368,.string t369] (fun k_ => (w.heap.size ≤ k_) ∧ k_ ≠ gb372) (fun _ => False) rfl rfl ?aP (fun _ hk => hk.elim) ?aF ?aO (Below.refl _ _) ?aS ?aL ?_;(case aP => exact k55_mkM _ _ _ (⟨t366,t367,t368,t369⟩ : S55));(case aF => exact (fun k_ hk => ⟨(Nat.le_trans (keep_size (w:=w) (g:=g) (row:=none) (zk0 HK)) hk),Kd.freshB (g:=gb372) (o:=.cells #[.int .i64 t366,.string t367,.string t368,.string t369] 55 (0,0)) (zK0 BK372.out) k_ hk⟩));(case aO => exact (zR0 HO_5.out));(case aS => exact (keep_size (w:=w) (g:=g) (row:=none) (zk0 HK)));(case aL => have:=LMc34.out;omega);intro v385 w53 ho hb hg hat;rw [← Ny384.out] at ho;replace HO_360000:=Aside0.mk (Kd.V_afterv (ok:=(fun k_ => (P1_0_ k_ ∨ w.heap.size ≤ k_) ∧ some k_ ≠ (.slice Ao46 t373.length co46 : Value).ownBlock ∧ k_ ≠ gb359 ∧ k_ ≠ g ∧ k_ ≠ gb372 ∧ k_ ≠ gb377)) (by (with_reducible repeat (first | apply Kd.V_alloc | apply Kd.V_drewN | apply Kd.V_drew));exact Kd.V_mono HO_360000.out (fun _ hk => ⟨⟨hk.1.1.1.1,⟨hk.1.2,⟨hk.1.1.1.2.2.1,⟨hk.1.1.1.2.2.2,⟨hk.1.1.2,hk.2⟩⟩⟩⟩⟩,hk.1.1.1.2.1⟩)) hg hat);replace BK359:=Aside0.mk (blk_grown (g:=gb359) (o:=.cells #[.slice Ao43 x360000_1.length co43] 30 (0,0)) (zK0 BK359.out) hg (Kd.R_ne HO_5.out BK359.out (by decide)));replace BK372:=Aside0.mk (blk_grown (g:=gb372) (o:=.cells #[.int .i64 t366,.string t367,.string t368,.string t369] 55 (0,0)) (zK0 BK372.out) hg (Kd.R_away HO_5.out (fun _ hk => hk.2)));replace HO375:=Aside0.mk (Kd.R_over' (zR0 HO375.out) (Kd.R_typed (zR0 HO_5.out)) (by decide) hg);replace BK377:=Aside0.mk (blk_grown (g:=gb377) (o:=.cells #[.slice Ao46 t373.length co46] 30 (0,0)) (zK0 BK377.out) hg (Kd.R_ne HO_5.out BK377.out (by decide)));replace HB:=Aside0.mk (below_weaken (zj0 HB HI0) HL.out hb);replace HI0:=Aside0.mk (IsS139.grown (zi0 HI0) hg (IsS139.own_ne HI0.out HO_5.out (by decide)));replace HK:=Aside0.mk (KeepBut.trans (zk0 HK) (KeepBut.of_grown hg g) (Kd.R_base2 HO_5.out));have HO386:=Aside0.mk ho;clear HO_5;clear ho hb hg hat;obtain ⟨_,_⟩:=zd01 BK377;obtain ⟨hcz55_0,hfz55_0⟩:=zd01 BK359))
       go_roundg k1
       case measure => have:=HK1.out;omega
       case rel => exact ⟨(y384),(wrap64 (x6_1 + 1)),(t382),(t383),(t373),(.slice Ao46 t373.length co46),zE0,H',⟨by have:=HK1.out;omega⟩,⟨by refine zV0 ?_;exact Kd.R_mono (Kd.R_far (p:=⟨gb359,0,none⟩) (Kd.R_types HO386.out BK359.out (by decide)) (fun _ hk => hk.2) (.slice Ao46 t373.length co46)) (fun _ hk => hk.1.1)⟩,⟨Kd.V_mono (ok:=fun k_ => w.heap.size ≤ k_ ∧ some k_ ≠ (v385 : Value).ownBlock ∧ k_ ≠ gb359 ∧ k_ ≠ g) (Kd.R_V (by refine zV0 ?_;exact Kd.R_mono (Kd.R_far (p:=⟨gb359,0,none⟩) (Kd.R_types (IsS139.apart HI0.out (Kd.R_types (Kd.R_apart' HO375.out (Kd.R_typed HO386.out) (by decide)) BK359.out (by decide)) (by decide)) BK359.out (by decide)) (fun _ hk => hk.2) (.slice Ao46 t373.length co46)) (fun _ hk => ⟨hk.1.1.1.1.1,⟨hk.1.1.1.2,⟨hk.1.1.2,hk.1.2⟩⟩⟩))) (fun k_ hk => by first | exact ⟨(.inr (hk.1)),hk.2⟩ | exact (.inr (hk)))⟩,⟨by refine zT0 ?_;refine blk_put (cs:=#[.slice Ao43 x360000_1.length co43]) ?_ 0 _ rfl;exact zK0 BK359.out⟩,⟨zi0 HI0⟩,⟨zk0 HK⟩,⟨zj0 HB HI0⟩⟩
      ·rw [if_neg c34] at H
       exact absurd H (by simp)
     ·replace c33:=Bool.eq_false_iff.mpr c33
      subst c33
      rw [if_neg (show ¬ (false = true) by decide)] at H
      have H':=Aside0.mk H
      clear H
      go_wp2_with (first | ((with_reducible refine gate_callee (f:=72) rfl ?_);refine goesL_ (some 13) rfl rfl Try.func72 (by kernel_rfl) rfl #[.pointer (some ⟨g,0,none⟩),.int .i64 9] rfl zM0 ?_;(with_reducible refine (spec_l01Below.calls g s0_0 x1001_1 x1002_1 9 t363 t364 t365 w0 _ ?side1 ?side2 A6.out).mono ?_);(case side1 => exact zi0 HI0);(case side2 => exact zj0 HB HI0);rintro e w56 ⟨rfl,hi,hb,hk⟩;refine ⟨_,rfl,?_⟩;replace HO_5:=Aside0.mk (Kd.R_mono (Kd.R_keep (IsS139.apart (show IsS139 w0 _ g s0_0 x1001_1 x1002_1 from zi0 HI0) (zR0 HO_5.out) (by decide)) hk (fun _ h => h.2)) (fun _ h => h.1));replace HO_360000:=Aside0.mk (Kd.V_mono (Kd.V_keep (Kd.V_mono (ok:=fun k_ => (((P1_0_ k_ ∨ w.heap.size ≤ k_)) ∧ (some k_ ≠ (u5 : Value).ownBlock ∧ (k_ ≠ gb359 ∧ k_ ≠ g)))) (by (with_reducible repeat (first | apply Kd.V_alloc | apply Kd.V_drewN | apply Kd.V_drew));exact HO_360000.out) (fun k_ hk_ => (⟨hk_,hk_.2.2.2⟩ : _ ∧ k_ ≠ g))) hk (fun _ h => h.2)) (fun _ h => h.1));replace BK359:=zw0 hk BK359 NB359_0;replace HK:=zm0 HK hk;replace HB:=Aside0.mk hb;replace HI0:=Aside0.mk hi;(try clear hb);(try clear hk);(try clear hi)) | ((with_reducible refine gate_callee (f:=119) rfl ?_);refine goesL_ (some 18) rfl rfl Try.func119 (by kernel_rfl) rfl #[.pointer (some ⟨g,0,none⟩)] rfl zM0 ?_;(with_reducible refine (spec_l03Act.calls k1 g s0_0 t364 t365 t366 t367 t368 t369 t370 t371 w0 _ ?side1 ?side2 A8.out).mono ?_);(case side1 => exact zi0 HI0);(case side2 => exact zj0 HB HI0);rintro e w57 ⟨rfl,hi,hb,hk⟩;refine ⟨_,rfl,?_⟩;replace HO_5:=Aside0.mk (Kd.R_mono (Kd.R_keep (IsS139.apart (show IsS139 w0 _ g s0_0 t364 t365 from zi0 HI0) (zR0 HO_5.out) (by decide)) hk (fun _ h => h.2)) (fun _ h => h.1));replace HO_360000:=Aside0.mk (Kd.V_mono (Kd.V_keep (Kd.V_mono (ok:=fun k_ => (((P1_0_ k_ ∨ w.heap.size ≤ k_)) ∧ (some k_ ≠ (u5 : Value).ownBlock ∧ (k_ ≠ gb359 ∧ k_ ≠ g)))) (by (with_reducible repeat (first | apply Kd.V_alloc | apply Kd.V_drewN | apply Kd.V_drew));exact HO_360000.out) (fun k_ hk_ => (⟨hk_,hk_.2.2.2⟩ : _ ∧ k_ ≠ g))) hk (fun _ h => h.2)) (fun _ h => h.1));replace BK359:=zw0 hk BK359 NB359_0;replace HK:=zm0 HK hk;replace HB:=Aside0.mk hb;replace HI0:=Aside0.mk hi;(try clear hb);(try clear hk);(try clear hi)) | ((with_reducible refine gate_dst (N:=7) rfl ?_);refine zy0 (cs:=#[.int .i64 0,.string (⟨#[]⟩ : ByteArray),.string (⟨#[]⟩ : ByteArray),.string (⟨#[]⟩ : ByteArray)]) (t:=55) ?_;intro gb372 hg w58 hbox hb;replace HO_5:=Aside0.mk (Kd.R_below (Kd.R_elderB (zR0 HO_5.out) gb372 (Nat.le_of_eq hg.symm)) hb);replace HO_360000:=Aside0.mk (Kd.V_below (Kd.V_elderB (by (with_reducible repeat (first | apply Kd.V_alloc | apply Kd.V_drewN | apply Kd.V_drew));exact HO_360000.out) gb372 (Nat.le_of_eq hg.symm)) hb);replace HB:=Aside0.mk (below_step (zj0 HB HI0) hb);have BK372:=Aside0.mk hbox;have GW372:=Aside0.mk ((by rw [hg];exact (keep_size (w:=w) (g:=g) (row:=none) (zk0 HK)) : w.heap.size ≤ gb372));have GE372:=Aside0.mk ((Nat.le_trans HW0.out (by rw [hg];exact (keep_size (w:=w) (g:=g) (row:=none) (zk0 HK)) : w.heap.size ≤ gb372) : w0.heap.size ≤ gb372));replace HK:=Aside0.mk (KeepBut.trans (zk0 HK) (KeepBut.of_below hb g none) (.inl rfl));have NB359_372:=zl0 hg BK359;have NB372_359:=zg0 hg BK359;replace BK359:=zb0 BK359 hb;have NB0_372:=Aside0.mk ((by rw [hg];exact Nat.ne_of_lt (IsS139.lt (show IsS139 w0 _ g s0_0 t370 t371 from zi0 HI0)) : g ≠ gb372));have NB372_0:=Aside0.mk ((by rw [hg];exact Nat.ne_of_gt (IsS139.lt (show IsS139 w0 _ g s0_0 t370 t371 from zi0 HI0)) : gb372 ≠ g));replace HI0:=Aside0.mk (IsS139.below (zi0 HI0) hb);clear hb hbox hg;obtain ⟨_,_⟩:=zn0 NB372_359;obtain ⟨_,_⟩:=zn0 NB372_0;obtain ⟨_,_,_,_,_,_,_,_⟩:=zd04 BK372;obtain ⟨_,_⟩:=zn0 NB359_0;obtain ⟨_,_⟩:=zd01 BK359;obtain ⟨Ao64,co64,eo64⟩:=Kd.V_slice HO_360000.out;subst eo64) | ((with_reducible refine gate_callee (f:=36) rfl ?_);refine goesL_ (some 22) rfl rfl Try.func36 (by kernel_rfl) rfl #[.agg #[.slice Ao64 x360000_1.length co64],.agg #[.int .i64 t366,.string t367,.string t368,.string t369]] rfl zM0 ?_;(with_reducible refine (spec_DoAct.calls k1 _ _ x360000_1 t366 t367 t368 t369 t373 false _ ?side1 ?side2 A9.out).mono ?_);(case side1 => refine (Kd.V_reads' (e:=45) (base:=w.heap.size) (ok:=fun k_ => (((P1_0_ k_ ∨ w.heap.size ≤ k_) ∧ (some k_ ≠ (u5 : Value).ownBlock ∧ (k_ ≠ gb359 ∧ k_ ≠ g))) ∧ k_ ≠ gb372)) (n:=x360000_1.length) (c:=co64) ?_).2.2;exact (by (with_reducible repeat (first | apply Kd.V_alloc | apply Kd.V_drewN | apply Kd.V_drew));exact (Kd.V_mono (Kd.V_far (p:=⟨gb372,3,none⟩) (Kd.V_far (p:=⟨gb372,2,none⟩) (Kd.V_far (p:=⟨gb372,1,none⟩) (Kd.V_far (p:=⟨gb372,0,none⟩) (Kd.V_mono HO_360000.out (fun k_ hk => (⟨hk,hk.2⟩ : _ ∧ k_ ≠ gb372))) (fun _ hk => hk.2) (.int .i64 t366)) (fun _ hk => hk.2) (.string t367)) (fun _ hk => hk.2) (.string t368)) (fun _ hk => hk.2) (.string t369)) (fun _ h_ => h_.1))));(case side2 => exact (Kd.V_reads' HO_360000.out).2.1);rintro e w65 ⟨v374,rfl,ho0,hb⟩;refine ⟨_,rfl,?_⟩;replace HO_5:=Aside0.mk (Kd.R_below (by refine zV0 ?_;exact (Kd.R_mono (Kd.R_far (p:=⟨gb372,3,none⟩) (Kd.R_far (p:=⟨gb372,2,none⟩) (Kd.R_far (p:=⟨gb372,1,none⟩) (Kd.R_far (p:=⟨gb372,0,none⟩) (Kd.R_mono HO_5.out (fun k_ hk => (⟨hk,hk.2⟩ : _ ∧ k_ ≠ gb372))) (fun _ hk => hk.2) (.int .i64 t366)) (fun _ hk => hk.2) (.string t367)) (fun _ hk => hk.2) (.string t368)) (fun _ hk => hk.2) (.string t369)) (fun _ h_ => h_.1))) hb);replace HO_360000:=Aside0.mk (Kd.V_elder' (by (with_reducible repeat (first | apply Kd.V_alloc | apply Kd.V_drewN | apply Kd.V_drew));exact (Kd.V_mono (Kd.V_far (p:=⟨gb372,3,none⟩) (Kd.V_far (p:=⟨gb372,2,none⟩) (Kd.V_far (p:=⟨gb372,1,none⟩) (Kd.V_far (p:=⟨gb372,0,none⟩) (Kd.V_mono HO_360000.out (fun k_ hk => (⟨hk,hk.2⟩ : _ ∧ k_ ≠ gb372))) (fun _ hk => hk.2) (.int .i64 t366)) (fun _ hk => hk.2) (.string t367)) (fun _ hk => hk.2) (.string t368)) (fun _ hk => hk.2) (.string t369)) (fun _ h_ => h_.1))) (Kd.R_base ho0) hb);have HO375:=Aside0.mk (Kd.R_lower (Kd.R_newM (M:=fun k_ => (w.heap.size ≤ k_)) ho0 (keep_size (w:=w) (g:=g) (row:=none) (zk0 HK)) (fun k_ h_ => h_)) (keep_size (w:=w) (g:=g) (row:=none) (zk0 HK)));replace BK359:=zb0 BK359 hb;replace BK372:=Aside0.mk (blk_below (g:=gb372) (o:=.cells #[.int .i64 t366,.string t367,.string t368,.string t369] 55 (0,0)) (by refine zT0 ?_;refine blk_put (cs:=#[.int .i64 t366,.string t367,.string t368,.string (⟨#[]⟩ : ByteArray)]) ?_ 3 _ rfl;refine zT0 ?_;refine blk_put (cs:=#[.int .i64 t366,.string t367,.string (⟨#[]⟩ : ByteArray),.string (⟨#[]⟩ : ByteArray)]) ?_ 2 _ rfl;refine zT0 ?_;refine blk_put (cs:=#[.int .i64 t366,.string (⟨#[]⟩ : ByteArray),.string (⟨#[]⟩ : ByteArray),.string (⟨#[]⟩ : ByteArray)]) ?_ 1 _ rfl;refine zT0 ?_;refine blk_put (cs:=#[.int .i64 0,.string (⟨#[]⟩ : ByteArray),.string (⟨#[]⟩ : ByteArray),.string (⟨#[]⟩ : ByteArray)]) ?_ 0 _ rfl;exact zK0 BK372.out) hb);replace HK:=Aside0.mk (KeepBut.trans (zk0 HK) (KeepBut.of_below hb g none) (.inl rfl));replace HB:=Aside0.mk (below_step (zj0 HB HI0) hb);replace HI0:=Aside0.mk (IsS139.below (show IsS139 w0 ((((w58.setCell ⟨gb372,0,none⟩ (.int .i64 t366)).setCell ⟨gb372,1,none⟩ (.string t367)).setCell ⟨gb372,2,none⟩ (.string t368)).setCell ⟨gb372,3,none⟩ (.string t369)) g s0_0 t370 t371 from zi0 HI0) hb);(try clear hb);(try clear hk);(try clear hi);(try clear ho0)) | ((with_reducible refine gate_dst (N:=8) rfl ?_);refine zy0 (cs:=#[.slice none 0 0]) (t:=30) ?_;intro gb377 hg w66 hbox hb;replace HO_5:=Aside0.mk (Kd.R_below (zR0 HO_5.out) hb);replace HO_360000:=Aside0.mk (Kd.V_below (Kd.V_elderB (by (with_reducible repeat (first | apply Kd.V_alloc | apply Kd.V_drewN | apply Kd.V_drew));exact HO_360000.out) gb377 (Nat.le_of_eq hg.symm)) hb);replace HO375:=Aside0.mk (Kd.R_below (zR0 HO375.out) hb);replace HB:=Aside0.mk (below_step (zj0 HB HI0) hb);have BK377:=Aside0.mk hbox;have GW377:=Aside0.mk ((by rw [hg];exact (keep_size (w:=w) (g:=g) (row:=none) (zk0 HK)) : w.heap.size ≤ gb377));have GE377:=Aside0.mk ((Nat.le_trans HW0.out (by rw [hg];exact (keep_size (w:=w) (g:=g) (row:=none) (zk0 HK)) : w.heap.size ≤ gb377) : w0.heap.size ≤ gb377));replace HK:=Aside0.mk (KeepBut.trans (zk0 HK) (KeepBut.of_below hb g none) (.inl rfl));have NB359_377:=zl0 hg BK359;have NB377_359:=zg0 hg BK359;replace BK359:=zb0 BK359 hb;have NB372_377:=zl0 hg BK372;have NB377_372:=zg0 hg BK372;replace BK372:=zb0 BK372 hb;have NB0_377:=Aside0.mk ((by rw [hg];exact Nat.ne_of_lt (IsS139.lt (show IsS139 w0 _ g s0_0 t370 t371 from zi0 HI0)) : g ≠ gb377));have NB377_0:=Aside0.mk ((by rw [hg];exact Nat.ne_of_gt (IsS139.lt (show IsS139 w0 _ g s0_0 t370 t371 from zi0 HI0)) : gb377 ≠ g));replace HI0:=Aside0.mk (IsS139.below (zi0 HI0) hb);clear hb hbox hg;obtain ⟨Ao67,co67,eo67⟩:=Kd.R_slice HO375.out;subst eo67;obtain ⟨_,_⟩:=zn0 NB377_359;obtain ⟨_,_⟩:=zn0 NB377_372;obtain ⟨_,_⟩:=zn0 NB377_0;obtain ⟨_,_⟩:=zd01 BK377) | (go_at_call 120;(with_reducible refine (spec_l01Once.calls g s0_0 t370 t371 20 false t382 t383 w0 _ ?side1 ?side2 A32.out).mono ?_);(case side1 => exact zi0 HI0);(case side2 => exact zj0 HB HI0);rintro e w72 ⟨rfl,hi,hb,hk⟩;replace HO_5:=Aside0.mk (Kd.R_mono (Kd.R_keep (IsS139.apart (show IsS139 w0 _ g s0_0 t370 t371 from zi0 HI0) (by refine zV0 ?_;exact (Kd.R_set HO_5.out BK377.out (by decide) 0 _)) (by decide)) hk (fun _ h => h.2)) (fun _ h => h.1));replace HO_360000:=Aside0.mk (Kd.V_mono (Kd.V_keep (Kd.V_mono (ok:=fun k_ => ((((((P1_0_ k_ ∨ w.heap.size ≤ k_)) ∧ (some k_ ≠ (u5 : Value).ownBlock ∧ (k_ ≠ gb359 ∧ k_ ≠ g))) ∧ k_ ≠ gb372) ∧ some k_ ≠ (.slice Ao67 t373.length co67 : Value).ownBlock) ∧ k_ ≠ gb377)) (by (with_reducible repeat (first | apply Kd.V_alloc | apply Kd.V_drewN | apply Kd.V_drew));exact (Kd.V_mono (Kd.V_far (p:=⟨gb377,0,none⟩) (Kd.V_mono HO_360000.out (fun k_ hk => (⟨hk,hk.2⟩ : _ ∧ k_ ≠ gb377))) (fun _ hk => hk.2) (.slice Ao67 t373.length co67)) (fun _ h_ => h_.1))) (fun k_ hk_ => (⟨hk_,hk_.1.1.1.2.2.2⟩ : _ ∧ k_ ≠ g))) hk (fun _ h => h.2)) (fun _ h => h.1));replace BK359:=zw0 hk BK359 NB359_0;replace BK372:=zw0 hk BK372 NB372_0;replace HO375:=Aside0.mk (Kd.R_mono (Kd.R_keep (IsS139.apart (show IsS139 w0 _ g s0_0 t370 t371 from zi0 HI0) (by refine zV0 ?_;exact (Kd.R_set HO375.out BK377.out (by decide) 0 _)) (by decide)) hk (fun _ h => h.2)) (fun _ h => h.1));replace BK377:=Aside0.mk (KeepBut.blk hk (g':=gb377) (o:=.cells #[.slice Ao67 t373.length co67] 30 (0,0)) (by refine zT0 ?_;refine blk_put (cs:=#[.slice none 0 0]) ?_ 0 _ rfl;exact zK0 BK377.out) NB377_0.out (by simp));replace HK:=zm0 HK hk;replace HB:=Aside0.mk hb;replace HI0:=Aside0.mk hi;(try clear hb);(try clear hk);(try clear hi)))
      go_roundg k1
      case measure => have:=HK1.out;omega
      case rel => exact ⟨(x5_1),(wrap64 (x6_1 + 1)),(t382),(t383),(x360000_1),(.slice Ao64 x360000_1.length co64),zE0,H',⟨by have:=HK1.out;omega⟩,⟨by refine zV0 ?_;exact Kd.R_mono HO_5.out (fun _ hk => hk.1)⟩,⟨by (with_reducible repeat (first | apply Kd.V_alloc | apply Kd.V_drewN | apply Kd.V_drew));exact Kd.V_mono HO_360000.out (fun _ hk => ⟨hk.1.1.1.1,⟨hk.1.1.1.2.1,⟨hk.1.1.1.2.2.1,hk.1.1.1.2.2.2⟩⟩⟩)⟩,⟨zK0 BK359.out⟩,⟨zi0 HI0⟩,⟨zk0 HK⟩,⟨zj0 HB HI0⟩⟩
   ·rw [if_neg c7] at H
    have c7b0 : decide (x6_1 < t363) = false:=decide_eq_false c7
    clear c7
    simp only [Option.some.injEq,Prod.mk.injEq] at H
    obtain ⟨rfl,rfl,rfl⟩:=H
    go_wp2_with (first | ((with_reducible refine gate_callee (f:=72) rfl ?_);refine goesL_ (some 13) rfl rfl Try.func72 (by kernel_rfl) rfl #[.pointer (some ⟨g,0,none⟩),.int .i64 9] rfl zM0 ?_;(with_reducible refine (spec_l01Below.calls g s0_0 x1001_1 x1002_1 9 t363 t364 t365 w0 _ ?side1 ?side2 A6.out).mono ?_);(case side1 => exact zi0 HI0);(case side2 => exact zj0 HB HI0);rintro e w73 ⟨rfl,hi,hb,hk⟩;refine ⟨_,rfl,?_⟩;replace HO_5:=Aside0.mk (Kd.R_mono (Kd.R_keep (IsS139.apart (show IsS139 w0 _ g s0_0 x1001_1 x1002_1 from zi0 HI0) (zR0 HO_5.out) (by decide)) hk (fun _ h => h.2)) (fun _ h => h.1));replace HO_360000:=Aside0.mk (Kd.V_mono (Kd.V_keep (Kd.V_mono (ok:=fun k_ => (((P1_0_ k_ ∨ w.heap.size ≤ k_)) ∧ (some k_ ≠ (u5 : Value).ownBlock ∧ (k_ ≠ gb359 ∧ k_ ≠ g)))) (by (with_reducible repeat (first | apply Kd.V_alloc | apply Kd.V_drewN | apply Kd.V_drew));exact HO_360000.out) (fun k_ hk_ => (⟨hk_,hk_.2.2.2⟩ : _ ∧ k_ ≠ g))) hk (fun _ h => h.2)) (fun _ h => h.1));replace BK359:=zw0 hk BK359 NB359_0;replace HK:=zm0 HK hk;replace HB:=Aside0.mk hb;replace HI0:=Aside0.mk hi;(try clear hb);(try clear hk);(try clear hi)))
    go_ret
    exact ⟨_,zW0,by exact zR0 HO_5.out,zi0 HI0,zj0 HB HI0,zk0 HK⟩

/-! ### spec_l01Place: function 89 -/
def spec_l01Place.f (s0_0 : List Int) (s0_1 : Int) (s0_2 : Int) (a1 : Int) : Option (Int × Int × Int):=(spec_l01Once.f s0_0 s0_1 s0_2 15).bind fun bt387 => (if bt387.1 = true then ((spec_l01PickInt.f s0_0 bt387.2.1 bt387.2.2 (([(-1),a1,wrap64 (a1 + 1),9223372036854775807,(-9223372036854775808)] : List Int))).bind fun bt393 => (some (bt393.1,bt393.2.1,bt393.2.2))) else ((spec_l01Below.f s0_0 bt387.2.1 bt387.2.2 a1).bind fun bt396 => (some (bt396.1,bt396.2.1,bt396.2.2))))
set_option maxHeartbeats 8000000 in
set_option maxRecDepth 100000 in
theorem spec_l01Place.calls (g : Nat) (s0_0 : List Int) (s0_1 : Int) (s0_2 : Int) (a1 : Int) (r1 : Int) (r2 : Int) (r3 : Int) (w0 w : World) (hI : IsS139 w0 w g s0_0 s0_1 s0_2) (hB : Below w0.heap.size w0 w) (h : spec_l01Place.f s0_0 s0_1 s0_2 a1 = some (r1,r2,r3)) :
  Calls Try.prog 89 #[.pointer (some ⟨g,0,none⟩),.int .i64 a1] w fun e w' => e = .returned (.int .i64 r1) ∧ IsS139 w0 w' g s0_0 r2 r3 ∧ Below w0.heap.size w0 w' ∧ KeepBut w w' g none:=by
 have HI0:=Aside0.mk hI
 have HK:=Aside0.mk (KeepBut.refl w g none)
 have HL:=Aside0.mk hB.size
 clear hI
 have HW0:=Aside0.mk hB.size
 have HB:=Aside0.mk hB
 clear hB
 have H : ((spec_l01Once.f s0_0 s0_1 s0_2 15).bind fun bt387 => (if bt387.1 = true then ((spec_l01PickInt.f s0_0 bt387.2.1 bt387.2.2 (([(-1),a1,wrap64 (a1 + 1),9223372036854775807,(-9223372036854775808)] : List Int))).bind fun bt393 => (some (bt393.1,bt393.2.1,bt393.2.2))) else ((spec_l01Below.f s0_0 bt387.2.1 bt387.2.2 a1).bind fun bt396 => (some (bt396.1,bt396.2.1,bt396.2.2))))) = some (r1,r2,r3):=h
 clear h
 obtain ⟨⟨t387,t388,t389⟩,A3,H⟩:=bX0 H
 dsimp only at H
 by_cases c4 : t387 = true
 ·subst c4
  rw [if_pos rfl] at H
  obtain ⟨y390,hy390⟩ : ∃ y_ : List Int,y_ = (([(-1),a1,wrap64 (a1 + 1),9223372036854775807,(-9223372036854775808)] : List Int)):=⟨_,rfl⟩
  replace H : ((spec_l01PickInt.f s0_0 t388 t389 y390).bind fun bt393 => (some (bt393.1,bt393.2.1,bt393.2.2))) = some (r1,r2,r3):=by first | (rw [hy390];with_reducible exact H) | (have H2_:=(Option.bind_some _ _).symm.trans H;rw [hy390];with_reducible exact H2_) | (have H2_:=(Option.bind_some _ _).symm.trans H;with_reducible exact H2_) | with_reducible exact H | (rw [hy390];exact H) | exact H
  have Ny390:=Aside0.mk hy390
  clear hy390
  obtain ⟨⟨t393,t394,t395⟩,A5,H⟩:=bX0 H
  dsimp only at H
  simp only [Option.some.injEq,Prod.mk.injEq] at H
  obtain ⟨rfl,rfl,rfl⟩:=H
  go_enter Try.func89,Try.ntmps89
  go_wp2_with (first | ((with_reducible refine gate_callee (f:=120) rfl ?_);refine goesL_ (some 6) rfl rfl Try.func120 (by kernel_rfl) rfl #[.pointer (some ⟨g,0,none⟩),.int .i64 15] rfl zM0 ?_;(with_reducible refine (spec_l01Once.calls g s0_0 s0_1 s0_2 15 true t388 t389 w0 _ ?side1 ?side2 A3.out).mono ?_);(case side1 => exact zi0 HI0);(case side2 => exact zj0 HB HI0);rintro e w6 ⟨rfl,hi,hb,hk⟩;refine ⟨_,rfl,?_⟩;replace HK:=zm0 HK hk;replace HB:=Aside0.mk hb;replace HI0:=Aside0.mk hi;(try clear hb);(try clear hk);(try clear hi)) | ((with_reducible refine gate_dst (N:=11) rfl ?_);refine Kd.R_lit (Kd.int .i64) _ 3 ?hg (N:=11) ?hd (xs:=([(-1),a1,wrap64 (a1 + 1),9223372036854775807,(-9223372036854775808)] : List Int)) (inner:=[.int .i64 (-1),.int .i64 a1,.int .i64 (wrap64 (a1 + 1)),.int .i64 9223372036854775807,.int .i64 (-9223372036854775808)]) (ok:=fun _ => True) (okp:=fun _ => True) ?hr ?hp (fun _ hk => hk) trivial (Below.refl _ _) (Nat.le_refl _) (by simp) ?_;(case hd => rfl);(case hg => rfl);(case hr => first | (go_simp;done) | (go_simp;rfl));(case hp => exact (Reps.one (show Kd.M (Kd.int .i64) _ _ _ (-1) [.int .i64 (-1)] from rfl) (Reps.one (show Kd.M (Kd.int .i64) _ _ _ a1 [.int .i64 a1] from rfl) (Reps.one (show Kd.M (Kd.int .i64) _ _ _ (wrap64 (a1 + 1)) [.int .i64 (wrap64 (a1 + 1))] from rfl) (Reps.one (show Kd.M (Kd.int .i64) _ _ _ 9223372036854775807 [.int .i64 9223372036854775807] from rfl) (Reps.one (show Kd.M (Kd.int .i64) _ _ _ (-9223372036854775808) [.int .i64 (-9223372036854775808)] from rfl) (Reps.none _ _)))))));intro v391 w7 ho8 hb hg_ hnew_;clear hg_ hnew_;(first | rw [← Ny390.out] at ho8 | (simp only [Int.reduceToNat] at ho8;rw [← Ny390.out] at ho8));have HO392:=Aside0.mk (Kd.R_lower ho8 (keep_size (w:=w) (g:=g) (row:=none) (zk0 HK)));replace HK:=Aside0.mk (KeepBut.trans (zk0 HK) (KeepBut.of_below hb g none) (.inl rfl));replace HB:=Aside0.mk (below_step (zj0 HB HI0) hb);replace HI0:=Aside0.mk (IsS139.below (zi0 HI0) hb);clear hb ho8;obtain ⟨Ao9,co9,eo9⟩:=Kd.R_slice HO392.out;subst eo9) | ((with_reducible refine gate_callee (f:=116) rfl ?_);refine goesL_ (some 12) rfl rfl Try.func116 (by kernel_rfl) rfl #[.pointer (some ⟨g,0,none⟩),.slice Ao9 y390.length co9] rfl zM0 ?_;(with_reducible refine (spec_l01PickInt.calls g s0_0 t388 t389 _ _ y390 t393 t394 t395 w0 _ ?side1 ?side2 ?side3 ?side4 ?side5 A5.out).mono ?_);(case side1 => exact zi0 HI0);(case side2 => exact zj0 HB HI0);(case side3 => exact zA0 ((Kd.R_reads' HO392.out).2.2));(case side4 => exact (Kd.R_reads' HO392.out).2.1);(case side5 => exact far_slice (IsS139.own_ne HI0.out HO392.out (by decide)));rintro e w10 ⟨rfl,hi,hb,hk⟩;refine ⟨_,rfl,?_⟩;replace HO392:=Aside0.mk (Kd.R_mono (Kd.R_keep (IsS139.apart (show IsS139 w0 _ g s0_0 t388 t389 from zi0 HI0) (zR0 HO392.out) (by decide)) hk (fun _ h => h.2)) (fun _ h => h.1));replace HK:=zm0 HK hk;replace HB:=Aside0.mk hb;replace HI0:=Aside0.mk hi;(try clear hb);(try clear hk);(try clear hi)))
  go_ret
  exact ⟨zW0,zi0 HI0,zj0 HB HI0,zk0 HK⟩
 ·replace c4:=Bool.eq_false_iff.mpr c4
  subst c4
  rw [if_neg (show ¬ (false = true) by decide)] at H
  obtain ⟨⟨t396,t397,t398⟩,A11,H⟩:=bX0 H
  dsimp only at H
  simp only [Option.some.injEq,Prod.mk.injEq] at H
  obtain ⟨rfl,rfl,rfl⟩:=H
  go_enter Try.func89,Try.ntmps89
  go_wp2_with (first | ((with_reducible refine gate_callee (f:=120) rfl ?_);refine goesL_ (some 6) rfl rfl Try.func120 (by kernel_rfl) rfl #[.pointer (some ⟨g,0,none⟩),.int .i64 15] rfl zM0 ?_;(with_reducible refine (spec_l01Once.calls g s0_0 s0_1 s0_2 15 false t388 t389 w0 _ ?side1 ?side2 A3.out).mono ?_);(case side1 => exact zi0 HI0);(case side2 => exact zj0 HB HI0);rintro e w12 ⟨rfl,hi,hb,hk⟩;refine ⟨_,rfl,?_⟩;replace HK:=zm0 HK hk;replace HB:=Aside0.mk hb;replace HI0:=Aside0.mk hi;(try clear hb);(try clear hk);(try clear hi)) | ((with_reducible refine gate_callee (f:=72) rfl ?_);refine goesL_ (some 15) rfl rfl Try.func72 (by kernel_rfl) rfl #[.pointer (some ⟨g,0,none⟩),.int .i64 a1] rfl zM0 ?_;(with_reducible refine (spec_l01Below.calls g s0_0 t388 t389 a1 t396 t397 t398 w0 _ ?side1 ?side2 A11.out).mono ?_);(case side1 => exact zi0 HI0);(case side2 => exact zj0 HB HI0);rintro e w13 ⟨rfl,hi,hb,hk⟩;refine ⟨_,rfl,?_⟩;replace HK:=zm0 HK hk;replace HB:=Aside0.mk hb;replace HI0:=Aside0.mk hi;(try clear hb);(try clear hk);(try clear hi)))
  go_ret
  exact ⟨zW0,zi0 HI0,zj0 HB HI0,zk0 HK⟩

/-! ### spec_l03Left: function 90 -/
def spec_l03Left.l0 : Nat → List Int → Int → List Int → Int → Int → Option (List Int × Int × Int)
 | 0,_,_,_,_,_ => none
 | k + 1,x3,x4,x1000,x1001,x1002 => (spec_l01Below.f x1000 x1001 x1002 6).bind fun bt402 => (if x4 < bt402.1 then ((spec_l01PickInt.f x1000 bt402.2.1 bt402.2.2 (([0,1,2,3,5,9,40,200,(-1),9223372036854775807] : List Int))).bind fun bt408 => (if x3.length < 17592186044416 then (spec_l03Left.l0 k (x3 ++ [bt408.1]) (wrap64 (x4 + 1)) x1000 bt408.2.1 bt408.2.2) else (none))) else (some (x3,bt402.2.1,bt402.2.2)))
def spec_l03Left.f (k : Nat) (s0_0 : List Int) (s0_1 : Int) (s0_2 : Int) : Option (List Int × Int × Int):=spec_l03Left.l0 k (([] : List Int)) 0 s0_0 s0_1 s0_2
theorem spec_l03Left.mono_l : ∀ k,(∀ y0 y1 y2 y3 y4,LeO (spec_l03Left.l0 k y0 y1 y2 y3 y4) (spec_l03Left.l0 (k + 1) y0 y1 y2 y3 y4))
 | 0 => fun _ _ _ _ _ r h => by simp [spec_l03Left.l0] at h
 | k + 1 => by
  have ih0:=spec_l03Left.mono_l k
  ·intro y0 y1 y2 y3 y4
   unfold spec_l03Left.l0
   repeat' first
  | (with_reducible exact ih0 _ _ _ _ _)
  | (with_reducible exact LeO.refl _)
  | (with_reducible exact LeO.none _)
  | (with_reducible refine LeO.ite ?_ ?_)
  | (with_reducible refine LeO.bind ?_ (fun _ => ?_))
theorem spec_l03Left.mono : ∀ a0 a1 a2 k,LeO (spec_l03Left.f k a0 a1 a2) (spec_l03Left.f (k + 1) a0 a1 a2):=by
 intro a0 a1 a2 k
 have ih0:=spec_l03Left.mono_l k
 unfold spec_l03Left.f
 repeat' first
  | (with_reducible exact ih0 _ _ _ _ _)
  | (with_reducible exact LeO.refl _)
  | (with_reducible exact LeO.none _)
  | (with_reducible refine LeO.ite ?_ ?_)
  | (with_reducible refine LeO.bind ?_ (fun _ => ?_))
set_option maxHeartbeats 8000000 in
set_option maxRecDepth 100000 in
theorem spec_l03Left.calls (k : Nat) (g : Nat) (s0_0 : List Int) (s0_1 : Int) (s0_2 : Int) (r1 : List Int) (r2 : Int) (r3 : Int) (w0 w : World) (hI : IsS139 w0 w g s0_0 s0_1 s0_2) (hB : Below w0.heap.size w0 w) (h : spec_l03Left.f k s0_0 s0_1 s0_2 = some (r1,r2,r3)) :
  Calls Try.prog 90 #[.pointer (some ⟨g,0,none⟩)] w fun e w' => ∃ v0_ : Value,e = .returned (v0_) ∧ Kd.R (Kd.int .i64) 3 w' w.heap.size (fun _ => True) v0_ r1 ∧ IsS139 w0 w' g s0_0 r2 r3 ∧ Below w0.heap.size w0 w' ∧ KeepBut w w' g none:=by
 have HI0:=Aside0.mk hI
 have HK:=Aside0.mk (KeepBut.refl w g none)
 have HL:=Aside0.mk hB.size
 clear hI
 have HW0:=Aside0.mk hB.size
 have HB:=Aside0.mk hB
 clear hB
 have H : (spec_l03Left.l0 k (([] : List Int)) 0 s0_0 s0_1 s0_2) = some (r1,r2,r3):=h
 clear h
 obtain ⟨y399,hy399⟩ : ∃ y_ : List Int,y_ = (([] : List Int)):=⟨_,rfl⟩
 replace H : (spec_l03Left.l0 k y399 0 s0_0 s0_1 s0_2) = some (r1,r2,r3):=by first | (rw [hy399];with_reducible exact H) | (have H2_:=(Option.bind_some _ _).symm.trans H;rw [hy399];with_reducible exact H2_) | (have H2_:=(Option.bind_some _ _).symm.trans H;with_reducible exact H2_) | with_reducible exact H | (rw [hy399];exact H) | exact H
 have Ny399:=Aside0.mk hy399
 clear hy399
 have H':=Aside0.mk H
 clear H
 go_enter Try.func90,Try.ntmps90
 go_wp2_with (first | ((with_reducible refine gate_dst (N:=5) rfl ?_);refine Kd.R_lit (Kd.int .i64) _ 3 ?hg (N:=5) ?hd (xs:=([] : List Int)) (inner:=[]) (ok:=fun _ => True) (okp:=fun _ => True) ?hr ?hp (fun _ hk => hk) trivial (Below.refl _ _) (Nat.le_refl _) (by simp) ?_;(case hd => rfl);(case hg => rfl);(case hr => first | (go_simp;done) | (go_simp;rfl));(case hp => exact (Reps.none _ _));intro v400 w2 ho3 hb hg_ hnew_;clear hg_ hnew_;(first | rw [← Ny399.out] at ho3 | (simp only [Int.reduceToNat] at ho3;rw [← Ny399.out] at ho3));have HO401:=Aside0.mk (Kd.R_lower ho3 (keep_size (w:=w) (g:=g) (row:=none) (zk0 HK)));replace HK:=Aside0.mk (KeepBut.trans (zk0 HK) (KeepBut.of_below hb g none) (.inl rfl));replace HB:=Aside0.mk (below_step (zj0 HB HI0) hb);replace HI0:=Aside0.mk (IsS139.below (zi0 HI0) hb);clear hb ho3))
 go_loopg [3,4] k (fun kq v3 v4 w' => ∃ (x3_1 : List Int) (x4_1 : Int) (x1001_1 : Int) (x1002_1 : Int),v4 = .int .i64 x4_1 ∧ Aside0 (spec_l03Left.l0 kq x3_1 x4_1 s0_0 x1001_1 x1002_1 = some (r1,r2,r3)) ∧ Aside0 (kq ≤ k) ∧ Aside0 (Kd.R (Kd.int .i64) 3 w' w.heap.size (fun _ => True) v3 x3_1) ∧ Aside0 (IsS139 w0 w' g s0_0 x1001_1 x1002_1) ∧ Aside0 (KeepBut w w' g none) ∧ Aside0 (Below w0.heap.size w0 w'))
 case atStart => exact ⟨(y399),(0),(s0_1),(s0_2),zE0,H',⟨Nat.le_refl _⟩,⟨zR0 HO401.out⟩,⟨zi0 HI0⟩,⟨zk0 HK⟩,⟨zj0 HB HI0⟩⟩
 case round =>
  clear H'
  obtain ⟨x3_1,x4_1,x1001_1,x1002_1,rfl,HA,HK1,HO_3,HI0,HK,HB⟩:=hrel
  cases gk with
  | zero => exact absurd HA.out (by simp [spec_l03Left.l0])
  | succ k1 =>
   have H:=HA.out
   clear HA
   simp only [spec_l03Left.l0] at H
   obtain ⟨⟨t402,t403,t404⟩,A4,H⟩:=bX0 H
   dsimp only at H
   by_cases c5 : x4_1 < t402
   ·rw [if_pos c5] at H
    have c5b0 : decide (x4_1 < t402) = true:=decide_eq_true c5
    clear c5
    obtain ⟨y405,hy405⟩ : ∃ y_ : List Int,y_ = (([0,1,2,3,5,9,40,200,(-1),9223372036854775807] : List Int)):=⟨_,rfl⟩
    replace H : ((spec_l01PickInt.f s0_0 t403 t404 y405).bind fun bt408 => (if x3_1.length < 17592186044416 then (spec_l03Left.l0 k1 (x3_1 ++ [bt408.1]) (wrap64 (x4_1 + 1)) s0_0 bt408.2.1 bt408.2.2) else (none))) = some (r1,r2,r3):=by first | (rw [hy405];with_reducible exact H) | (have H2_:=(Option.bind_some _ _).symm.trans H;rw [hy405];with_reducible exact H2_) | (have H2_:=(Option.bind_some _ _).symm.trans H;with_reducible exact H2_) | with_reducible exact H | (rw [hy405];exact H) | exact H
    have Ny405:=Aside0.mk hy405
    clear hy405
    obtain ⟨⟨t408,t409,t410⟩,A6,H⟩:=bX0 H
    dsimp only at H
    by_cases c7 : x3_1.length < 17592186044416
    ·rw [if_pos c7] at H
     have LMc7:=Aside0.mk c7
     clear c7
     obtain ⟨y411,hy411⟩ : ∃ y_ : List Int,y_ = (x3_1 ++ [t408]):=⟨_,rfl⟩
     replace H : (spec_l03Left.l0 k1 y411 (wrap64 (x4_1 + 1)) s0_0 t409 t410) = some (r1,r2,r3):=by first | (rw [hy411];with_reducible exact H) | (have H2_:=(Option.bind_some _ _).symm.trans H;rw [hy411];with_reducible exact H2_) | (have H2_:=(Option.bind_some _ _).symm.trans H;with_reducible exact H2_) | with_reducible exact H | (rw [hy411];exact H) | exact H
     have Ny411:=Aside0.mk hy411
     clear hy411
     have H':=Aside0.mk H
     clear H
     go_wp2_with (first | ((with_reducible refine gate_callee (f:=72) rfl ?_);refine goesL_ (some 8) rfl rfl Try.func72 (by kernel_rfl) rfl #[.pointer (some ⟨g,0,none⟩),.int .i64 6] rfl zM0 ?_;(with_reducible refine (spec_l01Below.calls g s0_0 x1001_1 x1002_1 6 t402 t403 t404 w0 _ ?side1 ?side2 A4.out).mono ?_);(case side1 => exact zi0 HI0);(case side2 => exact zj0 HB HI0);rintro e w8 ⟨rfl,hi,hb,hk⟩;refine ⟨_,rfl,?_⟩;replace HO_3:=Aside0.mk (Kd.R_mono (Kd.R_keep (IsS139.apart (show IsS139 w0 _ g s0_0 x1001_1 x1002_1 from zi0 HI0) (zR0 HO_3.out) (by decide)) hk (fun _ h => h.2)) (fun _ h => h.1));replace HK:=zm0 HK hk;replace HB:=Aside0.mk hb;replace HI0:=Aside0.mk hi;(try clear hb);(try clear hk);(try clear hi)) | ((with_reducible refine gate_dst (N:=14) rfl ?_);refine Kd.R_lit (Kd.int .i64) _ 3 ?hg (N:=14) ?hd (xs:=([0,1,2,3,5,9,40,200,(-1),9223372036854775807] : List Int)) (inner:=[.int .i64 0,.int .i64 1,.int .i64 2,.int .i64 3,.int .i64 5,.int .i64 9,.int .i64 40,.int .i64 200,.int .i64 (-1),.int .i64 9223372036854775807]) (ok:=fun _ => True) (okp:=fun _ => True) ?hr ?hp (fun _ hk => hk) trivial (Below.refl _ _) (Nat.le_refl _) (by simp) ?_;(case hd => rfl);(case hg => rfl);(case hr => first | (go_simp;done) | (go_simp;rfl));(case hp => exact (Reps.one (show Kd.M (Kd.int .i64) _ _ _ 0 [.int .i64 0] from rfl) (Reps.one (show Kd.M (Kd.int .i64) _ _ _ 1 [.int .i64 1] from rfl) (Reps.one (show Kd.M (Kd.int .i64) _ _ _ 2 [.int .i64 2] from rfl) (Reps.one (show Kd.M (Kd.int .i64) _ _ _ 3 [.int .i64 3] from rfl) (Reps.one (show Kd.M (Kd.int .i64) _ _ _ 5 [.int .i64 5] from rfl) (Reps.one (show Kd.M (Kd.int .i64) _ _ _ 9 [.int .i64 9] from rfl) (Reps.one (show Kd.M (Kd.int .i64) _ _ _ 40 [.int .i64 40] from rfl) (Reps.one (show Kd.M (Kd.int .i64) _ _ _ 200 [.int .i64 200] from rfl) (Reps.one (show Kd.M (Kd.int .i64) _ _ _ (-1) [.int .i64 (-1)] from rfl) (Reps.one (show Kd.M (Kd.int .i64) _ _ _ 9223372036854775807 [.int .i64 9223372036854775807] from rfl) (Reps.none _ _))))))))))));intro v406 w9 ho10 hb hg_ hnew_;clear hg_ hnew_;(first | rw [← Ny405.out] at ho10 | (simp only [Int.reduceToNat] at ho10;rw [← Ny405.out] at ho10));have HO407:=Aside0.mk (Kd.R_lower (Kd.R_new' ho10 (Kd.R_lt (zR0 HO_3.out))) (keep_size (w:=w) (g:=g) (row:=none) (zk0 HK)));replace HO_3:=Aside0.mk (Kd.R_elder' (zR0 HO_3.out) (Kd.R_base ho10) hb);replace HK:=Aside0.mk (KeepBut.trans (zk0 HK) (KeepBut.of_below hb g none) (.inl rfl));replace HB:=Aside0.mk (below_step (zj0 HB HI0) hb);replace HI0:=Aside0.mk (IsS139.below (zi0 HI0) hb);clear hb ho10;obtain ⟨Ao11,co11,eo11⟩:=Kd.R_slice HO407.out;subst eo11) | ((with_reducible refine gate_callee (f:=116) rfl ?_);refine goesL_ (some 15) rfl rfl Try.func116 (by kernel_rfl) rfl #[.pointer (some ⟨g,0,none⟩),.slice Ao11 y405.length co11] rfl zM0 ?_;(with_reducible refine (spec_l01PickInt.calls g s0_0 t403 t404 _ _ y405 t408 t409 t410 w0 _ ?side1 ?side2 ?side3 ?side4 ?side5 A6.out).mono ?_);(case side1 => exact zi0 HI0);(case side2 => exact zj0 HB HI0);(case side3 => exact zA0 ((Kd.R_reads' HO407.out).2.2));(case side4 => exact (Kd.R_reads' HO407.out).2.1);(case side5 => exact far_slice (IsS139.own_ne HI0.out HO407.out (by decide)));rintro e w12 ⟨rfl,hi,hb,hk⟩;refine ⟨_,rfl,?_⟩;replace HO_3:=Aside0.mk (Kd.R_mono (Kd.R_keep (IsS139.apart (show IsS139 w0 _ g s0_0 t403 t404 from zi0 HI0) (zR0 HO_3.out) (by decide)) hk (fun _ h => h.2)) (fun _ h => h.1));replace HO407:=Aside0.mk (Kd.R_mono (Kd.R_keep (IsS139.apart (show IsS139 w0 _ g s0_0 t403 t404 from zi0 HI0) (zR0 HO407.out) (by decide)) hk (fun _ h => h.2)) (fun _ h => h.1));replace HK:=zm0 HK hk;replace HB:=Aside0.mk hb;replace HI0:=Aside0.mk hi;(try clear hb);(try clear hk);(try clear hi)) | ((with_reducible refine gate_builtin (b:=.append) (xs:=#[.tmp 12,.tmp 16]) rfl ?_);at_builtin;refine Kd.R_append (Kd.int .i64) w.heap.size rfl (.tmp 12) (.tmp 16) 39 3 (.int .i64 0) 8 rfl Try.underlying39 info3 rfl (by decide) (by omega) u3 x3_1 t408 [.int .i64 t408] (fun k_ => some k_ ≠ (.slice Ao11 y405.length co11 : Value).ownBlock) (fun _ => False) rfl rfl ?aP (fun _ hk => hk.elim) ?aF ?aO (Below.refl _ _) ?aS ?aL ?_;(case aP => exact rfl);(case aF => exact (fun k_ hk => Kd.fresh' (Kd.R_lt (zR0 HO407.out)) k_ hk));(case aO => exact (by refine zV0 ?_;exact Kd.R_mono HO_3.out (fun _ hk => hk.2)));(case aS => exact (keep_size (w:=w) (g:=g) (row:=none) (zk0 HK)));(case aL => have:=LMc7.out;omega);intro v412 w13 ho hb hg hat;rw [← Ny411.out] at ho;replace HO407:=Aside0.mk (Kd.R_after (ok:=(fun _ => True)) (zR0 HO407.out) hg hat);replace HB:=Aside0.mk (below_weaken (zj0 HB HI0) HL.out hb);replace HI0:=Aside0.mk (IsS139.grown (zi0 HI0) hg (IsS139.own_ne HI0.out HO_3.out (by decide)));replace HK:=Aside0.mk (KeepBut.trans (zk0 HK) (KeepBut.of_grown hg g) (Kd.R_base2 HO_3.out));have HO413:=Aside0.mk ho;clear HO_3;clear ho hb hg hat))
     go_roundg k1
     case measure => have:=HK1.out;omega
     case rel => exact ⟨(y411),(wrap64 (x4_1 + 1)),(t409),(t410),zE0,H',⟨by have:=HK1.out;omega⟩,⟨by refine zV0 ?_;exact Kd.R_mono HO413.out (fun _ hk => trivial)⟩,⟨zi0 HI0⟩,⟨zk0 HK⟩,⟨zj0 HB HI0⟩⟩
    ·rw [if_neg c7] at H
     exact absurd H (by simp)
   ·rw [if_neg c5] at H
    have c5b0 : decide (x4_1 < t402) = false:=decide_eq_false c5
    clear c5
    simp only [Option.some.injEq,Prod.mk.injEq] at H
    obtain ⟨rfl,rfl,rfl⟩:=H
    go_wp2_with (first | ((with_reducible refine gate_callee (f:=72) rfl ?_);refine goesL_ (some 8) rfl rfl Try.func72 (by kernel_rfl) rfl #[.pointer (some ⟨g,0,none⟩),.int .i64 6] rfl zM0 ?_;(with_reducible refine (spec_l01Below.calls g s0_0 x1001_1 x1002_1 6 t402 t403 t404 w0 _ ?side1 ?side2 A4.out).mono ?_);(case side1 => exact zi0 HI0);(case side2 => exact zj0 HB HI0);rintro e w14 ⟨rfl,hi,hb,hk⟩;refine ⟨_,rfl,?_⟩;replace HO_3:=Aside0.mk (Kd.R_mono (Kd.R_keep (IsS139.apart (show IsS139 w0 _ g s0_0 x1001_1 x1002_1 from zi0 HI0) (zR0 HO_3.out) (by decide)) hk (fun _ h => h.2)) (fun _ h => h.1));replace HK:=zm0 HK hk;replace HB:=Aside0.mk hb;replace HI0:=Aside0.mk hi;(try clear hb);(try clear hk);(try clear hi)))
    go_ret
    exact ⟨_,zW0,by exact zR0 HO_3.out,zi0 HI0,zj0 HB HI0,zk0 HK⟩

/-! ### spec_DrawCutActs: function 45 -/
def spec_DrawCutActs.f (k : Nat) (l0 : List Int) : Option ((List (S45)) × (List (S55)) × Int × List Int):=(spec_l01New.f k l0).bind fun bt415 => ((spec_l03Disk.f k bt415.1 bt415.2.1 bt415.2.2).bind fun bt419 => ((spec_l03Acts.f k bt415.1 bt419.2.1 bt419.2.2 bt419.1).bind fun bt425 => ((spec_l01Place.f bt415.1 bt425.2.1 bt425.2.2 (wrap64 ((bt425.1.length : Int) + 1))).bind fun bt430 => ((spec_l03Left.f k bt415.1 bt430.2.1 bt430.2.2).bind fun bt433 => (some (bt419.1,bt425.1,bt430.1,bt433.1))))))
theorem spec_DrawCutActs.mono : ∀ a0 k,LeO (spec_DrawCutActs.f k a0) (spec_DrawCutActs.f (k + 1) a0):=by
 intro a0 k
 unfold spec_DrawCutActs.f
 repeat' first
  | (with_reducible exact spec_l01New.mono _ _)
  | (with_reducible exact spec_l03Acts.mono _ _ _ _ _)
  | (with_reducible exact spec_l03Disk.mono _ _ _ _)
  | (with_reducible exact spec_l03Left.mono _ _ _ _)
  | (with_reducible exact LeO.refl _)
  | (with_reducible exact LeO.none _)
  | (with_reducible refine LeO.ite ?_ ?_)
  | (with_reducible refine LeO.bind ?_ (fun _ => ?_))
def spec_DrawCutActs.T4 : Bool × List (List Nat × List Nat):=(true,[([],[]),([],[]),([],[]),([],[]),([3],[3]),([4],[4]),([2,5],[2,5]),([],[]),([7,6],[7]),([0,8,0],[0]),([1,9,0,1,9],[1]),([6,10,0,1,2,3,4,5,6,9,10],[6]),([8,11,0,1,2,3,4,5,6,7,8,9,10,11],[8])])
def spec_DrawCutActs.B4 : List Nat:=[0,0,0,0,8,24,60,0,252,509,1023,2047,4095]
theorem spec_DrawCutActs.tab4 : rtab .any (opsOf Try.f45 4) = spec_DrawCutActs.T4:=by kernel_rfl
theorem spec_DrawCutActs.bits4 : waitsOk spec_DrawCutActs.T4.2 spec_DrawCutActs.B4 = true:=by kernel_rfl
set_option maxHeartbeats 8000000 in
set_option maxRecDepth 100000 in
theorem spec_DrawCutActs.calls (k : Nat) (A0 : Option Addr) (c0 : Nat) (l0 : List Int) (r1 : List (S45)) (r2 : List (S55)) (r3 : Int) (r4 : List Int) (w : World) (hr0 : Kd.C (Kd.int .u8) w A0 l0.length l0) (hc0 : l0.length ≤ c0) (h : spec_DrawCutActs.f k l0 = some (r1,r2,r3,r4)) :
  Calls Try.prog 45 #[.slice A0 l0.length c0] w fun e w' => ∃ v0_ v1_ v3_ : Value,e = .returned (.tuple #[.agg #[v0_],v1_,.int .i64 r3,v3_]) ∧ Kd.R k45 45 w' w.heap.size (fun _ => True) v0_ r1 ∧ Kd.R k55 55 w' w.heap.size (fun _ => True) v1_ r2 ∧ Kd.R (Kd.int .i64) 3 w' w.heap.size (fun _ => True) v3_ r4 ∧ Below w.heap.size w w':=by
 have hu30:=Try.underlying30
 have HR0:=Aside0.mk hr0
 have HC0:=Aside0.mk hc0
 clear hr0 hc0
 have HB:=Aside0.mk (Below.refl w.heap.size w)
 have H : ((spec_l01New.f k l0).bind fun bt415 => ((spec_l03Disk.f k bt415.1 bt415.2.1 bt415.2.2).bind fun bt419 => ((spec_l03Acts.f k bt415.1 bt419.2.1 bt419.2.2 bt419.1).bind fun bt425 => ((spec_l01Place.f bt415.1 bt425.2.1 bt425.2.2 (wrap64 ((bt425.1.length : Int) + 1))).bind fun bt430 => ((spec_l03Left.f k bt415.1 bt430.2.1 bt430.2.2).bind fun bt433 => (some (bt419.1,bt425.1,bt430.1,bt433.1))))))) = some (r1,r2,r3,r4):=h
 clear h
 obtain ⟨⟨t415,t416,t417⟩,A2,H⟩:=bX0 H
 dsimp only at H
 obtain ⟨⟨t419,t422,t423⟩,A3,H⟩:=bX0 H
 dsimp only at H
 obtain ⟨⟨t425,t428,t429⟩,A4,H⟩:=bX0 H
 dsimp only at H
 obtain ⟨⟨t430,t431,t432⟩,A5,H⟩:=bX0 H
 dsimp only at H
 obtain ⟨⟨t433,t436,t437⟩,A6,H⟩:=bX0 H
 dsimp only at H
 simp only [Option.some.injEq,Prod.mk.injEq] at H
 obtain ⟨rfl,rfl,rfl,rfl⟩:=H
 go_enter Try.func45,Try.ntmps45
 try go_wp2_with (first | ((with_reducible refine gate_dst (N:=2) rfl ?_);refine zy0 (cs:=#[.slice none 0 0]) (t:=30) ?_;intro gb414 hg w7 hbox hb;have BK414:=Aside0.mk hbox;have GW414:=zz0 hg HB;have GE414:=zz0 hg HB;replace HB:=zs0 HB hb;clear hb hbox hg) | ((with_reducible refine gate_callee (f:=71) rfl ?_);refine goesL_ (some 10) rfl rfl Try.func71 (by kernel_rfl) rfl #[.slice A0 l0.length c0] rfl zM0 ?_;(with_reducible refine (spec_l01New.calls k _ _ l0 t415 t416 t417 w _ ?side1 ?side2 ?side3 A2.out).mono ?_);(case side1 => repeat (first | (with_reducible first | exact HB.out | apply below_alloc | apply pw_below_drewN | apply below_drew1 | refine below_set ?_ GE414.out) | exact HB.out));(case side2 => exact HR0.out);(case side3 => exact HC0.out);rintro e w8 ⟨g418,rfl,hi,hb,hb2⟩;refine ⟨_,rfl,?_⟩;replace HB:=Aside0.mk hb;have HI418:=Aside0.mk hi;have NB418_414:=Aside0.mk (IsS139.ne_blk hi (zB0 BK414.out hb2) (by decide));have NB414_418:=Aside0.mk (Ne.symm (IsS139.ne_blk hi (zB0 BK414.out hb2) (by decide)));replace BK414:=Aside0.mk (zB0 BK414.out hb2);(try clear hb);(try clear hb2);(try clear hi)) | ((with_reducible refine gate_callee (f:=87) rfl ?_);refine goesL_ (some 12) rfl rfl Try.func87 (by kernel_rfl) rfl #[.pointer (some ⟨g418,0,none⟩)] rfl zM0 ?_;(with_reducible refine (spec_l03Disk.calls k g418 t415 t416 t417 t419 t422 t423 w _ ?side1 ?side2 A3.out).mono ?_);(case side1 => exact zi0 HI418);(case side2 => exact zj0 HB HI418);rintro e w9 ⟨v420,rfl,ho0,hi,hb,hk⟩;refine ⟨_,rfl,?_⟩;replace BK414:=zw0 hk BK414 NB414_418;have HO421:=Aside0.mk (Kd.R_lower ho0 (below_size (zj0 HB HI418)));replace HB:=Aside0.mk hb;replace HI418:=Aside0.mk hi;(try clear hb);(try clear hb2);(try clear hk);(try clear hi);(try clear ho0)) | ((with_reducible refine gate_dst (N:=7) rfl ?_);refine zy0 (cs:=#[.slice none 0 0]) (t:=30) ?_;intro gb424 hg w10 hbox hb;replace HO421:=Aside0.mk (Kd.R_below (zR0 HO421.out) hb);have BK424:=Aside0.mk hbox;have GW424:=Aside0.mk ((by rw [hg];exact (below_size (zj0 HB HI418)) : w.heap.size ≤ gb424));have GE424:=Aside0.mk ((by rw [hg];exact (below_size (zj0 HB HI418)) : w.heap.size ≤ gb424));replace HB:=Aside0.mk (below_step (zj0 HB HI418) hb);have NB414_424:=zl0 hg BK414;have NB424_414:=zg0 hg BK414;replace BK414:=zb0 BK414 hb;have NB418_424:=Aside0.mk ((by rw [hg];exact Nat.ne_of_lt (IsS139.lt (show IsS139 w _ g418 t415 t422 t423 from zi0 HI418)) : g418 ≠ gb424));have NB424_418:=Aside0.mk ((by rw [hg];exact Nat.ne_of_gt (IsS139.lt (show IsS139 w _ g418 t415 t422 t423 from zi0 HI418)) : gb424 ≠ g418));replace HI418:=Aside0.mk (IsS139.below (zi0 HI418) hb);clear hb hbox hg;obtain ⟨Ao11,co11,eo11⟩:=Kd.R_slice HO421.out;subst eo11;obtain ⟨_,_⟩:=zn0 NB424_414;obtain ⟨_,_⟩:=zn0 NB424_418;obtain ⟨_,_⟩:=zd01 BK424) | ((with_reducible refine gate_store (t:=30) (p:=7) rfl ?_);refine store_event (t:=30) (p:=7) (v:=?vo_w15) (w1:=(w10.setCell ⟨gb424,0,none⟩ (.slice Ao11 t419.length co11))) ?hg ?ho ?hn ?hr ?_;(case ho => rfl);(case hg => rfl);(case hn => rfl);(case hr => first | (go_simp;done) | (go_simp;rfl));intro w15 hw;replace HO421 : Aside0 (Kd.R k45 45 w15 w.heap.size (fun _ => True) (.slice Ao11 t419.length co11) t419):=⟨(by rw [hw];exact (by refine zV0 ?_;exact Kd.R_mono (Kd.R_far (p:=⟨gb424,0,none⟩) (Kd.R_types HO421.out BK424.out (by decide)) (fun _ hk => hk.2) (.slice Ao11 t419.length co11)) (fun _ hk => trivial)))⟩;replace BK414 : Aside0 (w15.heap[gb414]? = some (.cells #[.slice none 0 0] 30 (0,0))):=⟨(by rw [hw];exact (zK0 BK414.out))⟩;replace BK424 : Aside0 (w15.heap[gb424]? = some (.cells #[.slice Ao11 t419.length co11] 30 (0,0))):=⟨(by rw [hw];exact (by refine zT0 ?_;refine blk_put (cs:=#[.slice none 0 0]) ?_ 0 _ rfl;exact zK0 BK424.out))⟩;replace HB : Aside0 (Below w.heap.size w w15):=⟨(by rw [hw];exact (zj0 HB HI418))⟩;replace HI418 : Aside0 (IsS139 w w15 g418 t415 t422 t423):=⟨(by rw [hw];exact (zi0 HI418))⟩;clear hw;obtain ⟨_,_⟩:=zd01 BK424) | ((with_reducible refine gate_callee (f:=88) rfl ?_);refine goesL_ (some 15) rfl rfl Try.func88 (by kernel_rfl) rfl #[.pointer (some ⟨g418,0,none⟩),.agg #[.slice Ao11 t419.length co11]] rfl zM0 ?_;(with_reducible refine (spec_l03Acts.calls k g418 t415 t422 t423 (fun k_ => some k_ = (.slice Ao11 t419.length co11 : Value).ownBlock) _ _ t419 t425 t428 t429 w _ ?side1 ?side2 ?side3 A4.out).mono ?_);(case side1 => exact zi0 HI418);(case side2 => exact zj0 HB HI418);(case side3 => exact Kd.V_mono (Kd.R_V (Kd.R_tight rfl (IsS139.apart HI418.out (Kd.R_types (Kd.R_types (HO421.out) BK414.out (by decide)) BK424.out (by decide)) (by decide)))) (fun k_ hk_ => ⟨hk_,((IsS139.apart HI418.out (Kd.R_types (Kd.R_types (HO421.out) BK414.out (by decide)) BK424.out (by decide)) (by decide)).1 k_ hk_.symm).2⟩));rintro e w17 ⟨v426,rfl,ho0,hi,hb,hk⟩;refine ⟨_,rfl,?_⟩;replace BK414:=zw0 hk BK414 NB414_418;replace HO421:=Aside0.mk (Kd.R_mono (Kd.R_keep (IsS139.apart (show IsS139 w _ g418 t415 t422 t423 from zi0 HI418) (zR0 HO421.out) (by decide)) hk (fun _ h => h.2)) (fun _ h => h.1));replace BK424:=zw0 hk BK424 NB424_418;have HO427:=Aside0.mk (Kd.R_lower (Kd.R_mono (ok':=fun k_ => True) ho0 (fun _ hk_ => trivial)) (below_size (zj0 HB HI418)));replace HB:=Aside0.mk hb;replace HI418:=Aside0.mk hi;(try clear hb);(try clear hb2);(try clear hk);(try clear hi);(try clear ho0)))
 replace HO421:=Aside0.mk (Kd.R_drew HO421.out)
 replace HO427:=Aside0.mk (Kd.R_drew HO427.out)
 replace BK414:=Aside0.mk (blk_drew BK414.out)
 replace BK424:=Aside0.mk (blk_drew BK424.out)
 replace HI418:=Aside0.mk (IsS139.drew HI418.out)
 replace HB:=Aside0.mk (below_drew1 HB.out)
 obtain ⟨Ao19,co19,eo19⟩:=Kd.R_slice HO427.out
 (first | subst eo19 | (injection eo19 with f1_ f2_ f3_;have f4_:=f1_.symm;have f5_:=f3_.symm;clear f1_ f2_ f3_;subst f4_;subst f5_))
 refine start_ (n:=13) (S:=fun w' => w'.cell? ⟨gb424,0,none⟩ = some (.slice Ao11 t419.length co11)) (ds:=[]) (zF0 13 0) (by kernel_rfl) rfl rfl (zc00 BK424) (fun hHeld => ?_);refine with_tabW spec_DrawCutActs.tab4 spec_DrawCutActs.bits4 (fun HT_ HW_ => ?_)
 generalize w17.drew = w18 at HO421 HO427 BK414 BK424 HI418 HB hHeld ⊢
 refine zp0 1 17 13 2 HT_ ?_
 refine zp0 2 18 13 6 HT_ ?_
 refine zp0 3 19 13 14 HT_ ?_
 refine zp0 4 20 13 30 HT_ ?_
 refine zp0 5 21 13 62 HT_ ?_
 refine zp0 7 23 13 190 HT_ ?_
 refine zt0 0 16 13 191 HT_ HW_ hHeld ?_
 refine one_ (i:=6) (N:=some 22) (zF0 13 255) rfl rfl (one_of HT_.out (by kernel_rfl)) (by decide) (fun K hK => ?_)
 refine goes_ Try.func89 (by kernel_rfl) rfl #[.pointer (some ⟨g418,0,none⟩),.int .i64 (wrap64 ((t425.length : Int) + 1))] (by rfl) rfl rfl zM0 ?_
 with_reducible refine (spec_l01Place.calls g418 t415 t428 t429 (wrap64 ((t425.length : Int) + 1)) t430 t431 t432 w _ ?side1 ?side2 A5.out).mono ?_
 (case side1 => exact zi0 HI418)
 (case side2 => exact zj0 HB HI418)
 rintro e w20 ⟨rfl,hi,hb,hk⟩
 refine ⟨_,rfl,?_⟩
 replace BK414:=zw0 hk BK414 NB414_418
 replace HO421:=Aside0.mk (Kd.R_mono (Kd.R_keep (IsS139.apart (show IsS139 w _ g418 t415 t428 t429 from zi0 HI418) (zR0 HO421.out) (by decide)) hk (fun _ h => h.2)) (fun _ h => h.1))
 replace BK424:=zw0 hk BK424 NB424_418
 replace HO427:=Aside0.mk (Kd.R_mono (Kd.R_keep (IsS139.apart (show IsS139 w _ g418 t415 t428 t429 from zi0 HI418) (zR0 HO427.out) (by decide)) hk (fun _ h => h.2)) (fun _ h => h.1))
 replace HB:=Aside0.mk hb
 replace HI418:=Aside0.mk hi
 (try clear hb)
 (try clear hb2)
 (try clear hk)
 (try clear hi)
 refine hK.out _ _ (zc00 BK424) (fun hHeld => ?_)
 clear hK K
 refine norm_ (a':=?_) ?_ ?_;rotate_left
 ·show Act.put _ (some 22) _ = _;simp only [Act.put,qA0,qB0,qC0,i64_w,i32_w];rfl
 refine one_ (i:=8) (N:=some 24) (zF0 13 511) rfl rfl (one_of HT_.out (by kernel_rfl)) (by decide) (fun K hK => ?_)
 refine goes_ Try.func90 (by kernel_rfl) rfl #[.pointer (some ⟨g418,0,none⟩)] (by rfl) rfl rfl zM0 ?_
 with_reducible refine (spec_l03Left.calls k g418 t415 t431 t432 t433 t436 t437 w _ ?side1 ?side2 A6.out).mono ?_
 (case side1 => exact zi0 HI418)
 (case side2 => exact zj0 HB HI418)
 rintro e w21 ⟨v434,rfl,ho0,hi,hb,hk⟩
 refine ⟨_,rfl,?_⟩
 replace BK414:=zw0 hk BK414 NB414_418
 replace HO421:=Aside0.mk (Kd.R_mono (Kd.R_keep (IsS139.apart (show IsS139 w _ g418 t415 t431 t432 from zi0 HI418) (zR0 HO421.out) (by decide)) hk (fun _ h => h.2)) (fun _ h => h.1))
 replace BK424:=zw0 hk BK424 NB424_418
 replace HO427:=Aside0.mk (Kd.R_mono (Kd.R_keep (IsS139.apart (show IsS139 w _ g418 t415 t431 t432 from zi0 HI418) (zR0 HO427.out) (by decide)) hk (fun _ h => h.2)) (fun _ h => h.1))
 have HO435:=Aside0.mk (Kd.R_lower ho0 (below_size (zj0 HB HI418)))
 replace HB:=Aside0.mk hb
 replace HI418:=Aside0.mk hi
 (try clear hb)
 (try clear hb2)
 (try clear hk)
 (try clear hi)
 (try clear ho0)
 refine hK.out _ _ (zc00 BK424) (fun hHeld => ?_)
 clear hK K
 refine norm_ (a':=?_) ?_ ?_;rotate_left
 ·show Act.put _ (some 24) _ = _;simp only [Act.put,qA0,qB0,qC0,i64_w,i32_w];rfl
 refine one_ (i:=9) (N:=none) (zF0 13 1023) rfl rfl (one_of HT_.out (by kernel_rfl)) (by decide) (fun K hK => ?_)
 have hs22 : w21.cell? ⟨gb414,0,none⟩ = some (.slice none 0 0):=zc00 BK414
 have hfs22:=blk_frozen BK414.out 0
 have hns22_1:=NB424_414.out
 have hms22_1:=NB414_424.out
 refine skip_ (w1:=?_) (by rfl) rfl ?_ ?_;rotate_left
 ·go_simp
  rfl
 refine hK.out _ _ (((cell_far (p:=⟨gb414,_,none⟩) NB424_414.out _).trans (hHeld))) (fun hHeld => ?_)
 clear hK K
 refine zp0 10 3 13 2047 HT_ ?_
 refine zp0 11 4 13 4095 HT_ ?_
 refine zp0 12 5 13 8191 HT_ ?_
 refine done_ (done_of HT_.out (by kernel_rfl)) ?_
 try go_wp2
 refine bodyPost_ret (results_list (rs:=[.cell 2 30,.tmp 3,.tmp 4,.tmp 5]) rfl (by simp) (.cell gb414 30 #[.slice Ao11 t419.length co11] (0,0) _ rfl (by refine zT0 ?_;refine blk_put (cs:=#[.slice none 0 0]) ?_ 0 _ rfl;exact zK0 BK414.out) Try.underlying30 rfl (by kernel_rfl) (.tmp (.tmp (.tmp .nil))))) rfl ?_
 exact ⟨_,_,_,zW0,by refine zV0 ?_;exact Kd.R_mono (Kd.R_far (p:=⟨gb414,0,none⟩) (Kd.R_types HO421.out BK414.out (by decide)) (fun _ hk => hk.2) (.slice Ao11 t419.length co11)) (fun _ hk => trivial),by refine zV0 ?_;exact Kd.R_mono (Kd.R_far (p:=⟨gb414,0,none⟩) (Kd.R_types HO427.out BK414.out (by decide)) (fun _ hk => hk.2) (.slice Ao11 t419.length co11)) (fun _ hk => trivial),by refine zV0 ?_;exact Kd.R_mono (Kd.R_far (p:=⟨gb414,0,none⟩) (Kd.R_types HO435.out BK414.out (by decide)) (fun _ hk => hk.2) (.slice Ao11 t419.length co11)) (fun _ hk => trivial),zj0 HB HI418⟩

end Go.Proofs.Ytgfacdhkamphiaa.PFnActs
