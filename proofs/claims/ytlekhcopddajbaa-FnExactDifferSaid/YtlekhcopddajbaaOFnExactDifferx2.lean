/- Walks of functions that the law FnExactDiffer reaches, turned by this session from a print of which a part did not build; what was changed is listed in wip/patches of the proofs' repo. -/
import Derived.Test.YtlekhcopddajbaaOFnExactDifferx0
import Derived.Test.YtlekhcopddajbaaOFnExactDifferx1
namespace Go.Proofs.Ytlekhcopddajbaa.PFnExactDiffer
open Go.RowKit Go.Proofs.YtlekhcopddajbaaW.PrintWords Go.Proofs.YtlekhcopddajbaaW.PrintLast Go.Proofs.YtlekhcopddajbaaW.PrintMore
attribute [local go_sem] max2_int min2_int max_two min_two max_three min_three max_four min_four   -- for this text's walks alone
set_option linter.unusedVariables false
set_option linter.unusedSimpArgs false

/-! ### spec_ValOk: function 31 -/
mutual
def spec_ValOk.j0 : Nat → Bool → Int → Int → ByteArray → List ByteArray → Option (Bool)
 | 0,_,_,_,_,_ => none
 | k + 1,x13,x109000,x109001,x109002,x109003 => if x13 = true then (some false) else (if x109000 = 1 then (if (x109002.size : Int) ≤ 60 then (some ((x109003.length : Int) == 0)) else (some false)) else (if x109002.toList = ([] : List UInt8) then ((spec_l01In.f (x109003.length : Int) 1 24).bind fun t111 => (if t111 = true then (if x109000 = 3 then (spec_ValOk.j1 k (((x109003.length : Int) % 2) == 1) x109000 x109001 x109002 x109003) else (spec_ValOk.j1 k false x109000 x109001 x109002 x109003)) else (spec_ValOk.j1 k true x109000 x109001 x109002 x109003))) else (spec_ValOk.j1 k true x109000 x109001 x109002 x109003)))
def spec_ValOk.j1 : Nat → Bool → Int → Int → ByteArray → List ByteArray → Option (Bool)
 | 0,_,_,_,_,_ => none
 | k + 1,x48,x109000,x109001,x109002,x109003 => if x48 = true then (some false) else (spec_ValOk.l0 k 0 x109000 x109001 x109002 x109003)
def spec_ValOk.l0 : Nat → Int → Int → Int → ByteArray → List ByteArray → Option (Bool)
 | 0,_,_,_,_,_ => none
 | k + 1,x3,x109000,x109001,x109002,x109003 => if x3 < (x109003.length : Int) then (if 0 ≤ x3 then (if ((rdOf ByteArray.empty x109003 x3).size : Int) > 60 then (some false) else (if x109000 = 4 then (if x3 > 0 then (if 0 ≤ (wrap64 (x3 - 1)) then (if (wrap64 (x3 - 1)) < (x109003.length : Int) then (if ((Op.bytesLess ((rdOf ByteArray.empty x109003 (wrap64 (x3 - 1))).toList) ((rdOf ByteArray.empty x109003 x3).toList)) = true) then (if x109000 = 3 then (if x3 > 1 then (if (Int.tmod x3 2) = 0 then (if 0 ≤ (wrap64 (x3 - 2)) then (if (wrap64 (x3 - 2)) < (x109003.length : Int) then (if ((Op.bytesLess ((rdOf ByteArray.empty x109003 (wrap64 (x3 - 2))).toList) ((rdOf ByteArray.empty x109003 x3).toList)) = true) then (spec_ValOk.l0 k (wrap64 (x3 + 1)) x109000 x109001 x109002 x109003) else (some false)) else (none)) else (none)) else (spec_ValOk.l0 k (wrap64 (x3 + 1)) x109000 x109001 x109002 x109003)) else (spec_ValOk.l0 k (wrap64 (x3 + 1)) x109000 x109001 x109002 x109003)) else (spec_ValOk.l0 k (wrap64 (x3 + 1)) x109000 x109001 x109002 x109003)) else (some false)) else (none)) else (none)) else (if x109000 = 3 then (if x3 > 1 then (if (Int.tmod x3 2) = 0 then (if 0 ≤ (wrap64 (x3 - 2)) then (if (wrap64 (x3 - 2)) < (x109003.length : Int) then (if ((Op.bytesLess ((rdOf ByteArray.empty x109003 (wrap64 (x3 - 2))).toList) ((rdOf ByteArray.empty x109003 x3).toList)) = true) then (spec_ValOk.l0 k (wrap64 (x3 + 1)) x109000 x109001 x109002 x109003) else (some false)) else (none)) else (none)) else (spec_ValOk.l0 k (wrap64 (x3 + 1)) x109000 x109001 x109002 x109003)) else (spec_ValOk.l0 k (wrap64 (x3 + 1)) x109000 x109001 x109002 x109003)) else (spec_ValOk.l0 k (wrap64 (x3 + 1)) x109000 x109001 x109002 x109003))) else (if x109000 = 3 then (if x3 > 1 then (if (Int.tmod x3 2) = 0 then (if 0 ≤ (wrap64 (x3 - 2)) then (if (wrap64 (x3 - 2)) < (x109003.length : Int) then (if ((Op.bytesLess ((rdOf ByteArray.empty x109003 (wrap64 (x3 - 2))).toList) ((rdOf ByteArray.empty x109003 x3).toList)) = true) then (spec_ValOk.l0 k (wrap64 (x3 + 1)) x109000 x109001 x109002 x109003) else (some false)) else (none)) else (none)) else (spec_ValOk.l0 k (wrap64 (x3 + 1)) x109000 x109001 x109002 x109003)) else (spec_ValOk.l0 k (wrap64 (x3 + 1)) x109000 x109001 x109002 x109003)) else (spec_ValOk.l0 k (wrap64 (x3 + 1)) x109000 x109001 x109002 x109003)))) else (none)) else (some true)
end
def spec_ValOk.f (k : Nat) (a0_0 : Int) (a0_1 : Int) (a0_2 : ByteArray) (l0_3 : List ByteArray) : Option (Bool):=(spec_l01In.f a0_0 1 4).bind fun t109 => (if t109 = true then ((spec_l01In.f a0_1 0 100000).bind fun t110 => (spec_ValOk.j0 k (!t110) a0_0 a0_1 a0_2 l0_3)) else (spec_ValOk.j0 k true a0_0 a0_1 a0_2 l0_3))
theorem spec_ValOk.mono_l : ∀ k,(∀ y0 y1 y2 y3 y4,LeO (spec_ValOk.j0 k y0 y1 y2 y3 y4) (spec_ValOk.j0 (k + 1) y0 y1 y2 y3 y4)) ∧ (∀ y0 y1 y2 y3 y4,LeO (spec_ValOk.j1 k y0 y1 y2 y3 y4) (spec_ValOk.j1 (k + 1) y0 y1 y2 y3 y4)) ∧ (∀ y0 y1 y2 y3 y4,LeO (spec_ValOk.l0 k y0 y1 y2 y3 y4) (spec_ValOk.l0 (k + 1) y0 y1 y2 y3 y4))
 | 0 => ⟨fun _ _ _ _ _ r h => by simp [spec_ValOk.j0] at h,fun _ _ _ _ _ r h => by simp [spec_ValOk.j1] at h,fun _ _ _ _ _ r h => by simp [spec_ValOk.l0] at h⟩
 | k + 1 => by
  obtain ⟨ih0,ih1,ih2⟩:=spec_ValOk.mono_l k
  refine ⟨?_,?_,?_⟩
  ·intro y0 y1 y2 y3 y4
   unfold spec_ValOk.j0
   repeat' first
   | (with_reducible exact ih0 _ _ _ _ _)
   | (with_reducible exact ih1 _ _ _ _ _)
   | (with_reducible exact ih2 _ _ _ _ _)
   | (with_reducible exact LeO.refl _)
   | (with_reducible exact LeO.none _)
   | (with_reducible refine LeO.ite ?_ ?_)
   | (with_reducible refine LeO.bind ?_ (fun _ => ?_))
   | exact ih0 _ _ _ _ _
   | exact ih1 _ _ _ _ _
   | exact ih2 _ _ _ _ _
   | exact LeO.none _
   | refine LeO.ite ?_ ?_
   | refine LeO.bind ?_ (fun _ => ?_)
  ·intro y0 y1 y2 y3 y4
   unfold spec_ValOk.j1
   repeat' first
   | (with_reducible exact ih0 _ _ _ _ _)
   | (with_reducible exact ih1 _ _ _ _ _)
   | (with_reducible exact ih2 _ _ _ _ _)
   | (with_reducible exact LeO.refl _)
   | (with_reducible exact LeO.none _)
   | (with_reducible refine LeO.ite ?_ ?_)
   | (with_reducible refine LeO.bind ?_ (fun _ => ?_))
   | exact ih0 _ _ _ _ _
   | exact ih1 _ _ _ _ _
   | exact ih2 _ _ _ _ _
   | exact LeO.none _
   | refine LeO.ite ?_ ?_
   | refine LeO.bind ?_ (fun _ => ?_)
  ·intro y0 y1 y2 y3 y4
   unfold spec_ValOk.l0
   repeat' first
   | (with_reducible exact ih0 _ _ _ _ _)
   | (with_reducible exact ih1 _ _ _ _ _)
   | (with_reducible exact ih2 _ _ _ _ _)
   | (with_reducible exact LeO.refl _)
   | (with_reducible exact LeO.none _)
   | (with_reducible refine LeO.ite ?_ ?_)
   | (with_reducible refine LeO.bind ?_ (fun _ => ?_))
   | exact ih0 _ _ _ _ _
   | exact ih1 _ _ _ _ _
   | exact ih2 _ _ _ _ _
   | exact LeO.none _
   | refine LeO.ite ?_ ?_
   | refine LeO.bind ?_ (fun _ => ?_)
theorem spec_ValOk.mono : ∀ a0 a1 a2 a3 k,LeO (spec_ValOk.f k a0 a1 a2 a3) (spec_ValOk.f (k + 1) a0 a1 a2 a3):=by
 intro a0 a1 a2 a3 k
 obtain ⟨ih0,ih1,ih2⟩:=spec_ValOk.mono_l k
 unfold spec_ValOk.f
 repeat' first
   | (with_reducible exact ih0 _ _ _ _ _)
   | (with_reducible exact ih1 _ _ _ _ _)
   | (with_reducible exact ih2 _ _ _ _ _)
   | (with_reducible exact LeO.refl _)
   | (with_reducible exact LeO.none _)
   | (with_reducible refine LeO.ite ?_ ?_)
   | (with_reducible refine LeO.bind ?_ (fun _ => ?_))
   | exact ih0 _ _ _ _ _
   | exact ih1 _ _ _ _ _
   | exact ih2 _ _ _ _ _
   | exact LeO.none _
   | refine LeO.ite ?_ ?_
   | refine LeO.bind ?_ (fun _ => ?_)
set_option maxHeartbeats 8000000 in
set_option maxRecDepth 100000 in
theorem spec_ValOk.calls (k : Nat) (a0_0 : Int) (a0_1 : Int) (a0_2 : ByteArray) (A0_3 : Option Addr) (c0_3 : Nat) (l0_3 : List ByteArray) (r : Bool) (w : World) (hr0_3 : Kd.C Kd.string w A0_3 l0_3.length l0_3) (hc0_3 : l0_3.length ≤ c0_3) (h : spec_ValOk.f k a0_0 a0_1 a0_2 l0_3 = some r) :
  Calls Try.prog 31 #[.agg #[.int .i64 a0_0,.int .i64 a0_1,.string a0_2,.slice A0_3 l0_3.length c0_3]] w fun e w' => e = .returned (.bool r) ∧ Below w.heap.size w w':=by
 have hu40:=Try.underlying40
 have HR0_3:=Aside0.mk hr0_3
 have HC0_3:=Aside0.mk hc0_3
 clear hr0_3 hc0_3
 have HB:=Aside0.mk (Below.refl w.heap.size w)
 have H : ((spec_l01In.f a0_0 1 4).bind fun t109 => (if t109 = true then ((spec_l01In.f a0_1 0 100000).bind fun t110 => (spec_ValOk.j0 k (!t110) a0_0 a0_1 a0_2 l0_3)) else (spec_ValOk.j0 k true a0_0 a0_1 a0_2 l0_3))) = some r:=h
 clear h
 have HC2:=Aside0.mk H
 clear H
 go_enter Try.func31,Try.ntmps31
 go_upto_region 1 with (first | ((with_reducible refine gate_dst (N:=1) rfl ?_);(try (refine gate_guard (by rfl) ?_;dsimp only));refine box_event ?hg (N:=1) ?hd (cs:=#[.int .i64 a0_0,.int .i64 a0_1,.string a0_2,.slice A0_3 l0_3.length c0_3]) (t:=40) ?hr ?_;(case hd => rfl);(case hg => rfl);(case hr => first | (go_simp;done) | (go_simp;rfl));intro gb108 hg w3 hbox hb;have n0_:=Aside0.mk (zS0 HB.out hb);have n1_:=Aside0.mk (hbox);have n2_:=Aside0.mk ((by rw [hg];exact (zZ0 HB.out) : w.heap.size ≤ gb108));have n3_:=Aside0.mk ((by rw [hg];exact (zZ0 HB.out) : w.heap.size ≤ gb108));clear HB;have HB:=n0_;have BK108:=n1_;have GW108:=n2_;have GE108:=n3_;clear n0_ n1_ n2_ n3_;clear hb hbox hg))
 repeat (go_quiet (first | ((with_reducible refine gate_dst (N:=1) rfl ?_);(try (refine gate_guard (by rfl) ?_;dsimp only));refine box_event ?hg (N:=1) ?hd (cs:=#[.int .i64 a0_0,.int .i64 a0_1,.string a0_2,.slice A0_3 l0_3.length c0_3]) (t:=40) ?hr ?_;(case hd => rfl);(case hg => rfl);(case hr => first | (go_simp;done) | (go_simp;rfl));intro gb108 hg w3 hbox hb;have n0_:=Aside0.mk (zS0 HB.out hb);have n1_:=Aside0.mk (hbox);have n2_:=Aside0.mk ((by rw [hg];exact (zZ0 HB.out) : w.heap.size ≤ gb108));have n3_:=Aside0.mk ((by rw [hg];exact (zZ0 HB.out) : w.heap.size ≤ gb108));clear HB;have HB:=n0_;have BK108:=n1_;have GW108:=n2_;have GE108:=n3_;clear n0_ n1_ n2_ n3_;clear hb hbox hg));go_upto_region 1 with (first | ((with_reducible refine gate_dst (N:=1) rfl ?_);(try (refine gate_guard (by rfl) ?_;dsimp only));refine box_event ?hg (N:=1) ?hd (cs:=#[.int .i64 a0_0,.int .i64 a0_1,.string a0_2,.slice A0_3 l0_3.length c0_3]) (t:=40) ?hr ?_;(case hd => rfl);(case hg => rfl);(case hr => first | (go_simp;done) | (go_simp;rfl));intro gb108 hg w3 hbox hb;have n0_:=Aside0.mk (zS0 HB.out hb);have n1_:=Aside0.mk (hbox);have n2_:=Aside0.mk ((by rw [hg];exact (zZ0 HB.out) : w.heap.size ≤ gb108));have n3_:=Aside0.mk ((by rw [hg];exact (zZ0 HB.out) : w.heap.size ≤ gb108));clear HB;have HB:=n0_;have BK108:=n1_;have GW108:=n2_;have GE108:=n3_;clear n0_ n1_ n2_ n3_;clear hb hbox hg)))
 (try simp only [Act.put,qA0,qB0,qC0])
 go_cut [13] (fun v13 wc => ∃ (kq : Nat) (x13_1 : Bool),v13 = .bool x13_1 ∧ Aside0 (spec_ValOk.j0 kq x13_1 a0_0 a0_1 a0_2 l0_3 = some r) ∧ Aside0 (kq ≤ k) ∧ Aside0 (wc.heap[gb108]? = some (.cells #[.int .i64 a0_0,.int .i64 a0_1,.string a0_2,(.slice A0_3 l0_3.length c0_3)] 40 (0,0))) ∧ Aside0 (Below w.heap.size w wc))
 case first =>
  have H:=HC2.out
  clear HC2
  replace H:=Option.bind_eq_some_iff.mp H
  obtain ⟨t109,A40,H⟩:=H
  replace H : (if t109 = true then ((spec_l01In.f a0_1 0 100000).bind fun t110 => (spec_ValOk.j0 k (!t110) a0_0 a0_1 a0_2 l0_3)) else (spec_ValOk.j0 k true a0_0 a0_1 a0_2 l0_3)) = some r:=H
  have A4:=Aside0.mk A40
  clear A40
  by_cases c5 : t109 = true
  ·subst c5
   have H1 : ((spec_l01In.f a0_1 0 100000).bind fun t110 => (spec_ValOk.j0 k (!t110) a0_0 a0_1 a0_2 l0_3)) = some r:=by rw [if_pos rfl] at H;exact H
   clear H
   have H:=H1
   clear H1
   replace H:=Option.bind_eq_some_iff.mp H
   obtain ⟨t110,A60,H⟩:=H
   replace H : (spec_ValOk.j0 k (!t110) a0_0 a0_1 a0_2 l0_3) = some r:=H
   have A6:=Aside0.mk A60
   clear A60
   have H':=Aside0.mk H
   clear H
   have hcz7_0 : w3.cell? ⟨gb108,0,none⟩ = some (.int .i64 a0_0):=(blk_cell BK108.out 0).trans rfl
   have hcz7_1 : w3.cell? ⟨gb108,1,none⟩ = some (.int .i64 a0_1):=(blk_cell BK108.out 1).trans rfl
   have hcz7_2 : w3.cell? ⟨gb108,2,none⟩ = some (.string a0_2):=(blk_cell BK108.out 2).trans rfl
   have hcz7_3 : w3.cell? ⟨gb108,3,none⟩ = some (.slice A0_3 l0_3.length c0_3):=(blk_cell BK108.out 3).trans rfl
   have hfz7_0:=blk_frozen BK108.out 0
   have hfz7_1:=blk_frozen BK108.out 1
   have hfz7_2:=blk_frozen BK108.out 2
   have hfz7_3:=blk_frozen BK108.out 3
   go_wp2_with (first | (go_at_call 30;(with_reducible refine (spec_l01In.calls a0_0 1 4 true _ A4.out).mono ?_);rintro e w' ⟨rfl,⟨nd,rfl⟩⟩;(try first | exact ⟨rfl,_,World.drewN_drewN _ _ _⟩ | exact ⟨rfl,_,Eq.trans (World.drewN_drewN _ _ _) (congrArg (World.drewN _) (Nat.add_assoc _ _ _))⟩)) | (go_at_call 30;(with_reducible refine (spec_l01In.calls a0_1 0 100000 t110 _ A6.out).mono ?_);rintro e w' ⟨rfl,⟨nd,rfl⟩⟩;(try first | exact ⟨rfl,_,World.drewN_drewN _ _ _⟩ | exact ⟨rfl,_,Eq.trans (World.drewN_drewN _ _ _) (congrArg (World.drewN _) (Nat.add_assoc _ _ _))⟩)))
   repeat (go_quiet (first | (go_at_call 30;(with_reducible refine (spec_l01In.calls a0_0 1 4 true _ A4.out).mono ?_);rintro e w' ⟨rfl,⟨nd,rfl⟩⟩;(try first | exact ⟨rfl,_,World.drewN_drewN _ _ _⟩ | exact ⟨rfl,_,Eq.trans (World.drewN_drewN _ _ _) (congrArg (World.drewN _) (Nat.add_assoc _ _ _))⟩)) | (go_at_call 30;(with_reducible refine (spec_l01In.calls a0_1 0 100000 t110 _ A6.out).mono ?_);rintro e w' ⟨rfl,⟨nd,rfl⟩⟩;(try first | exact ⟨rfl,_,World.drewN_drewN _ _ _⟩ | exact ⟨rfl,_,Eq.trans (World.drewN_drewN _ _ _) (congrArg (World.drewN _) (Nat.add_assoc _ _ _))⟩)));try go_wp2_with (first | (go_at_call 30;(with_reducible refine (spec_l01In.calls a0_0 1 4 true _ A4.out).mono ?_);rintro e w' ⟨rfl,⟨nd,rfl⟩⟩;(try first | exact ⟨rfl,_,World.drewN_drewN _ _ _⟩ | exact ⟨rfl,_,Eq.trans (World.drewN_drewN _ _ _) (congrArg (World.drewN _) (Nat.add_assoc _ _ _))⟩)) | (go_at_call 30;(with_reducible refine (spec_l01In.calls a0_1 0 100000 t110 _ A6.out).mono ?_);rintro e w' ⟨rfl,⟨nd,rfl⟩⟩;(try first | exact ⟨rfl,_,World.drewN_drewN _ _ _⟩ | exact ⟨rfl,_,Eq.trans (World.drewN_drewN _ _ _) (congrArg (World.drewN _) (Nat.add_assoc _ _ _))⟩))))
   go_meet
   case rel => exact ⟨_,(!t110),(by first | rfl | (simp;done) | (simp [*];done)),H',⟨by first | omega | exact Nat.le_refl _⟩,⟨by (with_reducible repeat (first | refine blk_drewN ?_ _ | refine blk_drew ?_ | refine blk_alloc ?_ _));exact BK108.out⟩,⟨by repeat (first | (with_reducible first | exact HB.out | apply below_alloc | apply pw_below_drewN | apply below_drew1 | refine below_set ?_ GE108.out) | exact HB.out)⟩⟩
  ·replace c5:=Bool.eq_false_iff.mpr c5
   subst c5
   have H1 : (spec_ValOk.j0 k true a0_0 a0_1 a0_2 l0_3) = some r:=by rw [if_neg (show ¬ (false = true) by decide)] at H;exact H
   clear H
   have H:=H1
   clear H1
   have H':=Aside0.mk H
   clear H
   have hcz8_0 : w3.cell? ⟨gb108,0,none⟩ = some (.int .i64 a0_0):=(blk_cell BK108.out 0).trans rfl
   have hcz8_1 : w3.cell? ⟨gb108,1,none⟩ = some (.int .i64 a0_1):=(blk_cell BK108.out 1).trans rfl
   have hcz8_2 : w3.cell? ⟨gb108,2,none⟩ = some (.string a0_2):=(blk_cell BK108.out 2).trans rfl
   have hcz8_3 : w3.cell? ⟨gb108,3,none⟩ = some (.slice A0_3 l0_3.length c0_3):=(blk_cell BK108.out 3).trans rfl
   have hfz8_0:=blk_frozen BK108.out 0
   have hfz8_1:=blk_frozen BK108.out 1
   have hfz8_2:=blk_frozen BK108.out 2
   have hfz8_3:=blk_frozen BK108.out 3
   go_wp2_with (first | (go_at_call 30;(with_reducible refine (spec_l01In.calls a0_0 1 4 false _ A4.out).mono ?_);rintro e w' ⟨rfl,⟨nd,rfl⟩⟩;(try first | exact ⟨rfl,_,World.drewN_drewN _ _ _⟩ | exact ⟨rfl,_,Eq.trans (World.drewN_drewN _ _ _) (congrArg (World.drewN _) (Nat.add_assoc _ _ _))⟩)))
   repeat (go_quiet (first | (go_at_call 30;(with_reducible refine (spec_l01In.calls a0_0 1 4 false _ A4.out).mono ?_);rintro e w' ⟨rfl,⟨nd,rfl⟩⟩;(try first | exact ⟨rfl,_,World.drewN_drewN _ _ _⟩ | exact ⟨rfl,_,Eq.trans (World.drewN_drewN _ _ _) (congrArg (World.drewN _) (Nat.add_assoc _ _ _))⟩)));try go_wp2_with (first | (go_at_call 30;(with_reducible refine (spec_l01In.calls a0_0 1 4 false _ A4.out).mono ?_);rintro e w' ⟨rfl,⟨nd,rfl⟩⟩;(try first | exact ⟨rfl,_,World.drewN_drewN _ _ _⟩ | exact ⟨rfl,_,Eq.trans (World.drewN_drewN _ _ _) (congrArg (World.drewN _) (Nat.add_assoc _ _ _))⟩))))
   go_meet
   case rel => exact ⟨_,(true),(by first | rfl | (simp;done) | (simp [*];done)),H',⟨by first | omega | exact Nat.le_refl _⟩,⟨by (with_reducible repeat (first | refine blk_drewN ?_ _ | refine blk_drew ?_ | refine blk_alloc ?_ _));exact BK108.out⟩,⟨by repeat (first | (with_reducible first | exact HB.out | apply below_alloc | apply pw_below_drewN | apply below_drew1 | refine below_set ?_ GE108.out) | exact HB.out)⟩⟩
 case rest =>
  clear HC2
  try clear p2
  try clear c3
  try clear c5
  try clear hcz7_0
  try clear hcz7_1
  try clear hcz7_2
  try clear hcz7_3
  try clear hcz8_0
  try clear hcz8_1
  try clear hcz8_2
  try clear hcz8_3
  try clear hfz7_0
  try clear hfz7_1
  try clear hfz7_2
  try clear hfz7_3
  try clear hfz8_0
  try clear hfz8_1
  try clear hfz8_2
  try clear hfz8_3
  obtain ⟨kq,x13_1,rfl,HA,HJ1,BK108,HB⟩:=hcut
  cases kq with
  | zero => exact absurd HA.out (by simp [spec_ValOk.j0])
  | succ kj1 =>
   have H:=HA.out
   clear HA
   simp only [spec_ValOk.j0] at H
   by_cases c9 : x13_1 = true
   ·subst c9
    have H1 : (some false) = some r:=by rw [if_pos rfl] at H;exact H
    clear H
    have H:=H1
    clear H1
    obtain rfl:=Option.some.inj H
    go_wp2
    repeat (go_quiet (fail);try go_wp2)
    go_ret
    exact ⟨by first | rfl | (simp [errW_none,errW_some] <;> rfl) | (simp [*,errW_none,errW_some] <;> rfl),by repeat (first | (with_reducible first | exact HB.out | apply below_alloc | apply pw_below_drewN | apply below_drew1 | refine below_set ?_ GE108.out) | exact HB.out)⟩
   ·replace c9:=Bool.eq_false_iff.mpr c9
    subst c9
    have H1 : (if a0_0 = 1 then (if (a0_2.size : Int) ≤ 60 then (some ((l0_3.length : Int) == 0)) else (some false)) else (if a0_2.toList = ([] : List UInt8) then ((spec_l01In.f (l0_3.length : Int) 1 24).bind fun t111 => (if t111 = true then (if a0_0 = 3 then (spec_ValOk.j1 kj1 (((l0_3.length : Int) % 2) == 1) a0_0 a0_1 a0_2 l0_3) else (spec_ValOk.j1 kj1 false a0_0 a0_1 a0_2 l0_3)) else (spec_ValOk.j1 kj1 true a0_0 a0_1 a0_2 l0_3))) else (spec_ValOk.j1 kj1 true a0_0 a0_1 a0_2 l0_3))) = some r:=by rw [if_neg (show ¬ (false = true) by decide)] at H;exact H
    clear H
    have H:=H1
    clear H1
    by_cases c10 : a0_0 = 1
    ·rw [if_pos c10] at H
     have c10b0 : (a0_0 == 1) = true:=beq_iff_eq.mpr c10
     have c10b1 : (a0_0 != 1) = false:=bne_eq_false_iff_eq.mpr c10
     clear c10
     by_cases c11 : (a0_2.size : Int) ≤ 60
     ·rw [if_pos c11] at H
      have c11b0 : decide ((a0_2.size : Int) ≤ 60) = true:=decide_eq_true c11
      have c11b1 : decide (a0_2.size ≤ 60) = true:=decide_eq_true (by omega)
      clear c11
      obtain rfl:=Option.some.inj H
      have hcz12_0 : wc.cell? ⟨gb108,0,none⟩ = some (.int .i64 a0_0):=(blk_cell BK108.out 0).trans rfl
      have hcz12_1 : wc.cell? ⟨gb108,1,none⟩ = some (.int .i64 a0_1):=(blk_cell BK108.out 1).trans rfl
      have hcz12_2 : wc.cell? ⟨gb108,2,none⟩ = some (.string a0_2):=(blk_cell BK108.out 2).trans rfl
      have hcz12_3 : wc.cell? ⟨gb108,3,none⟩ = some (.slice A0_3 l0_3.length c0_3):=(blk_cell BK108.out 3).trans rfl
      have hfz12_0:=blk_frozen BK108.out 0
      have hfz12_1:=blk_frozen BK108.out 1
      have hfz12_2:=blk_frozen BK108.out 2
      have hfz12_3:=blk_frozen BK108.out 3
      go_wp2
      repeat (go_quiet (fail);try go_wp2)
      go_ret
      exact ⟨by first | rfl | (simp [errW_none,errW_some] <;> rfl) | (simp [*,errW_none,errW_some] <;> rfl),by repeat (first | (with_reducible first | exact HB.out | apply below_alloc | apply pw_below_drewN | apply below_drew1 | refine below_set ?_ GE108.out) | exact HB.out)⟩
     ·rw [if_neg c11] at H
      have c11b0 : decide ((a0_2.size : Int) ≤ 60) = false:=decide_eq_false c11
      have c11b1 : decide (a0_2.size ≤ 60) = false:=decide_eq_false (by omega)
      clear c11
      obtain rfl:=Option.some.inj H
      have hcz13_0 : wc.cell? ⟨gb108,0,none⟩ = some (.int .i64 a0_0):=(blk_cell BK108.out 0).trans rfl
      have hcz13_1 : wc.cell? ⟨gb108,1,none⟩ = some (.int .i64 a0_1):=(blk_cell BK108.out 1).trans rfl
      have hcz13_2 : wc.cell? ⟨gb108,2,none⟩ = some (.string a0_2):=(blk_cell BK108.out 2).trans rfl
      have hcz13_3 : wc.cell? ⟨gb108,3,none⟩ = some (.slice A0_3 l0_3.length c0_3):=(blk_cell BK108.out 3).trans rfl
      have hfz13_0:=blk_frozen BK108.out 0
      have hfz13_1:=blk_frozen BK108.out 1
      have hfz13_2:=blk_frozen BK108.out 2
      have hfz13_3:=blk_frozen BK108.out 3
      go_wp2
      repeat (go_quiet (fail);try go_wp2)
      go_ret
      exact ⟨by first | rfl | (simp [errW_none,errW_some] <;> rfl) | (simp [*,errW_none,errW_some] <;> rfl),by repeat (first | (with_reducible first | exact HB.out | apply below_alloc | apply pw_below_drewN | apply below_drew1 | refine below_set ?_ GE108.out) | exact HB.out)⟩
    ·rw [if_neg c10] at H
     have c10b0 : (a0_0 == 1) = false:=beq_eq_false_iff_ne.mpr c10
     have c10b1 : (a0_0 != 1) = true:=bne_iff_ne.mpr c10
     have HC14:=Aside0.mk H
     clear H
     have hcz15_0 : wc.cell? ⟨gb108,0,none⟩ = some (.int .i64 a0_0):=(blk_cell BK108.out 0).trans rfl
     have hcz15_1 : wc.cell? ⟨gb108,1,none⟩ = some (.int .i64 a0_1):=(blk_cell BK108.out 1).trans rfl
     have hcz15_2 : wc.cell? ⟨gb108,2,none⟩ = some (.string a0_2):=(blk_cell BK108.out 2).trans rfl
     have hcz15_3 : wc.cell? ⟨gb108,3,none⟩ = some (.slice A0_3 l0_3.length c0_3):=(blk_cell BK108.out 3).trans rfl
     have hfz15_0:=blk_frozen BK108.out 0
     have hfz15_1:=blk_frozen BK108.out 1
     have hfz15_2:=blk_frozen BK108.out 2
     have hfz15_3:=blk_frozen BK108.out 3
     go_upto_region 5 with (fail)
     repeat (go_quiet (fail);go_upto_region 5 with (fail))
     go_cut [48] (fun v48 wc => ∃ (kq : Nat) (x48_13 : Bool),v48 = .bool x48_13 ∧ Aside0 (spec_ValOk.j1 kq x48_13 a0_0 a0_1 a0_2 l0_3 = some r) ∧ Aside0 (kq ≤ kj1) ∧ Aside0 (wc.heap[gb108]? = some (.cells #[.int .i64 a0_0,.int .i64 a0_1,.string a0_2,(.slice A0_3 l0_3.length c0_3)] 40 (0,0))) ∧ Aside0 (Below w.heap.size w wc))
     case first =>
      have H:=HC14.out
      clear HC14
      by_cases c16 : a0_2.toList = ([] : List UInt8)
      ·rw [if_pos c16] at H
       have c16b0 : (a0_2.toList == ([] : List UInt8)) = true:=beq_iff_eq.mpr c16
       have c16b1 : (a0_2.toList != ([] : List UInt8)) = false:=bne_eq_false_iff_eq.mpr c16
       clear c16
       (first | rw [c16b0] | (simp only [i64_w,i32_w];rw [c16b0]) | skip)
       replace H:=Option.bind_eq_some_iff.mp H
       obtain ⟨t111,A170,H⟩:=H
       replace H : (if t111 = true then (if a0_0 = 3 then (spec_ValOk.j1 kj1 (((l0_3.length : Int) % 2) == 1) a0_0 a0_1 a0_2 l0_3) else (spec_ValOk.j1 kj1 false a0_0 a0_1 a0_2 l0_3)) else (spec_ValOk.j1 kj1 true a0_0 a0_1 a0_2 l0_3)) = some r:=H
       have A17:=Aside0.mk A170
       clear A170
       by_cases c18 : t111 = true
       ·subst c18
        have H1 : (if a0_0 = 3 then (spec_ValOk.j1 kj1 (((l0_3.length : Int) % 2) == 1) a0_0 a0_1 a0_2 l0_3) else (spec_ValOk.j1 kj1 false a0_0 a0_1 a0_2 l0_3)) = some r:=by rw [if_pos rfl] at H;exact H
        clear H
        have H:=H1
        clear H1
        by_cases c19 : a0_0 = 3
        ·rw [if_pos c19] at H
         have c19b0 : (a0_0 == 3) = true:=beq_iff_eq.mpr c19
         have c19b1 : (a0_0 != 3) = false:=bne_eq_false_iff_eq.mpr c19
         clear c19
         have H':=Aside0.mk H
         clear H
         have hcz20_0 : wc.cell? ⟨gb108,0,none⟩ = some (.int .i64 a0_0):=(blk_cell BK108.out 0).trans rfl
         have hcz20_1 : wc.cell? ⟨gb108,1,none⟩ = some (.int .i64 a0_1):=(blk_cell BK108.out 1).trans rfl
         have hcz20_2 : wc.cell? ⟨gb108,2,none⟩ = some (.string a0_2):=(blk_cell BK108.out 2).trans rfl
         have hcz20_3 : wc.cell? ⟨gb108,3,none⟩ = some (.slice A0_3 l0_3.length c0_3):=(blk_cell BK108.out 3).trans rfl
         have hfz20_0:=blk_frozen BK108.out 0
         have hfz20_1:=blk_frozen BK108.out 1
         have hfz20_2:=blk_frozen BK108.out 2
         have hfz20_3:=blk_frozen BK108.out 3
         go_wp2_with (first | (go_at_call 30;(with_reducible refine (spec_l01In.calls (l0_3.length : Int) 1 24 true _ A17.out).mono ?_);rintro e w' ⟨rfl,⟨nd,rfl⟩⟩;(try first | exact ⟨rfl,_,World.drewN_drewN _ _ _⟩ | exact ⟨rfl,_,Eq.trans (World.drewN_drewN _ _ _) (congrArg (World.drewN _) (Nat.add_assoc _ _ _))⟩)))
         repeat (go_quiet (first | (go_at_call 30;(with_reducible refine (spec_l01In.calls (l0_3.length : Int) 1 24 true _ A17.out).mono ?_);rintro e w' ⟨rfl,⟨nd,rfl⟩⟩;(try first | exact ⟨rfl,_,World.drewN_drewN _ _ _⟩ | exact ⟨rfl,_,Eq.trans (World.drewN_drewN _ _ _) (congrArg (World.drewN _) (Nat.add_assoc _ _ _))⟩)));try go_wp2_with (first | (go_at_call 30;(with_reducible refine (spec_l01In.calls (l0_3.length : Int) 1 24 true _ A17.out).mono ?_);rintro e w' ⟨rfl,⟨nd,rfl⟩⟩;(try first | exact ⟨rfl,_,World.drewN_drewN _ _ _⟩ | exact ⟨rfl,_,Eq.trans (World.drewN_drewN _ _ _) (congrArg (World.drewN _) (Nat.add_assoc _ _ _))⟩))))
         go_meet
         case rel => exact ⟨_,((((l0_3.length : Int) % 2) == 1)),(by first | rfl | (simp;done) | (simp [*];done)),H',⟨by have:=HJ1.out;first | omega | exact Nat.le_refl _⟩,⟨by (with_reducible repeat (first | refine blk_drewN ?_ _ | refine blk_drew ?_ | refine blk_alloc ?_ _));exact BK108.out⟩,⟨by repeat (first | (with_reducible first | exact HB.out | apply below_alloc | apply pw_below_drewN | apply below_drew1 | refine below_set ?_ GE108.out) | exact HB.out)⟩⟩
        ·rw [if_neg c19] at H
         have c19b0 : (a0_0 == 3) = false:=beq_eq_false_iff_ne.mpr c19
         have c19b1 : (a0_0 != 3) = true:=bne_iff_ne.mpr c19
         have H':=Aside0.mk H
         clear H
         have hcz21_0 : wc.cell? ⟨gb108,0,none⟩ = some (.int .i64 a0_0):=(blk_cell BK108.out 0).trans rfl
         have hcz21_1 : wc.cell? ⟨gb108,1,none⟩ = some (.int .i64 a0_1):=(blk_cell BK108.out 1).trans rfl
         have hcz21_2 : wc.cell? ⟨gb108,2,none⟩ = some (.string a0_2):=(blk_cell BK108.out 2).trans rfl
         have hcz21_3 : wc.cell? ⟨gb108,3,none⟩ = some (.slice A0_3 l0_3.length c0_3):=(blk_cell BK108.out 3).trans rfl
         have hfz21_0:=blk_frozen BK108.out 0
         have hfz21_1:=blk_frozen BK108.out 1
         have hfz21_2:=blk_frozen BK108.out 2
         have hfz21_3:=blk_frozen BK108.out 3
         go_wp2_with (first | (go_at_call 30;(with_reducible refine (spec_l01In.calls (l0_3.length : Int) 1 24 true _ A17.out).mono ?_);rintro e w' ⟨rfl,⟨nd,rfl⟩⟩;(try first | exact ⟨rfl,_,World.drewN_drewN _ _ _⟩ | exact ⟨rfl,_,Eq.trans (World.drewN_drewN _ _ _) (congrArg (World.drewN _) (Nat.add_assoc _ _ _))⟩)))
         repeat (go_quiet (first | (go_at_call 30;(with_reducible refine (spec_l01In.calls (l0_3.length : Int) 1 24 true _ A17.out).mono ?_);rintro e w' ⟨rfl,⟨nd,rfl⟩⟩;(try first | exact ⟨rfl,_,World.drewN_drewN _ _ _⟩ | exact ⟨rfl,_,Eq.trans (World.drewN_drewN _ _ _) (congrArg (World.drewN _) (Nat.add_assoc _ _ _))⟩)));try go_wp2_with (first | (go_at_call 30;(with_reducible refine (spec_l01In.calls (l0_3.length : Int) 1 24 true _ A17.out).mono ?_);rintro e w' ⟨rfl,⟨nd,rfl⟩⟩;(try first | exact ⟨rfl,_,World.drewN_drewN _ _ _⟩ | exact ⟨rfl,_,Eq.trans (World.drewN_drewN _ _ _) (congrArg (World.drewN _) (Nat.add_assoc _ _ _))⟩))))
         go_meet
         case rel => exact ⟨_,(false),(by first | rfl | (simp;done) | (simp [*];done)),H',⟨by have:=HJ1.out;first | omega | exact Nat.le_refl _⟩,⟨by (with_reducible repeat (first | refine blk_drewN ?_ _ | refine blk_drew ?_ | refine blk_alloc ?_ _));exact BK108.out⟩,⟨by repeat (first | (with_reducible first | exact HB.out | apply below_alloc | apply pw_below_drewN | apply below_drew1 | refine below_set ?_ GE108.out) | exact HB.out)⟩⟩
       ·replace c18:=Bool.eq_false_iff.mpr c18
        subst c18
        have H1 : (spec_ValOk.j1 kj1 true a0_0 a0_1 a0_2 l0_3) = some r:=by rw [if_neg (show ¬ (false = true) by decide)] at H;exact H
        clear H
        have H:=H1
        clear H1
        have H':=Aside0.mk H
        clear H
        have hcz22_0 : wc.cell? ⟨gb108,0,none⟩ = some (.int .i64 a0_0):=(blk_cell BK108.out 0).trans rfl
        have hcz22_1 : wc.cell? ⟨gb108,1,none⟩ = some (.int .i64 a0_1):=(blk_cell BK108.out 1).trans rfl
        have hcz22_2 : wc.cell? ⟨gb108,2,none⟩ = some (.string a0_2):=(blk_cell BK108.out 2).trans rfl
        have hcz22_3 : wc.cell? ⟨gb108,3,none⟩ = some (.slice A0_3 l0_3.length c0_3):=(blk_cell BK108.out 3).trans rfl
        have hfz22_0:=blk_frozen BK108.out 0
        have hfz22_1:=blk_frozen BK108.out 1
        have hfz22_2:=blk_frozen BK108.out 2
        have hfz22_3:=blk_frozen BK108.out 3
        go_wp2_with (first | (go_at_call 30;(with_reducible refine (spec_l01In.calls (l0_3.length : Int) 1 24 false _ A17.out).mono ?_);rintro e w' ⟨rfl,⟨nd,rfl⟩⟩;(try first | exact ⟨rfl,_,World.drewN_drewN _ _ _⟩ | exact ⟨rfl,_,Eq.trans (World.drewN_drewN _ _ _) (congrArg (World.drewN _) (Nat.add_assoc _ _ _))⟩)))
        repeat (go_quiet (first | (go_at_call 30;(with_reducible refine (spec_l01In.calls (l0_3.length : Int) 1 24 false _ A17.out).mono ?_);rintro e w' ⟨rfl,⟨nd,rfl⟩⟩;(try first | exact ⟨rfl,_,World.drewN_drewN _ _ _⟩ | exact ⟨rfl,_,Eq.trans (World.drewN_drewN _ _ _) (congrArg (World.drewN _) (Nat.add_assoc _ _ _))⟩)));try go_wp2_with (first | (go_at_call 30;(with_reducible refine (spec_l01In.calls (l0_3.length : Int) 1 24 false _ A17.out).mono ?_);rintro e w' ⟨rfl,⟨nd,rfl⟩⟩;(try first | exact ⟨rfl,_,World.drewN_drewN _ _ _⟩ | exact ⟨rfl,_,Eq.trans (World.drewN_drewN _ _ _) (congrArg (World.drewN _) (Nat.add_assoc _ _ _))⟩))))
        go_meet
        case rel => exact ⟨_,(true),(by first | rfl | (simp;done) | (simp [*];done)),H',⟨by have:=HJ1.out;first | omega | exact Nat.le_refl _⟩,⟨by (with_reducible repeat (first | refine blk_drewN ?_ _ | refine blk_drew ?_ | refine blk_alloc ?_ _));exact BK108.out⟩,⟨by repeat (first | (with_reducible first | exact HB.out | apply below_alloc | apply pw_below_drewN | apply below_drew1 | refine below_set ?_ GE108.out) | exact HB.out)⟩⟩
      ·rw [if_neg c16] at H
       have c16b0 : (a0_2.toList == ([] : List UInt8)) = false:=beq_eq_false_iff_ne.mpr c16
       have c16b1 : (a0_2.toList != ([] : List UInt8)) = true:=bne_iff_ne.mpr c16
       (first | rw [c16b0] | (simp only [i64_w,i32_w];rw [c16b0]) | skip)
       have H':=Aside0.mk H
       clear H
       have hcz23_0 : wc.cell? ⟨gb108,0,none⟩ = some (.int .i64 a0_0):=(blk_cell BK108.out 0).trans rfl
       have hcz23_1 : wc.cell? ⟨gb108,1,none⟩ = some (.int .i64 a0_1):=(blk_cell BK108.out 1).trans rfl
       have hcz23_2 : wc.cell? ⟨gb108,2,none⟩ = some (.string a0_2):=(blk_cell BK108.out 2).trans rfl
       have hcz23_3 : wc.cell? ⟨gb108,3,none⟩ = some (.slice A0_3 l0_3.length c0_3):=(blk_cell BK108.out 3).trans rfl
       have hfz23_0:=blk_frozen BK108.out 0
       have hfz23_1:=blk_frozen BK108.out 1
       have hfz23_2:=blk_frozen BK108.out 2
       have hfz23_3:=blk_frozen BK108.out 3
       go_wp2
       repeat (go_quiet (fail);try go_wp2)
       go_meet
       case rel => exact ⟨_,(true),(by first | rfl | (simp;done) | (simp [*];done)),H',⟨by have:=HJ1.out;first | omega | exact Nat.le_refl _⟩,⟨by (with_reducible repeat (first | refine blk_drewN ?_ _ | refine blk_drew ?_ | refine blk_alloc ?_ _));exact BK108.out⟩,⟨by repeat (first | (with_reducible first | exact HB.out | apply below_alloc | apply pw_below_drewN | apply below_drew1 | refine below_set ?_ GE108.out) | exact HB.out)⟩⟩
     case rest =>
      clear HC14
      try clear c1
      try clear p2
      try clear c3
      try clear c5
      try clear c9
      try clear c10
      try clear c10b0
      try clear c10b1
      try clear c11
      try clear c11b0
      try clear c11b1
      try clear c16
      try clear c16b0
      try clear c16b1
      try clear c18
      try clear c19
      try clear c19b0
      try clear c19b1
      try clear hcz12_0
      try clear hcz12_1
      try clear hcz12_2
      try clear hcz12_3
      try clear hcz13_0
      try clear hcz13_1
      try clear hcz13_2
      try clear hcz13_3
      try clear hcz15_0
      try clear hcz15_1
      try clear hcz15_2
      try clear hcz15_3
      try clear hcz20_0
      try clear hcz20_1
      try clear hcz20_2
      try clear hcz20_3
      try clear hcz21_0
      try clear hcz21_1
      try clear hcz21_2
      try clear hcz21_3
      try clear hcz22_0
      try clear hcz22_1
      try clear hcz22_2
      try clear hcz22_3
      try clear hcz23_0
      try clear hcz23_1
      try clear hcz23_2
      try clear hcz23_3
      try clear hcz7_0
      try clear hcz7_1
      try clear hcz7_2
      try clear hcz7_3
      try clear hcz8_0
      try clear hcz8_1
      try clear hcz8_2
      try clear hcz8_3
      try clear hfz12_0
      try clear hfz12_1
      try clear hfz12_2
      try clear hfz12_3
      try clear hfz13_0
      try clear hfz13_1
      try clear hfz13_2
      try clear hfz13_3
      try clear hfz15_0
      try clear hfz15_1
      try clear hfz15_2
      try clear hfz15_3
      try clear hfz20_0
      try clear hfz20_1
      try clear hfz20_2
      try clear hfz20_3
      try clear hfz21_0
      try clear hfz21_1
      try clear hfz21_2
      try clear hfz21_3
      try clear hfz22_0
      try clear hfz22_1
      try clear hfz22_2
      try clear hfz22_3
      try clear hfz23_0
      try clear hfz23_1
      try clear hfz23_2
      try clear hfz23_3
      try clear hfz7_0
      try clear hfz7_1
      try clear hfz7_2
      try clear hfz7_3
      try clear hfz8_0
      try clear hfz8_1
      try clear hfz8_2
      try clear hfz8_3
      try clear p2
      obtain ⟨kq,x48_13,rfl,HA,HJ13,BK108,HB⟩:=hcut
      cases kq with
      | zero => exact absurd HA.out (by simp [spec_ValOk.j1])
      | succ kj13 =>
       have H:=HA.out
       clear HA
       simp only [spec_ValOk.j1] at H
       by_cases c24 : x48_13 = true
       ·subst c24
        have H1 : (some false) = some r:=by rw [if_pos rfl] at H;exact H
        clear H
        have H:=H1
        clear H1
        obtain rfl:=Option.some.inj H
        go_wp2
        repeat (go_quiet (fail);try go_wp2)
        go_ret
        exact ⟨by first | rfl | (simp [errW_none,errW_some] <;> rfl) | (simp [*,errW_none,errW_some] <;> rfl),by repeat (first | (with_reducible first | exact HB.out | apply below_alloc | apply pw_below_drewN | apply below_drew1 | refine below_set ?_ GE108.out) | exact HB.out)⟩
       ·replace c24:=Bool.eq_false_iff.mpr c24
        subst c24
        have H1 : (spec_ValOk.l0 kj13 0 a0_0 a0_1 a0_2 l0_3) = some r:=by rw [if_neg (show ¬ (false = true) by decide)] at H;exact H
        clear H
        have H:=H1
        clear H1
        have H':=Aside0.mk H
        clear H
        go_wp2
        repeat (go_quiet (fail);try go_wp2)
        go_loopg [3] kj13 (fun kq v3 w' => ∃ (x3_3 : Int),v3 = .int .i64 x3_3 ∧ Aside0 (spec_ValOk.l0 kq x3_3 a0_0 a0_1 a0_2 l0_3 = some r) ∧ Aside0 (kq ≤ kj13) ∧ Aside0 (w'.heap[gb108]? = some (.cells #[.int .i64 a0_0,.int .i64 a0_1,.string a0_2,(.slice A0_3 l0_3.length c0_3)] 40 (0,0))) ∧ Aside0 (Below w.heap.size w w'))
        case atStart => exact ⟨(0),(by first | rfl | (simp;done) | (simp [*];done)),H',⟨Nat.le_refl _⟩,⟨by (with_reducible repeat (first | refine blk_drewN ?_ _ | refine blk_drew ?_ | refine blk_alloc ?_ _));exact BK108.out⟩,⟨by repeat (first | (with_reducible first | exact HB.out | apply below_alloc | apply pw_below_drewN | apply below_drew1 | refine below_set ?_ GE108.out) | exact HB.out)⟩⟩
        case round =>
         clear H'
         try clear c1
         try clear c2
         try clear p2
         try clear c3
         try clear c5
         try clear c9
         try clear c10
         try clear c10b0
         try clear c10b1
         try clear c11
         try clear c11b0
         try clear c11b1
         try clear c16
         try clear c16b0
         try clear c16b1
         try clear c18
         try clear c19
         try clear c19b0
         try clear c19b1
         try clear c24
         try clear hcz12_0
         try clear hcz12_1
         try clear hcz12_2
         try clear hcz12_3
         try clear hcz13_0
         try clear hcz13_1
         try clear hcz13_2
         try clear hcz13_3
         try clear hcz15_0
         try clear hcz15_1
         try clear hcz15_2
         try clear hcz15_3
         try clear hcz20_0
         try clear hcz20_1
         try clear hcz20_2
         try clear hcz20_3
         try clear hcz21_0
         try clear hcz21_1
         try clear hcz21_2
         try clear hcz21_3
         try clear hcz22_0
         try clear hcz22_1
         try clear hcz22_2
         try clear hcz22_3
         try clear hcz23_0
         try clear hcz23_1
         try clear hcz23_2
         try clear hcz23_3
         try clear hcz7_0
         try clear hcz7_1
         try clear hcz7_2
         try clear hcz7_3
         try clear hcz8_0
         try clear hcz8_1
         try clear hcz8_2
         try clear hcz8_3
         try clear hfz12_0
         try clear hfz12_1
         try clear hfz12_2
         try clear hfz12_3
         try clear hfz13_0
         try clear hfz13_1
         try clear hfz13_2
         try clear hfz13_3
         try clear hfz15_0
         try clear hfz15_1
         try clear hfz15_2
         try clear hfz15_3
         try clear hfz20_0
         try clear hfz20_1
         try clear hfz20_2
         try clear hfz20_3
         try clear hfz21_0
         try clear hfz21_1
         try clear hfz21_2
         try clear hfz21_3
         try clear hfz22_0
         try clear hfz22_1
         try clear hfz22_2
         try clear hfz22_3
         try clear hfz23_0
         try clear hfz23_1
         try clear hfz23_2
         try clear hfz23_3
         try clear hfz7_0
         try clear hfz7_1
         try clear hfz7_2
         try clear hfz7_3
         try clear hfz8_0
         try clear hfz8_1
         try clear hfz8_2
         try clear hfz8_3
         try clear p2
         obtain ⟨x3_3,rfl,HA,HK3,BK108,HB⟩:=hrel
         cases gk with
         | zero => exact absurd HA.out (by simp [spec_ValOk.l0])
         | succ k3 =>
          have H:=HA.out
          clear HA
          simp only [spec_ValOk.l0] at H
          by_cases c25 : x3_3 < (l0_3.length : Int)
          ·rw [if_pos c25] at H
           have c25b0 : decide (x3_3 < (l0_3.length : Int)) = true:=decide_eq_true c25
           clear c25
           by_cases c26 : 0 ≤ x3_3
           ·rw [if_pos c26] at H
            have c26b0 : decide (0 ≤ x3_3) = true:=decide_eq_true c26
            clear c26
            by_cases c27 : ((rdOf ByteArray.empty l0_3 x3_3).size : Int) > 60
            ·rw [if_pos c27] at H
             have c27b0 : decide (60 < ((rdOf ByteArray.empty l0_3 x3_3).size : Int)) = true:=decide_eq_true c27
             have c27b1 : decide (60 < (rdOf ByteArray.empty l0_3 x3_3).size) = true:=decide_eq_true (by omega)
             clear c27
             obtain rfl:=Option.some.inj H
             have hcz28_0 : wr.cell? ⟨gb108,0,none⟩ = some (.int .i64 a0_0):=(blk_cell BK108.out 0).trans rfl
             have hcz28_1 : wr.cell? ⟨gb108,1,none⟩ = some (.int .i64 a0_1):=(blk_cell BK108.out 1).trans rfl
             have hcz28_2 : wr.cell? ⟨gb108,2,none⟩ = some (.string a0_2):=(blk_cell BK108.out 2).trans rfl
             have hcz28_3 : wr.cell? ⟨gb108,3,none⟩ = some (.slice A0_3 l0_3.length c0_3):=(blk_cell BK108.out 3).trans rfl
             have hfz28_0:=blk_frozen BK108.out 0
             have hfz28_1:=blk_frozen BK108.out 1
             have hfz28_2:=blk_frozen BK108.out 2
             have hfz28_3:=blk_frozen BK108.out 3
             have p112 : 0 ≤ (x3_3 : Int):=of_decide_eq_true (by first | (with_reducible assumption) | assumption)
             have q112 : x3_3 < (l0_3.length : Int):=of_decide_eq_true (by first | (with_reducible assumption) | assumption)
             obtain ⟨ad112,e112,hx112_0⟩:=Kd.at_string HR0_3.out x3_3 p112 q112
             cases e112
             replace hx112_0:=(HB.out.cell (World.block_lt_of_cell? w _ hx112_0)).trans hx112_0
             replace p112:=eq_true p112
             replace q112:=eq_true q112
             go_wp2
             repeat (go_quiet (fail);try go_wp2)
             go_ret
             exact ⟨by first | rfl | (simp [errW_none,errW_some] <;> rfl) | (simp [*,errW_none,errW_some] <;> rfl),by repeat (first | (with_reducible first | exact HB.out | apply below_alloc | apply pw_below_drewN | apply below_drew1 | refine below_set ?_ GE108.out) | exact HB.out)⟩
            ·rw [if_neg c27] at H
             have c27b0 : decide (60 < ((rdOf ByteArray.empty l0_3 x3_3).size : Int)) = false:=decide_eq_false c27
             have c27b1 : decide (60 < (rdOf ByteArray.empty l0_3 x3_3).size) = false:=decide_eq_false (by omega)
             clear c27
             by_cases c29 : a0_0 = 4
             ·rw [if_pos c29] at H
              have c29b0 : (a0_0 == 4) = true:=beq_iff_eq.mpr c29
              have c29b1 : (a0_0 != 4) = false:=bne_eq_false_iff_eq.mpr c29
              clear c29
              by_cases c30 : x3_3 > 0
              ·rw [if_pos c30] at H
               have c30b0 : decide (0 < x3_3) = true:=decide_eq_true c30
               clear c30
               obtain ⟨ji31,hji31⟩ : ∃ j_ : Int,(wrap64 (x3_3 - 1)) = j_:=⟨_,rfl⟩
               replace H : (if 0 ≤ (ji31) then (if (ji31) < (l0_3.length : Int) then (if ((Op.bytesLess ((rdOf ByteArray.empty l0_3 (ji31)).toList) ((rdOf ByteArray.empty l0_3 x3_3).toList)) = true) then (if a0_0 = 3 then (if x3_3 > 1 then (if (Int.tmod x3_3 2) = 0 then (if 0 ≤ (wrap64 (x3_3 - 2)) then (if (wrap64 (x3_3 - 2)) < (l0_3.length : Int) then (if ((Op.bytesLess ((rdOf ByteArray.empty l0_3 (wrap64 (x3_3 - 2))).toList) ((rdOf ByteArray.empty l0_3 x3_3).toList)) = true) then (spec_ValOk.l0 k3 (wrap64 (x3_3 + 1)) a0_0 a0_1 a0_2 l0_3) else (some false)) else (none)) else (none)) else (spec_ValOk.l0 k3 (wrap64 (x3_3 + 1)) a0_0 a0_1 a0_2 l0_3)) else (spec_ValOk.l0 k3 (wrap64 (x3_3 + 1)) a0_0 a0_1 a0_2 l0_3)) else (spec_ValOk.l0 k3 (wrap64 (x3_3 + 1)) a0_0 a0_1 a0_2 l0_3)) else (some false)) else (none)) else (none)) = some r:=by first | (rw [hji31] at H;exact H) | (simp only [hji31] at H ⊢;exact H)
               have hji31w : (IntKind.i64.wrap (x3_3 - 1)) = ji31:=(i64_w _).trans hji31
               by_cases c32 : 0 ≤ (ji31)
               ·rw [if_pos c32] at H
                have c32b0 : decide (0 ≤ (ji31)) = true:=decide_eq_true c32
                clear c32
                by_cases c33 : (ji31) < (l0_3.length : Int)
                ·rw [if_pos c33] at H
                 have c33b0 : decide ((ji31) < (l0_3.length : Int)) = true:=decide_eq_true c33
                 clear c33
                 by_cases c34 : ((Op.bytesLess ((rdOf ByteArray.empty l0_3 (ji31)).toList) ((rdOf ByteArray.empty l0_3 x3_3).toList)) = true)
                 ·rw [if_pos c34] at H
                  have c34b0 : (Op.bytesLess ((rdOf ByteArray.empty l0_3 (ji31)).toList) ((rdOf ByteArray.empty l0_3 x3_3).toList)) = true:=c34
                  clear c34
                  by_cases c35 : a0_0 = 3
                  ·rw [if_pos c35] at H
                   have c35b0 : (a0_0 == 3) = true:=beq_iff_eq.mpr c35
                   have c35b1 : (a0_0 != 3) = false:=bne_eq_false_iff_eq.mpr c35
                   clear c35
                   by_cases c36 : x3_3 > 1
                   ·rw [if_pos c36] at H
                    have c36b0 : decide (1 < x3_3) = true:=decide_eq_true c36
                    clear c36
                    by_cases c37 : (Int.tmod x3_3 2) = 0
                    ·rw [if_pos c37] at H
                     have c37b0 : ((Int.tmod x3_3 2) == 0) = true:=beq_iff_eq.mpr c37
                     have c37b1 : ((Int.tmod x3_3 2) != 0) = false:=bne_eq_false_iff_eq.mpr c37
                     clear c37
                     obtain ⟨ji38,hji38⟩ : ∃ j_ : Int,(wrap64 (x3_3 - 2)) = j_:=⟨_,rfl⟩
                     replace H : (if 0 ≤ (ji38) then (if (ji38) < (l0_3.length : Int) then (if ((Op.bytesLess ((rdOf ByteArray.empty l0_3 (ji38)).toList) ((rdOf ByteArray.empty l0_3 x3_3).toList)) = true) then (spec_ValOk.l0 k3 (wrap64 (x3_3 + 1)) a0_0 a0_1 a0_2 l0_3) else (some false)) else (none)) else (none)) = some r:=by first | (rw [hji38] at H;exact H) | (simp only [hji38] at H ⊢;exact H)
                     have hji38w : (IntKind.i64.wrap (x3_3 - 2)) = ji38:=(i64_w _).trans hji38
                     by_cases c39 : 0 ≤ (ji38)
                     ·rw [if_pos c39] at H
                      have c39b0 : decide (0 ≤ (ji38)) = true:=decide_eq_true c39
                      clear c39
                      by_cases c40 : (ji38) < (l0_3.length : Int)
                      ·rw [if_pos c40] at H
                       have c40b0 : decide ((ji38) < (l0_3.length : Int)) = true:=decide_eq_true c40
                       clear c40
                       by_cases c41 : ((Op.bytesLess ((rdOf ByteArray.empty l0_3 (ji38)).toList) ((rdOf ByteArray.empty l0_3 x3_3).toList)) = true)
                       ·rw [if_pos c41] at H
                        have c41b0 : (Op.bytesLess ((rdOf ByteArray.empty l0_3 (ji38)).toList) ((rdOf ByteArray.empty l0_3 x3_3).toList)) = true:=c41
                        clear c41
                        have H':=Aside0.mk H
                        clear H
                        have hcz42_0 : wr.cell? ⟨gb108,0,none⟩ = some (.int .i64 a0_0):=(blk_cell BK108.out 0).trans rfl
                        have hcz42_1 : wr.cell? ⟨gb108,1,none⟩ = some (.int .i64 a0_1):=(blk_cell BK108.out 1).trans rfl
                        have hcz42_2 : wr.cell? ⟨gb108,2,none⟩ = some (.string a0_2):=(blk_cell BK108.out 2).trans rfl
                        have hcz42_3 : wr.cell? ⟨gb108,3,none⟩ = some (.slice A0_3 l0_3.length c0_3):=(blk_cell BK108.out 3).trans rfl
                        have hfz42_0:=blk_frozen BK108.out 0
                        have hfz42_1:=blk_frozen BK108.out 1
                        have hfz42_2:=blk_frozen BK108.out 2
                        have hfz42_3:=blk_frozen BK108.out 3
                        have p112 : 0 ≤ (x3_3 : Int):=of_decide_eq_true (by first | (with_reducible assumption) | assumption)
                        have q112 : x3_3 < (l0_3.length : Int):=of_decide_eq_true (by first | (with_reducible assumption) | assumption)
                        obtain ⟨ad112,e112,hx112_0⟩:=Kd.at_string HR0_3.out x3_3 p112 q112
                        cases e112
                        replace hx112_0:=(HB.out.cell (World.block_lt_of_cell? w _ hx112_0)).trans hx112_0
                        replace p112:=eq_true p112
                        replace q112:=eq_true q112
                        have p113 : 0 ≤ ((ji31) : Int):=of_decide_eq_true (by first | (with_reducible assumption) | assumption)
                        have q113 : (ji31) < (l0_3.length : Int):=of_decide_eq_true (by first | (with_reducible assumption) | assumption)
                        obtain ⟨ad113,e113,hx113_0⟩:=Kd.at_string HR0_3.out (ji31) p113 q113
                        obtain rfl : ad112 = ad113:=(by injection e113)
                        replace hx113_0:=(HB.out.cell (World.block_lt_of_cell? w _ hx113_0)).trans hx113_0
                        replace p113:=eq_true p113
                        replace q113:=eq_true q113
                        have p114 : 0 ≤ (x3_3 : Int):=of_decide_eq_true (by first | (with_reducible assumption) | assumption)
                        have q114 : x3_3 < (l0_3.length : Int):=of_decide_eq_true (by first | (with_reducible assumption) | assumption)
                        obtain ⟨ad114,e114,hx114_0⟩:=Kd.at_string HR0_3.out x3_3 p114 q114
                        obtain rfl : ad112 = ad114:=(by injection e114)
                        replace hx114_0:=(HB.out.cell (World.block_lt_of_cell? w _ hx114_0)).trans hx114_0
                        replace p114:=eq_true p114
                        replace q114:=eq_true q114
                        have p115 : 0 ≤ ((ji38) : Int):=of_decide_eq_true (by first | (with_reducible assumption) | assumption)
                        have q115 : (ji38) < (l0_3.length : Int):=of_decide_eq_true (by first | (with_reducible assumption) | assumption)
                        obtain ⟨ad115,e115,hx115_0⟩:=Kd.at_string HR0_3.out (ji38) p115 q115
                        obtain rfl : ad112 = ad115:=(by injection e115)
                        replace hx115_0:=(HB.out.cell (World.block_lt_of_cell? w _ hx115_0)).trans hx115_0
                        replace p115:=eq_true p115
                        replace q115:=eq_true q115
                        have p116 : 0 ≤ (x3_3 : Int):=of_decide_eq_true (by first | (with_reducible assumption) | assumption)
                        have q116 : x3_3 < (l0_3.length : Int):=of_decide_eq_true (by first | (with_reducible assumption) | assumption)
                        obtain ⟨ad116,e116,hx116_0⟩:=Kd.at_string HR0_3.out x3_3 p116 q116
                        obtain rfl : ad112 = ad116:=(by injection e116)
                        replace hx116_0:=(HB.out.cell (World.block_lt_of_cell? w _ hx116_0)).trans hx116_0
                        replace p116:=eq_true p116
                        replace q116:=eq_true q116
                        go_wp2
                        repeat (go_quiet (fail);try go_wp2)
                        go_roundg k3
                        case measure => have:=HJ1.out;have:=HJ13.out;have:=HK3.out;omega
                        case rel => exact ⟨(wrap64 (x3_3 + 1)),(by first | rfl | (simp;done) | (simp [*];done)),H',⟨by have:=HJ1.out;have:=HJ13.out;have:=HK3.out;omega⟩,⟨by (with_reducible repeat (first | refine blk_drewN ?_ _ | refine blk_drew ?_ | refine blk_alloc ?_ _));exact BK108.out⟩,⟨by repeat (first | (with_reducible first | exact HB.out | apply below_alloc | apply pw_below_drewN | apply below_drew1 | refine below_set ?_ GE108.out) | exact HB.out)⟩⟩
                       ·rw [if_neg c41] at H
                        have c41b0 : (Op.bytesLess ((rdOf ByteArray.empty l0_3 (ji38)).toList) ((rdOf ByteArray.empty l0_3 x3_3).toList)) = false:=by simpa using c41
                        clear c41
                        obtain rfl:=Option.some.inj H
                        have hcz43_0 : wr.cell? ⟨gb108,0,none⟩ = some (.int .i64 a0_0):=(blk_cell BK108.out 0).trans rfl
                        have hcz43_1 : wr.cell? ⟨gb108,1,none⟩ = some (.int .i64 a0_1):=(blk_cell BK108.out 1).trans rfl
                        have hcz43_2 : wr.cell? ⟨gb108,2,none⟩ = some (.string a0_2):=(blk_cell BK108.out 2).trans rfl
                        have hcz43_3 : wr.cell? ⟨gb108,3,none⟩ = some (.slice A0_3 l0_3.length c0_3):=(blk_cell BK108.out 3).trans rfl
                        have hfz43_0:=blk_frozen BK108.out 0
                        have hfz43_1:=blk_frozen BK108.out 1
                        have hfz43_2:=blk_frozen BK108.out 2
                        have hfz43_3:=blk_frozen BK108.out 3
                        have p112 : 0 ≤ (x3_3 : Int):=of_decide_eq_true (by first | (with_reducible assumption) | assumption)
                        have q112 : x3_3 < (l0_3.length : Int):=of_decide_eq_true (by first | (with_reducible assumption) | assumption)
                        obtain ⟨ad112,e112,hx112_0⟩:=Kd.at_string HR0_3.out x3_3 p112 q112
                        cases e112
                        replace hx112_0:=(HB.out.cell (World.block_lt_of_cell? w _ hx112_0)).trans hx112_0
                        replace p112:=eq_true p112
                        replace q112:=eq_true q112
                        have p113 : 0 ≤ ((ji31) : Int):=of_decide_eq_true (by first | (with_reducible assumption) | assumption)
                        have q113 : (ji31) < (l0_3.length : Int):=of_decide_eq_true (by first | (with_reducible assumption) | assumption)
                        obtain ⟨ad113,e113,hx113_0⟩:=Kd.at_string HR0_3.out (ji31) p113 q113
                        obtain rfl : ad112 = ad113:=(by injection e113)
                        replace hx113_0:=(HB.out.cell (World.block_lt_of_cell? w _ hx113_0)).trans hx113_0
                        replace p113:=eq_true p113
                        replace q113:=eq_true q113
                        have p114 : 0 ≤ (x3_3 : Int):=of_decide_eq_true (by first | (with_reducible assumption) | assumption)
                        have q114 : x3_3 < (l0_3.length : Int):=of_decide_eq_true (by first | (with_reducible assumption) | assumption)
                        obtain ⟨ad114,e114,hx114_0⟩:=Kd.at_string HR0_3.out x3_3 p114 q114
                        obtain rfl : ad112 = ad114:=(by injection e114)
                        replace hx114_0:=(HB.out.cell (World.block_lt_of_cell? w _ hx114_0)).trans hx114_0
                        replace p114:=eq_true p114
                        replace q114:=eq_true q114
                        have p115 : 0 ≤ ((ji38) : Int):=of_decide_eq_true (by first | (with_reducible assumption) | assumption)
                        have q115 : (ji38) < (l0_3.length : Int):=of_decide_eq_true (by first | (with_reducible assumption) | assumption)
                        obtain ⟨ad115,e115,hx115_0⟩:=Kd.at_string HR0_3.out (ji38) p115 q115
                        obtain rfl : ad112 = ad115:=(by injection e115)
                        replace hx115_0:=(HB.out.cell (World.block_lt_of_cell? w _ hx115_0)).trans hx115_0
                        replace p115:=eq_true p115
                        replace q115:=eq_true q115
                        have p116 : 0 ≤ (x3_3 : Int):=of_decide_eq_true (by first | (with_reducible assumption) | assumption)
                        have q116 : x3_3 < (l0_3.length : Int):=of_decide_eq_true (by first | (with_reducible assumption) | assumption)
                        obtain ⟨ad116,e116,hx116_0⟩:=Kd.at_string HR0_3.out x3_3 p116 q116
                        obtain rfl : ad112 = ad116:=(by injection e116)
                        replace hx116_0:=(HB.out.cell (World.block_lt_of_cell? w _ hx116_0)).trans hx116_0
                        replace p116:=eq_true p116
                        replace q116:=eq_true q116
                        go_wp2
                        repeat (go_quiet (fail);try go_wp2)
                        go_ret
                        exact ⟨by first | rfl | (simp [errW_none,errW_some] <;> rfl) | (simp only [← hji31,← hji38];first | rfl | (simp [errW_none,errW_some] <;> rfl)) | (simp [*,errW_none,errW_some] <;> rfl),by repeat (first | (with_reducible first | exact HB.out | apply below_alloc | apply pw_below_drewN | apply below_drew1 | refine below_set ?_ GE108.out) | exact HB.out)⟩
                      ·rw [if_neg c40] at H
                       exact absurd H (by simp)
                     ·rw [if_neg c39] at H
                      exact absurd H (by simp)
                    ·rw [if_neg c37] at H
                     have c37b0 : ((Int.tmod x3_3 2) == 0) = false:=beq_eq_false_iff_ne.mpr c37
                     have c37b1 : ((Int.tmod x3_3 2) != 0) = true:=bne_iff_ne.mpr c37
                     have H':=Aside0.mk H
                     clear H
                     have hcz44_0 : wr.cell? ⟨gb108,0,none⟩ = some (.int .i64 a0_0):=(blk_cell BK108.out 0).trans rfl
                     have hcz44_1 : wr.cell? ⟨gb108,1,none⟩ = some (.int .i64 a0_1):=(blk_cell BK108.out 1).trans rfl
                     have hcz44_2 : wr.cell? ⟨gb108,2,none⟩ = some (.string a0_2):=(blk_cell BK108.out 2).trans rfl
                     have hcz44_3 : wr.cell? ⟨gb108,3,none⟩ = some (.slice A0_3 l0_3.length c0_3):=(blk_cell BK108.out 3).trans rfl
                     have hfz44_0:=blk_frozen BK108.out 0
                     have hfz44_1:=blk_frozen BK108.out 1
                     have hfz44_2:=blk_frozen BK108.out 2
                     have hfz44_3:=blk_frozen BK108.out 3
                     have p112 : 0 ≤ (x3_3 : Int):=of_decide_eq_true (by first | (with_reducible assumption) | assumption)
                     have q112 : x3_3 < (l0_3.length : Int):=of_decide_eq_true (by first | (with_reducible assumption) | assumption)
                     obtain ⟨ad112,e112,hx112_0⟩:=Kd.at_string HR0_3.out x3_3 p112 q112
                     cases e112
                     replace hx112_0:=(HB.out.cell (World.block_lt_of_cell? w _ hx112_0)).trans hx112_0
                     replace p112:=eq_true p112
                     replace q112:=eq_true q112
                     have p113 : 0 ≤ ((ji31) : Int):=of_decide_eq_true (by first | (with_reducible assumption) | assumption)
                     have q113 : (ji31) < (l0_3.length : Int):=of_decide_eq_true (by first | (with_reducible assumption) | assumption)
                     obtain ⟨ad113,e113,hx113_0⟩:=Kd.at_string HR0_3.out (ji31) p113 q113
                     obtain rfl : ad112 = ad113:=(by injection e113)
                     replace hx113_0:=(HB.out.cell (World.block_lt_of_cell? w _ hx113_0)).trans hx113_0
                     replace p113:=eq_true p113
                     replace q113:=eq_true q113
                     have p114 : 0 ≤ (x3_3 : Int):=of_decide_eq_true (by first | (with_reducible assumption) | assumption)
                     have q114 : x3_3 < (l0_3.length : Int):=of_decide_eq_true (by first | (with_reducible assumption) | assumption)
                     obtain ⟨ad114,e114,hx114_0⟩:=Kd.at_string HR0_3.out x3_3 p114 q114
                     obtain rfl : ad112 = ad114:=(by injection e114)
                     replace hx114_0:=(HB.out.cell (World.block_lt_of_cell? w _ hx114_0)).trans hx114_0
                     replace p114:=eq_true p114
                     replace q114:=eq_true q114
                     go_wp2
                     repeat (go_quiet (fail);try go_wp2)
                     go_roundg k3
                     case measure => have:=HJ1.out;have:=HJ13.out;have:=HK3.out;omega
                     case rel => exact ⟨(wrap64 (x3_3 + 1)),(by first | rfl | (simp;done) | (simp [*];done)),H',⟨by have:=HJ1.out;have:=HJ13.out;have:=HK3.out;omega⟩,⟨by (with_reducible repeat (first | refine blk_drewN ?_ _ | refine blk_drew ?_ | refine blk_alloc ?_ _));exact BK108.out⟩,⟨by repeat (first | (with_reducible first | exact HB.out | apply below_alloc | apply pw_below_drewN | apply below_drew1 | refine below_set ?_ GE108.out) | exact HB.out)⟩⟩
                   ·rw [if_neg c36] at H
                    have c36b0 : decide (1 < x3_3) = false:=decide_eq_false c36
                    clear c36
                    have H':=Aside0.mk H
                    clear H
                    have hcz45_0 : wr.cell? ⟨gb108,0,none⟩ = some (.int .i64 a0_0):=(blk_cell BK108.out 0).trans rfl
                    have hcz45_1 : wr.cell? ⟨gb108,1,none⟩ = some (.int .i64 a0_1):=(blk_cell BK108.out 1).trans rfl
                    have hcz45_2 : wr.cell? ⟨gb108,2,none⟩ = some (.string a0_2):=(blk_cell BK108.out 2).trans rfl
                    have hcz45_3 : wr.cell? ⟨gb108,3,none⟩ = some (.slice A0_3 l0_3.length c0_3):=(blk_cell BK108.out 3).trans rfl
                    have hfz45_0:=blk_frozen BK108.out 0
                    have hfz45_1:=blk_frozen BK108.out 1
                    have hfz45_2:=blk_frozen BK108.out 2
                    have hfz45_3:=blk_frozen BK108.out 3
                    have p112 : 0 ≤ (x3_3 : Int):=of_decide_eq_true (by first | (with_reducible assumption) | assumption)
                    have q112 : x3_3 < (l0_3.length : Int):=of_decide_eq_true (by first | (with_reducible assumption) | assumption)
                    obtain ⟨ad112,e112,hx112_0⟩:=Kd.at_string HR0_3.out x3_3 p112 q112
                    cases e112
                    replace hx112_0:=(HB.out.cell (World.block_lt_of_cell? w _ hx112_0)).trans hx112_0
                    replace p112:=eq_true p112
                    replace q112:=eq_true q112
                    have p113 : 0 ≤ ((ji31) : Int):=of_decide_eq_true (by first | (with_reducible assumption) | assumption)
                    have q113 : (ji31) < (l0_3.length : Int):=of_decide_eq_true (by first | (with_reducible assumption) | assumption)
                    obtain ⟨ad113,e113,hx113_0⟩:=Kd.at_string HR0_3.out (ji31) p113 q113
                    obtain rfl : ad112 = ad113:=(by injection e113)
                    replace hx113_0:=(HB.out.cell (World.block_lt_of_cell? w _ hx113_0)).trans hx113_0
                    replace p113:=eq_true p113
                    replace q113:=eq_true q113
                    have p114 : 0 ≤ (x3_3 : Int):=of_decide_eq_true (by first | (with_reducible assumption) | assumption)
                    have q114 : x3_3 < (l0_3.length : Int):=of_decide_eq_true (by first | (with_reducible assumption) | assumption)
                    obtain ⟨ad114,e114,hx114_0⟩:=Kd.at_string HR0_3.out x3_3 p114 q114
                    obtain rfl : ad112 = ad114:=(by injection e114)
                    replace hx114_0:=(HB.out.cell (World.block_lt_of_cell? w _ hx114_0)).trans hx114_0
                    replace p114:=eq_true p114
                    replace q114:=eq_true q114
                    go_wp2
                    repeat (go_quiet (fail);try go_wp2)
                    go_roundg k3
                    case measure => have:=HJ1.out;have:=HJ13.out;have:=HK3.out;omega
                    case rel => exact ⟨(wrap64 (x3_3 + 1)),(by first | rfl | (simp;done) | (simp [*];done)),H',⟨by have:=HJ1.out;have:=HJ13.out;have:=HK3.out;omega⟩,⟨by (with_reducible repeat (first | refine blk_drewN ?_ _ | refine blk_drew ?_ | refine blk_alloc ?_ _));exact BK108.out⟩,⟨by repeat (first | (with_reducible first | exact HB.out | apply below_alloc | apply pw_below_drewN | apply below_drew1 | refine below_set ?_ GE108.out) | exact HB.out)⟩⟩
                  ·rw [if_neg c35] at H
                   have c35b0 : (a0_0 == 3) = false:=beq_eq_false_iff_ne.mpr c35
                   have c35b1 : (a0_0 != 3) = true:=bne_iff_ne.mpr c35
                   have H':=Aside0.mk H
                   clear H
                   have hcz46_0 : wr.cell? ⟨gb108,0,none⟩ = some (.int .i64 a0_0):=(blk_cell BK108.out 0).trans rfl
                   have hcz46_1 : wr.cell? ⟨gb108,1,none⟩ = some (.int .i64 a0_1):=(blk_cell BK108.out 1).trans rfl
                   have hcz46_2 : wr.cell? ⟨gb108,2,none⟩ = some (.string a0_2):=(blk_cell BK108.out 2).trans rfl
                   have hcz46_3 : wr.cell? ⟨gb108,3,none⟩ = some (.slice A0_3 l0_3.length c0_3):=(blk_cell BK108.out 3).trans rfl
                   have hfz46_0:=blk_frozen BK108.out 0
                   have hfz46_1:=blk_frozen BK108.out 1
                   have hfz46_2:=blk_frozen BK108.out 2
                   have hfz46_3:=blk_frozen BK108.out 3
                   have p112 : 0 ≤ (x3_3 : Int):=of_decide_eq_true (by first | (with_reducible assumption) | assumption)
                   have q112 : x3_3 < (l0_3.length : Int):=of_decide_eq_true (by first | (with_reducible assumption) | assumption)
                   obtain ⟨ad112,e112,hx112_0⟩:=Kd.at_string HR0_3.out x3_3 p112 q112
                   cases e112
                   replace hx112_0:=(HB.out.cell (World.block_lt_of_cell? w _ hx112_0)).trans hx112_0
                   replace p112:=eq_true p112
                   replace q112:=eq_true q112
                   have p113 : 0 ≤ ((ji31) : Int):=of_decide_eq_true (by first | (with_reducible assumption) | assumption)
                   have q113 : (ji31) < (l0_3.length : Int):=of_decide_eq_true (by first | (with_reducible assumption) | assumption)
                   obtain ⟨ad113,e113,hx113_0⟩:=Kd.at_string HR0_3.out (ji31) p113 q113
                   obtain rfl : ad112 = ad113:=(by injection e113)
                   replace hx113_0:=(HB.out.cell (World.block_lt_of_cell? w _ hx113_0)).trans hx113_0
                   replace p113:=eq_true p113
                   replace q113:=eq_true q113
                   have p114 : 0 ≤ (x3_3 : Int):=of_decide_eq_true (by first | (with_reducible assumption) | assumption)
                   have q114 : x3_3 < (l0_3.length : Int):=of_decide_eq_true (by first | (with_reducible assumption) | assumption)
                   obtain ⟨ad114,e114,hx114_0⟩:=Kd.at_string HR0_3.out x3_3 p114 q114
                   obtain rfl : ad112 = ad114:=(by injection e114)
                   replace hx114_0:=(HB.out.cell (World.block_lt_of_cell? w _ hx114_0)).trans hx114_0
                   replace p114:=eq_true p114
                   replace q114:=eq_true q114
                   go_wp2
                   repeat (go_quiet (fail);try go_wp2)
                   go_roundg k3
                   case measure => have:=HJ1.out;have:=HJ13.out;have:=HK3.out;omega
                   case rel => exact ⟨(wrap64 (x3_3 + 1)),(by first | rfl | (simp;done) | (simp [*];done)),H',⟨by have:=HJ1.out;have:=HJ13.out;have:=HK3.out;omega⟩,⟨by (with_reducible repeat (first | refine blk_drewN ?_ _ | refine blk_drew ?_ | refine blk_alloc ?_ _));exact BK108.out⟩,⟨by repeat (first | (with_reducible first | exact HB.out | apply below_alloc | apply pw_below_drewN | apply below_drew1 | refine below_set ?_ GE108.out) | exact HB.out)⟩⟩
                 ·rw [if_neg c34] at H
                  have c34b0 : (Op.bytesLess ((rdOf ByteArray.empty l0_3 (ji31)).toList) ((rdOf ByteArray.empty l0_3 x3_3).toList)) = false:=by simpa using c34
                  clear c34
                  obtain rfl:=Option.some.inj H
                  have hcz47_0 : wr.cell? ⟨gb108,0,none⟩ = some (.int .i64 a0_0):=(blk_cell BK108.out 0).trans rfl
                  have hcz47_1 : wr.cell? ⟨gb108,1,none⟩ = some (.int .i64 a0_1):=(blk_cell BK108.out 1).trans rfl
                  have hcz47_2 : wr.cell? ⟨gb108,2,none⟩ = some (.string a0_2):=(blk_cell BK108.out 2).trans rfl
                  have hcz47_3 : wr.cell? ⟨gb108,3,none⟩ = some (.slice A0_3 l0_3.length c0_3):=(blk_cell BK108.out 3).trans rfl
                  have hfz47_0:=blk_frozen BK108.out 0
                  have hfz47_1:=blk_frozen BK108.out 1
                  have hfz47_2:=blk_frozen BK108.out 2
                  have hfz47_3:=blk_frozen BK108.out 3
                  have p112 : 0 ≤ (x3_3 : Int):=of_decide_eq_true (by first | (with_reducible assumption) | assumption)
                  have q112 : x3_3 < (l0_3.length : Int):=of_decide_eq_true (by first | (with_reducible assumption) | assumption)
                  obtain ⟨ad112,e112,hx112_0⟩:=Kd.at_string HR0_3.out x3_3 p112 q112
                  cases e112
                  replace hx112_0:=(HB.out.cell (World.block_lt_of_cell? w _ hx112_0)).trans hx112_0
                  replace p112:=eq_true p112
                  replace q112:=eq_true q112
                  have p113 : 0 ≤ ((ji31) : Int):=of_decide_eq_true (by first | (with_reducible assumption) | assumption)
                  have q113 : (ji31) < (l0_3.length : Int):=of_decide_eq_true (by first | (with_reducible assumption) | assumption)
                  obtain ⟨ad113,e113,hx113_0⟩:=Kd.at_string HR0_3.out (ji31) p113 q113
                  obtain rfl : ad112 = ad113:=(by injection e113)
                  replace hx113_0:=(HB.out.cell (World.block_lt_of_cell? w _ hx113_0)).trans hx113_0
                  replace p113:=eq_true p113
                  replace q113:=eq_true q113
                  have p114 : 0 ≤ (x3_3 : Int):=of_decide_eq_true (by first | (with_reducible assumption) | assumption)
                  have q114 : x3_3 < (l0_3.length : Int):=of_decide_eq_true (by first | (with_reducible assumption) | assumption)
                  obtain ⟨ad114,e114,hx114_0⟩:=Kd.at_string HR0_3.out x3_3 p114 q114
                  obtain rfl : ad112 = ad114:=(by injection e114)
                  replace hx114_0:=(HB.out.cell (World.block_lt_of_cell? w _ hx114_0)).trans hx114_0
                  replace p114:=eq_true p114
                  replace q114:=eq_true q114
                  go_wp2
                  repeat (go_quiet (fail);try go_wp2)
                  go_ret
                  exact ⟨by first | rfl | (simp [errW_none,errW_some] <;> rfl) | (simp only [← hji31];first | rfl | (simp [errW_none,errW_some] <;> rfl)) | (simp [*,errW_none,errW_some] <;> rfl),by repeat (first | (with_reducible first | exact HB.out | apply below_alloc | apply pw_below_drewN | apply below_drew1 | refine below_set ?_ GE108.out) | exact HB.out)⟩
                ·rw [if_neg c33] at H
                 exact absurd H (by simp)
               ·rw [if_neg c32] at H
                exact absurd H (by simp)
              ·rw [if_neg c30] at H
               have c30b0 : decide (0 < x3_3) = false:=decide_eq_false c30
               clear c30
               by_cases c48 : a0_0 = 3
               ·rw [if_pos c48] at H
                have c48b0 : (a0_0 == 3) = true:=beq_iff_eq.mpr c48
                have c48b1 : (a0_0 != 3) = false:=bne_eq_false_iff_eq.mpr c48
                clear c48
                by_cases c49 : x3_3 > 1
                ·rw [if_pos c49] at H
                 have c49b0 : decide (1 < x3_3) = true:=decide_eq_true c49
                 clear c49
                 by_cases c50 : (Int.tmod x3_3 2) = 0
                 ·rw [if_pos c50] at H
                  have c50b0 : ((Int.tmod x3_3 2) == 0) = true:=beq_iff_eq.mpr c50
                  have c50b1 : ((Int.tmod x3_3 2) != 0) = false:=bne_eq_false_iff_eq.mpr c50
                  clear c50
                  obtain ⟨ji51,hji51⟩ : ∃ j_ : Int,(wrap64 (x3_3 - 2)) = j_:=⟨_,rfl⟩
                  replace H : (if 0 ≤ (ji51) then (if (ji51) < (l0_3.length : Int) then (if ((Op.bytesLess ((rdOf ByteArray.empty l0_3 (ji51)).toList) ((rdOf ByteArray.empty l0_3 x3_3).toList)) = true) then (spec_ValOk.l0 k3 (wrap64 (x3_3 + 1)) a0_0 a0_1 a0_2 l0_3) else (some false)) else (none)) else (none)) = some r:=by first | (rw [hji51] at H;exact H) | (simp only [hji51] at H ⊢;exact H)
                  have hji51w : (IntKind.i64.wrap (x3_3 - 2)) = ji51:=(i64_w _).trans hji51
                  by_cases c52 : 0 ≤ (ji51)
                  ·rw [if_pos c52] at H
                   have c52b0 : decide (0 ≤ (ji51)) = true:=decide_eq_true c52
                   clear c52
                   by_cases c53 : (ji51) < (l0_3.length : Int)
                   ·rw [if_pos c53] at H
                    have c53b0 : decide ((ji51) < (l0_3.length : Int)) = true:=decide_eq_true c53
                    clear c53
                    by_cases c54 : ((Op.bytesLess ((rdOf ByteArray.empty l0_3 (ji51)).toList) ((rdOf ByteArray.empty l0_3 x3_3).toList)) = true)
                    ·rw [if_pos c54] at H
                     have c54b0 : (Op.bytesLess ((rdOf ByteArray.empty l0_3 (ji51)).toList) ((rdOf ByteArray.empty l0_3 x3_3).toList)) = true:=c54
                     clear c54
                     have H':=Aside0.mk H
                     clear H
                     have hcz55_0 : wr.cell? ⟨gb108,0,none⟩ = some (.int .i64 a0_0):=(blk_cell BK108.out 0).trans rfl
                     have hcz55_1 : wr.cell? ⟨gb108,1,none⟩ = some (.int .i64 a0_1):=(blk_cell BK108.out 1).trans rfl
                     have hcz55_2 : wr.cell? ⟨gb108,2,none⟩ = some (.string a0_2):=(blk_cell BK108.out 2).trans rfl
                     have hcz55_3 : wr.cell? ⟨gb108,3,none⟩ = some (.slice A0_3 l0_3.length c0_3):=(blk_cell BK108.out 3).trans rfl
                     have hfz55_0:=blk_frozen BK108.out 0
                     have hfz55_1:=blk_frozen BK108.out 1
                     have hfz55_2:=blk_frozen BK108.out 2
                     have hfz55_3:=blk_frozen BK108.out 3
                     have p112 : 0 ≤ (x3_3 : Int):=of_decide_eq_true (by first | (with_reducible assumption) | assumption)
                     have q112 : x3_3 < (l0_3.length : Int):=of_decide_eq_true (by first | (with_reducible assumption) | assumption)
                     obtain ⟨ad112,e112,hx112_0⟩:=Kd.at_string HR0_3.out x3_3 p112 q112
                     cases e112
                     replace hx112_0:=(HB.out.cell (World.block_lt_of_cell? w _ hx112_0)).trans hx112_0
                     replace p112:=eq_true p112
                     replace q112:=eq_true q112
                     have p117 : 0 ≤ ((ji51) : Int):=of_decide_eq_true (by first | (with_reducible assumption) | assumption)
                     have q117 : (ji51) < (l0_3.length : Int):=of_decide_eq_true (by first | (with_reducible assumption) | assumption)
                     obtain ⟨ad117,e117,hx117_0⟩:=Kd.at_string HR0_3.out (ji51) p117 q117
                     obtain rfl : ad112 = ad117:=(by injection e117)
                     replace hx117_0:=(HB.out.cell (World.block_lt_of_cell? w _ hx117_0)).trans hx117_0
                     replace p117:=eq_true p117
                     replace q117:=eq_true q117
                     have p118 : 0 ≤ (x3_3 : Int):=of_decide_eq_true (by first | (with_reducible assumption) | assumption)
                     have q118 : x3_3 < (l0_3.length : Int):=of_decide_eq_true (by first | (with_reducible assumption) | assumption)
                     obtain ⟨ad118,e118,hx118_0⟩:=Kd.at_string HR0_3.out x3_3 p118 q118
                     obtain rfl : ad112 = ad118:=(by injection e118)
                     replace hx118_0:=(HB.out.cell (World.block_lt_of_cell? w _ hx118_0)).trans hx118_0
                     replace p118:=eq_true p118
                     replace q118:=eq_true q118
                     go_wp2
                     repeat (go_quiet (fail);try go_wp2)
                     go_roundg k3
                     case measure => have:=HJ1.out;have:=HJ13.out;have:=HK3.out;omega
                     case rel => exact ⟨(wrap64 (x3_3 + 1)),(by first | rfl | (simp;done) | (simp [*];done)),H',⟨by have:=HJ1.out;have:=HJ13.out;have:=HK3.out;omega⟩,⟨by (with_reducible repeat (first | refine blk_drewN ?_ _ | refine blk_drew ?_ | refine blk_alloc ?_ _));exact BK108.out⟩,⟨by repeat (first | (with_reducible first | exact HB.out | apply below_alloc | apply pw_below_drewN | apply below_drew1 | refine below_set ?_ GE108.out) | exact HB.out)⟩⟩
                    ·rw [if_neg c54] at H
                     have c54b0 : (Op.bytesLess ((rdOf ByteArray.empty l0_3 (ji51)).toList) ((rdOf ByteArray.empty l0_3 x3_3).toList)) = false:=by simpa using c54
                     clear c54
                     obtain rfl:=Option.some.inj H
                     have hcz56_0 : wr.cell? ⟨gb108,0,none⟩ = some (.int .i64 a0_0):=(blk_cell BK108.out 0).trans rfl
                     have hcz56_1 : wr.cell? ⟨gb108,1,none⟩ = some (.int .i64 a0_1):=(blk_cell BK108.out 1).trans rfl
                     have hcz56_2 : wr.cell? ⟨gb108,2,none⟩ = some (.string a0_2):=(blk_cell BK108.out 2).trans rfl
                     have hcz56_3 : wr.cell? ⟨gb108,3,none⟩ = some (.slice A0_3 l0_3.length c0_3):=(blk_cell BK108.out 3).trans rfl
                     have hfz56_0:=blk_frozen BK108.out 0
                     have hfz56_1:=blk_frozen BK108.out 1
                     have hfz56_2:=blk_frozen BK108.out 2
                     have hfz56_3:=blk_frozen BK108.out 3
                     have p112 : 0 ≤ (x3_3 : Int):=of_decide_eq_true (by first | (with_reducible assumption) | assumption)
                     have q112 : x3_3 < (l0_3.length : Int):=of_decide_eq_true (by first | (with_reducible assumption) | assumption)
                     obtain ⟨ad112,e112,hx112_0⟩:=Kd.at_string HR0_3.out x3_3 p112 q112
                     cases e112
                     replace hx112_0:=(HB.out.cell (World.block_lt_of_cell? w _ hx112_0)).trans hx112_0
                     replace p112:=eq_true p112
                     replace q112:=eq_true q112
                     have p117 : 0 ≤ ((ji51) : Int):=of_decide_eq_true (by first | (with_reducible assumption) | assumption)
                     have q117 : (ji51) < (l0_3.length : Int):=of_decide_eq_true (by first | (with_reducible assumption) | assumption)
                     obtain ⟨ad117,e117,hx117_0⟩:=Kd.at_string HR0_3.out (ji51) p117 q117
                     obtain rfl : ad112 = ad117:=(by injection e117)
                     replace hx117_0:=(HB.out.cell (World.block_lt_of_cell? w _ hx117_0)).trans hx117_0
                     replace p117:=eq_true p117
                     replace q117:=eq_true q117
                     have p118 : 0 ≤ (x3_3 : Int):=of_decide_eq_true (by first | (with_reducible assumption) | assumption)
                     have q118 : x3_3 < (l0_3.length : Int):=of_decide_eq_true (by first | (with_reducible assumption) | assumption)
                     obtain ⟨ad118,e118,hx118_0⟩:=Kd.at_string HR0_3.out x3_3 p118 q118
                     obtain rfl : ad112 = ad118:=(by injection e118)
                     replace hx118_0:=(HB.out.cell (World.block_lt_of_cell? w _ hx118_0)).trans hx118_0
                     replace p118:=eq_true p118
                     replace q118:=eq_true q118
                     go_wp2
                     repeat (go_quiet (fail);try go_wp2)
                     go_ret
                     exact ⟨by first | rfl | (simp [errW_none,errW_some] <;> rfl) | (simp only [← hji51];first | rfl | (simp [errW_none,errW_some] <;> rfl)) | (simp [*,errW_none,errW_some] <;> rfl),by repeat (first | (with_reducible first | exact HB.out | apply below_alloc | apply pw_below_drewN | apply below_drew1 | refine below_set ?_ GE108.out) | exact HB.out)⟩
                   ·rw [if_neg c53] at H
                    exact absurd H (by simp)
                  ·rw [if_neg c52] at H
                   exact absurd H (by simp)
                 ·rw [if_neg c50] at H
                  have c50b0 : ((Int.tmod x3_3 2) == 0) = false:=beq_eq_false_iff_ne.mpr c50
                  have c50b1 : ((Int.tmod x3_3 2) != 0) = true:=bne_iff_ne.mpr c50
                  have H':=Aside0.mk H
                  clear H
                  have hcz57_0 : wr.cell? ⟨gb108,0,none⟩ = some (.int .i64 a0_0):=(blk_cell BK108.out 0).trans rfl
                  have hcz57_1 : wr.cell? ⟨gb108,1,none⟩ = some (.int .i64 a0_1):=(blk_cell BK108.out 1).trans rfl
                  have hcz57_2 : wr.cell? ⟨gb108,2,none⟩ = some (.string a0_2):=(blk_cell BK108.out 2).trans rfl
                  have hcz57_3 : wr.cell? ⟨gb108,3,none⟩ = some (.slice A0_3 l0_3.length c0_3):=(blk_cell BK108.out 3).trans rfl
                  have hfz57_0:=blk_frozen BK108.out 0
                  have hfz57_1:=blk_frozen BK108.out 1
                  have hfz57_2:=blk_frozen BK108.out 2
                  have hfz57_3:=blk_frozen BK108.out 3
                  have p112 : 0 ≤ (x3_3 : Int):=of_decide_eq_true (by first | (with_reducible assumption) | assumption)
                  have q112 : x3_3 < (l0_3.length : Int):=of_decide_eq_true (by first | (with_reducible assumption) | assumption)
                  obtain ⟨ad112,e112,hx112_0⟩:=Kd.at_string HR0_3.out x3_3 p112 q112
                  cases e112
                  replace hx112_0:=(HB.out.cell (World.block_lt_of_cell? w _ hx112_0)).trans hx112_0
                  replace p112:=eq_true p112
                  replace q112:=eq_true q112
                  go_wp2
                  repeat (go_quiet (fail);try go_wp2)
                  go_roundg k3
                  case measure => have:=HJ1.out;have:=HJ13.out;have:=HK3.out;omega
                  case rel => exact ⟨(wrap64 (x3_3 + 1)),(by first | rfl | (simp;done) | (simp [*];done)),H',⟨by have:=HJ1.out;have:=HJ13.out;have:=HK3.out;omega⟩,⟨by (with_reducible repeat (first | refine blk_drewN ?_ _ | refine blk_drew ?_ | refine blk_alloc ?_ _));exact BK108.out⟩,⟨by repeat (first | (with_reducible first | exact HB.out | apply below_alloc | apply pw_below_drewN | apply below_drew1 | refine below_set ?_ GE108.out) | exact HB.out)⟩⟩
                ·rw [if_neg c49] at H
                 have c49b0 : decide (1 < x3_3) = false:=decide_eq_false c49
                 clear c49
                 have H':=Aside0.mk H
                 clear H
                 have hcz58_0 : wr.cell? ⟨gb108,0,none⟩ = some (.int .i64 a0_0):=(blk_cell BK108.out 0).trans rfl
                 have hcz58_1 : wr.cell? ⟨gb108,1,none⟩ = some (.int .i64 a0_1):=(blk_cell BK108.out 1).trans rfl
                 have hcz58_2 : wr.cell? ⟨gb108,2,none⟩ = some (.string a0_2):=(blk_cell BK108.out 2).trans rfl
                 have hcz58_3 : wr.cell? ⟨gb108,3,none⟩ = some (.slice A0_3 l0_3.length c0_3):=(blk_cell BK108.out 3).trans rfl
                 have hfz58_0:=blk_frozen BK108.out 0
                 have hfz58_1:=blk_frozen BK108.out 1
                 have hfz58_2:=blk_frozen BK108.out 2
                 have hfz58_3:=blk_frozen BK108.out 3
                 have p112 : 0 ≤ (x3_3 : Int):=of_decide_eq_true (by first | (with_reducible assumption) | assumption)
                 have q112 : x3_3 < (l0_3.length : Int):=of_decide_eq_true (by first | (with_reducible assumption) | assumption)
                 obtain ⟨ad112,e112,hx112_0⟩:=Kd.at_string HR0_3.out x3_3 p112 q112
                 cases e112
                 replace hx112_0:=(HB.out.cell (World.block_lt_of_cell? w _ hx112_0)).trans hx112_0
                 replace p112:=eq_true p112
                 replace q112:=eq_true q112
                 go_wp2
                 repeat (go_quiet (fail);try go_wp2)
                 go_roundg k3
                 case measure => have:=HJ1.out;have:=HJ13.out;have:=HK3.out;omega
                 case rel => exact ⟨(wrap64 (x3_3 + 1)),(by first | rfl | (simp;done) | (simp [*];done)),H',⟨by have:=HJ1.out;have:=HJ13.out;have:=HK3.out;omega⟩,⟨by (with_reducible repeat (first | refine blk_drewN ?_ _ | refine blk_drew ?_ | refine blk_alloc ?_ _));exact BK108.out⟩,⟨by repeat (first | (with_reducible first | exact HB.out | apply below_alloc | apply pw_below_drewN | apply below_drew1 | refine below_set ?_ GE108.out) | exact HB.out)⟩⟩
               ·rw [if_neg c48] at H
                have c48b0 : (a0_0 == 3) = false:=beq_eq_false_iff_ne.mpr c48
                have c48b1 : (a0_0 != 3) = true:=bne_iff_ne.mpr c48
                have H':=Aside0.mk H
                clear H
                have hcz59_0 : wr.cell? ⟨gb108,0,none⟩ = some (.int .i64 a0_0):=(blk_cell BK108.out 0).trans rfl
                have hcz59_1 : wr.cell? ⟨gb108,1,none⟩ = some (.int .i64 a0_1):=(blk_cell BK108.out 1).trans rfl
                have hcz59_2 : wr.cell? ⟨gb108,2,none⟩ = some (.string a0_2):=(blk_cell BK108.out 2).trans rfl
                have hcz59_3 : wr.cell? ⟨gb108,3,none⟩ = some (.slice A0_3 l0_3.length c0_3):=(blk_cell BK108.out 3).trans rfl
                have hfz59_0:=blk_frozen BK108.out 0
                have hfz59_1:=blk_frozen BK108.out 1
                have hfz59_2:=blk_frozen BK108.out 2
                have hfz59_3:=blk_frozen BK108.out 3
                have p112 : 0 ≤ (x3_3 : Int):=of_decide_eq_true (by first | (with_reducible assumption) | assumption)
                have q112 : x3_3 < (l0_3.length : Int):=of_decide_eq_true (by first | (with_reducible assumption) | assumption)
                obtain ⟨ad112,e112,hx112_0⟩:=Kd.at_string HR0_3.out x3_3 p112 q112
                cases e112
                replace hx112_0:=(HB.out.cell (World.block_lt_of_cell? w _ hx112_0)).trans hx112_0
                replace p112:=eq_true p112
                replace q112:=eq_true q112
                go_wp2
                repeat (go_quiet (fail);try go_wp2)
                go_roundg k3
                case measure => have:=HJ1.out;have:=HJ13.out;have:=HK3.out;omega
                case rel => exact ⟨(wrap64 (x3_3 + 1)),(by first | rfl | (simp;done) | (simp [*];done)),H',⟨by have:=HJ1.out;have:=HJ13.out;have:=HK3.out;omega⟩,⟨by (with_reducible repeat (first | refine blk_drewN ?_ _ | refine blk_drew ?_ | refine blk_alloc ?_ _));exact BK108.out⟩,⟨by repeat (first | (with_reducible first | exact HB.out | apply below_alloc | apply pw_below_drewN | apply below_drew1 | refine below_set ?_ GE108.out) | exact HB.out)⟩⟩
             ·rw [if_neg c29] at H
              have c29b0 : (a0_0 == 4) = false:=beq_eq_false_iff_ne.mpr c29
              have c29b1 : (a0_0 != 4) = true:=bne_iff_ne.mpr c29
              by_cases c60 : a0_0 = 3
              ·rw [if_pos c60] at H
               have c60b0 : (a0_0 == 3) = true:=beq_iff_eq.mpr c60
               have c60b1 : (a0_0 != 3) = false:=bne_eq_false_iff_eq.mpr c60
               clear c60
               by_cases c61 : x3_3 > 1
               ·rw [if_pos c61] at H
                have c61b0 : decide (1 < x3_3) = true:=decide_eq_true c61
                clear c61
                by_cases c62 : (Int.tmod x3_3 2) = 0
                ·rw [if_pos c62] at H
                 have c62b0 : ((Int.tmod x3_3 2) == 0) = true:=beq_iff_eq.mpr c62
                 have c62b1 : ((Int.tmod x3_3 2) != 0) = false:=bne_eq_false_iff_eq.mpr c62
                 clear c62
                 obtain ⟨ji63,hji63⟩ : ∃ j_ : Int,(wrap64 (x3_3 - 2)) = j_:=⟨_,rfl⟩
                 replace H : (if 0 ≤ (ji63) then (if (ji63) < (l0_3.length : Int) then (if ((Op.bytesLess ((rdOf ByteArray.empty l0_3 (ji63)).toList) ((rdOf ByteArray.empty l0_3 x3_3).toList)) = true) then (spec_ValOk.l0 k3 (wrap64 (x3_3 + 1)) a0_0 a0_1 a0_2 l0_3) else (some false)) else (none)) else (none)) = some r:=by first | (rw [hji63] at H;exact H) | (simp only [hji63] at H ⊢;exact H)
                 have hji63w : (IntKind.i64.wrap (x3_3 - 2)) = ji63:=(i64_w _).trans hji63
                 by_cases c64 : 0 ≤ (ji63)
                 ·rw [if_pos c64] at H
                  have c64b0 : decide (0 ≤ (ji63)) = true:=decide_eq_true c64
                  clear c64
                  by_cases c65 : (ji63) < (l0_3.length : Int)
                  ·rw [if_pos c65] at H
                   have c65b0 : decide ((ji63) < (l0_3.length : Int)) = true:=decide_eq_true c65
                   clear c65
                   by_cases c66 : ((Op.bytesLess ((rdOf ByteArray.empty l0_3 (ji63)).toList) ((rdOf ByteArray.empty l0_3 x3_3).toList)) = true)
                   ·rw [if_pos c66] at H
                    have c66b0 : (Op.bytesLess ((rdOf ByteArray.empty l0_3 (ji63)).toList) ((rdOf ByteArray.empty l0_3 x3_3).toList)) = true:=c66
                    clear c66
                    have H':=Aside0.mk H
                    clear H
                    have hcz67_0 : wr.cell? ⟨gb108,0,none⟩ = some (.int .i64 a0_0):=(blk_cell BK108.out 0).trans rfl
                    have hcz67_1 : wr.cell? ⟨gb108,1,none⟩ = some (.int .i64 a0_1):=(blk_cell BK108.out 1).trans rfl
                    have hcz67_2 : wr.cell? ⟨gb108,2,none⟩ = some (.string a0_2):=(blk_cell BK108.out 2).trans rfl
                    have hcz67_3 : wr.cell? ⟨gb108,3,none⟩ = some (.slice A0_3 l0_3.length c0_3):=(blk_cell BK108.out 3).trans rfl
                    have hfz67_0:=blk_frozen BK108.out 0
                    have hfz67_1:=blk_frozen BK108.out 1
                    have hfz67_2:=blk_frozen BK108.out 2
                    have hfz67_3:=blk_frozen BK108.out 3
                    have p112 : 0 ≤ (x3_3 : Int):=of_decide_eq_true (by first | (with_reducible assumption) | assumption)
                    have q112 : x3_3 < (l0_3.length : Int):=of_decide_eq_true (by first | (with_reducible assumption) | assumption)
                    obtain ⟨ad112,e112,hx112_0⟩:=Kd.at_string HR0_3.out x3_3 p112 q112
                    cases e112
                    replace hx112_0:=(HB.out.cell (World.block_lt_of_cell? w _ hx112_0)).trans hx112_0
                    replace p112:=eq_true p112
                    replace q112:=eq_true q112
                    have p119 : 0 ≤ ((ji63) : Int):=of_decide_eq_true (by first | (with_reducible assumption) | assumption)
                    have q119 : (ji63) < (l0_3.length : Int):=of_decide_eq_true (by first | (with_reducible assumption) | assumption)
                    obtain ⟨ad119,e119,hx119_0⟩:=Kd.at_string HR0_3.out (ji63) p119 q119
                    obtain rfl : ad112 = ad119:=(by injection e119)
                    replace hx119_0:=(HB.out.cell (World.block_lt_of_cell? w _ hx119_0)).trans hx119_0
                    replace p119:=eq_true p119
                    replace q119:=eq_true q119
                    have p120 : 0 ≤ (x3_3 : Int):=of_decide_eq_true (by first | (with_reducible assumption) | assumption)
                    have q120 : x3_3 < (l0_3.length : Int):=of_decide_eq_true (by first | (with_reducible assumption) | assumption)
                    obtain ⟨ad120,e120,hx120_0⟩:=Kd.at_string HR0_3.out x3_3 p120 q120
                    obtain rfl : ad112 = ad120:=(by injection e120)
                    replace hx120_0:=(HB.out.cell (World.block_lt_of_cell? w _ hx120_0)).trans hx120_0
                    replace p120:=eq_true p120
                    replace q120:=eq_true q120
                    go_wp2
                    repeat (go_quiet (fail);try go_wp2)
                    go_roundg k3
                    case measure => have:=HJ1.out;have:=HJ13.out;have:=HK3.out;omega
                    case rel => exact ⟨(wrap64 (x3_3 + 1)),(by first | rfl | (simp;done) | (simp [*];done)),H',⟨by have:=HJ1.out;have:=HJ13.out;have:=HK3.out;omega⟩,⟨by (with_reducible repeat (first | refine blk_drewN ?_ _ | refine blk_drew ?_ | refine blk_alloc ?_ _));exact BK108.out⟩,⟨by repeat (first | (with_reducible first | exact HB.out | apply below_alloc | apply pw_below_drewN | apply below_drew1 | refine below_set ?_ GE108.out) | exact HB.out)⟩⟩
                   ·rw [if_neg c66] at H
                    have c66b0 : (Op.bytesLess ((rdOf ByteArray.empty l0_3 (ji63)).toList) ((rdOf ByteArray.empty l0_3 x3_3).toList)) = false:=by simpa using c66
                    clear c66
                    obtain rfl:=Option.some.inj H
                    have hcz68_0 : wr.cell? ⟨gb108,0,none⟩ = some (.int .i64 a0_0):=(blk_cell BK108.out 0).trans rfl
                    have hcz68_1 : wr.cell? ⟨gb108,1,none⟩ = some (.int .i64 a0_1):=(blk_cell BK108.out 1).trans rfl
                    have hcz68_2 : wr.cell? ⟨gb108,2,none⟩ = some (.string a0_2):=(blk_cell BK108.out 2).trans rfl
                    have hcz68_3 : wr.cell? ⟨gb108,3,none⟩ = some (.slice A0_3 l0_3.length c0_3):=(blk_cell BK108.out 3).trans rfl
                    have hfz68_0:=blk_frozen BK108.out 0
                    have hfz68_1:=blk_frozen BK108.out 1
                    have hfz68_2:=blk_frozen BK108.out 2
                    have hfz68_3:=blk_frozen BK108.out 3
                    have p112 : 0 ≤ (x3_3 : Int):=of_decide_eq_true (by first | (with_reducible assumption) | assumption)
                    have q112 : x3_3 < (l0_3.length : Int):=of_decide_eq_true (by first | (with_reducible assumption) | assumption)
                    obtain ⟨ad112,e112,hx112_0⟩:=Kd.at_string HR0_3.out x3_3 p112 q112
                    cases e112
                    replace hx112_0:=(HB.out.cell (World.block_lt_of_cell? w _ hx112_0)).trans hx112_0
                    replace p112:=eq_true p112
                    replace q112:=eq_true q112
                    have p119 : 0 ≤ ((ji63) : Int):=of_decide_eq_true (by first | (with_reducible assumption) | assumption)
                    have q119 : (ji63) < (l0_3.length : Int):=of_decide_eq_true (by first | (with_reducible assumption) | assumption)
                    obtain ⟨ad119,e119,hx119_0⟩:=Kd.at_string HR0_3.out (ji63) p119 q119
                    obtain rfl : ad112 = ad119:=(by injection e119)
                    replace hx119_0:=(HB.out.cell (World.block_lt_of_cell? w _ hx119_0)).trans hx119_0
                    replace p119:=eq_true p119
                    replace q119:=eq_true q119
                    have p120 : 0 ≤ (x3_3 : Int):=of_decide_eq_true (by first | (with_reducible assumption) | assumption)
                    have q120 : x3_3 < (l0_3.length : Int):=of_decide_eq_true (by first | (with_reducible assumption) | assumption)
                    obtain ⟨ad120,e120,hx120_0⟩:=Kd.at_string HR0_3.out x3_3 p120 q120
                    obtain rfl : ad112 = ad120:=(by injection e120)
                    replace hx120_0:=(HB.out.cell (World.block_lt_of_cell? w _ hx120_0)).trans hx120_0
                    replace p120:=eq_true p120
                    replace q120:=eq_true q120
                    go_wp2
                    repeat (go_quiet (fail);try go_wp2)
                    go_ret
                    exact ⟨by first | rfl | (simp [errW_none,errW_some] <;> rfl) | (simp only [← hji63];first | rfl | (simp [errW_none,errW_some] <;> rfl)) | (simp [*,errW_none,errW_some] <;> rfl),by repeat (first | (with_reducible first | exact HB.out | apply below_alloc | apply pw_below_drewN | apply below_drew1 | refine below_set ?_ GE108.out) | exact HB.out)⟩
                  ·rw [if_neg c65] at H
                   exact absurd H (by simp)
                 ·rw [if_neg c64] at H
                  exact absurd H (by simp)
                ·rw [if_neg c62] at H
                 have c62b0 : ((Int.tmod x3_3 2) == 0) = false:=beq_eq_false_iff_ne.mpr c62
                 have c62b1 : ((Int.tmod x3_3 2) != 0) = true:=bne_iff_ne.mpr c62
                 have H':=Aside0.mk H
                 clear H
                 have hcz69_0 : wr.cell? ⟨gb108,0,none⟩ = some (.int .i64 a0_0):=(blk_cell BK108.out 0).trans rfl
                 have hcz69_1 : wr.cell? ⟨gb108,1,none⟩ = some (.int .i64 a0_1):=(blk_cell BK108.out 1).trans rfl
                 have hcz69_2 : wr.cell? ⟨gb108,2,none⟩ = some (.string a0_2):=(blk_cell BK108.out 2).trans rfl
                 have hcz69_3 : wr.cell? ⟨gb108,3,none⟩ = some (.slice A0_3 l0_3.length c0_3):=(blk_cell BK108.out 3).trans rfl
                 have hfz69_0:=blk_frozen BK108.out 0
                 have hfz69_1:=blk_frozen BK108.out 1
                 have hfz69_2:=blk_frozen BK108.out 2
                 have hfz69_3:=blk_frozen BK108.out 3
                 have p112 : 0 ≤ (x3_3 : Int):=of_decide_eq_true (by first | (with_reducible assumption) | assumption)
                 have q112 : x3_3 < (l0_3.length : Int):=of_decide_eq_true (by first | (with_reducible assumption) | assumption)
                 obtain ⟨ad112,e112,hx112_0⟩:=Kd.at_string HR0_3.out x3_3 p112 q112
                 cases e112
                 replace hx112_0:=(HB.out.cell (World.block_lt_of_cell? w _ hx112_0)).trans hx112_0
                 replace p112:=eq_true p112
                 replace q112:=eq_true q112
                 go_wp2
                 repeat (go_quiet (fail);try go_wp2)
                 go_roundg k3
                 case measure => have:=HJ1.out;have:=HJ13.out;have:=HK3.out;omega
                 case rel => exact ⟨(wrap64 (x3_3 + 1)),(by first | rfl | (simp;done) | (simp [*];done)),H',⟨by have:=HJ1.out;have:=HJ13.out;have:=HK3.out;omega⟩,⟨by (with_reducible repeat (first | refine blk_drewN ?_ _ | refine blk_drew ?_ | refine blk_alloc ?_ _));exact BK108.out⟩,⟨by repeat (first | (with_reducible first | exact HB.out | apply below_alloc | apply pw_below_drewN | apply below_drew1 | refine below_set ?_ GE108.out) | exact HB.out)⟩⟩
               ·rw [if_neg c61] at H
                have c61b0 : decide (1 < x3_3) = false:=decide_eq_false c61
                clear c61
                have H':=Aside0.mk H
                clear H
                have hcz70_0 : wr.cell? ⟨gb108,0,none⟩ = some (.int .i64 a0_0):=(blk_cell BK108.out 0).trans rfl
                have hcz70_1 : wr.cell? ⟨gb108,1,none⟩ = some (.int .i64 a0_1):=(blk_cell BK108.out 1).trans rfl
                have hcz70_2 : wr.cell? ⟨gb108,2,none⟩ = some (.string a0_2):=(blk_cell BK108.out 2).trans rfl
                have hcz70_3 : wr.cell? ⟨gb108,3,none⟩ = some (.slice A0_3 l0_3.length c0_3):=(blk_cell BK108.out 3).trans rfl
                have hfz70_0:=blk_frozen BK108.out 0
                have hfz70_1:=blk_frozen BK108.out 1
                have hfz70_2:=blk_frozen BK108.out 2
                have hfz70_3:=blk_frozen BK108.out 3
                have p112 : 0 ≤ (x3_3 : Int):=of_decide_eq_true (by first | (with_reducible assumption) | assumption)
                have q112 : x3_3 < (l0_3.length : Int):=of_decide_eq_true (by first | (with_reducible assumption) | assumption)
                obtain ⟨ad112,e112,hx112_0⟩:=Kd.at_string HR0_3.out x3_3 p112 q112
                cases e112
                replace hx112_0:=(HB.out.cell (World.block_lt_of_cell? w _ hx112_0)).trans hx112_0
                replace p112:=eq_true p112
                replace q112:=eq_true q112
                go_wp2
                repeat (go_quiet (fail);try go_wp2)
                go_roundg k3
                case measure => have:=HJ1.out;have:=HJ13.out;have:=HK3.out;omega
                case rel => exact ⟨(wrap64 (x3_3 + 1)),(by first | rfl | (simp;done) | (simp [*];done)),H',⟨by have:=HJ1.out;have:=HJ13.out;have:=HK3.out;omega⟩,⟨by (with_reducible repeat (first | refine blk_drewN ?_ _ | refine blk_drew ?_ | refine blk_alloc ?_ _));exact BK108.out⟩,⟨by repeat (first | (with_reducible first | exact HB.out | apply below_alloc | apply pw_below_drewN | apply below_drew1 | refine below_set ?_ GE108.out) | exact HB.out)⟩⟩
              ·rw [if_neg c60] at H
               have c60b0 : (a0_0 == 3) = false:=beq_eq_false_iff_ne.mpr c60
               have c60b1 : (a0_0 != 3) = true:=bne_iff_ne.mpr c60
               have H':=Aside0.mk H
               clear H
               have hcz71_0 : wr.cell? ⟨gb108,0,none⟩ = some (.int .i64 a0_0):=(blk_cell BK108.out 0).trans rfl
               have hcz71_1 : wr.cell? ⟨gb108,1,none⟩ = some (.int .i64 a0_1):=(blk_cell BK108.out 1).trans rfl
               have hcz71_2 : wr.cell? ⟨gb108,2,none⟩ = some (.string a0_2):=(blk_cell BK108.out 2).trans rfl
               have hcz71_3 : wr.cell? ⟨gb108,3,none⟩ = some (.slice A0_3 l0_3.length c0_3):=(blk_cell BK108.out 3).trans rfl
               have hfz71_0:=blk_frozen BK108.out 0
               have hfz71_1:=blk_frozen BK108.out 1
               have hfz71_2:=blk_frozen BK108.out 2
               have hfz71_3:=blk_frozen BK108.out 3
               have p112 : 0 ≤ (x3_3 : Int):=of_decide_eq_true (by first | (with_reducible assumption) | assumption)
               have q112 : x3_3 < (l0_3.length : Int):=of_decide_eq_true (by first | (with_reducible assumption) | assumption)
               obtain ⟨ad112,e112,hx112_0⟩:=Kd.at_string HR0_3.out x3_3 p112 q112
               cases e112
               replace hx112_0:=(HB.out.cell (World.block_lt_of_cell? w _ hx112_0)).trans hx112_0
               replace p112:=eq_true p112
               replace q112:=eq_true q112
               go_wp2
               repeat (go_quiet (fail);try go_wp2)
               go_roundg k3
               case measure => have:=HJ1.out;have:=HJ13.out;have:=HK3.out;omega
               case rel => exact ⟨(wrap64 (x3_3 + 1)),(by first | rfl | (simp;done) | (simp [*];done)),H',⟨by have:=HJ1.out;have:=HJ13.out;have:=HK3.out;omega⟩,⟨by (with_reducible repeat (first | refine blk_drewN ?_ _ | refine blk_drew ?_ | refine blk_alloc ?_ _));exact BK108.out⟩,⟨by repeat (first | (with_reducible first | exact HB.out | apply below_alloc | apply pw_below_drewN | apply below_drew1 | refine below_set ?_ GE108.out) | exact HB.out)⟩⟩
           ·rw [if_neg c26] at H
            exact absurd H (by simp)
          ·rw [if_neg c25] at H
           have c25b0 : decide (x3_3 < (l0_3.length : Int)) = false:=decide_eq_false c25
           clear c25
           obtain rfl:=Option.some.inj H
           have hcz72_0 : wr.cell? ⟨gb108,0,none⟩ = some (.int .i64 a0_0):=(blk_cell BK108.out 0).trans rfl
           have hcz72_1 : wr.cell? ⟨gb108,1,none⟩ = some (.int .i64 a0_1):=(blk_cell BK108.out 1).trans rfl
           have hcz72_2 : wr.cell? ⟨gb108,2,none⟩ = some (.string a0_2):=(blk_cell BK108.out 2).trans rfl
           have hcz72_3 : wr.cell? ⟨gb108,3,none⟩ = some (.slice A0_3 l0_3.length c0_3):=(blk_cell BK108.out 3).trans rfl
           have hfz72_0:=blk_frozen BK108.out 0
           have hfz72_1:=blk_frozen BK108.out 1
           have hfz72_2:=blk_frozen BK108.out 2
           have hfz72_3:=blk_frozen BK108.out 3
           go_wp2
           repeat (go_quiet (fail);try go_wp2)
           go_ret
           exact ⟨by first | rfl | (simp [errW_none,errW_some] <;> rfl) | (simp [*,errW_none,errW_some] <;> rfl),by repeat (first | (with_reducible first | exact HB.out | apply below_alloc | apply pw_below_drewN | apply below_drew1 | refine below_set ?_ GE108.out) | exact HB.out)⟩

end Go.Proofs.Ytlekhcopddajbaa.PFnExactDiffer
