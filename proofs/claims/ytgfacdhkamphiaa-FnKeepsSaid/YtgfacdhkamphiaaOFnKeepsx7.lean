/- Walks of functions that the law FnKeeps reaches, turned by this session from a print of which a part did not build; what was changed is listed in wip/patches of the proofs' repo. -/
import Derived.Test.YtgfacdhkamphiaaOFnKeepsx0
import Derived.Test.YtgfacdhkamphiaaOFnKeepsx1
import Derived.Test.YtgfacdhkamphiaaOFnKeepsx3
import Derived.Test.YtgfacdhkamphiaaOFnKeepsx6
namespace Go.Proofs.Ytgfacdhkamphiaa.PFnKeeps
open Go.RowKit Go.Proofs.YtgfacdhkamphiaaW.PrintWords Go.Proofs.YtgfacdhkamphiaaW.PrintLast Go.Proofs.YtgfacdhkamphiaaW.PrintMore
attribute [local go_sem] max2_int min2_int max_two min_two max_three min_three max_four min_four   -- for this text's walks alone
set_option linter.unusedVariables false
set_option linter.unusedSimpArgs false

theorem qA7 {α : Type} (l : List α) (i : Nat) (a : α) : l.toArray.setIfInBounds i a = (l.set i a).toArray := by simp
theorem qB7 {α : Type} (x y : α) (l : List α) : (x :: l).set 0 y = y :: l := List.set_cons_zero ..
theorem qC7 {α : Type} (x y : α) (l : List α) (n : Nat) : (x :: l).set (n + 1) y = x :: l.set n y := List.set_cons_succ ..

abbrev Y7:Bool:=true
abbrev Z7:Bool:=false
/-! ### impl_LoseDisk: function 25 -/
def impl_LoseDisk.l0 : Nat → List Int → Int → Int → List (S45) → Option ((List (S45)) × Bool)
 | 0,_,_,_,_ => none
 | k + 1,x1,x18,x19,x221000 => if x19 < x18 then (if 0 ≤ x19 then (if x19 < (x221000.length : Int) then (if x19 < (x1.length : Int) then (if 0 ≤ (mx ((rd_T45 x221000 x19).f2) (mn (rd x1 x19) (((rd_T45 x221000 x19).f1).size : Int))) then (if (mx ((rd_T45 x221000 x19).f2) (mn (rd x1 x19) (((rd_T45 x221000 x19).f1).size : Int))) ≤ (((rd_T45 x221000 x19).f1).size : Int) then ((some (x221000.set (x19 : Int).toNat (⟨(rd_T45 x221000 x19).f0,((rd_T45 x221000 x19).f1).extract 0 ((mx ((rd_T45 x221000 x19).f2) (mn (rd x1 x19) (((rd_T45 x221000 x19).f1).size : Int))) : Int).toNat,(rd_T45 x221000 x19).f2⟩ : S45) : List (S45))).bind fun y224 => (impl_LoseDisk.l0 k x1 x18 (wrap64 (x19 + 1)) (y224.set (x19 : Int).toNat (⟨(rd_T45 y224 x19).f0,(rd_T45 y224 x19).f1,mx ((rd_T45 x221000 x19).f2) (mn (rd x1 x19) (((rd_T45 x221000 x19).f1).size : Int))⟩ : S45)))) else (none)) else (none)) else (if 0 ≤ (mx ((rd_T45 x221000 x19).f2) (mn 0 (((rd_T45 x221000 x19).f1).size : Int))) then (if (mx ((rd_T45 x221000 x19).f2) (mn 0 (((rd_T45 x221000 x19).f1).size : Int))) ≤ (((rd_T45 x221000 x19).f1).size : Int) then ((some (x221000.set (x19 : Int).toNat (⟨(rd_T45 x221000 x19).f0,((rd_T45 x221000 x19).f1).extract 0 ((mx ((rd_T45 x221000 x19).f2) (mn 0 (((rd_T45 x221000 x19).f1).size : Int))) : Int).toNat,(rd_T45 x221000 x19).f2⟩ : S45) : List (S45))).bind fun y226 => (impl_LoseDisk.l0 k x1 x18 (wrap64 (x19 + 1)) (y226.set (x19 : Int).toNat (⟨(rd_T45 y226 x19).f0,(rd_T45 y226 x19).f1,mx ((rd_T45 x221000 x19).f2) (mn 0 (((rd_T45 x221000 x19).f1).size : Int))⟩ : S45)))) else (none)) else (none))) else (none)) else (none)) else (some (x221000,true))
def impl_LoseDisk.f (k : Nat) (l0_0 : List (S45)) (l1 : List Int) : Option ((List (S45)) × Bool):=(impl_DiskOk.f k l0_0).bind fun t216 => (if t216 = true then ((impl_copyDisk.f l0_0).bind fun t217 => (impl_LoseDisk.l0 k l1 (t217.length : Int) 0 t217)) else (some (([] : List (S45)),false)))
theorem impl_LoseDisk.mono_l : ∀ k,(∀ y0 y1 y2 y3,LeO (impl_LoseDisk.l0 k y0 y1 y2 y3) (impl_LoseDisk.l0 (k + 1) y0 y1 y2 y3))
 | 0 => fun _ _ _ _ r h => by simp [impl_LoseDisk.l0] at h
 | k + 1 => by
  have ih0:=impl_LoseDisk.mono_l k
  ·intro y0 y1 y2 y3
   unfold impl_LoseDisk.l0
   repeat' first
   | (with_reducible exact ih0 _ _ _ _)
   | (with_reducible exact impl_DiskOk.mono _ _)
   | (with_reducible exact LeO.refl _)
   | (with_reducible exact LeO.none _)
   | (with_reducible refine LeO.ite ?_ ?_)
   | (with_reducible refine LeO.bind ?_ (fun _ => ?_))
   | exact ih0 _ _ _ _
   | exact impl_DiskOk.mono _ _
   | exact LeO.none _
   | refine LeO.ite ?_ ?_
   | refine LeO.bind ?_ (fun _ => ?_)
theorem impl_LoseDisk.mono : ∀ a0 a1 k,LeO (impl_LoseDisk.f k a0 a1) (impl_LoseDisk.f (k + 1) a0 a1):=by
 intro a0 a1 k
 have ih0:=impl_LoseDisk.mono_l k
 unfold impl_LoseDisk.f
 repeat' first
   | (with_reducible exact ih0 _ _ _ _)
   | (with_reducible exact impl_DiskOk.mono _ _)
   | (with_reducible exact LeO.refl _)
   | (with_reducible exact LeO.none _)
   | (with_reducible refine LeO.ite ?_ ?_)
   | (with_reducible refine LeO.bind ?_ (fun _ => ?_))
   | exact ih0 _ _ _ _
   | exact impl_DiskOk.mono _ _
   | exact LeO.none _
   | refine LeO.ite ?_ ?_
   | refine LeO.bind ?_ (fun _ => ?_)
def impl_LoseDisk.T11 : Bool × List (List Nat × List Nat):=(true,[([],[]),([0],[0]),([],[]),([],[]),([3],[3]),([],[]),([],[]),([6],[6]),([],[]),([7,8],[7,8]),([],[]),([1,2,0,1,2,6,7,8,9],[1,2]),([11,0,1,2,6,7,8,9],[11]),([12,9,0,1,2,6,7,8,9],[9,12]),([4,5,0,1,2,3,4,5,6,7,8,9,10,11,12,13],[4,5]),([14,0,1,2,3,4,5,6,7,8,9,10,11,12,13],[14]),([15,10,13,0,1,2,3,4,5,6,7,8,9,10,11,12,13],[10,15])])
def impl_LoseDisk.B11 : List Nat:=[0,1,0,0,8,0,0,64,0,448,0,967,3015,7111,16383,32767,65535]
theorem impl_LoseDisk.tab11 : rtab .any (opsOf Try.f25 11) = impl_LoseDisk.T11:=by kernel_rfl
theorem impl_LoseDisk.bits11 : waitsOk impl_LoseDisk.T11.2 impl_LoseDisk.B11 = true:=by kernel_rfl
set_option maxHeartbeats 8000000 in
set_option maxRecDepth 100000 in
theorem impl_LoseDisk.calls (k : Nat) (A0_0 : Option Addr) (c0_0 : Nat) (l0_0 : List (S45)) (A1 : Option Addr) (c1 : Nat) (l1 : List Int) (r1 : List (S45)) (r2 : Bool) (w : World) (hr0_0 : Kd.C k45 w A0_0 l0_0.length l0_0) (hc0_0 : l0_0.length ≤ c0_0) (hr1 : Kd.C (Kd.int .i64) w A1 l1.length l1) (hc1 : l1.length ≤ c1) (h : impl_LoseDisk.f k l0_0 l1 = some (r1,r2)) :
  Calls Try.prog 25 #[.agg #[.slice A0_0 l0_0.length c0_0],.slice A1 l1.length c1] w fun e w' => ∃ v0_ : Value,e = .returned (.tuple #[.agg #[v0_],.bool r2]) ∧ Kd.R k45 45 w' w.heap.size (fun _ => True) v0_ r1 ∧ Below w.heap.size w w':=by
 have hu30:=Try.underlying30
 have hu45:=Try.underlying45
 have HR0_0:=Aside0.mk hr0_0
 have HC0_0:=Aside0.mk hc0_0
 clear hr0_0 hc0_0
 have HR1:=Aside0.mk hr1
 have HC1:=Aside0.mk hc1
 clear hr1 hc1
 have HB:=Aside0.mk (Below.refl w.heap.size w)
 have H : ((impl_DiskOk.f k l0_0).bind fun t216 => (if t216 = true then ((impl_copyDisk.f l0_0).bind fun t217 => (impl_LoseDisk.l0 k l1 (t217.length : Int) 0 t217)) else (some (([] : List (S45)),false)))) = some (r1,r2):=h
 clear h
 replace H:=Option.bind_eq_some_iff.mp H
 obtain ⟨t216,A30,H⟩:=H
 replace H : (if t216 = true then ((impl_copyDisk.f l0_0).bind fun t217 => (impl_LoseDisk.l0 k l1 (t217.length : Int) 0 t217)) else (some (([] : List (S45)),false))) = some (r1,r2):=H
 have A3:=Aside0.mk A30
 clear A30
 by_cases c4 : t216 = true
 ·subst c4
  have H1 : ((impl_copyDisk.f l0_0).bind fun t217 => (impl_LoseDisk.l0 k l1 (t217.length : Int) 0 t217)) = some (r1,r2):=by rw [if_pos rfl] at H;exact H
  clear H
  have H:=H1
  clear H1
  replace H:=Option.bind_eq_some_iff.mp H
  obtain ⟨t217,A50,H⟩:=H
  replace H : (impl_LoseDisk.l0 k l1 (t217.length : Int) 0 t217) = some (r1,r2):=H
  have A5:=Aside0.mk A50
  clear A50
  have H':=Aside0.mk H
  clear H
  go_enter Try.func25,Try.ntmps25
  go_wp2_with (first | ((with_reducible refine gate_dst (N:=2) rfl ?_);refine box_event ?hg (N:=2) ?hd (cs:=#[.slice A0_0 l0_0.length c0_0]) (t:=30) ?hr ?_;(case hd => rfl);(case hg => rfl);(case hr => first | (go_simp;done) | (go_simp;rfl));intro gb214 hg w6 hbox hb;have n0_:=Aside0.mk (below_step (by repeat (first | (with_reducible first | exact HB.out | apply below_alloc | apply pw_below_drewN | apply below_drew1) | exact HB.out)) hb);have n1_:=Aside0.mk (hbox);have n2_:=Aside0.mk ((by rw [hg];exact (below_size (by repeat (first | (with_reducible first | exact HB.out | apply below_alloc | apply pw_below_drewN | apply below_drew1) | exact HB.out))) : w.heap.size ≤ gb214));have n3_:=Aside0.mk ((by rw [hg];exact (below_size (by repeat (first | (with_reducible first | exact HB.out | apply below_alloc | apply pw_below_drewN | apply below_drew1) | exact HB.out))) : w.heap.size ≤ gb214));clear HB;have HB:=n0_;have BK214:=n1_;have GW214:=n2_;have GE214:=n3_;clear n0_ n1_ n2_ n3_;clear hb hbox hg) | ((with_reducible refine gate_dst (N:=4) rfl ?_);refine box_event ?hg (N:=4) ?hd (cs:=#[.slice none 0 0]) (t:=30) ?hr ?_;(case hd => rfl);(case hg => rfl);(case hr => first | (go_simp;done) | (go_simp;rfl));intro gb215 hg w7 hbox hb;have n0_:=Aside0.mk (blk_below (g:=gb214) (o:=.cells #[.slice A0_0 l0_0.length c0_0] 30 (0,0)) (by (with_reducible repeat (first | refine blk_drewN ?_ _ | refine blk_drew ?_ | refine blk_alloc ?_ _));exact BK214.out) hb);have n1_:=Aside0.mk (below_step (by repeat (first | (with_reducible first | exact HB.out | apply below_alloc | apply pw_below_drewN | apply below_drew1 | refine below_set ?_ GE214.out) | exact HB.out)) hb);have n2_:=Aside0.mk (hbox);have n3_:=Aside0.mk ((by rw [hg];exact (below_size (by repeat (first | (with_reducible first | exact HB.out | apply below_alloc | apply pw_below_drewN | apply below_drew1 | refine below_set ?_ GE214.out) | exact HB.out))) : w.heap.size ≤ gb215));have n4_:=Aside0.mk ((by rw [hg];exact (below_size (by repeat (first | (with_reducible first | exact HB.out | apply below_alloc | apply pw_below_drewN | apply below_drew1 | refine below_set ?_ GE214.out) | exact HB.out))) : w.heap.size ≤ gb215));have n5_:=Aside0.mk ((by rw [hg];exact Nat.ne_of_lt (blk_lt (g:=gb214) (o:=.cells #[.slice A0_0 l0_0.length c0_0] 30 (0,0)) (by (with_reducible repeat (first | refine blk_drewN ?_ _ | refine blk_drew ?_ | refine blk_alloc ?_ _));exact BK214.out)) : gb214 ≠ gb215));have n6_:=Aside0.mk ((by rw [hg];exact Nat.ne_of_gt (blk_lt (g:=gb214) (o:=.cells #[.slice A0_0 l0_0.length c0_0] 30 (0,0)) (by (with_reducible repeat (first | refine blk_drewN ?_ _ | refine blk_drew ?_ | refine blk_alloc ?_ _));exact BK214.out)) : gb215 ≠ gb214));clear BK214;clear HB;have BK214:=n0_;have HB:=n1_;have BK215:=n2_;have GW215:=n3_;have GE215:=n4_;have NB214_215:=n5_;have NB215_214:=n6_;clear n0_ n1_ n2_ n3_ n4_ n5_ n6_;clear hb hbox hg;have hnb8:=NB214_215.out;have hnc8:=NB215_214.out;have hcz9_0 : w7.cell? ⟨gb214,0,none⟩ = some (.slice A0_0 l0_0.length c0_0):=(blk_cell BK214.out 0).trans rfl;have hfz9_0:=blk_frozen BK214.out 0) | ((with_reducible refine gate_callee (f:=27) rfl ?_);refine goesL_ (some 11) rfl rfl Try.func27 (by kernel_rfl) rfl #[.agg #[.slice A0_0 l0_0.length c0_0]] rfl (by (try simp only [List.map_toArray,List.map_cons,List.map_nil]);first | done | rfl | (simp only [List.length_drop,List.length_take];rfl)) ?_;(with_reducible refine (impl_DiskOk.calls k _ _ l0_0 true _ ?side1 ?side2 A3.out).mono ?_);(case side1 => repeat (first | exact (Kd.C_below HR0_0.out HB.out) | (with_reducible refine Kd.C_alloc ?_ _) | (with_reducible refine Kd.C_drewN ?_ _) | (with_reducible refine Kd.C_drew ?_)));(case side2 => exact HC0_0.out);rintro e w10 ⟨rfl,hb⟩;refine ⟨_,rfl,?_⟩;have n0_:=Aside0.mk (blk_below (g:=gb214) (o:=.cells #[.slice A0_0 l0_0.length c0_0] 30 (0,0)) (by (with_reducible repeat (first | refine blk_drewN ?_ _ | refine blk_drew ?_ | refine blk_alloc ?_ _));exact BK214.out) hb);have n1_:=Aside0.mk (blk_below (g:=gb215) (o:=.cells #[.slice none 0 0] 30 (0,0)) (by (with_reducible repeat (first | refine blk_drewN ?_ _ | refine blk_drew ?_ | refine blk_alloc ?_ _));exact BK215.out) hb);have n2_:=Aside0.mk (below_step (by repeat (first | (with_reducible first | exact HB.out | apply below_alloc | apply pw_below_drewN | apply below_drew1 | refine below_set ?_ GE214.out | refine below_set ?_ GE215.out) | exact HB.out)) hb);clear BK214;clear BK215;clear HB;have BK214:=n0_;have BK215:=n1_;have HB:=n2_;clear n0_ n1_ n2_;(try clear hb);(try clear hb2);(try clear hk);(try clear hi);have hcz11_0 : w10.cell? ⟨gb214,0,none⟩ = some (.slice A0_0 l0_0.length c0_0):=(blk_cell BK214.out 0).trans rfl;have hfz11_0:=blk_frozen BK214.out 0) | ((with_reducible refine gate_callee (f:=77) rfl ?_);refine goesL_ (some 15) rfl rfl Try.func77 (by kernel_rfl) rfl #[.agg #[.slice A0_0 l0_0.length c0_0]] rfl (by (try simp only [List.map_toArray,List.map_cons,List.map_nil]);first | done | rfl | (simp only [List.length_drop,List.length_take];rfl)) ?_;(with_reducible refine (impl_copyDisk.calls _ _ l0_0 t217 _ ?side1 ?side2 A5.out).mono ?_);(case side1 => repeat (first | exact (Kd.C_below HR0_0.out HB.out) | (with_reducible refine Kd.C_alloc ?_ _) | (with_reducible refine Kd.C_drewN ?_ _) | (with_reducible refine Kd.C_drew ?_)));(case side2 => exact HC0_0.out);rintro e w12 ⟨v218,rfl,ho0,hb⟩;refine ⟨_,rfl,?_⟩;have n0_:=Aside0.mk (Kd.R_lower ho0 (below_size (by repeat (first | (with_reducible first | exact HB.out | apply below_alloc | apply pw_below_drewN | apply below_drew1 | refine below_set ?_ GE214.out | refine below_set ?_ GE215.out) | exact HB.out))));have n1_:=Aside0.mk (blk_below (g:=gb214) (o:=.cells #[.slice A0_0 l0_0.length c0_0] 30 (0,0)) (by (with_reducible repeat (first | refine blk_drewN ?_ _ | refine blk_drew ?_ | refine blk_alloc ?_ _));exact BK214.out) hb);have n2_:=Aside0.mk (blk_below (g:=gb215) (o:=.cells #[.slice none 0 0] 30 (0,0)) (by (with_reducible repeat (first | refine blk_drewN ?_ _ | refine blk_drew ?_ | refine blk_alloc ?_ _));exact BK215.out) hb);have n3_:=Aside0.mk (below_step (by repeat (first | (with_reducible first | exact HB.out | apply below_alloc | apply pw_below_drewN | apply below_drew1 | refine below_set ?_ GE214.out | refine below_set ?_ GE215.out) | exact HB.out)) hb);clear BK214;clear BK215;clear HB;have HO219:=n0_;have BK214:=n1_;have BK215:=n2_;have HB:=n3_;clear n0_ n1_ n2_ n3_;(try clear hb);(try clear hb2);(try clear hk);(try clear hi);(try clear ho0)) | ((with_reducible refine gate_dst (N:=6) rfl ?_);refine box_event ?hg (N:=6) ?hd (cs:=#[.slice none 0 0]) (t:=30) ?hr ?_;(case hd => rfl);(case hg => rfl);(case hr => first | (go_simp;done) | (go_simp;rfl));intro gb220 hg w13 hbox hb;have n0_:=Aside0.mk (Kd.R_below (by (with_reducible repeat (first | apply Kd.R_alloc | apply Kd.R_drewN | apply Kd.R_drew));exact HO219.out) hb);have n1_:=Aside0.mk (blk_below (g:=gb214) (o:=.cells #[.slice A0_0 l0_0.length c0_0] 30 (0,0)) (by (with_reducible repeat (first | refine blk_drewN ?_ _ | refine blk_drew ?_ | refine blk_alloc ?_ _));exact BK214.out) hb);have n2_:=Aside0.mk (blk_below (g:=gb215) (o:=.cells #[.slice none 0 0] 30 (0,0)) (by (with_reducible repeat (first | refine blk_drewN ?_ _ | refine blk_drew ?_ | refine blk_alloc ?_ _));exact BK215.out) hb);have n3_:=Aside0.mk (below_step (by repeat (first | (with_reducible first | exact HB.out | apply below_alloc | apply pw_below_drewN | apply below_drew1 | refine below_set ?_ GE214.out | refine below_set ?_ GE215.out) | exact HB.out)) hb);have n4_:=Aside0.mk (hbox);have n5_:=Aside0.mk ((by rw [hg];exact (below_size (by repeat (first | (with_reducible first | exact HB.out | apply below_alloc | apply pw_below_drewN | apply below_drew1 | refine below_set ?_ GE214.out | refine below_set ?_ GE215.out) | exact HB.out))) : w.heap.size ≤ gb220));have n6_:=Aside0.mk ((by rw [hg];exact (below_size (by repeat (first | (with_reducible first | exact HB.out | apply below_alloc | apply pw_below_drewN | apply below_drew1 | refine below_set ?_ GE214.out | refine below_set ?_ GE215.out) | exact HB.out))) : w.heap.size ≤ gb220));have n7_:=Aside0.mk ((by rw [hg];exact Nat.ne_of_lt (blk_lt (g:=gb214) (o:=.cells #[.slice A0_0 l0_0.length c0_0] 30 (0,0)) (by (with_reducible repeat (first | refine blk_drewN ?_ _ | refine blk_drew ?_ | refine blk_alloc ?_ _));exact BK214.out)) : gb214 ≠ gb220));have n8_:=Aside0.mk ((by rw [hg];exact Nat.ne_of_gt (blk_lt (g:=gb214) (o:=.cells #[.slice A0_0 l0_0.length c0_0] 30 (0,0)) (by (with_reducible repeat (first | refine blk_drewN ?_ _ | refine blk_drew ?_ | refine blk_alloc ?_ _));exact BK214.out)) : gb220 ≠ gb214));have n9_:=Aside0.mk ((by rw [hg];exact Nat.ne_of_lt (blk_lt (g:=gb215) (o:=.cells #[.slice none 0 0] 30 (0,0)) (by (with_reducible repeat (first | refine blk_drewN ?_ _ | refine blk_drew ?_ | refine blk_alloc ?_ _));exact BK215.out)) : gb215 ≠ gb220));have n10_:=Aside0.mk ((by rw [hg];exact Nat.ne_of_gt (blk_lt (g:=gb215) (o:=.cells #[.slice none 0 0] 30 (0,0)) (by (with_reducible repeat (first | refine blk_drewN ?_ _ | refine blk_drew ?_ | refine blk_alloc ?_ _));exact BK215.out)) : gb220 ≠ gb215));clear HO219;clear BK214;clear BK215;clear HB;have HO219:=n0_;have BK214:=n1_;have BK215:=n2_;have HB:=n3_;have BK220:=n4_;have GW220:=n5_;have GE220:=n6_;have NB214_220:=n7_;have NB220_214:=n8_;have NB215_220:=n9_;have NB220_215:=n10_;clear n0_ n1_ n2_ n3_ n4_ n5_ n6_ n7_ n8_ n9_ n10_;clear hb hbox hg;obtain ⟨Ao14,co14,eo14⟩:=Kd.R_slice HO219.out;subst eo14;have hnb15:=NB220_214.out;have hnc15:=NB214_220.out;have hnb16:=NB220_215.out;have hnc16:=NB215_220.out;have hcz17_0 : w13.cell? ⟨gb220,0,none⟩ = some (.slice none 0 0):=(blk_cell BK220.out 0).trans rfl;have hfz17_0:=blk_frozen BK220.out 0))
  go_loopg [19] k (fun kq v19 w' => ∃ (x19_1 : Int) (x221000_1 : List (S45)),v19 = .int .i64 x19_1 ∧ Aside0 (impl_LoseDisk.l0 kq l1 (t217.length : Int) x19_1 x221000_1 = some (r1,r2)) ∧ Aside0 (kq ≤ k) ∧ Aside0 (Kd.R k45 45 w' w.heap.size (fun _ => True) (.slice Ao14 t217.length co14) x221000_1) ∧ Aside0 (w'.heap[gb214]? = some (.cells #[(.slice A0_0 l0_0.length c0_0)] 30 (0,0))) ∧ Aside0 (w'.heap[gb215]? = some (.cells #[(.slice none 0 0)] 30 (0,0))) ∧ Aside0 (w'.heap[gb220]? = some (.cells #[(.slice Ao14 t217.length co14)] 30 (0,0))) ∧ Aside0 (Below w.heap.size w w'))
  case atStart => exact ⟨(0),(t217),(by first | rfl | (simp;done) | (simp [*];done)),H',⟨Nat.le_refl _⟩,⟨by (with_reducible repeat (first | apply Kd.R_alloc | apply Kd.R_drewN | apply Kd.R_drew));exact Kd.R_mono (Kd.R_far (p:=⟨gb220,0,none⟩) (Kd.R_types HO219.out BK220.out (by decide)) (fun _ hk => hk.2) (.slice Ao14 t217.length co14)) (fun _ hk => trivial)⟩,⟨by (with_reducible repeat (first | refine blk_drewN ?_ _ | refine blk_drew ?_ | refine blk_alloc ?_ _));refine blk_far ?_ NB214_220.out _;(with_reducible repeat (first | refine blk_drewN ?_ _ | refine blk_drew ?_ | refine blk_alloc ?_ _));exact BK214.out⟩,⟨by (with_reducible repeat (first | refine blk_drewN ?_ _ | refine blk_drew ?_ | refine blk_alloc ?_ _));refine blk_far ?_ NB215_220.out _;(with_reducible repeat (first | refine blk_drewN ?_ _ | refine blk_drew ?_ | refine blk_alloc ?_ _));exact BK215.out⟩,⟨by (with_reducible repeat (first | refine blk_drewN ?_ _ | refine blk_drew ?_ | refine blk_alloc ?_ _));refine blk_put (cs:=#[.slice none 0 0]) ?_ 0 _ rfl;(with_reducible repeat (first | refine blk_drewN ?_ _ | refine blk_drew ?_ | refine blk_alloc ?_ _));exact BK220.out⟩,⟨by repeat (first | (with_reducible first | exact HB.out | apply below_alloc | apply pw_below_drewN | apply below_drew1 | refine below_set ?_ GE214.out | refine below_set ?_ GE215.out | refine below_set ?_ GE220.out) | exact HB.out)⟩⟩
  case round =>
   clear H'
   try clear c1
   try clear c2
   try clear p2
   try clear c4
   try clear c7
   try clear c8
   try clear c15
   try clear c16
   try clear hcz11_0
   try clear hcz17_0
   try clear hcz9_0
   try clear hfz11_0
   try clear hfz17_0
   try clear hfz9_0
   obtain ⟨x19_1,x221000_1,rfl,HA,HK1,HO_221000,BK214,BK215,BK220,HB⟩:=hrel
   have hl221000_1:=(Kd.R_reads' HO_221000.out).1
   rw [hl221000_1] at HO_221000
   (try simp only [hl221000_1])
   (try simp only [hl221000_1] at BK214)
   (try simp only [hl221000_1] at BK215)
   (try simp only [hl221000_1] at BK220)
   cases gk with
   | zero => exact absurd HA.out (by simp [impl_LoseDisk.l0])
   | succ k1 =>
    have H:=HA.out
    clear HA
    simp only [impl_LoseDisk.l0] at H
    by_cases c18 : x19_1 < (t217.length : Int)
    ·rw [if_pos c18] at H
     have c18b0 : decide (x19_1 < (t217.length : Int)) = true:=decide_eq_true c18
     clear c18
     by_cases c19 : 0 ≤ x19_1
     ·rw [if_pos c19] at H
      have c19b0 : decide (0 ≤ x19_1) = true:=decide_eq_true c19
      clear c19
      by_cases c20 : x19_1 < (x221000_1.length : Int)
      ·rw [if_pos c20] at H
       have c20b0 : decide (x19_1 < (x221000_1.length : Int)) = true:=decide_eq_true c20
       clear c20
       by_cases c21 : x19_1 < (l1.length : Int)
       ·rw [if_pos c21] at H
        have c21b0 : decide (x19_1 < (l1.length : Int)) = true:=decide_eq_true c21
        clear c21
        obtain ⟨ji22,hji22⟩ : ∃ j_ : Int,(mn (rd l1 x19_1) (((rd_T45 x221000_1 x19_1).f1).size : Int)) = j_:=⟨_,rfl⟩
        replace H : (if 0 ≤ (mx ((rd_T45 x221000_1 x19_1).f2) (ji22)) then (if (mx ((rd_T45 x221000_1 x19_1).f2) (ji22)) ≤ (((rd_T45 x221000_1 x19_1).f1).size : Int) then ((some (x221000_1.set (x19_1 : Int).toNat (⟨(rd_T45 x221000_1 x19_1).f0,((rd_T45 x221000_1 x19_1).f1).extract 0 ((mx ((rd_T45 x221000_1 x19_1).f2) (ji22)) : Int).toNat,(rd_T45 x221000_1 x19_1).f2⟩ : S45) : List (S45))).bind fun y224 => (impl_LoseDisk.l0 k1 l1 (t217.length : Int) (wrap64 (x19_1 + 1)) (y224.set (x19_1 : Int).toNat (⟨(rd_T45 y224 x19_1).f0,(rd_T45 y224 x19_1).f1,mx ((rd_T45 x221000_1 x19_1).f2) (ji22)⟩ : S45)))) else (none)) else (none)) = some (r1,r2):=by first | (rw [hji22] at H;exact H) | (simp only [hji22] at H ⊢;exact H)
        have hji22_ : (if (((rd_T45 x221000_1 x19_1).f1).size : Int) < (rd l1 x19_1) then (((rd_T45 x221000_1 x19_1).f1).size : Int) else (rd l1 x19_1)) = ji22:=hji22
        obtain ⟨ji23,hji23⟩ : ∃ j_ : Int,(mx ((rd_T45 x221000_1 x19_1).f2) (ji22)) = j_:=⟨_,rfl⟩
        replace H : (if 0 ≤ (ji23) then (if (ji23) ≤ (((rd_T45 x221000_1 x19_1).f1).size : Int) then ((some (x221000_1.set (x19_1 : Int).toNat (⟨(rd_T45 x221000_1 x19_1).f0,((rd_T45 x221000_1 x19_1).f1).extract 0 ((ji23) : Int).toNat,(rd_T45 x221000_1 x19_1).f2⟩ : S45) : List (S45))).bind fun y224 => (impl_LoseDisk.l0 k1 l1 (t217.length : Int) (wrap64 (x19_1 + 1)) (y224.set (x19_1 : Int).toNat (⟨(rd_T45 y224 x19_1).f0,(rd_T45 y224 x19_1).f1,ji23⟩ : S45)))) else (none)) else (none)) = some (r1,r2):=by first | (rw [hji23] at H;exact H) | (simp only [hji23] at H ⊢;exact H)
        have hji23_ : (if ((rd_T45 x221000_1 x19_1).f2) < (ji22) then (ji22) else ((rd_T45 x221000_1 x19_1).f2)) = ji23:=hji23
        try have hji23z_ : (if ((rd_T45 x221000_1 x19_1).f2) < 0 then 0 else ((rd_T45 x221000_1 x19_1).f2)) = ji23:=by rw [← hji23_,hjz_]
        by_cases c24 : 0 ≤ (ji23)
        ·rw [if_pos c24] at H
         have c24b0:=eq_true c24
         have c24b1 : decide (0 ≤ (ji23)) = true:=decide_eq_true c24
         clear c24
         by_cases c25 : (ji23) ≤ (((rd_T45 x221000_1 x19_1).f1).size : Int)
         ·rw [if_pos c25] at H
          have c25b0:=eq_true c25
          have c25b1 : decide ((ji23) ≤ (((rd_T45 x221000_1 x19_1).f1).size : Int)) = true:=decide_eq_true c25
          clear c25
          obtain ⟨y224,hy224⟩ : ∃ y_ : List (S45),y_ = (x221000_1.set (x19_1 : Int).toNat (⟨(rd_T45 x221000_1 x19_1).f0,((rd_T45 x221000_1 x19_1).f1).extract 0 ((ji23) : Int).toNat,(rd_T45 x221000_1 x19_1).f2⟩ : S45)):=⟨_,rfl⟩
          replace H : (impl_LoseDisk.l0 k1 l1 (t217.length : Int) (wrap64 (x19_1 + 1)) (y224.set (x19_1 : Int).toNat (⟨(rd_T45 y224 x19_1).f0,(rd_T45 y224 x19_1).f1,ji23⟩ : S45))) = some (r1,r2):=by first | (rw [hy224];with_reducible exact H) | (have H2_:=(Option.bind_some _ _).symm.trans H;rw [hy224];with_reducible exact H2_) | (have H2_:=(Option.bind_some _ _).symm.trans H;with_reducible exact H2_) | with_reducible exact H | (rw [hy224];exact H) | exact H
          have Ny224:=Aside0.mk hy224
          clear hy224
          obtain ⟨y225,hy225⟩ : ∃ y_ : List (S45),y_ = (y224.set (x19_1 : Int).toNat (⟨(rd_T45 y224 x19_1).f0,(rd_T45 y224 x19_1).f1,ji23⟩ : S45)):=⟨_,rfl⟩
          replace H : (impl_LoseDisk.l0 k1 l1 (t217.length : Int) (wrap64 (x19_1 + 1)) y225) = some (r1,r2):=by first | (rw [hy225];with_reducible exact H) | (have H2_:=(Option.bind_some _ _).symm.trans H;rw [hy225];with_reducible exact H2_) | (have H2_:=(Option.bind_some _ _).symm.trans H;with_reducible exact H2_) | with_reducible exact H | (rw [hy225];exact H) | exact H
          have Ny225:=Aside0.mk hy225
          clear hy225
          have H':=Aside0.mk H
          clear H
          have p221 : 0 ≤ (x19_1 : Int):=of_decide_eq_true (by first | (with_reducible assumption) | assumption)
          have q221 : x19_1 < (x221000_1.length : Int):=of_decide_eq_true (by first | (with_reducible assumption) | assumption)
          obtain ⟨ad221,e221,hx221_0,hx221_1,hx221_2⟩:=at_T45 (Kd.R_reads' HO_221000.out).2.2 x19_1 p221 q221
          cases e221
          replace p221:=eq_true p221
          replace q221:=eq_true q221
          try go_wp2_with (first | ((with_reducible refine gate_dst (N:=8) rfl ?_);refine box_event ?hg (N:=8) ?hd (cs:=#[.string (⟨#[]⟩ : ByteArray),.string (⟨#[]⟩ : ByteArray),.int .i64 0]) (t:=45) ?hr ?_;(case hd => rfl);(case hg => rfl);(case hr => first | (go_simp;done) | (go_simp;rfl));intro gb222 hg w28 hbox hb;have n0_:=Aside0.mk (Kd.R_below (Kd.R_elderB (by (with_reducible repeat (first | apply Kd.R_alloc | apply Kd.R_drewN | apply Kd.R_drew));exact HO_221000.out) gb222 (Nat.le_of_eq hg.symm)) hb);have n1_:=Aside0.mk (blk_below (g:=gb214) (o:=.cells #[.slice A0_0 l0_0.length c0_0] 30 (0,0)) (by (with_reducible repeat (first | refine blk_drewN ?_ _ | refine blk_drew ?_ | refine blk_alloc ?_ _));exact BK214.out) hb);have n2_:=Aside0.mk (blk_below (g:=gb215) (o:=.cells #[.slice none 0 0] 30 (0,0)) (by (with_reducible repeat (first | refine blk_drewN ?_ _ | refine blk_drew ?_ | refine blk_alloc ?_ _));exact BK215.out) hb);have n3_:=Aside0.mk (blk_below (g:=gb220) (o:=.cells #[.slice (some ad221) x221000_1.length co14] 30 (0,0)) (by (with_reducible repeat (first | refine blk_drewN ?_ _ | refine blk_drew ?_ | refine blk_alloc ?_ _));exact BK220.out) hb);have n4_:=Aside0.mk (below_step (by repeat (first | (with_reducible first | exact HB.out | apply below_alloc | apply pw_below_drewN | apply below_drew1 | refine below_set ?_ GE214.out | refine below_set ?_ GE215.out | refine below_set ?_ GE220.out) | exact HB.out)) hb);have n5_:=Aside0.mk (hbox);have n6_:=Aside0.mk ((by rw [hg];exact (below_size (by repeat (first | (with_reducible first | exact HB.out | apply below_alloc | apply pw_below_drewN | apply below_drew1 | refine below_set ?_ GE214.out | refine below_set ?_ GE215.out | refine below_set ?_ GE220.out) | exact HB.out))) : w.heap.size ≤ gb222));have n7_:=Aside0.mk ((by rw [hg];exact (below_size (by repeat (first | (with_reducible first | exact HB.out | apply below_alloc | apply pw_below_drewN | apply below_drew1 | refine below_set ?_ GE214.out | refine below_set ?_ GE215.out | refine below_set ?_ GE220.out) | exact HB.out))) : w.heap.size ≤ gb222));have n8_:=Aside0.mk ((by rw [hg];exact Nat.ne_of_lt (blk_lt (g:=gb214) (o:=.cells #[.slice A0_0 l0_0.length c0_0] 30 (0,0)) (by (with_reducible repeat (first | refine blk_drewN ?_ _ | refine blk_drew ?_ | refine blk_alloc ?_ _));exact BK214.out)) : gb214 ≠ gb222));have n9_:=Aside0.mk ((by rw [hg];exact Nat.ne_of_gt (blk_lt (g:=gb214) (o:=.cells #[.slice A0_0 l0_0.length c0_0] 30 (0,0)) (by (with_reducible repeat (first | refine blk_drewN ?_ _ | refine blk_drew ?_ | refine blk_alloc ?_ _));exact BK214.out)) : gb222 ≠ gb214));have n10_:=Aside0.mk ((by rw [hg];exact Nat.ne_of_lt (blk_lt (g:=gb215) (o:=.cells #[.slice none 0 0] 30 (0,0)) (by (with_reducible repeat (first | refine blk_drewN ?_ _ | refine blk_drew ?_ | refine blk_alloc ?_ _));exact BK215.out)) : gb215 ≠ gb222));have n11_:=Aside0.mk ((by rw [hg];exact Nat.ne_of_gt (blk_lt (g:=gb215) (o:=.cells #[.slice none 0 0] 30 (0,0)) (by (with_reducible repeat (first | refine blk_drewN ?_ _ | refine blk_drew ?_ | refine blk_alloc ?_ _));exact BK215.out)) : gb222 ≠ gb215));have n12_:=Aside0.mk ((by rw [hg];exact Nat.ne_of_lt (blk_lt (g:=gb220) (o:=.cells #[.slice (some ad221) x221000_1.length co14] 30 (0,0)) (by (with_reducible repeat (first | refine blk_drewN ?_ _ | refine blk_drew ?_ | refine blk_alloc ?_ _));exact BK220.out)) : gb220 ≠ gb222));have n13_:=Aside0.mk ((by rw [hg];exact Nat.ne_of_gt (blk_lt (g:=gb220) (o:=.cells #[.slice (some ad221) x221000_1.length co14] 30 (0,0)) (by (with_reducible repeat (first | refine blk_drewN ?_ _ | refine blk_drew ?_ | refine blk_alloc ?_ _));exact BK220.out)) : gb222 ≠ gb220));clear HO_221000;clear BK214;clear BK215;clear BK220;clear HB;have HO_221000:=n0_;have BK214:=n1_;have BK215:=n2_;have BK220:=n3_;have HB:=n4_;have BK222:=n5_;have GW222:=n6_;have GE222:=n7_;have NB214_222:=n8_;have NB222_214:=n9_;have NB215_222:=n10_;have NB222_215:=n11_;have NB220_222:=n12_;have NB222_220:=n13_;clear n0_ n1_ n2_ n3_ n4_ n5_ n6_ n7_ n8_ n9_ n10_ n11_ n12_ n13_;clear hb hbox hg;have hnb29:=NB222_214.out;have hnc29:=NB214_222.out;have hnb30:=NB222_215.out;have hnc30:=NB215_222.out;have hnb31:=NB222_220.out;have hnc31:=NB220_222.out;have hcz32_0 : w28.cell? ⟨gb222,0,none⟩ = some (.string (⟨#[]⟩ : ByteArray)):=(blk_cell BK222.out 0).trans rfl;have hcz32_1 : w28.cell? ⟨gb222,1,none⟩ = some (.string (⟨#[]⟩ : ByteArray)):=(blk_cell BK222.out 1).trans rfl;have hcz32_2 : w28.cell? ⟨gb222,2,none⟩ = some (.int .i64 0):=(blk_cell BK222.out 2).trans rfl;have hfz32_0:=blk_frozen BK222.out 0;have hfz32_1:=blk_frozen BK222.out 1;have hfz32_2:=blk_frozen BK222.out 2;have p223 : 0 ≤ (x19_1 : Int):=of_decide_eq_true (by first | (with_reducible assumption) | assumption);have q223 : x19_1 < (l1.length : Int):=of_decide_eq_true (by first | (with_reducible assumption) | assumption);obtain ⟨ad223,e223,hx223_0⟩:=Kd.at_int HR1.out x19_1 p223 q223;cases e223;have hn223_0 : ad223.block ≠ gb222:=Nat.ne_of_lt (Nat.lt_of_lt_of_le (by have:=World.block_lt_of_cell? _ _ hx223_0;first | rwa [add_block] at this | exact this) GW222.out);have hn223_1 : ad223.block ≠ gb222:=Nat.ne_of_lt (Nat.lt_of_lt_of_le (by have:=World.block_lt_of_cell? _ _ hx223_0;first | rwa [add_block] at this | exact this) GW222.out);have hn223_2 : ad223.block ≠ gb222:=Nat.ne_of_lt (Nat.lt_of_lt_of_le (by have:=World.block_lt_of_cell? _ _ hx223_0;first | rwa [add_block] at this | exact this) GW222.out);replace hx223_0:=(HB.out.cell (World.block_lt_of_cell? w _ hx223_0)).trans hx223_0;replace hx223_0:=(cell_far (p:=⟨gb222,0,none⟩) (by first | (rw [add_block];exact hn223_0) | (show (Addr.add _ _).block ≠ _;rw [add_block];exact hn223_0) | exact hn223_0) (.string ((rd_T45 x221000_1 x19_1).f0))).trans hx223_0;replace hx223_0:=(cell_far (p:=⟨gb222,1,none⟩) (by first | (rw [add_block];exact hn223_1) | (show (Addr.add _ _).block ≠ _;rw [add_block];exact hn223_1) | exact hn223_1) (.string ((rd_T45 x221000_1 x19_1).f1))).trans hx223_0;replace hx223_0:=(cell_far (p:=⟨gb222,2,none⟩) (by first | (rw [add_block];exact hn223_2) | (show (Addr.add _ _).block ≠ _;rw [add_block];exact hn223_2) | exact hn223_2) (.int .i64 ((rd_T45 x221000_1 x19_1).f2))).trans hx223_0;clear hn223_0;clear hn223_1;clear hn223_2;replace p223:=eq_true p223;replace q223:=eq_true q223))
          have n0_ : Aside0 (Kd.R k45 45 (((w28.setCell ⟨gb222,0,none⟩ (.string ((rd_T45 x221000_1 x19_1).f0))).setCell ⟨gb222,1,none⟩ (.string ((rd_T45 x221000_1 x19_1).f1))).setCell ⟨gb222,2,none⟩ (.int .i64 ((rd_T45 x221000_1 x19_1).f2))) w.heap.size (fun k_ => k_ ≠ gb222) (.slice (some ad221) x221000_1.length co14) x221000_1):=⟨by (with_reducible repeat (first | apply Kd.R_alloc | apply Kd.R_drewN | apply Kd.R_drew));exact Kd.R_mono (Kd.R_far (p:=⟨gb222,2,none⟩) (Kd.R_far (p:=⟨gb222,1,none⟩) (Kd.R_far (p:=⟨gb222,0,none⟩) (Kd.R_mono HO_221000.out (fun k_ hk => (⟨hk,hk.2⟩ : _ ∧ k_ ≠ gb222))) (fun _ hk => hk.2) (.string ((rd_T45 x221000_1 x19_1).f0))) (fun _ hk => hk.2) (.string ((rd_T45 x221000_1 x19_1).f1))) (fun _ hk => hk.2) (.int .i64 ((rd_T45 x221000_1 x19_1).f2))) (fun _ hk => hk.1.2)⟩
          have n1_ : Aside0 ((((w28.setCell ⟨gb222,0,none⟩ (.string ((rd_T45 x221000_1 x19_1).f0))).setCell ⟨gb222,1,none⟩ (.string ((rd_T45 x221000_1 x19_1).f1))).setCell ⟨gb222,2,none⟩ (.int .i64 ((rd_T45 x221000_1 x19_1).f2))).heap[gb214]? = some (.cells #[.slice A0_0 l0_0.length c0_0] 30 (0,0))):=⟨by (with_reducible repeat (first | refine blk_drewN ?_ _ | refine blk_drew ?_ | refine blk_alloc ?_ _));refine blk_far ?_ NB214_222.out _;(with_reducible repeat (first | refine blk_drewN ?_ _ | refine blk_drew ?_ | refine blk_alloc ?_ _));refine blk_far ?_ NB214_222.out _;(with_reducible repeat (first | refine blk_drewN ?_ _ | refine blk_drew ?_ | refine blk_alloc ?_ _));refine blk_far ?_ NB214_222.out _;(with_reducible repeat (first | refine blk_drewN ?_ _ | refine blk_drew ?_ | refine blk_alloc ?_ _));exact BK214.out⟩
          have n2_ : Aside0 ((((w28.setCell ⟨gb222,0,none⟩ (.string ((rd_T45 x221000_1 x19_1).f0))).setCell ⟨gb222,1,none⟩ (.string ((rd_T45 x221000_1 x19_1).f1))).setCell ⟨gb222,2,none⟩ (.int .i64 ((rd_T45 x221000_1 x19_1).f2))).heap[gb215]? = some (.cells #[.slice none 0 0] 30 (0,0))):=⟨by (with_reducible repeat (first | refine blk_drewN ?_ _ | refine blk_drew ?_ | refine blk_alloc ?_ _));refine blk_far ?_ NB215_222.out _;(with_reducible repeat (first | refine blk_drewN ?_ _ | refine blk_drew ?_ | refine blk_alloc ?_ _));refine blk_far ?_ NB215_222.out _;(with_reducible repeat (first | refine blk_drewN ?_ _ | refine blk_drew ?_ | refine blk_alloc ?_ _));refine blk_far ?_ NB215_222.out _;(with_reducible repeat (first | refine blk_drewN ?_ _ | refine blk_drew ?_ | refine blk_alloc ?_ _));exact BK215.out⟩
          have n3_ : Aside0 ((((w28.setCell ⟨gb222,0,none⟩ (.string ((rd_T45 x221000_1 x19_1).f0))).setCell ⟨gb222,1,none⟩ (.string ((rd_T45 x221000_1 x19_1).f1))).setCell ⟨gb222,2,none⟩ (.int .i64 ((rd_T45 x221000_1 x19_1).f2))).heap[gb220]? = some (.cells #[.slice (some ad221) x221000_1.length co14] 30 (0,0))):=⟨by (with_reducible repeat (first | refine blk_drewN ?_ _ | refine blk_drew ?_ | refine blk_alloc ?_ _));refine blk_far ?_ NB220_222.out _;(with_reducible repeat (first | refine blk_drewN ?_ _ | refine blk_drew ?_ | refine blk_alloc ?_ _));refine blk_far ?_ NB220_222.out _;(with_reducible repeat (first | refine blk_drewN ?_ _ | refine blk_drew ?_ | refine blk_alloc ?_ _));refine blk_far ?_ NB220_222.out _;(with_reducible repeat (first | refine blk_drewN ?_ _ | refine blk_drew ?_ | refine blk_alloc ?_ _));exact BK220.out⟩
          have n4_ : Aside0 ((((w28.setCell ⟨gb222,0,none⟩ (.string ((rd_T45 x221000_1 x19_1).f0))).setCell ⟨gb222,1,none⟩ (.string ((rd_T45 x221000_1 x19_1).f1))).setCell ⟨gb222,2,none⟩ (.int .i64 ((rd_T45 x221000_1 x19_1).f2))).heap[gb222]? = some (.cells #[.string ((rd_T45 x221000_1 x19_1).f0),.string ((rd_T45 x221000_1 x19_1).f1),.int .i64 ((rd_T45 x221000_1 x19_1).f2)] 45 (0,0))):=⟨by (with_reducible repeat (first | refine blk_drewN ?_ _ | refine blk_drew ?_ | refine blk_alloc ?_ _));refine blk_put (cs:=#[.string ((rd_T45 x221000_1 x19_1).f0),.string ((rd_T45 x221000_1 x19_1).f1),.int .i64 0]) ?_ 2 _ rfl;(with_reducible repeat (first | refine blk_drewN ?_ _ | refine blk_drew ?_ | refine blk_alloc ?_ _));refine blk_put (cs:=#[.string ((rd_T45 x221000_1 x19_1).f0),.string (⟨#[]⟩ : ByteArray),.int .i64 0]) ?_ 1 _ rfl;(with_reducible repeat (first | refine blk_drewN ?_ _ | refine blk_drew ?_ | refine blk_alloc ?_ _));refine blk_put (cs:=#[.string (⟨#[]⟩ : ByteArray),.string (⟨#[]⟩ : ByteArray),.int .i64 0]) ?_ 0 _ rfl;(with_reducible repeat (first | refine blk_drewN ?_ _ | refine blk_drew ?_ | refine blk_alloc ?_ _));exact BK222.out⟩
          have n5_ : Aside0 (Below w.heap.size w (((w28.setCell ⟨gb222,0,none⟩ (.string ((rd_T45 x221000_1 x19_1).f0))).setCell ⟨gb222,1,none⟩ (.string ((rd_T45 x221000_1 x19_1).f1))).setCell ⟨gb222,2,none⟩ (.int .i64 ((rd_T45 x221000_1 x19_1).f2)))):=⟨by repeat (first | (with_reducible first | exact HB.out | apply below_alloc | apply pw_below_drewN | apply below_drew1 | refine below_set ?_ GE214.out | refine below_set ?_ GE215.out | refine below_set ?_ GE220.out | refine below_set ?_ GE222.out) | exact HB.out)⟩
          (try clear HO_221000)
          (try clear BK214)
          (try clear BK215)
          (try clear BK220)
          (try clear BK222)
          (try clear HB)
          generalize (((w28.setCell ⟨gb222,0,none⟩ (.string ((rd_T45 x221000_1 x19_1).f0))).setCell ⟨gb222,1,none⟩ (.string ((rd_T45 x221000_1 x19_1).f1))).setCell ⟨gb222,2,none⟩ (.int .i64 ((rd_T45 x221000_1 x19_1).f2))) = w33 at n0_ n1_ n2_ n3_ n4_ n5_ ⊢
          have HO_221000:=n0_
          have BK214:=n1_
          have BK215:=n2_
          have BK220:=n3_
          have BK222:=n4_
          have HB:=n5_
          clear n0_ n1_ n2_ n3_ n4_ n5_
          have n0_:=Aside0.mk (Kd.R_drew HO_221000.out)
          have n1_:=Aside0.mk (blk_drew BK214.out)
          have n2_:=Aside0.mk (blk_drew BK215.out)
          have n3_:=Aside0.mk (blk_drew BK220.out)
          have n4_:=Aside0.mk (blk_drew BK222.out)
          have n5_:=Aside0.mk (below_drew1 HB.out)
          clear HO_221000
          clear BK214
          clear BK215
          clear BK220
          clear BK222
          clear HB
          have HO_221000:=n0_
          have BK214:=n1_
          have BK215:=n2_
          have BK220:=n3_
          have BK222:=n4_
          have HB:=n5_
          clear n0_ n1_ n2_ n3_ n4_ n5_
          have p26 : 0 ≤ (x19_1 : Int):=of_decide_eq_true (by first | (with_reducible assumption) | assumption)
          have q26 : (x19_1 : Int) < ((x221000_1.length : Int) : Int):=of_decide_eq_true (by first | (with_reducible assumption) | assumption)
          obtain ⟨go26,co26,eo26,gb26,gl26,cl26,HG26⟩:=Kd.R_form HO_221000.out (by omega)
          (first | cases eo26 | (injection eo26 with ea_ en_ ec_;(first | subst ea_ | (injection ea_ with ea_;subst ea_));subst ec_;clear en_))
          have GB26:=Aside0.mk gb26
          have GG26:=Aside0.mk HG26
          clear gb26 gl26 HG26
          (first | simp only [add_plain] at hx221_0 | skip)
          (first | simp only [add_plain] at hx221_1 | skip)
          (first | simp only [add_plain] at hx221_2 | skip)
          obtain ⟨ce26,hcl26,hM26,hcc26,hfr26⟩:=Kd.R_elem HO_221000.out z45 (x19_1 : Int) p26 q26
          obtain rfl:=k45_openM hM26
          have hx26_0 : World.cell? _ ⟨go26,(x19_1 : Int).toNat * 3,none⟩ = some (.string ((rd_T45 x221000_1 x19_1).f0)):=hcc26 0 _ rfl
          have hx26_1 : World.cell? _ ⟨go26,(x19_1 : Int).toNat * 3 + 1,none⟩ = some (.string ((rd_T45 x221000_1 x19_1).f1)):=hcc26 1 _ rfl
          have hx26_2 : World.cell? _ ⟨go26,(x19_1 : Int).toNat * 3 + 2,none⟩ = some (.int .i64 ((rd_T45 x221000_1 x19_1).f2)):=hcc26 2 _ rfl
          have hf26_0 : World.frozen? _ ⟨go26,(x19_1 : Int).toNat * 3,none⟩ = false:=hfr26 0
          have hf26_1 : World.frozen? _ ⟨go26,(x19_1 : Int).toNat * 3 + 1,none⟩ = false:=hfr26 1
          have hf26_2 : World.frozen? _ ⟨go26,(x19_1 : Int).toNat * 3 + 2,none⟩ = false:=hfr26 2
          clear hcl26 hcc26 hfr26 hM26
          replace p26:=eq_true p26
          replace q26:=eq_true q26
          obtain ⟨ce35,hcl35,hM35,hcc35,hfr35⟩:=Kd.R_elem HO_221000.out z45 (x19_1 : Int) (of_decide_eq_true (by first | (with_reducible assumption) | assumption)) (by have h_ : (x19_1 : Int) < ((x221000_1.length : Int) : Int):=of_decide_eq_true (by first | (with_reducible assumption) | assumption);first | exact h_ | (have e_:=(Kd.R_reads' HO_221000.out).1;omega) | simpa using h_)
          obtain rfl:=k45_openM hM35
          have HP35:=(Kd.R_seg HO_221000.out (x19_1 : Int) (of_decide_eq_true (by first | (with_reducible assumption) | assumption)) (by have h_ : (x19_1 : Int) < ((x221000_1.length : Int) : Int):=of_decide_eq_true (by first | (with_reducible assumption) | assumption);first | exact h_ | (have e_:=(Kd.R_reads' HO_221000.out).1;omega) | simpa using h_) (seg:=[.string (((rd_T45 x221000_1 x19_1).f1).extract 0 ((ji23) : Int).toNat)]) (j:=1) hcl35 hcc35 (show 2 ≤ 3 from by decide) (x':=(⟨(rd_T45 x221000_1 x19_1).f0,((rd_T45 x221000_1 x19_1).f1).extract 0 ((ji23) : Int).toNat,(rd_T45 x221000_1 x19_1).f2⟩ : S45)) (k45_mkM _ _ _ (⟨(rd_T45 x221000_1 x19_1).f0,((rd_T45 x221000_1 x19_1).f1).extract 0 ((ji23) : Int).toNat,(rd_T45 x221000_1 x19_1).f2⟩ : S45) ) (fun _ hk => hk)).1
          rw [← Ny224.out] at HP35
          have HQ35:=Aside0.mk HP35
          clear hcl35 hcc35 hfr35 hM35 HP35
          have p27 : 0 ≤ (x19_1 : Int):=of_decide_eq_true (by first | (with_reducible assumption) | assumption)
          have q27 : (x19_1 : Int) < ((x221000_1.length : Int) : Int):=of_decide_eq_true (by first | (with_reducible assumption) | assumption)
          replace p27:=eq_true p27
          replace q27:=eq_true q27
          obtain ⟨ce36,hcl36,hM36,hcc36,hfr36⟩:=Kd.R_elem HQ35.out z45 (x19_1 : Int) (of_decide_eq_true (by first | (with_reducible assumption) | assumption)) (by have h_ : (x19_1 : Int) < ((x221000_1.length : Int) : Int):=of_decide_eq_true (by first | (with_reducible assumption) | assumption);first | exact h_ | (have e_:=(Kd.R_reads' HO_221000.out).1;omega) | simpa using h_)
          obtain rfl:=k45_openM hM36
          have HP36:=(Kd.R_seg HQ35.out (x19_1 : Int) (of_decide_eq_true (by first | (with_reducible assumption) | assumption)) (by have h_ : (x19_1 : Int) < ((x221000_1.length : Int) : Int):=of_decide_eq_true (by first | (with_reducible assumption) | assumption);first | exact h_ | (have e_:=(Kd.R_reads' HO_221000.out).1;omega) | simpa using h_) (seg:=[.int .i64 ji23]) (j:=2) hcl36 hcc36 (show 3 ≤ 3 from by decide) (x':=(⟨(rd_T45 y224 x19_1).f0,(rd_T45 y224 x19_1).f1,ji23⟩ : S45)) (k45_mkM _ _ _ (⟨(rd_T45 y224 x19_1).f0,(rd_T45 y224 x19_1).f1,ji23⟩ : S45) ) (fun _ hk => hk)).1
          rw [← Ny225.out] at HP36
          have HQ36:=Aside0.mk HP36
          clear hcl36 hcc36 hfr36 hM36 HP36
          refine start_ (n:=17) (S:=fun w' => w'.cell? ⟨gb220,0,none⟩ = some (.slice (some ⟨go26,0,none⟩) x221000_1.length co14) ∧ w'.cell? ⟨gb222,0,none⟩ = some (.string ((rd_T45 x221000_1 x19_1).f0)) ∧ w'.cell? ⟨gb222,1,none⟩ = some (.string ((rd_T45 x221000_1 x19_1).f1)) ∧ w'.cell? ⟨gb222,2,none⟩ = some (.int .i64 ((rd_T45 x221000_1 x19_1).f2))) (ds:=[16]) #[Z7,Z7,Z7,Z7,Z7,Z7,Z7,Z7,Z7,Z7,Z7,Z7,Z7,Z7,Z7,Z7,Z7] (by kernel_rfl) rfl rfl ⟨(blk_cell BK220.out 0).trans rfl,(blk_cell BK222.out 0).trans rfl,(blk_cell BK222.out 1).trans rfl,(blk_cell BK222.out 2).trans rfl⟩ (fun hHeld => ?_);refine with_tabW impl_LoseDisk.tab11 impl_LoseDisk.bits11 (fun HT_ HW_ => ?_)
          generalize w33.drew = w34 at HO_221000 BK214 BK215 BK220 BK222 HB GG26 HQ35 HQ36 hf26_0 hf26_1 hf26_2 hx221_0 hx221_1 hx221_2 hx26_0 hx26_1 hx26_2 hHeld ⊢
          refine pure_ (i:=0) (N:=some 40) (v:=?_) (a':=?_) #[Y7,Z7,Z7,Z7,Z7,Z7,Z7,Z7,Z7,Z7,Z7,Z7,Z7,Z7,Z7,Z7,Z7] rfl rfl (any_of HT_.out (by kernel_rfl)) (fun _ _ _ h => h) (Or.inl ⟨by rfl,?_⟩) ?_ ?_;rotate_left
          ·intro w';go_simp;with_reducible rfl
          rotate_left
          ·simp only [Act.put,qA7,qB7,qC7,i64_w,i32_w];rfl
          refine pure_ (i:=2) (N:=some 42) (v:=?_) (a':=?_) #[Y7,Z7,Y7,Z7,Z7,Z7,Z7,Z7,Z7,Z7,Z7,Z7,Z7,Z7,Z7,Z7,Z7] rfl rfl (any_of HT_.out (by kernel_rfl)) (fun _ _ _ h => h) (Or.inl ⟨by rfl,?_⟩) ?_ ?_;rotate_left
          ·intro w';go_simp;with_reducible rfl
          rotate_left
          ·simp only [Act.put,qA7,qB7,qC7,i64_w,i32_w];rfl
          refine pure_ (i:=3) (N:=some 43) (v:=?_) (a':=?_) #[Y7,Z7,Y7,Y7,Z7,Z7,Z7,Z7,Z7,Z7,Z7,Z7,Z7,Z7,Z7,Z7,Z7] rfl rfl (any_of HT_.out (by kernel_rfl)) (fun _ _ _ h => h) (Or.inl ⟨by rfl,?_⟩) ?_ ?_;rotate_left
          ·intro w';go_simp;with_reducible rfl
          rotate_left
          ·simp only [Act.put,qA7,qB7,qC7,i64_w,i32_w];rfl
          refine pure_ (i:=5) (N:=some 45) (v:=?_) (a':=?_) #[Y7,Z7,Y7,Y7,Z7,Y7,Z7,Z7,Z7,Z7,Z7,Z7,Z7,Z7,Z7,Z7,Z7] rfl rfl (any_of HT_.out (by kernel_rfl)) (fun _ _ _ h => h) (Or.inl ⟨by rfl,?_⟩) ?_ ?_;rotate_left
          ·intro w';go_simp;with_reducible rfl
          rotate_left
          ·simp only [Act.put,qA7,qB7,qC7,i64_w,i32_w];rfl
          refine pure_ (i:=6) (N:=some 46) (v:=?_) (a':=?_) #[Y7,Z7,Y7,Y7,Z7,Y7,Y7,Z7,Z7,Z7,Z7,Z7,Z7,Z7,Z7,Z7,Z7] rfl rfl (any_of HT_.out (by kernel_rfl)) (fun _ _ _ h => h) (Or.inl ⟨by rfl,?_⟩) ?_ ?_;rotate_left
          ·intro w';go_simp;with_reducible rfl
          rotate_left
          ·simp only [Act.put,qA7,qB7,qC7,i64_w,i32_w];rfl
          refine pure_ (i:=8) (N:=some 48) (v:=?_) (a':=?_) #[Y7,Z7,Y7,Y7,Z7,Y7,Y7,Z7,Y7,Z7,Z7,Z7,Z7,Z7,Z7,Z7,Z7] rfl rfl (any_of HT_.out (by kernel_rfl)) (fun _ _ _ h => h) (Or.inl ⟨by rfl,?_⟩) ?_ ?_;rotate_left
          ·intro w';go_simp;with_reducible rfl
          rotate_left
          ·simp only [Act.put,qA7,qB7,qC7,i64_w,i32_w];rfl
          refine pure_ (i:=10) (N:=some 50) (v:=?_) (a':=?_) #[Y7,Z7,Y7,Y7,Z7,Y7,Y7,Z7,Y7,Z7,Y7,Z7,Z7,Z7,Z7,Z7,Z7] rfl rfl (any_of HT_.out (by kernel_rfl)) (fun _ _ _ h => h) (Or.inl ⟨by rfl,?_⟩) ?_ ?_;rotate_left
          ·intro w';go_simp;with_reducible rfl
          rotate_left
          ·simp only [Act.put,qA7,qB7,qC7,i64_w,i32_w];rfl
          refine take_ (i:=1) (N:=some 41) (v:=?_) (a':=?_) #[Y7,Y7,Y7,Y7,Z7,Y7,Y7,Z7,Y7,Z7,Y7,Z7,Z7,Z7,Z7,Z7,Z7] rfl rfl (take_ofW HT_.out HW_.out (by kernel_rfl)) (fun _ _ _ h => h) (Or.inl ⟨by rfl,?_⟩) hHeld ?_ ?_;rotate_left
          ·rintro w' ⟨s0,s1,s2,s3⟩
           go_simp
           with_reducible rfl
          rotate_left
          ·simp only [Act.put,qA7,qB7,qC7,i64_w,i32_w];rfl
          refine take_ (i:=4) (N:=some 44) (v:=?_) (a':=?_) #[Y7,Y7,Y7,Y7,Y7,Y7,Y7,Z7,Y7,Z7,Y7,Z7,Z7,Z7,Z7,Z7,Z7] rfl rfl (take_ofW HT_.out HW_.out (by kernel_rfl)) (fun _ _ _ h => h) (Or.inl ⟨by rfl,?_⟩) hHeld ?_ ?_;rotate_left
          ·rintro w' ⟨s0,s1,s2,s3⟩
           go_simp
           with_reducible rfl
          rotate_left
          ·simp only [Act.put,qA7,qB7,qC7,i64_w,i32_w];rfl
          refine take_ (i:=7) (N:=some 47) (v:=?_) (a':=?_) #[Y7,Y7,Y7,Y7,Y7,Y7,Y7,Y7,Y7,Z7,Y7,Z7,Z7,Z7,Z7,Z7,Z7] rfl rfl (take_ofW HT_.out HW_.out (by kernel_rfl)) (fun _ _ _ h => h) (Or.inl ⟨by rfl,?_⟩) hHeld ?_ ?_;rotate_left
          ·rintro w' ⟨s0,s1,s2,s3⟩
           go_simp
           with_reducible rfl
          rotate_left
          ·simp only [Act.put,qA7,qB7,qC7,i64_w,i32_w];rfl
          refine pure_ (i:=9) (N:=some 49) (v:=?_) (a':=?_) #[Y7,Y7,Y7,Y7,Y7,Y7,Y7,Y7,Y7,Y7,Y7,Z7,Z7,Z7,Z7,Z7,Z7] rfl rfl (any_of HT_.out (by kernel_rfl)) (fun _ _ _ h => h) (Or.inl ⟨by rfl,?_⟩) ?_ ?_;rotate_left
          ·intro w';go_simp;with_reducible rfl
          rotate_left
          ·simp only [Act.put,qA7,qB7,qC7,i64_w,i32_w];rfl
          refine pure_ (i:=11) (N:=some 51) (v:=?_) (a':=?_) #[Y7,Y7,Y7,Y7,Y7,Y7,Y7,Y7,Y7,Y7,Y7,Y7,Z7,Z7,Z7,Z7,Z7] rfl rfl (any_of HT_.out (by kernel_rfl)) (fun _ _ _ h => h) (Or.inl ⟨by rfl,?_⟩) ?_ ?_;rotate_left
          ·intro w';go_simp;with_reducible rfl
          rotate_left
          ·simp only [Act.put,qA7,qB7,qC7,i64_w,i32_w];rfl
          refine pure_ (i:=12) (N:=some 52) (v:=?_) (a':=?_) #[Y7,Y7,Y7,Y7,Y7,Y7,Y7,Y7,Y7,Y7,Y7,Y7,Y7,Z7,Z7,Z7,Z7] rfl rfl (any_of HT_.out (by kernel_rfl)) (fun _ _ _ h => h) (Or.inl ⟨by rfl,?_⟩) ?_ ?_;rotate_left
          ·intro w';go_simp;with_reducible rfl
          rotate_left
          ·simp only [Act.put,qA7,qB7,qC7,i64_w,i32_w];rfl
          refine one_ (i:=13) (N:=none) #[Y7,Y7,Y7,Y7,Y7,Y7,Y7,Y7,Y7,Y7,Y7,Y7,Y7,Y7,Z7,Z7,Z7] rfl rfl (one_of HT_.out (by kernel_rfl)) (by decide) (fun K hK => ?_)
          refine skip_ (w1:=?_) (by rfl) rfl ?_ ?_;rotate_left
          ·go_simp
           rfl
          refine hK.out _ _ ⟨((cell_far (p:=⟨go26,_,none⟩) (fun e_ => (by first | exact Kd.R_away HO_221000.out (fun _ hk => hk) (congrArg some e_) | exact Kd.R_away HO_221000.out (fun _ hk => hk.1) (congrArg some e_) | exact Kd.R_away HO_221000.out (fun _ hk => hk.2) (congrArg some e_) | exact Kd.R_ne HO_221000.out BK220.out (by decide) (congrArg some e_))) _).trans (hHeld.1)),((cell_far (p:=⟨go26,_,none⟩) (fun e_ => (by first | exact Kd.R_away HO_221000.out (fun _ hk => hk) (congrArg some e_) | exact Kd.R_away HO_221000.out (fun _ hk => hk.1) (congrArg some e_) | exact Kd.R_away HO_221000.out (fun _ hk => hk.2) (congrArg some e_) | exact Kd.R_ne HO_221000.out BK222.out (by decide) (congrArg some e_))) _).trans (hHeld.2.1)),((cell_far (p:=⟨go26,_,none⟩) (fun e_ => (by first | exact Kd.R_away HO_221000.out (fun _ hk => hk) (congrArg some e_) | exact Kd.R_away HO_221000.out (fun _ hk => hk.1) (congrArg some e_) | exact Kd.R_away HO_221000.out (fun _ hk => hk.2) (congrArg some e_) | exact Kd.R_ne HO_221000.out BK222.out (by decide) (congrArg some e_))) _).trans (hHeld.2.2.1)),((cell_far (p:=⟨go26,_,none⟩) (fun e_ => (by first | exact Kd.R_away HO_221000.out (fun _ hk => hk) (congrArg some e_) | exact Kd.R_away HO_221000.out (fun _ hk => hk.1) (congrArg some e_) | exact Kd.R_away HO_221000.out (fun _ hk => hk.2) (congrArg some e_) | exact Kd.R_ne HO_221000.out BK222.out (by decide) (congrArg some e_))) _).trans (hHeld.2.2.2))⟩ (fun hHeld => ?_)
          clear hK K
          refine pure_ (i:=14) (N:=some 53) (v:=?_) (a':=?_) #[Y7,Y7,Y7,Y7,Y7,Y7,Y7,Y7,Y7,Y7,Y7,Y7,Y7,Y7,Y7,Z7,Z7] rfl rfl (any_of HT_.out (by kernel_rfl)) (fun _ _ _ h => h) (Or.inl ⟨by rfl,?_⟩) ?_ ?_;rotate_left
          ·intro w';go_simp;with_reducible rfl
          rotate_left
          ·simp only [Act.put,qA7,qB7,qC7,i64_w,i32_w];rfl
          refine pure_ (i:=15) (N:=some 54) (v:=?_) (a':=?_) #[Y7,Y7,Y7,Y7,Y7,Y7,Y7,Y7,Y7,Y7,Y7,Y7,Y7,Y7,Y7,Y7,Z7] rfl rfl (any_of HT_.out (by kernel_rfl)) (fun _ _ _ h => h) (Or.inl ⟨by rfl,?_⟩) ?_ ?_;rotate_left
          ·intro w';go_simp;with_reducible rfl
          rotate_left
          ·simp only [Act.put,qA7,qB7,qC7,i64_w,i32_w];rfl
          refine last_ (i:=16) (N:=none) #[Y7,Y7,Y7,Y7,Y7,Y7,Y7,Y7,Y7,Y7,Y7,Y7,Y7,Y7,Y7,Y7,Y7] rfl rfl (one_of HT_.out (by kernel_rfl)) (by decide) (fun K hK => ?_)
          refine skip_ (w1:=?_) (by rfl) rfl ?_ ?_;rotate_left
          ·go_simp
           rfl
          refine hK.out _ _ ?_
          clear hK K
          refine done_ (done_of HT_.out (by kernel_rfl)) ?_
          try go_wp2
          (try simp only [← hl221000_1])
          go_roundg k1
          case measure => have:=HK1.out;omega
          case rel => exact ⟨(wrap64 (x19_1 + 1)),(y225),(by first | rfl | (simp;done) | (simp [*];done)),H',⟨by have:=HK1.out;omega⟩,⟨by (try simp only [hl221000_1]);(with_reducible repeat (first | apply Kd.R_alloc | apply Kd.R_drewN | apply Kd.R_drew));exact Kd.R_mono HQ36.out (fun _ hk => trivial)⟩,⟨by (try simp only [hl221000_1]);(with_reducible repeat (first | refine blk_drewN ?_ _ | refine blk_drew ?_ | refine blk_alloc ?_ _));refine blk_far ?_ (by have h_:=Kd.R_ne HO_221000.out BK214.out (by decide);intro e_;exact h_ (by rw [e_];rfl)) _;(with_reducible repeat (first | refine blk_drewN ?_ _ | refine blk_drew ?_ | refine blk_alloc ?_ _));refine blk_far ?_ (by have h_:=Kd.R_ne HO_221000.out BK214.out (by decide);intro e_;exact h_ (by rw [e_];rfl)) _;(with_reducible repeat (first | refine blk_drewN ?_ _ | refine blk_drew ?_ | refine blk_alloc ?_ _));exact BK214.out⟩,⟨by (try simp only [hl221000_1]);(with_reducible repeat (first | refine blk_drewN ?_ _ | refine blk_drew ?_ | refine blk_alloc ?_ _));refine blk_far ?_ (by have h_:=Kd.R_ne HO_221000.out BK215.out (by decide);intro e_;exact h_ (by rw [e_];rfl)) _;(with_reducible repeat (first | refine blk_drewN ?_ _ | refine blk_drew ?_ | refine blk_alloc ?_ _));refine blk_far ?_ (by have h_:=Kd.R_ne HO_221000.out BK215.out (by decide);intro e_;exact h_ (by rw [e_];rfl)) _;(with_reducible repeat (first | refine blk_drewN ?_ _ | refine blk_drew ?_ | refine blk_alloc ?_ _));exact BK215.out⟩,⟨by (try simp only [hl221000_1]);(with_reducible repeat (first | refine blk_drewN ?_ _ | refine blk_drew ?_ | refine blk_alloc ?_ _));refine blk_far ?_ (by have h_:=Kd.R_ne HO_221000.out BK220.out (by decide);intro e_;exact h_ (by rw [e_];rfl)) _;(with_reducible repeat (first | refine blk_drewN ?_ _ | refine blk_drew ?_ | refine blk_alloc ?_ _));refine blk_far ?_ (by have h_:=Kd.R_ne HO_221000.out BK220.out (by decide);intro e_;exact h_ (by rw [e_];rfl)) _;(with_reducible repeat (first | refine blk_drewN ?_ _ | refine blk_drew ?_ | refine blk_alloc ?_ _));exact BK220.out⟩,⟨by repeat (first | (with_reducible first | exact HB.out | apply below_alloc | apply pw_below_drewN | apply below_drew1 | refine below_set ?_ GB26.out | refine below_set ?_ GB26.out | refine below_set ?_ GE214.out | refine below_set ?_ GE215.out | refine below_set ?_ GE220.out | refine below_set ?_ GE222.out) | exact HB.out)⟩⟩
         ·rw [if_neg c25] at H
          exact absurd H (by simp)
        ·rw [if_neg c24] at H
         exact absurd H (by simp)
       ·rw [if_neg c21] at H
        have c21b0 : decide (x19_1 < (l1.length : Int)) = false:=decide_eq_false c21
        clear c21
        obtain ⟨ji37,hji37⟩ : ∃ j_ : Int,(mn 0 (((rd_T45 x221000_1 x19_1).f1).size : Int)) = j_:=⟨_,rfl⟩
        replace H : (if 0 ≤ (mx ((rd_T45 x221000_1 x19_1).f2) (ji37)) then (if (mx ((rd_T45 x221000_1 x19_1).f2) (ji37)) ≤ (((rd_T45 x221000_1 x19_1).f1).size : Int) then ((some (x221000_1.set (x19_1 : Int).toNat (⟨(rd_T45 x221000_1 x19_1).f0,((rd_T45 x221000_1 x19_1).f1).extract 0 ((mx ((rd_T45 x221000_1 x19_1).f2) (ji37)) : Int).toNat,(rd_T45 x221000_1 x19_1).f2⟩ : S45) : List (S45))).bind fun y226 => (impl_LoseDisk.l0 k1 l1 (t217.length : Int) (wrap64 (x19_1 + 1)) (y226.set (x19_1 : Int).toNat (⟨(rd_T45 y226 x19_1).f0,(rd_T45 y226 x19_1).f1,mx ((rd_T45 x221000_1 x19_1).f2) (ji37)⟩ : S45)))) else (none)) else (none)) = some (r1,r2):=by first | (rw [hji37] at H;exact H) | (simp only [hji37] at H ⊢;exact H)
        have hji37_ : (if (((rd_T45 x221000_1 x19_1).f1).size : Int) < 0 then (((rd_T45 x221000_1 x19_1).f1).size : Int) else 0) = ji37:=hji37
        have hjz_ : ji37 = 0:=by rw [← hji37_];exact if_neg (by omega)
        obtain ⟨ji38,hji38⟩ : ∃ j_ : Int,(mx ((rd_T45 x221000_1 x19_1).f2) (ji37)) = j_:=⟨_,rfl⟩
        replace H : (if 0 ≤ (ji38) then (if (ji38) ≤ (((rd_T45 x221000_1 x19_1).f1).size : Int) then ((some (x221000_1.set (x19_1 : Int).toNat (⟨(rd_T45 x221000_1 x19_1).f0,((rd_T45 x221000_1 x19_1).f1).extract 0 ((ji38) : Int).toNat,(rd_T45 x221000_1 x19_1).f2⟩ : S45) : List (S45))).bind fun y226 => (impl_LoseDisk.l0 k1 l1 (t217.length : Int) (wrap64 (x19_1 + 1)) (y226.set (x19_1 : Int).toNat (⟨(rd_T45 y226 x19_1).f0,(rd_T45 y226 x19_1).f1,ji38⟩ : S45)))) else (none)) else (none)) = some (r1,r2):=by first | (rw [hji38] at H;exact H) | (simp only [hji38] at H ⊢;exact H)
        have hji38_ : (if ((rd_T45 x221000_1 x19_1).f2) < (ji37) then (ji37) else ((rd_T45 x221000_1 x19_1).f2)) = ji38:=hji38
        try have hji38z_ : (if ((rd_T45 x221000_1 x19_1).f2) < 0 then 0 else ((rd_T45 x221000_1 x19_1).f2)) = ji38:=by rw [← hji38_,hjz_]
        by_cases c39 : 0 ≤ (ji38)
        ·rw [if_pos c39] at H
         have c39b0:=eq_true c39
         have c39b1 : decide (0 ≤ (ji38)) = true:=decide_eq_true c39
         clear c39
         by_cases c40 : (ji38) ≤ (((rd_T45 x221000_1 x19_1).f1).size : Int)
         ·rw [if_pos c40] at H
          have c40b0:=eq_true c40
          have c40b1 : decide ((ji38) ≤ (((rd_T45 x221000_1 x19_1).f1).size : Int)) = true:=decide_eq_true c40
          clear c40
          obtain ⟨y226,hy226⟩ : ∃ y_ : List (S45),y_ = (x221000_1.set (x19_1 : Int).toNat (⟨(rd_T45 x221000_1 x19_1).f0,((rd_T45 x221000_1 x19_1).f1).extract 0 ((ji38) : Int).toNat,(rd_T45 x221000_1 x19_1).f2⟩ : S45)):=⟨_,rfl⟩
          replace H : (impl_LoseDisk.l0 k1 l1 (t217.length : Int) (wrap64 (x19_1 + 1)) (y226.set (x19_1 : Int).toNat (⟨(rd_T45 y226 x19_1).f0,(rd_T45 y226 x19_1).f1,ji38⟩ : S45))) = some (r1,r2):=by first | (rw [hy226];with_reducible exact H) | (have H2_:=(Option.bind_some _ _).symm.trans H;rw [hy226];with_reducible exact H2_) | (have H2_:=(Option.bind_some _ _).symm.trans H;with_reducible exact H2_) | with_reducible exact H | (rw [hy226];exact H) | exact H
          have Ny226:=Aside0.mk hy226
          clear hy226
          obtain ⟨y227,hy227⟩ : ∃ y_ : List (S45),y_ = (y226.set (x19_1 : Int).toNat (⟨(rd_T45 y226 x19_1).f0,(rd_T45 y226 x19_1).f1,ji38⟩ : S45)):=⟨_,rfl⟩
          replace H : (impl_LoseDisk.l0 k1 l1 (t217.length : Int) (wrap64 (x19_1 + 1)) y227) = some (r1,r2):=by first | (rw [hy227];with_reducible exact H) | (have H2_:=(Option.bind_some _ _).symm.trans H;rw [hy227];with_reducible exact H2_) | (have H2_:=(Option.bind_some _ _).symm.trans H;with_reducible exact H2_) | with_reducible exact H | (rw [hy227];exact H) | exact H
          have Ny227:=Aside0.mk hy227
          clear hy227
          have H':=Aside0.mk H
          clear H
          have p221 : 0 ≤ (x19_1 : Int):=of_decide_eq_true (by first | (with_reducible assumption) | assumption)
          have q221 : x19_1 < (x221000_1.length : Int):=of_decide_eq_true (by first | (with_reducible assumption) | assumption)
          obtain ⟨ad221,e221,hx221_0,hx221_1,hx221_2⟩:=at_T45 (Kd.R_reads' HO_221000.out).2.2 x19_1 p221 q221
          cases e221
          replace p221:=eq_true p221
          replace q221:=eq_true q221
          try go_wp2_with (first | ((with_reducible refine gate_dst (N:=8) rfl ?_);refine box_event ?hg (N:=8) ?hd (cs:=#[.string (⟨#[]⟩ : ByteArray),.string (⟨#[]⟩ : ByteArray),.int .i64 0]) (t:=45) ?hr ?_;(case hd => rfl);(case hg => rfl);(case hr => first | (go_simp;done) | (go_simp;rfl));intro gb222 hg w43 hbox hb;have n0_:=Aside0.mk (Kd.R_below (Kd.R_elderB (by (with_reducible repeat (first | apply Kd.R_alloc | apply Kd.R_drewN | apply Kd.R_drew));exact HO_221000.out) gb222 (Nat.le_of_eq hg.symm)) hb);have n1_:=Aside0.mk (blk_below (g:=gb214) (o:=.cells #[.slice A0_0 l0_0.length c0_0] 30 (0,0)) (by (with_reducible repeat (first | refine blk_drewN ?_ _ | refine blk_drew ?_ | refine blk_alloc ?_ _));exact BK214.out) hb);have n2_:=Aside0.mk (blk_below (g:=gb215) (o:=.cells #[.slice none 0 0] 30 (0,0)) (by (with_reducible repeat (first | refine blk_drewN ?_ _ | refine blk_drew ?_ | refine blk_alloc ?_ _));exact BK215.out) hb);have n3_:=Aside0.mk (blk_below (g:=gb220) (o:=.cells #[.slice (some ad221) x221000_1.length co14] 30 (0,0)) (by (with_reducible repeat (first | refine blk_drewN ?_ _ | refine blk_drew ?_ | refine blk_alloc ?_ _));exact BK220.out) hb);have n4_:=Aside0.mk (below_step (by repeat (first | (with_reducible first | exact HB.out | apply below_alloc | apply pw_below_drewN | apply below_drew1 | refine below_set ?_ GE214.out | refine below_set ?_ GE215.out | refine below_set ?_ GE220.out) | exact HB.out)) hb);have n5_:=Aside0.mk (hbox);have n6_:=Aside0.mk ((by rw [hg];exact (below_size (by repeat (first | (with_reducible first | exact HB.out | apply below_alloc | apply pw_below_drewN | apply below_drew1 | refine below_set ?_ GE214.out | refine below_set ?_ GE215.out | refine below_set ?_ GE220.out) | exact HB.out))) : w.heap.size ≤ gb222));have n7_:=Aside0.mk ((by rw [hg];exact (below_size (by repeat (first | (with_reducible first | exact HB.out | apply below_alloc | apply pw_below_drewN | apply below_drew1 | refine below_set ?_ GE214.out | refine below_set ?_ GE215.out | refine below_set ?_ GE220.out) | exact HB.out))) : w.heap.size ≤ gb222));have n8_:=Aside0.mk ((by rw [hg];exact Nat.ne_of_lt (blk_lt (g:=gb214) (o:=.cells #[.slice A0_0 l0_0.length c0_0] 30 (0,0)) (by (with_reducible repeat (first | refine blk_drewN ?_ _ | refine blk_drew ?_ | refine blk_alloc ?_ _));exact BK214.out)) : gb214 ≠ gb222));have n9_:=Aside0.mk ((by rw [hg];exact Nat.ne_of_gt (blk_lt (g:=gb214) (o:=.cells #[.slice A0_0 l0_0.length c0_0] 30 (0,0)) (by (with_reducible repeat (first | refine blk_drewN ?_ _ | refine blk_drew ?_ | refine blk_alloc ?_ _));exact BK214.out)) : gb222 ≠ gb214));have n10_:=Aside0.mk ((by rw [hg];exact Nat.ne_of_lt (blk_lt (g:=gb215) (o:=.cells #[.slice none 0 0] 30 (0,0)) (by (with_reducible repeat (first | refine blk_drewN ?_ _ | refine blk_drew ?_ | refine blk_alloc ?_ _));exact BK215.out)) : gb215 ≠ gb222));have n11_:=Aside0.mk ((by rw [hg];exact Nat.ne_of_gt (blk_lt (g:=gb215) (o:=.cells #[.slice none 0 0] 30 (0,0)) (by (with_reducible repeat (first | refine blk_drewN ?_ _ | refine blk_drew ?_ | refine blk_alloc ?_ _));exact BK215.out)) : gb222 ≠ gb215));have n12_:=Aside0.mk ((by rw [hg];exact Nat.ne_of_lt (blk_lt (g:=gb220) (o:=.cells #[.slice (some ad221) x221000_1.length co14] 30 (0,0)) (by (with_reducible repeat (first | refine blk_drewN ?_ _ | refine blk_drew ?_ | refine blk_alloc ?_ _));exact BK220.out)) : gb220 ≠ gb222));have n13_:=Aside0.mk ((by rw [hg];exact Nat.ne_of_gt (blk_lt (g:=gb220) (o:=.cells #[.slice (some ad221) x221000_1.length co14] 30 (0,0)) (by (with_reducible repeat (first | refine blk_drewN ?_ _ | refine blk_drew ?_ | refine blk_alloc ?_ _));exact BK220.out)) : gb222 ≠ gb220));clear HO_221000;clear BK214;clear BK215;clear BK220;clear HB;have HO_221000:=n0_;have BK214:=n1_;have BK215:=n2_;have BK220:=n3_;have HB:=n4_;have BK222:=n5_;have GW222:=n6_;have GE222:=n7_;have NB214_222:=n8_;have NB222_214:=n9_;have NB215_222:=n10_;have NB222_215:=n11_;have NB220_222:=n12_;have NB222_220:=n13_;clear n0_ n1_ n2_ n3_ n4_ n5_ n6_ n7_ n8_ n9_ n10_ n11_ n12_ n13_;clear hb hbox hg;have hnb44:=NB222_214.out;have hnc44:=NB214_222.out;have hnb45:=NB222_215.out;have hnc45:=NB215_222.out;have hnb46:=NB222_220.out;have hnc46:=NB220_222.out;have hcz47_0 : w43.cell? ⟨gb222,0,none⟩ = some (.string (⟨#[]⟩ : ByteArray)):=(blk_cell BK222.out 0).trans rfl;have hcz47_1 : w43.cell? ⟨gb222,1,none⟩ = some (.string (⟨#[]⟩ : ByteArray)):=(blk_cell BK222.out 1).trans rfl;have hcz47_2 : w43.cell? ⟨gb222,2,none⟩ = some (.int .i64 0):=(blk_cell BK222.out 2).trans rfl;have hfz47_0:=blk_frozen BK222.out 0;have hfz47_1:=blk_frozen BK222.out 1;have hfz47_2:=blk_frozen BK222.out 2))
          have n0_ : Aside0 (Kd.R k45 45 (((w43.setCell ⟨gb222,0,none⟩ (.string ((rd_T45 x221000_1 x19_1).f0))).setCell ⟨gb222,1,none⟩ (.string ((rd_T45 x221000_1 x19_1).f1))).setCell ⟨gb222,2,none⟩ (.int .i64 ((rd_T45 x221000_1 x19_1).f2))) w.heap.size (fun k_ => k_ ≠ gb222) (.slice (some ad221) x221000_1.length co14) x221000_1):=⟨by (with_reducible repeat (first | apply Kd.R_alloc | apply Kd.R_drewN | apply Kd.R_drew));exact Kd.R_mono (Kd.R_far (p:=⟨gb222,2,none⟩) (Kd.R_far (p:=⟨gb222,1,none⟩) (Kd.R_far (p:=⟨gb222,0,none⟩) (Kd.R_mono HO_221000.out (fun k_ hk => (⟨hk,hk.2⟩ : _ ∧ k_ ≠ gb222))) (fun _ hk => hk.2) (.string ((rd_T45 x221000_1 x19_1).f0))) (fun _ hk => hk.2) (.string ((rd_T45 x221000_1 x19_1).f1))) (fun _ hk => hk.2) (.int .i64 ((rd_T45 x221000_1 x19_1).f2))) (fun _ hk => hk.1.2)⟩
          have n1_ : Aside0 ((((w43.setCell ⟨gb222,0,none⟩ (.string ((rd_T45 x221000_1 x19_1).f0))).setCell ⟨gb222,1,none⟩ (.string ((rd_T45 x221000_1 x19_1).f1))).setCell ⟨gb222,2,none⟩ (.int .i64 ((rd_T45 x221000_1 x19_1).f2))).heap[gb214]? = some (.cells #[.slice A0_0 l0_0.length c0_0] 30 (0,0))):=⟨by (with_reducible repeat (first | refine blk_drewN ?_ _ | refine blk_drew ?_ | refine blk_alloc ?_ _));refine blk_far ?_ NB214_222.out _;(with_reducible repeat (first | refine blk_drewN ?_ _ | refine blk_drew ?_ | refine blk_alloc ?_ _));refine blk_far ?_ NB214_222.out _;(with_reducible repeat (first | refine blk_drewN ?_ _ | refine blk_drew ?_ | refine blk_alloc ?_ _));refine blk_far ?_ NB214_222.out _;(with_reducible repeat (first | refine blk_drewN ?_ _ | refine blk_drew ?_ | refine blk_alloc ?_ _));exact BK214.out⟩
          have n2_ : Aside0 ((((w43.setCell ⟨gb222,0,none⟩ (.string ((rd_T45 x221000_1 x19_1).f0))).setCell ⟨gb222,1,none⟩ (.string ((rd_T45 x221000_1 x19_1).f1))).setCell ⟨gb222,2,none⟩ (.int .i64 ((rd_T45 x221000_1 x19_1).f2))).heap[gb215]? = some (.cells #[.slice none 0 0] 30 (0,0))):=⟨by (with_reducible repeat (first | refine blk_drewN ?_ _ | refine blk_drew ?_ | refine blk_alloc ?_ _));refine blk_far ?_ NB215_222.out _;(with_reducible repeat (first | refine blk_drewN ?_ _ | refine blk_drew ?_ | refine blk_alloc ?_ _));refine blk_far ?_ NB215_222.out _;(with_reducible repeat (first | refine blk_drewN ?_ _ | refine blk_drew ?_ | refine blk_alloc ?_ _));refine blk_far ?_ NB215_222.out _;(with_reducible repeat (first | refine blk_drewN ?_ _ | refine blk_drew ?_ | refine blk_alloc ?_ _));exact BK215.out⟩
          have n3_ : Aside0 ((((w43.setCell ⟨gb222,0,none⟩ (.string ((rd_T45 x221000_1 x19_1).f0))).setCell ⟨gb222,1,none⟩ (.string ((rd_T45 x221000_1 x19_1).f1))).setCell ⟨gb222,2,none⟩ (.int .i64 ((rd_T45 x221000_1 x19_1).f2))).heap[gb220]? = some (.cells #[.slice (some ad221) x221000_1.length co14] 30 (0,0))):=⟨by (with_reducible repeat (first | refine blk_drewN ?_ _ | refine blk_drew ?_ | refine blk_alloc ?_ _));refine blk_far ?_ NB220_222.out _;(with_reducible repeat (first | refine blk_drewN ?_ _ | refine blk_drew ?_ | refine blk_alloc ?_ _));refine blk_far ?_ NB220_222.out _;(with_reducible repeat (first | refine blk_drewN ?_ _ | refine blk_drew ?_ | refine blk_alloc ?_ _));refine blk_far ?_ NB220_222.out _;(with_reducible repeat (first | refine blk_drewN ?_ _ | refine blk_drew ?_ | refine blk_alloc ?_ _));exact BK220.out⟩
          have n4_ : Aside0 ((((w43.setCell ⟨gb222,0,none⟩ (.string ((rd_T45 x221000_1 x19_1).f0))).setCell ⟨gb222,1,none⟩ (.string ((rd_T45 x221000_1 x19_1).f1))).setCell ⟨gb222,2,none⟩ (.int .i64 ((rd_T45 x221000_1 x19_1).f2))).heap[gb222]? = some (.cells #[.string ((rd_T45 x221000_1 x19_1).f0),.string ((rd_T45 x221000_1 x19_1).f1),.int .i64 ((rd_T45 x221000_1 x19_1).f2)] 45 (0,0))):=⟨by (with_reducible repeat (first | refine blk_drewN ?_ _ | refine blk_drew ?_ | refine blk_alloc ?_ _));refine blk_put (cs:=#[.string ((rd_T45 x221000_1 x19_1).f0),.string ((rd_T45 x221000_1 x19_1).f1),.int .i64 0]) ?_ 2 _ rfl;(with_reducible repeat (first | refine blk_drewN ?_ _ | refine blk_drew ?_ | refine blk_alloc ?_ _));refine blk_put (cs:=#[.string ((rd_T45 x221000_1 x19_1).f0),.string (⟨#[]⟩ : ByteArray),.int .i64 0]) ?_ 1 _ rfl;(with_reducible repeat (first | refine blk_drewN ?_ _ | refine blk_drew ?_ | refine blk_alloc ?_ _));refine blk_put (cs:=#[.string (⟨#[]⟩ : ByteArray),.string (⟨#[]⟩ : ByteArray),.int .i64 0]) ?_ 0 _ rfl;(with_reducible repeat (first | refine blk_drewN ?_ _ | refine blk_drew ?_ | refine blk_alloc ?_ _));exact BK222.out⟩
          have n5_ : Aside0 (Below w.heap.size w (((w43.setCell ⟨gb222,0,none⟩ (.string ((rd_T45 x221000_1 x19_1).f0))).setCell ⟨gb222,1,none⟩ (.string ((rd_T45 x221000_1 x19_1).f1))).setCell ⟨gb222,2,none⟩ (.int .i64 ((rd_T45 x221000_1 x19_1).f2)))):=⟨by repeat (first | (with_reducible first | exact HB.out | apply below_alloc | apply pw_below_drewN | apply below_drew1 | refine below_set ?_ GE214.out | refine below_set ?_ GE215.out | refine below_set ?_ GE220.out | refine below_set ?_ GE222.out) | exact HB.out)⟩
          (try clear HO_221000)
          (try clear BK214)
          (try clear BK215)
          (try clear BK220)
          (try clear BK222)
          (try clear HB)
          generalize (((w43.setCell ⟨gb222,0,none⟩ (.string ((rd_T45 x221000_1 x19_1).f0))).setCell ⟨gb222,1,none⟩ (.string ((rd_T45 x221000_1 x19_1).f1))).setCell ⟨gb222,2,none⟩ (.int .i64 ((rd_T45 x221000_1 x19_1).f2))) = w48 at n0_ n1_ n2_ n3_ n4_ n5_ ⊢
          have HO_221000:=n0_
          have BK214:=n1_
          have BK215:=n2_
          have BK220:=n3_
          have BK222:=n4_
          have HB:=n5_
          clear n0_ n1_ n2_ n3_ n4_ n5_
          have n0_:=Aside0.mk (Kd.R_drew HO_221000.out)
          have n1_:=Aside0.mk (blk_drew BK214.out)
          have n2_:=Aside0.mk (blk_drew BK215.out)
          have n3_:=Aside0.mk (blk_drew BK220.out)
          have n4_:=Aside0.mk (blk_drew BK222.out)
          have n5_:=Aside0.mk (below_drew1 HB.out)
          clear HO_221000
          clear BK214
          clear BK215
          clear BK220
          clear BK222
          clear HB
          have HO_221000:=n0_
          have BK214:=n1_
          have BK215:=n2_
          have BK220:=n3_
          have BK222:=n4_
          have HB:=n5_
          clear n0_ n1_ n2_ n3_ n4_ n5_
          have p41 : 0 ≤ (x19_1 : Int):=of_decide_eq_true (by first | (with_reducible assumption) | assumption)
          have q41 : (x19_1 : Int) < ((x221000_1.length : Int) : Int):=of_decide_eq_true (by first | (with_reducible assumption) | assumption)
          obtain ⟨go41,co41,eo41,gb41,gl41,cl41,HG41⟩:=Kd.R_form HO_221000.out (by omega)
          (first | cases eo41 | (injection eo41 with ea_ en_ ec_;(first | subst ea_ | (injection ea_ with ea_;subst ea_));subst ec_;clear en_))
          have GB41:=Aside0.mk gb41
          have GG41:=Aside0.mk HG41
          clear gb41 gl41 HG41
          (first | simp only [add_plain] at hx221_0 | skip)
          (first | simp only [add_plain] at hx221_1 | skip)
          (first | simp only [add_plain] at hx221_2 | skip)
          obtain ⟨ce41,hcl41,hM41,hcc41,hfr41⟩:=Kd.R_elem HO_221000.out z45 (x19_1 : Int) p41 q41
          obtain rfl:=k45_openM hM41
          have hx41_0 : World.cell? _ ⟨go41,(x19_1 : Int).toNat * 3,none⟩ = some (.string ((rd_T45 x221000_1 x19_1).f0)):=hcc41 0 _ rfl
          have hx41_1 : World.cell? _ ⟨go41,(x19_1 : Int).toNat * 3 + 1,none⟩ = some (.string ((rd_T45 x221000_1 x19_1).f1)):=hcc41 1 _ rfl
          have hx41_2 : World.cell? _ ⟨go41,(x19_1 : Int).toNat * 3 + 2,none⟩ = some (.int .i64 ((rd_T45 x221000_1 x19_1).f2)):=hcc41 2 _ rfl
          have hf41_0 : World.frozen? _ ⟨go41,(x19_1 : Int).toNat * 3,none⟩ = false:=hfr41 0
          have hf41_1 : World.frozen? _ ⟨go41,(x19_1 : Int).toNat * 3 + 1,none⟩ = false:=hfr41 1
          have hf41_2 : World.frozen? _ ⟨go41,(x19_1 : Int).toNat * 3 + 2,none⟩ = false:=hfr41 2
          clear hcl41 hcc41 hfr41 hM41
          replace p41:=eq_true p41
          replace q41:=eq_true q41
          obtain ⟨ce50,hcl50,hM50,hcc50,hfr50⟩:=Kd.R_elem HO_221000.out z45 (x19_1 : Int) (of_decide_eq_true (by first | (with_reducible assumption) | assumption)) (by have h_ : (x19_1 : Int) < ((x221000_1.length : Int) : Int):=of_decide_eq_true (by first | (with_reducible assumption) | assumption);first | exact h_ | (have e_:=(Kd.R_reads' HO_221000.out).1;omega) | simpa using h_)
          obtain rfl:=k45_openM hM50
          have HP50:=(Kd.R_seg HO_221000.out (x19_1 : Int) (of_decide_eq_true (by first | (with_reducible assumption) | assumption)) (by have h_ : (x19_1 : Int) < ((x221000_1.length : Int) : Int):=of_decide_eq_true (by first | (with_reducible assumption) | assumption);first | exact h_ | (have e_:=(Kd.R_reads' HO_221000.out).1;omega) | simpa using h_) (seg:=[.string (((rd_T45 x221000_1 x19_1).f1).extract 0 ((ji38) : Int).toNat)]) (j:=1) hcl50 hcc50 (show 2 ≤ 3 from by decide) (x':=(⟨(rd_T45 x221000_1 x19_1).f0,((rd_T45 x221000_1 x19_1).f1).extract 0 ((ji38) : Int).toNat,(rd_T45 x221000_1 x19_1).f2⟩ : S45)) (k45_mkM _ _ _ (⟨(rd_T45 x221000_1 x19_1).f0,((rd_T45 x221000_1 x19_1).f1).extract 0 ((ji38) : Int).toNat,(rd_T45 x221000_1 x19_1).f2⟩ : S45) ) (fun _ hk => hk)).1
          rw [← Ny226.out] at HP50
          have HQ50:=Aside0.mk HP50
          clear hcl50 hcc50 hfr50 hM50 HP50
          have p42 : 0 ≤ (x19_1 : Int):=of_decide_eq_true (by first | (with_reducible assumption) | assumption)
          have q42 : (x19_1 : Int) < ((x221000_1.length : Int) : Int):=of_decide_eq_true (by first | (with_reducible assumption) | assumption)
          replace p42:=eq_true p42
          replace q42:=eq_true q42
          obtain ⟨ce51,hcl51,hM51,hcc51,hfr51⟩:=Kd.R_elem HQ50.out z45 (x19_1 : Int) (of_decide_eq_true (by first | (with_reducible assumption) | assumption)) (by have h_ : (x19_1 : Int) < ((x221000_1.length : Int) : Int):=of_decide_eq_true (by first | (with_reducible assumption) | assumption);first | exact h_ | (have e_:=(Kd.R_reads' HO_221000.out).1;omega) | simpa using h_)
          obtain rfl:=k45_openM hM51
          have HP51:=(Kd.R_seg HQ50.out (x19_1 : Int) (of_decide_eq_true (by first | (with_reducible assumption) | assumption)) (by have h_ : (x19_1 : Int) < ((x221000_1.length : Int) : Int):=of_decide_eq_true (by first | (with_reducible assumption) | assumption);first | exact h_ | (have e_:=(Kd.R_reads' HO_221000.out).1;omega) | simpa using h_) (seg:=[.int .i64 ji38]) (j:=2) hcl51 hcc51 (show 3 ≤ 3 from by decide) (x':=(⟨(rd_T45 y226 x19_1).f0,(rd_T45 y226 x19_1).f1,ji38⟩ : S45)) (k45_mkM _ _ _ (⟨(rd_T45 y226 x19_1).f0,(rd_T45 y226 x19_1).f1,ji38⟩ : S45) ) (fun _ hk => hk)).1
          rw [← Ny227.out] at HP51
          have HQ51:=Aside0.mk HP51
          clear hcl51 hcc51 hfr51 hM51 HP51
          refine start_ (n:=17) (S:=fun w' => w'.cell? ⟨gb220,0,none⟩ = some (.slice (some ⟨go41,0,none⟩) x221000_1.length co14) ∧ w'.cell? ⟨gb222,0,none⟩ = some (.string ((rd_T45 x221000_1 x19_1).f0)) ∧ w'.cell? ⟨gb222,1,none⟩ = some (.string ((rd_T45 x221000_1 x19_1).f1)) ∧ w'.cell? ⟨gb222,2,none⟩ = some (.int .i64 ((rd_T45 x221000_1 x19_1).f2))) (ds:=[16]) #[Z7,Z7,Z7,Z7,Z7,Z7,Z7,Z7,Z7,Z7,Z7,Z7,Z7,Z7,Z7,Z7,Z7] (by kernel_rfl) rfl rfl ⟨(blk_cell BK220.out 0).trans rfl,(blk_cell BK222.out 0).trans rfl,(blk_cell BK222.out 1).trans rfl,(blk_cell BK222.out 2).trans rfl⟩ (fun hHeld => ?_);refine with_tabW impl_LoseDisk.tab11 impl_LoseDisk.bits11 (fun HT_ HW_ => ?_)
          generalize w48.drew = w49 at HO_221000 BK214 BK215 BK220 BK222 HB GG41 HQ50 HQ51 hf41_0 hf41_1 hf41_2 hx221_0 hx221_1 hx221_2 hx41_0 hx41_1 hx41_2 hHeld ⊢
          refine pure_ (i:=0) (N:=some 40) (v:=?_) (a':=?_) #[Y7,Z7,Z7,Z7,Z7,Z7,Z7,Z7,Z7,Z7,Z7,Z7,Z7,Z7,Z7,Z7,Z7] rfl rfl (any_of HT_.out (by kernel_rfl)) (fun _ _ _ h => h) (Or.inl ⟨by rfl,?_⟩) ?_ ?_;rotate_left
          ·intro w';go_simp;with_reducible rfl
          rotate_left
          ·simp only [Act.put,qA7,qB7,qC7,i64_w,i32_w];rfl
          refine pure_ (i:=2) (N:=some 42) (v:=?_) (a':=?_) #[Y7,Z7,Y7,Z7,Z7,Z7,Z7,Z7,Z7,Z7,Z7,Z7,Z7,Z7,Z7,Z7,Z7] rfl rfl (any_of HT_.out (by kernel_rfl)) (fun _ _ _ h => h) (Or.inl ⟨by rfl,?_⟩) ?_ ?_;rotate_left
          ·intro w';go_simp;with_reducible rfl
          rotate_left
          ·simp only [Act.put,qA7,qB7,qC7,i64_w,i32_w];rfl
          refine pure_ (i:=3) (N:=some 43) (v:=?_) (a':=?_) #[Y7,Z7,Y7,Y7,Z7,Z7,Z7,Z7,Z7,Z7,Z7,Z7,Z7,Z7,Z7,Z7,Z7] rfl rfl (any_of HT_.out (by kernel_rfl)) (fun _ _ _ h => h) (Or.inl ⟨by rfl,?_⟩) ?_ ?_;rotate_left
          ·intro w';go_simp;with_reducible rfl
          rotate_left
          ·simp only [Act.put,qA7,qB7,qC7,i64_w,i32_w];rfl
          refine pure_ (i:=5) (N:=some 45) (v:=?_) (a':=?_) #[Y7,Z7,Y7,Y7,Z7,Y7,Z7,Z7,Z7,Z7,Z7,Z7,Z7,Z7,Z7,Z7,Z7] rfl rfl (any_of HT_.out (by kernel_rfl)) (fun _ _ _ h => h) (Or.inl ⟨by rfl,?_⟩) ?_ ?_;rotate_left
          ·intro w';go_simp;with_reducible rfl
          rotate_left
          ·simp only [Act.put,qA7,qB7,qC7,i64_w,i32_w];rfl
          refine pure_ (i:=6) (N:=some 46) (v:=?_) (a':=?_) #[Y7,Z7,Y7,Y7,Z7,Y7,Y7,Z7,Z7,Z7,Z7,Z7,Z7,Z7,Z7,Z7,Z7] rfl rfl (any_of HT_.out (by kernel_rfl)) (fun _ _ _ h => h) (Or.inl ⟨by rfl,?_⟩) ?_ ?_;rotate_left
          ·intro w';go_simp;with_reducible rfl
          rotate_left
          ·simp only [Act.put,qA7,qB7,qC7,i64_w,i32_w];rfl
          refine pure_ (i:=8) (N:=some 48) (v:=?_) (a':=?_) #[Y7,Z7,Y7,Y7,Z7,Y7,Y7,Z7,Y7,Z7,Z7,Z7,Z7,Z7,Z7,Z7,Z7] rfl rfl (any_of HT_.out (by kernel_rfl)) (fun _ _ _ h => h) (Or.inl ⟨by rfl,?_⟩) ?_ ?_;rotate_left
          ·intro w';go_simp;with_reducible rfl
          rotate_left
          ·simp only [Act.put,qA7,qB7,qC7,i64_w,i32_w];rfl
          refine pure_ (i:=10) (N:=some 50) (v:=?_) (a':=?_) #[Y7,Z7,Y7,Y7,Z7,Y7,Y7,Z7,Y7,Z7,Y7,Z7,Z7,Z7,Z7,Z7,Z7] rfl rfl (any_of HT_.out (by kernel_rfl)) (fun _ _ _ h => h) (Or.inl ⟨by rfl,?_⟩) ?_ ?_;rotate_left
          ·intro w';go_simp;with_reducible rfl
          rotate_left
          ·simp only [Act.put,qA7,qB7,qC7,i64_w,i32_w];rfl
          refine take_ (i:=1) (N:=some 41) (v:=?_) (a':=?_) #[Y7,Y7,Y7,Y7,Z7,Y7,Y7,Z7,Y7,Z7,Y7,Z7,Z7,Z7,Z7,Z7,Z7] rfl rfl (take_ofW HT_.out HW_.out (by kernel_rfl)) (fun _ _ _ h => h) (Or.inl ⟨by rfl,?_⟩) hHeld ?_ ?_;rotate_left
          ·rintro w' ⟨s0,s1,s2,s3⟩
           go_simp
           with_reducible rfl
          rotate_left
          ·simp only [Act.put,qA7,qB7,qC7,i64_w,i32_w];rfl
          refine take_ (i:=4) (N:=some 44) (v:=?_) (a':=?_) #[Y7,Y7,Y7,Y7,Y7,Y7,Y7,Z7,Y7,Z7,Y7,Z7,Z7,Z7,Z7,Z7,Z7] rfl rfl (take_ofW HT_.out HW_.out (by kernel_rfl)) (fun _ _ _ h => h) (Or.inl ⟨by rfl,?_⟩) hHeld ?_ ?_;rotate_left
          ·rintro w' ⟨s0,s1,s2,s3⟩
           go_simp
           with_reducible rfl
          rotate_left
          ·simp only [Act.put,qA7,qB7,qC7,i64_w,i32_w];rfl
          refine take_ (i:=7) (N:=some 47) (v:=?_) (a':=?_) #[Y7,Y7,Y7,Y7,Y7,Y7,Y7,Y7,Y7,Z7,Y7,Z7,Z7,Z7,Z7,Z7,Z7] rfl rfl (take_ofW HT_.out HW_.out (by kernel_rfl)) (fun _ _ _ h => h) (Or.inl ⟨by rfl,?_⟩) hHeld ?_ ?_;rotate_left
          ·rintro w' ⟨s0,s1,s2,s3⟩
           go_simp
           with_reducible rfl
          rotate_left
          ·simp only [Act.put,qA7,qB7,qC7,i64_w,i32_w];rfl
          refine pure_ (i:=9) (N:=some 49) (v:=?_) (a':=?_) #[Y7,Y7,Y7,Y7,Y7,Y7,Y7,Y7,Y7,Y7,Y7,Z7,Z7,Z7,Z7,Z7,Z7] rfl rfl (any_of HT_.out (by kernel_rfl)) (fun _ _ _ h => h) (Or.inl ⟨by rfl,?_⟩) ?_ ?_;rotate_left
          ·intro w';go_simp;with_reducible rfl
          rotate_left
          ·simp only [Act.put,qA7,qB7,qC7,i64_w,i32_w];rfl
          refine pure_ (i:=11) (N:=some 51) (v:=?_) (a':=?_) #[Y7,Y7,Y7,Y7,Y7,Y7,Y7,Y7,Y7,Y7,Y7,Y7,Z7,Z7,Z7,Z7,Z7] rfl rfl (any_of HT_.out (by kernel_rfl)) (fun _ _ _ h => h) (Or.inl ⟨by rfl,?_⟩) ?_ ?_;rotate_left
          ·intro w';go_simp;with_reducible rfl
          rotate_left
          ·simp only [Act.put,qA7,qB7,qC7,i64_w,i32_w];rfl
          refine pure_ (i:=12) (N:=some 52) (v:=?_) (a':=?_) #[Y7,Y7,Y7,Y7,Y7,Y7,Y7,Y7,Y7,Y7,Y7,Y7,Y7,Z7,Z7,Z7,Z7] rfl rfl (any_of HT_.out (by kernel_rfl)) (fun _ _ _ h => h) (Or.inl ⟨by rfl,?_⟩) ?_ ?_;rotate_left
          ·intro w';go_simp;with_reducible rfl
          rotate_left
          ·simp only [Act.put,qA7,qB7,qC7,i64_w,i32_w];rfl
          refine one_ (i:=13) (N:=none) #[Y7,Y7,Y7,Y7,Y7,Y7,Y7,Y7,Y7,Y7,Y7,Y7,Y7,Y7,Z7,Z7,Z7] rfl rfl (one_of HT_.out (by kernel_rfl)) (by decide) (fun K hK => ?_)
          refine skip_ (w1:=?_) (by rfl) rfl ?_ ?_;rotate_left
          ·go_simp
           rfl
          refine hK.out _ _ ⟨((cell_far (p:=⟨go41,_,none⟩) (fun e_ => (by first | exact Kd.R_away HO_221000.out (fun _ hk => hk) (congrArg some e_) | exact Kd.R_away HO_221000.out (fun _ hk => hk.1) (congrArg some e_) | exact Kd.R_away HO_221000.out (fun _ hk => hk.2) (congrArg some e_) | exact Kd.R_ne HO_221000.out BK220.out (by decide) (congrArg some e_))) _).trans (hHeld.1)),((cell_far (p:=⟨go41,_,none⟩) (fun e_ => (by first | exact Kd.R_away HO_221000.out (fun _ hk => hk) (congrArg some e_) | exact Kd.R_away HO_221000.out (fun _ hk => hk.1) (congrArg some e_) | exact Kd.R_away HO_221000.out (fun _ hk => hk.2) (congrArg some e_) | exact Kd.R_ne HO_221000.out BK222.out (by decide) (congrArg some e_))) _).trans (hHeld.2.1)),((cell_far (p:=⟨go41,_,none⟩) (fun e_ => (by first | exact Kd.R_away HO_221000.out (fun _ hk => hk) (congrArg some e_) | exact Kd.R_away HO_221000.out (fun _ hk => hk.1) (congrArg some e_) | exact Kd.R_away HO_221000.out (fun _ hk => hk.2) (congrArg some e_) | exact Kd.R_ne HO_221000.out BK222.out (by decide) (congrArg some e_))) _).trans (hHeld.2.2.1)),((cell_far (p:=⟨go41,_,none⟩) (fun e_ => (by first | exact Kd.R_away HO_221000.out (fun _ hk => hk) (congrArg some e_) | exact Kd.R_away HO_221000.out (fun _ hk => hk.1) (congrArg some e_) | exact Kd.R_away HO_221000.out (fun _ hk => hk.2) (congrArg some e_) | exact Kd.R_ne HO_221000.out BK222.out (by decide) (congrArg some e_))) _).trans (hHeld.2.2.2))⟩ (fun hHeld => ?_)
          clear hK K
          refine pure_ (i:=14) (N:=some 53) (v:=?_) (a':=?_) #[Y7,Y7,Y7,Y7,Y7,Y7,Y7,Y7,Y7,Y7,Y7,Y7,Y7,Y7,Y7,Z7,Z7] rfl rfl (any_of HT_.out (by kernel_rfl)) (fun _ _ _ h => h) (Or.inl ⟨by rfl,?_⟩) ?_ ?_;rotate_left
          ·intro w';go_simp;with_reducible rfl
          rotate_left
          ·simp only [Act.put,qA7,qB7,qC7,i64_w,i32_w];rfl
          refine pure_ (i:=15) (N:=some 54) (v:=?_) (a':=?_) #[Y7,Y7,Y7,Y7,Y7,Y7,Y7,Y7,Y7,Y7,Y7,Y7,Y7,Y7,Y7,Y7,Z7] rfl rfl (any_of HT_.out (by kernel_rfl)) (fun _ _ _ h => h) (Or.inl ⟨by rfl,?_⟩) ?_ ?_;rotate_left
          ·intro w';go_simp;with_reducible rfl
          rotate_left
          ·simp only [Act.put,qA7,qB7,qC7,i64_w,i32_w];rfl
          refine last_ (i:=16) (N:=none) #[Y7,Y7,Y7,Y7,Y7,Y7,Y7,Y7,Y7,Y7,Y7,Y7,Y7,Y7,Y7,Y7,Y7] rfl rfl (one_of HT_.out (by kernel_rfl)) (by decide) (fun K hK => ?_)
          refine skip_ (w1:=?_) (by rfl) rfl ?_ ?_;rotate_left
          ·go_simp
           rfl
          refine hK.out _ _ ?_
          clear hK K
          refine done_ (done_of HT_.out (by kernel_rfl)) ?_
          try go_wp2
          (try simp only [← hl221000_1])
          go_roundg k1
          case measure => have:=HK1.out;omega
          case rel => exact ⟨(wrap64 (x19_1 + 1)),(y227),(by first | rfl | (simp;done) | (simp [*];done)),H',⟨by have:=HK1.out;omega⟩,⟨by (try simp only [hl221000_1]);(with_reducible repeat (first | apply Kd.R_alloc | apply Kd.R_drewN | apply Kd.R_drew));exact Kd.R_mono HQ51.out (fun _ hk => trivial)⟩,⟨by (try simp only [hl221000_1]);(with_reducible repeat (first | refine blk_drewN ?_ _ | refine blk_drew ?_ | refine blk_alloc ?_ _));refine blk_far ?_ (by have h_:=Kd.R_ne HO_221000.out BK214.out (by decide);intro e_;exact h_ (by rw [e_];rfl)) _;(with_reducible repeat (first | refine blk_drewN ?_ _ | refine blk_drew ?_ | refine blk_alloc ?_ _));refine blk_far ?_ (by have h_:=Kd.R_ne HO_221000.out BK214.out (by decide);intro e_;exact h_ (by rw [e_];rfl)) _;(with_reducible repeat (first | refine blk_drewN ?_ _ | refine blk_drew ?_ | refine blk_alloc ?_ _));exact BK214.out⟩,⟨by (try simp only [hl221000_1]);(with_reducible repeat (first | refine blk_drewN ?_ _ | refine blk_drew ?_ | refine blk_alloc ?_ _));refine blk_far ?_ (by have h_:=Kd.R_ne HO_221000.out BK215.out (by decide);intro e_;exact h_ (by rw [e_];rfl)) _;(with_reducible repeat (first | refine blk_drewN ?_ _ | refine blk_drew ?_ | refine blk_alloc ?_ _));refine blk_far ?_ (by have h_:=Kd.R_ne HO_221000.out BK215.out (by decide);intro e_;exact h_ (by rw [e_];rfl)) _;(with_reducible repeat (first | refine blk_drewN ?_ _ | refine blk_drew ?_ | refine blk_alloc ?_ _));exact BK215.out⟩,⟨by (try simp only [hl221000_1]);(with_reducible repeat (first | refine blk_drewN ?_ _ | refine blk_drew ?_ | refine blk_alloc ?_ _));refine blk_far ?_ (by have h_:=Kd.R_ne HO_221000.out BK220.out (by decide);intro e_;exact h_ (by rw [e_];rfl)) _;(with_reducible repeat (first | refine blk_drewN ?_ _ | refine blk_drew ?_ | refine blk_alloc ?_ _));refine blk_far ?_ (by have h_:=Kd.R_ne HO_221000.out BK220.out (by decide);intro e_;exact h_ (by rw [e_];rfl)) _;(with_reducible repeat (first | refine blk_drewN ?_ _ | refine blk_drew ?_ | refine blk_alloc ?_ _));exact BK220.out⟩,⟨by repeat (first | (with_reducible first | exact HB.out | apply below_alloc | apply pw_below_drewN | apply below_drew1 | refine below_set ?_ GB41.out | refine below_set ?_ GB41.out | refine below_set ?_ GE214.out | refine below_set ?_ GE215.out | refine below_set ?_ GE220.out | refine below_set ?_ GE222.out) | exact HB.out)⟩⟩
         ·rw [if_neg c40] at H
          exact absurd H (by simp)
        ·rw [if_neg c39] at H
         exact absurd H (by simp)
      ·rw [if_neg c20] at H
       exact absurd H (by simp)
     ·rw [if_neg c19] at H
      exact absurd H (by simp)
    ·rw [if_neg c18] at H
     have c18b0 : decide (x19_1 < (t217.length : Int)) = false:=decide_eq_false c18
     try have c18b9 : decide (x19_1 < (x221000_1.length : Int)) = false:=by rw [← hl221000_1];exact c18b0
     clear c18
     simp only [Option.some.injEq,Prod.mk.injEq] at H
     obtain ⟨rfl,rfl⟩:=H
     have hnb52:=NB220_214.out
     have hnc52:=NB214_220.out
     have hnb53:=NB220_215.out
     have hnc53:=NB215_220.out
     have hcz54_0 : wr.cell? ⟨gb220,0,none⟩ = some (.slice Ao14 x221000_1.length co14):=(blk_cell BK220.out 0).trans rfl
     have hfz54_0:=blk_frozen BK220.out 0
     have hnb55:=NB215_214.out
     have hnc55:=NB214_215.out
     have hcz56_0 : wr.cell? ⟨gb215,0,none⟩ = some (.slice none 0 0):=(blk_cell BK215.out 0).trans rfl
     have hfz56_0:=blk_frozen BK215.out 0
     go_wp2
     refine bodyPost_ret (results_ct rfl _ _ gb215 30 #[.slice Ao14 x221000_1.length co14] (0,0) _ rfl (by (with_reducible repeat (first | refine blk_drewN ?_ _ | refine blk_drew ?_ | refine blk_alloc ?_ _));refine blk_put (cs:=#[.slice none 0 0]) ?_ 0 _ rfl;(with_reducible repeat (first | refine blk_drewN ?_ _ | refine blk_drew ?_ | refine blk_alloc ?_ _));exact BK215.out) Try.underlying30 rfl (by kernel_rfl)) rfl ?_
     exact ⟨_,by first | rfl | (simp [errW_none,errW_some] <;> rfl) | (simp [*,errW_none,errW_some] <;> rfl),by (with_reducible repeat (first | apply Kd.R_alloc | apply Kd.R_drewN | apply Kd.R_drew));exact Kd.R_mono (Kd.R_far (p:=⟨gb215,0,none⟩) (Kd.R_types HO_221000.out BK215.out (by decide)) (fun _ hk => hk.2) (.slice Ao14 x221000_1.length co14)) (fun _ hk => trivial),by repeat (first | (with_reducible first | exact HB.out | apply below_alloc | apply pw_below_drewN | apply below_drew1 | refine below_set ?_ GE214.out | refine below_set ?_ GE215.out | refine below_set ?_ GE220.out) | exact HB.out)⟩
 ·replace c4:=Bool.eq_false_iff.mpr c4
  subst c4
  have H1 : (some (([] : List (S45)),false)) = some (r1,r2):=by rw [if_neg (show ¬ (false = true) by decide)] at H;exact H
  clear H
  have H:=H1
  clear H1
  simp only [Option.some.injEq,Prod.mk.injEq] at H
  obtain ⟨rfl,rfl⟩:=H
  go_enter Try.func25,Try.ntmps25
  go_wp2_with (first | ((with_reducible refine gate_dst (N:=2) rfl ?_);refine box_event ?hg (N:=2) ?hd (cs:=#[.slice A0_0 l0_0.length c0_0]) (t:=30) ?hr ?_;(case hd => rfl);(case hg => rfl);(case hr => first | (go_simp;done) | (go_simp;rfl));intro gb214 hg w57 hbox hb;have n0_:=Aside0.mk (below_step (by repeat (first | (with_reducible first | exact HB.out | apply below_alloc | apply pw_below_drewN | apply below_drew1) | exact HB.out)) hb);have n1_:=Aside0.mk (hbox);have n2_:=Aside0.mk ((by rw [hg];exact (below_size (by repeat (first | (with_reducible first | exact HB.out | apply below_alloc | apply pw_below_drewN | apply below_drew1) | exact HB.out))) : w.heap.size ≤ gb214));have n3_:=Aside0.mk ((by rw [hg];exact (below_size (by repeat (first | (with_reducible first | exact HB.out | apply below_alloc | apply pw_below_drewN | apply below_drew1) | exact HB.out))) : w.heap.size ≤ gb214));clear HB;have HB:=n0_;have BK214:=n1_;have GW214:=n2_;have GE214:=n3_;clear n0_ n1_ n2_ n3_;clear hb hbox hg) | ((with_reducible refine gate_dst (N:=4) rfl ?_);refine box_event ?hg (N:=4) ?hd (cs:=#[.slice none 0 0]) (t:=30) ?hr ?_;(case hd => rfl);(case hg => rfl);(case hr => first | (go_simp;done) | (go_simp;rfl));intro gb215 hg w58 hbox hb;have n0_:=Aside0.mk (blk_below (g:=gb214) (o:=.cells #[.slice A0_0 l0_0.length c0_0] 30 (0,0)) (by (with_reducible repeat (first | refine blk_drewN ?_ _ | refine blk_drew ?_ | refine blk_alloc ?_ _));exact BK214.out) hb);have n1_:=Aside0.mk (below_step (by repeat (first | (with_reducible first | exact HB.out | apply below_alloc | apply pw_below_drewN | apply below_drew1 | refine below_set ?_ GE214.out) | exact HB.out)) hb);have n2_:=Aside0.mk (hbox);have n3_:=Aside0.mk ((by rw [hg];exact (below_size (by repeat (first | (with_reducible first | exact HB.out | apply below_alloc | apply pw_below_drewN | apply below_drew1 | refine below_set ?_ GE214.out) | exact HB.out))) : w.heap.size ≤ gb215));have n4_:=Aside0.mk ((by rw [hg];exact (below_size (by repeat (first | (with_reducible first | exact HB.out | apply below_alloc | apply pw_below_drewN | apply below_drew1 | refine below_set ?_ GE214.out) | exact HB.out))) : w.heap.size ≤ gb215));have n5_:=Aside0.mk ((by rw [hg];exact Nat.ne_of_lt (blk_lt (g:=gb214) (o:=.cells #[.slice A0_0 l0_0.length c0_0] 30 (0,0)) (by (with_reducible repeat (first | refine blk_drewN ?_ _ | refine blk_drew ?_ | refine blk_alloc ?_ _));exact BK214.out)) : gb214 ≠ gb215));have n6_:=Aside0.mk ((by rw [hg];exact Nat.ne_of_gt (blk_lt (g:=gb214) (o:=.cells #[.slice A0_0 l0_0.length c0_0] 30 (0,0)) (by (with_reducible repeat (first | refine blk_drewN ?_ _ | refine blk_drew ?_ | refine blk_alloc ?_ _));exact BK214.out)) : gb215 ≠ gb214));clear BK214;clear HB;have BK214:=n0_;have HB:=n1_;have BK215:=n2_;have GW215:=n3_;have GE215:=n4_;have NB214_215:=n5_;have NB215_214:=n6_;clear n0_ n1_ n2_ n3_ n4_ n5_ n6_;clear hb hbox hg;have hnb59:=NB214_215.out;have hnc59:=NB215_214.out;have hcz60_0 : w58.cell? ⟨gb214,0,none⟩ = some (.slice A0_0 l0_0.length c0_0):=(blk_cell BK214.out 0).trans rfl;have hfz60_0:=blk_frozen BK214.out 0) | ((with_reducible refine gate_callee (f:=27) rfl ?_);refine goesL_ (some 11) rfl rfl Try.func27 (by kernel_rfl) rfl #[.agg #[.slice A0_0 l0_0.length c0_0]] rfl (by (try simp only [List.map_toArray,List.map_cons,List.map_nil]);first | done | rfl | (simp only [List.length_drop,List.length_take];rfl)) ?_;(with_reducible refine (impl_DiskOk.calls k _ _ l0_0 false _ ?side1 ?side2 A3.out).mono ?_);(case side1 => repeat (first | exact (Kd.C_below HR0_0.out HB.out) | (with_reducible refine Kd.C_alloc ?_ _) | (with_reducible refine Kd.C_drewN ?_ _) | (with_reducible refine Kd.C_drew ?_)));(case side2 => exact HC0_0.out);rintro e w61 ⟨rfl,hb⟩;refine ⟨_,rfl,?_⟩;have n0_:=Aside0.mk (blk_below (g:=gb214) (o:=.cells #[.slice A0_0 l0_0.length c0_0] 30 (0,0)) (by (with_reducible repeat (first | refine blk_drewN ?_ _ | refine blk_drew ?_ | refine blk_alloc ?_ _));exact BK214.out) hb);have n1_:=Aside0.mk (blk_below (g:=gb215) (o:=.cells #[.slice none 0 0] 30 (0,0)) (by (with_reducible repeat (first | refine blk_drewN ?_ _ | refine blk_drew ?_ | refine blk_alloc ?_ _));exact BK215.out) hb);have n2_:=Aside0.mk (below_step (by repeat (first | (with_reducible first | exact HB.out | apply below_alloc | apply pw_below_drewN | apply below_drew1 | refine below_set ?_ GE214.out | refine below_set ?_ GE215.out) | exact HB.out)) hb);clear BK214;clear BK215;clear HB;have BK214:=n0_;have BK215:=n1_;have HB:=n2_;clear n0_ n1_ n2_;(try clear hb);(try clear hb2);(try clear hk);(try clear hi);have hcz62_0 : w61.cell? ⟨gb215,0,none⟩ = some (.slice none 0 0):=(blk_cell BK215.out 0).trans rfl;have hfz62_0:=blk_frozen BK215.out 0))
  refine bodyPost_ret (results_ct rfl _ _ gb215 30 #[.slice none 0 0] (0,0) _ rfl (by (with_reducible repeat (first | refine blk_drewN ?_ _ | refine blk_drew ?_ | refine blk_alloc ?_ _));refine blk_put (cs:=#[.slice none 0 0]) ?_ 0 _ rfl;(with_reducible repeat (first | refine blk_drewN ?_ _ | refine blk_drew ?_ | refine blk_alloc ?_ _));exact BK215.out) Try.underlying30 rfl (by kernel_rfl)) rfl ?_
  exact ⟨_,by first | rfl | (simp [errW_none,errW_some] <;> rfl) | (simp [*,errW_none,errW_some] <;> rfl),by first | exact Kd.R_nil _ _ _ _ _ | exact Kd.N_nil _ _ _ _ _ | exact Kd.V_nil _ _ _ _ _ | exact Kd.Q_nil _ _ _ _ _ | exact Kd.S_nil _ _ _ _ _,by repeat (first | (with_reducible first | exact HB.out | apply below_alloc | apply pw_below_drewN | apply below_drew1 | refine below_set ?_ GE214.out | refine below_set ?_ GE215.out) | exact HB.out)⟩

attribute [local go_sem high] eqA45
/-! ### laws_sameDisk: function 26 -/
def laws_sameDisk.l0 : Nat → Int → List (S45) → List (S45) → Option (Bool)
 | 0,_,_,_ => none
 | k + 1,x5,x229000,x230000 => if x5 < (x229000.length : Int) then (if 0 ≤ x5 then (if x5 < (x230000.length : Int) then (if (!((((rd_T45 x229000 x5).f0).toList) == (((rd_T45 x230000 x5).f0).toList)) || (!((((rd_T45 x229000 x5).f1).toList) == (((rd_T45 x230000 x5).f1).toList)) || (!(((rd_T45 x229000 x5).f2) == ((rd_T45 x230000 x5).f2))))) = true then (some false) else (laws_sameDisk.l0 k (wrap64 (x5 + 1)) x229000 x230000)) else (none)) else (none)) else (some true)
def laws_sameDisk.f (k : Nat) (l0_0 : List (S45)) (l1_0 : List (S45)) : Option (Bool):=if (l0_0.length : Int) = (l1_0.length : Int) then (laws_sameDisk.l0 k 0 l0_0 l1_0) else (some false)
theorem laws_sameDisk.mono_l : ∀ k,(∀ y0 y1 y2,LeO (laws_sameDisk.l0 k y0 y1 y2) (laws_sameDisk.l0 (k + 1) y0 y1 y2))
 | 0 => fun _ _ _ r h => by simp [laws_sameDisk.l0] at h
 | k + 1 => by
  have ih0:=laws_sameDisk.mono_l k
  ·intro y0 y1 y2
   unfold laws_sameDisk.l0
   repeat' first
   | (with_reducible exact ih0 _ _ _)
   | (with_reducible exact LeO.refl _)
   | (with_reducible exact LeO.none _)
   | (with_reducible refine LeO.ite ?_ ?_)
   | (with_reducible refine LeO.bind ?_ (fun _ => ?_))
   | exact ih0 _ _ _
   | exact LeO.none _
   | refine LeO.ite ?_ ?_
   | refine LeO.bind ?_ (fun _ => ?_)
theorem laws_sameDisk.mono : ∀ a0 a1 k,LeO (laws_sameDisk.f k a0 a1) (laws_sameDisk.f (k + 1) a0 a1):=by
 intro a0 a1 k
 have ih0:=laws_sameDisk.mono_l k
 unfold laws_sameDisk.f
 repeat' first
   | (with_reducible exact ih0 _ _ _)
   | (with_reducible exact LeO.refl _)
   | (with_reducible exact LeO.none _)
   | (with_reducible refine LeO.ite ?_ ?_)
   | (with_reducible refine LeO.bind ?_ (fun _ => ?_))
   | exact ih0 _ _ _
   | exact LeO.none _
   | refine LeO.ite ?_ ?_
   | refine LeO.bind ?_ (fun _ => ?_)
set_option maxHeartbeats 8000000 in
set_option maxRecDepth 100000 in
theorem laws_sameDisk.calls (k : Nat) (A0_0 : Option Addr) (c0_0 : Nat) (l0_0 : List (S45)) (A1_0 : Option Addr) (c1_0 : Nat) (l1_0 : List (S45)) (r : Bool) (w : World) (hr0_0 : Kd.C k45 w A0_0 l0_0.length l0_0) (hc0_0 : l0_0.length ≤ c0_0) (hr1_0 : Kd.C k45 w A1_0 l1_0.length l1_0) (hc1_0 : l1_0.length ≤ c1_0) (h : laws_sameDisk.f k l0_0 l1_0 = some r) :
  Calls Try.prog 26 #[.agg #[.slice A0_0 l0_0.length c0_0],.agg #[.slice A1_0 l1_0.length c1_0]] w fun e w' => e = .returned (.bool r) ∧ Below w.heap.size w w':=by
 have hu30:=Try.underlying30
 have hu45:=Try.underlying45
 have HR0_0:=Aside0.mk hr0_0
 have HC0_0:=Aside0.mk hc0_0
 clear hr0_0 hc0_0
 have HR1_0:=Aside0.mk hr1_0
 have HC1_0:=Aside0.mk hc1_0
 clear hr1_0 hc1_0
 have HB:=Aside0.mk (Below.refl w.heap.size w)
 have H : (if (l0_0.length : Int) = (l1_0.length : Int) then (laws_sameDisk.l0 k 0 l0_0 l1_0) else (some false)) = some r:=h
 clear h
 by_cases c3 : (l0_0.length : Int) = (l1_0.length : Int)
 ·rw [if_pos c3] at H
  have c3b0 : ((l0_0.length : Int) == (l1_0.length : Int)) = true:=beq_iff_eq.mpr c3
  have c3b1 : ((l0_0.length : Int) != (l1_0.length : Int)) = false:=bne_eq_false_iff_eq.mpr c3
  have c3b2 : (l0_0.length == l1_0.length) = true:=by first | simpa using c3 | (simp at c3 ⊢;omega)
  clear c3
  have H':=Aside0.mk H
  clear H
  go_enter Try.func26,Try.ntmps26
  go_wp2_with (first | ((with_reducible refine gate_dst (N:=2) rfl ?_);refine box_event ?hg (N:=2) ?hd (cs:=#[.slice A0_0 l0_0.length c0_0]) (t:=30) ?hr ?_;(case hd => rfl);(case hg => rfl);(case hr => first | (go_simp;done) | (go_simp;rfl));intro gb228 hg w4 hbox hb;have n0_:=Aside0.mk (below_step (by repeat (first | (with_reducible first | exact HB.out | apply below_alloc | apply pw_below_drewN | apply below_drew1) | exact HB.out)) hb);have n1_:=Aside0.mk (hbox);have n2_:=Aside0.mk ((by rw [hg];exact (below_size (by repeat (first | (with_reducible first | exact HB.out | apply below_alloc | apply pw_below_drewN | apply below_drew1) | exact HB.out))) : w.heap.size ≤ gb228));have n3_:=Aside0.mk ((by rw [hg];exact (below_size (by repeat (first | (with_reducible first | exact HB.out | apply below_alloc | apply pw_below_drewN | apply below_drew1) | exact HB.out))) : w.heap.size ≤ gb228));clear HB;have HB:=n0_;have BK228:=n1_;have GW228:=n2_;have GE228:=n3_;clear n0_ n1_ n2_ n3_;clear hb hbox hg) | ((with_reducible refine gate_dst (N:=3) rfl ?_);refine box_event ?hg (N:=3) ?hd (cs:=#[.slice A1_0 l1_0.length c1_0]) (t:=30) ?hr ?_;(case hd => rfl);(case hg => rfl);(case hr => first | (go_simp;done) | (go_simp;rfl));intro gb229 hg w5 hbox hb;have n0_:=Aside0.mk (blk_below (g:=gb228) (o:=.cells #[.slice A0_0 l0_0.length c0_0] 30 (0,0)) (by (with_reducible repeat (first | refine blk_drewN ?_ _ | refine blk_drew ?_ | refine blk_alloc ?_ _));exact BK228.out) hb);have n1_:=Aside0.mk (below_step (by repeat (first | (with_reducible first | exact HB.out | apply below_alloc | apply pw_below_drewN | apply below_drew1 | refine below_set ?_ GE228.out) | exact HB.out)) hb);have n2_:=Aside0.mk (hbox);have n3_:=Aside0.mk ((by rw [hg];exact (below_size (by repeat (first | (with_reducible first | exact HB.out | apply below_alloc | apply pw_below_drewN | apply below_drew1 | refine below_set ?_ GE228.out) | exact HB.out))) : w.heap.size ≤ gb229));have n4_:=Aside0.mk ((by rw [hg];exact (below_size (by repeat (first | (with_reducible first | exact HB.out | apply below_alloc | apply pw_below_drewN | apply below_drew1 | refine below_set ?_ GE228.out) | exact HB.out))) : w.heap.size ≤ gb229));have n5_:=Aside0.mk ((by rw [hg];exact Nat.ne_of_lt (blk_lt (g:=gb228) (o:=.cells #[.slice A0_0 l0_0.length c0_0] 30 (0,0)) (by (with_reducible repeat (first | refine blk_drewN ?_ _ | refine blk_drew ?_ | refine blk_alloc ?_ _));exact BK228.out)) : gb228 ≠ gb229));have n6_:=Aside0.mk ((by rw [hg];exact Nat.ne_of_gt (blk_lt (g:=gb228) (o:=.cells #[.slice A0_0 l0_0.length c0_0] 30 (0,0)) (by (with_reducible repeat (first | refine blk_drewN ?_ _ | refine blk_drew ?_ | refine blk_alloc ?_ _));exact BK228.out)) : gb229 ≠ gb228));clear BK228;clear HB;have BK228:=n0_;have HB:=n1_;have BK229:=n2_;have GW229:=n3_;have GE229:=n4_;have NB228_229:=n5_;have NB229_228:=n6_;clear n0_ n1_ n2_ n3_ n4_ n5_ n6_;clear hb hbox hg;have hnb6:=NB228_229.out;have hnc6:=NB229_228.out;have hcz7_0 : w5.cell? ⟨gb228,0,none⟩ = some (.slice A0_0 l0_0.length c0_0):=(blk_cell BK228.out 0).trans rfl;have hfz7_0:=blk_frozen BK228.out 0;have hcz8_0 : w5.cell? ⟨gb229,0,none⟩ = some (.slice A1_0 l1_0.length c1_0):=(blk_cell BK229.out 0).trans rfl;have hfz8_0:=blk_frozen BK229.out 0))
  repeat (go_quiet (first | ((with_reducible refine gate_dst (N:=2) rfl ?_);refine box_event ?hg (N:=2) ?hd (cs:=#[.slice A0_0 l0_0.length c0_0]) (t:=30) ?hr ?_;(case hd => rfl);(case hg => rfl);(case hr => first | (go_simp;done) | (go_simp;rfl));intro gb228 hg w4 hbox hb;have n0_:=Aside0.mk (below_step (by repeat (first | (with_reducible first | exact HB.out | apply below_alloc | apply pw_below_drewN | apply below_drew1) | exact HB.out)) hb);have n1_:=Aside0.mk (hbox);have n2_:=Aside0.mk ((by rw [hg];exact (below_size (by repeat (first | (with_reducible first | exact HB.out | apply below_alloc | apply pw_below_drewN | apply below_drew1) | exact HB.out))) : w.heap.size ≤ gb228));have n3_:=Aside0.mk ((by rw [hg];exact (below_size (by repeat (first | (with_reducible first | exact HB.out | apply below_alloc | apply pw_below_drewN | apply below_drew1) | exact HB.out))) : w.heap.size ≤ gb228));clear HB;have HB:=n0_;have BK228:=n1_;have GW228:=n2_;have GE228:=n3_;clear n0_ n1_ n2_ n3_;clear hb hbox hg) | ((with_reducible refine gate_dst (N:=3) rfl ?_);refine box_event ?hg (N:=3) ?hd (cs:=#[.slice A1_0 l1_0.length c1_0]) (t:=30) ?hr ?_;(case hd => rfl);(case hg => rfl);(case hr => first | (go_simp;done) | (go_simp;rfl));intro gb229 hg w5 hbox hb;have n0_:=Aside0.mk (blk_below (g:=gb228) (o:=.cells #[.slice A0_0 l0_0.length c0_0] 30 (0,0)) (by (with_reducible repeat (first | refine blk_drewN ?_ _ | refine blk_drew ?_ | refine blk_alloc ?_ _));exact BK228.out) hb);have n1_:=Aside0.mk (below_step (by repeat (first | (with_reducible first | exact HB.out | apply below_alloc | apply pw_below_drewN | apply below_drew1 | refine below_set ?_ GE228.out) | exact HB.out)) hb);have n2_:=Aside0.mk (hbox);have n3_:=Aside0.mk ((by rw [hg];exact (below_size (by repeat (first | (with_reducible first | exact HB.out | apply below_alloc | apply pw_below_drewN | apply below_drew1 | refine below_set ?_ GE228.out) | exact HB.out))) : w.heap.size ≤ gb229));have n4_:=Aside0.mk ((by rw [hg];exact (below_size (by repeat (first | (with_reducible first | exact HB.out | apply below_alloc | apply pw_below_drewN | apply below_drew1 | refine below_set ?_ GE228.out) | exact HB.out))) : w.heap.size ≤ gb229));have n5_:=Aside0.mk ((by rw [hg];exact Nat.ne_of_lt (blk_lt (g:=gb228) (o:=.cells #[.slice A0_0 l0_0.length c0_0] 30 (0,0)) (by (with_reducible repeat (first | refine blk_drewN ?_ _ | refine blk_drew ?_ | refine blk_alloc ?_ _));exact BK228.out)) : gb228 ≠ gb229));have n6_:=Aside0.mk ((by rw [hg];exact Nat.ne_of_gt (blk_lt (g:=gb228) (o:=.cells #[.slice A0_0 l0_0.length c0_0] 30 (0,0)) (by (with_reducible repeat (first | refine blk_drewN ?_ _ | refine blk_drew ?_ | refine blk_alloc ?_ _));exact BK228.out)) : gb229 ≠ gb228));clear BK228;clear HB;have BK228:=n0_;have HB:=n1_;have BK229:=n2_;have GW229:=n3_;have GE229:=n4_;have NB228_229:=n5_;have NB229_228:=n6_;clear n0_ n1_ n2_ n3_ n4_ n5_ n6_;clear hb hbox hg;have hnb6:=NB228_229.out;have hnc6:=NB229_228.out;have hcz7_0 : w5.cell? ⟨gb228,0,none⟩ = some (.slice A0_0 l0_0.length c0_0):=(blk_cell BK228.out 0).trans rfl;have hfz7_0:=blk_frozen BK228.out 0;have hcz8_0 : w5.cell? ⟨gb229,0,none⟩ = some (.slice A1_0 l1_0.length c1_0):=(blk_cell BK229.out 0).trans rfl;have hfz8_0:=blk_frozen BK229.out 0));try go_wp2_with (first | ((with_reducible refine gate_dst (N:=2) rfl ?_);refine box_event ?hg (N:=2) ?hd (cs:=#[.slice A0_0 l0_0.length c0_0]) (t:=30) ?hr ?_;(case hd => rfl);(case hg => rfl);(case hr => first | (go_simp;done) | (go_simp;rfl));intro gb228 hg w4 hbox hb;have n0_:=Aside0.mk (below_step (by repeat (first | (with_reducible first | exact HB.out | apply below_alloc | apply pw_below_drewN | apply below_drew1) | exact HB.out)) hb);have n1_:=Aside0.mk (hbox);have n2_:=Aside0.mk ((by rw [hg];exact (below_size (by repeat (first | (with_reducible first | exact HB.out | apply below_alloc | apply pw_below_drewN | apply below_drew1) | exact HB.out))) : w.heap.size ≤ gb228));have n3_:=Aside0.mk ((by rw [hg];exact (below_size (by repeat (first | (with_reducible first | exact HB.out | apply below_alloc | apply pw_below_drewN | apply below_drew1) | exact HB.out))) : w.heap.size ≤ gb228));clear HB;have HB:=n0_;have BK228:=n1_;have GW228:=n2_;have GE228:=n3_;clear n0_ n1_ n2_ n3_;clear hb hbox hg) | ((with_reducible refine gate_dst (N:=3) rfl ?_);refine box_event ?hg (N:=3) ?hd (cs:=#[.slice A1_0 l1_0.length c1_0]) (t:=30) ?hr ?_;(case hd => rfl);(case hg => rfl);(case hr => first | (go_simp;done) | (go_simp;rfl));intro gb229 hg w5 hbox hb;have n0_:=Aside0.mk (blk_below (g:=gb228) (o:=.cells #[.slice A0_0 l0_0.length c0_0] 30 (0,0)) (by (with_reducible repeat (first | refine blk_drewN ?_ _ | refine blk_drew ?_ | refine blk_alloc ?_ _));exact BK228.out) hb);have n1_:=Aside0.mk (below_step (by repeat (first | (with_reducible first | exact HB.out | apply below_alloc | apply pw_below_drewN | apply below_drew1 | refine below_set ?_ GE228.out) | exact HB.out)) hb);have n2_:=Aside0.mk (hbox);have n3_:=Aside0.mk ((by rw [hg];exact (below_size (by repeat (first | (with_reducible first | exact HB.out | apply below_alloc | apply pw_below_drewN | apply below_drew1 | refine below_set ?_ GE228.out) | exact HB.out))) : w.heap.size ≤ gb229));have n4_:=Aside0.mk ((by rw [hg];exact (below_size (by repeat (first | (with_reducible first | exact HB.out | apply below_alloc | apply pw_below_drewN | apply below_drew1 | refine below_set ?_ GE228.out) | exact HB.out))) : w.heap.size ≤ gb229));have n5_:=Aside0.mk ((by rw [hg];exact Nat.ne_of_lt (blk_lt (g:=gb228) (o:=.cells #[.slice A0_0 l0_0.length c0_0] 30 (0,0)) (by (with_reducible repeat (first | refine blk_drewN ?_ _ | refine blk_drew ?_ | refine blk_alloc ?_ _));exact BK228.out)) : gb228 ≠ gb229));have n6_:=Aside0.mk ((by rw [hg];exact Nat.ne_of_gt (blk_lt (g:=gb228) (o:=.cells #[.slice A0_0 l0_0.length c0_0] 30 (0,0)) (by (with_reducible repeat (first | refine blk_drewN ?_ _ | refine blk_drew ?_ | refine blk_alloc ?_ _));exact BK228.out)) : gb229 ≠ gb228));clear BK228;clear HB;have BK228:=n0_;have HB:=n1_;have BK229:=n2_;have GW229:=n3_;have GE229:=n4_;have NB228_229:=n5_;have NB229_228:=n6_;clear n0_ n1_ n2_ n3_ n4_ n5_ n6_;clear hb hbox hg;have hnb6:=NB228_229.out;have hnc6:=NB229_228.out;have hcz7_0 : w5.cell? ⟨gb228,0,none⟩ = some (.slice A0_0 l0_0.length c0_0):=(blk_cell BK228.out 0).trans rfl;have hfz7_0:=blk_frozen BK228.out 0;have hcz8_0 : w5.cell? ⟨gb229,0,none⟩ = some (.slice A1_0 l1_0.length c1_0):=(blk_cell BK229.out 0).trans rfl;have hfz8_0:=blk_frozen BK229.out 0)))
  go_loopg [5] k (fun kq v5 w' => ∃ (x5_1 : Int),v5 = .int .i64 x5_1 ∧ Aside0 (laws_sameDisk.l0 kq x5_1 l0_0 l1_0 = some r) ∧ Aside0 (kq ≤ k) ∧ Aside0 (w'.heap[gb228]? = some (.cells #[(.slice A0_0 l0_0.length c0_0)] 30 (0,0))) ∧ Aside0 (w'.heap[gb229]? = some (.cells #[(.slice A1_0 l1_0.length c1_0)] 30 (0,0))) ∧ Aside0 (Below w.heap.size w w'))
  case atStart => exact ⟨(0),(by first | rfl | (simp;done) | (simp [*];done)),H',⟨Nat.le_refl _⟩,⟨by (with_reducible repeat (first | refine blk_drewN ?_ _ | refine blk_drew ?_ | refine blk_alloc ?_ _));exact BK228.out⟩,⟨by (with_reducible repeat (first | refine blk_drewN ?_ _ | refine blk_drew ?_ | refine blk_alloc ?_ _));exact BK229.out⟩,⟨by repeat (first | (with_reducible first | exact HB.out | apply below_alloc | apply pw_below_drewN | apply below_drew1 | refine below_set ?_ GE228.out | refine below_set ?_ GE229.out) | exact HB.out)⟩⟩
  case round =>
   clear H'
   try clear c1
   try clear c2
   try clear p2
   try clear c3
   try clear c3b0
   try clear c3b1
   try clear c3b2
   try clear c6
   try clear hcz7_0
   try clear hcz8_0
   try clear hfz7_0
   try clear hfz8_0
   obtain ⟨x5_1,rfl,HA,HK1,BK228,BK229,HB⟩:=hrel
   cases gk with
   | zero => exact absurd HA.out (by simp [laws_sameDisk.l0])
   | succ k1 =>
    have H:=HA.out
    clear HA
    simp only [laws_sameDisk.l0] at H
    by_cases c9 : x5_1 < (l0_0.length : Int)
    ·rw [if_pos c9] at H
     have c9b0 : decide (x5_1 < (l0_0.length : Int)) = true:=decide_eq_true c9
     clear c9
     by_cases c10 : 0 ≤ x5_1
     ·rw [if_pos c10] at H
      have c10b0 : decide (0 ≤ x5_1) = true:=decide_eq_true c10
      clear c10
      by_cases c11 : x5_1 < (l1_0.length : Int)
      ·rw [if_pos c11] at H
       have c11b0 : decide (x5_1 < (l1_0.length : Int)) = true:=decide_eq_true c11
       clear c11
       by_cases c12 : (!((((rd_T45 l0_0 x5_1).f0).toList) == (((rd_T45 l1_0 x5_1).f0).toList)) || (!((((rd_T45 l0_0 x5_1).f1).toList) == (((rd_T45 l1_0 x5_1).f1).toList)) || (!(((rd_T45 l0_0 x5_1).f2) == ((rd_T45 l1_0 x5_1).f2))))) = true
       ·rw [if_pos c12] at H
        have c12b0 : (!((((rd_T45 l0_0 x5_1).f0).toList) == (((rd_T45 l1_0 x5_1).f0).toList)) || (!((((rd_T45 l0_0 x5_1).f1).toList) == (((rd_T45 l1_0 x5_1).f1).toList)) || (!(((rd_T45 l0_0 x5_1).f2) == ((rd_T45 l1_0 x5_1).f2))))) = true:=c12
        clear c12
        obtain rfl:=Option.some.inj H
        have hnb13:=NB228_229.out
        have hnc13:=NB229_228.out
        have hcz14_0 : wr.cell? ⟨gb228,0,none⟩ = some (.slice A0_0 l0_0.length c0_0):=(blk_cell BK228.out 0).trans rfl
        have hfz14_0:=blk_frozen BK228.out 0
        have p230 : 0 ≤ (x5_1 : Int):=of_decide_eq_true (by first | (with_reducible assumption) | assumption)
        have q230 : x5_1 < (l0_0.length : Int):=of_decide_eq_true (by first | (with_reducible assumption) | assumption)
        obtain ⟨ad230,e230,hx230_0,hx230_1,hx230_2⟩:=at_T45 HR0_0.out x5_1 p230 q230
        cases e230
        replace hx230_0:=(HB.out.cell (World.block_lt_of_cell? w _ hx230_0)).trans hx230_0
        replace hx230_1:=(HB.out.cell (World.block_lt_of_cell? w _ hx230_1)).trans hx230_1
        replace hx230_2:=(HB.out.cell (World.block_lt_of_cell? w _ hx230_2)).trans hx230_2
        replace p230:=eq_true p230
        replace q230:=eq_true q230
        have hcz15_0 : wr.cell? ⟨gb229,0,none⟩ = some (.slice A1_0 l1_0.length c1_0):=(blk_cell BK229.out 0).trans rfl
        have hfz15_0:=blk_frozen BK229.out 0
        have p231 : 0 ≤ (x5_1 : Int):=of_decide_eq_true (by first | (with_reducible assumption) | assumption)
        have q231 : x5_1 < (l1_0.length : Int):=of_decide_eq_true (by first | (with_reducible assumption) | assumption)
        obtain ⟨ad231,e231,hx231_0,hx231_1,hx231_2⟩:=at_T45 HR1_0.out x5_1 p231 q231
        cases e231
        replace hx231_0:=(HB.out.cell (World.block_lt_of_cell? w _ hx231_0)).trans hx231_0
        replace hx231_1:=(HB.out.cell (World.block_lt_of_cell? w _ hx231_1)).trans hx231_1
        replace hx231_2:=(HB.out.cell (World.block_lt_of_cell? w _ hx231_2)).trans hx231_2
        replace p231:=eq_true p231
        replace q231:=eq_true q231
        go_wp2
        repeat (go_quiet (fail);try go_wp2)
        go_ret
        exact ⟨by first | rfl | (simp [errW_none,errW_some] <;> rfl) | (simp [*,errW_none,errW_some] <;> rfl),by repeat (first | (with_reducible first | exact HB.out | apply below_alloc | apply pw_below_drewN | apply below_drew1 | refine below_set ?_ GE228.out | refine below_set ?_ GE229.out) | exact HB.out)⟩
       ·rw [if_neg c12] at H
        have c12b0 : (!((((rd_T45 l0_0 x5_1).f0).toList) == (((rd_T45 l1_0 x5_1).f0).toList)) || (!((((rd_T45 l0_0 x5_1).f1).toList) == (((rd_T45 l1_0 x5_1).f1).toList)) || (!(((rd_T45 l0_0 x5_1).f2) == ((rd_T45 l1_0 x5_1).f2))))) = false:=by simpa using c12
        clear c12
        have H':=Aside0.mk H
        clear H
        have hnb16:=NB228_229.out
        have hnc16:=NB229_228.out
        have hcz17_0 : wr.cell? ⟨gb228,0,none⟩ = some (.slice A0_0 l0_0.length c0_0):=(blk_cell BK228.out 0).trans rfl
        have hfz17_0:=blk_frozen BK228.out 0
        have p230 : 0 ≤ (x5_1 : Int):=of_decide_eq_true (by first | (with_reducible assumption) | assumption)
        have q230 : x5_1 < (l0_0.length : Int):=of_decide_eq_true (by first | (with_reducible assumption) | assumption)
        obtain ⟨ad230,e230,hx230_0,hx230_1,hx230_2⟩:=at_T45 HR0_0.out x5_1 p230 q230
        cases e230
        replace hx230_0:=(HB.out.cell (World.block_lt_of_cell? w _ hx230_0)).trans hx230_0
        replace hx230_1:=(HB.out.cell (World.block_lt_of_cell? w _ hx230_1)).trans hx230_1
        replace hx230_2:=(HB.out.cell (World.block_lt_of_cell? w _ hx230_2)).trans hx230_2
        replace p230:=eq_true p230
        replace q230:=eq_true q230
        have hcz18_0 : wr.cell? ⟨gb229,0,none⟩ = some (.slice A1_0 l1_0.length c1_0):=(blk_cell BK229.out 0).trans rfl
        have hfz18_0:=blk_frozen BK229.out 0
        have p231 : 0 ≤ (x5_1 : Int):=of_decide_eq_true (by first | (with_reducible assumption) | assumption)
        have q231 : x5_1 < (l1_0.length : Int):=of_decide_eq_true (by first | (with_reducible assumption) | assumption)
        obtain ⟨ad231,e231,hx231_0,hx231_1,hx231_2⟩:=at_T45 HR1_0.out x5_1 p231 q231
        cases e231
        replace hx231_0:=(HB.out.cell (World.block_lt_of_cell? w _ hx231_0)).trans hx231_0
        replace hx231_1:=(HB.out.cell (World.block_lt_of_cell? w _ hx231_1)).trans hx231_1
        replace hx231_2:=(HB.out.cell (World.block_lt_of_cell? w _ hx231_2)).trans hx231_2
        replace p231:=eq_true p231
        replace q231:=eq_true q231
        go_wp2
        repeat (go_quiet (fail);try go_wp2)
        go_roundg k1
        case measure => have:=HK1.out;omega
        case rel => exact ⟨(wrap64 (x5_1 + 1)),(by first | rfl | (simp;done) | (simp [*];done)),H',⟨by have:=HK1.out;omega⟩,⟨by (with_reducible repeat (first | refine blk_drewN ?_ _ | refine blk_drew ?_ | refine blk_alloc ?_ _));exact BK228.out⟩,⟨by (with_reducible repeat (first | refine blk_drewN ?_ _ | refine blk_drew ?_ | refine blk_alloc ?_ _));exact BK229.out⟩,⟨by repeat (first | (with_reducible first | exact HB.out | apply below_alloc | apply pw_below_drewN | apply below_drew1 | refine below_set ?_ GE228.out | refine below_set ?_ GE229.out) | exact HB.out)⟩⟩
      ·rw [if_neg c11] at H
       exact absurd H (by simp)
     ·rw [if_neg c10] at H
      exact absurd H (by simp)
    ·rw [if_neg c9] at H
     have c9b0 : decide (x5_1 < (l0_0.length : Int)) = false:=decide_eq_false c9
     clear c9
     obtain rfl:=Option.some.inj H
     have hnb19:=NB228_229.out
     have hnc19:=NB229_228.out
     have hcz20_0 : wr.cell? ⟨gb228,0,none⟩ = some (.slice A0_0 l0_0.length c0_0):=(blk_cell BK228.out 0).trans rfl
     have hfz20_0:=blk_frozen BK228.out 0
     go_wp2
     repeat (go_quiet (fail);try go_wp2)
     go_ret
     exact ⟨by first | rfl | (simp [errW_none,errW_some] <;> rfl) | (simp [*,errW_none,errW_some] <;> rfl),by repeat (first | (with_reducible first | exact HB.out | apply below_alloc | apply pw_below_drewN | apply below_drew1 | refine below_set ?_ GE228.out | refine below_set ?_ GE229.out) | exact HB.out)⟩
 ·rw [if_neg c3] at H
  have c3b0 : ((l0_0.length : Int) == (l1_0.length : Int)) = false:=beq_eq_false_iff_ne.mpr c3
  have c3b1 : ((l0_0.length : Int) != (l1_0.length : Int)) = true:=bne_iff_ne.mpr c3
  have c3b2 : (l0_0.length == l1_0.length) = false:=by first | simpa using c3 | (simp at c3 ⊢;omega)
  obtain rfl:=Option.some.inj H
  go_enter Try.func26,Try.ntmps26
  go_wp2_with (first | ((with_reducible refine gate_dst (N:=2) rfl ?_);refine box_event ?hg (N:=2) ?hd (cs:=#[.slice A0_0 l0_0.length c0_0]) (t:=30) ?hr ?_;(case hd => rfl);(case hg => rfl);(case hr => first | (go_simp;done) | (go_simp;rfl));intro gb228 hg w21 hbox hb;have n0_:=Aside0.mk (below_step (by repeat (first | (with_reducible first | exact HB.out | apply below_alloc | apply pw_below_drewN | apply below_drew1) | exact HB.out)) hb);have n1_:=Aside0.mk (hbox);have n2_:=Aside0.mk ((by rw [hg];exact (below_size (by repeat (first | (with_reducible first | exact HB.out | apply below_alloc | apply pw_below_drewN | apply below_drew1) | exact HB.out))) : w.heap.size ≤ gb228));have n3_:=Aside0.mk ((by rw [hg];exact (below_size (by repeat (first | (with_reducible first | exact HB.out | apply below_alloc | apply pw_below_drewN | apply below_drew1) | exact HB.out))) : w.heap.size ≤ gb228));clear HB;have HB:=n0_;have BK228:=n1_;have GW228:=n2_;have GE228:=n3_;clear n0_ n1_ n2_ n3_;clear hb hbox hg) | ((with_reducible refine gate_dst (N:=3) rfl ?_);refine box_event ?hg (N:=3) ?hd (cs:=#[.slice A1_0 l1_0.length c1_0]) (t:=30) ?hr ?_;(case hd => rfl);(case hg => rfl);(case hr => first | (go_simp;done) | (go_simp;rfl));intro gb229 hg w22 hbox hb;have n0_:=Aside0.mk (blk_below (g:=gb228) (o:=.cells #[.slice A0_0 l0_0.length c0_0] 30 (0,0)) (by (with_reducible repeat (first | refine blk_drewN ?_ _ | refine blk_drew ?_ | refine blk_alloc ?_ _));exact BK228.out) hb);have n1_:=Aside0.mk (below_step (by repeat (first | (with_reducible first | exact HB.out | apply below_alloc | apply pw_below_drewN | apply below_drew1 | refine below_set ?_ GE228.out) | exact HB.out)) hb);have n2_:=Aside0.mk (hbox);have n3_:=Aside0.mk ((by rw [hg];exact (below_size (by repeat (first | (with_reducible first | exact HB.out | apply below_alloc | apply pw_below_drewN | apply below_drew1 | refine below_set ?_ GE228.out) | exact HB.out))) : w.heap.size ≤ gb229));have n4_:=Aside0.mk ((by rw [hg];exact (below_size (by repeat (first | (with_reducible first | exact HB.out | apply below_alloc | apply pw_below_drewN | apply below_drew1 | refine below_set ?_ GE228.out) | exact HB.out))) : w.heap.size ≤ gb229));have n5_:=Aside0.mk ((by rw [hg];exact Nat.ne_of_lt (blk_lt (g:=gb228) (o:=.cells #[.slice A0_0 l0_0.length c0_0] 30 (0,0)) (by (with_reducible repeat (first | refine blk_drewN ?_ _ | refine blk_drew ?_ | refine blk_alloc ?_ _));exact BK228.out)) : gb228 ≠ gb229));have n6_:=Aside0.mk ((by rw [hg];exact Nat.ne_of_gt (blk_lt (g:=gb228) (o:=.cells #[.slice A0_0 l0_0.length c0_0] 30 (0,0)) (by (with_reducible repeat (first | refine blk_drewN ?_ _ | refine blk_drew ?_ | refine blk_alloc ?_ _));exact BK228.out)) : gb229 ≠ gb228));clear BK228;clear HB;have BK228:=n0_;have HB:=n1_;have BK229:=n2_;have GW229:=n3_;have GE229:=n4_;have NB228_229:=n5_;have NB229_228:=n6_;clear n0_ n1_ n2_ n3_ n4_ n5_ n6_;clear hb hbox hg;have hnb23:=NB228_229.out;have hnc23:=NB229_228.out;have hcz24_0 : w22.cell? ⟨gb228,0,none⟩ = some (.slice A0_0 l0_0.length c0_0):=(blk_cell BK228.out 0).trans rfl;have hfz24_0:=blk_frozen BK228.out 0;have hcz25_0 : w22.cell? ⟨gb229,0,none⟩ = some (.slice A1_0 l1_0.length c1_0):=(blk_cell BK229.out 0).trans rfl;have hfz25_0:=blk_frozen BK229.out 0))
  repeat (go_quiet (first | ((with_reducible refine gate_dst (N:=2) rfl ?_);refine box_event ?hg (N:=2) ?hd (cs:=#[.slice A0_0 l0_0.length c0_0]) (t:=30) ?hr ?_;(case hd => rfl);(case hg => rfl);(case hr => first | (go_simp;done) | (go_simp;rfl));intro gb228 hg w21 hbox hb;have n0_:=Aside0.mk (below_step (by repeat (first | (with_reducible first | exact HB.out | apply below_alloc | apply pw_below_drewN | apply below_drew1) | exact HB.out)) hb);have n1_:=Aside0.mk (hbox);have n2_:=Aside0.mk ((by rw [hg];exact (below_size (by repeat (first | (with_reducible first | exact HB.out | apply below_alloc | apply pw_below_drewN | apply below_drew1) | exact HB.out))) : w.heap.size ≤ gb228));have n3_:=Aside0.mk ((by rw [hg];exact (below_size (by repeat (first | (with_reducible first | exact HB.out | apply below_alloc | apply pw_below_drewN | apply below_drew1) | exact HB.out))) : w.heap.size ≤ gb228));clear HB;have HB:=n0_;have BK228:=n1_;have GW228:=n2_;have GE228:=n3_;clear n0_ n1_ n2_ n3_;clear hb hbox hg) | ((with_reducible refine gate_dst (N:=3) rfl ?_);refine box_event ?hg (N:=3) ?hd (cs:=#[.slice A1_0 l1_0.length c1_0]) (t:=30) ?hr ?_;(case hd => rfl);(case hg => rfl);(case hr => first | (go_simp;done) | (go_simp;rfl));intro gb229 hg w22 hbox hb;have n0_:=Aside0.mk (blk_below (g:=gb228) (o:=.cells #[.slice A0_0 l0_0.length c0_0] 30 (0,0)) (by (with_reducible repeat (first | refine blk_drewN ?_ _ | refine blk_drew ?_ | refine blk_alloc ?_ _));exact BK228.out) hb);have n1_:=Aside0.mk (below_step (by repeat (first | (with_reducible first | exact HB.out | apply below_alloc | apply pw_below_drewN | apply below_drew1 | refine below_set ?_ GE228.out) | exact HB.out)) hb);have n2_:=Aside0.mk (hbox);have n3_:=Aside0.mk ((by rw [hg];exact (below_size (by repeat (first | (with_reducible first | exact HB.out | apply below_alloc | apply pw_below_drewN | apply below_drew1 | refine below_set ?_ GE228.out) | exact HB.out))) : w.heap.size ≤ gb229));have n4_:=Aside0.mk ((by rw [hg];exact (below_size (by repeat (first | (with_reducible first | exact HB.out | apply below_alloc | apply pw_below_drewN | apply below_drew1 | refine below_set ?_ GE228.out) | exact HB.out))) : w.heap.size ≤ gb229));have n5_:=Aside0.mk ((by rw [hg];exact Nat.ne_of_lt (blk_lt (g:=gb228) (o:=.cells #[.slice A0_0 l0_0.length c0_0] 30 (0,0)) (by (with_reducible repeat (first | refine blk_drewN ?_ _ | refine blk_drew ?_ | refine blk_alloc ?_ _));exact BK228.out)) : gb228 ≠ gb229));have n6_:=Aside0.mk ((by rw [hg];exact Nat.ne_of_gt (blk_lt (g:=gb228) (o:=.cells #[.slice A0_0 l0_0.length c0_0] 30 (0,0)) (by (with_reducible repeat (first | refine blk_drewN ?_ _ | refine blk_drew ?_ | refine blk_alloc ?_ _));exact BK228.out)) : gb229 ≠ gb228));clear BK228;clear HB;have BK228:=n0_;have HB:=n1_;have BK229:=n2_;have GW229:=n3_;have GE229:=n4_;have NB228_229:=n5_;have NB229_228:=n6_;clear n0_ n1_ n2_ n3_ n4_ n5_ n6_;clear hb hbox hg;have hnb23:=NB228_229.out;have hnc23:=NB229_228.out;have hcz24_0 : w22.cell? ⟨gb228,0,none⟩ = some (.slice A0_0 l0_0.length c0_0):=(blk_cell BK228.out 0).trans rfl;have hfz24_0:=blk_frozen BK228.out 0;have hcz25_0 : w22.cell? ⟨gb229,0,none⟩ = some (.slice A1_0 l1_0.length c1_0):=(blk_cell BK229.out 0).trans rfl;have hfz25_0:=blk_frozen BK229.out 0));try go_wp2_with (first | ((with_reducible refine gate_dst (N:=2) rfl ?_);refine box_event ?hg (N:=2) ?hd (cs:=#[.slice A0_0 l0_0.length c0_0]) (t:=30) ?hr ?_;(case hd => rfl);(case hg => rfl);(case hr => first | (go_simp;done) | (go_simp;rfl));intro gb228 hg w21 hbox hb;have n0_:=Aside0.mk (below_step (by repeat (first | (with_reducible first | exact HB.out | apply below_alloc | apply pw_below_drewN | apply below_drew1) | exact HB.out)) hb);have n1_:=Aside0.mk (hbox);have n2_:=Aside0.mk ((by rw [hg];exact (below_size (by repeat (first | (with_reducible first | exact HB.out | apply below_alloc | apply pw_below_drewN | apply below_drew1) | exact HB.out))) : w.heap.size ≤ gb228));have n3_:=Aside0.mk ((by rw [hg];exact (below_size (by repeat (first | (with_reducible first | exact HB.out | apply below_alloc | apply pw_below_drewN | apply below_drew1) | exact HB.out))) : w.heap.size ≤ gb228));clear HB;have HB:=n0_;have BK228:=n1_;have GW228:=n2_;have GE228:=n3_;clear n0_ n1_ n2_ n3_;clear hb hbox hg) | ((with_reducible refine gate_dst (N:=3) rfl ?_);refine box_event ?hg (N:=3) ?hd (cs:=#[.slice A1_0 l1_0.length c1_0]) (t:=30) ?hr ?_;(case hd => rfl);(case hg => rfl);(case hr => first | (go_simp;done) | (go_simp;rfl));intro gb229 hg w22 hbox hb;have n0_:=Aside0.mk (blk_below (g:=gb228) (o:=.cells #[.slice A0_0 l0_0.length c0_0] 30 (0,0)) (by (with_reducible repeat (first | refine blk_drewN ?_ _ | refine blk_drew ?_ | refine blk_alloc ?_ _));exact BK228.out) hb);have n1_:=Aside0.mk (below_step (by repeat (first | (with_reducible first | exact HB.out | apply below_alloc | apply pw_below_drewN | apply below_drew1 | refine below_set ?_ GE228.out) | exact HB.out)) hb);have n2_:=Aside0.mk (hbox);have n3_:=Aside0.mk ((by rw [hg];exact (below_size (by repeat (first | (with_reducible first | exact HB.out | apply below_alloc | apply pw_below_drewN | apply below_drew1 | refine below_set ?_ GE228.out) | exact HB.out))) : w.heap.size ≤ gb229));have n4_:=Aside0.mk ((by rw [hg];exact (below_size (by repeat (first | (with_reducible first | exact HB.out | apply below_alloc | apply pw_below_drewN | apply below_drew1 | refine below_set ?_ GE228.out) | exact HB.out))) : w.heap.size ≤ gb229));have n5_:=Aside0.mk ((by rw [hg];exact Nat.ne_of_lt (blk_lt (g:=gb228) (o:=.cells #[.slice A0_0 l0_0.length c0_0] 30 (0,0)) (by (with_reducible repeat (first | refine blk_drewN ?_ _ | refine blk_drew ?_ | refine blk_alloc ?_ _));exact BK228.out)) : gb228 ≠ gb229));have n6_:=Aside0.mk ((by rw [hg];exact Nat.ne_of_gt (blk_lt (g:=gb228) (o:=.cells #[.slice A0_0 l0_0.length c0_0] 30 (0,0)) (by (with_reducible repeat (first | refine blk_drewN ?_ _ | refine blk_drew ?_ | refine blk_alloc ?_ _));exact BK228.out)) : gb229 ≠ gb228));clear BK228;clear HB;have BK228:=n0_;have HB:=n1_;have BK229:=n2_;have GW229:=n3_;have GE229:=n4_;have NB228_229:=n5_;have NB229_228:=n6_;clear n0_ n1_ n2_ n3_ n4_ n5_ n6_;clear hb hbox hg;have hnb23:=NB228_229.out;have hnc23:=NB229_228.out;have hcz24_0 : w22.cell? ⟨gb228,0,none⟩ = some (.slice A0_0 l0_0.length c0_0):=(blk_cell BK228.out 0).trans rfl;have hfz24_0:=blk_frozen BK228.out 0;have hcz25_0 : w22.cell? ⟨gb229,0,none⟩ = some (.slice A1_0 l1_0.length c1_0):=(blk_cell BK229.out 0).trans rfl;have hfz25_0:=blk_frozen BK229.out 0)))
  go_ret
  exact ⟨by first | rfl | (simp [errW_none,errW_some] <;> rfl) | (simp [*,errW_none,errW_some] <;> rfl),by repeat (first | (with_reducible first | exact HB.out | apply below_alloc | apply pw_below_drewN | apply below_drew1 | refine below_set ?_ GE228.out | refine below_set ?_ GE229.out) | exact HB.out)⟩

/-! ### laws_begins: function 28 -/
def laws_begins.f (a0 : ByteArray) (a1 : ByteArray) : Option (Bool):=if (a0.size : Int) ≤ (a1.size : Int) then (if 0 ≤ (a0.size : Int) then (some ((a1.extract 0 ((a0.size : Int) : Int).toNat).toList == a0.toList)) else (none)) else (some false)
set_option maxHeartbeats 8000000 in
set_option maxRecDepth 100000 in
theorem laws_begins.calls (a0 : ByteArray) (a1 : ByteArray) (r : Bool) (w : World) (h : laws_begins.f a0 a1 = some r) :
  Calls Try.prog 28 #[.string a0,.string a1] w fun e w' => e = .returned (.bool r) ∧ Drawn0 w w':=by
 have H : (if (a0.size : Int) ≤ (a1.size : Int) then (if 0 ≤ (a0.size : Int) then (some ((a1.extract 0 ((a0.size : Int) : Int).toNat).toList == a0.toList)) else (none)) else (some false)) = some r:=h
 clear h
 by_cases c3 : (a0.size : Int) ≤ (a1.size : Int)
 ·rw [if_pos c3] at H
  have c3b0 : decide ((a0.size : Int) ≤ (a1.size : Int)) = true:=decide_eq_true c3
  have c3b1 : decide (a0.size ≤ a1.size) = true:=decide_eq_true (Int.ofNat_le.mp c3)
  clear c3
  by_cases c4 : 0 ≤ (a0.size : Int)
  ·rw [if_pos c4] at H
   have c4b0:=eq_true c4
   have c4b1 : decide (0 ≤ (a0.size : Int)) = true:=decide_eq_true c4
   clear c4
   have c5b0:=eq_true (of_decide_eq_true (by first | (with_reducible assumption) | assumption) : (a0.size : Int) ≤ (a1.size : Int))
   obtain rfl:=Option.some.inj H
   go_enter Try.func28,Try.ntmps28
   go_wp2
   go_ret
   exact ⟨by first | rfl | (simp;done) | (simp [*];done),by repeat (first | exact Drawn0.refl _ | apply Drawn0.step)⟩
  ·rw [if_neg c4] at H
   exact absurd H (by simp)
 ·rw [if_neg c3] at H
  have c3b0 : decide ((a0.size : Int) ≤ (a1.size : Int)) = false:=decide_eq_false c3
  have c3b1 : decide (a0.size ≤ a1.size) = false:=decide_eq_false (fun h => c3 (Int.ofNat_le.mpr h))
  clear c3
  obtain rfl:=Option.some.inj H
  go_enter Try.func28,Try.ntmps28
  go_wp2
  go_ret
  exact ⟨by first | rfl | (simp;done) | (simp [*];done),by repeat (first | exact Drawn0.refl _ | apply Drawn0.step)⟩

end Go.Proofs.Ytgfacdhkamphiaa.PFnKeeps
