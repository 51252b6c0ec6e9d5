/- Walks, turned from a print. -/
import Derived.Test.YtgfacdhkamphiaaOFnActsx0
import Derived.Test.YtgfacdhkamphiaaOFnActsx3
import Derived.Test.YtgfacdhkamphiaaOFnActsx4
namespace Go.Proofs.Ytgfacdhkamphiaa.PFnActs
open Go.RowKit Go.Proofs.YtgfacdhkamphiaaW.PrintWords Go.Proofs.YtgfacdhkamphiaaW.PrintLast Go.Proofs.YtgfacdhkamphiaaW.PrintMore
attribute [local go_sem] max2_int min2_int max_two min_two max_three min_three max_four min_four
set_option linter.unusedVariables false
set_option linter.unusedSimpArgs false

/-! ### impl_LoseDisk: function 25 -/
def impl_LoseDisk.l0 : Nat → List Int → Int → Int → List (S45) → Option ((List (S45)) × Bool)
 | 0,_,_,_,_ => none
 | k + 1,x1,x18,x19,x445000 => if x19 < x18 then (if 0 ≤ x19 then (if x19 < (x445000.length : Int) then (if x19 < (x1.length : Int) then (if 0 ≤ (mx ((rd_T45 x445000 x19).f2) (mn (rd x1 x19) (((rd_T45 x445000 x19).f1).size : Int))) then (if (mx ((rd_T45 x445000 x19).f2) (mn (rd x1 x19) (((rd_T45 x445000 x19).f1).size : Int))) ≤ (((rd_T45 x445000 x19).f1).size : Int) then ((some (x445000.set (x19 : Int).toNat (⟨(rd_T45 x445000 x19).f0,((rd_T45 x445000 x19).f1).extract 0 ((mx ((rd_T45 x445000 x19).f2) (mn (rd x1 x19) (((rd_T45 x445000 x19).f1).size : Int))) : Int).toNat,(rd_T45 x445000 x19).f2⟩ : S45) : List (S45))).bind fun y448 => (impl_LoseDisk.l0 k x1 x18 (wrap64 (x19 + 1)) (y448.set (x19 : Int).toNat (⟨(rd_T45 y448 x19).f0,(rd_T45 y448 x19).f1,mx ((rd_T45 x445000 x19).f2) (mn (rd x1 x19) (((rd_T45 x445000 x19).f1).size : Int))⟩ : S45)))) else (none)) else (none)) else (if 0 ≤ (mx ((rd_T45 x445000 x19).f2) (mn 0 (((rd_T45 x445000 x19).f1).size : Int))) then (if (mx ((rd_T45 x445000 x19).f2) (mn 0 (((rd_T45 x445000 x19).f1).size : Int))) ≤ (((rd_T45 x445000 x19).f1).size : Int) then ((some (x445000.set (x19 : Int).toNat (⟨(rd_T45 x445000 x19).f0,((rd_T45 x445000 x19).f1).extract 0 ((mx ((rd_T45 x445000 x19).f2) (mn 0 (((rd_T45 x445000 x19).f1).size : Int))) : Int).toNat,(rd_T45 x445000 x19).f2⟩ : S45) : List (S45))).bind fun y450 => (impl_LoseDisk.l0 k x1 x18 (wrap64 (x19 + 1)) (y450.set (x19 : Int).toNat (⟨(rd_T45 y450 x19).f0,(rd_T45 y450 x19).f1,mx ((rd_T45 x445000 x19).f2) (mn 0 (((rd_T45 x445000 x19).f1).size : Int))⟩ : S45)))) else (none)) else (none))) else (none)) else (none)) else (some (x445000,true))
def impl_LoseDisk.f (k : Nat) (l0_0 : List (S45)) (l1 : List Int) : Option ((List (S45)) × Bool):=(impl_DiskOk.f k l0_0).bind fun t440 => (if t440 = true then ((impl_copyDisk.f l0_0).bind fun t441 => (impl_LoseDisk.l0 k l1 (t441.length : Int) 0 t441)) else (some (([] : List (S45)),false)))
theorem impl_LoseDisk.mono_l : ∀ k,(∀ y0 y1 y2 y3,LeO (impl_LoseDisk.l0 k y0 y1 y2 y3) (impl_LoseDisk.l0 (k + 1) y0 y1 y2 y3))
 | 0 => fun _ _ _ _ r h => by simp [impl_LoseDisk.l0] at h
 | k + 1 => by
  have ih0:=impl_LoseDisk.mono_l k
  ·intro y0 y1 y2 y3
   unfold impl_LoseDisk.l0
   repeat' first
  | (with_reducible exact ih0 _ _ _ _)
  | (with_reducible exact impl_DiskOk.mono _ _)
  | (with_reducible exact LeO.refl _)
  | (with_reducible exact LeO.none _)
  | (with_reducible refine LeO.ite ?_ ?_)
  | (with_reducible refine LeO.bind ?_ (fun _ => ?_))
theorem impl_LoseDisk.mono : ∀ a0 a1 k,LeO (impl_LoseDisk.f k a0 a1) (impl_LoseDisk.f (k + 1) a0 a1):=by
 intro a0 a1 k
 have ih0:=impl_LoseDisk.mono_l k
 unfold impl_LoseDisk.f
 repeat' first
  | (with_reducible exact ih0 _ _ _ _)
  | (with_reducible exact impl_DiskOk.mono _ _)
  | (with_reducible exact LeO.refl _)
  | (with_reducible exact LeO.none _)
  | (with_reducible refine LeO.ite ?_ ?_)
  | (with_reducible refine LeO.bind ?_ (fun _ => ?_))
def impl_LoseDisk.T11 : Bool × List (List Nat × List Nat):=(true,[([],[]),([0],[0]),([],[]),([],[]),([3],[3]),([],[]),([],[]),([6],[6]),([],[]),([7,8],[7,8]),([],[]),([1,2,0,1,2,6,7,8,9],[1,2]),([11,0,1,2,6,7,8,9],[11]),([12,9,0,1,2,6,7,8,9],[9,12]),([4,5,0,1,2,3,4,5,6,7,8,9,10,11,12,13],[4,5]),([14,0,1,2,3,4,5,6,7,8,9,10,11,12,13],[14]),([15,10,13,0,1,2,3,4,5,6,7,8,9,10,11,12,13],[10,15])])
def impl_LoseDisk.B11 : List Nat:=[0,1,0,0,8,0,0,64,0,448,0,967,3015,7111,16383,32767,65535]
theorem impl_LoseDisk.tab11 : rtab .any (opsOf Try.f25 11) = impl_LoseDisk.T11:=by kernel_rfl
theorem impl_LoseDisk.bits11 : waitsOk impl_LoseDisk.T11.2 impl_LoseDisk.B11 = true:=by kernel_rfl
set_option maxHeartbeats 8000000 in
set_option maxRecDepth 100000 in
theorem impl_LoseDisk.calls (k : Nat) (A0_0 : Option Addr) (c0_0 : Nat) (l0_0 : List (S45)) (A1 : Option Addr) (c1 : Nat) (l1 : List Int) (r1 : List (S45)) (r2 : Bool) (w : World) (hr0_0 : Kd.C k45 w A0_0 l0_0.length l0_0) (hc0_0 : l0_0.length ≤ c0_0) (hr1 : Kd.C (Kd.int .i64) w A1 l1.length l1) (hc1 : l1.length ≤ c1) (h : impl_LoseDisk.f k l0_0 l1 = some (r1,r2)) :
  Calls Try.prog 25 #[.agg #[.slice A0_0 l0_0.length c0_0],.slice A1 l1.length c1] w fun e w' => ∃ v0_ : Value,e = .returned (.tuple #[.agg #[v0_],.bool r2]) ∧ Kd.R k45 45 w' w.heap.size (fun _ => True) v0_ r1 ∧ Below w.heap.size w w':=by
 have hu30:=Try.underlying30
 have hu45:=Try.underlying45
 have HR0_0:=Aside0.mk hr0_0
 have HC0_0:=Aside0.mk hc0_0
 clear hr0_0 hc0_0
 have HR1:=Aside0.mk hr1
 have HC1:=Aside0.mk hc1
 clear hr1 hc1
 have HB:=Aside0.mk (Below.refl w.heap.size w)
 have H : ((impl_DiskOk.f k l0_0).bind fun t440 => (if t440 = true then ((impl_copyDisk.f l0_0).bind fun t441 => (impl_LoseDisk.l0 k l1 (t441.length : Int) 0 t441)) else (some (([] : List (S45)),false)))) = some (r1,r2):=h
 clear h
 obtain ⟨t440,A3,H⟩:=bX0 H
 by_cases c4 : t440 = true
 ·subst c4
  rw [if_pos rfl] at H
  obtain ⟨t441,A5,H⟩:=bX0 H
  have H':=Aside0.mk H
  clear H
  go_enter Try.func25,Try.ntmps25
  go_wp2_with (first | ((with_reducible refine gate_dst (N:=2) rfl ?_);refine zy0 (cs:=#[.slice A0_0 l0_0.length c0_0]) (t:=30) ?_;intro gb438 hg w6 hbox hb;have BK438:=Aside0.mk hbox;have GW438:=zz0 hg HB;have GE438:=zz0 hg HB;replace HB:=zs0 HB hb;clear hb hbox hg) | ((with_reducible refine gate_dst (N:=4) rfl ?_);refine zy0 (cs:=#[.slice none 0 0]) (t:=30) ?_;intro gb439 hg w7 hbox hb;have BK439:=Aside0.mk hbox;have GW439:=zz0 hg HB;have GE439:=zz0 hg HB;replace HB:=zs0 HB hb;have NB438_439:=zl0 hg BK438;have NB439_438:=zg0 hg BK438;replace BK438:=zb0 BK438 hb;clear hb hbox hg;obtain ⟨_,_⟩:=zn0 NB438_439;obtain ⟨hcz9_0,hfz9_0⟩:=zd01 BK438) | ((with_reducible refine gate_callee (f:=27) rfl ?_);refine goesL_ (some 11) rfl rfl Try.func27 (by kernel_rfl) rfl #[.agg #[.slice A0_0 l0_0.length c0_0]] rfl zM0 ?_;(with_reducible refine (impl_DiskOk.calls k _ _ l0_0 true _ ?side1 ?side2 A3.out).mono ?_);(case side1 => exact zA0 ((Kd.C_below HR0_0.out HB.out)));(case side2 => exact HC0_0.out);rintro e w10 ⟨rfl,hb⟩;refine ⟨_,rfl,?_⟩;replace BK438:=zb0 BK438 hb;replace BK439:=zb0 BK439 hb;replace HB:=zs0 HB hb;(try clear hb);obtain ⟨hcz11_0,hfz11_0⟩:=zd01 BK438) | ((with_reducible refine gate_callee (f:=77) rfl ?_);refine goesL_ (some 15) rfl rfl Try.func77 (by kernel_rfl) rfl #[.agg #[.slice A0_0 l0_0.length c0_0]] rfl zM0 ?_;(with_reducible refine (impl_copyDisk.calls _ _ l0_0 t441 _ ?side1 ?side2 A5.out).mono ?_);(case side1 => exact zA0 ((Kd.C_below HR0_0.out HB.out)));(case side2 => exact HC0_0.out);rintro e w12 ⟨v442,rfl,ho0,hb⟩;refine ⟨_,rfl,?_⟩;have HO443:=Aside0.mk (Kd.R_lower ho0 (zZ0 HB.out));replace BK438:=zb0 BK438 hb;replace BK439:=zb0 BK439 hb;replace HB:=zs0 HB hb;(try clear hb);(try clear ho0)) | ((with_reducible refine gate_dst (N:=6) rfl ?_);refine zy0 (cs:=#[.slice none 0 0]) (t:=30) ?_;intro gb444 hg w13 hbox hb;replace HO443:=Aside0.mk (Kd.R_below (zR0 HO443.out) hb);have BK444:=Aside0.mk hbox;have GW444:=zz0 hg HB;have GE444:=zz0 hg HB;replace HB:=zs0 HB hb;have NB438_444:=zl0 hg BK438;have NB444_438:=zg0 hg BK438;replace BK438:=zb0 BK438 hb;have NB439_444:=zl0 hg BK439;have NB444_439:=zg0 hg BK439;replace BK439:=zb0 BK439 hb;clear hb hbox hg;obtain ⟨Ao14,co14,eo14⟩:=Kd.R_slice HO443.out;subst eo14;obtain ⟨_,_⟩:=zn0 NB444_438;obtain ⟨_,_⟩:=zn0 NB444_439;obtain ⟨hcz17_0,hfz17_0⟩:=zd01 BK444))
  go_loopg [19] k (fun kq v19 w' => ∃ (x19_1 : Int) (x445000_1 : List (S45)),v19 = .int .i64 x19_1 ∧ Aside0 (impl_LoseDisk.l0 kq l1 (t441.length : Int) x19_1 x445000_1 = some (r1,r2)) ∧ Aside0 (kq ≤ k) ∧ Aside0 (Kd.R k45 45 w' w.heap.size (fun _ => True) (.slice Ao14 t441.length co14) x445000_1) ∧ Aside0 (w'.heap[gb438]? = some (.cells #[(.slice A0_0 l0_0.length c0_0)] 30 (0,0))) ∧ Aside0 (w'.heap[gb439]? = some (.cells #[(.slice none 0 0)] 30 (0,0))) ∧ Aside0 (w'.heap[gb444]? = some (.cells #[(.slice Ao14 t441.length co14)] 30 (0,0))) ∧ Aside0 (Below w.heap.size w w'))
  case atStart => exact ⟨(0),(t441),zE0,H',⟨Nat.le_refl _⟩,⟨by refine zV0 ?_;exact Kd.R_mono (Kd.R_far (p:=⟨gb444,0,none⟩) (Kd.R_types HO443.out BK444.out (by decide)) (fun _ hk => hk.2) (.slice Ao14 t441.length co14)) (fun _ hk => trivial)⟩,⟨zK0 BK438.out⟩,⟨zK0 BK439.out⟩,⟨by refine zT0 ?_;refine blk_put (cs:=#[.slice none 0 0]) ?_ 0 _ rfl;exact zK0 BK444.out⟩,⟨zY0 HB.out⟩⟩
  case round =>
   clear H'
   try clear c4
   try clear hcz11_0
   try clear hcz17_0
   try clear hcz9_0
   try clear hfz11_0
   try clear hfz17_0
   try clear hfz9_0
   obtain ⟨x19_1,x445000_1,rfl,HA,HK1,HO_445000,BK438,BK439,BK444,HB⟩:=hrel
   have hl445000_1:=(Kd.R_reads' HO_445000.out).1
   rw [hl445000_1] at HO_445000
   (try simp only [hl445000_1])
   (try simp only [hl445000_1] at BK438)
   (try simp only [hl445000_1] at BK439)
   (try simp only [hl445000_1] at BK444)
   cases gk with
   | zero => exact absurd HA.out (by simp [impl_LoseDisk.l0])
   | succ k1 =>
    have H:=HA.out
    clear HA
    simp only [impl_LoseDisk.l0] at H
    by_cases c18 : x19_1 < (t441.length : Int)
    ·rw [if_pos c18] at H
     have c18b0 : decide (x19_1 < (t441.length : Int)) = true:=decide_eq_true c18
     clear c18
     by_cases c19 : 0 ≤ x19_1
     ·rw [if_pos c19] at H
      have c19b0 : decide (0 ≤ x19_1) = true:=decide_eq_true c19
      clear c19
      by_cases c20 : x19_1 < (x445000_1.length : Int)
      ·rw [if_pos c20] at H
       have c20b0 : decide (x19_1 < (x445000_1.length : Int)) = true:=decide_eq_true c20
       clear c20
       by_cases c21 : x19_1 < (l1.length : Int)
       ·rw [if_pos c21] at H
        have c21b0 : decide (x19_1 < (l1.length : Int)) = true:=decide_eq_true c21
        clear c21
        obtain ⟨ji22,hji22⟩ : ∃ j_ : Int,(mn (rd l1 x19_1) (((rd_T45 x445000_1 x19_1).f1).size : Int)) = j_:=⟨_,rfl⟩
        replace H : (if 0 ≤ (mx ((rd_T45 x445000_1 x19_1).f2) (ji22)) then (if (mx ((rd_T45 x445000_1 x19_1).f2) (ji22)) ≤ (((rd_T45 x445000_1 x19_1).f1).size : Int) then ((some (x445000_1.set (x19_1 : Int).toNat (⟨(rd_T45 x445000_1 x19_1).f0,((rd_T45 x445000_1 x19_1).f1).extract 0 ((mx ((rd_T45 x445000_1 x19_1).f2) (ji22)) : Int).toNat,(rd_T45 x445000_1 x19_1).f2⟩ : S45) : List (S45))).bind fun y448 => (impl_LoseDisk.l0 k1 l1 (t441.length : Int) (wrap64 (x19_1 + 1)) (y448.set (x19_1 : Int).toNat (⟨(rd_T45 y448 x19_1).f0,(rd_T45 y448 x19_1).f1,mx ((rd_T45 x445000_1 x19_1).f2) (ji22)⟩ : S45)))) else (none)) else (none)) = some (r1,r2):=by first | (rw [hji22] at H;exact H) | (simp only [hji22] at H ⊢;exact H)
        have hji22_ : (if (((rd_T45 x445000_1 x19_1).f1).size : Int) < (rd l1 x19_1) then (((rd_T45 x445000_1 x19_1).f1).size : Int) else (rd l1 x19_1)) = ji22:=hji22
        obtain ⟨ji23,hji23⟩ : ∃ j_ : Int,(mx ((rd_T45 x445000_1 x19_1).f2) (ji22)) = j_:=⟨_,rfl⟩
        replace H : (if 0 ≤ (ji23) then (if (ji23) ≤ (((rd_T45 x445000_1 x19_1).f1).size : Int) then ((some (x445000_1.set (x19_1 : Int).toNat (⟨(rd_T45 x445000_1 x19_1).f0,((rd_T45 x445000_1 x19_1).f1).extract 0 ((ji23) : Int).toNat,(rd_T45 x445000_1 x19_1).f2⟩ : S45) : List (S45))).bind fun y448 => (impl_LoseDisk.l0 k1 l1 (t441.length : Int) (wrap64 (x19_1 + 1)) (y448.set (x19_1 : Int).toNat (⟨(rd_T45 y448 x19_1).f0,(rd_T45 y448 x19_1).f1,ji23⟩ : S45)))) else (none)) else (none)) = some (r1,r2):=by first | (rw [hji23] at H;exact H) | (simp only [hji23] at H ⊢;exact H)
        have hji23_ : (if ((rd_T45 x445000_1 x19_1).f2) < (ji22) then (ji22) else ((rd_T45 x445000_1 x19_1).f2)) = ji23:=hji23
        try have hji23z_ : (if ((rd_T45 x445000_1 x19_1).f2) < 0 then 0 else ((rd_T45 x445000_1 x19_1).f2)) = ji23:=by rw [← hji23_,hjz_]
        by_cases c24 : 0 ≤ (ji23)
        ·rw [if_pos c24] at H
         have c24b0:=eq_true c24
         have c24b1 : decide (0 ≤ (ji23)) = true:=decide_eq_true c24
         clear c24
         by_cases c25 : (ji23) ≤ (((rd_T45 x445000_1 x19_1).f1).size : Int)
         ·rw [if_pos c25] at H
          have c25b0:=eq_true c25
          have c25b1 : decide ((ji23) ≤ (((rd_T45 x445000_1 x19_1).f1).size : Int)) = true:=decide_eq_true c25
          clear c25
          obtain ⟨y448,hy448⟩ : ∃ y_ : List (S45),y_ = (x445000_1.set (x19_1 : Int).toNat (⟨(rd_T45 x445000_1 x19_1).f0,((rd_T45 x445000_1 x19_1).f1).extract 0 ((ji23) : Int).toNat,(rd_T45 x445000_1 x19_1).f2⟩ : S45)):=⟨_,rfl⟩
          replace H : (impl_LoseDisk.l0 k1 l1 (t441.length : Int) (wrap64 (x19_1 + 1)) (y448.set (x19_1 : Int).toNat (⟨(rd_T45 y448 x19_1).f0,(rd_T45 y448 x19_1).f1,ji23⟩ : S45))) = some (r1,r2):=by first | (rw [hy448];with_reducible exact H) | (have H2_:=(Option.bind_some _ _).symm.trans H;rw [hy448];with_reducible exact H2_) | (have H2_:=(Option.bind_some _ _).symm.trans H;with_reducible exact H2_) | with_reducible exact H | (rw [hy448];exact H) | exact H
          have Ny448:=Aside0.mk hy448
          clear hy448
          obtain ⟨y449,hy449⟩ : ∃ y_ : List (S45),y_ = (y448.set (x19_1 : Int).toNat (⟨(rd_T45 y448 x19_1).f0,(rd_T45 y448 x19_1).f1,ji23⟩ : S45)):=⟨_,rfl⟩
          replace H : (impl_LoseDisk.l0 k1 l1 (t441.length : Int) (wrap64 (x19_1 + 1)) y449) = some (r1,r2):=by first | (rw [hy449];with_reducible exact H) | (have H2_:=(Option.bind_some _ _).symm.trans H;rw [hy449];with_reducible exact H2_) | (have H2_:=(Option.bind_some _ _).symm.trans H;with_reducible exact H2_) | with_reducible exact H | (rw [hy449];exact H) | exact H
          have Ny449:=Aside0.mk hy449
          clear hy449
          have H':=Aside0.mk H
          clear H
          have p445 : 0 ≤ (x19_1 : Int):=zD0
          have q445 : x19_1 < (x445000_1.length : Int):=zD0
          obtain ⟨ad445,e445,hx445_0,hx445_1,hx445_2⟩:=at_T45 (Kd.R_reads' HO_445000.out).2.2 x19_1 p445 q445
          cases e445
          replace p445:=eq_true p445
          replace q445:=eq_true q445
          try go_wp2_with (first | ((with_reducible refine gate_dst (N:=8) rfl ?_);refine zy0 (cs:=#[.string (⟨#[]⟩ : ByteArray),.string (⟨#[]⟩ : ByteArray),.int .i64 0]) (t:=45) ?_;intro gb446 hg w28 hbox hb;replace HO_445000:=Aside0.mk (Kd.R_below (Kd.R_elderB (zR0 HO_445000.out) gb446 (Nat.le_of_eq hg.symm)) hb);have BK446:=Aside0.mk hbox;have GW446:=zz0 hg HB;have GE446:=zz0 hg HB;replace HB:=zs0 HB hb;have NB438_446:=zl0 hg BK438;have NB446_438:=zg0 hg BK438;replace BK438:=zb0 BK438 hb;have NB439_446:=zl0 hg BK439;have NB446_439:=zg0 hg BK439;replace BK439:=zb0 BK439 hb;have NB444_446:=zl0 hg BK444;have NB446_444:=zg0 hg BK444;replace BK444:=zb0 BK444 hb;clear hb hbox hg;obtain ⟨_,_⟩:=zn0 NB446_438;obtain ⟨_,_⟩:=zn0 NB446_439;obtain ⟨_,_⟩:=zn0 NB446_444;obtain ⟨_,_,_,_,_,_⟩:=zd03 BK446;have p447 : 0 ≤ (x19_1 : Int):=zD0;have q447 : x19_1 < (l1.length : Int):=zD0;obtain ⟨ad447,e447,hx447_0⟩:=Kd.at_int HR1.out x19_1 p447 q447;cases e447;have hn447_0 : ad447.block ≠ gb446:=Nat.ne_of_lt (Nat.lt_of_lt_of_le (by have:=World.block_lt_of_cell? _ _ hx447_0;first | rwa [add_block] at this | exact this) GW446.out);have hn447_1 : ad447.block ≠ gb446:=Nat.ne_of_lt (Nat.lt_of_lt_of_le (by have:=World.block_lt_of_cell? _ _ hx447_0;first | rwa [add_block] at this | exact this) GW446.out);have hn447_2 : ad447.block ≠ gb446:=Nat.ne_of_lt (Nat.lt_of_lt_of_le (by have:=World.block_lt_of_cell? _ _ hx447_0;first | rwa [add_block] at this | exact this) GW446.out);replace hx447_0:=zx0 HB hx447_0;replace hx447_0:=(cell_far (p:=⟨gb446,0,none⟩) (by first | (rw [add_block];exact hn447_0) | (show (Addr.add _ _).block ≠ _;rw [add_block];exact hn447_0) | exact hn447_0) (.string ((rd_T45 x445000_1 x19_1).f0))).trans hx447_0;replace hx447_0:=(cell_far (p:=⟨gb446,1,none⟩) (by first | (rw [add_block];exact hn447_1) | (show (Addr.add _ _).block ≠ _;rw [add_block];exact hn447_1) | exact hn447_1) (.string ((rd_T45 x445000_1 x19_1).f1))).trans hx447_0;replace hx447_0:=(cell_far (p:=⟨gb446,2,none⟩) (by first | (rw [add_block];exact hn447_2) | (show (Addr.add _ _).block ≠ _;rw [add_block];exact hn447_2) | exact hn447_2) (.int .i64 ((rd_T45 x445000_1 x19_1).f2))).trans hx447_0;clear hn447_0;clear hn447_1;clear hn447_2;replace p447:=eq_true p447;replace q447:=eq_true q447))
          have n0_ : Aside0 (Kd.R k45 45 (((w28.setCell ⟨gb446,0,none⟩ (.string ((rd_T45 x445000_1 x19_1).f0))).setCell ⟨gb446,1,none⟩ (.string ((rd_T45 x445000_1 x19_1).f1))).setCell ⟨gb446,2,none⟩ (.int .i64 ((rd_T45 x445000_1 x19_1).f2))) w.heap.size (fun k_ => k_ ≠ gb446) (.slice (some ad445) x445000_1.length co14) x445000_1):=⟨by refine zV0 ?_;exact Kd.R_mono (Kd.R_far (p:=⟨gb446,2,none⟩) (Kd.R_far (p:=⟨gb446,1,none⟩) (Kd.R_far (p:=⟨gb446,0,none⟩) (Kd.R_mono HO_445000.out (fun k_ hk => (⟨hk,hk.2⟩ : _ ∧ k_ ≠ gb446))) (fun _ hk => hk.2) (.string ((rd_T45 x445000_1 x19_1).f0))) (fun _ hk => hk.2) (.string ((rd_T45 x445000_1 x19_1).f1))) (fun _ hk => hk.2) (.int .i64 ((rd_T45 x445000_1 x19_1).f2))) (fun _ hk => hk.1.2)⟩
          have n1_ : Aside0 ((((w28.setCell ⟨gb446,0,none⟩ (.string ((rd_T45 x445000_1 x19_1).f0))).setCell ⟨gb446,1,none⟩ (.string ((rd_T45 x445000_1 x19_1).f1))).setCell ⟨gb446,2,none⟩ (.int .i64 ((rd_T45 x445000_1 x19_1).f2))).heap[gb438]? = some (.cells #[.slice A0_0 l0_0.length c0_0] 30 (0,0))):=⟨zK0 BK438.out⟩
          have n2_ : Aside0 ((((w28.setCell ⟨gb446,0,none⟩ (.string ((rd_T45 x445000_1 x19_1).f0))).setCell ⟨gb446,1,none⟩ (.string ((rd_T45 x445000_1 x19_1).f1))).setCell ⟨gb446,2,none⟩ (.int .i64 ((rd_T45 x445000_1 x19_1).f2))).heap[gb439]? = some (.cells #[.slice none 0 0] 30 (0,0))):=⟨zK0 BK439.out⟩
          have n3_ : Aside0 ((((w28.setCell ⟨gb446,0,none⟩ (.string ((rd_T45 x445000_1 x19_1).f0))).setCell ⟨gb446,1,none⟩ (.string ((rd_T45 x445000_1 x19_1).f1))).setCell ⟨gb446,2,none⟩ (.int .i64 ((rd_T45 x445000_1 x19_1).f2))).heap[gb444]? = some (.cells #[.slice (some ad445) x445000_1.length co14] 30 (0,0))):=⟨zK0 BK444.out⟩
          have n4_ : Aside0 ((((w28.setCell ⟨gb446,0,none⟩ (.string ((rd_T45 x445000_1 x19_1).f0))).setCell ⟨gb446,1,none⟩ (.string ((rd_T45 x445000_1 x19_1).f1))).setCell ⟨gb446,2,none⟩ (.int .i64 ((rd_T45 x445000_1 x19_1).f2))).heap[gb446]? = some (.cells #[.string ((rd_T45 x445000_1 x19_1).f0),.string ((rd_T45 x445000_1 x19_1).f1),.int .i64 ((rd_T45 x445000_1 x19_1).f2)] 45 (0,0))):=⟨by refine zT0 ?_;refine blk_put (cs:=#[.string ((rd_T45 x445000_1 x19_1).f0),.string ((rd_T45 x445000_1 x19_1).f1),.int .i64 0]) ?_ 2 _ rfl;refine zT0 ?_;refine blk_put (cs:=#[.string ((rd_T45 x445000_1 x19_1).f0),.string (⟨#[]⟩ : ByteArray),.int .i64 0]) ?_ 1 _ rfl;refine zT0 ?_;refine blk_put (cs:=#[.string (⟨#[]⟩ : ByteArray),.string (⟨#[]⟩ : ByteArray),.int .i64 0]) ?_ 0 _ rfl;exact zK0 BK446.out⟩
          have n5_ : Aside0 (Below w.heap.size w (((w28.setCell ⟨gb446,0,none⟩ (.string ((rd_T45 x445000_1 x19_1).f0))).setCell ⟨gb446,1,none⟩ (.string ((rd_T45 x445000_1 x19_1).f1))).setCell ⟨gb446,2,none⟩ (.int .i64 ((rd_T45 x445000_1 x19_1).f2)))):=⟨zY0 HB.out⟩
          (try clear HO_445000)
          (try clear BK438)
          (try clear BK439)
          (try clear BK444)
          (try clear BK446)
          (try clear HB)
          generalize (((w28.setCell ⟨gb446,0,none⟩ (.string ((rd_T45 x445000_1 x19_1).f0))).setCell ⟨gb446,1,none⟩ (.string ((rd_T45 x445000_1 x19_1).f1))).setCell ⟨gb446,2,none⟩ (.int .i64 ((rd_T45 x445000_1 x19_1).f2))) = w33 at n0_ n1_ n2_ n3_ n4_ n5_ ⊢
          have HO_445000:=n0_
          have BK438:=n1_
          have BK439:=n2_
          have BK444:=n3_
          have BK446:=n4_
          have HB:=n5_
          clear n0_ n1_ n2_ n3_ n4_ n5_
          replace HO_445000:=Aside0.mk (Kd.R_drew HO_445000.out)
          replace BK438:=Aside0.mk (blk_drew BK438.out)
          replace BK439:=Aside0.mk (blk_drew BK439.out)
          replace BK444:=Aside0.mk (blk_drew BK444.out)
          replace BK446:=Aside0.mk (blk_drew BK446.out)
          replace HB:=Aside0.mk (below_drew1 HB.out)
          have p26 : 0 ≤ (x19_1 : Int):=zD0
          have q26 : (x19_1 : Int) < ((x445000_1.length : Int) : Int):=zD0
          obtain ⟨go26,co26,eo26,gb26,gl26,cl26,HG26⟩:=Kd.R_form HO_445000.out (by omega)
          (first | cases eo26 | (injection eo26 with ea_ en_ ec_;(first | subst ea_ | (injection ea_ with ea_;subst ea_));subst ec_;clear en_))
          have GB26:=Aside0.mk gb26
          have GG26:=Aside0.mk HG26
          clear gb26 gl26 HG26
          (first | simp only [add_plain] at hx445_0 | skip)
          (first | simp only [add_plain] at hx445_1 | skip)
          (first | simp only [add_plain] at hx445_2 | skip)
          obtain ⟨ce26,hcl26,hM26,hcc26,hfr26⟩:=Kd.R_elem HO_445000.out z45 (x19_1 : Int) p26 q26
          obtain rfl:=k45_openM hM26
          have hx26_0 : World.cell? _ ⟨go26,(x19_1 : Int).toNat * 3,none⟩ = some (.string ((rd_T45 x445000_1 x19_1).f0)):=hcc26 0 _ rfl
          have hx26_1 : World.cell? _ ⟨go26,(x19_1 : Int).toNat * 3 + 1,none⟩ = some (.string ((rd_T45 x445000_1 x19_1).f1)):=hcc26 1 _ rfl
          have hx26_2 : World.cell? _ ⟨go26,(x19_1 : Int).toNat * 3 + 2,none⟩ = some (.int .i64 ((rd_T45 x445000_1 x19_1).f2)):=hcc26 2 _ rfl
          have hf26_0 : World.frozen? _ ⟨go26,(x19_1 : Int).toNat * 3,none⟩ = false:=hfr26 0
          have hf26_1 : World.frozen? _ ⟨go26,(x19_1 : Int).toNat * 3 + 1,none⟩ = false:=hfr26 1
          have hf26_2 : World.frozen? _ ⟨go26,(x19_1 : Int).toNat * 3 + 2,none⟩ = false:=hfr26 2
          clear hcl26 hcc26 hfr26 hM26
          replace p26:=eq_true p26
          replace q26:=eq_true q26
          obtain ⟨ce35,hcl35,hM35,hcc35,hfr35⟩:=Kd.R_elem HO_445000.out z45 (x19_1 : Int) (zD0) (by have h_ : (x19_1 : Int) < ((x445000_1.length : Int) : Int):=zD0;first | exact h_ | (have e_:=(Kd.R_reads' HO_445000.out).1;omega) | simpa using h_)
          obtain rfl:=k45_openM hM35
          have HP35:=(Kd.R_seg HO_445000.out (x19_1 : Int) (zD0) (by have h_ : (x19_1 : Int) < ((x445000_1.length : Int) : Int):=zD0;first | exact h_ | (have e_:=(Kd.R_reads' HO_445000.out).1;omega) | simpa using h_) (seg:=[.string (((rd_T45 x445000_1 x19_1).f1).extract 0 ((ji23) : Int).toNat)]) (j:=1) hcl35 hcc35 (show 2 ≤ 3 from by decide) (x':=(⟨(rd_T45 x445000_1 x19_1).f0,((rd_T45 x445000_1 x19_1).f1).extract 0 ((ji23) : Int).toNat,(rd_T45 x445000_1 x19_1).f2⟩ : S45)) (k45_mkM _ _ _ (⟨(rd_T45 x445000_1 x19_1).f0,((rd_T45 x445000_1 x19_1).f1).extract 0 ((ji23) : Int).toNat,(rd_T45 x445000_1 x19_1).f2⟩ : S45) ) (fun _ hk => hk)).1
          rw [← Ny448.out] at HP35
          have HQ35:=Aside0.mk HP35
          clear hcl35 hcc35 hfr35 hM35 HP35
          have p27 : 0 ≤ (x19_1 : Int):=zD0
          have q27 : (x19_1 : Int) < ((x445000_1.length : Int) : Int):=zD0
          replace p27:=eq_true p27
          replace q27:=eq_true q27
          obtain ⟨ce36,hcl36,hM36,hcc36,hfr36⟩:=Kd.R_elem HQ35.out z45 (x19_1 : Int) (zD0) (by have h_ : (x19_1 : Int) < ((x445000_1.length : Int) : Int):=zD0;first | exact h_ | (have e_:=(Kd.R_reads' HO_445000.out).1;omega) | simpa using h_)
          obtain rfl:=k45_openM hM36
          have HP36:=(Kd.R_seg HQ35.out (x19_1 : Int) (zD0) (by have h_ : (x19_1 : Int) < ((x445000_1.length : Int) : Int):=zD0;first | exact h_ | (have e_:=(Kd.R_reads' HO_445000.out).1;omega) | simpa using h_) (seg:=[.int .i64 ji23]) (j:=2) hcl36 hcc36 (show 3 ≤ 3 from by decide) (x':=(⟨(rd_T45 y448 x19_1).f0,(rd_T45 y448 x19_1).f1,ji23⟩ : S45)) (k45_mkM _ _ _ (⟨(rd_T45 y448 x19_1).f0,(rd_T45 y448 x19_1).f1,ji23⟩ : S45) ) (fun _ hk => hk)).1
          rw [← Ny449.out] at HP36
          have HQ36:=Aside0.mk HP36
          clear hcl36 hcc36 hfr36 hM36 HP36
          refine start_ (n:=17) (S:=fun w' => w'.cell? ⟨gb444,0,none⟩ = some (.slice (some ⟨go26,0,none⟩) x445000_1.length co14) ∧ w'.cell? ⟨gb446,0,none⟩ = some (.string ((rd_T45 x445000_1 x19_1).f0)) ∧ w'.cell? ⟨gb446,1,none⟩ = some (.string ((rd_T45 x445000_1 x19_1).f1)) ∧ w'.cell? ⟨gb446,2,none⟩ = some (.int .i64 ((rd_T45 x445000_1 x19_1).f2))) (ds:=[16]) (zF0 17 0) (by kernel_rfl) rfl rfl ⟨zc00 BK444,zc00 BK446,zc01 BK446,zc02 BK446⟩ (fun hHeld => ?_);refine with_tabW impl_LoseDisk.tab11 impl_LoseDisk.bits11 (fun HT_ HW_ => ?_)
          generalize w33.drew = w34 at HO_445000 BK438 BK439 BK444 BK446 HB GG26 HQ35 HQ36 hf26_0 hf26_1 hf26_2 hx26_0 hx26_1 hx26_2 hx445_0 hx445_1 hx445_2 hHeld ⊢
          refine zp0 0 40 17 1 HT_ ?_
          refine zp0 2 42 17 5 HT_ ?_
          refine zp0 3 43 17 13 HT_ ?_
          refine zp0 5 45 17 45 HT_ ?_
          refine zp0 6 46 17 109 HT_ ?_
          refine zp0 8 48 17 365 HT_ ?_
          refine zp0 10 50 17 1389 HT_ ?_
          refine zt0 1 41 17 1391 HT_ HW_ hHeld ?_
          refine zt0 4 44 17 1407 HT_ HW_ hHeld ?_
          refine zt0 7 47 17 1535 HT_ HW_ hHeld ?_
          refine zp0 9 49 17 2047 HT_ ?_
          refine zp0 11 51 17 4095 HT_ ?_
          refine zp0 12 52 17 8191 HT_ ?_
          refine one_ (i:=13) (N:=none) (zF0 17 16383) rfl rfl (one_of HT_.out (by kernel_rfl)) (by decide) (fun K hK => ?_)
          refine skip_ (w1:=?_) (by rfl) rfl ?_ ?_;rotate_left
          ·go_simp
           rfl
          refine hK.out _ _ ⟨((cell_far (p:=⟨go26,_,none⟩) (fun e_ => (by first | exact Kd.R_away HO_445000.out (fun _ hk => hk) (congrArg some e_) | exact Kd.R_away HO_445000.out (fun _ hk => hk.1) (congrArg some e_) | exact Kd.R_away HO_445000.out (fun _ hk => hk.2) (congrArg some e_) | exact Kd.R_ne HO_445000.out BK444.out (by decide) (congrArg some e_))) _).trans (hHeld.1)),((cell_far (p:=⟨go26,_,none⟩) (fun e_ => (by first | exact Kd.R_away HO_445000.out (fun _ hk => hk) (congrArg some e_) | exact Kd.R_away HO_445000.out (fun _ hk => hk.1) (congrArg some e_) | exact Kd.R_away HO_445000.out (fun _ hk => hk.2) (congrArg some e_) | exact Kd.R_ne HO_445000.out BK446.out (by decide) (congrArg some e_))) _).trans (hHeld.2.1)),((cell_far (p:=⟨go26,_,none⟩) (fun e_ => (by first | exact Kd.R_away HO_445000.out (fun _ hk => hk) (congrArg some e_) | exact Kd.R_away HO_445000.out (fun _ hk => hk.1) (congrArg some e_) | exact Kd.R_away HO_445000.out (fun _ hk => hk.2) (congrArg some e_) | exact Kd.R_ne HO_445000.out BK446.out (by decide) (congrArg some e_))) _).trans (hHeld.2.2.1)),((cell_far (p:=⟨go26,_,none⟩) (fun e_ => (by first | exact Kd.R_away HO_445000.out (fun _ hk => hk) (congrArg some e_) | exact Kd.R_away HO_445000.out (fun _ hk => hk.1) (congrArg some e_) | exact Kd.R_away HO_445000.out (fun _ hk => hk.2) (congrArg some e_) | exact Kd.R_ne HO_445000.out BK446.out (by decide) (congrArg some e_))) _).trans (hHeld.2.2.2))⟩ (fun hHeld => ?_)
          clear hK K
          refine zp0 14 53 17 32767 HT_ ?_
          refine zp0 15 54 17 65535 HT_ ?_
          refine last_ (i:=16) (N:=none) (zF0 17 131071) rfl rfl (one_of HT_.out (by kernel_rfl)) (by decide) (fun K hK => ?_)
          refine skip_ (w1:=?_) (by rfl) rfl ?_ ?_;rotate_left
          ·go_simp
           rfl
          refine hK.out _ _ ?_
          clear hK K
          refine done_ (done_of HT_.out (by kernel_rfl)) ?_
          try go_wp2
          (try simp only [← hl445000_1])
          go_roundg k1
          case measure => have:=HK1.out;omega
          case rel => exact ⟨(wrap64 (x19_1 + 1)),(y449),zE0,H',⟨by have:=HK1.out;omega⟩,⟨by (try simp only [hl445000_1]);refine zV0 ?_;exact Kd.R_mono HQ36.out (fun _ hk => trivial)⟩,⟨by (try simp only [hl445000_1]);refine zT0 ?_;refine blk_far ?_ (by have h_:=Kd.R_ne HO_445000.out BK438.out (by decide);intro e_;exact h_ (by rw [e_];rfl)) _;refine zT0 ?_;refine blk_far ?_ (by have h_:=Kd.R_ne HO_445000.out BK438.out (by decide);intro e_;exact h_ (by rw [e_];rfl)) _;exact zK0 BK438.out⟩,⟨by (try simp only [hl445000_1]);refine zT0 ?_;refine blk_far ?_ (by have h_:=Kd.R_ne HO_445000.out BK439.out (by decide);intro e_;exact h_ (by rw [e_];rfl)) _;refine zT0 ?_;refine blk_far ?_ (by have h_:=Kd.R_ne HO_445000.out BK439.out (by decide);intro e_;exact h_ (by rw [e_];rfl)) _;exact zK0 BK439.out⟩,⟨by (try simp only [hl445000_1]);refine zT0 ?_;refine blk_far ?_ (by have h_:=Kd.R_ne HO_445000.out BK444.out (by decide);intro e_;exact h_ (by rw [e_];rfl)) _;refine zT0 ?_;refine blk_far ?_ (by have h_:=Kd.R_ne HO_445000.out BK444.out (by decide);intro e_;exact h_ (by rw [e_];rfl)) _;exact zK0 BK444.out⟩,⟨by repeat (first | (with_reducible first | exact HB.out | apply below_alloc | apply pw_below_drewN | apply below_drew1 | refine below_set ?_ GB26.out | refine below_set ?_ GB26.out | refine below_set ?_ GE438.out | refine below_set ?_ GE439.out | refine below_set ?_ GE444.out | refine below_set ?_ GE446.out) | exact HB.out)⟩⟩
         ·rw [if_neg c25] at H
          exact absurd H (by simp)
        ·rw [if_neg c24] at H
         exact absurd H (by simp)
       ·rw [if_neg c21] at H
        have c21b0 : decide (x19_1 < (l1.length : Int)) = false:=decide_eq_false c21
        clear c21
        obtain ⟨ji37,hji37⟩ : ∃ j_ : Int,(mn 0 (((rd_T45 x445000_1 x19_1).f1).size : Int)) = j_:=⟨_,rfl⟩
        replace H : (if 0 ≤ (mx ((rd_T45 x445000_1 x19_1).f2) (ji37)) then (if (mx ((rd_T45 x445000_1 x19_1).f2) (ji37)) ≤ (((rd_T45 x445000_1 x19_1).f1).size : Int) then ((some (x445000_1.set (x19_1 : Int).toNat (⟨(rd_T45 x445000_1 x19_1).f0,((rd_T45 x445000_1 x19_1).f1).extract 0 ((mx ((rd_T45 x445000_1 x19_1).f2) (ji37)) : Int).toNat,(rd_T45 x445000_1 x19_1).f2⟩ : S45) : List (S45))).bind fun y450 => (impl_LoseDisk.l0 k1 l1 (t441.length : Int) (wrap64 (x19_1 + 1)) (y450.set (x19_1 : Int).toNat (⟨(rd_T45 y450 x19_1).f0,(rd_T45 y450 x19_1).f1,mx ((rd_T45 x445000_1 x19_1).f2) (ji37)⟩ : S45)))) else (none)) else (none)) = some (r1,r2):=by first | (rw [hji37] at H;exact H) | (simp only [hji37] at H ⊢;exact H)
        have hji37_ : (if (((rd_T45 x445000_1 x19_1).f1).size : Int) < 0 then (((rd_T45 x445000_1 x19_1).f1).size : Int) else 0) = ji37:=hji37
        have hjz_ : ji37 = 0:=by rw [← hji37_];exact if_neg (by omega)
        obtain ⟨ji38,hji38⟩ : ∃ j_ : Int,(mx ((rd_T45 x445000_1 x19_1).f2) (ji37)) = j_:=⟨_,rfl⟩
        replace H : (if 0 ≤ (ji38) then (if (ji38) ≤ (((rd_T45 x445000_1 x19_1).f1).size : Int) then ((some (x445000_1.set (x19_1 : Int).toNat (⟨(rd_T45 x445000_1 x19_1).f0,((rd_T45 x445000_1 x19_1).f1).extract 0 ((ji38) : Int).toNat,(rd_T45 x445000_1 x19_1).f2⟩ : S45) : List (S45))).bind fun y450 => (impl_LoseDisk.l0 k1 l1 (t441.length : Int) (wrap64 (x19_1 + 1)) (y450.set (x19_1 : Int).toNat (⟨(rd_T45 y450 x19_1).f0,(rd_T45 y450 x19_1).f1,ji38⟩ : S45)))) else (none)) else (none)) = some (r1,r2):=by first | (rw [hji38] at H;exact H) | (simp only [hji38] at H ⊢;exact H)
        have hji38_ : (if ((rd_T45 x445000_1 x19_1).f2) < (ji37) then (ji37) else ((rd_T45 x445000_1 x19_1).f2)) = ji38:=hji38
        try have hji38z_ : (if ((rd_T45 x445000_1 x19_1).f2) < 0 then 0 else ((rd_T45 x445000_1 x19_1).f2)) = ji38:=by rw [← hji38_,hjz_]
        by_cases c39 : 0 ≤ (ji38)
        ·rw [if_pos c39] at H
         have c39b0:=eq_true c39
         have c39b1 : decide (0 ≤ (ji38)) = true:=decide_eq_true c39
         clear c39
         by_cases c40 : (ji38) ≤ (((rd_T45 x445000_1 x19_1).f1).size : Int)
         ·rw [if_pos c40] at H
          have c40b0:=eq_true c40
          have c40b1 : decide ((ji38) ≤ (((rd_T45 x445000_1 x19_1).f1).size : Int)) = true:=decide_eq_true c40
          clear c40
          obtain ⟨y450,hy450⟩ : ∃ y_ : List (S45),y_ = (x445000_1.set (x19_1 : Int).toNat (⟨(rd_T45 x445000_1 x19_1).f0,((rd_T45 x445000_1 x19_1).f1).extract 0 ((ji38) : Int).toNat,(rd_T45 x445000_1 x19_1).f2⟩ : S45)):=⟨_,rfl⟩
          replace H : (impl_LoseDisk.l0 k1 l1 (t441.length : Int) (wrap64 (x19_1 + 1)) (y450.set (x19_1 : Int).toNat (⟨(rd_T45 y450 x19_1).f0,(rd_T45 y450 x19_1).f1,ji38⟩ : S45))) = some (r1,r2):=by first | (rw [hy450];with_reducible exact H) | (have H2_:=(Option.bind_some _ _).symm.trans H;rw [hy450];with_reducible exact H2_) | (have H2_:=(Option.bind_some _ _).symm.trans H;with_reducible exact H2_) | with_reducible exact H | (rw [hy450];exact H) | exact H
          have Ny450:=Aside0.mk hy450
          clear hy450
          obtain ⟨y451,hy451⟩ : ∃ y_ : List (S45),y_ = (y450.set (x19_1 : Int).toNat (⟨(rd_T45 y450 x19_1).f0,(rd_T45 y450 x19_1).f1,ji38⟩ : S45)):=⟨_,rfl⟩
          replace H : (impl_LoseDisk.l0 k1 l1 (t441.length : Int) (wrap64 (x19_1 + 1)) y451) = some (r1,r2):=by first | (rw [hy451];with_reducible exact H) | (have H2_:=(Option.bind_some _ _).symm.trans H;rw [hy451];with_reducible exact H2_) | (have H2_:=(Option.bind_some _ _).symm.trans H;with_reducible exact H2_) | with_reducible exact H | (rw [hy451];exact H) | exact H
          have Ny451:=Aside0.mk hy451
          clear hy451
          have H':=Aside0.mk H
          clear H
          have p445 : 0 ≤ (x19_1 : Int):=zD0
          have q445 : x19_1 < (x445000_1.length : Int):=zD0
          obtain ⟨ad445,e445,hx445_0,hx445_1,hx445_2⟩:=at_T45 (Kd.R_reads' HO_445000.out).2.2 x19_1 p445 q445
          cases e445
          replace p445:=eq_true p445
          replace q445:=eq_true q445
          try go_wp2_with (first | ((with_reducible refine gate_dst (N:=8) rfl ?_);refine zy0 (cs:=#[.string (⟨#[]⟩ : ByteArray),.string (⟨#[]⟩ : ByteArray),.int .i64 0]) (t:=45) ?_;intro gb446 hg w43 hbox hb;replace HO_445000:=Aside0.mk (Kd.R_below (Kd.R_elderB (zR0 HO_445000.out) gb446 (Nat.le_of_eq hg.symm)) hb);have BK446:=Aside0.mk hbox;have GW446:=zz0 hg HB;have GE446:=zz0 hg HB;replace HB:=zs0 HB hb;have NB438_446:=zl0 hg BK438;have NB446_438:=zg0 hg BK438;replace BK438:=zb0 BK438 hb;have NB439_446:=zl0 hg BK439;have NB446_439:=zg0 hg BK439;replace BK439:=zb0 BK439 hb;have NB444_446:=zl0 hg BK444;have NB446_444:=zg0 hg BK444;replace BK444:=zb0 BK444 hb;clear hb hbox hg;obtain ⟨_,_⟩:=zn0 NB446_438;obtain ⟨_,_⟩:=zn0 NB446_439;obtain ⟨_,_⟩:=zn0 NB446_444;obtain ⟨_,_,_,_,_,_⟩:=zd03 BK446))
          have n0_ : Aside0 (Kd.R k45 45 (((w43.setCell ⟨gb446,0,none⟩ (.string ((rd_T45 x445000_1 x19_1).f0))).setCell ⟨gb446,1,none⟩ (.string ((rd_T45 x445000_1 x19_1).f1))).setCell ⟨gb446,2,none⟩ (.int .i64 ((rd_T45 x445000_1 x19_1).f2))) w.heap.size (fun k_ => k_ ≠ gb446) (.slice (some ad445) x445000_1.length co14) x445000_1):=⟨by refine zV0 ?_;exact Kd.R_mono (Kd.R_far (p:=⟨gb446,2,none⟩) (Kd.R_far (p:=⟨gb446,1,none⟩) (Kd.R_far (p:=⟨gb446,0,none⟩) (Kd.R_mono HO_445000.out (fun k_ hk => (⟨hk,hk.2⟩ : _ ∧ k_ ≠ gb446))) (fun _ hk => hk.2) (.string ((rd_T45 x445000_1 x19_1).f0))) (fun _ hk => hk.2) (.string ((rd_T45 x445000_1 x19_1).f1))) (fun _ hk => hk.2) (.int .i64 ((rd_T45 x445000_1 x19_1).f2))) (fun _ hk => hk.1.2)⟩
          have n1_ : Aside0 ((((w43.setCell ⟨gb446,0,none⟩ (.string ((rd_T45 x445000_1 x19_1).f0))).setCell ⟨gb446,1,none⟩ (.string ((rd_T45 x445000_1 x19_1).f1))).setCell ⟨gb446,2,none⟩ (.int .i64 ((rd_T45 x445000_1 x19_1).f2))).heap[gb438]? = some (.cells #[.slice A0_0 l0_0.length c0_0] 30 (0,0))):=⟨zK0 BK438.out⟩
          have n2_ : Aside0 ((((w43.setCell ⟨gb446,0,none⟩ (.string ((rd_T45 x445000_1 x19_1).f0))).setCell ⟨gb446,1,none⟩ (.string ((rd_T45 x445000_1 x19_1).f1))).setCell ⟨gb446,2,none⟩ (.int .i64 ((rd_T45 x445000_1 x19_1).f2))).heap[gb439]? = some (.cells #[.slice none 0 0] 30 (0,0))):=⟨zK0 BK439.out⟩
          have n3_ : Aside0 ((((w43.setCell ⟨gb446,0,none⟩ (.string ((rd_T45 x445000_1 x19_1).f0))).setCell ⟨gb446,1,none⟩ (.string ((rd_T45 x445000_1 x19_1).f1))).setCell ⟨gb446,2,none⟩ (.int .i64 ((rd_T45 x445000_1 x19_1).f2))).heap[gb444]? = some (.cells #[.slice (some ad445) x445000_1.length co14] 30 (0,0))):=⟨zK0 BK444.out⟩
          have n4_ : Aside0 ((((w43.setCell ⟨gb446,0,none⟩ (.string ((rd_T45 x445000_1 x19_1).f0))).setCell ⟨gb446,1,none⟩ (.string ((rd_T45 x445000_1 x19_1).f1))).setCell ⟨gb446,2,none⟩ (.int .i64 ((rd_T45 x445000_1 x19_1).f2))).heap[gb446]? = some (.cells #[.string ((rd_T45 x445000_1 x19_1).f0),.string ((rd_T45 x445000_1 x19_1).f1),.int .i64 ((rd_T45 x445000_1 x19_1).f2)] 45 (0,0))):=⟨by refine zT0 ?_;refine blk_put (cs:=#[.string ((rd_T45 x445000_1 x19_1).f0),.string ((rd_T45 x445000_1 x19_1).f1),.int .i64 0]) ?_ 2 _ rfl;refine zT0 ?_;refine blk_put (cs:=#[.string ((rd_T45 x445000_1 x19_1).f0),.string (⟨#[]⟩ : ByteArray),.int .i64 0]) ?_ 1 _ rfl;refine zT0 ?_;refine blk_put (cs:=#[.string (⟨#[]⟩ : ByteArray),.string (⟨#[]⟩ : ByteArray),.int .i64 0]) ?_ 0 _ rfl;exact zK0 BK446.out⟩
          have n5_ : Aside0 (Below w.heap.size w (((w43.setCell ⟨gb446,0,none⟩ (.string ((rd_T45 x445000_1 x19_1).f0))).setCell ⟨gb446,1,none⟩ (.string ((rd_T45 x445000_1 x19_1).f1))).setCell ⟨gb446,2,none⟩ (.int .i64 ((rd_T45 x445000_1 x19_1).f2)))):=⟨zY0 HB.out⟩
          (try clear HO_445000)
          (try clear BK438)
          (try clear BK439)
          (try clear BK444)
          (try clear BK446)
          (try clear HB)
          generalize (((w43.setCell ⟨gb446,0,none⟩ (.string ((rd_T45 x445000_1 x19_1).f0))).setCell ⟨gb446,1,none⟩ (.string ((rd_T45 x445000_1 x19_1).f1))).setCell ⟨gb446,2,none⟩ (.int .i64 ((rd_T45 x445000_1 x19_1).f2))) = w48 at n0_ n1_ n2_ n3_ n4_ n5_ ⊢
          have HO_445000:=n0_
          have BK438:=n1_
          have BK439:=n2_
          have BK444:=n3_
          have BK446:=n4_
          have HB:=n5_
          clear n0_ n1_ n2_ n3_ n4_ n5_
          replace HO_445000:=Aside0.mk (Kd.R_drew HO_445000.out)
          replace BK438:=Aside0.mk (blk_drew BK438.out)
          replace BK439:=Aside0.mk (blk_drew BK439.out)
          replace BK444:=Aside0.mk (blk_drew BK444.out)
          replace BK446:=Aside0.mk (blk_drew BK446.out)
          replace HB:=Aside0.mk (below_drew1 HB.out)
          have p41 : 0 ≤ (x19_1 : Int):=zD0
          have q41 : (x19_1 : Int) < ((x445000_1.length : Int) : Int):=zD0
          obtain ⟨go41,co41,eo41,gb41,gl41,cl41,HG41⟩:=Kd.R_form HO_445000.out (by omega)
          (first | cases eo41 | (injection eo41 with ea_ en_ ec_;(first | subst ea_ | (injection ea_ with ea_;subst ea_));subst ec_;clear en_))
          have GB41:=Aside0.mk gb41
          have GG41:=Aside0.mk HG41
          clear gb41 gl41 HG41
          (first | simp only [add_plain] at hx445_0 | skip)
          (first | simp only [add_plain] at hx445_1 | skip)
          (first | simp only [add_plain] at hx445_2 | skip)
          obtain ⟨ce41,hcl41,hM41,hcc41,hfr41⟩:=Kd.R_elem HO_445000.out z45 (x19_1 : Int) p41 q41
          obtain rfl:=k45_openM hM41
          have hx41_0 : World.cell? _ ⟨go41,(x19_1 : Int).toNat * 3,none⟩ = some (.string ((rd_T45 x445000_1 x19_1).f0)):=hcc41 0 _ rfl
          have hx41_1 : World.cell? _ ⟨go41,(x19_1 : Int).toNat * 3 + 1,none⟩ = some (.string ((rd_T45 x445000_1 x19_1).f1)):=hcc41 1 _ rfl
          have hx41_2 : World.cell? _ ⟨go41,(x19_1 : Int).toNat * 3 + 2,none⟩ = some (.int .i64 ((rd_T45 x445000_1 x19_1).f2)):=hcc41 2 _ rfl
          have hf41_0 : World.frozen? _ ⟨go41,(x19_1 : Int).toNat * 3,none⟩ = false:=hfr41 0
          have hf41_1 : World.frozen? _ ⟨go41,(x19_1 : Int).toNat * 3 + 1,none⟩ = false:=hfr41 1
          have hf41_2 : World.frozen? _ ⟨go41,(x19_1 : Int).toNat * 3 + 2,none⟩ = false:=hfr41 2
          clear hcl41 hcc41 hfr41 hM41
          replace p41:=eq_true p41
          replace q41:=eq_true q41
          obtain ⟨ce50,hcl50,hM50,hcc50,hfr50⟩:=Kd.R_elem HO_445000.out z45 (x19_1 : Int) (zD0) (by have h_ : (x19_1 : Int) < ((x445000_1.length : Int) : Int):=zD0;first | exact h_ | (have e_:=(Kd.R_reads' HO_445000.out).1;omega) | simpa using h_)
          obtain rfl:=k45_openM hM50
          have HP50:=(Kd.R_seg HO_445000.out (x19_1 : Int) (zD0) (by have h_ : (x19_1 : Int) < ((x445000_1.length : Int) : Int):=zD0;first | exact h_ | (have e_:=(Kd.R_reads' HO_445000.out).1;omega) | simpa using h_) (seg:=[.string (((rd_T45 x445000_1 x19_1).f1).extract 0 ((ji38) : Int).toNat)]) (j:=1) hcl50 hcc50 (show 2 ≤ 3 from by decide) (x':=(⟨(rd_T45 x445000_1 x19_1).f0,((rd_T45 x445000_1 x19_1).f1).extract 0 ((ji38) : Int).toNat,(rd_T45 x445000_1 x19_1).f2⟩ : S45)) (k45_mkM _ _ _ (⟨(rd_T45 x445000_1 x19_1).f0,((rd_T45 x445000_1 x19_1).f1).extract 0 ((ji38) : Int).toNat,(rd_T45 x445000_1 x19_1).f2⟩ : S45) ) (fun _ hk => hk)).1
          rw [← Ny450.out] at HP50
          have HQ50:=Aside0.mk HP50
          clear hcl50 hcc50 hfr50 hM50 HP50
          have p42 : 0 ≤ (x19_1 : Int):=zD0
          have q42 : (x19_1 : Int) < ((x445000_1.length : Int) : Int):=zD0
          replace p42:=eq_true p42
          replace q42:=eq_true q42
          obtain ⟨ce51,hcl51,hM51,hcc51,hfr51⟩:=Kd.R_elem HQ50.out z45 (x19_1 : Int) (zD0) (by have h_ : (x19_1 : Int) < ((x445000_1.length : Int) : Int):=zD0;first | exact h_ | (have e_:=(Kd.R_reads' HO_445000.out).1;omega) | simpa using h_)
          obtain rfl:=k45_openM hM51
          have HP51:=(Kd.R_seg HQ50.out (x19_1 : Int) (zD0) (by have h_ : (x19_1 : Int) < ((x445000_1.length : Int) : Int):=zD0;first | exact h_ | (have e_:=(Kd.R_reads' HO_445000.out).1;omega) | simpa using h_) (seg:=[.int .i64 ji38]) (j:=2) hcl51 hcc51 (show 3 ≤ 3 from by decide) (x':=(⟨(rd_T45 y450 x19_1).f0,(rd_T45 y450 x19_1).f1,ji38⟩ : S45)) (k45_mkM _ _ _ (⟨(rd_T45 y450 x19_1).f0,(rd_T45 y450 x19_1).f1,ji38⟩ : S45) ) (fun _ hk => hk)).1
          rw [← Ny451.out] at HP51
          have HQ51:=Aside0.mk HP51
          clear hcl51 hcc51 hfr51 hM51 HP51
          refine start_ (n:=17) (S:=fun w' => w'.cell? ⟨gb444,0,none⟩ = some (.slice (some ⟨go41,0,none⟩) x445000_1.length co14) ∧ w'.cell? ⟨gb446,0,none⟩ = some (.string ((rd_T45 x445000_1 x19_1).f0)) ∧ w'.cell? ⟨gb446,1,none⟩ = some (.string ((rd_T45 x445000_1 x19_1).f1)) ∧ w'.cell? ⟨gb446,2,none⟩ = some (.int .i64 ((rd_T45 x445000_1 x19_1).f2))) (ds:=[16]) (zF0 17 0) (by kernel_rfl) rfl rfl ⟨zc00 BK444,zc00 BK446,zc01 BK446,zc02 BK446⟩ (fun hHeld => ?_);refine with_tabW impl_LoseDisk.tab11 impl_LoseDisk.bits11 (fun HT_ HW_ => ?_)
          generalize w48.drew = w49 at HO_445000 BK438 BK439 BK444 BK446 HB GG41 HQ50 HQ51 hf41_0 hf41_1 hf41_2 hx41_0 hx41_1 hx41_2 hx445_0 hx445_1 hx445_2 hHeld ⊢
          refine zp0 0 40 17 1 HT_ ?_
          refine zp0 2 42 17 5 HT_ ?_
          refine zp0 3 43 17 13 HT_ ?_
          refine zp0 5 45 17 45 HT_ ?_
          refine zp0 6 46 17 109 HT_ ?_
          refine zp0 8 48 17 365 HT_ ?_
          refine zp0 10 50 17 1389 HT_ ?_
          refine zt0 1 41 17 1391 HT_ HW_ hHeld ?_
          refine zt0 4 44 17 1407 HT_ HW_ hHeld ?_
          refine zt0 7 47 17 1535 HT_ HW_ hHeld ?_
          refine zp0 9 49 17 2047 HT_ ?_
          refine zp0 11 51 17 4095 HT_ ?_
          refine zp0 12 52 17 8191 HT_ ?_
          refine one_ (i:=13) (N:=none) (zF0 17 16383) rfl rfl (one_of HT_.out (by kernel_rfl)) (by decide) (fun K hK => ?_)
          refine skip_ (w1:=?_) (by rfl) rfl ?_ ?_;rotate_left
          ·go_simp
           rfl
          refine hK.out _ _ ⟨((cell_far (p:=⟨go41,_,none⟩) (fun e_ => (by first | exact Kd.R_away HO_445000.out (fun _ hk => hk) (congrArg some e_) | exact Kd.R_away HO_445000.out (fun _ hk => hk.1) (congrArg some e_) | exact Kd.R_away HO_445000.out (fun _ hk => hk.2) (congrArg some e_) | exact Kd.R_ne HO_445000.out BK444.out (by decide) (congrArg some e_))) _).trans (hHeld.1)),((cell_far (p:=⟨go41,_,none⟩) (fun e_ => (by first | exact Kd.R_away HO_445000.out (fun _ hk => hk) (congrArg some e_) | exact Kd.R_away HO_445000.out (fun _ hk => hk.1) (congrArg some e_) | exact Kd.R_away HO_445000.out (fun _ hk => hk.2) (congrArg some e_) | exact Kd.R_ne HO_445000.out BK446.out (by decide) (congrArg some e_))) _).trans (hHeld.2.1)),((cell_far (p:=⟨go41,_,none⟩) (fun e_ => (by first | exact Kd.R_away HO_445000.out (fun _ hk => hk) (congrArg some e_) | exact Kd.R_away HO_445000.out (fun _ hk => hk.1) (congrArg some e_) | exact Kd.R_away HO_445000.out (fun _ hk => hk.2) (congrArg some e_) | exact Kd.R_ne HO_445000.out BK446.out (by decide) (congrArg some e_))) _).trans (hHeld.2.2.1)),((cell_far (p:=⟨go41,_,none⟩) (fun e_ => (by first | exact Kd.R_away HO_445000.out (fun _ hk => hk) (congrArg some e_) | exact Kd.R_away HO_445000.out (fun _ hk => hk.1) (congrArg some e_) | exact Kd.R_away HO_445000.out (fun _ hk => hk.2) (congrArg some e_) | exact Kd.R_ne HO_445000.out BK446.out (by decide) (congrArg some e_))) _).trans (hHeld.2.2.2))⟩ (fun hHeld => ?_)
          clear hK K
          refine zp0 14 53 17 32767 HT_ ?_
          refine zp0 15 54 17 65535 HT_ ?_
          refine last_ (i:=16) (N:=none) (zF0 17 131071) rfl rfl (one_of HT_.out (by kernel_rfl)) (by decide) (fun K hK => ?_)
          refine skip_ (w1:=?_) (by rfl) rfl ?_ ?_;rotate_left
          ·go_simp
           rfl
          refine hK.out _ _ ?_
          clear hK K
          refine done_ (done_of HT_.out (by kernel_rfl)) ?_
          try go_wp2
          (try simp only [← hl445000_1])
          go_roundg k1
          case measure => have:=HK1.out;omega
          case rel => exact ⟨(wrap64 (x19_1 + 1)),(y451),zE0,H',⟨by have:=HK1.out;omega⟩,⟨by (try simp only [hl445000_1]);refine zV0 ?_;exact Kd.R_mono HQ51.out (fun _ hk => trivial)⟩,⟨by (try simp only [hl445000_1]);refine zT0 ?_;refine blk_far ?_ (by have h_:=Kd.R_ne HO_445000.out BK438.out (by decide);intro e_;exact h_ (by rw [e_];rfl)) _;refine zT0 ?_;refine blk_far ?_ (by have h_:=Kd.R_ne HO_445000.out BK438.out (by decide);intro e_;exact h_ (by rw [e_];rfl)) _;exact zK0 BK438.out⟩,⟨by (try simp only [hl445000_1]);refine zT0 ?_;refine blk_far ?_ (by have h_:=Kd.R_ne HO_445000.out BK439.out (by decide);intro e_;exact h_ (by rw [e_];rfl)) _;refine zT0 ?_;refine blk_far ?_ (by have h_:=Kd.R_ne HO_445000.out BK439.out (by decide);intro e_;exact h_ (by rw [e_];rfl)) _;exact zK0 BK439.out⟩,⟨by (try simp only [hl445000_1]);refine zT0 ?_;refine blk_far ?_ (by have h_:=Kd.R_ne HO_445000.out BK444.out (by decide);intro e_;exact h_ (by rw [e_];rfl)) _;refine zT0 ?_;refine blk_far ?_ (by have h_:=Kd.R_ne HO_445000.out BK444.out (by decide);intro e_;exact h_ (by rw [e_];rfl)) _;exact zK0 BK444.out⟩,⟨by repeat (first | (with_reducible first | exact HB.out | apply below_alloc | apply pw_below_drewN | apply below_drew1 | refine below_set ?_ GB41.out | refine below_set ?_ GB41.out | refine below_set ?_ GE438.out | refine below_set ?_ GE439.out | refine below_set ?_ GE444.out | refine below_set ?_ GE446.out) | exact HB.out)⟩⟩
         ·rw [if_neg c40] at H
          exact absurd H (by simp)
        ·rw [if_neg c39] at H
         exact absurd H (by simp)
      ·rw [if_neg c20] at H
       exact absurd H (by simp)
     ·rw [if_neg c19] at H
      exact absurd H (by simp)
    ·rw [if_neg c18] at H
     have c18b0 : decide (x19_1 < (t441.length : Int)) = false:=decide_eq_false c18
     try have c18b9 : decide (x19_1 < (x445000_1.length : Int)) = false:=by rw [← hl445000_1];exact c18b0
     clear c18
     simp only [Option.some.injEq,Prod.mk.injEq] at H
     obtain ⟨rfl,rfl⟩:=H
     obtain ⟨_,_⟩:=zn0 NB444_438
     obtain ⟨_,_⟩:=zn0 NB444_439
     have hcz54_0 : wr.cell? ⟨gb444,0,none⟩ = some (.slice Ao14 x445000_1.length co14):=zc00 BK444
     have hfz54_0:=blk_frozen BK444.out 0
     obtain ⟨_,_⟩:=zn0 NB439_438
     have hcz56_0 : wr.cell? ⟨gb439,0,none⟩ = some (.slice none 0 0):=zc00 BK439
     have hfz56_0:=blk_frozen BK439.out 0
     go_wp2
     refine bodyPost_ret (results_ct rfl _ _ gb439 30 #[.slice Ao14 x445000_1.length co14] (0,0) _ rfl (by refine zT0 ?_;refine blk_put (cs:=#[.slice none 0 0]) ?_ 0 _ rfl;exact zK0 BK439.out) Try.underlying30 rfl (by kernel_rfl)) rfl ?_
     exact ⟨_,zW0,by refine zV0 ?_;exact Kd.R_mono (Kd.R_far (p:=⟨gb439,0,none⟩) (Kd.R_types HO_445000.out BK439.out (by decide)) (fun _ hk => hk.2) (.slice Ao14 x445000_1.length co14)) (fun _ hk => trivial),(zY0 HB.out)⟩
 ·replace c4:=Bool.eq_false_iff.mpr c4
  subst c4
  rw [if_neg (show ¬ (false = true) by decide)] at H
  simp only [Option.some.injEq,Prod.mk.injEq] at H
  obtain ⟨rfl,rfl⟩:=H
  go_enter Try.func25,Try.ntmps25
  go_wp2_with (first | ((with_reducible refine gate_dst (N:=2) rfl ?_);refine zy0 (cs:=#[.slice A0_0 l0_0.length c0_0]) (t:=30) ?_;intro gb438 hg w57 hbox hb;have BK438:=Aside0.mk hbox;have GW438:=zz0 hg HB;have GE438:=zz0 hg HB;replace HB:=zs0 HB hb;clear hb hbox hg) | ((with_reducible refine gate_dst (N:=4) rfl ?_);refine zy0 (cs:=#[.slice none 0 0]) (t:=30) ?_;intro gb439 hg w58 hbox hb;have BK439:=Aside0.mk hbox;have GW439:=zz0 hg HB;have GE439:=zz0 hg HB;replace HB:=zs0 HB hb;have NB438_439:=zl0 hg BK438;have NB439_438:=zg0 hg BK438;replace BK438:=zb0 BK438 hb;clear hb hbox hg;obtain ⟨_,_⟩:=zn0 NB438_439;obtain ⟨_,_⟩:=zd01 BK438) | ((with_reducible refine gate_callee (f:=27) rfl ?_);refine goesL_ (some 11) rfl rfl Try.func27 (by kernel_rfl) rfl #[.agg #[.slice A0_0 l0_0.length c0_0]] rfl zM0 ?_;(with_reducible refine (impl_DiskOk.calls k _ _ l0_0 false _ ?side1 ?side2 A3.out).mono ?_);(case side1 => exact zA0 ((Kd.C_below HR0_0.out HB.out)));(case side2 => exact HC0_0.out);rintro e w61 ⟨rfl,hb⟩;refine ⟨_,rfl,?_⟩;replace BK438:=zb0 BK438 hb;replace BK439:=zb0 BK439 hb;replace HB:=zs0 HB hb;(try clear hb);obtain ⟨_,_⟩:=zd01 BK439))
  refine bodyPost_ret (results_ct rfl _ _ gb439 30 #[.slice none 0 0] (0,0) _ rfl (by refine zT0 ?_;refine blk_put (cs:=#[.slice none 0 0]) ?_ 0 _ rfl;exact zK0 BK439.out) Try.underlying30 rfl (by kernel_rfl)) rfl ?_
  exact ⟨_,zW0,by first | exact Kd.R_nil _ _ _ _ _ | exact Kd.N_nil _ _ _ _ _ | exact Kd.V_nil _ _ _ _ _ | exact Kd.Q_nil _ _ _ _ _ | exact Kd.S_nil _ _ _ _ _,(zY0 HB.out)⟩

end Go.Proofs.Ytgfacdhkamphiaa.PFnActs
