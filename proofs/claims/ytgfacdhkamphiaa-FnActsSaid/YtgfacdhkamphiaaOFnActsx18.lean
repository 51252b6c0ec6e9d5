/- Walks, turned from a print. -/
import Derived.Test.YtgfacdhkamphiaaOFnActsx0
import Derived.Test.YtgfacdhkamphiaaOFnActsx7
namespace Go.Proofs.Ytgfacdhkamphiaa.PFnActs
open Go.RowKit Go.Proofs.YtgfacdhkamphiaaW.PrintWords Go.Proofs.YtgfacdhkamphiaaW.PrintLast Go.Proofs.YtgfacdhkamphiaaW.PrintMore
attribute [local go_sem] max2_int min2_int max_two min_two max_three min_three max_four min_four
set_option linter.unusedVariables false
set_option linter.unusedSimpArgs false

/-! ### spec_LoseDisk: function 29 -/
mutual
def spec_LoseDisk.l0 : Nat → List Int → Int → List (S45) → List (S45) → Option ((List (S45)) × Bool)
 | 0,_,_,_,_ => none
 | k + 1,x1,x7,x469000,x472000 => if x7 < (x469000.length : Int) then (if 0 ≤ x7 then (if x7 < (x1.length : Int) then (spec_LoseDisk.j1 k x1 x7 (rd x1 x7) x469000 x472000 ((rd_T45 x469000 x7).f0) ((rd_T45 x469000 x7).f1) ((rd_T45 x469000 x7).f2)) else (spec_LoseDisk.j1 k x1 x7 0 x469000 x472000 ((rd_T45 x469000 x7).f0) ((rd_T45 x469000 x7).f1) ((rd_T45 x469000 x7).f2))) else (none)) else (some (x472000,true))
def spec_LoseDisk.j1 : Nat → List Int → Int → Int → List (S45) → List (S45) → ByteArray → ByteArray → Int → Option ((List (S45)) × Bool)
 | 0,_,_,_,_,_,_,_,_ => none
 | k + 1,x1,x7,x9,x469000,x472000,x474000,x474001,x474002 => if x9 > (x474001.size : Int) then (if (x474001.size : Int) < x474002 then (if 0 ≤ x474002 then (if x474002 ≤ (x474001.size : Int) then (if x472000.length < 3518437208883 then (spec_LoseDisk.l0 k x1 (wrap64 (x7 + 1)) x469000 (x472000 ++ [(⟨x474000,x474001.extract 0 (x474002 : Int).toNat,x474002⟩ : S45)])) else (none)) else (none)) else (none)) else (if 0 ≤ (x474001.size : Int) then (if (x474001.size : Int) ≤ (x474001.size : Int) then (if x472000.length < 3518437208883 then (spec_LoseDisk.l0 k x1 (wrap64 (x7 + 1)) x469000 (x472000 ++ [(⟨x474000,x474001.extract 0 ((x474001.size : Int) : Int).toNat,(x474001.size : Int)⟩ : S45)])) else (none)) else (none)) else (none))) else (if x9 < x474002 then (if 0 ≤ x474002 then (if x474002 ≤ (x474001.size : Int) then (if x472000.length < 3518437208883 then (spec_LoseDisk.l0 k x1 (wrap64 (x7 + 1)) x469000 (x472000 ++ [(⟨x474000,x474001.extract 0 (x474002 : Int).toNat,x474002⟩ : S45)])) else (none)) else (none)) else (none)) else (if 0 ≤ x9 then (if x9 ≤ (x474001.size : Int) then (if x472000.length < 3518437208883 then (spec_LoseDisk.l0 k x1 (wrap64 (x7 + 1)) x469000 (x472000 ++ [(⟨x474000,x474001.extract 0 (x9 : Int).toNat,x9⟩ : S45)])) else (none)) else (none)) else (none)))
end
def spec_LoseDisk.f (k : Nat) (l0_0 : List (S45)) (l1 : List Int) : Option ((List (S45)) × Bool):=(spec_DiskOk.f k l0_0).bind fun t470 => (if t470 = true then (spec_LoseDisk.l0 k l1 0 l0_0 ([] : List (S45))) else (some (([] : List (S45)),false)))
theorem spec_LoseDisk.mono_l : ∀ k,(∀ y0 y1 y2 y3,LeO (spec_LoseDisk.l0 k y0 y1 y2 y3) (spec_LoseDisk.l0 (k + 1) y0 y1 y2 y3)) ∧ (∀ y0 y1 y2 y3 y4 y5 y6 y7,LeO (spec_LoseDisk.j1 k y0 y1 y2 y3 y4 y5 y6 y7) (spec_LoseDisk.j1 (k + 1) y0 y1 y2 y3 y4 y5 y6 y7))
 | 0 => ⟨fun _ _ _ _ r h => by simp [spec_LoseDisk.l0] at h,fun _ _ _ _ _ _ _ _ r h => by simp [spec_LoseDisk.j1] at h⟩
 | k + 1 => by
  obtain ⟨ih0,ih1⟩:=spec_LoseDisk.mono_l k
  refine ⟨?_,?_⟩
  intro y0 y1 y2 y3;unfold spec_LoseDisk.l0;rotate_left
  intro y0 y1 y2 y3 y4 y5 y6 y7;unfold spec_LoseDisk.j1;rotate_left
  all_goals repeat' first
  | (with_reducible exact ih0 _ _ _ _)
  | (with_reducible exact ih1 _ _ _ _ _ _ _ _)
  | (with_reducible exact spec_DiskOk.mono _ _)
  | (with_reducible exact LeO.refl _)
  | (with_reducible exact LeO.none _)
  | (with_reducible refine LeO.ite ?_ ?_)
  | (with_reducible refine LeO.bind ?_ (fun _ => ?_))
theorem spec_LoseDisk.mono : ∀ a0 a1 k,LeO (spec_LoseDisk.f k a0 a1) (spec_LoseDisk.f (k + 1) a0 a1):=by
 intro a0 a1 k
 obtain ⟨ih0,ih1⟩:=spec_LoseDisk.mono_l k
 unfold spec_LoseDisk.f
 repeat' first
  | (with_reducible exact ih0 _ _ _ _)
  | (with_reducible exact ih1 _ _ _ _ _ _ _ _)
  | (with_reducible exact spec_DiskOk.mono _ _)
  | (with_reducible exact LeO.refl _)
  | (with_reducible exact LeO.none _)
  | (with_reducible refine LeO.ite ?_ ?_)
  | (with_reducible refine LeO.bind ?_ (fun _ => ?_))
def spec_LoseDisk.T15 : Bool × List (List Nat × List Nat):=(true,[([],[]),([0],[0]),([],[]),([2],[2]),([],[]),([4],[4]),([],[]),([5,6],[5,6]),([],[]),([3,7,8],[3,7,8]),([9],[9]),([1,10],[1,10]),([0,1,2,3,4,5,6,7,8,9,10,11],[]),([12,11,11,0,1,2,3,4,5,6,7,8,9,10,11],[11,12])])
def spec_LoseDisk.B15 : List Nat:=[0,1,0,4,0,16,0,112,0,508,1020,2047,4095,8191]
theorem spec_LoseDisk.tab15 : rtab .any (opsOf Try.f29 15) = spec_LoseDisk.T15:=by kernel_rfl
theorem spec_LoseDisk.bits15 : waitsOk spec_LoseDisk.T15.2 spec_LoseDisk.B15 = true:=by kernel_rfl
set_option maxHeartbeats 8000000 in
set_option maxRecDepth 100000 in
theorem spec_LoseDisk.calls (k : Nat) (A0_0 : Option Addr) (c0_0 : Nat) (l0_0 : List (S45)) (A1 : Option Addr) (c1 : Nat) (l1 : List Int) (r1 : List (S45)) (r2 : Bool) (w : World) (hr0_0 : Kd.C k45 w A0_0 l0_0.length l0_0) (hc0_0 : l0_0.length ≤ c0_0) (hr1 : Kd.C (Kd.int .i64) w A1 l1.length l1) (hc1 : l1.length ≤ c1) (h : spec_LoseDisk.f k l0_0 l1 = some (r1,r2)) :
  Calls Try.prog 29 #[.agg #[.slice A0_0 l0_0.length c0_0],.slice A1 l1.length c1] w fun e w' => ∃ v0_ : Value,e = .returned (.tuple #[.agg #[v0_],.bool r2]) ∧ Kd.R k45 45 w' w.heap.size (fun _ => True) v0_ r1 ∧ Below w.heap.size w w':=by
 have hu30:=Try.underlying30
 have hu45:=Try.underlying45
 have HR0_0:=Aside0.mk hr0_0
 have HC0_0:=Aside0.mk hc0_0
 clear hr0_0 hc0_0
 have HR1:=Aside0.mk hr1
 have HC1:=Aside0.mk hc1
 clear hr1 hc1
 have HB:=Aside0.mk (Below.refl w.heap.size w)
 have H : ((spec_DiskOk.f k l0_0).bind fun t470 => (if t470 = true then (spec_LoseDisk.l0 k l1 0 l0_0 ([] : List (S45))) else (some (([] : List (S45)),false)))) = some (r1,r2):=h
 clear h
 obtain ⟨t470,A3,H⟩:=bX0 H
 by_cases c4 : t470 = true
 ·subst c4
  rw [if_pos rfl] at H
  have H':=Aside0.mk H
  clear H
  go_enter Try.func29,Try.ntmps29
  go_wp2_with (first | ((with_reducible refine gate_dst (N:=2) rfl ?_);refine zy0 (cs:=#[.slice A0_0 l0_0.length c0_0]) (t:=30) ?_;intro gb468 hg w5 hbox hb;have BK468:=Aside0.mk hbox;have GW468:=zz0 hg HB;have GE468:=zz0 hg HB;replace HB:=zs0 HB hb;clear hb hbox hg) | ((with_reducible refine gate_dst (N:=4) rfl ?_);refine zy0 (cs:=#[.slice none 0 0]) (t:=30) ?_;intro gb469 hg w6 hbox hb;have BK469:=Aside0.mk hbox;have GW469:=zz0 hg HB;have GE469:=zz0 hg HB;replace HB:=zs0 HB hb;have NB468_469:=zl0 hg BK468;have NB469_468:=zg0 hg BK468;replace BK468:=zb0 BK468 hb;clear hb hbox hg;obtain ⟨_,_⟩:=zn0 NB468_469;obtain ⟨hcz8_0,hfz8_0⟩:=zd01 BK468) | ((with_reducible refine gate_callee (f:=68) rfl ?_);refine goesL_ (some 11) rfl rfl Try.func68 (by kernel_rfl) rfl #[.agg #[.slice A0_0 l0_0.length c0_0]] rfl zM0 ?_;(with_reducible refine (spec_DiskOk.calls k _ _ l0_0 true _ ?side1 ?side2 A3.out).mono ?_);(case side1 => exact zA0 ((Kd.C_below HR0_0.out HB.out)));(case side2 => exact HC0_0.out);rintro e w9 ⟨rfl,hb⟩;refine ⟨_,rfl,?_⟩;replace BK468:=zb0 BK468 hb;replace BK469:=zb0 BK469 hb;replace HB:=zs0 HB hb;(try clear hb)) | ((with_reducible refine gate_dst (N:=6) rfl ?_);refine zy0 (cs:=#[.slice none 0 0]) (t:=30) ?_;intro gb471 hg w10 hbox hb;have BK471:=Aside0.mk hbox;have GW471:=zz0 hg HB;have GE471:=zz0 hg HB;replace HB:=zs0 HB hb;have NB468_471:=zl0 hg BK468;have NB471_468:=zg0 hg BK468;replace BK468:=zb0 BK468 hb;have NB469_471:=zl0 hg BK469;have NB471_469:=zg0 hg BK469;replace BK469:=zb0 BK469 hb;clear hb hbox hg;obtain ⟨_,_⟩:=zn0 NB471_468;obtain ⟨_,_⟩:=zn0 NB471_469;obtain ⟨hcz13_0,hfz13_0⟩:=zd01 BK471))
  go_loopg [7] k (fun kq v7 w' => ∃ (x7_1 : Int) (x472000_1 : List (S45)) (u472000 : Value),v7 = .int .i64 x7_1 ∧ Aside0 (spec_LoseDisk.l0 kq l1 x7_1 l0_0 x472000_1 = some (r1,r2)) ∧ Aside0 (kq ≤ k) ∧ Aside0 (Kd.R k45 45 w' w.heap.size (fun _ => True) u472000 x472000_1) ∧ Aside0 (w'.heap[gb468]? = some (.cells #[(.slice A0_0 l0_0.length c0_0)] 30 (0,0))) ∧ Aside0 (w'.heap[gb469]? = some (.cells #[(.slice none 0 0)] 30 (0,0))) ∧ Aside0 (w'.heap[gb471]? = some (.cells #[u472000] 30 (0,0))) ∧ Aside0 (Below w.heap.size w w'))
  case atStart => exact ⟨(0),(([] : List (S45))),(.slice none 0 0),zE0,H',⟨Nat.le_refl _⟩,⟨by first | exact Kd.R_nil _ _ _ _ _ | exact Kd.N_nil _ _ _ _ _ | exact Kd.V_nil _ _ _ _ _ | exact Kd.Q_nil _ _ _ _ _ | exact Kd.S_nil _ _ _ _ _⟩,⟨zK0 BK468.out⟩,⟨zK0 BK469.out⟩,⟨by refine zT0 ?_;refine blk_put (cs:=#[.slice none 0 0]) ?_ 0 _ rfl;exact zK0 BK471.out⟩,⟨zY0 HB.out⟩⟩
  case round =>
   clear H'
   try clear c4
   try clear hcz13_0
   try clear hcz8_0
   try clear hfz13_0
   try clear hfz8_0
   obtain ⟨x7_1,x472000_1,u472000,rfl,HA,HK1,HO_472000,BK468,BK469,BK471,HB⟩:=hrel
   cases gk with
   | zero => exact absurd HA.out (by simp [spec_LoseDisk.l0])
   | succ k1 =>
    have H:=HA.out
    clear HA
    simp only [spec_LoseDisk.l0] at H
    by_cases c14 : x7_1 < (l0_0.length : Int)
    ·rw [if_pos c14] at H
     have c14b0 : decide (x7_1 < (l0_0.length : Int)) = true:=decide_eq_true c14
     clear c14
     by_cases c15 : 0 ≤ x7_1
     ·rw [if_pos c15] at H
      have c15b0 : decide (0 ≤ x7_1) = true:=decide_eq_true c15
      clear c15
      have HC16:=Aside0.mk H
      clear H
      obtain ⟨_,_⟩:=zn0 NB468_469
      obtain ⟨_,_⟩:=zn0 NB468_471
      have hcz19_0 : wr.cell? ⟨gb468,0,none⟩ = some (.slice A0_0 l0_0.length c0_0):=zc00 BK468
      have hfz19_0:=blk_frozen BK468.out 0
      have p472 : 0 ≤ (x7_1 : Int):=zD0
      have q472 : x7_1 < (l0_0.length : Int):=zD0
      obtain ⟨ad472,e472,hx472_0,hx472_1,hx472_2⟩:=at_T45 HR0_0.out x7_1 p472 q472
      cases e472
      replace hx472_0:=zx0 HB hx472_0
      replace hx472_1:=zx0 HB hx472_1
      replace hx472_2:=zx0 HB hx472_2
      replace p472:=eq_true p472
      replace q472:=eq_true q472
      go_upto_if 30 with (first | ((with_reducible refine gate_dst (N:=8) rfl ?_);refine zy0 (cs:=#[.string (⟨#[]⟩ : ByteArray),.string (⟨#[]⟩ : ByteArray),.int .i64 0]) (t:=45) ?_;intro gb473 hg w20 hbox hb;replace HO_472000:=Aside0.mk (Kd.R_below (Kd.R_elderB (zR0 HO_472000.out) gb473 (Nat.le_of_eq hg.symm)) hb);have BK473:=Aside0.mk hbox;have GW473:=zz0 hg HB;have GE473:=zz0 hg HB;replace HB:=zs0 HB hb;have NB468_473:=zl0 hg BK468;have NB473_468:=zg0 hg BK468;replace BK468:=zb0 BK468 hb;have NB469_473:=zl0 hg BK469;have NB473_469:=zg0 hg BK469;replace BK469:=zb0 BK469 hb;have NB471_473:=zl0 hg BK471;have NB473_471:=zg0 hg BK471;replace BK471:=zb0 BK471 hb;clear hb hbox hg;obtain ⟨_,_⟩:=zn0 NB473_468;obtain ⟨_,_⟩:=zn0 NB473_469;obtain ⟨_,_⟩:=zn0 NB473_471;obtain ⟨hcz24_0,hcz24_1,hcz24_2,hfz24_0,hfz24_1,hfz24_2⟩:=zd03 BK473))
      (try simp only [Act.put,qA0,qB0,qC0])
      go_cut [9] (fun v9 wc => ∃ (kq : Nat) (x9_15 : Int),v9 = .int .i64 x9_15 ∧ Aside0 (spec_LoseDisk.j1 kq l1 x7_1 x9_15 l0_0 x472000_1 ((rd_T45 l0_0 x7_1).f0) ((rd_T45 l0_0 x7_1).f1) ((rd_T45 l0_0 x7_1).f2) = some (r1,r2)) ∧ Aside0 (kq ≤ k1) ∧ Aside0 (Kd.R k45 45 wc w.heap.size (fun k_ => k_ ≠ gb473) u472000 x472000_1) ∧ Aside0 (wc.heap[gb468]? = some (.cells #[(.slice (some ad472) l0_0.length c0_0)] 30 (0,0))) ∧ Aside0 (wc.heap[gb469]? = some (.cells #[(.slice none 0 0)] 30 (0,0))) ∧ Aside0 (wc.heap[gb471]? = some (.cells #[u472000] 30 (0,0))) ∧ Aside0 (wc.heap[gb473]? = some (.cells #[.string ((rd_T45 l0_0 x7_1).f0),.string ((rd_T45 l0_0 x7_1).f1),.int .i64 ((rd_T45 l0_0 x7_1).f2)] 45 (0,0))) ∧ Aside0 (Below w.heap.size w wc))
      case first =>
       have H:=HC16.out
       clear HC16
       by_cases c25 : x7_1 < (l1.length : Int)
       ·rw [if_pos c25] at H
        have c25b0 : decide (x7_1 < (l1.length : Int)) = true:=decide_eq_true c25
        clear c25
        (first | rw [c25b0] | (simp only [i64_w,i32_w];rw [c25b0]) | skip)
        have H':=Aside0.mk H
        clear H
        have p474 : 0 ≤ (x7_1 : Int):=zD0
        have q474 : x7_1 < (l1.length : Int):=zD0
        obtain ⟨ad474,e474,hx474_0⟩:=Kd.at_int HR1.out x7_1 p474 q474
        cases e474
        have hn474_0 : ad474.block ≠ gb473:=Nat.ne_of_lt (Nat.lt_of_lt_of_le (by have:=World.block_lt_of_cell? _ _ hx474_0;first | rwa [add_block] at this | exact this) GW473.out)
        have hn474_1 : ad474.block ≠ gb473:=Nat.ne_of_lt (Nat.lt_of_lt_of_le (by have:=World.block_lt_of_cell? _ _ hx474_0;first | rwa [add_block] at this | exact this) GW473.out)
        have hn474_2 : ad474.block ≠ gb473:=Nat.ne_of_lt (Nat.lt_of_lt_of_le (by have:=World.block_lt_of_cell? _ _ hx474_0;first | rwa [add_block] at this | exact this) GW473.out)
        replace hx474_0:=zx0 HB hx474_0
        replace hx474_0:=(cell_far (p:=⟨gb473,0,none⟩) (by first | (rw [add_block];exact hn474_0) | (show (Addr.add _ _).block ≠ _;rw [add_block];exact hn474_0) | exact hn474_0) (.string ((rd_T45 l0_0 x7_1).f0))).trans hx474_0
        replace hx474_0:=(cell_far (p:=⟨gb473,1,none⟩) (by first | (rw [add_block];exact hn474_1) | (show (Addr.add _ _).block ≠ _;rw [add_block];exact hn474_1) | exact hn474_1) (.string ((rd_T45 l0_0 x7_1).f1))).trans hx474_0
        replace hx474_0:=(cell_far (p:=⟨gb473,2,none⟩) (by first | (rw [add_block];exact hn474_2) | (show (Addr.add _ _).block ≠ _;rw [add_block];exact hn474_2) | exact hn474_2) (.int .i64 ((rd_T45 l0_0 x7_1).f2))).trans hx474_0
        clear hn474_0 hn474_1 hn474_2
        replace p474:=eq_true p474
        replace q474:=eq_true q474
        go_wp2
        go_meet
        case rel => exact ⟨_,(rd l1 x7_1),zE0,H',⟨by have:=HK1.out;first | omega | exact Nat.le_refl _⟩,⟨by refine zV0 ?_;exact Kd.R_mono (Kd.R_far (p:=⟨gb473,2,none⟩) (Kd.R_far (p:=⟨gb473,1,none⟩) (Kd.R_far (p:=⟨gb473,0,none⟩) (Kd.R_mono HO_472000.out (fun k_ hk => (⟨hk,hk.2⟩ : _ ∧ k_ ≠ gb473))) (fun _ hk => hk.2) (.string ((rd_T45 l0_0 x7_1).f0))) (fun _ hk => hk.2) (.string ((rd_T45 l0_0 x7_1).f1))) (fun _ hk => hk.2) (.int .i64 ((rd_T45 l0_0 x7_1).f2))) (fun _ hk => hk.1.2)⟩,⟨zK0 BK468.out⟩,⟨zK0 BK469.out⟩,⟨zK0 BK471.out⟩,⟨by refine zT0 ?_;refine blk_put (cs:=#[.string ((rd_T45 l0_0 x7_1).f0),.string ((rd_T45 l0_0 x7_1).f1),.int .i64 0]) ?_ 2 _ rfl;refine zT0 ?_;refine blk_put (cs:=#[.string ((rd_T45 l0_0 x7_1).f0),.string (⟨#[]⟩ : ByteArray),.int .i64 0]) ?_ 1 _ rfl;refine zT0 ?_;refine blk_put (cs:=#[.string (⟨#[]⟩ : ByteArray),.string (⟨#[]⟩ : ByteArray),.int .i64 0]) ?_ 0 _ rfl;exact zK0 BK473.out⟩,⟨zY0 HB.out⟩⟩
       ·rw [if_neg c25] at H
        have c25b0 : decide (x7_1 < (l1.length : Int)) = false:=decide_eq_false c25
        clear c25
        (first | rw [c25b0] | (simp only [i64_w,i32_w];rw [c25b0]) | skip)
        have H':=Aside0.mk H
        clear H
        go_wp2
        go_meet
        case rel => exact ⟨_,(0),zE0,H',⟨by have:=HK1.out;first | omega | exact Nat.le_refl _⟩,⟨by refine zV0 ?_;exact Kd.R_mono (Kd.R_far (p:=⟨gb473,2,none⟩) (Kd.R_far (p:=⟨gb473,1,none⟩) (Kd.R_far (p:=⟨gb473,0,none⟩) (Kd.R_mono HO_472000.out (fun k_ hk => (⟨hk,hk.2⟩ : _ ∧ k_ ≠ gb473))) (fun _ hk => hk.2) (.string ((rd_T45 l0_0 x7_1).f0))) (fun _ hk => hk.2) (.string ((rd_T45 l0_0 x7_1).f1))) (fun _ hk => hk.2) (.int .i64 ((rd_T45 l0_0 x7_1).f2))) (fun _ hk => hk.1.2)⟩,⟨zK0 BK468.out⟩,⟨zK0 BK469.out⟩,⟨zK0 BK471.out⟩,⟨by refine zT0 ?_;refine blk_put (cs:=#[.string ((rd_T45 l0_0 x7_1).f0),.string ((rd_T45 l0_0 x7_1).f1),.int .i64 0]) ?_ 2 _ rfl;refine zT0 ?_;refine blk_put (cs:=#[.string ((rd_T45 l0_0 x7_1).f0),.string (⟨#[]⟩ : ByteArray),.int .i64 0]) ?_ 1 _ rfl;refine zT0 ?_;refine blk_put (cs:=#[.string (⟨#[]⟩ : ByteArray),.string (⟨#[]⟩ : ByteArray),.int .i64 0]) ?_ 0 _ rfl;exact zK0 BK473.out⟩,⟨zY0 HB.out⟩⟩
      case rest =>
       clear HC16
       try clear c4
       try clear c14
       try clear c14b0
       try clear c15
       try clear c15b0
       try clear hcz13_0
       try clear hcz19_0
       try clear hcz24_0
       try clear hcz24_1
       try clear hcz24_2
       try clear hcz8_0
       try clear hfz13_0
       try clear hfz19_0
       try clear hfz24_0
       try clear hfz24_1
       try clear hfz24_2
       try clear hfz8_0
       try clear hx472_0
       try clear hx472_1
       try clear hx472_2
       try clear p472
       try clear q472
       obtain ⟨kq,x9_15,rfl,HA,HJ15,HO_472000,BK468,BK469,BK471,BK473,HB⟩:=hcut
       cases kq with
       | zero => exact absurd HA.out (by simp [spec_LoseDisk.j1])
       | succ kj15 =>
        have H:=HA.out
        clear HA
        simp only [spec_LoseDisk.j1] at H
        by_cases c26 : x9_15 > (((rd_T45 l0_0 x7_1).f1).size : Int)
        ·rw [if_pos c26] at H
         have c26b0 : decide ((((rd_T45 l0_0 x7_1).f1).size : Int) < x9_15) = true:=decide_eq_true c26
         clear c26
         by_cases c27 : (((rd_T45 l0_0 x7_1).f1).size : Int) < ((rd_T45 l0_0 x7_1).f2)
         ·rw [if_pos c27] at H
          have c27b0 : decide ((((rd_T45 l0_0 x7_1).f1).size : Int) < ((rd_T45 l0_0 x7_1).f2)) = true:=decide_eq_true c27
          clear c27
          by_cases c28 : 0 ≤ ((rd_T45 l0_0 x7_1).f2)
          ·rw [if_pos c28] at H
           have c28b0:=eq_true c28
           have c28b1 : decide (0 ≤ ((rd_T45 l0_0 x7_1).f2)) = true:=decide_eq_true c28
           clear c28
           by_cases c29 : ((rd_T45 l0_0 x7_1).f2) ≤ (((rd_T45 l0_0 x7_1).f1).size : Int)
           ·rw [if_pos c29] at H
            have c29b0:=eq_true c29
            have c29b1 : decide (((rd_T45 l0_0 x7_1).f2) ≤ (((rd_T45 l0_0 x7_1).f1).size : Int)) = true:=decide_eq_true c29
            clear c29
            by_cases c30 : x472000_1.length < 3518437208883
            ·rw [if_pos c30] at H
             have LMc30:=Aside0.mk c30
             clear c30
             obtain ⟨y475,hy475⟩ : ∃ y_ : List (S45),y_ = (x472000_1 ++ [(⟨((rd_T45 l0_0 x7_1).f0),((rd_T45 l0_0 x7_1).f1).extract 0 (((rd_T45 l0_0 x7_1).f2) : Int).toNat,((rd_T45 l0_0 x7_1).f2)⟩ : S45)]):=⟨_,rfl⟩
             replace H : (spec_LoseDisk.l0 kj15 l1 (wrap64 (x7_1 + 1)) l0_0 y475) = some (r1,r2):=by first | (rw [hy475];with_reducible exact H) | (have H2_:=(Option.bind_some _ _).symm.trans H;rw [hy475];with_reducible exact H2_) | (have H2_:=(Option.bind_some _ _).symm.trans H;with_reducible exact H2_) | with_reducible exact H | (rw [hy475];exact H) | exact H
             have Ny475:=Aside0.mk hy475
             clear hy475
             have H':=Aside0.mk H
             clear H
             obtain ⟨_,_⟩:=zn0 NB473_468
             obtain ⟨_,_⟩:=zn0 NB473_469
             obtain ⟨_,_⟩:=zn0 NB473_471
             have hcz34_0 : wc.cell? ⟨gb473,0,none⟩ = some (.string ((rd_T45 l0_0 x7_1).f0)):=zc00 BK473
             have hcz34_1 : wc.cell? ⟨gb473,1,none⟩ = some (.string ((rd_T45 l0_0 x7_1).f1)):=zc01 BK473
             have hcz34_2 : wc.cell? ⟨gb473,2,none⟩ = some (.int .i64 ((rd_T45 l0_0 x7_1).f2)):=zc02 BK473
             have hfz34_0:=blk_frozen BK473.out 0
             have hfz34_1:=blk_frozen BK473.out 1
             have hfz34_2:=blk_frozen BK473.out 2
             try go_wp2
             replace HO_472000:=Aside0.mk (Kd.R_drew HO_472000.out)
             replace BK468:=Aside0.mk (blk_drew BK468.out)
             replace BK469:=Aside0.mk (blk_drew BK469.out)
             replace BK471:=Aside0.mk (blk_drew BK471.out)
             replace BK473:=Aside0.mk (blk_drew BK473.out)
             replace HB:=Aside0.mk (below_drew1 HB.out)
             refine start_ (n:=14) (S:=fun w' => w'.cell? ⟨gb471,0,none⟩ = some (u472000) ∧ w'.cell? ⟨gb473,0,none⟩ = some (.string ((rd_T45 l0_0 x7_1).f0)) ∧ w'.cell? ⟨gb473,1,none⟩ = some (.string ((rd_T45 l0_0 x7_1).f1)) ∧ w'.cell? ⟨gb473,2,none⟩ = some (.int .i64 ((rd_T45 l0_0 x7_1).f2))) (ds:=[13]) (zF0 14 0) (by kernel_rfl) rfl rfl ⟨zc00 BK471,zc00 BK473,zc01 BK473,zc02 BK473⟩ (fun hHeld => ?_);refine with_tabW spec_LoseDisk.tab15 spec_LoseDisk.bits15 (fun HT_ HW_ => ?_)
             generalize wc.drew = w35 at HO_472000 BK468 BK469 BK471 BK473 HB hHeld ⊢
             refine zp0 0 49 14 1 HT_ ?_
             refine zp0 2 51 14 5 HT_ ?_
             refine zp0 4 53 14 21 HT_ ?_
             refine zp0 6 55 14 85 HT_ ?_
             refine zp0 8 57 14 341 HT_ ?_
             refine zt0 1 50 14 343 HT_ HW_ hHeld ?_
             refine zt0 3 52 14 351 HT_ HW_ hHeld ?_
             refine zt0 5 54 14 383 HT_ HW_ hHeld ?_
             refine zp0 7 56 14 511 HT_ ?_
             refine zp0 9 58 14 1023 HT_ ?_
             refine one_ (i:=10) (N:=some 59) (zF0 14 2047) rfl rfl (one_of HT_.out (by kernel_rfl)) (by decide) (fun K hK => ?_)
             refine value_ (w1:=?_) (v:=?_) (by rfl) rfl ?_ ?_
             rotate_left 2
             ·go_simp
              constructor
              ·rfl
              ·rfl
             refine hK.out _ _ ⟨(blk_cell (blk_alloc BK471.out _) 0).trans rfl,(blk_cell (blk_alloc BK473.out _) 0).trans rfl,(blk_cell (blk_alloc BK473.out _) 1).trans rfl,(blk_cell (blk_alloc BK473.out _) 2).trans rfl⟩ (fun hHeld => ?_)
             clear hK K
             refine norm_ (a':=?_) ?_ ?_;rotate_left
             ·show Act.put _ (some 59) _ = _;simp only [Act.put,qA0,qB0,qC0,i64_w,i32_w];rfl
             refine one_ (i:=11) (N:=some 60) (zF0 14 4095) rfl rfl (one_of HT_.out (by kernel_rfl)) (by decide) (fun K hK => ?_)
             refine Kd.R_append_step k45 (w0:=w) w.heap.size (by rfl) (.tmp 50) (.tmp 59) 28 45 (.agg #[(.string ⟨#[]⟩),(.string ⟨#[]⟩),(.int .i64 0)]) 40 rfl Try.underlying28 info45 rfl (by decide) (by omega) u472000 x472000_1 (⟨((rd_T45 l0_0 x7_1).f0),((rd_T45 l0_0 x7_1).f1).extract 0 (((rd_T45 l0_0 x7_1).f2) : Int).toNat,((rd_T45 l0_0 x7_1).f2)⟩ : S45) [.string ((rd_T45 l0_0 x7_1).f0),.string (((rd_T45 l0_0 x7_1).f1).extract 0 (((rd_T45 l0_0 x7_1).f2) : Int).toNat),.int .i64 ((rd_T45 l0_0 x7_1).f2)] (fun k_ => k_ ≠ gb473) (fun _ => False) rfl rfl ?aP (fun _ hk => hk.elim) ?aF ?aO ?aB ?aS ?aL ?_
             (case aP => exact k45_mkM _ _ _ (⟨((rd_T45 l0_0 x7_1).f0),((rd_T45 l0_0 x7_1).f1).extract 0 (((rd_T45 l0_0 x7_1).f2) : Int).toNat,((rd_T45 l0_0 x7_1).f2)⟩ : S45))
             (case aB => exact (zY0 HB.out))
             (case aF => exact (fun k_ hk => Kd.freshB (g:=gb473) (o:=.cells #[.string ((rd_T45 l0_0 x7_1).f0),.string ((rd_T45 l0_0 x7_1).f1),.int .i64 ((rd_T45 l0_0 x7_1).f2)] 45 (0,0)) (zK0 BK473.out) k_ hk))
             (case aO => exact (zR0 HO_472000.out))
             (case aS => exact (zZ0 HB.out))
             (case aL => have:=LMc30.out;omega)
             intro v476 w36 ho hb hg hat
             rw [← Ny475.out] at ho
             replace BK468:=Aside0.mk (blk_grown (g:=gb468) (o:=.cells #[.slice (some ad472) l0_0.length c0_0] 30 (0,0)) (zK0 BK468.out) hg (Kd.R_ne HO_472000.out BK468.out (by decide)))
             replace BK469:=Aside0.mk (blk_grown (g:=gb469) (o:=.cells #[.slice none 0 0] 30 (0,0)) (zK0 BK469.out) hg (Kd.R_ne HO_472000.out BK469.out (by decide)))
             replace BK471:=Aside0.mk (blk_grown (g:=gb471) (o:=.cells #[u472000] 30 (0,0)) (zK0 BK471.out) hg (Kd.R_ne HO_472000.out BK471.out (by decide)))
             replace BK473:=Aside0.mk (blk_grown (g:=gb473) (o:=.cells #[.string ((rd_T45 l0_0 x7_1).f0),.string ((rd_T45 l0_0 x7_1).f1),.int .i64 ((rd_T45 l0_0 x7_1).f2)] 45 (0,0)) (zK0 BK473.out) hg (Kd.R_away HO_472000.out (fun _ hk => hk)))
             replace HB:=Aside0.mk hb
             have HO477:=Aside0.mk ho
             clear HO_472000
             clear ho hb hg hat
             obtain ⟨Ao37,co37,eo37⟩:=Kd.R_slice HO477.out
             (first | subst eo37 | (injection eo37 with f1_ f2_ f3_;have f4_:=f1_.symm;have f5_:=f3_.symm;clear f1_ f2_ f3_;subst f4_;subst f5_))
             refine hK.out _ _ ⟨zc00 BK471,zc00 BK473,zc01 BK473,zc02 BK473⟩ (fun hHeld => ?_)
             clear hK K
             refine norm_ (a':=?_) ?_ ?_;rotate_left
             ·show Act.put _ (some 60) _ = _;simp only [Act.put,qA0,qB0,qC0,i64_w,i32_w];rfl
             refine zp0 12 61 14 8191 HT_ ?_
             refine last_ (i:=13) (N:=none) (zF0 14 16383) rfl rfl (one_of HT_.out (by kernel_rfl)) (by decide) (fun K hK => ?_)
             have hs38 : w36.cell? ⟨gb471,0,none⟩ = some (u472000):=zc00 BK471
             have hfs38:=blk_frozen BK471.out 0
             have hns38_0:=NB468_471.out
             have hns38_1:=NB469_471.out
             have hns38_3:=NB473_471.out
             have hms38_0:=NB471_468.out
             have hms38_1:=NB471_469.out
             have hms38_3:=NB471_473.out
             refine skip_ (w1:=?_) (by rfl) rfl ?_ ?_;rotate_left
             ·go_simp
              rfl
             refine hK.out _ _ ?_
             clear hK K
             refine done_ (done_of HT_.out (by kernel_rfl)) ?_
             try go_wp2
             go_roundg kj15
             case measure => have:=HK1.out;have:=HJ15.out;omega
             case rel => exact ⟨(wrap64 (x7_1 + 1)),(y475),(.slice Ao37 y475.length co37),zE0,H',⟨by have:=HK1.out;have:=HJ15.out;omega⟩,⟨by refine zV0 ?_;exact Kd.R_mono (Kd.R_far (p:=⟨gb471,0,none⟩) (Kd.R_types HO477.out BK471.out (by decide)) (fun _ hk => hk.2) (.slice Ao37 y475.length co37)) (fun _ hk => trivial)⟩,⟨zK0 BK468.out⟩,⟨zK0 BK469.out⟩,⟨by refine zT0 ?_;refine blk_put (cs:=#[u472000]) ?_ 0 _ rfl;exact zK0 BK471.out⟩,⟨zY0 HB.out⟩⟩
            ·rw [if_neg c30] at H
             exact absurd H (by simp)
           ·rw [if_neg c29] at H
            exact absurd H (by simp)
          ·rw [if_neg c28] at H
           exact absurd H (by simp)
         ·rw [if_neg c27] at H
          have c27b0 : decide ((((rd_T45 l0_0 x7_1).f1).size : Int) < ((rd_T45 l0_0 x7_1).f2)) = false:=decide_eq_false c27
          clear c27
          by_cases c39 : 0 ≤ (((rd_T45 l0_0 x7_1).f1).size : Int)
          ·rw [if_pos c39] at H
           have c39b0:=eq_true c39
           have c39b1 : decide (0 ≤ (((rd_T45 l0_0 x7_1).f1).size : Int)) = true:=decide_eq_true c39
           clear c39
           by_cases c40 : (((rd_T45 l0_0 x7_1).f1).size : Int) ≤ (((rd_T45 l0_0 x7_1).f1).size : Int)
           ·rw [if_pos c40] at H
            have c40b0:=eq_true c40
            have c40b1 : decide ((((rd_T45 l0_0 x7_1).f1).size : Int) ≤ (((rd_T45 l0_0 x7_1).f1).size : Int)) = true:=decide_eq_true c40
            clear c40
            by_cases c41 : x472000_1.length < 3518437208883
            ·rw [if_pos c41] at H
             have LMc41:=Aside0.mk c41
             clear c41
             have hex_ : ((rd_T45 l0_0 x7_1).f1).extract 0 ((((rd_T45 l0_0 x7_1).f1).size : Int) : Int).toNat = (rd_T45 l0_0 x7_1).f1:=by rw [Int.toNat_natCast];simp
             rw [hex_] at H
             obtain ⟨y478,hy478⟩ : ∃ y_ : List (S45),y_ = (x472000_1 ++ [(⟨((rd_T45 l0_0 x7_1).f0),(rd_T45 l0_0 x7_1).f1,(((rd_T45 l0_0 x7_1).f1).size : Int)⟩ : S45)]):=⟨_,rfl⟩
             replace H : (spec_LoseDisk.l0 kj15 l1 (wrap64 (x7_1 + 1)) l0_0 y478) = some (r1,r2):=by first | (rw [hy478];with_reducible exact H) | (have H2_:=(Option.bind_some _ _).symm.trans H;rw [hy478];with_reducible exact H2_) | (have H2_:=(Option.bind_some _ _).symm.trans H;with_reducible exact H2_) | with_reducible exact H | (rw [hy478];exact H) | exact H
             have Ny478:=Aside0.mk hy478
             clear hy478
             have H':=Aside0.mk H
             clear H
             obtain ⟨_,_⟩:=zn0 NB473_468
             obtain ⟨_,_⟩:=zn0 NB473_469
             obtain ⟨_,_⟩:=zn0 NB473_471
             have hcz45_0 : wc.cell? ⟨gb473,0,none⟩ = some (.string ((rd_T45 l0_0 x7_1).f0)):=zc00 BK473
             have hcz45_1 : wc.cell? ⟨gb473,1,none⟩ = some (.string ((rd_T45 l0_0 x7_1).f1)):=zc01 BK473
             have hcz45_2 : wc.cell? ⟨gb473,2,none⟩ = some (.int .i64 ((rd_T45 l0_0 x7_1).f2)):=zc02 BK473
             have hfz45_0:=blk_frozen BK473.out 0
             have hfz45_1:=blk_frozen BK473.out 1
             have hfz45_2:=blk_frozen BK473.out 2
             try go_wp2
             replace HO_472000:=Aside0.mk (Kd.R_drew HO_472000.out)
             replace BK468:=Aside0.mk (blk_drew BK468.out)
             replace BK469:=Aside0.mk (blk_drew BK469.out)
             replace BK471:=Aside0.mk (blk_drew BK471.out)
             replace BK473:=Aside0.mk (blk_drew BK473.out)
             replace HB:=Aside0.mk (below_drew1 HB.out)
             refine start_ (n:=14) (S:=fun w' => w'.cell? ⟨gb471,0,none⟩ = some (u472000) ∧ w'.cell? ⟨gb473,0,none⟩ = some (.string ((rd_T45 l0_0 x7_1).f0)) ∧ w'.cell? ⟨gb473,1,none⟩ = some (.string ((rd_T45 l0_0 x7_1).f1)) ∧ w'.cell? ⟨gb473,2,none⟩ = some (.int .i64 ((rd_T45 l0_0 x7_1).f2))) (ds:=[13]) (zF0 14 0) (by kernel_rfl) rfl rfl ⟨zc00 BK471,zc00 BK473,zc01 BK473,zc02 BK473⟩ (fun hHeld => ?_);refine with_tabW spec_LoseDisk.tab15 spec_LoseDisk.bits15 (fun HT_ HW_ => ?_)
             generalize wc.drew = w46 at HO_472000 BK468 BK469 BK471 BK473 HB hHeld ⊢
             refine zp0 0 49 14 1 HT_ ?_
             refine zp0 2 51 14 5 HT_ ?_
             refine zp0 4 53 14 21 HT_ ?_
             refine zp0 6 55 14 85 HT_ ?_
             refine zp0 8 57 14 341 HT_ ?_
             refine zt0 1 50 14 343 HT_ HW_ hHeld ?_
             refine zt0 3 52 14 351 HT_ HW_ hHeld ?_
             refine zt0 5 54 14 383 HT_ HW_ hHeld ?_
             refine zp0 7 56 14 511 HT_ ?_
             refine zp0 9 58 14 1023 HT_ ?_
             refine one_ (i:=10) (N:=some 59) (zF0 14 2047) rfl rfl (one_of HT_.out (by kernel_rfl)) (by decide) (fun K hK => ?_)
             refine value_ (w1:=?_) (v:=?_) (by rfl) rfl ?_ ?_
             rotate_left 2
             ·go_simp
              constructor
              ·rfl
              ·rfl
             refine hK.out _ _ ⟨(blk_cell (blk_alloc BK471.out _) 0).trans rfl,(blk_cell (blk_alloc BK473.out _) 0).trans rfl,(blk_cell (blk_alloc BK473.out _) 1).trans rfl,(blk_cell (blk_alloc BK473.out _) 2).trans rfl⟩ (fun hHeld => ?_)
             clear hK K
             refine norm_ (a':=?_) ?_ ?_;rotate_left
             ·show Act.put _ (some 59) _ = _;simp only [Act.put,qA0,qB0,qC0,i64_w,i32_w];rfl
             refine one_ (i:=11) (N:=some 60) (zF0 14 4095) rfl rfl (one_of HT_.out (by kernel_rfl)) (by decide) (fun K hK => ?_)
             refine Kd.R_append_step k45 (w0:=w) w.heap.size (by rfl) (.tmp 50) (.tmp 59) 28 45 (.agg #[(.string ⟨#[]⟩),(.string ⟨#[]⟩),(.int .i64 0)]) 40 rfl Try.underlying28 info45 rfl (by decide) (by omega) u472000 x472000_1 (⟨((rd_T45 l0_0 x7_1).f0),(rd_T45 l0_0 x7_1).f1,(((rd_T45 l0_0 x7_1).f1).size : Int)⟩ : S45) [.string ((rd_T45 l0_0 x7_1).f0),.string ((rd_T45 l0_0 x7_1).f1),.int .i64 (((rd_T45 l0_0 x7_1).f1).size : Int)] (fun k_ => k_ ≠ gb473) (fun _ => False) rfl rfl ?aP (fun _ hk => hk.elim) ?aF ?aO ?aB ?aS ?aL ?_
             (case aP => exact k45_mkM _ _ _ (⟨((rd_T45 l0_0 x7_1).f0),(rd_T45 l0_0 x7_1).f1,(((rd_T45 l0_0 x7_1).f1).size : Int)⟩ : S45))
             (case aB => exact (zY0 HB.out))
             (case aF => exact (fun k_ hk => Kd.freshB (g:=gb473) (o:=.cells #[.string ((rd_T45 l0_0 x7_1).f0),.string ((rd_T45 l0_0 x7_1).f1),.int .i64 ((rd_T45 l0_0 x7_1).f2)] 45 (0,0)) (zK0 BK473.out) k_ hk))
             (case aO => exact (zR0 HO_472000.out))
             (case aS => exact (zZ0 HB.out))
             (case aL => have:=LMc41.out;omega)
             intro v479 w47 ho hb hg hat
             rw [← Ny478.out] at ho
             replace BK468:=Aside0.mk (blk_grown (g:=gb468) (o:=.cells #[.slice (some ad472) l0_0.length c0_0] 30 (0,0)) (zK0 BK468.out) hg (Kd.R_ne HO_472000.out BK468.out (by decide)))
             replace BK469:=Aside0.mk (blk_grown (g:=gb469) (o:=.cells #[.slice none 0 0] 30 (0,0)) (zK0 BK469.out) hg (Kd.R_ne HO_472000.out BK469.out (by decide)))
             replace BK471:=Aside0.mk (blk_grown (g:=gb471) (o:=.cells #[u472000] 30 (0,0)) (zK0 BK471.out) hg (Kd.R_ne HO_472000.out BK471.out (by decide)))
             replace BK473:=Aside0.mk (blk_grown (g:=gb473) (o:=.cells #[.string ((rd_T45 l0_0 x7_1).f0),.string ((rd_T45 l0_0 x7_1).f1),.int .i64 ((rd_T45 l0_0 x7_1).f2)] 45 (0,0)) (zK0 BK473.out) hg (Kd.R_away HO_472000.out (fun _ hk => hk)))
             replace HB:=Aside0.mk hb
             have HO480:=Aside0.mk ho
             clear HO_472000
             clear ho hb hg hat
             obtain ⟨Ao48,co48,eo48⟩:=Kd.R_slice HO480.out
             (first | subst eo48 | (injection eo48 with f1_ f2_ f3_;have f4_:=f1_.symm;have f5_:=f3_.symm;clear f1_ f2_ f3_;subst f4_;subst f5_))
             refine hK.out _ _ ⟨zc00 BK471,zc00 BK473,zc01 BK473,zc02 BK473⟩ (fun hHeld => ?_)
             clear hK K
             refine norm_ (a':=?_) ?_ ?_;rotate_left
             ·show Act.put _ (some 60) _ = _;simp only [Act.put,qA0,qB0,qC0,i64_w,i32_w];rfl
             refine zp0 12 61 14 8191 HT_ ?_
             refine last_ (i:=13) (N:=none) (zF0 14 16383) rfl rfl (one_of HT_.out (by kernel_rfl)) (by decide) (fun K hK => ?_)
             have hs49 : w47.cell? ⟨gb471,0,none⟩ = some (u472000):=zc00 BK471
             have hfs49:=blk_frozen BK471.out 0
             have hns49_0:=NB468_471.out
             have hns49_1:=NB469_471.out
             have hns49_3:=NB473_471.out
             have hms49_0:=NB471_468.out
             have hms49_1:=NB471_469.out
             have hms49_3:=NB471_473.out
             refine skip_ (w1:=?_) (by rfl) rfl ?_ ?_;rotate_left
             ·go_simp
              rfl
             refine hK.out _ _ ?_
             clear hK K
             refine done_ (done_of HT_.out (by kernel_rfl)) ?_
             try go_wp2
             go_roundg kj15
             case measure => have:=HK1.out;have:=HJ15.out;omega
             case rel => exact ⟨(wrap64 (x7_1 + 1)),(y478),(.slice Ao48 y478.length co48),zE0,H',⟨by have:=HK1.out;have:=HJ15.out;omega⟩,⟨by refine zV0 ?_;exact Kd.R_mono (Kd.R_far (p:=⟨gb471,0,none⟩) (Kd.R_types HO480.out BK471.out (by decide)) (fun _ hk => hk.2) (.slice Ao48 y478.length co48)) (fun _ hk => trivial)⟩,⟨zK0 BK468.out⟩,⟨zK0 BK469.out⟩,⟨by refine zT0 ?_;refine blk_put (cs:=#[u472000]) ?_ 0 _ rfl;exact zK0 BK471.out⟩,⟨zY0 HB.out⟩⟩
            ·rw [if_neg c41] at H
             exact absurd H (by simp)
           ·rw [if_neg c40] at H
            exact absurd H (by simp)
          ·rw [if_neg c39] at H
           exact absurd H (by simp)
        ·rw [if_neg c26] at H
         have c26b0 : decide ((((rd_T45 l0_0 x7_1).f1).size : Int) < x9_15) = false:=decide_eq_false c26
         clear c26
         by_cases c50 : x9_15 < ((rd_T45 l0_0 x7_1).f2)
         ·rw [if_pos c50] at H
          have c50b0 : decide (x9_15 < ((rd_T45 l0_0 x7_1).f2)) = true:=decide_eq_true c50
          clear c50
          by_cases c51 : 0 ≤ ((rd_T45 l0_0 x7_1).f2)
          ·rw [if_pos c51] at H
           have c51b0:=eq_true c51
           have c51b1 : decide (0 ≤ ((rd_T45 l0_0 x7_1).f2)) = true:=decide_eq_true c51
           clear c51
           by_cases c52 : ((rd_T45 l0_0 x7_1).f2) ≤ (((rd_T45 l0_0 x7_1).f1).size : Int)
           ·rw [if_pos c52] at H
            have c52b0:=eq_true c52
            have c52b1 : decide (((rd_T45 l0_0 x7_1).f2) ≤ (((rd_T45 l0_0 x7_1).f1).size : Int)) = true:=decide_eq_true c52
            clear c52
            by_cases c53 : x472000_1.length < 3518437208883
            ·rw [if_pos c53] at H
             have LMc53:=Aside0.mk c53
             clear c53
             obtain ⟨y481,hy481⟩ : ∃ y_ : List (S45),y_ = (x472000_1 ++ [(⟨((rd_T45 l0_0 x7_1).f0),((rd_T45 l0_0 x7_1).f1).extract 0 (((rd_T45 l0_0 x7_1).f2) : Int).toNat,((rd_T45 l0_0 x7_1).f2)⟩ : S45)]):=⟨_,rfl⟩
             replace H : (spec_LoseDisk.l0 kj15 l1 (wrap64 (x7_1 + 1)) l0_0 y481) = some (r1,r2):=by first | (rw [hy481];with_reducible exact H) | (have H2_:=(Option.bind_some _ _).symm.trans H;rw [hy481];with_reducible exact H2_) | (have H2_:=(Option.bind_some _ _).symm.trans H;with_reducible exact H2_) | with_reducible exact H | (rw [hy481];exact H) | exact H
             have Ny481:=Aside0.mk hy481
             clear hy481
             have H':=Aside0.mk H
             clear H
             obtain ⟨_,_⟩:=zn0 NB473_468
             obtain ⟨_,_⟩:=zn0 NB473_469
             obtain ⟨_,_⟩:=zn0 NB473_471
             have hcz57_0 : wc.cell? ⟨gb473,0,none⟩ = some (.string ((rd_T45 l0_0 x7_1).f0)):=zc00 BK473
             have hcz57_1 : wc.cell? ⟨gb473,1,none⟩ = some (.string ((rd_T45 l0_0 x7_1).f1)):=zc01 BK473
             have hcz57_2 : wc.cell? ⟨gb473,2,none⟩ = some (.int .i64 ((rd_T45 l0_0 x7_1).f2)):=zc02 BK473
             have hfz57_0:=blk_frozen BK473.out 0
             have hfz57_1:=blk_frozen BK473.out 1
             have hfz57_2:=blk_frozen BK473.out 2
             try go_wp2
             replace HO_472000:=Aside0.mk (Kd.R_drew HO_472000.out)
             replace BK468:=Aside0.mk (blk_drew BK468.out)
             replace BK469:=Aside0.mk (blk_drew BK469.out)
             replace BK471:=Aside0.mk (blk_drew BK471.out)
             replace BK473:=Aside0.mk (blk_drew BK473.out)
             replace HB:=Aside0.mk (below_drew1 HB.out)
             refine start_ (n:=14) (S:=fun w' => w'.cell? ⟨gb471,0,none⟩ = some (u472000) ∧ w'.cell? ⟨gb473,0,none⟩ = some (.string ((rd_T45 l0_0 x7_1).f0)) ∧ w'.cell? ⟨gb473,1,none⟩ = some (.string ((rd_T45 l0_0 x7_1).f1)) ∧ w'.cell? ⟨gb473,2,none⟩ = some (.int .i64 ((rd_T45 l0_0 x7_1).f2))) (ds:=[13]) (zF0 14 0) (by kernel_rfl) rfl rfl ⟨zc00 BK471,zc00 BK473,zc01 BK473,zc02 BK473⟩ (fun hHeld => ?_);refine with_tabW spec_LoseDisk.tab15 spec_LoseDisk.bits15 (fun HT_ HW_ => ?_)
             generalize wc.drew = w58 at HO_472000 BK468 BK469 BK471 BK473 HB hHeld ⊢
             refine zp0 0 49 14 1 HT_ ?_
             refine zp0 2 51 14 5 HT_ ?_
             refine zp0 4 53 14 21 HT_ ?_
             refine zp0 6 55 14 85 HT_ ?_
             refine zp0 8 57 14 341 HT_ ?_
             refine zt0 1 50 14 343 HT_ HW_ hHeld ?_
             refine zt0 3 52 14 351 HT_ HW_ hHeld ?_
             refine zt0 5 54 14 383 HT_ HW_ hHeld ?_
             refine zp0 7 56 14 511 HT_ ?_
             refine zp0 9 58 14 1023 HT_ ?_
             refine one_ (i:=10) (N:=some 59) (zF0 14 2047) rfl rfl (one_of HT_.out (by kernel_rfl)) (by decide) (fun K hK => ?_)
             refine value_ (w1:=?_) (v:=?_) (by rfl) rfl ?_ ?_
             rotate_left 2
             ·go_simp
              constructor
              ·rfl
              ·rfl
             refine hK.out _ _ ⟨(blk_cell (blk_alloc BK471.out _) 0).trans rfl,(blk_cell (blk_alloc BK473.out _) 0).trans rfl,(blk_cell (blk_alloc BK473.out _) 1).trans rfl,(blk_cell (blk_alloc BK473.out _) 2).trans rfl⟩ (fun hHeld => ?_)
             clear hK K
             refine norm_ (a':=?_) ?_ ?_;rotate_left
             ·show Act.put _ (some 59) _ = _;simp only [Act.put,qA0,qB0,qC0,i64_w,i32_w];rfl
             refine one_ (i:=11) (N:=some 60) (zF0 14 4095) rfl rfl (one_of HT_.out (by kernel_rfl)) (by decide) (fun K hK => ?_)
             refine Kd.R_append_step k45 (w0:=w) w.heap.size (by rfl) (.tmp 50) (.tmp 59) 28 45 (.agg #[(.string ⟨#[]⟩),(.string ⟨#[]⟩),(.int .i64 0)]) 40 rfl Try.underlying28 info45 rfl (by decide) (by omega) u472000 x472000_1 (⟨((rd_T45 l0_0 x7_1).f0),((rd_T45 l0_0 x7_1).f1).extract 0 (((rd_T45 l0_0 x7_1).f2) : Int).toNat,((rd_T45 l0_0 x7_1).f2)⟩ : S45) [.string ((rd_T45 l0_0 x7_1).f0),.string (((rd_T45 l0_0 x7_1).f1).extract 0 (((rd_T45 l0_0 x7_1).f2) : Int).toNat),.int .i64 ((rd_T45 l0_0 x7_1).f2)] (fun k_ => k_ ≠ gb473) (fun _ => False) rfl rfl ?aP (fun _ hk => hk.elim) ?aF ?aO ?aB ?aS ?aL ?_
             (case aP => exact k45_mkM _ _ _ (⟨((rd_T45 l0_0 x7_1).f0),((rd_T45 l0_0 x7_1).f1).extract 0 (((rd_T45 l0_0 x7_1).f2) : Int).toNat,((rd_T45 l0_0 x7_1).f2)⟩ : S45))
             (case aB => exact (zY0 HB.out))
             (case aF => exact (fun k_ hk => Kd.freshB (g:=gb473) (o:=.cells #[.string ((rd_T45 l0_0 x7_1).f0),.string ((rd_T45 l0_0 x7_1).f1),.int .i64 ((rd_T45 l0_0 x7_1).f2)] 45 (0,0)) (zK0 BK473.out) k_ hk))
             (case aO => exact (zR0 HO_472000.out))
             (case aS => exact (zZ0 HB.out))
             (case aL => have:=LMc53.out;omega)
             intro v482 w59 ho hb hg hat
             rw [← Ny481.out] at ho
             replace BK468:=Aside0.mk (blk_grown (g:=gb468) (o:=.cells #[.slice (some ad472) l0_0.length c0_0] 30 (0,0)) (zK0 BK468.out) hg (Kd.R_ne HO_472000.out BK468.out (by decide)))
             replace BK469:=Aside0.mk (blk_grown (g:=gb469) (o:=.cells #[.slice none 0 0] 30 (0,0)) (zK0 BK469.out) hg (Kd.R_ne HO_472000.out BK469.out (by decide)))
             replace BK471:=Aside0.mk (blk_grown (g:=gb471) (o:=.cells #[u472000] 30 (0,0)) (zK0 BK471.out) hg (Kd.R_ne HO_472000.out BK471.out (by decide)))
             replace BK473:=Aside0.mk (blk_grown (g:=gb473) (o:=.cells #[.string ((rd_T45 l0_0 x7_1).f0),.string ((rd_T45 l0_0 x7_1).f1),.int .i64 ((rd_T45 l0_0 x7_1).f2)] 45 (0,0)) (zK0 BK473.out) hg (Kd.R_away HO_472000.out (fun _ hk => hk)))
             replace HB:=Aside0.mk hb
             have HO483:=Aside0.mk ho
             clear HO_472000
             clear ho hb hg hat
             obtain ⟨Ao60,co60,eo60⟩:=Kd.R_slice HO483.out
             (first | subst eo60 | (injection eo60 with f1_ f2_ f3_;have f4_:=f1_.symm;have f5_:=f3_.symm;clear f1_ f2_ f3_;subst f4_;subst f5_))
             refine hK.out _ _ ⟨zc00 BK471,zc00 BK473,zc01 BK473,zc02 BK473⟩ (fun hHeld => ?_)
             clear hK K
             refine norm_ (a':=?_) ?_ ?_;rotate_left
             ·show Act.put _ (some 60) _ = _;simp only [Act.put,qA0,qB0,qC0,i64_w,i32_w];rfl
             refine zp0 12 61 14 8191 HT_ ?_
             refine last_ (i:=13) (N:=none) (zF0 14 16383) rfl rfl (one_of HT_.out (by kernel_rfl)) (by decide) (fun K hK => ?_)
             have hs61 : w59.cell? ⟨gb471,0,none⟩ = some (u472000):=zc00 BK471
             have hfs61:=blk_frozen BK471.out 0
             have hns61_0:=NB468_471.out
             have hns61_1:=NB469_471.out
             have hns61_3:=NB473_471.out
             have hms61_0:=NB471_468.out
             have hms61_1:=NB471_469.out
             have hms61_3:=NB471_473.out
             refine skip_ (w1:=?_) (by rfl) rfl ?_ ?_;rotate_left
             ·go_simp
              rfl
             refine hK.out _ _ ?_
             clear hK K
             refine done_ (done_of HT_.out (by kernel_rfl)) ?_
             try go_wp2
             go_roundg kj15
             case measure => have:=HK1.out;have:=HJ15.out;omega
             case rel => exact ⟨(wrap64 (x7_1 + 1)),(y481),(.slice Ao60 y481.length co60),zE0,H',⟨by have:=HK1.out;have:=HJ15.out;omega⟩,⟨by refine zV0 ?_;exact Kd.R_mono (Kd.R_far (p:=⟨gb471,0,none⟩) (Kd.R_types HO483.out BK471.out (by decide)) (fun _ hk => hk.2) (.slice Ao60 y481.length co60)) (fun _ hk => trivial)⟩,⟨zK0 BK468.out⟩,⟨zK0 BK469.out⟩,⟨by refine zT0 ?_;refine blk_put (cs:=#[u472000]) ?_ 0 _ rfl;exact zK0 BK471.out⟩,⟨zY0 HB.out⟩⟩
            ·rw [if_neg c53] at H
             exact absurd H (by simp)
           ·rw [if_neg c52] at H
            exact absurd H (by simp)
          ·rw [if_neg c51] at H
           exact absurd H (by simp)
         ·rw [if_neg c50] at H
          have c50b0 : decide (x9_15 < ((rd_T45 l0_0 x7_1).f2)) = false:=decide_eq_false c50
          clear c50
          by_cases c62 : 0 ≤ x9_15
          ·rw [if_pos c62] at H
           have c62b0:=eq_true c62
           have c62b1 : decide (0 ≤ x9_15) = true:=decide_eq_true c62
           clear c62
           by_cases c63 : x9_15 ≤ (((rd_T45 l0_0 x7_1).f1).size : Int)
           ·rw [if_pos c63] at H
            have c63b0:=eq_true c63
            have c63b1 : decide (x9_15 ≤ (((rd_T45 l0_0 x7_1).f1).size : Int)) = true:=decide_eq_true c63
            clear c63
            by_cases c64 : x472000_1.length < 3518437208883
            ·rw [if_pos c64] at H
             have LMc64:=Aside0.mk c64
             clear c64
             obtain ⟨y484,hy484⟩ : ∃ y_ : List (S45),y_ = (x472000_1 ++ [(⟨((rd_T45 l0_0 x7_1).f0),((rd_T45 l0_0 x7_1).f1).extract 0 (x9_15 : Int).toNat,x9_15⟩ : S45)]):=⟨_,rfl⟩
             replace H : (spec_LoseDisk.l0 kj15 l1 (wrap64 (x7_1 + 1)) l0_0 y484) = some (r1,r2):=by first | (rw [hy484];with_reducible exact H) | (have H2_:=(Option.bind_some _ _).symm.trans H;rw [hy484];with_reducible exact H2_) | (have H2_:=(Option.bind_some _ _).symm.trans H;with_reducible exact H2_) | with_reducible exact H | (rw [hy484];exact H) | exact H
             have Ny484:=Aside0.mk hy484
             clear hy484
             have H':=Aside0.mk H
             clear H
             obtain ⟨_,_⟩:=zn0 NB473_468
             obtain ⟨_,_⟩:=zn0 NB473_469
             obtain ⟨_,_⟩:=zn0 NB473_471
             have hcz68_0 : wc.cell? ⟨gb473,0,none⟩ = some (.string ((rd_T45 l0_0 x7_1).f0)):=zc00 BK473
             have hcz68_1 : wc.cell? ⟨gb473,1,none⟩ = some (.string ((rd_T45 l0_0 x7_1).f1)):=zc01 BK473
             have hcz68_2 : wc.cell? ⟨gb473,2,none⟩ = some (.int .i64 ((rd_T45 l0_0 x7_1).f2)):=zc02 BK473
             have hfz68_0:=blk_frozen BK473.out 0
             have hfz68_1:=blk_frozen BK473.out 1
             have hfz68_2:=blk_frozen BK473.out 2
             try go_wp2
             replace HO_472000:=Aside0.mk (Kd.R_drew HO_472000.out)
             replace BK468:=Aside0.mk (blk_drew BK468.out)
             replace BK469:=Aside0.mk (blk_drew BK469.out)
             replace BK471:=Aside0.mk (blk_drew BK471.out)
             replace BK473:=Aside0.mk (blk_drew BK473.out)
             replace HB:=Aside0.mk (below_drew1 HB.out)
             refine start_ (n:=14) (S:=fun w' => w'.cell? ⟨gb471,0,none⟩ = some (u472000) ∧ w'.cell? ⟨gb473,0,none⟩ = some (.string ((rd_T45 l0_0 x7_1).f0)) ∧ w'.cell? ⟨gb473,1,none⟩ = some (.string ((rd_T45 l0_0 x7_1).f1)) ∧ w'.cell? ⟨gb473,2,none⟩ = some (.int .i64 ((rd_T45 l0_0 x7_1).f2))) (ds:=[13]) (zF0 14 0) (by kernel_rfl) rfl rfl ⟨zc00 BK471,zc00 BK473,zc01 BK473,zc02 BK473⟩ (fun hHeld => ?_);refine with_tabW spec_LoseDisk.tab15 spec_LoseDisk.bits15 (fun HT_ HW_ => ?_)
             generalize wc.drew = w69 at HO_472000 BK468 BK469 BK471 BK473 HB hHeld ⊢
             refine zp0 0 49 14 1 HT_ ?_
             refine zp0 2 51 14 5 HT_ ?_
             refine zp0 4 53 14 21 HT_ ?_
             refine zp0 6 55 14 85 HT_ ?_
             refine zp0 8 57 14 341 HT_ ?_
             refine zt0 1 50 14 343 HT_ HW_ hHeld ?_
             refine zt0 3 52 14 351 HT_ HW_ hHeld ?_
             refine zt0 5 54 14 383 HT_ HW_ hHeld ?_
             refine zp0 7 56 14 511 HT_ ?_
             refine zp0 9 58 14 1023 HT_ ?_
             refine one_ (i:=10) (N:=some 59) (zF0 14 2047) rfl rfl (one_of HT_.out (by kernel_rfl)) (by decide) (fun K hK => ?_)
             refine value_ (w1:=?_) (v:=?_) (by rfl) rfl ?_ ?_
             rotate_left 2
             ·go_simp
              constructor
              ·rfl
              ·rfl
             refine hK.out _ _ ⟨(blk_cell (blk_alloc BK471.out _) 0).trans rfl,(blk_cell (blk_alloc BK473.out _) 0).trans rfl,(blk_cell (blk_alloc BK473.out _) 1).trans rfl,(blk_cell (blk_alloc BK473.out _) 2).trans rfl⟩ (fun hHeld => ?_)
             clear hK K
             refine norm_ (a':=?_) ?_ ?_;rotate_left
             ·show Act.put _ (some 59) _ = _;simp only [Act.put,qA0,qB0,qC0,i64_w,i32_w];rfl
             refine one_ (i:=11) (N:=some 60) (zF0 14 4095) rfl rfl (one_of HT_.out (by kernel_rfl)) (by decide) (fun K hK => ?_)
             refine Kd.R_append_step k45 (w0:=w) w.heap.size (by rfl) (.tmp 50) (.tmp 59) 28 45 (.agg #[(.string ⟨#[]⟩),(.string ⟨#[]⟩),(.int .i64 0)]) 40 rfl Try.underlying28 info45 rfl (by decide) (by omega) u472000 x472000_1 (⟨((rd_T45 l0_0 x7_1).f0),((rd_T45 l0_0 x7_1).f1).extract 0 (x9_15 : Int).toNat,x9_15⟩ : S45) [.string ((rd_T45 l0_0 x7_1).f0),.string (((rd_T45 l0_0 x7_1).f1).extract 0 (x9_15 : Int).toNat),.int .i64 x9_15] (fun k_ => k_ ≠ gb473) (fun _ => False) rfl rfl ?aP (fun _ hk => hk.elim) ?aF ?aO ?aB ?aS ?aL ?_
             (case aP => exact k45_mkM _ _ _ (⟨((rd_T45 l0_0 x7_1).f0),((rd_T45 l0_0 x7_1).f1).extract 0 (x9_15 : Int).toNat,x9_15⟩ : S45))
             (case aB => exact (zY0 HB.out))
             (case aF => exact (fun k_ hk => Kd.freshB (g:=gb473) (o:=.cells #[.string ((rd_T45 l0_0 x7_1).f0),.string ((rd_T45 l0_0 x7_1).f1),.int .i64 ((rd_T45 l0_0 x7_1).f2)] 45 (0,0)) (zK0 BK473.out) k_ hk))
             (case aO => exact (zR0 HO_472000.out))
             (case aS => exact (zZ0 HB.out))
             (case aL => have:=LMc64.out;omega)
             intro v485 w70 ho hb hg hat
             rw [← Ny484.out] at ho
             replace BK468:=Aside0.mk (blk_grown (g:=gb468) (o:=.cells #[.slice (some ad472) l0_0.length c0_0] 30 (0,0)) (zK0 BK468.out) hg (Kd.R_ne HO_472000.out BK468.out (by decide)))
             replace BK469:=Aside0.mk (blk_grown (g:=gb469) (o:=.cells #[.slice none 0 0] 30 (0,0)) (zK0 BK469.out) hg (Kd.R_ne HO_472000.out BK469.out (by decide)))
             replace BK471:=Aside0.mk (blk_grown (g:=gb471) (o:=.cells #[u472000] 30 (0,0)) (zK0 BK471.out) hg (Kd.R_ne HO_472000.out BK471.out (by decide)))
             replace BK473:=Aside0.mk (blk_grown (g:=gb473) (o:=.cells #[.string ((rd_T45 l0_0 x7_1).f0),.string ((rd_T45 l0_0 x7_1).f1),.int .i64 ((rd_T45 l0_0 x7_1).f2)] 45 (0,0)) (zK0 BK473.out) hg (Kd.R_away HO_472000.out (fun _ hk => hk)))
             replace HB:=Aside0.mk hb
             have HO486:=Aside0.mk ho
             clear HO_472000
             clear ho hb hg hat
             obtain ⟨Ao71,co71,eo71⟩:=Kd.R_slice HO486.out
             (first | subst eo71 | (injection eo71 with f1_ f2_ f3_;have f4_:=f1_.symm;have f5_:=f3_.symm;clear f1_ f2_ f3_;subst f4_;subst f5_))
             refine hK.out _ _ ⟨zc00 BK471,zc00 BK473,zc01 BK473,zc02 BK473⟩ (fun hHeld => ?_)
             clear hK K
             refine norm_ (a':=?_) ?_ ?_;rotate_left
             ·show Act.put _ (some 60) _ = _;simp only [Act.put,qA0,qB0,qC0,i64_w,i32_w];rfl
             refine zp0 12 61 14 8191 HT_ ?_
             refine last_ (i:=13) (N:=none) (zF0 14 16383) rfl rfl (one_of HT_.out (by kernel_rfl)) (by decide) (fun K hK => ?_)
             have hs72 : w70.cell? ⟨gb471,0,none⟩ = some (u472000):=zc00 BK471
             have hfs72:=blk_frozen BK471.out 0
             have hns72_0:=NB468_471.out
             have hns72_1:=NB469_471.out
             have hns72_3:=NB473_471.out
             have hms72_0:=NB471_468.out
             have hms72_1:=NB471_469.out
             have hms72_3:=NB471_473.out
             refine skip_ (w1:=?_) (by rfl) rfl ?_ ?_;rotate_left
             ·go_simp
              rfl
             refine hK.out _ _ ?_
             clear hK K
             refine done_ (done_of HT_.out (by kernel_rfl)) ?_
             try go_wp2
             go_roundg kj15
             case measure => have:=HK1.out;have:=HJ15.out;omega
             case rel => exact ⟨(wrap64 (x7_1 + 1)),(y484),(.slice Ao71 y484.length co71),zE0,H',⟨by have:=HK1.out;have:=HJ15.out;omega⟩,⟨by refine zV0 ?_;exact Kd.R_mono (Kd.R_far (p:=⟨gb471,0,none⟩) (Kd.R_types HO486.out BK471.out (by decide)) (fun _ hk => hk.2) (.slice Ao71 y484.length co71)) (fun _ hk => trivial)⟩,⟨zK0 BK468.out⟩,⟨zK0 BK469.out⟩,⟨by refine zT0 ?_;refine blk_put (cs:=#[u472000]) ?_ 0 _ rfl;exact zK0 BK471.out⟩,⟨zY0 HB.out⟩⟩
            ·rw [if_neg c64] at H
             exact absurd H (by simp)
           ·rw [if_neg c63] at H
            exact absurd H (by simp)
          ·rw [if_neg c62] at H
           exact absurd H (by simp)
     ·rw [if_neg c15] at H
      exact absurd H (by simp)
    ·rw [if_neg c14] at H
     have c14b0 : decide (x7_1 < (l0_0.length : Int)) = false:=decide_eq_false c14
     clear c14
     simp only [Option.some.injEq,Prod.mk.injEq] at H
     obtain ⟨rfl,rfl⟩:=H
     obtain ⟨_,_⟩:=zn0 NB468_469
     obtain ⟨_,_⟩:=zn0 NB468_471
     have hcz75_0 : wr.cell? ⟨gb468,0,none⟩ = some (.slice A0_0 l0_0.length c0_0):=zc00 BK468
     have hfz75_0:=blk_frozen BK468.out 0
     obtain ⟨_,_⟩:=zn0 NB471_469
     have hcz77_0 : wr.cell? ⟨gb471,0,none⟩ = some (u472000):=zc00 BK471
     have hfz77_0:=blk_frozen BK471.out 0
     obtain ⟨Ao78,co78,eo78⟩:=Kd.R_slice HO_472000.out
     subst eo78
     have hcz79_0 : wr.cell? ⟨gb469,0,none⟩ = some (.slice none 0 0):=zc00 BK469
     have hfz79_0:=blk_frozen BK469.out 0
     go_wp2
     refine bodyPost_ret (results_ct rfl _ _ gb469 30 #[.slice Ao78 x472000_1.length co78] (0,0) _ rfl (by refine zT0 ?_;refine blk_put (cs:=#[.slice none 0 0]) ?_ 0 _ rfl;exact zK0 BK469.out) Try.underlying30 rfl (by kernel_rfl)) rfl ?_
     exact ⟨_,zW0,by refine zV0 ?_;exact Kd.R_mono (Kd.R_far (p:=⟨gb469,0,none⟩) (Kd.R_types HO_472000.out BK469.out (by decide)) (fun _ hk => hk.2) (.slice Ao78 x472000_1.length co78)) (fun _ hk => trivial),(zY0 HB.out)⟩
 ·replace c4:=Bool.eq_false_iff.mpr c4
  subst c4
  rw [if_neg (show ¬ (false = true) by decide)] at H
  simp only [Option.some.injEq,Prod.mk.injEq] at H
  obtain ⟨rfl,rfl⟩:=H
  go_enter Try.func29,Try.ntmps29
  go_wp2_with (first | ((with_reducible refine gate_dst (N:=2) rfl ?_);refine zy0 (cs:=#[.slice A0_0 l0_0.length c0_0]) (t:=30) ?_;intro gb468 hg w80 hbox hb;have BK468:=Aside0.mk hbox;have GW468:=zz0 hg HB;have GE468:=zz0 hg HB;replace HB:=zs0 HB hb;clear hb hbox hg) | ((with_reducible refine gate_dst (N:=4) rfl ?_);refine zy0 (cs:=#[.slice none 0 0]) (t:=30) ?_;intro gb469 hg w81 hbox hb;have BK469:=Aside0.mk hbox;have GW469:=zz0 hg HB;have GE469:=zz0 hg HB;replace HB:=zs0 HB hb;have NB468_469:=zl0 hg BK468;have NB469_468:=zg0 hg BK468;replace BK468:=zb0 BK468 hb;clear hb hbox hg;obtain ⟨_,_⟩:=zn0 NB468_469;obtain ⟨_,_⟩:=zd01 BK468) | ((with_reducible refine gate_callee (f:=68) rfl ?_);refine goesL_ (some 11) rfl rfl Try.func68 (by kernel_rfl) rfl #[.agg #[.slice A0_0 l0_0.length c0_0]] rfl zM0 ?_;(with_reducible refine (spec_DiskOk.calls k _ _ l0_0 false _ ?side1 ?side2 A3.out).mono ?_);(case side1 => exact zA0 ((Kd.C_below HR0_0.out HB.out)));(case side2 => exact HC0_0.out);rintro e w84 ⟨rfl,hb⟩;refine ⟨_,rfl,?_⟩;replace BK468:=zb0 BK468 hb;replace BK469:=zb0 BK469 hb;replace HB:=zs0 HB hb;(try clear hb);obtain ⟨_,_⟩:=zd01 BK469))
  refine bodyPost_ret (results_ct rfl _ _ gb469 30 #[.slice none 0 0] (0,0) _ rfl (by refine zT0 ?_;refine blk_put (cs:=#[.slice none 0 0]) ?_ 0 _ rfl;exact zK0 BK469.out) Try.underlying30 rfl (by kernel_rfl)) rfl ?_
  exact ⟨_,zW0,by first | exact Kd.R_nil _ _ _ _ _ | exact Kd.N_nil _ _ _ _ _ | exact Kd.V_nil _ _ _ _ _ | exact Kd.Q_nil _ _ _ _ _ | exact Kd.S_nil _ _ _ _ _,(zY0 HB.out)⟩

end Go.Proofs.Ytgfacdhkamphiaa.PFnActs
