/- Walks, turned from a print. -/
import Derived.Test.YtlekhcopddajbaaGreatDoorOFnExactSegmentsx0
import Derived.Test.YtlekhcopddajbaaGreatDoorOFnExactSegmentsx1
namespace Go.Proofs.YtlekhcopddajbaaGreatDoor.PFnExactSegments
open Go.RowKit Go.Proofs.YtlekhcopddajbaaGreatDoorW.PrintWords Go.Proofs.YtlekhcopddajbaaGreatDoorW.PrintLast Go.Proofs.YtlekhcopddajbaaGreatDoorW.PrintMore
attribute [local go_sem] max2_int min2_int max_two min_two max_three min_three max_four min_four
set_option linter.unusedVariables false
set_option linter.unusedSimpArgs false

/-! ### spec_BatchOk: function 82 -/
mutual
def spec_BatchOk.j0 : Nat → Bool → Int → List (S100) → Option (Bool)
 | 0,_,_,_ => none
 | k + 1,x15,x180000,x180001 => if x15 = true then (some false) else (spec_BatchOk.l0 k 0 x180000 x180001)
def spec_BatchOk.l0 : Nat → Int → Int → List (S100) → Option (Bool)
 | 0,_,_,_ => none
 | k + 1,x3,x180000,x180001 => if x3 < (x180001.length : Int) then (if 0 ≤ x3 then ((spec_l01In.f (((rd_T100 x180001 x3).f0).size : Int) 1 20).bind fun t184 => (if t184 = true then (if x3 > 0 then (if 0 ≤ (wrap64 (x3 - 1)) then (if (wrap64 (x3 - 1)) < (x180001.length : Int) then (if ((Op.bytesLess (((rd_T100 x180001 (wrap64 (x3 - 1))).f0).toList) (((rd_T100 x180001 x3).f0).toList)) = true) then (if (((rd_T100 x180001 x3).f1).size : Int) > 2000 then (some false) else (if (rd_T100 x180001 x3).f2 = true then (if ((rd_T100 x180001 x3).f1).toList = ([] : List UInt8) then (spec_BatchOk.l0 k (wrap64 (x3 + 1)) x180000 x180001) else (some false)) else (spec_BatchOk.l0 k (wrap64 (x3 + 1)) x180000 x180001))) else (some false)) else (none)) else (none)) else (if (((rd_T100 x180001 x3).f1).size : Int) > 2000 then (some false) else (if (rd_T100 x180001 x3).f2 = true then (if ((rd_T100 x180001 x3).f1).toList = ([] : List UInt8) then (spec_BatchOk.l0 k (wrap64 (x3 + 1)) x180000 x180001) else (some false)) else (spec_BatchOk.l0 k (wrap64 (x3 + 1)) x180000 x180001)))) else (some false))) else (none)) else (some true)
end
def spec_BatchOk.f (k : Nat) (a0_0 : Int) (l0_1 : List (S100)) : Option (Bool):=(spec_l01In.f a0_0 0 1000000000).bind fun t180 => (if t180 = true then ((spec_l01In.f (l0_1.length : Int) 1 40).bind fun t181 => (spec_BatchOk.j0 k (!t181) a0_0 l0_1)) else (spec_BatchOk.j0 k true a0_0 l0_1))
theorem spec_BatchOk.mono_l : ∀ k,(∀ y0 y1 y2,LeO (spec_BatchOk.j0 k y0 y1 y2) (spec_BatchOk.j0 (k + 1) y0 y1 y2)) ∧ (∀ y0 y1 y2,LeO (spec_BatchOk.l0 k y0 y1 y2) (spec_BatchOk.l0 (k + 1) y0 y1 y2))
 | 0 => ⟨fun _ _ _ r h => by simp [spec_BatchOk.j0] at h,fun _ _ _ r h => by simp [spec_BatchOk.l0] at h⟩
 | k + 1 => by
  obtain ⟨ih0,ih1⟩:=spec_BatchOk.mono_l k
  refine ⟨?_,?_⟩
  intro y0 y1 y2;unfold spec_BatchOk.j0;rotate_left
  intro y0 y1 y2;unfold spec_BatchOk.l0;rotate_left
  all_goals repeat' first
  | (with_reducible exact ih0 _ _ _)
  | (with_reducible exact ih1 _ _ _)
  | (with_reducible exact LeO.refl _)
  | (with_reducible exact LeO.none _)
  | (with_reducible refine LeO.ite ?_ ?_)
  | (with_reducible refine LeO.bind ?_ (fun _ => ?_))
theorem spec_BatchOk.mono : ∀ a0 a1 k,LeO (spec_BatchOk.f k a0 a1) (spec_BatchOk.f (k + 1) a0 a1):=by
 intro a0 a1 k
 obtain ⟨ih0,ih1⟩:=spec_BatchOk.mono_l k
 unfold spec_BatchOk.f
 repeat' first
  | (with_reducible exact ih0 _ _ _)
  | (with_reducible exact ih1 _ _ _)
  | (with_reducible exact LeO.refl _)
  | (with_reducible exact LeO.none _)
  | (with_reducible refine LeO.ite ?_ ?_)
  | (with_reducible refine LeO.bind ?_ (fun _ => ?_))
def spec_BatchOk.T7 : Bool × List (List Nat × List Nat):=(true,[([],[]),([0],[0]),([1],[1]),([2],[2]),([3],[3]),([4,3],[4]),([5],[5]),([6,5],[5,6]),([7,5,5],[5,7]),([8],[8]),([9,8],[8,9]),([8],[8]),([11,8],[8,11]),([10,12,8],[8,10,12]),([13,8],[8,13]),([14,8],[8,14]),([8],[8]),([16,8],[8,16]),([15,17,8],[8,15,17]),([8,18,5],[5,8,18]),([5,19],[5,19]),([20,8],[20]),([21],[21]),([22,21],[21,22]),([23,21],[21,23]),([24,21],[21,24]),([21,25],[21,25]),([26,21],[26]),([27],[27]),([28,27],[27,28]),([29,27,27],[27,29]),([30],[30]),([31,30],[30,31]),([32,30],[30,32]),([30,33,27],[27,30,33]),([27,34],[27,34])])
def spec_BatchOk.B7 : List Nat:=[0,1,3,7,15,31,63,127,255,511,1023,511,2559,8191,16383,32767,511,66047,262143,524287,1048575,2097151,4194303,8388607,16777215,33554431,67108863,134217727,268435455,536870911,1073741823,2147483647,4294967295,8589934591,17179869183,34359738367]
theorem spec_BatchOk.tab7 : rtab .any (opsOf Tryz.f82 7) = spec_BatchOk.T7:=by kernel_rfl
theorem spec_BatchOk.bits7 : waitsOk spec_BatchOk.T7.2 spec_BatchOk.B7 = true:=by kernel_rfl
set_option maxHeartbeats 8000000 in
set_option maxRecDepth 100000 in
theorem spec_BatchOk.calls (k : Nat) (a0_0 : Int) (A0_1 : Option Addr) (c0_1 : Nat) (l0_1 : List (S100)) (r : Bool) (w : World) (hr0_1 : Kd.C k100 w A0_1 l0_1.length l0_1) (hc0_1 : l0_1.length ≤ c0_1) (h : spec_BatchOk.f k a0_0 l0_1 = some r) :
  Calls Tryz.prog 82 #[.agg #[.int .i64 a0_0,.slice A0_1 l0_1.length c0_1]] w fun e w' => e = .returned (.bool r) ∧ Below w.heap.size w w':=by
 have hu70:=Tryz.underlying70
 have hu100:=Tryz.underlying100
 have HR0_1:=Aside0.mk hr0_1
 have HC0_1:=Aside0.mk hc0_1
 clear hr0_1 hc0_1
 have HB:=Aside0.mk (Below.refl w.heap.size w)
 have H : ((spec_l01In.f a0_0 0 1000000000).bind fun t180 => (if t180 = true then ((spec_l01In.f (l0_1.length : Int) 1 40).bind fun t181 => (spec_BatchOk.j0 k (!t181) a0_0 l0_1)) else (spec_BatchOk.j0 k true a0_0 l0_1))) = some r:=h
 clear h
 have HC2:=Aside0.mk H
 clear H
 go_enter Tryz.func82,Tryz.ntmps82
 go_upto_region 1 with (first | ((with_reducible refine gate_dst (N:=1) rfl ?_);(try (refine gate_guard (by rfl) ?_;dsimp only));refine zy0 (cs:=#[.int .i64 a0_0,.slice A0_1 l0_1.length c0_1]) (t:=70) ?_;intro gb179 hg w3 hbox hb;have BK179:=Aside0.mk hbox;have GW179:=zz0 hg HB;have GE179:=zz0 hg HB;replace HB:=zs0 HB hb;clear hb hbox hg))
 (try simp only [Act.put,qA0,qB0,qC0])
 go_cut [15] (fun v15 wc => ∃ (kq : Nat) (x15_1 : Bool),v15 = .bool x15_1 ∧ Aside0 (spec_BatchOk.j0 kq x15_1 a0_0 l0_1 = some r) ∧ Aside0 (kq ≤ k) ∧ Aside0 (wc.heap[gb179]? = some (.cells #[.int .i64 a0_0,(.slice A0_1 l0_1.length c0_1)] 70 (0,0))) ∧ Aside0 (Below w.heap.size w wc))
 case first =>
  have H:=HC2.out
  clear HC2
  obtain ⟨t180,A4,H⟩:=bX0 H
  by_cases c5 : t180 = true
  ·subst c5
   rw [if_pos rfl] at H
   obtain ⟨t181,A6,H⟩:=bX0 H
   have H':=Aside0.mk H
   clear H
   obtain ⟨_,_,_,_⟩:=zd02 BK179
   go_wp2_with (first | ((with_reducible refine gate_callee (f:=31) rfl ?_);refine goesL_ (some 7) rfl rfl Tryz.func31 (by kernel_rfl) rfl #[.int .i64 a0_0,.int .i64 0,.int .i64 1000000000] rfl zM0 ?_;(with_reducible refine (spec_l01In.calls a0_0 0 1000000000 true _ A4.out).mono ?_);rintro e w' ⟨rfl,⟨nd,rfl⟩⟩;refine ⟨_,rfl,?_⟩) | (go_at_call 31;(with_reducible refine (spec_l01In.calls (l0_1.length : Int) 1 40 t181 _ A6.out).mono ?_);rintro e w' ⟨rfl,⟨nd,rfl⟩⟩))
   go_meet
   case rel => exact ⟨_,(!t181),zE0,H',⟨by first | omega | exact Nat.le_refl _⟩,⟨zK0 BK179.out⟩,⟨zY0 HB.out⟩⟩
  ·replace c5:=Bool.eq_false_iff.mpr c5
   subst c5
   rw [if_neg (show ¬ (false = true) by decide)] at H
   have H':=Aside0.mk H
   clear H
   obtain ⟨_,_,_,_⟩:=zd02 BK179
   go_wp2_with (first | ((with_reducible refine gate_callee (f:=31) rfl ?_);refine goesL_ (some 7) rfl rfl Tryz.func31 (by kernel_rfl) rfl #[.int .i64 a0_0,.int .i64 0,.int .i64 1000000000] rfl zM0 ?_;(with_reducible refine (spec_l01In.calls a0_0 0 1000000000 false _ A4.out).mono ?_);rintro e w' ⟨rfl,⟨nd,rfl⟩⟩;refine ⟨_,rfl,?_⟩))
   go_meet
   case rel => exact ⟨_,(true),zE0,H',⟨by first | omega | exact Nat.le_refl _⟩,⟨zK0 BK179.out⟩,⟨zY0 HB.out⟩⟩
 case rest =>
  clear HC2
  obtain ⟨kq,x15_1,rfl,HA,HJ1,BK179,HB⟩:=hcut
  cases kq with
  | zero => exact absurd HA.out (by simp [spec_BatchOk.j0])
  | succ kj1 =>
   have H:=HA.out
   clear HA
   simp only [spec_BatchOk.j0] at H
   by_cases c9 : x15_1 = true
   ·subst c9
    rw [if_pos rfl] at H
    obtain rfl:=Option.some.inj H
    go_wp2
    go_ret
    exact ⟨zW0,(zY0 HB.out)⟩
   ·replace c9:=Bool.eq_false_iff.mpr c9
    subst c9
    rw [if_neg (show ¬ (false = true) by decide)] at H
    have H':=Aside0.mk H
    clear H
    go_wp2
    go_loopg [3] kj1 (fun kq v3 w' => ∃ (x3_2 : Int),v3 = .int .i64 x3_2 ∧ Aside0 (spec_BatchOk.l0 kq x3_2 a0_0 l0_1 = some r) ∧ Aside0 (kq ≤ kj1) ∧ Aside0 (w'.heap[gb179]? = some (.cells #[.int .i64 a0_0,(.slice A0_1 l0_1.length c0_1)] 70 (0,0))) ∧ Aside0 (Below w.heap.size w w'))
    case atStart => exact ⟨(0),zE0,H',⟨Nat.le_refl _⟩,⟨zK0 BK179.out⟩,⟨zY0 HB.out⟩⟩
    case round =>
     clear H'
     try clear c9
     obtain ⟨x3_2,rfl,HA,HK2,BK179,HB⟩:=hrel
     cases gk with
     | zero => exact absurd HA.out (by simp [spec_BatchOk.l0])
     | succ k2 =>
      have H:=HA.out
      clear HA
      simp only [spec_BatchOk.l0] at H
      by_cases c10 : x3_2 < (l0_1.length : Int)
      ·rw [if_pos c10] at H
       have c10b0 : decide (x3_2 < (l0_1.length : Int)) = true:=decide_eq_true c10
       clear c10
       by_cases c11 : 0 ≤ x3_2
       ·rw [if_pos c11] at H
        have c11b0 : decide (0 ≤ x3_2) = true:=decide_eq_true c11
        clear c11
        obtain ⟨t184,A12,H⟩:=bX0 H
        by_cases c13 : t184 = true
        ·subst c13
         rw [if_pos rfl] at H
         by_cases c14 : x3_2 > 0
         ·rw [if_pos c14] at H
          have c14b0 : decide (0 < x3_2) = true:=decide_eq_true c14
          clear c14
          obtain ⟨ji15,hji15⟩ : ∃ j_ : Int,(wrap64 (x3_2 - 1)) = j_:=⟨_,rfl⟩
          replace H : (if 0 ≤ (ji15) then (if (ji15) < (l0_1.length : Int) then (if ((Op.bytesLess (((rd_T100 l0_1 (ji15)).f0).toList) (((rd_T100 l0_1 x3_2).f0).toList)) = true) then (if (((rd_T100 l0_1 x3_2).f1).size : Int) > 2000 then (some false) else (if (rd_T100 l0_1 x3_2).f2 = true then (if ((rd_T100 l0_1 x3_2).f1).toList = ([] : List UInt8) then (spec_BatchOk.l0 k2 (wrap64 (x3_2 + 1)) a0_0 l0_1) else (some false)) else (spec_BatchOk.l0 k2 (wrap64 (x3_2 + 1)) a0_0 l0_1))) else (some false)) else (none)) else (none)) = some r:=by first | (rw [hji15] at H;exact H) | (simp only [hji15] at H ⊢;exact H)
          (try rw [hji15] at A12)
          have hji15w : (IntKind.i64.wrap (x3_2 - 1)) = ji15:=(i64_w _).trans hji15
          by_cases c16 : 0 ≤ (ji15)
          ·rw [if_pos c16] at H
           have c16b0 : decide (0 ≤ (ji15)) = true:=decide_eq_true c16
           clear c16
           by_cases c17 : (ji15) < (l0_1.length : Int)
           ·rw [if_pos c17] at H
            have c17b0 : decide ((ji15) < (l0_1.length : Int)) = true:=decide_eq_true c17
            clear c17
            by_cases c18 : ((Op.bytesLess (((rd_T100 l0_1 (ji15)).f0).toList) (((rd_T100 l0_1 x3_2).f0).toList)) = true)
            ·rw [if_pos c18] at H
             have c18b0 : (Op.bytesLess (((rd_T100 l0_1 (ji15)).f0).toList) (((rd_T100 l0_1 x3_2).f0).toList)) = true:=c18
             clear c18
             by_cases c19 : (((rd_T100 l0_1 x3_2).f1).size : Int) > 2000
             ·rw [if_pos c19] at H
              have c19b0 : decide (2000 < (((rd_T100 l0_1 x3_2).f1).size : Int)) = true:=decide_eq_true c19
              have c19b1 : decide (2000 < ((rd_T100 l0_1 x3_2).f1).size) = true:=decide_eq_true (by omega)
              clear c19
              obtain rfl:=Option.some.inj H
              have hcz20_0 : wr.cell? ⟨gb179,0,none⟩ = some (.int .i64 a0_0):=zc00 BK179
              have hcz20_1 : wr.cell? ⟨gb179,1,none⟩ = some (.slice A0_1 l0_1.length c0_1):=zc01 BK179
              have hfz20_0:=blk_frozen BK179.out 0
              have hfz20_1:=blk_frozen BK179.out 1
              have p182 : 0 ≤ (x3_2 : Int):=zD0
              have q182 : x3_2 < (l0_1.length : Int):=zD0
              obtain ⟨ad182,e182,hx182_0,hx182_1,hx182_2⟩:=at_T100 HR0_1.out x3_2 p182 q182
              cases e182
              replace hx182_0:=zx0 HB hx182_0
              replace hx182_1:=zx0 HB hx182_1
              replace hx182_2:=zx0 HB hx182_2
              replace p182:=eq_true p182
              replace q182:=eq_true q182
              try go_wp2_with (first | ((with_reducible refine gate_dst (N:=4) rfl ?_);(try (refine gate_guard (by rfl) ?_;dsimp only));refine zy0 (cs:=#[.string (⟨#[]⟩ : ByteArray),.string (⟨#[]⟩ : ByteArray),.bool false]) (t:=100) ?_;intro gb183 hg w21 hbox hb;have BK183:=Aside0.mk hbox;have GW183:=zz0 hg HB;have GE183:=zz0 hg HB;replace HB:=zs0 HB hb;have NB179_183:=zl0 hg BK179;have NB183_179:=zg0 hg BK179;replace BK179:=zb0 BK179 hb;clear hb hbox hg;obtain ⟨_,_⟩:=zn0 NB183_179;obtain ⟨_,_,_,_,_,_⟩:=zd03 BK183))
              have n0_ : Aside0 ((((w21.setCell ⟨gb183,0,none⟩ (.string ((rd_T100 l0_1 x3_2).f0))).setCell ⟨gb183,1,none⟩ (.string ((rd_T100 l0_1 x3_2).f1))).setCell ⟨gb183,2,none⟩ (.bool ((rd_T100 l0_1 x3_2).f2))).heap[gb179]? = some (.cells #[.int .i64 a0_0,.slice (some ad182) l0_1.length c0_1] 70 (0,0))):=⟨zK0 BK179.out⟩
              have n1_ : Aside0 ((((w21.setCell ⟨gb183,0,none⟩ (.string ((rd_T100 l0_1 x3_2).f0))).setCell ⟨gb183,1,none⟩ (.string ((rd_T100 l0_1 x3_2).f1))).setCell ⟨gb183,2,none⟩ (.bool ((rd_T100 l0_1 x3_2).f2))).heap[gb183]? = some (.cells #[.string ((rd_T100 l0_1 x3_2).f0),.string ((rd_T100 l0_1 x3_2).f1),.bool ((rd_T100 l0_1 x3_2).f2)] 100 (0,0))):=⟨by refine zT0 ?_;refine blk_put (cs:=#[.string ((rd_T100 l0_1 x3_2).f0),.string ((rd_T100 l0_1 x3_2).f1),.bool false]) ?_ 2 _ rfl;refine zT0 ?_;refine blk_put (cs:=#[.string ((rd_T100 l0_1 x3_2).f0),.string (⟨#[]⟩ : ByteArray),.bool false]) ?_ 1 _ rfl;refine zT0 ?_;refine blk_put (cs:=#[.string (⟨#[]⟩ : ByteArray),.string (⟨#[]⟩ : ByteArray),.bool false]) ?_ 0 _ rfl;exact zK0 BK183.out⟩
              have n2_ : Aside0 (Below w.heap.size w (((w21.setCell ⟨gb183,0,none⟩ (.string ((rd_T100 l0_1 x3_2).f0))).setCell ⟨gb183,1,none⟩ (.string ((rd_T100 l0_1 x3_2).f1))).setCell ⟨gb183,2,none⟩ (.bool ((rd_T100 l0_1 x3_2).f2)))):=⟨zY0 HB.out⟩
              (try clear BK179)
              (try clear BK183)
              (try clear HB)
              generalize (((w21.setCell ⟨gb183,0,none⟩ (.string ((rd_T100 l0_1 x3_2).f0))).setCell ⟨gb183,1,none⟩ (.string ((rd_T100 l0_1 x3_2).f1))).setCell ⟨gb183,2,none⟩ (.bool ((rd_T100 l0_1 x3_2).f2))) = w24 at n0_ n1_ n2_ ⊢
              have BK179:=n0_
              have BK183:=n1_
              have HB:=n2_
              clear n0_ n1_ n2_
              replace BK179:=Aside0.mk (blk_drew BK179.out)
              replace BK183:=Aside0.mk (blk_drew BK183.out)
              replace HB:=Aside0.mk (below_drew1 HB.out)
              have p185 : 0 ≤ ((ji15) : Int):=zD0
              have q185 : (ji15) < (l0_1.length : Int):=zD0
              obtain ⟨ad185,e185,hx185_0,hx185_1,hx185_2⟩:=at_T100 HR0_1.out (ji15) p185 q185
              have hw185_2:=hx185_2
              have hw185_1:=hx185_1
              have hw185_0:=hx185_0
              obtain rfl : ad182 = ad185:=(by injection e185)
              replace hx185_0:=zx0 HB hx185_0
              replace hx185_1:=zx0 HB hx185_1
              replace hx185_2:=zx0 HB hx185_2
              replace p185:=eq_true p185
              replace q185:=eq_true q185
              refine start_ (n:=36) (S:=fun w' => w'.cell? ⟨gb183,0,none⟩ = some (.string ((rd_T100 l0_1 x3_2).f0)) ∧ w'.cell? ⟨gb183,1,none⟩ = some (.string ((rd_T100 l0_1 x3_2).f1)) ∧ w'.cell? ⟨gb183,2,none⟩ = some (.bool ((rd_T100 l0_1 x3_2).f2)) ∧ w'.cell? ⟨gb179,0,none⟩ = some (.int .i64 a0_0) ∧ w'.cell? ⟨gb179,1,none⟩ = some (.slice (some ad182) l0_1.length c0_1) ∧ w'.cell? (ad182.add (((ji15)).toNat * 3)) = some (.string ((rd_T100 l0_1 (ji15)).f0)) ∧ w'.cell? ⟨(ad182.add (((ji15)).toNat * 3)).block,(ad182.add (((ji15)).toNat * 3)).off + 1,none⟩ = some (.string ((rd_T100 l0_1 (ji15)).f1)) ∧ w'.cell? ⟨(ad182.add (((ji15)).toNat * 3)).block,(ad182.add (((ji15)).toNat * 3)).off + 2,none⟩ = some (.bool ((rd_T100 l0_1 (ji15)).f2))) (ds:=[]) (zF0 36 0) (by kernel_rfl) rfl rfl ⟨zc00 BK183,zc01 BK183,zc02 BK183,zc00 BK179,zc01 BK179,(zx0 HB hw185_0 :),(zx0 HB hw185_1 :),(zx0 HB hw185_2 :)⟩ (fun hHeld => ?_);refine with_tabW spec_BatchOk.tab7 spec_BatchOk.bits7 (fun HT_ HW_ => ?_)
              generalize w24.drew = w25 at BK179 BK183 HB hx185_0 hx185_1 hx185_2 hHeld ⊢
              refine zp0 0 28 36 1 HT_ ?_
              refine zt0 1 29 36 3 HT_ HW_ hHeld ?_
              refine zp0 2 30 36 7 HT_ ?_
              refine one_ (i:=3) (N:=some 31) (zF0 36 15) rfl rfl (one_of HT_.out (by kernel_rfl)) (by decide) (fun K hK => ?_)
              refine goes_ Tryz.func31 (by kernel_rfl) rfl #[.int .i64 (((rd_T100 l0_1 x3_2).f0).size : Int),.int .i64 1,.int .i64 20] (by rfl) rfl rfl zM0 ?_
              with_reducible refine (spec_l01In.calls (((rd_T100 l0_1 x3_2).f0).size : Int) 1 20 true _ A12.out).mono ?_
              rintro e w' ⟨rfl,⟨nd,rfl⟩⟩
              refine ⟨_,rfl,?_⟩
              refine hK.out _ _ ⟨zc00 BK183,zc01 BK183,zc02 BK183,zc00 BK179,zc01 BK179,(zx0 HB hw185_0 :),(zx0 HB hw185_1 :),(zx0 HB hw185_2 :)⟩ (fun hHeld => ?_)
              clear hK K
              refine norm_ (a':=?_) ?_ ?_;rotate_left
              ·show Act.put _ (some 31) _ = _;simp only [Act.put,qA0,qB0,qC0,i64_w,i32_w];rfl
              refine zp0 4 32 36 31 HT_ ?_
              refine zp0 5 33 36 63 HT_ ?_
              refine zp0 6 34 36 127 HT_ ?_
              refine zp0 7 35 36 255 HT_ ?_
              refine zp0 8 36 36 511 HT_ ?_
              refine zp0 9 37 36 1023 HT_ ?_
              refine zp0 11 39 36 3071 HT_ ?_
              refine zp0 12 40 36 7167 HT_ ?_
              refine zp0 16 44 36 72703 HT_ ?_
              refine zt0 10 38 36 73727 HT_ HW_ hHeld ?_
              refine zp0 13 41 36 81919 HT_ ?_
              refine zp0 14 42 36 98303 HT_ ?_
              refine zt0 15 43 36 131071 HT_ HW_ hHeld ?_
              refine zt0 17 45 36 262143 HT_ HW_ hHeld ?_
              refine zp0 18 46 36 524287 HT_ ?_
              refine zp0 19 47 36 1048575 HT_ ?_
              refine zp0 20 48 36 2097151 HT_ ?_
              refine zp0 21 49 36 4194303 HT_ ?_
              refine zp0 22 50 36 8388607 HT_ ?_
              refine zt0 23 51 36 16777215 HT_ HW_ hHeld ?_
              refine zp0 24 52 36 33554431 HT_ ?_
              refine zp0 25 53 36 67108863 HT_ ?_
              refine zp0 26 54 36 134217727 HT_ ?_
              refine zp0 27 55 36 268435455 HT_ ?_
              refine zq0 28 56 36 536870911 HT_ ?_
              refine zq0 29 57 36 1073741823 HT_ ?_
              refine zq0 30 58 36 2147483647 HT_ ?_
              refine zq0 31 59 36 4294967295 HT_ ?_
              refine zq0 32 60 36 8589934591 HT_ ?_
              refine zq0 33 61 36 17179869183 HT_ ?_
              refine zq0 34 62 36 34359738367 HT_ ?_
              refine zp0 35 63 36 68719476735 HT_ ?_
              refine done_ (done_of HT_.out (by kernel_rfl)) ?_
              try go_wp2
              go_ret
              exact ⟨by first | rfl | (simp [errW_none,errW_some] <;> rfl) | (simp only [← hji15];first | rfl | (simp [errW_none,errW_some] <;> rfl)) | (simp [*,errW_none,errW_some] <;> rfl),(zY0 HB.out)⟩
             ·rw [if_neg c19] at H
              have c19b0 : decide (2000 < (((rd_T100 l0_1 x3_2).f1).size : Int)) = false:=decide_eq_false c19
              have c19b1 : decide (2000 < ((rd_T100 l0_1 x3_2).f1).size) = false:=decide_eq_false (by omega)
              clear c19
              obtain ⟨bq26,hbq26⟩ : ∃ b_ : Bool,b_ = ((rd_T100 l0_1 x3_2).f2):=⟨_,rfl⟩
              replace H : (if bq26 = true then (if ((rd_T100 l0_1 x3_2).f1).toList = ([] : List UInt8) then (spec_BatchOk.l0 k2 (wrap64 (x3_2 + 1)) a0_0 l0_1) else (some false)) else (spec_BatchOk.l0 k2 (wrap64 (x3_2 + 1)) a0_0 l0_1)) = some r:=by rw [← hbq26] at H;exact H
              have Nbq26:=Aside0.mk hbq26
              clear hbq26
              by_cases c27 : bq26 = true
              ·subst c27
               rw [if_pos rfl] at H
               by_cases c28 : ((rd_T100 l0_1 x3_2).f1).toList = ([] : List UInt8)
               ·rw [if_pos c28] at H
                have c28b0 : (((rd_T100 l0_1 x3_2).f1).toList == ([] : List UInt8)) = true:=beq_iff_eq.mpr c28
                have c28b1 : (((rd_T100 l0_1 x3_2).f1).toList != ([] : List UInt8)) = false:=bne_eq_false_iff_eq.mpr c28
                clear c28
                have H':=Aside0.mk H
                clear H
                have hcz29_0 : wr.cell? ⟨gb179,0,none⟩ = some (.int .i64 a0_0):=zc00 BK179
                have hcz29_1 : wr.cell? ⟨gb179,1,none⟩ = some (.slice A0_1 l0_1.length c0_1):=zc01 BK179
                have hfz29_0:=blk_frozen BK179.out 0
                have hfz29_1:=blk_frozen BK179.out 1
                have p182 : 0 ≤ (x3_2 : Int):=zD0
                have q182 : x3_2 < (l0_1.length : Int):=zD0
                obtain ⟨ad182,e182,hx182_0,hx182_1,hx182_2⟩:=at_T100 HR0_1.out x3_2 p182 q182
                (try rw [← Nbq26.out] at hx182_2)
                cases e182
                replace hx182_0:=zx0 HB hx182_0
                replace hx182_1:=zx0 HB hx182_1
                replace hx182_2:=zx0 HB hx182_2
                replace p182:=eq_true p182
                replace q182:=eq_true q182
                try go_wp2_with (first | ((with_reducible refine gate_dst (N:=4) rfl ?_);(try (refine gate_guard (by rfl) ?_;dsimp only));refine zy0 (cs:=#[.string (⟨#[]⟩ : ByteArray),.string (⟨#[]⟩ : ByteArray),.bool false]) (t:=100) ?_;intro gb183 hg w30 hbox hb;have BK183:=Aside0.mk hbox;have GW183:=zz0 hg HB;have GE183:=zz0 hg HB;replace HB:=zs0 HB hb;have NB179_183:=zl0 hg BK179;have NB183_179:=zg0 hg BK179;replace BK179:=zb0 BK179 hb;clear hb hbox hg;obtain ⟨_,_⟩:=zn0 NB183_179;obtain ⟨_,_,_,_,_,_⟩:=zd03 BK183))
                have n0_ : Aside0 ((((w30.setCell ⟨gb183,0,none⟩ (.string ((rd_T100 l0_1 x3_2).f0))).setCell ⟨gb183,1,none⟩ (.string ((rd_T100 l0_1 x3_2).f1))).setCell ⟨gb183,2,none⟩ (.bool true)).heap[gb179]? = some (.cells #[.int .i64 a0_0,.slice (some ad182) l0_1.length c0_1] 70 (0,0))):=⟨zK0 BK179.out⟩
                have n1_ : Aside0 ((((w30.setCell ⟨gb183,0,none⟩ (.string ((rd_T100 l0_1 x3_2).f0))).setCell ⟨gb183,1,none⟩ (.string ((rd_T100 l0_1 x3_2).f1))).setCell ⟨gb183,2,none⟩ (.bool true)).heap[gb183]? = some (.cells #[.string ((rd_T100 l0_1 x3_2).f0),.string ((rd_T100 l0_1 x3_2).f1),.bool true] 100 (0,0))):=⟨by refine zT0 ?_;refine blk_put (cs:=#[.string ((rd_T100 l0_1 x3_2).f0),.string ((rd_T100 l0_1 x3_2).f1),.bool false]) ?_ 2 _ rfl;refine zT0 ?_;refine blk_put (cs:=#[.string ((rd_T100 l0_1 x3_2).f0),.string (⟨#[]⟩ : ByteArray),.bool false]) ?_ 1 _ rfl;refine zT0 ?_;refine blk_put (cs:=#[.string (⟨#[]⟩ : ByteArray),.string (⟨#[]⟩ : ByteArray),.bool false]) ?_ 0 _ rfl;exact zK0 BK183.out⟩
                have n2_ : Aside0 (Below w.heap.size w (((w30.setCell ⟨gb183,0,none⟩ (.string ((rd_T100 l0_1 x3_2).f0))).setCell ⟨gb183,1,none⟩ (.string ((rd_T100 l0_1 x3_2).f1))).setCell ⟨gb183,2,none⟩ (.bool true))):=⟨zY0 HB.out⟩
                (try clear BK179)
                (try clear BK183)
                (try clear HB)
                generalize (((w30.setCell ⟨gb183,0,none⟩ (.string ((rd_T100 l0_1 x3_2).f0))).setCell ⟨gb183,1,none⟩ (.string ((rd_T100 l0_1 x3_2).f1))).setCell ⟨gb183,2,none⟩ (.bool true)) = w33 at n0_ n1_ n2_ ⊢
                have BK179:=n0_
                have BK183:=n1_
                have HB:=n2_
                clear n0_ n1_ n2_
                replace BK179:=Aside0.mk (blk_drew BK179.out)
                replace BK183:=Aside0.mk (blk_drew BK183.out)
                replace HB:=Aside0.mk (below_drew1 HB.out)
                have p185 : 0 ≤ ((ji15) : Int):=zD0
                have q185 : (ji15) < (l0_1.length : Int):=zD0
                obtain ⟨ad185,e185,hx185_0,hx185_1,hx185_2⟩:=at_T100 HR0_1.out (ji15) p185 q185
                have hw185_2:=hx185_2
                have hw185_1:=hx185_1
                have hw185_0:=hx185_0
                (try rw [← Nbq26.out] at hx185_2)
                obtain rfl : ad182 = ad185:=(by injection e185)
                replace hx185_0:=zx0 HB hx185_0
                replace hx185_1:=zx0 HB hx185_1
                replace hx185_2:=zx0 HB hx185_2
                replace p185:=eq_true p185
                replace q185:=eq_true q185
                refine start_ (n:=36) (S:=fun w' => w'.cell? ⟨gb183,0,none⟩ = some (.string ((rd_T100 l0_1 x3_2).f0)) ∧ w'.cell? ⟨gb183,1,none⟩ = some (.string ((rd_T100 l0_1 x3_2).f1)) ∧ w'.cell? ⟨gb183,2,none⟩ = some (.bool true) ∧ w'.cell? ⟨gb179,0,none⟩ = some (.int .i64 a0_0) ∧ w'.cell? ⟨gb179,1,none⟩ = some (.slice (some ad182) l0_1.length c0_1) ∧ w'.cell? (ad182.add (((ji15)).toNat * 3)) = some (.string ((rd_T100 l0_1 (ji15)).f0)) ∧ w'.cell? ⟨(ad182.add (((ji15)).toNat * 3)).block,(ad182.add (((ji15)).toNat * 3)).off + 1,none⟩ = some (.string ((rd_T100 l0_1 (ji15)).f1)) ∧ w'.cell? ⟨(ad182.add (((ji15)).toNat * 3)).block,(ad182.add (((ji15)).toNat * 3)).off + 2,none⟩ = some (.bool ((rd_T100 l0_1 (ji15)).f2))) (ds:=[]) (zF0 36 0) (by kernel_rfl) rfl rfl ⟨zc00 BK183,zc01 BK183,zc02 BK183,zc00 BK179,zc01 BK179,(zx0 HB hw185_0 :),(zx0 HB hw185_1 :),(zx0 HB hw185_2 :)⟩ (fun hHeld => ?_);refine with_tabW spec_BatchOk.tab7 spec_BatchOk.bits7 (fun HT_ HW_ => ?_)
                generalize w33.drew = w34 at BK179 BK183 HB hx185_0 hx185_1 hx185_2 hHeld ⊢
                refine zp0 0 28 36 1 HT_ ?_
                refine zt0 1 29 36 3 HT_ HW_ hHeld ?_
                refine zp0 2 30 36 7 HT_ ?_
                refine one_ (i:=3) (N:=some 31) (zF0 36 15) rfl rfl (one_of HT_.out (by kernel_rfl)) (by decide) (fun K hK => ?_)
                refine goes_ Tryz.func31 (by kernel_rfl) rfl #[.int .i64 (((rd_T100 l0_1 x3_2).f0).size : Int),.int .i64 1,.int .i64 20] (by rfl) rfl rfl zM0 ?_
                with_reducible refine (spec_l01In.calls (((rd_T100 l0_1 x3_2).f0).size : Int) 1 20 true _ A12.out).mono ?_
                rintro e w' ⟨rfl,⟨nd,rfl⟩⟩
                refine ⟨_,rfl,?_⟩
                refine hK.out _ _ ⟨zc00 BK183,zc01 BK183,zc02 BK183,zc00 BK179,zc01 BK179,(zx0 HB hw185_0 :),(zx0 HB hw185_1 :),(zx0 HB hw185_2 :)⟩ (fun hHeld => ?_)
                clear hK K
                refine norm_ (a':=?_) ?_ ?_;rotate_left
                ·show Act.put _ (some 31) _ = _;simp only [Act.put,qA0,qB0,qC0,i64_w,i32_w];rfl
                refine zp0 4 32 36 31 HT_ ?_
                refine zp0 5 33 36 63 HT_ ?_
                refine zp0 6 34 36 127 HT_ ?_
                refine zp0 7 35 36 255 HT_ ?_
                refine zp0 8 36 36 511 HT_ ?_
                refine zp0 9 37 36 1023 HT_ ?_
                refine zp0 11 39 36 3071 HT_ ?_
                refine zp0 12 40 36 7167 HT_ ?_
                refine zp0 16 44 36 72703 HT_ ?_
                refine zt0 10 38 36 73727 HT_ HW_ hHeld ?_
                refine zp0 13 41 36 81919 HT_ ?_
                refine zp0 14 42 36 98303 HT_ ?_
                refine zt0 15 43 36 131071 HT_ HW_ hHeld ?_
                refine zt0 17 45 36 262143 HT_ HW_ hHeld ?_
                refine zp0 18 46 36 524287 HT_ ?_
                refine zp0 19 47 36 1048575 HT_ ?_
                refine zp0 20 48 36 2097151 HT_ ?_
                refine zp0 21 49 36 4194303 HT_ ?_
                refine zp0 22 50 36 8388607 HT_ ?_
                refine zt0 23 51 36 16777215 HT_ HW_ hHeld ?_
                refine zp0 24 52 36 33554431 HT_ ?_
                refine zp0 25 53 36 67108863 HT_ ?_
                refine zp0 26 54 36 134217727 HT_ ?_
                refine zp0 27 55 36 268435455 HT_ ?_
                refine zp0 28 56 36 536870911 HT_ ?_
                refine zt0 29 57 36 1073741823 HT_ HW_ hHeld ?_
                refine zp0 30 58 36 2147483647 HT_ ?_
                refine zp0 31 59 36 4294967295 HT_ ?_
                refine zt0 32 60 36 8589934591 HT_ HW_ hHeld ?_
                refine zp0 33 61 36 17179869183 HT_ ?_
                refine zp0 34 62 36 34359738367 HT_ ?_
                refine zp0 35 63 36 68719476735 HT_ ?_
                refine done_ (done_of HT_.out (by kernel_rfl)) ?_
                try go_wp2
                go_roundg k2
                case measure => have:=HJ1.out;have:=HK2.out;omega
                case rel => exact ⟨(wrap64 (x3_2 + 1)),zE0,H',⟨by have:=HJ1.out;have:=HK2.out;omega⟩,⟨zK0 BK179.out⟩,⟨zY0 HB.out⟩⟩
               ·rw [if_neg c28] at H
                have c28b0 : (((rd_T100 l0_1 x3_2).f1).toList == ([] : List UInt8)) = false:=beq_eq_false_iff_ne.mpr c28
                have c28b1 : (((rd_T100 l0_1 x3_2).f1).toList != ([] : List UInt8)) = true:=bne_iff_ne.mpr c28
                obtain rfl:=Option.some.inj H
                have hcz35_0 : wr.cell? ⟨gb179,0,none⟩ = some (.int .i64 a0_0):=zc00 BK179
                have hcz35_1 : wr.cell? ⟨gb179,1,none⟩ = some (.slice A0_1 l0_1.length c0_1):=zc01 BK179
                have hfz35_0:=blk_frozen BK179.out 0
                have hfz35_1:=blk_frozen BK179.out 1
                have p182 : 0 ≤ (x3_2 : Int):=zD0
                have q182 : x3_2 < (l0_1.length : Int):=zD0
                obtain ⟨ad182,e182,hx182_0,hx182_1,hx182_2⟩:=at_T100 HR0_1.out x3_2 p182 q182
                (try rw [← Nbq26.out] at hx182_2)
                cases e182
                replace hx182_0:=zx0 HB hx182_0
                replace hx182_1:=zx0 HB hx182_1
                replace hx182_2:=zx0 HB hx182_2
                replace p182:=eq_true p182
                replace q182:=eq_true q182
                try go_wp2_with (first | ((with_reducible refine gate_dst (N:=4) rfl ?_);(try (refine gate_guard (by rfl) ?_;dsimp only));refine zy0 (cs:=#[.string (⟨#[]⟩ : ByteArray),.string (⟨#[]⟩ : ByteArray),.bool false]) (t:=100) ?_;intro gb183 hg w36 hbox hb;have BK183:=Aside0.mk hbox;have GW183:=zz0 hg HB;have GE183:=zz0 hg HB;replace HB:=zs0 HB hb;have NB179_183:=zl0 hg BK179;have NB183_179:=zg0 hg BK179;replace BK179:=zb0 BK179 hb;clear hb hbox hg;obtain ⟨_,_⟩:=zn0 NB183_179;obtain ⟨_,_,_,_,_,_⟩:=zd03 BK183))
                have n0_ : Aside0 ((((w36.setCell ⟨gb183,0,none⟩ (.string ((rd_T100 l0_1 x3_2).f0))).setCell ⟨gb183,1,none⟩ (.string ((rd_T100 l0_1 x3_2).f1))).setCell ⟨gb183,2,none⟩ (.bool true)).heap[gb179]? = some (.cells #[.int .i64 a0_0,.slice (some ad182) l0_1.length c0_1] 70 (0,0))):=⟨zK0 BK179.out⟩
                have n1_ : Aside0 ((((w36.setCell ⟨gb183,0,none⟩ (.string ((rd_T100 l0_1 x3_2).f0))).setCell ⟨gb183,1,none⟩ (.string ((rd_T100 l0_1 x3_2).f1))).setCell ⟨gb183,2,none⟩ (.bool true)).heap[gb183]? = some (.cells #[.string ((rd_T100 l0_1 x3_2).f0),.string ((rd_T100 l0_1 x3_2).f1),.bool true] 100 (0,0))):=⟨by refine zT0 ?_;refine blk_put (cs:=#[.string ((rd_T100 l0_1 x3_2).f0),.string ((rd_T100 l0_1 x3_2).f1),.bool false]) ?_ 2 _ rfl;refine zT0 ?_;refine blk_put (cs:=#[.string ((rd_T100 l0_1 x3_2).f0),.string (⟨#[]⟩ : ByteArray),.bool false]) ?_ 1 _ rfl;refine zT0 ?_;refine blk_put (cs:=#[.string (⟨#[]⟩ : ByteArray),.string (⟨#[]⟩ : ByteArray),.bool false]) ?_ 0 _ rfl;exact zK0 BK183.out⟩
                have n2_ : Aside0 (Below w.heap.size w (((w36.setCell ⟨gb183,0,none⟩ (.string ((rd_T100 l0_1 x3_2).f0))).setCell ⟨gb183,1,none⟩ (.string ((rd_T100 l0_1 x3_2).f1))).setCell ⟨gb183,2,none⟩ (.bool true))):=⟨zY0 HB.out⟩
                (try clear BK179)
                (try clear BK183)
                (try clear HB)
                generalize (((w36.setCell ⟨gb183,0,none⟩ (.string ((rd_T100 l0_1 x3_2).f0))).setCell ⟨gb183,1,none⟩ (.string ((rd_T100 l0_1 x3_2).f1))).setCell ⟨gb183,2,none⟩ (.bool true)) = w39 at n0_ n1_ n2_ ⊢
                have BK179:=n0_
                have BK183:=n1_
                have HB:=n2_
                clear n0_ n1_ n2_
                replace BK179:=Aside0.mk (blk_drew BK179.out)
                replace BK183:=Aside0.mk (blk_drew BK183.out)
                replace HB:=Aside0.mk (below_drew1 HB.out)
                have p185 : 0 ≤ ((ji15) : Int):=zD0
                have q185 : (ji15) < (l0_1.length : Int):=zD0
                obtain ⟨ad185,e185,hx185_0,hx185_1,hx185_2⟩:=at_T100 HR0_1.out (ji15) p185 q185
                have hw185_2:=hx185_2
                have hw185_1:=hx185_1
                have hw185_0:=hx185_0
                (try rw [← Nbq26.out] at hx185_2)
                obtain rfl : ad182 = ad185:=(by injection e185)
                replace hx185_0:=zx0 HB hx185_0
                replace hx185_1:=zx0 HB hx185_1
                replace hx185_2:=zx0 HB hx185_2
                replace p185:=eq_true p185
                replace q185:=eq_true q185
                refine start_ (n:=36) (S:=fun w' => w'.cell? ⟨gb183,0,none⟩ = some (.string ((rd_T100 l0_1 x3_2).f0)) ∧ w'.cell? ⟨gb183,1,none⟩ = some (.string ((rd_T100 l0_1 x3_2).f1)) ∧ w'.cell? ⟨gb183,2,none⟩ = some (.bool true) ∧ w'.cell? ⟨gb179,0,none⟩ = some (.int .i64 a0_0) ∧ w'.cell? ⟨gb179,1,none⟩ = some (.slice (some ad182) l0_1.length c0_1) ∧ w'.cell? (ad182.add (((ji15)).toNat * 3)) = some (.string ((rd_T100 l0_1 (ji15)).f0)) ∧ w'.cell? ⟨(ad182.add (((ji15)).toNat * 3)).block,(ad182.add (((ji15)).toNat * 3)).off + 1,none⟩ = some (.string ((rd_T100 l0_1 (ji15)).f1)) ∧ w'.cell? ⟨(ad182.add (((ji15)).toNat * 3)).block,(ad182.add (((ji15)).toNat * 3)).off + 2,none⟩ = some (.bool ((rd_T100 l0_1 (ji15)).f2))) (ds:=[]) (zF0 36 0) (by kernel_rfl) rfl rfl ⟨zc00 BK183,zc01 BK183,zc02 BK183,zc00 BK179,zc01 BK179,(zx0 HB hw185_0 :),(zx0 HB hw185_1 :),(zx0 HB hw185_2 :)⟩ (fun hHeld => ?_);refine with_tabW spec_BatchOk.tab7 spec_BatchOk.bits7 (fun HT_ HW_ => ?_)
                generalize w39.drew = w40 at BK179 BK183 HB hx185_0 hx185_1 hx185_2 hHeld ⊢
                refine zp0 0 28 36 1 HT_ ?_
                refine zt0 1 29 36 3 HT_ HW_ hHeld ?_
                refine zp0 2 30 36 7 HT_ ?_
                refine one_ (i:=3) (N:=some 31) (zF0 36 15) rfl rfl (one_of HT_.out (by kernel_rfl)) (by decide) (fun K hK => ?_)
                refine goes_ Tryz.func31 (by kernel_rfl) rfl #[.int .i64 (((rd_T100 l0_1 x3_2).f0).size : Int),.int .i64 1,.int .i64 20] (by rfl) rfl rfl zM0 ?_
                with_reducible refine (spec_l01In.calls (((rd_T100 l0_1 x3_2).f0).size : Int) 1 20 true _ A12.out).mono ?_
                rintro e w' ⟨rfl,⟨nd,rfl⟩⟩
                refine ⟨_,rfl,?_⟩
                refine hK.out _ _ ⟨zc00 BK183,zc01 BK183,zc02 BK183,zc00 BK179,zc01 BK179,(zx0 HB hw185_0 :),(zx0 HB hw185_1 :),(zx0 HB hw185_2 :)⟩ (fun hHeld => ?_)
                clear hK K
                refine norm_ (a':=?_) ?_ ?_;rotate_left
                ·show Act.put _ (some 31) _ = _;simp only [Act.put,qA0,qB0,qC0,i64_w,i32_w];rfl
                refine zp0 4 32 36 31 HT_ ?_
                refine zp0 5 33 36 63 HT_ ?_
                refine zp0 6 34 36 127 HT_ ?_
                refine zp0 7 35 36 255 HT_ ?_
                refine zp0 8 36 36 511 HT_ ?_
                refine zp0 9 37 36 1023 HT_ ?_
                refine zp0 11 39 36 3071 HT_ ?_
                refine zp0 12 40 36 7167 HT_ ?_
                refine zp0 16 44 36 72703 HT_ ?_
                refine zt0 10 38 36 73727 HT_ HW_ hHeld ?_
                refine zp0 13 41 36 81919 HT_ ?_
                refine zp0 14 42 36 98303 HT_ ?_
                refine zt0 15 43 36 131071 HT_ HW_ hHeld ?_
                refine zt0 17 45 36 262143 HT_ HW_ hHeld ?_
                refine zp0 18 46 36 524287 HT_ ?_
                refine zp0 19 47 36 1048575 HT_ ?_
                refine zp0 20 48 36 2097151 HT_ ?_
                refine zp0 21 49 36 4194303 HT_ ?_
                refine zp0 22 50 36 8388607 HT_ ?_
                refine zt0 23 51 36 16777215 HT_ HW_ hHeld ?_
                refine zp0 24 52 36 33554431 HT_ ?_
                refine zp0 25 53 36 67108863 HT_ ?_
                refine zp0 26 54 36 134217727 HT_ ?_
                refine zp0 27 55 36 268435455 HT_ ?_
                refine zp0 28 56 36 536870911 HT_ ?_
                refine zt0 29 57 36 1073741823 HT_ HW_ hHeld ?_
                refine zp0 30 58 36 2147483647 HT_ ?_
                refine zp0 31 59 36 4294967295 HT_ ?_
                refine zt0 32 60 36 8589934591 HT_ HW_ hHeld ?_
                refine zp0 33 61 36 17179869183 HT_ ?_
                refine zp0 34 62 36 34359738367 HT_ ?_
                refine zp0 35 63 36 68719476735 HT_ ?_
                refine done_ (done_of HT_.out (by kernel_rfl)) ?_
                try go_wp2
                go_ret
                exact ⟨by first | rfl | (simp [errW_none,errW_some] <;> rfl) | (simp only [← hji15];first | rfl | (simp [errW_none,errW_some] <;> rfl)) | (simp [*,errW_none,errW_some] <;> rfl),(zY0 HB.out)⟩
              ·replace c27:=Bool.eq_false_iff.mpr c27
               subst c27
               rw [if_neg (show ¬ (false = true) by decide)] at H
               have H':=Aside0.mk H
               clear H
               have hcz41_0 : wr.cell? ⟨gb179,0,none⟩ = some (.int .i64 a0_0):=zc00 BK179
               have hcz41_1 : wr.cell? ⟨gb179,1,none⟩ = some (.slice A0_1 l0_1.length c0_1):=zc01 BK179
               have hfz41_0:=blk_frozen BK179.out 0
               have hfz41_1:=blk_frozen BK179.out 1
               have p182 : 0 ≤ (x3_2 : Int):=zD0
               have q182 : x3_2 < (l0_1.length : Int):=zD0
               obtain ⟨ad182,e182,hx182_0,hx182_1,hx182_2⟩:=at_T100 HR0_1.out x3_2 p182 q182
               (try rw [← Nbq26.out] at hx182_2)
               cases e182
               replace hx182_0:=zx0 HB hx182_0
               replace hx182_1:=zx0 HB hx182_1
               replace hx182_2:=zx0 HB hx182_2
               replace p182:=eq_true p182
               replace q182:=eq_true q182
               try go_wp2_with (first | ((with_reducible refine gate_dst (N:=4) rfl ?_);(try (refine gate_guard (by rfl) ?_;dsimp only));refine zy0 (cs:=#[.string (⟨#[]⟩ : ByteArray),.string (⟨#[]⟩ : ByteArray),.bool false]) (t:=100) ?_;intro gb183 hg w42 hbox hb;have BK183:=Aside0.mk hbox;have GW183:=zz0 hg HB;have GE183:=zz0 hg HB;replace HB:=zs0 HB hb;have NB179_183:=zl0 hg BK179;have NB183_179:=zg0 hg BK179;replace BK179:=zb0 BK179 hb;clear hb hbox hg;obtain ⟨_,_⟩:=zn0 NB183_179;obtain ⟨_,_,_,_,_,_⟩:=zd03 BK183))
               have n0_ : Aside0 ((((w42.setCell ⟨gb183,0,none⟩ (.string ((rd_T100 l0_1 x3_2).f0))).setCell ⟨gb183,1,none⟩ (.string ((rd_T100 l0_1 x3_2).f1))).setCell ⟨gb183,2,none⟩ (.bool false)).heap[gb179]? = some (.cells #[.int .i64 a0_0,.slice (some ad182) l0_1.length c0_1] 70 (0,0))):=⟨zK0 BK179.out⟩
               have n1_ : Aside0 ((((w42.setCell ⟨gb183,0,none⟩ (.string ((rd_T100 l0_1 x3_2).f0))).setCell ⟨gb183,1,none⟩ (.string ((rd_T100 l0_1 x3_2).f1))).setCell ⟨gb183,2,none⟩ (.bool false)).heap[gb183]? = some (.cells #[.string ((rd_T100 l0_1 x3_2).f0),.string ((rd_T100 l0_1 x3_2).f1),.bool false] 100 (0,0))):=⟨by refine zT0 ?_;refine blk_put (cs:=#[.string ((rd_T100 l0_1 x3_2).f0),.string ((rd_T100 l0_1 x3_2).f1),.bool false]) ?_ 2 _ rfl;refine zT0 ?_;refine blk_put (cs:=#[.string ((rd_T100 l0_1 x3_2).f0),.string (⟨#[]⟩ : ByteArray),.bool false]) ?_ 1 _ rfl;refine zT0 ?_;refine blk_put (cs:=#[.string (⟨#[]⟩ : ByteArray),.string (⟨#[]⟩ : ByteArray),.bool false]) ?_ 0 _ rfl;exact zK0 BK183.out⟩
               have n2_ : Aside0 (Below w.heap.size w (((w42.setCell ⟨gb183,0,none⟩ (.string ((rd_T100 l0_1 x3_2).f0))).setCell ⟨gb183,1,none⟩ (.string ((rd_T100 l0_1 x3_2).f1))).setCell ⟨gb183,2,none⟩ (.bool false))):=⟨zY0 HB.out⟩
               (try clear BK179)
               (try clear BK183)
               (try clear HB)
               generalize (((w42.setCell ⟨gb183,0,none⟩ (.string ((rd_T100 l0_1 x3_2).f0))).setCell ⟨gb183,1,none⟩ (.string ((rd_T100 l0_1 x3_2).f1))).setCell ⟨gb183,2,none⟩ (.bool false)) = w45 at n0_ n1_ n2_ ⊢
               have BK179:=n0_
               have BK183:=n1_
               have HB:=n2_
               clear n0_ n1_ n2_
               replace BK179:=Aside0.mk (blk_drew BK179.out)
               replace BK183:=Aside0.mk (blk_drew BK183.out)
               replace HB:=Aside0.mk (below_drew1 HB.out)
               have p185 : 0 ≤ ((ji15) : Int):=zD0
               have q185 : (ji15) < (l0_1.length : Int):=zD0
               obtain ⟨ad185,e185,hx185_0,hx185_1,hx185_2⟩:=at_T100 HR0_1.out (ji15) p185 q185
               have hw185_2:=hx185_2
               have hw185_1:=hx185_1
               have hw185_0:=hx185_0
               (try rw [← Nbq26.out] at hx185_2)
               obtain rfl : ad182 = ad185:=(by injection e185)
               replace hx185_0:=zx0 HB hx185_0
               replace hx185_1:=zx0 HB hx185_1
               replace hx185_2:=zx0 HB hx185_2
               replace p185:=eq_true p185
               replace q185:=eq_true q185
               refine start_ (n:=36) (S:=fun w' => w'.cell? ⟨gb183,0,none⟩ = some (.string ((rd_T100 l0_1 x3_2).f0)) ∧ w'.cell? ⟨gb183,1,none⟩ = some (.string ((rd_T100 l0_1 x3_2).f1)) ∧ w'.cell? ⟨gb183,2,none⟩ = some (.bool false) ∧ w'.cell? ⟨gb179,0,none⟩ = some (.int .i64 a0_0) ∧ w'.cell? ⟨gb179,1,none⟩ = some (.slice (some ad182) l0_1.length c0_1) ∧ w'.cell? (ad182.add (((ji15)).toNat * 3)) = some (.string ((rd_T100 l0_1 (ji15)).f0)) ∧ w'.cell? ⟨(ad182.add (((ji15)).toNat * 3)).block,(ad182.add (((ji15)).toNat * 3)).off + 1,none⟩ = some (.string ((rd_T100 l0_1 (ji15)).f1)) ∧ w'.cell? ⟨(ad182.add (((ji15)).toNat * 3)).block,(ad182.add (((ji15)).toNat * 3)).off + 2,none⟩ = some (.bool ((rd_T100 l0_1 (ji15)).f2))) (ds:=[]) (zF0 36 0) (by kernel_rfl) rfl rfl ⟨zc00 BK183,zc01 BK183,zc02 BK183,zc00 BK179,zc01 BK179,(zx0 HB hw185_0 :),(zx0 HB hw185_1 :),(zx0 HB hw185_2 :)⟩ (fun hHeld => ?_);refine with_tabW spec_BatchOk.tab7 spec_BatchOk.bits7 (fun HT_ HW_ => ?_)
               generalize w45.drew = w46 at BK179 BK183 HB hx185_0 hx185_1 hx185_2 hHeld ⊢
               refine zp0 0 28 36 1 HT_ ?_
               refine zt0 1 29 36 3 HT_ HW_ hHeld ?_
               refine zp0 2 30 36 7 HT_ ?_
               refine one_ (i:=3) (N:=some 31) (zF0 36 15) rfl rfl (one_of HT_.out (by kernel_rfl)) (by decide) (fun K hK => ?_)
               refine goes_ Tryz.func31 (by kernel_rfl) rfl #[.int .i64 (((rd_T100 l0_1 x3_2).f0).size : Int),.int .i64 1,.int .i64 20] (by rfl) rfl rfl zM0 ?_
               with_reducible refine (spec_l01In.calls (((rd_T100 l0_1 x3_2).f0).size : Int) 1 20 true _ A12.out).mono ?_
               rintro e w' ⟨rfl,⟨nd,rfl⟩⟩
               refine ⟨_,rfl,?_⟩
               refine hK.out _ _ ⟨zc00 BK183,zc01 BK183,zc02 BK183,zc00 BK179,zc01 BK179,(zx0 HB hw185_0 :),(zx0 HB hw185_1 :),(zx0 HB hw185_2 :)⟩ (fun hHeld => ?_)
               clear hK K
               refine norm_ (a':=?_) ?_ ?_;rotate_left
               ·show Act.put _ (some 31) _ = _;simp only [Act.put,qA0,qB0,qC0,i64_w,i32_w];rfl
               refine zp0 4 32 36 31 HT_ ?_
               refine zp0 5 33 36 63 HT_ ?_
               refine zp0 6 34 36 127 HT_ ?_
               refine zp0 7 35 36 255 HT_ ?_
               refine zp0 8 36 36 511 HT_ ?_
               refine zp0 9 37 36 1023 HT_ ?_
               refine zp0 11 39 36 3071 HT_ ?_
               refine zp0 12 40 36 7167 HT_ ?_
               refine zp0 16 44 36 72703 HT_ ?_
               refine zt0 10 38 36 73727 HT_ HW_ hHeld ?_
               refine zp0 13 41 36 81919 HT_ ?_
               refine zp0 14 42 36 98303 HT_ ?_
               refine zt0 15 43 36 131071 HT_ HW_ hHeld ?_
               refine zt0 17 45 36 262143 HT_ HW_ hHeld ?_
               refine zp0 18 46 36 524287 HT_ ?_
               refine zp0 19 47 36 1048575 HT_ ?_
               refine zp0 20 48 36 2097151 HT_ ?_
               refine zp0 21 49 36 4194303 HT_ ?_
               refine zp0 22 50 36 8388607 HT_ ?_
               refine zt0 23 51 36 16777215 HT_ HW_ hHeld ?_
               refine zp0 24 52 36 33554431 HT_ ?_
               refine zp0 25 53 36 67108863 HT_ ?_
               refine zp0 26 54 36 134217727 HT_ ?_
               refine zp0 27 55 36 268435455 HT_ ?_
               refine zp0 28 56 36 536870911 HT_ ?_
               refine zt0 29 57 36 1073741823 HT_ HW_ hHeld ?_
               refine zp0 30 58 36 2147483647 HT_ ?_
               refine zq0 31 59 36 4294967295 HT_ ?_
               refine zq0 32 60 36 8589934591 HT_ ?_
               refine zq0 33 61 36 17179869183 HT_ ?_
               refine zp0 34 62 36 34359738367 HT_ ?_
               refine zp0 35 63 36 68719476735 HT_ ?_
               refine done_ (done_of HT_.out (by kernel_rfl)) ?_
               try go_wp2
               go_roundg k2
               case measure => have:=HJ1.out;have:=HK2.out;omega
               case rel => exact ⟨(wrap64 (x3_2 + 1)),zE0,H',⟨by have:=HJ1.out;have:=HK2.out;omega⟩,⟨zK0 BK179.out⟩,⟨zY0 HB.out⟩⟩
            ·rw [if_neg c18] at H
             have c18b0 : (Op.bytesLess (((rd_T100 l0_1 (ji15)).f0).toList) (((rd_T100 l0_1 x3_2).f0).toList)) = false:=by simpa using c18
             clear c18
             obtain rfl:=Option.some.inj H
             have hcz47_0 : wr.cell? ⟨gb179,0,none⟩ = some (.int .i64 a0_0):=zc00 BK179
             have hcz47_1 : wr.cell? ⟨gb179,1,none⟩ = some (.slice A0_1 l0_1.length c0_1):=zc01 BK179
             have hfz47_0:=blk_frozen BK179.out 0
             have hfz47_1:=blk_frozen BK179.out 1
             have p182 : 0 ≤ (x3_2 : Int):=zD0
             have q182 : x3_2 < (l0_1.length : Int):=zD0
             obtain ⟨ad182,e182,hx182_0,hx182_1,hx182_2⟩:=at_T100 HR0_1.out x3_2 p182 q182
             cases e182
             replace hx182_0:=zx0 HB hx182_0
             replace hx182_1:=zx0 HB hx182_1
             replace hx182_2:=zx0 HB hx182_2
             replace p182:=eq_true p182
             replace q182:=eq_true q182
             try go_wp2_with (first | ((with_reducible refine gate_dst (N:=4) rfl ?_);(try (refine gate_guard (by rfl) ?_;dsimp only));refine zy0 (cs:=#[.string (⟨#[]⟩ : ByteArray),.string (⟨#[]⟩ : ByteArray),.bool false]) (t:=100) ?_;intro gb183 hg w48 hbox hb;have BK183:=Aside0.mk hbox;have GW183:=zz0 hg HB;have GE183:=zz0 hg HB;replace HB:=zs0 HB hb;have NB179_183:=zl0 hg BK179;have NB183_179:=zg0 hg BK179;replace BK179:=zb0 BK179 hb;clear hb hbox hg;obtain ⟨_,_⟩:=zn0 NB183_179;obtain ⟨_,_,_,_,_,_⟩:=zd03 BK183))
             have n0_ : Aside0 ((((w48.setCell ⟨gb183,0,none⟩ (.string ((rd_T100 l0_1 x3_2).f0))).setCell ⟨gb183,1,none⟩ (.string ((rd_T100 l0_1 x3_2).f1))).setCell ⟨gb183,2,none⟩ (.bool ((rd_T100 l0_1 x3_2).f2))).heap[gb179]? = some (.cells #[.int .i64 a0_0,.slice (some ad182) l0_1.length c0_1] 70 (0,0))):=⟨zK0 BK179.out⟩
             have n1_ : Aside0 ((((w48.setCell ⟨gb183,0,none⟩ (.string ((rd_T100 l0_1 x3_2).f0))).setCell ⟨gb183,1,none⟩ (.string ((rd_T100 l0_1 x3_2).f1))).setCell ⟨gb183,2,none⟩ (.bool ((rd_T100 l0_1 x3_2).f2))).heap[gb183]? = some (.cells #[.string ((rd_T100 l0_1 x3_2).f0),.string ((rd_T100 l0_1 x3_2).f1),.bool ((rd_T100 l0_1 x3_2).f2)] 100 (0,0))):=⟨by refine zT0 ?_;refine blk_put (cs:=#[.string ((rd_T100 l0_1 x3_2).f0),.string ((rd_T100 l0_1 x3_2).f1),.bool false]) ?_ 2 _ rfl;refine zT0 ?_;refine blk_put (cs:=#[.string ((rd_T100 l0_1 x3_2).f0),.string (⟨#[]⟩ : ByteArray),.bool false]) ?_ 1 _ rfl;refine zT0 ?_;refine blk_put (cs:=#[.string (⟨#[]⟩ : ByteArray),.string (⟨#[]⟩ : ByteArray),.bool false]) ?_ 0 _ rfl;exact zK0 BK183.out⟩
             have n2_ : Aside0 (Below w.heap.size w (((w48.setCell ⟨gb183,0,none⟩ (.string ((rd_T100 l0_1 x3_2).f0))).setCell ⟨gb183,1,none⟩ (.string ((rd_T100 l0_1 x3_2).f1))).setCell ⟨gb183,2,none⟩ (.bool ((rd_T100 l0_1 x3_2).f2)))):=⟨zY0 HB.out⟩
             (try clear BK179)
             (try clear BK183)
             (try clear HB)
             generalize (((w48.setCell ⟨gb183,0,none⟩ (.string ((rd_T100 l0_1 x3_2).f0))).setCell ⟨gb183,1,none⟩ (.string ((rd_T100 l0_1 x3_2).f1))).setCell ⟨gb183,2,none⟩ (.bool ((rd_T100 l0_1 x3_2).f2))) = w51 at n0_ n1_ n2_ ⊢
             have BK179:=n0_
             have BK183:=n1_
             have HB:=n2_
             clear n0_ n1_ n2_
             replace BK179:=Aside0.mk (blk_drew BK179.out)
             replace BK183:=Aside0.mk (blk_drew BK183.out)
             replace HB:=Aside0.mk (below_drew1 HB.out)
             have p185 : 0 ≤ ((ji15) : Int):=zD0
             have q185 : (ji15) < (l0_1.length : Int):=zD0
             obtain ⟨ad185,e185,hx185_0,hx185_1,hx185_2⟩:=at_T100 HR0_1.out (ji15) p185 q185
             have hw185_2:=hx185_2
             have hw185_1:=hx185_1
             have hw185_0:=hx185_0
             obtain rfl : ad182 = ad185:=(by injection e185)
             replace hx185_0:=zx0 HB hx185_0
             replace hx185_1:=zx0 HB hx185_1
             replace hx185_2:=zx0 HB hx185_2
             replace p185:=eq_true p185
             replace q185:=eq_true q185
             refine start_ (n:=36) (S:=fun w' => w'.cell? ⟨gb183,0,none⟩ = some (.string ((rd_T100 l0_1 x3_2).f0)) ∧ w'.cell? ⟨gb183,1,none⟩ = some (.string ((rd_T100 l0_1 x3_2).f1)) ∧ w'.cell? ⟨gb183,2,none⟩ = some (.bool ((rd_T100 l0_1 x3_2).f2)) ∧ w'.cell? ⟨gb179,0,none⟩ = some (.int .i64 a0_0) ∧ w'.cell? ⟨gb179,1,none⟩ = some (.slice (some ad182) l0_1.length c0_1) ∧ w'.cell? (ad182.add (((ji15)).toNat * 3)) = some (.string ((rd_T100 l0_1 (ji15)).f0)) ∧ w'.cell? ⟨(ad182.add (((ji15)).toNat * 3)).block,(ad182.add (((ji15)).toNat * 3)).off + 1,none⟩ = some (.string ((rd_T100 l0_1 (ji15)).f1)) ∧ w'.cell? ⟨(ad182.add (((ji15)).toNat * 3)).block,(ad182.add (((ji15)).toNat * 3)).off + 2,none⟩ = some (.bool ((rd_T100 l0_1 (ji15)).f2))) (ds:=[]) (zF0 36 0) (by kernel_rfl) rfl rfl ⟨zc00 BK183,zc01 BK183,zc02 BK183,zc00 BK179,zc01 BK179,(zx0 HB hw185_0 :),(zx0 HB hw185_1 :),(zx0 HB hw185_2 :)⟩ (fun hHeld => ?_);refine with_tabW spec_BatchOk.tab7 spec_BatchOk.bits7 (fun HT_ HW_ => ?_)
             generalize w51.drew = w52 at BK179 BK183 HB hx185_0 hx185_1 hx185_2 hHeld ⊢
             refine zp0 0 28 36 1 HT_ ?_
             refine zt0 1 29 36 3 HT_ HW_ hHeld ?_
             refine zp0 2 30 36 7 HT_ ?_
             refine one_ (i:=3) (N:=some 31) (zF0 36 15) rfl rfl (one_of HT_.out (by kernel_rfl)) (by decide) (fun K hK => ?_)
             refine goes_ Tryz.func31 (by kernel_rfl) rfl #[.int .i64 (((rd_T100 l0_1 x3_2).f0).size : Int),.int .i64 1,.int .i64 20] (by rfl) rfl rfl zM0 ?_
             with_reducible refine (spec_l01In.calls (((rd_T100 l0_1 x3_2).f0).size : Int) 1 20 true _ A12.out).mono ?_
             rintro e w' ⟨rfl,⟨nd,rfl⟩⟩
             refine ⟨_,rfl,?_⟩
             refine hK.out _ _ ⟨zc00 BK183,zc01 BK183,zc02 BK183,zc00 BK179,zc01 BK179,(zx0 HB hw185_0 :),(zx0 HB hw185_1 :),(zx0 HB hw185_2 :)⟩ (fun hHeld => ?_)
             clear hK K
             refine norm_ (a':=?_) ?_ ?_;rotate_left
             ·show Act.put _ (some 31) _ = _;simp only [Act.put,qA0,qB0,qC0,i64_w,i32_w];rfl
             refine zp0 4 32 36 31 HT_ ?_
             refine zp0 5 33 36 63 HT_ ?_
             refine zp0 6 34 36 127 HT_ ?_
             refine zp0 7 35 36 255 HT_ ?_
             refine zp0 8 36 36 511 HT_ ?_
             refine zp0 9 37 36 1023 HT_ ?_
             refine zp0 11 39 36 3071 HT_ ?_
             refine zp0 12 40 36 7167 HT_ ?_
             refine zp0 16 44 36 72703 HT_ ?_
             refine zt0 10 38 36 73727 HT_ HW_ hHeld ?_
             refine zp0 13 41 36 81919 HT_ ?_
             refine zp0 14 42 36 98303 HT_ ?_
             refine zt0 15 43 36 131071 HT_ HW_ hHeld ?_
             refine zt0 17 45 36 262143 HT_ HW_ hHeld ?_
             refine zp0 18 46 36 524287 HT_ ?_
             refine zp0 19 47 36 1048575 HT_ ?_
             refine zp0 20 48 36 2097151 HT_ ?_
             refine zp0 21 49 36 4194303 HT_ ?_
             refine zq0 22 50 36 8388607 HT_ ?_
             refine zq0 23 51 36 16777215 HT_ ?_
             refine zq0 24 52 36 33554431 HT_ ?_
             refine zq0 25 53 36 67108863 HT_ ?_
             refine zp0 26 54 36 134217727 HT_ ?_
             refine zp0 27 55 36 268435455 HT_ ?_
             refine zq0 28 56 36 536870911 HT_ ?_
             refine zq0 29 57 36 1073741823 HT_ ?_
             refine zq0 30 58 36 2147483647 HT_ ?_
             refine zq0 31 59 36 4294967295 HT_ ?_
             refine zq0 32 60 36 8589934591 HT_ ?_
             refine zq0 33 61 36 17179869183 HT_ ?_
             refine zq0 34 62 36 34359738367 HT_ ?_
             refine zp0 35 63 36 68719476735 HT_ ?_
             refine done_ (done_of HT_.out (by kernel_rfl)) ?_
             try go_wp2
             go_ret
             exact ⟨by first | rfl | (simp [errW_none,errW_some] <;> rfl) | (simp only [← hji15];first | rfl | (simp [errW_none,errW_some] <;> rfl)) | (simp [*,errW_none,errW_some] <;> rfl),(zY0 HB.out)⟩
           ·rw [if_neg c17] at H
            exact absurd H (by simp)
          ·rw [if_neg c16] at H
           exact absurd H (by simp)
         ·rw [if_neg c14] at H
          have c14b0 : decide (0 < x3_2) = false:=decide_eq_false c14
          clear c14
          by_cases c53 : (((rd_T100 l0_1 x3_2).f1).size : Int) > 2000
          ·rw [if_pos c53] at H
           have c53b0 : decide (2000 < (((rd_T100 l0_1 x3_2).f1).size : Int)) = true:=decide_eq_true c53
           have c53b1 : decide (2000 < ((rd_T100 l0_1 x3_2).f1).size) = true:=decide_eq_true (by omega)
           clear c53
           obtain rfl:=Option.some.inj H
           have hcz54_0 : wr.cell? ⟨gb179,0,none⟩ = some (.int .i64 a0_0):=zc00 BK179
           have hcz54_1 : wr.cell? ⟨gb179,1,none⟩ = some (.slice A0_1 l0_1.length c0_1):=zc01 BK179
           have hfz54_0:=blk_frozen BK179.out 0
           have hfz54_1:=blk_frozen BK179.out 1
           have p182 : 0 ≤ (x3_2 : Int):=zD0
           have q182 : x3_2 < (l0_1.length : Int):=zD0
           obtain ⟨ad182,e182,hx182_0,hx182_1,hx182_2⟩:=at_T100 HR0_1.out x3_2 p182 q182
           cases e182
           replace hx182_0:=zx0 HB hx182_0
           replace hx182_1:=zx0 HB hx182_1
           replace hx182_2:=zx0 HB hx182_2
           replace p182:=eq_true p182
           replace q182:=eq_true q182
           try go_wp2_with (first | ((with_reducible refine gate_dst (N:=4) rfl ?_);(try (refine gate_guard (by rfl) ?_;dsimp only));refine zy0 (cs:=#[.string (⟨#[]⟩ : ByteArray),.string (⟨#[]⟩ : ByteArray),.bool false]) (t:=100) ?_;intro gb183 hg w55 hbox hb;have BK183:=Aside0.mk hbox;have GW183:=zz0 hg HB;have GE183:=zz0 hg HB;replace HB:=zs0 HB hb;have NB179_183:=zl0 hg BK179;have NB183_179:=zg0 hg BK179;replace BK179:=zb0 BK179 hb;clear hb hbox hg;obtain ⟨_,_⟩:=zn0 NB183_179;obtain ⟨_,_,_,_,_,_⟩:=zd03 BK183))
           have n0_ : Aside0 ((((w55.setCell ⟨gb183,0,none⟩ (.string ((rd_T100 l0_1 x3_2).f0))).setCell ⟨gb183,1,none⟩ (.string ((rd_T100 l0_1 x3_2).f1))).setCell ⟨gb183,2,none⟩ (.bool ((rd_T100 l0_1 x3_2).f2))).heap[gb179]? = some (.cells #[.int .i64 a0_0,.slice (some ad182) l0_1.length c0_1] 70 (0,0))):=⟨zK0 BK179.out⟩
           have n1_ : Aside0 ((((w55.setCell ⟨gb183,0,none⟩ (.string ((rd_T100 l0_1 x3_2).f0))).setCell ⟨gb183,1,none⟩ (.string ((rd_T100 l0_1 x3_2).f1))).setCell ⟨gb183,2,none⟩ (.bool ((rd_T100 l0_1 x3_2).f2))).heap[gb183]? = some (.cells #[.string ((rd_T100 l0_1 x3_2).f0),.string ((rd_T100 l0_1 x3_2).f1),.bool ((rd_T100 l0_1 x3_2).f2)] 100 (0,0))):=⟨by refine zT0 ?_;refine blk_put (cs:=#[.string ((rd_T100 l0_1 x3_2).f0),.string ((rd_T100 l0_1 x3_2).f1),.bool false]) ?_ 2 _ rfl;refine zT0 ?_;refine blk_put (cs:=#[.string ((rd_T100 l0_1 x3_2).f0),.string (⟨#[]⟩ : ByteArray),.bool false]) ?_ 1 _ rfl;refine zT0 ?_;refine blk_put (cs:=#[.string (⟨#[]⟩ : ByteArray),.string (⟨#[]⟩ : ByteArray),.bool false]) ?_ 0 _ rfl;exact zK0 BK183.out⟩
           have n2_ : Aside0 (Below w.heap.size w (((w55.setCell ⟨gb183,0,none⟩ (.string ((rd_T100 l0_1 x3_2).f0))).setCell ⟨gb183,1,none⟩ (.string ((rd_T100 l0_1 x3_2).f1))).setCell ⟨gb183,2,none⟩ (.bool ((rd_T100 l0_1 x3_2).f2)))):=⟨zY0 HB.out⟩
           (try clear BK179)
           (try clear BK183)
           (try clear HB)
           generalize (((w55.setCell ⟨gb183,0,none⟩ (.string ((rd_T100 l0_1 x3_2).f0))).setCell ⟨gb183,1,none⟩ (.string ((rd_T100 l0_1 x3_2).f1))).setCell ⟨gb183,2,none⟩ (.bool ((rd_T100 l0_1 x3_2).f2))) = w58 at n0_ n1_ n2_ ⊢
           have BK179:=n0_
           have BK183:=n1_
           have HB:=n2_
           clear n0_ n1_ n2_
           replace BK179:=Aside0.mk (blk_drew BK179.out)
           replace BK183:=Aside0.mk (blk_drew BK183.out)
           replace HB:=Aside0.mk (below_drew1 HB.out)
           refine start_ (n:=36) (S:=fun w' => w'.cell? ⟨gb183,0,none⟩ = some (.string ((rd_T100 l0_1 x3_2).f0)) ∧ w'.cell? ⟨gb183,1,none⟩ = some (.string ((rd_T100 l0_1 x3_2).f1)) ∧ w'.cell? ⟨gb183,2,none⟩ = some (.bool ((rd_T100 l0_1 x3_2).f2))) (ds:=[]) (zF0 36 0) (by kernel_rfl) rfl rfl ⟨zc00 BK183,zc01 BK183,zc02 BK183⟩ (fun hHeld => ?_);refine with_tabW spec_BatchOk.tab7 spec_BatchOk.bits7 (fun HT_ HW_ => ?_)
           generalize w58.drew = w59 at BK179 BK183 HB hHeld ⊢
           refine zp0 0 28 36 1 HT_ ?_
           refine zt0 1 29 36 3 HT_ HW_ hHeld ?_
           refine zp0 2 30 36 7 HT_ ?_
           refine one_ (i:=3) (N:=some 31) (zF0 36 15) rfl rfl (one_of HT_.out (by kernel_rfl)) (by decide) (fun K hK => ?_)
           refine goes_ Tryz.func31 (by kernel_rfl) rfl #[.int .i64 (((rd_T100 l0_1 x3_2).f0).size : Int),.int .i64 1,.int .i64 20] (by rfl) rfl rfl zM0 ?_
           with_reducible refine (spec_l01In.calls (((rd_T100 l0_1 x3_2).f0).size : Int) 1 20 true _ A12.out).mono ?_
           rintro e w' ⟨rfl,⟨nd,rfl⟩⟩
           refine ⟨_,rfl,?_⟩
           refine hK.out _ _ ⟨zc00 BK183,zc01 BK183,zc02 BK183⟩ (fun hHeld => ?_)
           clear hK K
           refine norm_ (a':=?_) ?_ ?_;rotate_left
           ·show Act.put _ (some 31) _ = _;simp only [Act.put,qA0,qB0,qC0,i64_w,i32_w];rfl
           refine zp0 4 32 36 31 HT_ ?_
           refine zp0 5 33 36 63 HT_ ?_
           refine zp0 6 34 36 127 HT_ ?_
           refine zp0 7 35 36 255 HT_ ?_
           refine zp0 8 36 36 511 HT_ ?_
           refine zq0 9 37 36 1023 HT_ ?_
           refine zq0 10 38 36 2047 HT_ ?_
           refine zq0 11 39 36 4095 HT_ ?_
           refine zq0 12 40 36 8191 HT_ ?_
           refine zq0 13 41 36 16383 HT_ ?_
           refine zq0 14 42 36 32767 HT_ ?_
           refine zq0 15 43 36 65535 HT_ ?_
           refine zq0 16 44 36 131071 HT_ ?_
           refine zq0 17 45 36 262143 HT_ ?_
           refine zq0 18 46 36 524287 HT_ ?_
           refine zp0 19 47 36 1048575 HT_ ?_
           refine zp0 20 48 36 2097151 HT_ ?_
           refine zp0 21 49 36 4194303 HT_ ?_
           refine zp0 22 50 36 8388607 HT_ ?_
           refine zt0 23 51 36 16777215 HT_ HW_ hHeld ?_
           refine zp0 24 52 36 33554431 HT_ ?_
           refine zp0 25 53 36 67108863 HT_ ?_
           refine zp0 26 54 36 134217727 HT_ ?_
           refine zp0 27 55 36 268435455 HT_ ?_
           refine zq0 28 56 36 536870911 HT_ ?_
           refine zq0 29 57 36 1073741823 HT_ ?_
           refine zq0 30 58 36 2147483647 HT_ ?_
           refine zq0 31 59 36 4294967295 HT_ ?_
           refine zq0 32 60 36 8589934591 HT_ ?_
           refine zq0 33 61 36 17179869183 HT_ ?_
           refine zq0 34 62 36 34359738367 HT_ ?_
           refine zp0 35 63 36 68719476735 HT_ ?_
           refine done_ (done_of HT_.out (by kernel_rfl)) ?_
           try go_wp2
           go_ret
           exact ⟨zW0,(zY0 HB.out)⟩
          ·rw [if_neg c53] at H
           have c53b0 : decide (2000 < (((rd_T100 l0_1 x3_2).f1).size : Int)) = false:=decide_eq_false c53
           have c53b1 : decide (2000 < ((rd_T100 l0_1 x3_2).f1).size) = false:=decide_eq_false (by omega)
           clear c53
           obtain ⟨bq60,hbq60⟩ : ∃ b_ : Bool,b_ = ((rd_T100 l0_1 x3_2).f2):=⟨_,rfl⟩
           replace H : (if bq60 = true then (if ((rd_T100 l0_1 x3_2).f1).toList = ([] : List UInt8) then (spec_BatchOk.l0 k2 (wrap64 (x3_2 + 1)) a0_0 l0_1) else (some false)) else (spec_BatchOk.l0 k2 (wrap64 (x3_2 + 1)) a0_0 l0_1)) = some r:=by rw [← hbq60] at H;exact H
           have Nbq60:=Aside0.mk hbq60
           clear hbq60
           by_cases c61 : bq60 = true
           ·subst c61
            rw [if_pos rfl] at H
            by_cases c62 : ((rd_T100 l0_1 x3_2).f1).toList = ([] : List UInt8)
            ·rw [if_pos c62] at H
             have c62b0 : (((rd_T100 l0_1 x3_2).f1).toList == ([] : List UInt8)) = true:=beq_iff_eq.mpr c62
             have c62b1 : (((rd_T100 l0_1 x3_2).f1).toList != ([] : List UInt8)) = false:=bne_eq_false_iff_eq.mpr c62
             clear c62
             have H':=Aside0.mk H
             clear H
             have hcz63_0 : wr.cell? ⟨gb179,0,none⟩ = some (.int .i64 a0_0):=zc00 BK179
             have hcz63_1 : wr.cell? ⟨gb179,1,none⟩ = some (.slice A0_1 l0_1.length c0_1):=zc01 BK179
             have hfz63_0:=blk_frozen BK179.out 0
             have hfz63_1:=blk_frozen BK179.out 1
             have p182 : 0 ≤ (x3_2 : Int):=zD0
             have q182 : x3_2 < (l0_1.length : Int):=zD0
             obtain ⟨ad182,e182,hx182_0,hx182_1,hx182_2⟩:=at_T100 HR0_1.out x3_2 p182 q182
             (try rw [← Nbq60.out] at hx182_2)
             cases e182
             replace hx182_0:=zx0 HB hx182_0
             replace hx182_1:=zx0 HB hx182_1
             replace hx182_2:=zx0 HB hx182_2
             replace p182:=eq_true p182
             replace q182:=eq_true q182
             try go_wp2_with (first | ((with_reducible refine gate_dst (N:=4) rfl ?_);(try (refine gate_guard (by rfl) ?_;dsimp only));refine zy0 (cs:=#[.string (⟨#[]⟩ : ByteArray),.string (⟨#[]⟩ : ByteArray),.bool false]) (t:=100) ?_;intro gb183 hg w64 hbox hb;have BK183:=Aside0.mk hbox;have GW183:=zz0 hg HB;have GE183:=zz0 hg HB;replace HB:=zs0 HB hb;have NB179_183:=zl0 hg BK179;have NB183_179:=zg0 hg BK179;replace BK179:=zb0 BK179 hb;clear hb hbox hg;obtain ⟨_,_⟩:=zn0 NB183_179;obtain ⟨_,_,_,_,_,_⟩:=zd03 BK183))
             have n0_ : Aside0 ((((w64.setCell ⟨gb183,0,none⟩ (.string ((rd_T100 l0_1 x3_2).f0))).setCell ⟨gb183,1,none⟩ (.string ((rd_T100 l0_1 x3_2).f1))).setCell ⟨gb183,2,none⟩ (.bool true)).heap[gb179]? = some (.cells #[.int .i64 a0_0,.slice (some ad182) l0_1.length c0_1] 70 (0,0))):=⟨zK0 BK179.out⟩
             have n1_ : Aside0 ((((w64.setCell ⟨gb183,0,none⟩ (.string ((rd_T100 l0_1 x3_2).f0))).setCell ⟨gb183,1,none⟩ (.string ((rd_T100 l0_1 x3_2).f1))).setCell ⟨gb183,2,none⟩ (.bool true)).heap[gb183]? = some (.cells #[.string ((rd_T100 l0_1 x3_2).f0),.string ((rd_T100 l0_1 x3_2).f1),.bool true] 100 (0,0))):=⟨by refine zT0 ?_;refine blk_put (cs:=#[.string ((rd_T100 l0_1 x3_2).f0),.string ((rd_T100 l0_1 x3_2).f1),.bool false]) ?_ 2 _ rfl;refine zT0 ?_;refine blk_put (cs:=#[.string ((rd_T100 l0_1 x3_2).f0),.string (⟨#[]⟩ : ByteArray),.bool false]) ?_ 1 _ rfl;refine zT0 ?_;refine blk_put (cs:=#[.string (⟨#[]⟩ : ByteArray),.string (⟨#[]⟩ : ByteArray),.bool false]) ?_ 0 _ rfl;exact zK0 BK183.out⟩
             have n2_ : Aside0 (Below w.heap.size w (((w64.setCell ⟨gb183,0,none⟩ (.string ((rd_T100 l0_1 x3_2).f0))).setCell ⟨gb183,1,none⟩ (.string ((rd_T100 l0_1 x3_2).f1))).setCell ⟨gb183,2,none⟩ (.bool true))):=⟨zY0 HB.out⟩
             (try clear BK179)
             (try clear BK183)
             (try clear HB)
             generalize (((w64.setCell ⟨gb183,0,none⟩ (.string ((rd_T100 l0_1 x3_2).f0))).setCell ⟨gb183,1,none⟩ (.string ((rd_T100 l0_1 x3_2).f1))).setCell ⟨gb183,2,none⟩ (.bool true)) = w67 at n0_ n1_ n2_ ⊢
             have BK179:=n0_
             have BK183:=n1_
             have HB:=n2_
             clear n0_ n1_ n2_
             replace BK179:=Aside0.mk (blk_drew BK179.out)
             replace BK183:=Aside0.mk (blk_drew BK183.out)
             replace HB:=Aside0.mk (below_drew1 HB.out)
             refine start_ (n:=36) (S:=fun w' => w'.cell? ⟨gb183,0,none⟩ = some (.string ((rd_T100 l0_1 x3_2).f0)) ∧ w'.cell? ⟨gb183,1,none⟩ = some (.string ((rd_T100 l0_1 x3_2).f1)) ∧ w'.cell? ⟨gb183,2,none⟩ = some (.bool true)) (ds:=[]) (zF0 36 0) (by kernel_rfl) rfl rfl ⟨zc00 BK183,zc01 BK183,zc02 BK183⟩ (fun hHeld => ?_);refine with_tabW spec_BatchOk.tab7 spec_BatchOk.bits7 (fun HT_ HW_ => ?_)
             generalize w67.drew = w68 at BK179 BK183 HB hHeld ⊢
             refine zp0 0 28 36 1 HT_ ?_
             refine zt0 1 29 36 3 HT_ HW_ hHeld ?_
             refine zp0 2 30 36 7 HT_ ?_
             refine one_ (i:=3) (N:=some 31) (zF0 36 15) rfl rfl (one_of HT_.out (by kernel_rfl)) (by decide) (fun K hK => ?_)
             refine goes_ Tryz.func31 (by kernel_rfl) rfl #[.int .i64 (((rd_T100 l0_1 x3_2).f0).size : Int),.int .i64 1,.int .i64 20] (by rfl) rfl rfl zM0 ?_
             with_reducible refine (spec_l01In.calls (((rd_T100 l0_1 x3_2).f0).size : Int) 1 20 true _ A12.out).mono ?_
             rintro e w' ⟨rfl,⟨nd,rfl⟩⟩
             refine ⟨_,rfl,?_⟩
             refine hK.out _ _ ⟨zc00 BK183,zc01 BK183,zc02 BK183⟩ (fun hHeld => ?_)
             clear hK K
             refine norm_ (a':=?_) ?_ ?_;rotate_left
             ·show Act.put _ (some 31) _ = _;simp only [Act.put,qA0,qB0,qC0,i64_w,i32_w];rfl
             refine zp0 4 32 36 31 HT_ ?_
             refine zp0 5 33 36 63 HT_ ?_
             refine zp0 6 34 36 127 HT_ ?_
             refine zp0 7 35 36 255 HT_ ?_
             refine zp0 8 36 36 511 HT_ ?_
             refine zq0 9 37 36 1023 HT_ ?_
             refine zq0 10 38 36 2047 HT_ ?_
             refine zq0 11 39 36 4095 HT_ ?_
             refine zq0 12 40 36 8191 HT_ ?_
             refine zq0 13 41 36 16383 HT_ ?_
             refine zq0 14 42 36 32767 HT_ ?_
             refine zq0 15 43 36 65535 HT_ ?_
             refine zq0 16 44 36 131071 HT_ ?_
             refine zq0 17 45 36 262143 HT_ ?_
             refine zq0 18 46 36 524287 HT_ ?_
             refine zp0 19 47 36 1048575 HT_ ?_
             refine zp0 20 48 36 2097151 HT_ ?_
             refine zp0 21 49 36 4194303 HT_ ?_
             refine zp0 22 50 36 8388607 HT_ ?_
             refine zt0 23 51 36 16777215 HT_ HW_ hHeld ?_
             refine zp0 24 52 36 33554431 HT_ ?_
             refine zp0 25 53 36 67108863 HT_ ?_
             refine zp0 26 54 36 134217727 HT_ ?_
             refine zp0 27 55 36 268435455 HT_ ?_
             refine zp0 28 56 36 536870911 HT_ ?_
             refine zt0 29 57 36 1073741823 HT_ HW_ hHeld ?_
             refine zp0 30 58 36 2147483647 HT_ ?_
             refine zp0 31 59 36 4294967295 HT_ ?_
             refine zt0 32 60 36 8589934591 HT_ HW_ hHeld ?_
             refine zp0 33 61 36 17179869183 HT_ ?_
             refine zp0 34 62 36 34359738367 HT_ ?_
             refine zp0 35 63 36 68719476735 HT_ ?_
             refine done_ (done_of HT_.out (by kernel_rfl)) ?_
             try go_wp2
             go_roundg k2
             case measure => have:=HJ1.out;have:=HK2.out;omega
             case rel => exact ⟨(wrap64 (x3_2 + 1)),zE0,H',⟨by have:=HJ1.out;have:=HK2.out;omega⟩,⟨zK0 BK179.out⟩,⟨zY0 HB.out⟩⟩
            ·rw [if_neg c62] at H
             have c62b0 : (((rd_T100 l0_1 x3_2).f1).toList == ([] : List UInt8)) = false:=beq_eq_false_iff_ne.mpr c62
             have c62b1 : (((rd_T100 l0_1 x3_2).f1).toList != ([] : List UInt8)) = true:=bne_iff_ne.mpr c62
             obtain rfl:=Option.some.inj H
             have hcz69_0 : wr.cell? ⟨gb179,0,none⟩ = some (.int .i64 a0_0):=zc00 BK179
             have hcz69_1 : wr.cell? ⟨gb179,1,none⟩ = some (.slice A0_1 l0_1.length c0_1):=zc01 BK179
             have hfz69_0:=blk_frozen BK179.out 0
             have hfz69_1:=blk_frozen BK179.out 1
             have p182 : 0 ≤ (x3_2 : Int):=zD0
             have q182 : x3_2 < (l0_1.length : Int):=zD0
             obtain ⟨ad182,e182,hx182_0,hx182_1,hx182_2⟩:=at_T100 HR0_1.out x3_2 p182 q182
             (try rw [← Nbq60.out] at hx182_2)
             cases e182
             replace hx182_0:=zx0 HB hx182_0
             replace hx182_1:=zx0 HB hx182_1
             replace hx182_2:=zx0 HB hx182_2
             replace p182:=eq_true p182
             replace q182:=eq_true q182
             try go_wp2_with (first | ((with_reducible refine gate_dst (N:=4) rfl ?_);(try (refine gate_guard (by rfl) ?_;dsimp only));refine zy0 (cs:=#[.string (⟨#[]⟩ : ByteArray),.string (⟨#[]⟩ : ByteArray),.bool false]) (t:=100) ?_;intro gb183 hg w70 hbox hb;have BK183:=Aside0.mk hbox;have GW183:=zz0 hg HB;have GE183:=zz0 hg HB;replace HB:=zs0 HB hb;have NB179_183:=zl0 hg BK179;have NB183_179:=zg0 hg BK179;replace BK179:=zb0 BK179 hb;clear hb hbox hg;obtain ⟨_,_⟩:=zn0 NB183_179;obtain ⟨_,_,_,_,_,_⟩:=zd03 BK183))
             have n0_ : Aside0 ((((w70.setCell ⟨gb183,0,none⟩ (.string ((rd_T100 l0_1 x3_2).f0))).setCell ⟨gb183,1,none⟩ (.string ((rd_T100 l0_1 x3_2).f1))).setCell ⟨gb183,2,none⟩ (.bool true)).heap[gb179]? = some (.cells #[.int .i64 a0_0,.slice (some ad182) l0_1.length c0_1] 70 (0,0))):=⟨zK0 BK179.out⟩
             have n1_ : Aside0 ((((w70.setCell ⟨gb183,0,none⟩ (.string ((rd_T100 l0_1 x3_2).f0))).setCell ⟨gb183,1,none⟩ (.string ((rd_T100 l0_1 x3_2).f1))).setCell ⟨gb183,2,none⟩ (.bool true)).heap[gb183]? = some (.cells #[.string ((rd_T100 l0_1 x3_2).f0),.string ((rd_T100 l0_1 x3_2).f1),.bool true] 100 (0,0))):=⟨by refine zT0 ?_;refine blk_put (cs:=#[.string ((rd_T100 l0_1 x3_2).f0),.string ((rd_T100 l0_1 x3_2).f1),.bool false]) ?_ 2 _ rfl;refine zT0 ?_;refine blk_put (cs:=#[.string ((rd_T100 l0_1 x3_2).f0),.string (⟨#[]⟩ : ByteArray),.bool false]) ?_ 1 _ rfl;refine zT0 ?_;refine blk_put (cs:=#[.string (⟨#[]⟩ : ByteArray),.string (⟨#[]⟩ : ByteArray),.bool false]) ?_ 0 _ rfl;exact zK0 BK183.out⟩
             have n2_ : Aside0 (Below w.heap.size w (((w70.setCell ⟨gb183,0,none⟩ (.string ((rd_T100 l0_1 x3_2).f0))).setCell ⟨gb183,1,none⟩ (.string ((rd_T100 l0_1 x3_2).f1))).setCell ⟨gb183,2,none⟩ (.bool true))):=⟨zY0 HB.out⟩
             (try clear BK179)
             (try clear BK183)
             (try clear HB)
             generalize (((w70.setCell ⟨gb183,0,none⟩ (.string ((rd_T100 l0_1 x3_2).f0))).setCell ⟨gb183,1,none⟩ (.string ((rd_T100 l0_1 x3_2).f1))).setCell ⟨gb183,2,none⟩ (.bool true)) = w73 at n0_ n1_ n2_ ⊢
             have BK179:=n0_
             have BK183:=n1_
             have HB:=n2_
             clear n0_ n1_ n2_
             replace BK179:=Aside0.mk (blk_drew BK179.out)
             replace BK183:=Aside0.mk (blk_drew BK183.out)
             replace HB:=Aside0.mk (below_drew1 HB.out)
             refine start_ (n:=36) (S:=fun w' => w'.cell? ⟨gb183,0,none⟩ = some (.string ((rd_T100 l0_1 x3_2).f0)) ∧ w'.cell? ⟨gb183,1,none⟩ = some (.string ((rd_T100 l0_1 x3_2).f1)) ∧ w'.cell? ⟨gb183,2,none⟩ = some (.bool true)) (ds:=[]) (zF0 36 0) (by kernel_rfl) rfl rfl ⟨zc00 BK183,zc01 BK183,zc02 BK183⟩ (fun hHeld => ?_);refine with_tabW spec_BatchOk.tab7 spec_BatchOk.bits7 (fun HT_ HW_ => ?_)
             generalize w73.drew = w74 at BK179 BK183 HB hHeld ⊢
             refine zp0 0 28 36 1 HT_ ?_
             refine zt0 1 29 36 3 HT_ HW_ hHeld ?_
             refine zp0 2 30 36 7 HT_ ?_
             refine one_ (i:=3) (N:=some 31) (zF0 36 15) rfl rfl (one_of HT_.out (by kernel_rfl)) (by decide) (fun K hK => ?_)
             refine goes_ Tryz.func31 (by kernel_rfl) rfl #[.int .i64 (((rd_T100 l0_1 x3_2).f0).size : Int),.int .i64 1,.int .i64 20] (by rfl) rfl rfl zM0 ?_
             with_reducible refine (spec_l01In.calls (((rd_T100 l0_1 x3_2).f0).size : Int) 1 20 true _ A12.out).mono ?_
             rintro e w' ⟨rfl,⟨nd,rfl⟩⟩
             refine ⟨_,rfl,?_⟩
             refine hK.out _ _ ⟨zc00 BK183,zc01 BK183,zc02 BK183⟩ (fun hHeld => ?_)
             clear hK K
             refine norm_ (a':=?_) ?_ ?_;rotate_left
             ·show Act.put _ (some 31) _ = _;simp only [Act.put,qA0,qB0,qC0,i64_w,i32_w];rfl
             refine zp0 4 32 36 31 HT_ ?_
             refine zp0 5 33 36 63 HT_ ?_
             refine zp0 6 34 36 127 HT_ ?_
             refine zp0 7 35 36 255 HT_ ?_
             refine zp0 8 36 36 511 HT_ ?_
             refine zq0 9 37 36 1023 HT_ ?_
             refine zq0 10 38 36 2047 HT_ ?_
             refine zq0 11 39 36 4095 HT_ ?_
             refine zq0 12 40 36 8191 HT_ ?_
             refine zq0 13 41 36 16383 HT_ ?_
             refine zq0 14 42 36 32767 HT_ ?_
             refine zq0 15 43 36 65535 HT_ ?_
             refine zq0 16 44 36 131071 HT_ ?_
             refine zq0 17 45 36 262143 HT_ ?_
             refine zq0 18 46 36 524287 HT_ ?_
             refine zp0 19 47 36 1048575 HT_ ?_
             refine zp0 20 48 36 2097151 HT_ ?_
             refine zp0 21 49 36 4194303 HT_ ?_
             refine zp0 22 50 36 8388607 HT_ ?_
             refine zt0 23 51 36 16777215 HT_ HW_ hHeld ?_
             refine zp0 24 52 36 33554431 HT_ ?_
             refine zp0 25 53 36 67108863 HT_ ?_
             refine zp0 26 54 36 134217727 HT_ ?_
             refine zp0 27 55 36 268435455 HT_ ?_
             refine zp0 28 56 36 536870911 HT_ ?_
             refine zt0 29 57 36 1073741823 HT_ HW_ hHeld ?_
             refine zp0 30 58 36 2147483647 HT_ ?_
             refine zp0 31 59 36 4294967295 HT_ ?_
             refine zt0 32 60 36 8589934591 HT_ HW_ hHeld ?_
             refine zp0 33 61 36 17179869183 HT_ ?_
             refine zp0 34 62 36 34359738367 HT_ ?_
             refine zp0 35 63 36 68719476735 HT_ ?_
             refine done_ (done_of HT_.out (by kernel_rfl)) ?_
             try go_wp2
             go_ret
             exact ⟨zW0,(zY0 HB.out)⟩
           ·replace c61:=Bool.eq_false_iff.mpr c61
            subst c61
            rw [if_neg (show ¬ (false = true) by decide)] at H
            have H':=Aside0.mk H
            clear H
            have hcz75_0 : wr.cell? ⟨gb179,0,none⟩ = some (.int .i64 a0_0):=zc00 BK179
            have hcz75_1 : wr.cell? ⟨gb179,1,none⟩ = some (.slice A0_1 l0_1.length c0_1):=zc01 BK179
            have hfz75_0:=blk_frozen BK179.out 0
            have hfz75_1:=blk_frozen BK179.out 1
            have p182 : 0 ≤ (x3_2 : Int):=zD0
            have q182 : x3_2 < (l0_1.length : Int):=zD0
            obtain ⟨ad182,e182,hx182_0,hx182_1,hx182_2⟩:=at_T100 HR0_1.out x3_2 p182 q182
            (try rw [← Nbq60.out] at hx182_2)
            cases e182
            replace hx182_0:=zx0 HB hx182_0
            replace hx182_1:=zx0 HB hx182_1
            replace hx182_2:=zx0 HB hx182_2
            replace p182:=eq_true p182
            replace q182:=eq_true q182
            try go_wp2_with (first | ((with_reducible refine gate_dst (N:=4) rfl ?_);(try (refine gate_guard (by rfl) ?_;dsimp only));refine zy0 (cs:=#[.string (⟨#[]⟩ : ByteArray),.string (⟨#[]⟩ : ByteArray),.bool false]) (t:=100) ?_;intro gb183 hg w76 hbox hb;have BK183:=Aside0.mk hbox;have GW183:=zz0 hg HB;have GE183:=zz0 hg HB;replace HB:=zs0 HB hb;have NB179_183:=zl0 hg BK179;have NB183_179:=zg0 hg BK179;replace BK179:=zb0 BK179 hb;clear hb hbox hg;obtain ⟨_,_⟩:=zn0 NB183_179;obtain ⟨_,_,_,_,_,_⟩:=zd03 BK183))
            have n0_ : Aside0 ((((w76.setCell ⟨gb183,0,none⟩ (.string ((rd_T100 l0_1 x3_2).f0))).setCell ⟨gb183,1,none⟩ (.string ((rd_T100 l0_1 x3_2).f1))).setCell ⟨gb183,2,none⟩ (.bool false)).heap[gb179]? = some (.cells #[.int .i64 a0_0,.slice (some ad182) l0_1.length c0_1] 70 (0,0))):=⟨zK0 BK179.out⟩
            have n1_ : Aside0 ((((w76.setCell ⟨gb183,0,none⟩ (.string ((rd_T100 l0_1 x3_2).f0))).setCell ⟨gb183,1,none⟩ (.string ((rd_T100 l0_1 x3_2).f1))).setCell ⟨gb183,2,none⟩ (.bool false)).heap[gb183]? = some (.cells #[.string ((rd_T100 l0_1 x3_2).f0),.string ((rd_T100 l0_1 x3_2).f1),.bool false] 100 (0,0))):=⟨by refine zT0 ?_;refine blk_put (cs:=#[.string ((rd_T100 l0_1 x3_2).f0),.string ((rd_T100 l0_1 x3_2).f1),.bool false]) ?_ 2 _ rfl;refine zT0 ?_;refine blk_put (cs:=#[.string ((rd_T100 l0_1 x3_2).f0),.string (⟨#[]⟩ : ByteArray),.bool false]) ?_ 1 _ rfl;refine zT0 ?_;refine blk_put (cs:=#[.string (⟨#[]⟩ : ByteArray),.string (⟨#[]⟩ : ByteArray),.bool false]) ?_ 0 _ rfl;exact zK0 BK183.out⟩
            have n2_ : Aside0 (Below w.heap.size w (((w76.setCell ⟨gb183,0,none⟩ (.string ((rd_T100 l0_1 x3_2).f0))).setCell ⟨gb183,1,none⟩ (.string ((rd_T100 l0_1 x3_2).f1))).setCell ⟨gb183,2,none⟩ (.bool false))):=⟨zY0 HB.out⟩
            (try clear BK179)
            (try clear BK183)
            (try clear HB)
            generalize (((w76.setCell ⟨gb183,0,none⟩ (.string ((rd_T100 l0_1 x3_2).f0))).setCell ⟨gb183,1,none⟩ (.string ((rd_T100 l0_1 x3_2).f1))).setCell ⟨gb183,2,none⟩ (.bool false)) = w79 at n0_ n1_ n2_ ⊢
            have BK179:=n0_
            have BK183:=n1_
            have HB:=n2_
            clear n0_ n1_ n2_
            replace BK179:=Aside0.mk (blk_drew BK179.out)
            replace BK183:=Aside0.mk (blk_drew BK183.out)
            replace HB:=Aside0.mk (below_drew1 HB.out)
            refine start_ (n:=36) (S:=fun w' => w'.cell? ⟨gb183,0,none⟩ = some (.string ((rd_T100 l0_1 x3_2).f0)) ∧ w'.cell? ⟨gb183,1,none⟩ = some (.string ((rd_T100 l0_1 x3_2).f1)) ∧ w'.cell? ⟨gb183,2,none⟩ = some (.bool false)) (ds:=[]) (zF0 36 0) (by kernel_rfl) rfl rfl ⟨zc00 BK183,zc01 BK183,zc02 BK183⟩ (fun hHeld => ?_);refine with_tabW spec_BatchOk.tab7 spec_BatchOk.bits7 (fun HT_ HW_ => ?_)
            generalize w79.drew = w80 at BK179 BK183 HB hHeld ⊢
            refine zp0 0 28 36 1 HT_ ?_
            refine zt0 1 29 36 3 HT_ HW_ hHeld ?_
            refine zp0 2 30 36 7 HT_ ?_
            refine one_ (i:=3) (N:=some 31) (zF0 36 15) rfl rfl (one_of HT_.out (by kernel_rfl)) (by decide) (fun K hK => ?_)
            refine goes_ Tryz.func31 (by kernel_rfl) rfl #[.int .i64 (((rd_T100 l0_1 x3_2).f0).size : Int),.int .i64 1,.int .i64 20] (by rfl) rfl rfl zM0 ?_
            with_reducible refine (spec_l01In.calls (((rd_T100 l0_1 x3_2).f0).size : Int) 1 20 true _ A12.out).mono ?_
            rintro e w' ⟨rfl,⟨nd,rfl⟩⟩
            refine ⟨_,rfl,?_⟩
            refine hK.out _ _ ⟨zc00 BK183,zc01 BK183,zc02 BK183⟩ (fun hHeld => ?_)
            clear hK K
            refine norm_ (a':=?_) ?_ ?_;rotate_left
            ·show Act.put _ (some 31) _ = _;simp only [Act.put,qA0,qB0,qC0,i64_w,i32_w];rfl
            refine zp0 4 32 36 31 HT_ ?_
            refine zp0 5 33 36 63 HT_ ?_
            refine zp0 6 34 36 127 HT_ ?_
            refine zp0 7 35 36 255 HT_ ?_
            refine zp0 8 36 36 511 HT_ ?_
            refine zq0 9 37 36 1023 HT_ ?_
            refine zq0 10 38 36 2047 HT_ ?_
            refine zq0 11 39 36 4095 HT_ ?_
            refine zq0 12 40 36 8191 HT_ ?_
            refine zq0 13 41 36 16383 HT_ ?_
            refine zq0 14 42 36 32767 HT_ ?_
            refine zq0 15 43 36 65535 HT_ ?_
            refine zq0 16 44 36 131071 HT_ ?_
            refine zq0 17 45 36 262143 HT_ ?_
            refine zq0 18 46 36 524287 HT_ ?_
            refine zp0 19 47 36 1048575 HT_ ?_
            refine zp0 20 48 36 2097151 HT_ ?_
            refine zp0 21 49 36 4194303 HT_ ?_
            refine zp0 22 50 36 8388607 HT_ ?_
            refine zt0 23 51 36 16777215 HT_ HW_ hHeld ?_
            refine zp0 24 52 36 33554431 HT_ ?_
            refine zp0 25 53 36 67108863 HT_ ?_
            refine zp0 26 54 36 134217727 HT_ ?_
            refine zp0 27 55 36 268435455 HT_ ?_
            refine zp0 28 56 36 536870911 HT_ ?_
            refine zt0 29 57 36 1073741823 HT_ HW_ hHeld ?_
            refine zp0 30 58 36 2147483647 HT_ ?_
            refine zq0 31 59 36 4294967295 HT_ ?_
            refine zq0 32 60 36 8589934591 HT_ ?_
            refine zq0 33 61 36 17179869183 HT_ ?_
            refine zp0 34 62 36 34359738367 HT_ ?_
            refine zp0 35 63 36 68719476735 HT_ ?_
            refine done_ (done_of HT_.out (by kernel_rfl)) ?_
            try go_wp2
            go_roundg k2
            case measure => have:=HJ1.out;have:=HK2.out;omega
            case rel => exact ⟨(wrap64 (x3_2 + 1)),zE0,H',⟨by have:=HJ1.out;have:=HK2.out;omega⟩,⟨zK0 BK179.out⟩,⟨zY0 HB.out⟩⟩
        ·replace c13:=Bool.eq_false_iff.mpr c13
         subst c13
         rw [if_neg (show ¬ (false = true) by decide)] at H
         obtain rfl:=Option.some.inj H
         have hcz81_0 : wr.cell? ⟨gb179,0,none⟩ = some (.int .i64 a0_0):=zc00 BK179
         have hcz81_1 : wr.cell? ⟨gb179,1,none⟩ = some (.slice A0_1 l0_1.length c0_1):=zc01 BK179
         have hfz81_0:=blk_frozen BK179.out 0
         have hfz81_1:=blk_frozen BK179.out 1
         have p182 : 0 ≤ (x3_2 : Int):=zD0
         have q182 : x3_2 < (l0_1.length : Int):=zD0
         obtain ⟨ad182,e182,hx182_0,hx182_1,hx182_2⟩:=at_T100 HR0_1.out x3_2 p182 q182
         cases e182
         replace hx182_0:=zx0 HB hx182_0
         replace hx182_1:=zx0 HB hx182_1
         replace hx182_2:=zx0 HB hx182_2
         replace p182:=eq_true p182
         replace q182:=eq_true q182
         try go_wp2_with (first | ((with_reducible refine gate_dst (N:=4) rfl ?_);(try (refine gate_guard (by rfl) ?_;dsimp only));refine zy0 (cs:=#[.string (⟨#[]⟩ : ByteArray),.string (⟨#[]⟩ : ByteArray),.bool false]) (t:=100) ?_;intro gb183 hg w82 hbox hb;have BK183:=Aside0.mk hbox;have GW183:=zz0 hg HB;have GE183:=zz0 hg HB;replace HB:=zs0 HB hb;have NB179_183:=zl0 hg BK179;have NB183_179:=zg0 hg BK179;replace BK179:=zb0 BK179 hb;clear hb hbox hg;obtain ⟨_,_⟩:=zn0 NB183_179;obtain ⟨_,_,_,_,_,_⟩:=zd03 BK183))
         have n0_ : Aside0 ((((w82.setCell ⟨gb183,0,none⟩ (.string ((rd_T100 l0_1 x3_2).f0))).setCell ⟨gb183,1,none⟩ (.string ((rd_T100 l0_1 x3_2).f1))).setCell ⟨gb183,2,none⟩ (.bool ((rd_T100 l0_1 x3_2).f2))).heap[gb179]? = some (.cells #[.int .i64 a0_0,.slice (some ad182) l0_1.length c0_1] 70 (0,0))):=⟨zK0 BK179.out⟩
         have n1_ : Aside0 ((((w82.setCell ⟨gb183,0,none⟩ (.string ((rd_T100 l0_1 x3_2).f0))).setCell ⟨gb183,1,none⟩ (.string ((rd_T100 l0_1 x3_2).f1))).setCell ⟨gb183,2,none⟩ (.bool ((rd_T100 l0_1 x3_2).f2))).heap[gb183]? = some (.cells #[.string ((rd_T100 l0_1 x3_2).f0),.string ((rd_T100 l0_1 x3_2).f1),.bool ((rd_T100 l0_1 x3_2).f2)] 100 (0,0))):=⟨by refine zT0 ?_;refine blk_put (cs:=#[.string ((rd_T100 l0_1 x3_2).f0),.string ((rd_T100 l0_1 x3_2).f1),.bool false]) ?_ 2 _ rfl;refine zT0 ?_;refine blk_put (cs:=#[.string ((rd_T100 l0_1 x3_2).f0),.string (⟨#[]⟩ : ByteArray),.bool false]) ?_ 1 _ rfl;refine zT0 ?_;refine blk_put (cs:=#[.string (⟨#[]⟩ : ByteArray),.string (⟨#[]⟩ : ByteArray),.bool false]) ?_ 0 _ rfl;exact zK0 BK183.out⟩
         have n2_ : Aside0 (Below w.heap.size w (((w82.setCell ⟨gb183,0,none⟩ (.string ((rd_T100 l0_1 x3_2).f0))).setCell ⟨gb183,1,none⟩ (.string ((rd_T100 l0_1 x3_2).f1))).setCell ⟨gb183,2,none⟩ (.bool ((rd_T100 l0_1 x3_2).f2)))):=⟨zY0 HB.out⟩
         (try clear BK179)
         (try clear BK183)
         (try clear HB)
         generalize (((w82.setCell ⟨gb183,0,none⟩ (.string ((rd_T100 l0_1 x3_2).f0))).setCell ⟨gb183,1,none⟩ (.string ((rd_T100 l0_1 x3_2).f1))).setCell ⟨gb183,2,none⟩ (.bool ((rd_T100 l0_1 x3_2).f2))) = w85 at n0_ n1_ n2_ ⊢
         have BK179:=n0_
         have BK183:=n1_
         have HB:=n2_
         clear n0_ n1_ n2_
         replace BK179:=Aside0.mk (blk_drew BK179.out)
         replace BK183:=Aside0.mk (blk_drew BK183.out)
         replace HB:=Aside0.mk (below_drew1 HB.out)
         refine start_ (n:=36) (S:=fun w' => w'.cell? ⟨gb183,0,none⟩ = some (.string ((rd_T100 l0_1 x3_2).f0)) ∧ w'.cell? ⟨gb183,1,none⟩ = some (.string ((rd_T100 l0_1 x3_2).f1)) ∧ w'.cell? ⟨gb183,2,none⟩ = some (.bool ((rd_T100 l0_1 x3_2).f2))) (ds:=[]) (zF0 36 0) (by kernel_rfl) rfl rfl ⟨zc00 BK183,zc01 BK183,zc02 BK183⟩ (fun hHeld => ?_);refine with_tabW spec_BatchOk.tab7 spec_BatchOk.bits7 (fun HT_ HW_ => ?_)
         generalize w85.drew = w86 at BK179 BK183 HB hHeld ⊢
         refine zp0 0 28 36 1 HT_ ?_
         refine zt0 1 29 36 3 HT_ HW_ hHeld ?_
         refine zp0 2 30 36 7 HT_ ?_
         refine one_ (i:=3) (N:=some 31) (zF0 36 15) rfl rfl (one_of HT_.out (by kernel_rfl)) (by decide) (fun K hK => ?_)
         refine goes_ Tryz.func31 (by kernel_rfl) rfl #[.int .i64 (((rd_T100 l0_1 x3_2).f0).size : Int),.int .i64 1,.int .i64 20] (by rfl) rfl rfl zM0 ?_
         with_reducible refine (spec_l01In.calls (((rd_T100 l0_1 x3_2).f0).size : Int) 1 20 false _ A12.out).mono ?_
         rintro e w' ⟨rfl,⟨nd,rfl⟩⟩
         refine ⟨_,rfl,?_⟩
         refine hK.out _ _ ⟨zc00 BK183,zc01 BK183,zc02 BK183⟩ (fun hHeld => ?_)
         clear hK K
         refine norm_ (a':=?_) ?_ ?_;rotate_left
         ·show Act.put _ (some 31) _ = _;simp only [Act.put,qA0,qB0,qC0,i64_w,i32_w];rfl
         refine zp0 4 32 36 31 HT_ ?_
         refine zp0 5 33 36 63 HT_ ?_
         refine zq0 6 34 36 127 HT_ ?_
         refine zq0 7 35 36 255 HT_ ?_
         refine zq0 8 36 36 511 HT_ ?_
         refine zq0 9 37 36 1023 HT_ ?_
         refine zq0 10 38 36 2047 HT_ ?_
         refine zq0 11 39 36 4095 HT_ ?_
         refine zq0 12 40 36 8191 HT_ ?_
         refine zq0 13 41 36 16383 HT_ ?_
         refine zq0 14 42 36 32767 HT_ ?_
         refine zq0 15 43 36 65535 HT_ ?_
         refine zq0 16 44 36 131071 HT_ ?_
         refine zq0 17 45 36 262143 HT_ ?_
         refine zq0 18 46 36 524287 HT_ ?_
         refine zq0 19 47 36 1048575 HT_ ?_
         refine zp0 20 48 36 2097151 HT_ ?_
         refine zp0 21 49 36 4194303 HT_ ?_
         refine zq0 22 50 36 8388607 HT_ ?_
         refine zq0 23 51 36 16777215 HT_ ?_
         refine zq0 24 52 36 33554431 HT_ ?_
         refine zq0 25 53 36 67108863 HT_ ?_
         refine zp0 26 54 36 134217727 HT_ ?_
         refine zp0 27 55 36 268435455 HT_ ?_
         refine zq0 28 56 36 536870911 HT_ ?_
         refine zq0 29 57 36 1073741823 HT_ ?_
         refine zq0 30 58 36 2147483647 HT_ ?_
         refine zq0 31 59 36 4294967295 HT_ ?_
         refine zq0 32 60 36 8589934591 HT_ ?_
         refine zq0 33 61 36 17179869183 HT_ ?_
         refine zq0 34 62 36 34359738367 HT_ ?_
         refine zp0 35 63 36 68719476735 HT_ ?_
         refine done_ (done_of HT_.out (by kernel_rfl)) ?_
         try go_wp2
         go_ret
         exact ⟨zW0,(zY0 HB.out)⟩
       ·rw [if_neg c11] at H
        exact absurd H (by simp)
      ·rw [if_neg c10] at H
       have c10b0 : decide (x3_2 < (l0_1.length : Int)) = false:=decide_eq_false c10
       clear c10
       obtain rfl:=Option.some.inj H
       have hcz87_0 : wr.cell? ⟨gb179,0,none⟩ = some (.int .i64 a0_0):=zc00 BK179
       have hcz87_1 : wr.cell? ⟨gb179,1,none⟩ = some (.slice A0_1 l0_1.length c0_1):=zc01 BK179
       have hfz87_0:=blk_frozen BK179.out 0
       have hfz87_1:=blk_frozen BK179.out 1
       go_wp2
       go_ret
       exact ⟨zW0,(zY0 HB.out)⟩

end Go.Proofs.YtlekhcopddajbaaGreatDoor.PFnExactSegments
