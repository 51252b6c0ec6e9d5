/- Walks, turned from a print. -/
import Derived.Test.YtgfacdhkamphiaaOFnActsx0
import Derived.Test.YtgfacdhkamphiaaOFnActsx8
import Derived.Test.YtgfacdhkamphiaaOFnActsx12
import Derived.Test.YtgfacdhkamphiaaOFnActsx13
namespace Go.Proofs.Ytgfacdhkamphiaa.PFnActs
open Go.RowKit Go.Proofs.YtgfacdhkamphiaaW.PrintWords Go.Proofs.YtgfacdhkamphiaaW.PrintLast Go.Proofs.YtgfacdhkamphiaaW.PrintMore
attribute [local go_sem] max2_int min2_int max_two min_two max_three min_three max_four min_four
set_option linter.unusedVariables false
set_option linter.unusedSimpArgs false

/-! ### spec_l03Disk: function 87 -/
mutual
def spec_l03Disk.l0 : Nat → Int → List Int → Int → Int → List (S45) → Option ((List (S45)) × Int × Int)
 | 0,_,_,_,_,_ => none
 | k + 1,x4,x1000,x1001,x1002,x266000 => (spec_l01Below.f x1000 x1001 x1002 6).bind fun bt266 => (if x4 < bt266.1 then ((spec_l01Below.f x1000 bt266.2.1 bt266.2.2 9).bind fun bt269 => ((spec_l01Text.f k x1000 bt269.2.1 bt269.2.2 bt269.1).bind fun bt272 => ((spec_l03Named.f x1000 bt272.2.1 bt272.2.2).bind fun bt275 => ((spec_l01Below.f x1000 bt275.2.1 bt275.2.2 (wrap64 ((bt272.1.size : Int) + 1))).bind fun bt278 => ((spec_l03Put.f k x266000 bt275.1 bt272.1 bt278.1).bind fun t281 => (spec_l03Disk.l0 k (wrap64 (x4 + 1)) x1000 bt278.2.1 bt278.2.2 t281)))))) else (if (x266000.length : Int) = 0 then (some (x266000,bt266.2.1,bt266.2.2)) else ((spec_l01Below.f x1000 bt266.2.1 bt266.2.2 (x266000.length : Int)).bind fun bt284 => ((spec_l01Below.f x1000 bt284.2.1 bt284.2.2 40).bind fun bt287 => (if bt287.1 = 0 then (if 0 ≤ bt284.1 then (if bt284.1 < (x266000.length : Int) then ((spec_l01PickInt.f x1000 bt287.2.1 bt287.2.2 (([(-1),wrap64 ((((rd_T45 x266000 bt284.1).f1).size : Int) + 1)] : List Int))).bind fun bt294 => (some ((x266000.set (bt284.1 : Int).toNat (⟨(rd_T45 x266000 bt284.1).f0,(rd_T45 x266000 bt284.1).f1,bt294.1⟩ : S45)),bt294.2.1,bt294.2.2))) else (none)) else (none)) else (if bt287.1 = 1 then (if 0 ≤ bt284.1 then (if bt284.1 < (x266000.length : Int) then (if x266000.length < 3518437208883 then (some ((x266000 ++ [(⟨(rd_T45 x266000 bt284.1).f0,(rd_T45 x266000 bt284.1).f1,(rd_T45 x266000 bt284.1).f2⟩ : S45)]),bt287.2.1,bt287.2.2)) else (none)) else (none)) else (none)) else (if bt287.1 = 2 then ((spec_l01Pick.f x1000 bt287.2.1 bt287.2.2 (([(⟨#[]⟩ : ByteArray),(⟨#[49,50,51,52,53,54,55,56]⟩ : ByteArray),(⟨#[49,50,51,52,53,54,55,56,57]⟩ : ByteArray)] : List ByteArray))).bind fun bt305 => (if 0 ≤ bt284.1 then (if bt284.1 < (x266000.length : Int) then (some ((x266000.set (bt284.1 : Int).toNat (⟨bt305.1,(rd_T45 x266000 bt284.1).f1,(rd_T45 x266000 bt284.1).f2⟩ : S45)),bt305.2.1,bt305.2.2)) else (none)) else (none))) else (if bt287.1 = 3 then (spec_l03Disk.l1 k 0 x1000 bt287.2.1 bt287.2.2 (([] : List (S45)))) else (if bt287.1 = 4 then ((spec_l01Below.f x1000 bt287.2.1 bt287.2.2 3).bind fun bt319 => ((spec_l01Long.f k (wrap64 (19999 + bt319.1)) 65).bind fun t322 => (if 0 ≤ bt284.1 then (if bt284.1 < (x266000.length : Int) then (some ((x266000.set (bt284.1 : Int).toNat (⟨(rd_T45 x266000 bt284.1).f0,t322,(rd_T45 x266000 bt284.1).f2⟩ : S45)),bt319.2.1,bt319.2.2)) else (none)) else (none)))) else (some (x266000,bt287.2.1,bt287.2.2)))))))))))
def spec_l03Disk.l1 : Nat → Int → List Int → Int → Int → List (S45) → Option ((List (S45)) × Int × Int)
 | 0,_,_,_,_,_ => none
 | k + 1,x7,x1000,x1001,x1002,x266000 => (spec_l01Below.f x1000 x1001 x1002 2).bind fun bt312 => (if x7 < (wrap64 (30 + bt312.1)) then ((spec_Decimal.f k (wrap64 (100 + x7))).bind fun t315 => (if 1 + t315.size ≤ 9223372036854775807 then (if x266000.length < 3518437208883 then (spec_l03Disk.l1 k (wrap64 (x7 + 1)) x1000 bt312.2.1 bt312.2.2 (x266000 ++ [(⟨(⟨#[102]⟩ : ByteArray) ++ t315,(⟨#[]⟩ : ByteArray),0⟩ : S45)])) else (none)) else (none))) else (some (x266000,bt312.2.1,bt312.2.2)))
end
def spec_l03Disk.f (k : Nat) (s0_0 : List Int) (s0_1 : Int) (s0_2 : Int) : Option ((List (S45)) × Int × Int):=spec_l03Disk.l0 k 0 s0_0 s0_1 s0_2 ([] : List (S45))
theorem spec_l03Disk.mono_l : ∀ k,(∀ y0 y1 y2 y3 y4,LeO (spec_l03Disk.l0 k y0 y1 y2 y3 y4) (spec_l03Disk.l0 (k + 1) y0 y1 y2 y3 y4)) ∧ (∀ y0 y1 y2 y3 y4,LeO (spec_l03Disk.l1 k y0 y1 y2 y3 y4) (spec_l03Disk.l1 (k + 1) y0 y1 y2 y3 y4))
 | 0 => ⟨fun _ _ _ _ _ r h => by simp [spec_l03Disk.l0] at h,fun _ _ _ _ _ r h => by simp [spec_l03Disk.l1] at h⟩
 | k + 1 => by
  obtain ⟨ih0,ih1⟩:=spec_l03Disk.mono_l k
  refine ⟨?_,?_⟩
  intro y0 y1 y2 y3 y4;unfold spec_l03Disk.l0;rotate_left
  intro y0 y1 y2 y3 y4;unfold spec_l03Disk.l1;rotate_left
  all_goals repeat' first
  | (with_reducible exact ih0 _ _ _ _ _)
  | (with_reducible exact ih1 _ _ _ _ _)
  | (with_reducible exact spec_Decimal.mono _ _)
  | (with_reducible exact spec_l01Long.mono _ _ _)
  | (with_reducible exact spec_l01Text.mono _ _ _ _ _)
  | (with_reducible exact spec_l03Put.mono _ _ _ _ _)
  | (with_reducible exact LeO.refl _)
  | (with_reducible exact LeO.none _)
  | (with_reducible refine LeO.ite ?_ ?_)
  | (with_reducible refine LeO.bind ?_ (fun _ => ?_))
theorem spec_l03Disk.mono : ∀ a0 a1 a2 k,LeO (spec_l03Disk.f k a0 a1 a2) (spec_l03Disk.f (k + 1) a0 a1 a2):=by
 intro a0 a1 a2 k
 obtain ⟨ih0,ih1⟩:=spec_l03Disk.mono_l k
 unfold spec_l03Disk.f
 repeat' first
  | (with_reducible exact ih0 _ _ _ _ _)
  | (with_reducible exact ih1 _ _ _ _ _)
  | (with_reducible exact spec_Decimal.mono _ _)
  | (with_reducible exact spec_l01Long.mono _ _ _)
  | (with_reducible exact spec_l01Text.mono _ _ _ _ _)
  | (with_reducible exact spec_l03Put.mono _ _ _ _ _)
  | (with_reducible exact LeO.refl _)
  | (with_reducible exact LeO.none _)
  | (with_reducible refine LeO.ite ?_ ?_)
  | (with_reducible refine LeO.bind ?_ (fun _ => ?_))
def spec_l03Disk.T6 : Bool × List (List Nat × List Nat):=(true,[([],[]),([],[]),([1],[1]),([],[]),([],[]),([],[]),([5],[5]),([6],[6]),([4,7,2],[4,7]),([2,3,8],[2,3,8]),([0,9,8],[0,9]),([10,10,0,1,2,3,4,5,6,7,8,9,10],[10])])
def spec_l03Disk.B6 : List Nat:=[0,0,2,0,0,0,32,96,246,510,1023,2047]
theorem spec_l03Disk.tab6 : rtab .any (opsOf Try.f87 6) = spec_l03Disk.T6:=by kernel_rfl
theorem spec_l03Disk.bits6 : waitsOk spec_l03Disk.T6.2 spec_l03Disk.B6 = true:=by kernel_rfl
def spec_l03Disk.T12 : Bool × List (List Nat × List Nat):=(true,[([],[]),([0],[0]),([],[]),([],[]),([],[]),([4],[4]),([],[]),([5,6],[5,6]),([7],[7]),([8],[8]),([9],[9]),([10],[10]),([11],[11]),([3,12],[3,12]),([1,2,0,1,2,3,4,5,6,7,8,9,10,11,12,13],[1,2]),([14,0,1,2,3,4,5,6,7,8,9,10,11,12,13],[14]),([15,13,13,0,1,2,3,4,5,6,7,8,9,10,11,12,13],[13,15])])
def spec_l03Disk.B12 : List Nat:=[0,1,0,0,0,16,0,112,240,496,1008,2032,4080,8184,16383,32767,65535]
theorem spec_l03Disk.tab12 : rtab .any (opsOf Try.f87 12) = spec_l03Disk.T12:=by kernel_rfl
theorem spec_l03Disk.bits12 : waitsOk spec_l03Disk.T12.2 spec_l03Disk.B12 = true:=by kernel_rfl
def spec_l03Disk.T14 : Bool × List (List Nat × List Nat):=(true,[([],[]),([0],[0]),([],[]),([2],[2]),([],[]),([3,4],[3,4]),([5],[5]),([6],[6]),([1,7],[1,7]),([0,1,2,3,4,5,6,7,8],[]),([9,8,8,0,1,2,3,4,5,6,7,8],[8,9])])
def spec_l03Disk.B14 : List Nat:=[0,1,0,4,0,28,60,124,255,511,1023]
theorem spec_l03Disk.tab14 : rtab .any (opsOf Try.f87 14) = spec_l03Disk.T14:=by kernel_rfl
theorem spec_l03Disk.bits14 : waitsOk spec_l03Disk.T14.2 spec_l03Disk.B14 = true:=by kernel_rfl
def spec_l03Disk.T16 : Bool × List (List Nat × List Nat):=(true,[([],[]),([0],[0]),([],[]),([],[]),([],[]),([3,4],[3,4]),([1,2,0,1,2,3,4,5],[1,2]),([6,0,1,2,3,4,5],[6]),([7,5,5,0,1,2,3,4,5],[5,7])])
def spec_l03Disk.B16 : List Nat:=[0,1,0,0,0,24,63,127,255]
theorem spec_l03Disk.tab16 : rtab .any (opsOf Try.f87 16) = spec_l03Disk.T16:=by kernel_rfl
theorem spec_l03Disk.bits16 : waitsOk spec_l03Disk.T16.2 spec_l03Disk.B16 = true:=by kernel_rfl
def spec_l03Disk.T22 : Bool × List (List Nat × List Nat):=(true,[([],[]),([0],[0]),([],[]),([2],[2]),([3],[3]),([4],[4]),([5],[5]),([6],[6]),([1,7,4],[1,7]),([0,1,2,3,4,5,6,7,8],[]),([9,8,8,0,1,2,3,4,5,6,7,8],[8,9])])
def spec_l03Disk.B22 : List Nat:=[0,1,0,4,12,28,60,124,255,511,1023]
theorem spec_l03Disk.tab22 : rtab .any (opsOf Try.f87 22) = spec_l03Disk.T22:=by kernel_rfl
theorem spec_l03Disk.bits22 : waitsOk spec_l03Disk.T22.2 spec_l03Disk.B22 = true:=by kernel_rfl
def spec_l03Disk.T24 : Bool × List (List Nat × List Nat):=(true,[([],[]),([0],[0]),([],[]),([],[]),([3],[3]),([4],[4]),([5,4],[5]),([1,2,0,1,2,3,4,5,6],[1,2]),([7,0,1,2,3,4,5,6],[7]),([8,6,6,0,1,2,3,4,5,6],[6,8])])
def spec_l03Disk.B24 : List Nat:=[0,1,0,0,8,24,56,127,255,511]
theorem spec_l03Disk.tab24 : rtab .any (opsOf Try.f87 24) = spec_l03Disk.T24:=by kernel_rfl
theorem spec_l03Disk.bits24 : waitsOk spec_l03Disk.T24.2 spec_l03Disk.B24 = true:=by kernel_rfl
set_option maxHeartbeats 8000000 in
set_option maxRecDepth 100000 in
theorem spec_l03Disk.calls (k : Nat) (g : Nat) (s0_0 : List Int) (s0_1 : Int) (s0_2 : Int) (r1 : List (S45)) (r2 : Int) (r3 : Int) (w0 w : World) (hI : IsS139 w0 w g s0_0 s0_1 s0_2) (hB : Below w0.heap.size w0 w) (h : spec_l03Disk.f k s0_0 s0_1 s0_2 = some (r1,r2,r3)) :
  Calls Try.prog 87 #[.pointer (some ⟨g,0,none⟩)] w fun e w' => ∃ v0_ : Value,e = .returned (.agg #[v0_]) ∧ Kd.R k45 45 w' w.heap.size (fun _ => True) v0_ r1 ∧ IsS139 w0 w' g s0_0 r2 r3 ∧ Below w0.heap.size w0 w' ∧ KeepBut w w' g none:=by
 have hu30:=Try.underlying30
 have hu45:=Try.underlying45
 have HI0:=Aside0.mk hI
 have HK:=Aside0.mk (KeepBut.refl w g none)
 have HL:=Aside0.mk hB.size
 clear hI
 have HW0:=Aside0.mk hB.size
 have HB:=Aside0.mk hB
 clear hB
 have H : (spec_l03Disk.l0 k 0 s0_0 s0_1 s0_2 ([] : List (S45))) = some (r1,r2,r3):=h
 clear h
 have H':=Aside0.mk H
 clear H
 go_enter Try.func87,Try.ntmps87
 go_wp2_with (first | ((with_reducible refine gate_dst (N:=2) rfl ?_);refine zy0 (cs:=#[.slice none 0 0]) (t:=30) ?_;intro gb264 hg w2 hbox hb;replace HB:=Aside0.mk (below_step (zj0 HB HI0) hb);have BK264:=Aside0.mk hbox;have GW264:=Aside0.mk ((by rw [hg];exact (keep_size (w:=w) (g:=g) (row:=none) (zk0 HK)) : w.heap.size ≤ gb264));have GE264:=Aside0.mk ((Nat.le_trans HW0.out (by rw [hg];exact (keep_size (w:=w) (g:=g) (row:=none) (zk0 HK)) : w.heap.size ≤ gb264) : w0.heap.size ≤ gb264));replace HK:=Aside0.mk (KeepBut.trans (zk0 HK) (KeepBut.of_below hb g none) (.inl rfl));have NB0_264:=Aside0.mk ((by rw [hg];exact Nat.ne_of_lt (IsS139.lt (show IsS139 w0 _ g s0_0 s0_1 s0_2 from zi0 HI0)) : g ≠ gb264));have NB264_0:=Aside0.mk ((by rw [hg];exact Nat.ne_of_gt (IsS139.lt (show IsS139 w0 _ g s0_0 s0_1 s0_2 from zi0 HI0)) : gb264 ≠ g));replace HI0:=Aside0.mk (IsS139.below (zi0 HI0) hb);clear hb hbox hg) | ((with_reducible refine gate_dst (N:=3) rfl ?_);refine zy0 (cs:=#[.slice none 0 0]) (t:=30) ?_;intro gb265 hg w3 hbox hb;replace HB:=Aside0.mk (below_step (zj0 HB HI0) hb);have BK265:=Aside0.mk hbox;have GW265:=Aside0.mk ((by rw [hg];exact (keep_size (w:=w) (g:=g) (row:=none) (zk0 HK)) : w.heap.size ≤ gb265));have GE265:=Aside0.mk ((Nat.le_trans HW0.out (by rw [hg];exact (keep_size (w:=w) (g:=g) (row:=none) (zk0 HK)) : w.heap.size ≤ gb265) : w0.heap.size ≤ gb265));replace HK:=Aside0.mk (KeepBut.trans (zk0 HK) (KeepBut.of_below hb g none) (.inl rfl));have NB264_265:=zl0 hg BK264;have NB265_264:=zg0 hg BK264;replace BK264:=zb0 BK264 hb;have NB0_265:=Aside0.mk ((by rw [hg];exact Nat.ne_of_lt (IsS139.lt (show IsS139 w0 _ g s0_0 s0_1 s0_2 from zi0 HI0)) : g ≠ gb265));have NB265_0:=Aside0.mk ((by rw [hg];exact Nat.ne_of_gt (IsS139.lt (show IsS139 w0 _ g s0_0 s0_1 s0_2 from zi0 HI0)) : gb265 ≠ g));replace HI0:=Aside0.mk (IsS139.below (zi0 HI0) hb);clear hb hbox hg;obtain ⟨_,_⟩:=zn0 NB265_264;obtain ⟨_,_⟩:=zn0 NB265_0;obtain ⟨hcz6_0,hfz6_0⟩:=zd01 BK265))
 go_loopg [4] k (fun kq v4 w' => ∃ (x4_1 : Int) (x1001_1 : Int) (x1002_1 : Int) (x266000_1 : List (S45)) (u266000 : Value),v4 = .int .i64 x4_1 ∧ Aside0 (spec_l03Disk.l0 kq x4_1 s0_0 x1001_1 x1002_1 x266000_1 = some (r1,r2,r3)) ∧ Aside0 (kq ≤ k) ∧ Aside0 (Kd.R k45 45 w' w.heap.size (fun _ => True) u266000 x266000_1) ∧ Aside0 (w'.heap[gb264]? = some (.cells #[(.slice none 0 0)] 30 (0,0))) ∧ Aside0 (w'.heap[gb265]? = some (.cells #[u266000] 30 (0,0))) ∧ Aside0 (IsS139 w0 w' g s0_0 x1001_1 x1002_1) ∧ Aside0 (KeepBut w w' g none) ∧ Aside0 (Below w0.heap.size w0 w'))
 case atStart => exact ⟨(0),(s0_1),(s0_2),(([] : List (S45))),(.slice none 0 0),zE0,H',⟨Nat.le_refl _⟩,⟨by first | exact Kd.R_nil _ _ _ _ _ | exact Kd.N_nil _ _ _ _ _ | exact Kd.V_nil _ _ _ _ _ | exact Kd.Q_nil _ _ _ _ _ | exact Kd.S_nil _ _ _ _ _⟩,⟨zK0 BK264.out⟩,⟨by refine zT0 ?_;refine blk_put (cs:=#[.slice none 0 0]) ?_ 0 _ rfl;exact zK0 BK265.out⟩,⟨zi0 HI0⟩,⟨zk0 HK⟩,⟨zj0 HB HI0⟩⟩
 case round =>
  clear H'
  try clear hcz6_0
  try clear hfz6_0
  obtain ⟨x4_1,x1001_1,x1002_1,x266000_1,u266000,rfl,HA,HK1,HO_266000,BK264,BK265,HI0,HK,HB⟩:=hrel
  cases gk with
  | zero => exact absurd HA.out (by simp [spec_l03Disk.l0])
  | succ k1 =>
   have H:=HA.out
   clear HA
   simp only [spec_l03Disk.l0] at H
   obtain ⟨⟨t266,t267,t268⟩,A7,H⟩:=bX0 H
   dsimp only at H
   by_cases c8 : x4_1 < t266
   ·rw [if_pos c8] at H
    have c8b0 : decide (x4_1 < t266) = true:=decide_eq_true c8
    clear c8
    obtain ⟨⟨t269,t270,t271⟩,A9,H⟩:=bX0 H
    dsimp only at H
    obtain ⟨⟨t272,t273,t274⟩,A10,H⟩:=bX0 H
    dsimp only at H
    obtain ⟨⟨t275,t276,t277⟩,A11,H⟩:=bX0 H
    dsimp only at H
    obtain ⟨⟨t278,t279,t280⟩,A12,H⟩:=bX0 H
    dsimp only at H
    obtain ⟨t281,A13,H⟩:=bX0 H
    have H':=Aside0.mk H
    clear H
    try go_wp2_with (first | ((with_reducible refine gate_callee (f:=72) rfl ?_);refine goesL_ (some 11) rfl rfl Try.func72 (by kernel_rfl) rfl #[.pointer (some ⟨g,0,none⟩),.int .i64 6] rfl zM0 ?_;(with_reducible refine (spec_l01Below.calls g s0_0 x1001_1 x1002_1 6 t266 t267 t268 w0 _ ?side1 ?side2 A7.out).mono ?_);(case side1 => exact zi0 HI0);(case side2 => exact zj0 HB HI0);rintro e w14 ⟨rfl,hi,hb,hk⟩;refine ⟨_,rfl,?_⟩;replace HO_266000:=Aside0.mk (Kd.R_mono (Kd.R_keep (IsS139.apart (show IsS139 w0 _ g s0_0 x1001_1 x1002_1 from zi0 HI0) (zR0 HO_266000.out) (by decide)) hk (fun _ h => h.2)) (fun _ h => h.1));replace BK264:=zw0 hk BK264 NB264_0;replace BK265:=zw0 hk BK265 NB265_0;replace HK:=zm0 HK hk;replace HB:=Aside0.mk hb;replace HI0:=Aside0.mk hi;(try clear hb);(try clear hk);(try clear hi)) | ((with_reducible refine gate_callee (f:=72) rfl ?_);refine goesL_ (some 17) rfl rfl Try.func72 (by kernel_rfl) rfl #[.pointer (some ⟨g,0,none⟩),.int .i64 9] rfl zM0 ?_;(with_reducible refine (spec_l01Below.calls g s0_0 t267 t268 9 t269 t270 t271 w0 _ ?side1 ?side2 A9.out).mono ?_);(case side1 => exact zi0 HI0);(case side2 => exact zj0 HB HI0);rintro e w15 ⟨rfl,hi,hb,hk⟩;refine ⟨_,rfl,?_⟩;replace HO_266000:=Aside0.mk (Kd.R_mono (Kd.R_keep (IsS139.apart (show IsS139 w0 _ g s0_0 t267 t268 from zi0 HI0) (zR0 HO_266000.out) (by decide)) hk (fun _ h => h.2)) (fun _ h => h.1));replace BK264:=zw0 hk BK264 NB264_0;replace BK265:=zw0 hk BK265 NB265_0;replace HK:=zm0 HK hk;replace HB:=Aside0.mk hb;replace HI0:=Aside0.mk hi;(try clear hb);(try clear hk);(try clear hi)) | ((with_reducible refine gate_callee (f:=73) rfl ?_);refine goesL_ (some 18) rfl rfl Try.func73 (by kernel_rfl) rfl #[.pointer (some ⟨g,0,none⟩),.int .i64 t269] rfl zM0 ?_;(with_reducible refine (spec_l01Text.calls k1 g s0_0 t270 t271 t269 t272 t273 t274 w0 _ ?side1 ?side2 A10.out).mono ?_);(case side1 => exact zi0 HI0);(case side2 => exact zj0 HB HI0);rintro e w16 ⟨rfl,hi,hb,hk⟩;refine ⟨_,rfl,?_⟩;replace HO_266000:=Aside0.mk (Kd.R_mono (Kd.R_keep (IsS139.apart (show IsS139 w0 _ g s0_0 t270 t271 from zi0 HI0) (zR0 HO_266000.out) (by decide)) hk (fun _ h => h.2)) (fun _ h => h.1));replace BK264:=zw0 hk BK264 NB264_0;replace BK265:=zw0 hk BK265 NB265_0;replace HK:=zm0 HK hk;replace HB:=Aside0.mk hb;replace HI0:=Aside0.mk hi;(try clear hb);(try clear hk);(try clear hi)))
    replace HO_266000:=Aside0.mk (Kd.R_drew HO_266000.out)
    replace BK264:=Aside0.mk (blk_drew BK264.out)
    replace BK265:=Aside0.mk (blk_drew BK265.out)
    replace HI0:=Aside0.mk (IsS139.drew HI0.out)
    replace HK:=Aside0.mk (keep_drew HK.out)
    replace HB:=Aside0.mk (below_drew1 HB.out)
    refine start_ (n:=12) (S:=fun w' => w'.cell? ⟨gb265,0,none⟩ = some (u266000)) (ds:=[11]) (zF0 12 0) (by kernel_rfl) rfl rfl (zc00 BK265) (fun hHeld => ?_);refine with_tabW spec_l03Disk.tab6 spec_l03Disk.bits6 (fun HT_ HW_ => ?_)
    generalize w16.drew = w17 at HO_266000 BK264 BK265 HI0 HK HB hHeld ⊢
    refine zp0 1 20 12 2 HT_ ?_
    refine zp0 3 22 12 10 HT_ ?_
    refine zp0 4 23 12 26 HT_ ?_
    refine zp0 5 24 12 58 HT_ ?_
    refine zp0 6 25 12 122 HT_ ?_
    refine zp0 7 26 12 250 HT_ ?_
    refine zt0 0 19 12 251 HT_ HW_ hHeld ?_
    refine one_ (i:=2) (N:=some 21) (zF0 12 255) rfl rfl (one_of HT_.out (by kernel_rfl)) (by decide) (fun K hK => ?_)
    refine goes_ Try.func75 (by kernel_rfl) rfl #[.pointer (some ⟨g,0,none⟩)] (by rfl) rfl rfl zM0 ?_
    with_reducible refine (spec_l03Named.calls g s0_0 t273 t274 t275 t276 t277 w0 _ ?side1 ?side2 A11.out).mono ?_
    (case side1 => exact zi0 HI0)
    (case side2 => exact zj0 HB HI0)
    rintro e w18 ⟨rfl,hi,hb,hk⟩
    refine ⟨_,rfl,?_⟩
    replace HO_266000:=Aside0.mk (Kd.R_mono (Kd.R_keep (IsS139.apart (show IsS139 w0 _ g s0_0 t273 t274 from zi0 HI0) (zR0 HO_266000.out) (by decide)) hk (fun _ h => h.2)) (fun _ h => h.1))
    replace BK264:=zw0 hk BK264 NB264_0
    replace BK265:=zw0 hk BK265 NB265_0
    replace HK:=zm0 HK hk
    replace HB:=Aside0.mk hb
    replace HI0:=Aside0.mk hi
    (try clear hb)
    (try clear hb2)
    (try clear hk)
    (try clear hi)
    refine hK.out _ _ (zc00 BK265) (fun hHeld => ?_)
    clear hK K
    refine norm_ (a':=?_) ?_ ?_;rotate_left
    ·show Act.put _ (some 21) _ = _;simp only [Act.put,qA0,qB0,qC0,i64_w,i32_w];rfl
    refine one_ (i:=8) (N:=some 27) (zF0 12 511) rfl rfl (one_of HT_.out (by kernel_rfl)) (by decide) (fun K hK => ?_)
    refine goes_ Try.func72 (by kernel_rfl) rfl #[.pointer (some ⟨g,0,none⟩),.int .i64 (wrap64 ((t272.size : Int) + 1))] (by rfl) rfl rfl zM0 ?_
    with_reducible refine (spec_l01Below.calls g s0_0 t276 t277 (wrap64 ((t272.size : Int) + 1)) t278 t279 t280 w0 _ ?side1 ?side2 A12.out).mono ?_
    (case side1 => exact zi0 HI0)
    (case side2 => exact zj0 HB HI0)
    rintro e w19 ⟨rfl,hi,hb,hk⟩
    refine ⟨_,rfl,?_⟩
    replace HO_266000:=Aside0.mk (Kd.R_mono (Kd.R_keep (IsS139.apart (show IsS139 w0 _ g s0_0 t276 t277 from zi0 HI0) (zR0 HO_266000.out) (by decide)) hk (fun _ h => h.2)) (fun _ h => h.1))
    replace BK264:=zw0 hk BK264 NB264_0
    replace BK265:=zw0 hk BK265 NB265_0
    replace HK:=zm0 HK hk
    replace HB:=Aside0.mk hb
    replace HI0:=Aside0.mk hi
    (try clear hb)
    (try clear hb2)
    (try clear hk)
    (try clear hi)
    obtain ⟨Ao20,co20,eo20⟩:=Kd.R_slice HO_266000.out
    (first | subst eo20 | (injection eo20 with f1_ f2_ f3_;have f4_:=f1_.symm;have f5_:=f3_.symm;clear f1_ f2_ f3_;subst f4_;subst f5_))
    refine hK.out _ _ (zc00 BK265) (fun hHeld => ?_)
    clear hK K
    refine norm_ (a':=?_) ?_ ?_;rotate_left
    ·show Act.put _ (some 27) _ = _;simp only [Act.put,qA0,qB0,qC0,i64_w,i32_w];rfl
    refine zp0 9 28 12 1023 HT_ ?_
    refine one_ (i:=10) (N:=some 29) (zF0 12 2047) rfl rfl (one_of HT_.out (by kernel_rfl)) (by decide) (fun K hK => ?_)
    refine goes_ Try.func74 (by kernel_rfl) rfl #[.agg #[.slice Ao20 x266000_1.length co20],.agg #[.string t275,.string t272,.int .i64 t278]] (by rfl) rfl rfl zM0 ?_
    with_reducible refine (spec_l03Put.calls k1 _ _ x266000_1 t275 t272 t278 t281 _ ?side1 ?side2 A13.out).mono ?_
    (case side1 => exact zA0 ((Kd.R_reads' HO_266000.out).2.2))
    (case side2 => exact (Kd.R_reads' HO_266000.out).2.1)
    rintro e w21 ⟨v282,rfl,ho0,hb⟩
    refine ⟨_,rfl,?_⟩
    have HO283:=Aside0.mk (Kd.R_lower (Kd.R_new' ho0 (Kd.R_lt (zR0 HO_266000.out))) (keep_size (w:=w) (g:=g) (row:=none) (zk0 HK)))
    replace HO_266000:=Aside0.mk (Kd.R_elder' (zR0 HO_266000.out) (Kd.R_base ho0) hb)
    replace BK264:=zb0 BK264 hb
    replace BK265:=zb0 BK265 hb
    replace HK:=Aside0.mk (KeepBut.trans (zk0 HK) (KeepBut.of_below hb g none) (.inl rfl))
    replace HB:=Aside0.mk (below_step (zj0 HB HI0) hb)
    replace HI0:=Aside0.mk (IsS139.below (zi0 HI0) hb)
    (try clear hb)
    (try clear hb2)
    (try clear hk)
    (try clear hi)
    (try clear ho0)
    obtain ⟨Ao22,co22,eo22⟩:=Kd.R_slice HO283.out
    (first | subst eo22 | (injection eo22 with f1_ f2_ f3_;have f4_:=f1_.symm;have f5_:=f3_.symm;clear f1_ f2_ f3_;subst f4_;subst f5_))
    refine hK.out _ _ (zc00 BK265) (fun hHeld => ?_)
    clear hK K
    refine norm_ (a':=?_) ?_ ?_;rotate_left
    ·show Act.put _ (some 29) _ = _;simp only [Act.put,qA0,qB0,qC0,i64_w,i32_w];rfl
    refine last_ (i:=11) (N:=none) (zF0 12 4095) rfl rfl (one_of HT_.out (by kernel_rfl)) (by decide) (fun K hK => ?_)
    have hs23 : w21.cell? ⟨gb265,0,none⟩ = some (.slice Ao20 x266000_1.length co20):=zc00 BK265
    have hfs23:=blk_frozen BK265.out 0
    have hns23_0:=NB264_265.out
    have hms23_0:=NB265_264.out
    refine skip_ (w1:=?_) (by rfl) rfl ?_ ?_;rotate_left
    ·go_simp
     rfl
    refine hK.out _ _ ?_
    clear hK K
    refine done_ (done_of HT_.out (by kernel_rfl)) ?_
    try go_wp2
    go_roundg k1
    case measure => have:=HK1.out;omega
    case rel => exact ⟨(wrap64 (x4_1 + 1)),(t279),(t280),(t281),(.slice Ao22 t281.length co22),zE0,H',⟨by have:=HK1.out;omega⟩,⟨by refine zV0 ?_;exact Kd.R_mono (Kd.R_far (p:=⟨gb265,0,none⟩) (Kd.R_types HO283.out BK265.out (by decide)) (fun _ hk => hk.2) (.slice Ao22 t281.length co22)) (fun _ hk => trivial)⟩,⟨zK0 BK264.out⟩,⟨by refine zT0 ?_;refine blk_put (cs:=#[.slice Ao20 x266000_1.length co20]) ?_ 0 _ rfl;exact zK0 BK265.out⟩,⟨zi0 HI0⟩,⟨zk0 HK⟩,⟨zj0 HB HI0⟩⟩
   ·rw [if_neg c8] at H
    have c8b0 : decide (x4_1 < t266) = false:=decide_eq_false c8
    clear c8
    by_cases c24 : (x266000_1.length : Int) = 0
    ·rw [if_pos c24] at H
     have c24b0 : ((x266000_1.length : Int) == 0) = true:=beq_iff_eq.mpr c24
     have c24b1 : ((x266000_1.length : Int) != 0) = false:=bne_eq_false_iff_eq.mpr c24
     clear c24
     simp only [Option.some.injEq,Prod.mk.injEq] at H
     obtain ⟨rfl,rfl,rfl⟩:=H
     go_wp2_with (first | ((with_reducible refine gate_callee (f:=72) rfl ?_);refine goesL_ (some 11) rfl rfl Try.func72 (by kernel_rfl) rfl #[.pointer (some ⟨g,0,none⟩),.int .i64 6] rfl zM0 ?_;(with_reducible refine (spec_l01Below.calls g s0_0 x1001_1 x1002_1 6 t266 t267 t268 w0 _ ?side1 ?side2 A7.out).mono ?_);(case side1 => exact zi0 HI0);(case side2 => exact zj0 HB HI0);rintro e w25 ⟨rfl,hi,hb,hk⟩;refine ⟨_,rfl,?_⟩;replace HO_266000:=Aside0.mk (Kd.R_mono (Kd.R_keep (IsS139.apart (show IsS139 w0 _ g s0_0 x1001_1 x1002_1 from zi0 HI0) (zR0 HO_266000.out) (by decide)) hk (fun _ h => h.2)) (fun _ h => h.1));replace BK264:=zw0 hk BK264 NB264_0;replace BK265:=zw0 hk BK265 NB265_0;replace HK:=zm0 HK hk;replace HB:=Aside0.mk hb;replace HI0:=Aside0.mk hi;(try clear hb);(try clear hk);(try clear hi);obtain ⟨_,_⟩:=zn0 NB265_264;obtain ⟨_,_⟩:=zn0 NB265_0;obtain ⟨_,_⟩:=zd01 BK265;obtain ⟨Ao29,co29,eo29⟩:=Kd.R_slice HO_266000.out;subst eo29;obtain ⟨_,_⟩:=zn0 NB264_0;obtain ⟨_,_⟩:=zd01 BK264))
     refine bodyPost_ret (results_cell_row rfl _ _ gb264 30 #[.slice Ao29 x266000_1.length co29] (0,0) _ rfl (by refine zT0 ?_;refine blk_put (cs:=#[.slice none 0 0]) ?_ 0 _ rfl;exact zK0 BK264.out) Try.underlying30 rfl (by kernel_rfl)) rfl ?_
     exact ⟨_,zW0,by refine zV0 ?_;exact Kd.R_mono (Kd.R_far (p:=⟨gb264,0,none⟩) (Kd.R_types HO_266000.out BK264.out (by decide)) (fun _ hk => hk.2) (.slice Ao29 x266000_1.length co29)) (fun _ hk => trivial),zi0 HI0,zj0 HB HI0,zk0 HK⟩
    ·rw [if_neg c24] at H
     have c24b0 : ((x266000_1.length : Int) == 0) = false:=beq_eq_false_iff_ne.mpr c24
     have c24b1 : ((x266000_1.length : Int) != 0) = true:=bne_iff_ne.mpr c24
     have c24b2 : ¬ (x266000_1 = []):=fun h_ => c24 (by rw [h_];rfl)
     obtain ⟨⟨t284,t285,t286⟩,A32,H⟩:=bX0 H
     dsimp only at H
     obtain ⟨⟨t287,t288,t289⟩,A33,H⟩:=bX0 H
     dsimp only at H
     by_cases c34 : t287 = 0
     ·rw [if_pos c34] at H
      have c34b0 : (t287 == 0) = true:=beq_iff_eq.mpr c34
      have c34b1 : (t287 != 0) = false:=bne_eq_false_iff_eq.mpr c34
      clear c34
      by_cases c35 : 0 ≤ t284
      ·rw [if_pos c35] at H
       have c35b0 : decide (0 ≤ t284) = true:=decide_eq_true c35
       clear c35
       by_cases c36 : t284 < (x266000_1.length : Int)
       ·rw [if_pos c36] at H
        have c36b0 : decide (t284 < (x266000_1.length : Int)) = true:=decide_eq_true c36
        clear c36
        obtain ⟨y291,hy291⟩ : ∃ y_ : List Int,y_ = (([(-1),wrap64 ((((rd_T45 x266000_1 t284).f1).size : Int) + 1)] : List Int)):=⟨_,rfl⟩
        replace H : ((spec_l01PickInt.f s0_0 t288 t289 y291).bind fun bt294 => (some ((x266000_1.set (t284 : Int).toNat (⟨(rd_T45 x266000_1 t284).f0,(rd_T45 x266000_1 t284).f1,bt294.1⟩ : S45)),bt294.2.1,bt294.2.2))) = some (r1,r2,r3):=by first | (rw [hy291];with_reducible exact H) | (have H2_:=(Option.bind_some _ _).symm.trans H;rw [hy291];with_reducible exact H2_) | (have H2_:=(Option.bind_some _ _).symm.trans H;with_reducible exact H2_) | with_reducible exact H | (rw [hy291];exact H) | exact H
        have Ny291:=Aside0.mk hy291
        clear hy291
        obtain ⟨⟨t294,t295,t296⟩,A37,H⟩:=bX0 H
        dsimp only at H
        obtain ⟨y297,hy297⟩ : ∃ y_ : List (S45),y_ = (x266000_1.set (t284 : Int).toNat (⟨(rd_T45 x266000_1 t284).f0,(rd_T45 x266000_1 t284).f1,t294⟩ : S45)):=⟨_,rfl⟩
        replace H : (some (y297,t295,t296)) = some (r1,r2,r3):=by first | (rw [hy297];with_reducible exact H) | (have H2_:=(Option.bind_some _ _).symm.trans H;rw [hy297];with_reducible exact H2_) | (have H2_:=(Option.bind_some _ _).symm.trans H;with_reducible exact H2_) | with_reducible exact H | (rw [hy297];exact H) | exact H
        have Ny297:=Aside0.mk hy297
        clear hy297
        simp only [Option.some.injEq,Prod.mk.injEq] at H
        obtain ⟨rfl,rfl,rfl⟩:=H
        try go_wp2_with (first | ((with_reducible refine gate_callee (f:=72) rfl ?_);refine goesL_ (some 11) rfl rfl Try.func72 (by kernel_rfl) rfl #[.pointer (some ⟨g,0,none⟩),.int .i64 6] rfl zM0 ?_;(with_reducible refine (spec_l01Below.calls g s0_0 x1001_1 x1002_1 6 t266 t267 t268 w0 _ ?side1 ?side2 A7.out).mono ?_);(case side1 => exact zi0 HI0);(case side2 => exact zj0 HB HI0);rintro e w39 ⟨rfl,hi,hb,hk⟩;refine ⟨_,rfl,?_⟩;replace HO_266000:=Aside0.mk (Kd.R_mono (Kd.R_keep (IsS139.apart (show IsS139 w0 _ g s0_0 x1001_1 x1002_1 from zi0 HI0) (zR0 HO_266000.out) (by decide)) hk (fun _ h => h.2)) (fun _ h => h.1));replace BK264:=zw0 hk BK264 NB264_0;replace BK265:=zw0 hk BK265 NB265_0;replace HK:=zm0 HK hk;replace HB:=Aside0.mk hb;replace HI0:=Aside0.mk hi;(try clear hb);(try clear hk);(try clear hi);obtain ⟨_,_⟩:=zn0 NB265_264;obtain ⟨_,_⟩:=zn0 NB265_0;obtain ⟨_,_⟩:=zd01 BK265;obtain ⟨Ao43,co43,eo43⟩:=Kd.R_slice HO_266000.out;subst eo43) | ((with_reducible refine gate_callee (f:=72) rfl ?_);refine goesL_ (some 39) rfl rfl Try.func72 (by kernel_rfl) rfl #[.pointer (some ⟨g,0,none⟩),.int .i64 (x266000_1.length : Int)] rfl zM0 ?_;(with_reducible refine (spec_l01Below.calls g s0_0 t267 t268 (x266000_1.length : Int) t284 t285 t286 w0 _ ?side1 ?side2 A32.out).mono ?_);(case side1 => exact zi0 HI0);(case side2 => exact zj0 HB HI0);rintro e w44 ⟨rfl,hi,hb,hk⟩;refine ⟨_,rfl,?_⟩;replace HO_266000:=Aside0.mk (Kd.R_mono (Kd.R_keep (IsS139.apart (show IsS139 w0 _ g s0_0 t267 t268 from zi0 HI0) (zR0 HO_266000.out) (by decide)) hk (fun _ h => h.2)) (fun _ h => h.1));replace BK264:=zw0 hk BK264 NB264_0;replace BK265:=zw0 hk BK265 NB265_0;replace HK:=zm0 HK hk;replace HB:=Aside0.mk hb;replace HI0:=Aside0.mk hi;(try clear hb);(try clear hk);(try clear hi)) | ((with_reducible refine gate_callee (f:=72) rfl ?_);refine goesL_ (some 41) rfl rfl Try.func72 (by kernel_rfl) rfl #[.pointer (some ⟨g,0,none⟩),.int .i64 40] rfl zM0 ?_;(with_reducible refine (spec_l01Below.calls g s0_0 t285 t286 40 t287 t288 t289 w0 _ ?side1 ?side2 A33.out).mono ?_);(case side1 => exact zi0 HI0);(case side2 => exact zj0 HB HI0);rintro e w45 ⟨rfl,hi,hb,hk⟩;refine ⟨_,rfl,?_⟩;replace HO_266000:=Aside0.mk (Kd.R_mono (Kd.R_keep (IsS139.apart (show IsS139 w0 _ g s0_0 t285 t286 from zi0 HI0) (zR0 HO_266000.out) (by decide)) hk (fun _ h => h.2)) (fun _ h => h.1));replace BK264:=zw0 hk BK264 NB264_0;replace BK265:=zw0 hk BK265 NB265_0;replace HK:=zm0 HK hk;replace HB:=Aside0.mk hb;replace HI0:=Aside0.mk hi;(try clear hb);(try clear hk);(try clear hi)))
        replace HO_266000:=Aside0.mk (Kd.R_drew HO_266000.out)
        replace BK264:=Aside0.mk (blk_drew BK264.out)
        replace BK265:=Aside0.mk (blk_drew BK265.out)
        replace HI0:=Aside0.mk (IsS139.drew HI0.out)
        replace HK:=Aside0.mk (keep_drew HK.out)
        replace HB:=Aside0.mk (below_drew1 HB.out)
        have p290 : 0 ≤ (t284 : Int):=zD0
        have q290 : t284 < (x266000_1.length : Int):=zD0
        obtain ⟨ad290,e290,hx290_0,hx290_1,hx290_2⟩:=at_T45 (Kd.R_reads' HO_266000.out).2.2 t284 p290 q290
        cases e290
        replace p290:=eq_true p290
        replace q290:=eq_true q290
        refine start_ (n:=17) (S:=fun w' => w'.cell? ⟨gb265,0,none⟩ = some (.slice (some ad290) x266000_1.length co43) ∧ w'.cell? (ad290.add ((t284).toNat * 3)) = some (.string ((rd_T45 x266000_1 t284).f0)) ∧ w'.cell? ⟨(ad290.add ((t284).toNat * 3)).block,(ad290.add ((t284).toNat * 3)).off + 1,none⟩ = some (.string ((rd_T45 x266000_1 t284).f1)) ∧ w'.cell? ⟨(ad290.add ((t284).toNat * 3)).block,(ad290.add ((t284).toNat * 3)).off + 2,none⟩ = some (.int .i64 ((rd_T45 x266000_1 t284).f2))) (ds:=[16]) (zF0 17 0) (by kernel_rfl) rfl rfl ⟨zc00 BK265,hx290_0,hx290_1,hx290_2⟩ (fun hHeld => ?_);refine with_tabW spec_l03Disk.tab12 spec_l03Disk.bits12 (fun HT_ HW_ => ?_)
        generalize w45.drew = w46 at HO_266000 BK264 BK265 HI0 HK HB hx290_0 hx290_1 hx290_2 hHeld ⊢
        refine zp0 0 44 17 1 HT_ ?_
        refine zp0 2 46 17 5 HT_ ?_
        refine zp0 3 47 17 13 HT_ ?_
        refine zp0 4 48 17 29 HT_ ?_
        refine zp0 6 50 17 93 HT_ ?_
        refine zt0 1 45 17 95 HT_ HW_ hHeld ?_
        refine zt0 5 49 17 127 HT_ HW_ hHeld ?_
        refine zp0 7 51 17 255 HT_ ?_
        refine zp0 8 52 17 511 HT_ ?_
        refine zt0 9 53 17 1023 HT_ HW_ hHeld ?_
        refine zp0 10 54 17 2047 HT_ ?_
        refine zp0 11 55 17 4095 HT_ ?_
        refine one_ (i:=12) (N:=some 56) (zF0 17 8191) rfl rfl (one_of HT_.out (by kernel_rfl)) (by decide) (fun K hK => ?_)
        refine Kd.R_lit_step (Kd.int .i64) _ 3 ?hg (N:=56) ?hd (xs:=([(-1),wrap64 ((((rd_T45 x266000_1 t284).f1).size : Int) + 1)] : List Int)) (inner:=[.int .i64 (-1),.int .i64 (wrap64 ((((rd_T45 x266000_1 t284).f1).size : Int) + 1))]) (ok:=fun _ => True) (okp:=fun _ => True) ?hr ?hp (fun _ hk => hk) trivial (Below.refl _ _) (Nat.le_refl _) (by simp) ?_;(case hd => rfl);(case hg => rfl);(case hr => first | (go_simp;done) | (go_simp;rfl));(case hp => exact (Reps.one (show Kd.M (Kd.int .i64) _ _ _ (-1) [.int .i64 (-1)] from rfl) (Reps.one (show Kd.M (Kd.int .i64) _ _ _ (wrap64 ((((rd_T45 x266000_1 t284).f1).size : Int) + 1)) [.int .i64 (wrap64 ((((rd_T45 x266000_1 t284).f1).size : Int) + 1))] from rfl) (Reps.none _ _))))
        intro v292 w47 ho48 hb hg_ hnew_
        have HS1_:=(hb.cell (World.block_lt_of_cell? _ _ (hHeld.2.1))).trans (hHeld.2.1)
        have HS2_:=(hb.cell (World.block_lt_of_cell? _ _ (hHeld.2.2.1))).trans (hHeld.2.2.1)
        have HS3_:=(hb.cell (World.block_lt_of_cell? _ _ (hHeld.2.2.2))).trans (hHeld.2.2.2)
        clear hg_ hnew_
        (first | rw [← Ny291.out] at ho48 | (simp only [Int.reduceToNat] at ho48;rw [← Ny291.out] at ho48))
        replace HO_266000:=Aside0.mk (Kd.R_below (zR0 HO_266000.out) hb)
        have HO293:=Aside0.mk (Kd.R_lower ho48 (keep_size (w:=w) (g:=g) (row:=none) (zk0 HK)))
        replace BK264:=zb0 BK264 hb
        replace BK265:=zb0 BK265 hb
        replace HK:=Aside0.mk (KeepBut.trans (zk0 HK) (KeepBut.of_below hb g none) (.inl rfl))
        replace HB:=Aside0.mk (below_step (zj0 HB HI0) hb)
        replace HI0:=Aside0.mk (IsS139.below (zi0 HI0) hb)
        clear hb ho48
        obtain ⟨Ao49,co49,eo49⟩:=Kd.R_slice HO293.out
        (first | subst eo49 | (injection eo49 with f1_ f2_ f3_;have f4_:=f1_.symm;have f5_:=f3_.symm;clear f1_ f2_ f3_;subst f4_;subst f5_))
        refine hK.out _ _ ⟨zc00 BK265,HS1_,HS2_,HS3_⟩ (fun hHeld => ?_)
        clear hK K
        refine norm_ (a':=?_) ?_ ?_;rotate_left
        ·show Act.put _ (some 56) _ = _;simp only [Act.put,qA0,qB0,qC0,i64_w,i32_w];rfl
        refine one_ (i:=13) (N:=some 57) (zF0 17 16383) rfl rfl (one_of HT_.out (by kernel_rfl)) (by decide) (fun K hK => ?_)
        refine goes_ Try.func116 (by kernel_rfl) rfl #[.pointer (some ⟨g,0,none⟩),.slice Ao49 y291.length co49] (by rfl) rfl rfl zM0 ?_
        with_reducible refine (spec_l01PickInt.calls g s0_0 t288 t289 _ _ y291 t294 t295 t296 w0 _ ?side1 ?side2 ?side3 ?side4 ?side5 A37.out).mono ?_
        (case side1 => exact zi0 HI0)
        (case side2 => exact zj0 HB HI0)
        (case side3 => exact zA0 ((Kd.R_reads' HO293.out).2.2))
        (case side4 => exact (Kd.R_reads' HO293.out).2.1)
        (case side5 => exact far_slice (IsS139.own_ne HI0.out HO293.out (by decide)))
        rintro e w50 ⟨rfl,hi,hb,hk⟩
        have HS1_:=keep_cell hk (hHeld.2.1) (by first | (rw [add_block];exact Kd.own_blk (IsS139.own_ne HI0.out HO_266000.out (by decide))) | (show (Addr.add _ _).block ≠ _;rw [add_block];exact Kd.own_blk (IsS139.own_ne HI0.out HO_266000.out (by decide))) | exact Kd.own_blk (IsS139.own_ne HI0.out HO_266000.out (by decide)))
        have HS2_:=keep_cell hk (hHeld.2.2.1) (by first | (rw [add_block];exact Kd.own_blk (IsS139.own_ne HI0.out HO_266000.out (by decide))) | (show (Addr.add _ _).block ≠ _;rw [add_block];exact Kd.own_blk (IsS139.own_ne HI0.out HO_266000.out (by decide))) | exact Kd.own_blk (IsS139.own_ne HI0.out HO_266000.out (by decide)))
        have HS3_:=keep_cell hk (hHeld.2.2.2) (by first | (rw [add_block];exact Kd.own_blk (IsS139.own_ne HI0.out HO_266000.out (by decide))) | (show (Addr.add _ _).block ≠ _;rw [add_block];exact Kd.own_blk (IsS139.own_ne HI0.out HO_266000.out (by decide))) | exact Kd.own_blk (IsS139.own_ne HI0.out HO_266000.out (by decide)))
        refine ⟨_,rfl,?_⟩
        replace HO_266000:=Aside0.mk (Kd.R_mono (Kd.R_keep (IsS139.apart (show IsS139 w0 _ g s0_0 t288 t289 from zi0 HI0) (zR0 HO_266000.out) (by decide)) hk (fun _ h => h.2)) (fun _ h => h.1))
        replace BK264:=zw0 hk BK264 NB264_0
        replace BK265:=zw0 hk BK265 NB265_0
        replace HO293:=Aside0.mk (Kd.R_mono (Kd.R_keep (IsS139.apart (show IsS139 w0 _ g s0_0 t288 t289 from zi0 HI0) (zR0 HO293.out) (by decide)) hk (fun _ h => h.2)) (fun _ h => h.1))
        replace HK:=zm0 HK hk
        replace HB:=Aside0.mk hb
        replace HI0:=Aside0.mk hi
        (try clear hb)
        (try clear hb2)
        (try clear hk)
        (try clear hi)
        have p38 : 0 ≤ (t284 : Int):=zD0
        have q38 : (t284 : Int) < ((x266000_1.length : Int) : Int):=zD0
        obtain ⟨go38,co38,eo38,gb38,gl38,cl38,HG38⟩:=Kd.R_form HO_266000.out (by omega)
        (first | cases eo38 | (injection eo38 with ea_ en_ ec_;(first | subst ea_ | (injection ea_ with ea_;subst ea_));subst ec_;clear en_))
        have GB38:=Aside0.mk gb38
        have GG38:=Aside0.mk HG38
        clear gb38 gl38 HG38
        (first | simp only [add_plain] at hx290_0 | skip)
        (first | simp only [add_plain] at hx290_1 | skip)
        (first | simp only [add_plain] at hx290_2 | skip)
        obtain ⟨ce38,hcl38,hM38,hcc38,hfr38⟩:=Kd.R_elem HO_266000.out z45 (t284 : Int) p38 q38
        obtain rfl:=k45_openM hM38
        have hx38_0 : World.cell? _ ⟨go38,(t284 : Int).toNat * 3,none⟩ = some (.string ((rd_T45 x266000_1 t284).f0)):=hcc38 0 _ rfl
        have hx38_1 : World.cell? _ ⟨go38,(t284 : Int).toNat * 3 + 1,none⟩ = some (.string ((rd_T45 x266000_1 t284).f1)):=hcc38 1 _ rfl
        have hx38_2 : World.cell? _ ⟨go38,(t284 : Int).toNat * 3 + 2,none⟩ = some (.int .i64 ((rd_T45 x266000_1 t284).f2)):=hcc38 2 _ rfl
        have hf38_0 : World.frozen? _ ⟨go38,(t284 : Int).toNat * 3,none⟩ = false:=hfr38 0
        have hf38_1 : World.frozen? _ ⟨go38,(t284 : Int).toNat * 3 + 1,none⟩ = false:=hfr38 1
        have hf38_2 : World.frozen? _ ⟨go38,(t284 : Int).toNat * 3 + 2,none⟩ = false:=hfr38 2
        clear hcl38 hcc38 hfr38 hM38
        replace p38:=eq_true p38
        replace q38:=eq_true q38
        have HN0_go38:=Aside0.mk (show g ≠ go38 from by have h_:=IsS139.own_ne HI0.out HO_266000.out (by decide);intro e_;exact h_ (by rw [e_];rfl))
        obtain ⟨ce51,hcl51,hM51,hcc51,hfr51⟩:=Kd.R_elem HO_266000.out z45 (t284 : Int) (zD0) (by have h_ : (t284 : Int) < ((x266000_1.length : Int) : Int):=zD0;first | exact h_ | (have e_:=(Kd.R_reads' HO_266000.out).1;omega) | simpa using h_)
        obtain rfl:=k45_openM hM51
        have HP51:=(Kd.R_seg HO_266000.out (t284 : Int) (zD0) (by have h_ : (t284 : Int) < ((x266000_1.length : Int) : Int):=zD0;first | exact h_ | (have e_:=(Kd.R_reads' HO_266000.out).1;omega) | simpa using h_) (seg:=[.int .i64 t294]) (j:=2) hcl51 hcc51 (show 3 ≤ 3 from by decide) (x':=(⟨(rd_T45 x266000_1 t284).f0,(rd_T45 x266000_1 t284).f1,t294⟩ : S45)) (k45_mkM _ _ _ (⟨(rd_T45 x266000_1 t284).f0,(rd_T45 x266000_1 t284).f1,t294⟩ : S45) ) (fun _ hk => hk)).1
        rw [← Ny297.out] at HP51
        have HQ51:=Aside0.mk HP51
        clear hcl51 hcc51 hfr51 hM51 HP51
        refine hK.out _ _ ⟨zc00 BK265,HS1_,HS2_,HS3_⟩ (fun hHeld => ?_)
        clear hK K
        refine norm_ (a':=?_) ?_ ?_;rotate_left
        ·show Act.put _ (some 57) _ = _;simp only [Act.put,qA0,qB0,qC0,i64_w,i32_w];rfl
        refine zp0 14 58 17 32767 HT_ ?_
        refine zp0 15 59 17 65535 HT_ ?_
        refine last_ (i:=16) (N:=none) (zF0 17 131071) rfl rfl (one_of HT_.out (by kernel_rfl)) (by decide) (fun K hK => ?_)
        refine skip_ (w1:=?_) (by rfl) rfl ?_ ?_;rotate_left
        ·go_simp
         rfl
        refine hK.out _ _ ?_
        clear hK K
        refine done_ (done_of HT_.out (by kernel_rfl)) ?_
        have n0_ : Aside0 (Kd.R k45 45 (w50.setCell ⟨go38,(t284 : Int).toNat * 3 + 2,none⟩ (.int .i64 t294)) w.heap.size (fun _ => True) (.slice (some ⟨go38,0,none⟩) x266000_1.length co43) y297):=⟨zR0 HQ51.out⟩
        have n1_ : Aside0 (Kd.R (Kd.int .i64) 3 (w50.setCell ⟨go38,(t284 : Int).toNat * 3 + 2,none⟩ (.int .i64 t294)) w.heap.size (fun _ => True) (.slice Ao49 y291.length co49) y291):=⟨by refine zV0 ?_;exact Kd.R_mono (Kd.R_far (p:=⟨go38,(t284 : Int).toNat * 3 + 2,none⟩) (Kd.R_types HO293.out GG38.out (by decide)) (fun _ hk => hk.2) (.int .i64 t294)) (fun _ hk => trivial)⟩
        have n2_ : Aside0 ((w50.setCell ⟨go38,(t284 : Int).toNat * 3 + 2,none⟩ (.int .i64 t294)).heap[gb264]? = some (.cells #[.slice none 0 0] 30 (0,0))):=⟨by refine zT0 ?_;refine blk_far ?_ (by have h_:=Kd.R_ne HO_266000.out BK264.out (by decide);intro e_;exact h_ (by rw [e_];rfl)) _;exact zK0 BK264.out⟩
        have n3_ : Aside0 ((w50.setCell ⟨go38,(t284 : Int).toNat * 3 + 2,none⟩ (.int .i64 t294)).heap[gb265]? = some (.cells #[.slice (some ⟨go38,0,none⟩) x266000_1.length co43] 30 (0,0))):=⟨by refine zT0 ?_;refine blk_far ?_ (by have h_:=Kd.R_ne HO_266000.out BK265.out (by decide);intro e_;exact h_ (by rw [e_];rfl)) _;exact zK0 BK265.out⟩
        have n4_ : Aside0 (IsS139 w0 (w50.setCell ⟨go38,(t284 : Int).toNat * 3 + 2,none⟩ (.int .i64 t294)) g s0_0 t295 t296):=⟨by repeat (first | (with_reducible first | exact HI0.out | apply IsS139.alloc | apply IsS139.drewN | apply IsS139.drew | apply IsS139.set_1 | apply IsS139.set_2 | refine IsS139.far ?_ HN0_go38.out _ | refine IsS139.far ?_ NB0_264.out _ | refine IsS139.far ?_ NB0_265.out _) | exact HI0.out)⟩
        have n5_ : Aside0 (KeepBut w (w50.setCell ⟨go38,(t284 : Int).toNat * 3 + 2,none⟩ (.int .i64 t294)) g none):=⟨by repeat (first | (with_reducible first | exact HK.out | apply KeepBut.set_ | apply keep_drewN | apply keep_drew | apply keep_alloc | refine keep_far ?_ GB38.out _ | refine keep_far ?_ GW264.out _ | refine keep_far ?_ GW265.out _) | exact HK.out)⟩
        have n6_ : Aside0 (Below w0.heap.size w0 (w50.setCell ⟨go38,(t284 : Int).toNat * 3 + 2,none⟩ (.int .i64 t294))):=⟨by repeat (first | (with_reducible first | exact HB.out | apply below_alloc | apply pw_below_drewN | apply below_drew1 | refine below_set ?_ (Nat.le_trans HL.out GB38.out) | refine below_set ?_ (IsS139.ge HI0.out) | refine below_set ?_ GE264.out | refine below_set ?_ GE265.out) | exact HB.out)⟩
        (try clear HO_266000)
        (try clear HO293)
        (try clear BK264)
        (try clear BK265)
        (try clear HI0)
        (try clear HK)
        (try clear HB)
        generalize (w50.setCell ⟨go38,(t284 : Int).toNat * 3 + 2,none⟩ (.int .i64 t294)) = w52 at n0_ n1_ n2_ n3_ n4_ n5_ n6_ ⊢
        have HO_266000:=n0_
        have HO293:=n1_
        have BK264:=n2_
        have BK265:=n3_
        have HI0:=n4_
        have HK:=n5_
        have HB:=n6_
        clear n0_ n1_ n2_ n3_ n4_ n5_ n6_
        obtain ⟨_,_⟩:=zd01 BK265
        obtain ⟨_,_⟩:=zn0 NB264_0
        obtain ⟨_,_⟩:=zd01 BK264
        try go_wp2
        refine bodyPost_ret (results_cell_row rfl _ _ gb264 30 #[.slice (some ⟨go38,0,none⟩) x266000_1.length co43] (0,0) _ rfl (by refine zT0 ?_;refine blk_put (cs:=#[.slice none 0 0]) ?_ 0 _ rfl;exact zK0 BK264.out) Try.underlying30 rfl (by kernel_rfl)) rfl ?_
        exact ⟨_,zW0,by refine zV0 ?_;exact Kd.R_mono (Kd.R_far (p:=⟨gb264,0,none⟩) (Kd.R_types HO_266000.out BK264.out (by decide)) (fun _ hk => hk.2) (.slice (some ⟨go38,0,none⟩) x266000_1.length co43)) (fun _ hk => trivial),zi0 HI0,zj0 HB HI0,zk0 HK⟩
       ·rw [if_neg c36] at H
        exact absurd H (by simp)
      ·rw [if_neg c35] at H
       exact absurd H (by simp)
     ·rw [if_neg c34] at H
      have c34b0 : (t287 == 0) = false:=beq_eq_false_iff_ne.mpr c34
      have c34b1 : (t287 != 0) = true:=bne_iff_ne.mpr c34
      by_cases c56 : t287 = 1
      ·rw [if_pos c56] at H
       have c56b0 : (t287 == 1) = true:=beq_iff_eq.mpr c56
       have c56b1 : (t287 != 1) = false:=bne_eq_false_iff_eq.mpr c56
       clear c56
       by_cases c57 : 0 ≤ t284
       ·rw [if_pos c57] at H
        have c57b0 : decide (0 ≤ t284) = true:=decide_eq_true c57
        clear c57
        by_cases c58 : t284 < (x266000_1.length : Int)
        ·rw [if_pos c58] at H
         have c58b0 : decide (t284 < (x266000_1.length : Int)) = true:=decide_eq_true c58
         clear c58
         by_cases c59 : x266000_1.length < 3518437208883
         ·rw [if_pos c59] at H
          have LMc59:=Aside0.mk c59
          clear c59
          obtain ⟨y299,hy299⟩ : ∃ y_ : List (S45),y_ = (x266000_1 ++ [(⟨(rd_T45 x266000_1 t284).f0,(rd_T45 x266000_1 t284).f1,(rd_T45 x266000_1 t284).f2⟩ : S45)]):=⟨_,rfl⟩
          replace H : (some (y299,t288,t289)) = some (r1,r2,r3):=by first | (rw [hy299];with_reducible exact H) | (have H2_:=(Option.bind_some _ _).symm.trans H;rw [hy299];with_reducible exact H2_) | (have H2_:=(Option.bind_some _ _).symm.trans H;with_reducible exact H2_) | with_reducible exact H | (rw [hy299];exact H) | exact H
          have Ny299:=Aside0.mk hy299
          clear hy299
          simp only [Option.some.injEq,Prod.mk.injEq] at H
          obtain ⟨rfl,rfl,rfl⟩:=H
          try go_wp2_with (first | ((with_reducible refine gate_callee (f:=72) rfl ?_);refine goesL_ (some 11) rfl rfl Try.func72 (by kernel_rfl) rfl #[.pointer (some ⟨g,0,none⟩),.int .i64 6] rfl zM0 ?_;(with_reducible refine (spec_l01Below.calls g s0_0 x1001_1 x1002_1 6 t266 t267 t268 w0 _ ?side1 ?side2 A7.out).mono ?_);(case side1 => exact zi0 HI0);(case side2 => exact zj0 HB HI0);rintro e w60 ⟨rfl,hi,hb,hk⟩;refine ⟨_,rfl,?_⟩;replace HO_266000:=Aside0.mk (Kd.R_mono (Kd.R_keep (IsS139.apart (show IsS139 w0 _ g s0_0 x1001_1 x1002_1 from zi0 HI0) (zR0 HO_266000.out) (by decide)) hk (fun _ h => h.2)) (fun _ h => h.1));replace BK264:=zw0 hk BK264 NB264_0;replace BK265:=zw0 hk BK265 NB265_0;replace HK:=zm0 HK hk;replace HB:=Aside0.mk hb;replace HI0:=Aside0.mk hi;(try clear hb);(try clear hk);(try clear hi);obtain ⟨_,_⟩:=zn0 NB265_264;obtain ⟨_,_⟩:=zn0 NB265_0;obtain ⟨_,_⟩:=zd01 BK265;obtain ⟨Ao64,co64,eo64⟩:=Kd.R_slice HO_266000.out;subst eo64) | ((with_reducible refine gate_callee (f:=72) rfl ?_);refine goesL_ (some 39) rfl rfl Try.func72 (by kernel_rfl) rfl #[.pointer (some ⟨g,0,none⟩),.int .i64 (x266000_1.length : Int)] rfl zM0 ?_;(with_reducible refine (spec_l01Below.calls g s0_0 t267 t268 (x266000_1.length : Int) t284 t285 t286 w0 _ ?side1 ?side2 A32.out).mono ?_);(case side1 => exact zi0 HI0);(case side2 => exact zj0 HB HI0);rintro e w65 ⟨rfl,hi,hb,hk⟩;refine ⟨_,rfl,?_⟩;replace HO_266000:=Aside0.mk (Kd.R_mono (Kd.R_keep (IsS139.apart (show IsS139 w0 _ g s0_0 t267 t268 from zi0 HI0) (zR0 HO_266000.out) (by decide)) hk (fun _ h => h.2)) (fun _ h => h.1));replace BK264:=zw0 hk BK264 NB264_0;replace BK265:=zw0 hk BK265 NB265_0;replace HK:=zm0 HK hk;replace HB:=Aside0.mk hb;replace HI0:=Aside0.mk hi;(try clear hb);(try clear hk);(try clear hi)) | ((with_reducible refine gate_callee (f:=72) rfl ?_);refine goesL_ (some 41) rfl rfl Try.func72 (by kernel_rfl) rfl #[.pointer (some ⟨g,0,none⟩),.int .i64 40] rfl zM0 ?_;(with_reducible refine (spec_l01Below.calls g s0_0 t285 t286 40 t287 t288 t289 w0 _ ?side1 ?side2 A33.out).mono ?_);(case side1 => exact zi0 HI0);(case side2 => exact zj0 HB HI0);rintro e w66 ⟨rfl,hi,hb,hk⟩;refine ⟨_,rfl,?_⟩;replace HO_266000:=Aside0.mk (Kd.R_mono (Kd.R_keep (IsS139.apart (show IsS139 w0 _ g s0_0 t285 t286 from zi0 HI0) (zR0 HO_266000.out) (by decide)) hk (fun _ h => h.2)) (fun _ h => h.1));replace BK264:=zw0 hk BK264 NB264_0;replace BK265:=zw0 hk BK265 NB265_0;replace HK:=zm0 HK hk;replace HB:=Aside0.mk hb;replace HI0:=Aside0.mk hi;(try clear hb);(try clear hk);(try clear hi)))
          replace HO_266000:=Aside0.mk (Kd.R_drew HO_266000.out)
          replace BK264:=Aside0.mk (blk_drew BK264.out)
          replace BK265:=Aside0.mk (blk_drew BK265.out)
          replace HI0:=Aside0.mk (IsS139.drew HI0.out)
          replace HK:=Aside0.mk (keep_drew HK.out)
          replace HB:=Aside0.mk (below_drew1 HB.out)
          have p298 : 0 ≤ (t284 : Int):=zD0
          have q298 : t284 < (x266000_1.length : Int):=zD0
          obtain ⟨ad298,e298,hx298_0,hx298_1,hx298_2⟩:=at_T45 (Kd.R_reads' HO_266000.out).2.2 t284 p298 q298
          cases e298
          replace p298:=eq_true p298
          replace q298:=eq_true q298
          refine start_ (n:=11) (S:=fun w' => w'.cell? ⟨gb265,0,none⟩ = some (.slice (some ad298) x266000_1.length co64) ∧ w'.cell? (ad298.add ((t284).toNat * 3)) = some (.string ((rd_T45 x266000_1 t284).f0)) ∧ w'.cell? ⟨(ad298.add ((t284).toNat * 3)).block,(ad298.add ((t284).toNat * 3)).off + 1,none⟩ = some (.string ((rd_T45 x266000_1 t284).f1)) ∧ w'.cell? ⟨(ad298.add ((t284).toNat * 3)).block,(ad298.add ((t284).toNat * 3)).off + 2,none⟩ = some (.int .i64 ((rd_T45 x266000_1 t284).f2))) (ds:=[8,10]) (zF0 11 0) (by kernel_rfl) rfl rfl ⟨zc00 BK265,hx298_0,hx298_1,hx298_2⟩ (fun hHeld => ?_);refine with_tabW spec_l03Disk.tab14 spec_l03Disk.bits14 (fun HT_ HW_ => ?_)
          generalize w66.drew = w67 at HO_266000 BK264 BK265 HI0 HK HB hx298_0 hx298_1 hx298_2 hHeld ⊢
          refine zp0 0 62 11 1 HT_ ?_
          refine zp0 2 64 11 5 HT_ ?_
          refine zp0 4 66 11 21 HT_ ?_
          refine zt0 1 63 11 23 HT_ HW_ hHeld ?_
          refine zt0 3 65 11 31 HT_ HW_ hHeld ?_
          refine zp0 5 67 11 63 HT_ ?_
          refine zt0 6 68 11 127 HT_ HW_ hHeld ?_
          refine one_ (i:=7) (N:=some 69) (zF0 11 255) rfl rfl (one_of HT_.out (by kernel_rfl)) (by decide) (fun K hK => ?_)
          refine value_ (w1:=?_) (v:=?_) (by rfl) rfl ?_ ?_
          rotate_left 2
          ·go_simp
           constructor
           ·rfl
           ·rfl
          refine hK.out _ _ ⟨(blk_cell (blk_alloc BK265.out _) 0).trans rfl,(World.cell?_alloc_lt _ _ _ (World.block_lt_of_cell? _ _ (hHeld.2.1))).trans (hHeld.2.1),(World.cell?_alloc_lt _ _ _ (World.block_lt_of_cell? _ _ (hHeld.2.2.1))).trans (hHeld.2.2.1),(World.cell?_alloc_lt _ _ _ (World.block_lt_of_cell? _ _ (hHeld.2.2.2))).trans (hHeld.2.2.2)⟩ (fun hHeld => ?_)
          clear hK K
          refine norm_ (a':=?_) ?_ ?_;rotate_left
          ·show Act.put _ (some 69) _ = _;simp only [Act.put,qA0,qB0,qC0,i64_w,i32_w];rfl
          refine last_ (i:=8) (N:=some 70) (zF0 11 511) rfl rfl (one_of HT_.out (by kernel_rfl)) (by decide) (fun K hK => ?_)
          refine Kd.R_append_step k45 w.heap.size (by rfl) (.tmp 63) (.tmp 69) 28 45 (.agg #[(.string ⟨#[]⟩),(.string ⟨#[]⟩),(.int .i64 0)]) 40 rfl Try.underlying28 info45 rfl (by decide) (by omega) (.slice (some ad298) x266000_1.length co64) x266000_1 (⟨(rd_T45 x266000_1 t284).f0,(rd_T45 x266000_1 t284).f1,(rd_T45 x266000_1 t284).f2⟩ : S45) [.string ((rd_T45 x266000_1 t284).f0),.string ((rd_T45 x266000_1 t284).f1),.int .i64 ((rd_T45 x266000_1 t284).f2)] (fun _ => True) (fun _ => False) rfl rfl ?aP (fun _ hk => hk.elim) ?aF ?aO (Below.refl _ _) ?aS ?aL ?_
          (case aP => exact k45_mkM _ _ _ (⟨(rd_T45 x266000_1 t284).f0,(rd_T45 x266000_1 t284).f1,(rd_T45 x266000_1 t284).f2⟩ : S45))
          (case aF => exact (fun _ _ => trivial))
          (case aO => exact (zR0 HO_266000.out))
          (case aS => exact (keep_size (w:=w) (g:=g) (row:=none) (zk0 HK)))
          (case aL => have:=LMc59.out;omega)
          intro v300 w68 ho hb hg hat
          rw [← Ny299.out] at ho
          replace BK264:=Aside0.mk (blk_grown (g:=gb264) (o:=.cells #[.slice none 0 0] 30 (0,0)) (zK0 BK264.out) hg (Kd.R_ne HO_266000.out BK264.out (by decide)))
          replace BK265:=Aside0.mk (blk_grown (g:=gb265) (o:=.cells #[.slice (some ad298) x266000_1.length co64] 30 (0,0)) (zK0 BK265.out) hg (Kd.R_ne HO_266000.out BK265.out (by decide)))
          replace HB:=Aside0.mk (below_weaken (zj0 HB HI0) HL.out hb)
          replace HI0:=Aside0.mk (IsS139.grown (zi0 HI0) hg (IsS139.own_ne HI0.out HO_266000.out (by decide)))
          replace HK:=Aside0.mk (KeepBut.trans (zk0 HK) (KeepBut.of_grown hg g) (Kd.R_base2 HO_266000.out))
          have HO301:=Aside0.mk ho
          clear HO_266000
          clear ho hb hg hat
          obtain ⟨Ao69,co69,eo69⟩:=Kd.R_slice HO301.out
          (first | subst eo69 | (injection eo69 with f1_ f2_ f3_;have f4_:=f1_.symm;have f5_:=f3_.symm;clear f1_ f2_ f3_;subst f4_;subst f5_))
          refine hK.out _ _ ?_
          clear hK K
          refine norm_ (a':=?_) ?_ ?_;rotate_left
          ·show Act.put _ (some 70) _ = _;simp only [Act.put,qA0,qB0,qC0,i64_w,i32_w];rfl
          refine zp0 9 71 11 1023 HT_ ?_
          refine last_ (i:=10) (N:=none) (zF0 11 2047) rfl rfl (one_of HT_.out (by kernel_rfl)) (by decide) (fun K hK => ?_)
          have hs70 : w68.cell? ⟨gb265,0,none⟩ = some (.slice (some ad298) x266000_1.length co64):=zc00 BK265
          have hfs70:=blk_frozen BK265.out 0
          have hns70_0:=NB264_265.out
          have hms70_0:=NB265_264.out
          refine skip_ (w1:=?_) (by rfl) rfl ?_ ?_;rotate_left
          ·go_simp
           rfl
          refine hK.out _ _ ?_
          clear hK K
          refine done_ (done_of HT_.out (by kernel_rfl)) ?_
          obtain ⟨_,_⟩:=zd01 BK265
          obtain ⟨_,_⟩:=zn0 NB264_0
          obtain ⟨_,_⟩:=zd01 BK264
          try go_wp2
          refine bodyPost_ret (results_cell_row rfl _ _ gb264 30 #[.slice Ao69 y299.length co69] (0,0) _ rfl (by refine zT0 ?_;refine blk_put (cs:=#[.slice none 0 0]) ?_ 0 _ rfl;exact zK0 BK264.out) Try.underlying30 rfl (by kernel_rfl)) rfl ?_
          exact ⟨_,zW0,by refine zV0 ?_;exact Kd.R_mono (Kd.R_far (p:=⟨gb264,0,none⟩) (Kd.R_far (p:=⟨gb265,0,none⟩) (Kd.R_types (Kd.R_types HO301.out BK265.out (by decide)) BK264.out (by decide)) (fun _ hk => hk.1.2) (.slice Ao69 y299.length co69)) (fun _ hk => hk.2) (.slice Ao69 y299.length co69)) (fun _ hk => trivial),zi0 HI0,zj0 HB HI0,zk0 HK⟩
         ·rw [if_neg c59] at H
          exact absurd H (by simp)
        ·rw [if_neg c58] at H
         exact absurd H (by simp)
       ·rw [if_neg c57] at H
        exact absurd H (by simp)
      ·rw [if_neg c56] at H
       have c56b0 : (t287 == 1) = false:=beq_eq_false_iff_ne.mpr c56
       have c56b1 : (t287 != 1) = true:=bne_iff_ne.mpr c56
       by_cases c74 : t287 = 2
       ·rw [if_pos c74] at H
        have c74b0 : (t287 == 2) = true:=beq_iff_eq.mpr c74
        have c74b1 : (t287 != 2) = false:=bne_eq_false_iff_eq.mpr c74
        clear c74
        obtain ⟨y302,hy302⟩ : ∃ y_ : List ByteArray,y_ = (([(⟨#[]⟩ : ByteArray),(⟨#[49,50,51,52,53,54,55,56]⟩ : ByteArray),(⟨#[49,50,51,52,53,54,55,56,57]⟩ : ByteArray)] : List ByteArray)):=⟨_,rfl⟩
        replace H : ((spec_l01Pick.f s0_0 t288 t289 y302).bind fun bt305 => (if 0 ≤ t284 then (if t284 < (x266000_1.length : Int) then (some ((x266000_1.set (t284 : Int).toNat (⟨bt305.1,(rd_T45 x266000_1 t284).f1,(rd_T45 x266000_1 t284).f2⟩ : S45)),bt305.2.1,bt305.2.2)) else (none)) else (none))) = some (r1,r2,r3):=by first | (rw [hy302];with_reducible exact H) | (have H2_:=(Option.bind_some _ _).symm.trans H;rw [hy302];with_reducible exact H2_) | (have H2_:=(Option.bind_some _ _).symm.trans H;with_reducible exact H2_) | with_reducible exact H | (rw [hy302];exact H) | exact H
        have Ny302:=Aside0.mk hy302
        clear hy302
        obtain ⟨⟨t305,t306,t307⟩,A75,H⟩:=bX0 H
        dsimp only at H
        by_cases c76 : 0 ≤ t284
        ·rw [if_pos c76] at H
         have c76b0 : decide (0 ≤ t284) = true:=decide_eq_true c76
         clear c76
         by_cases c77 : t284 < (x266000_1.length : Int)
         ·rw [if_pos c77] at H
          have c77b0 : decide (t284 < (x266000_1.length : Int)) = true:=decide_eq_true c77
          clear c77
          obtain ⟨y308,hy308⟩ : ∃ y_ : List (S45),y_ = (x266000_1.set (t284 : Int).toNat (⟨t305,(rd_T45 x266000_1 t284).f1,(rd_T45 x266000_1 t284).f2⟩ : S45)):=⟨_,rfl⟩
          replace H : (some (y308,t306,t307)) = some (r1,r2,r3):=by first | (rw [hy308];with_reducible exact H) | (have H2_:=(Option.bind_some _ _).symm.trans H;rw [hy308];with_reducible exact H2_) | (have H2_:=(Option.bind_some _ _).symm.trans H;with_reducible exact H2_) | with_reducible exact H | (rw [hy308];exact H) | exact H
          have Ny308:=Aside0.mk hy308
          clear hy308
          simp only [Option.some.injEq,Prod.mk.injEq] at H
          obtain ⟨rfl,rfl,rfl⟩:=H
          try go_wp2_with (first | ((with_reducible refine gate_callee (f:=72) rfl ?_);refine goesL_ (some 11) rfl rfl Try.func72 (by kernel_rfl) rfl #[.pointer (some ⟨g,0,none⟩),.int .i64 6] rfl zM0 ?_;(with_reducible refine (spec_l01Below.calls g s0_0 x1001_1 x1002_1 6 t266 t267 t268 w0 _ ?side1 ?side2 A7.out).mono ?_);(case side1 => exact zi0 HI0);(case side2 => exact zj0 HB HI0);rintro e w79 ⟨rfl,hi,hb,hk⟩;refine ⟨_,rfl,?_⟩;replace HO_266000:=Aside0.mk (Kd.R_mono (Kd.R_keep (IsS139.apart (show IsS139 w0 _ g s0_0 x1001_1 x1002_1 from zi0 HI0) (zR0 HO_266000.out) (by decide)) hk (fun _ h => h.2)) (fun _ h => h.1));replace BK264:=zw0 hk BK264 NB264_0;replace BK265:=zw0 hk BK265 NB265_0;replace HK:=zm0 HK hk;replace HB:=Aside0.mk hb;replace HI0:=Aside0.mk hi;(try clear hb);(try clear hk);(try clear hi);obtain ⟨_,_⟩:=zn0 NB265_264;obtain ⟨_,_⟩:=zn0 NB265_0;obtain ⟨_,_⟩:=zd01 BK265;obtain ⟨Ao83,co83,eo83⟩:=Kd.R_slice HO_266000.out;subst eo83) | ((with_reducible refine gate_callee (f:=72) rfl ?_);refine goesL_ (some 39) rfl rfl Try.func72 (by kernel_rfl) rfl #[.pointer (some ⟨g,0,none⟩),.int .i64 (x266000_1.length : Int)] rfl zM0 ?_;(with_reducible refine (spec_l01Below.calls g s0_0 t267 t268 (x266000_1.length : Int) t284 t285 t286 w0 _ ?side1 ?side2 A32.out).mono ?_);(case side1 => exact zi0 HI0);(case side2 => exact zj0 HB HI0);rintro e w84 ⟨rfl,hi,hb,hk⟩;refine ⟨_,rfl,?_⟩;replace HO_266000:=Aside0.mk (Kd.R_mono (Kd.R_keep (IsS139.apart (show IsS139 w0 _ g s0_0 t267 t268 from zi0 HI0) (zR0 HO_266000.out) (by decide)) hk (fun _ h => h.2)) (fun _ h => h.1));replace BK264:=zw0 hk BK264 NB264_0;replace BK265:=zw0 hk BK265 NB265_0;replace HK:=zm0 HK hk;replace HB:=Aside0.mk hb;replace HI0:=Aside0.mk hi;(try clear hb);(try clear hk);(try clear hi)) | ((with_reducible refine gate_callee (f:=72) rfl ?_);refine goesL_ (some 41) rfl rfl Try.func72 (by kernel_rfl) rfl #[.pointer (some ⟨g,0,none⟩),.int .i64 40] rfl zM0 ?_;(with_reducible refine (spec_l01Below.calls g s0_0 t285 t286 40 t287 t288 t289 w0 _ ?side1 ?side2 A33.out).mono ?_);(case side1 => exact zi0 HI0);(case side2 => exact zj0 HB HI0);rintro e w85 ⟨rfl,hi,hb,hk⟩;refine ⟨_,rfl,?_⟩;replace HO_266000:=Aside0.mk (Kd.R_mono (Kd.R_keep (IsS139.apart (show IsS139 w0 _ g s0_0 t285 t286 from zi0 HI0) (zR0 HO_266000.out) (by decide)) hk (fun _ h => h.2)) (fun _ h => h.1));replace BK264:=zw0 hk BK264 NB264_0;replace BK265:=zw0 hk BK265 NB265_0;replace HK:=zm0 HK hk;replace HB:=Aside0.mk hb;replace HI0:=Aside0.mk hi;(try clear hb);(try clear hk);(try clear hi)))
          replace HO_266000:=Aside0.mk (Kd.R_drew HO_266000.out)
          replace BK264:=Aside0.mk (blk_drew BK264.out)
          replace BK265:=Aside0.mk (blk_drew BK265.out)
          replace HI0:=Aside0.mk (IsS139.drew HI0.out)
          replace HK:=Aside0.mk (keep_drew HK.out)
          replace HB:=Aside0.mk (below_drew1 HB.out)
          refine start_ (n:=9) (S:=fun w' => w'.cell? ⟨gb265,0,none⟩ = some (.slice Ao83 x266000_1.length co83)) (ds:=[8]) (zF0 9 0) (by kernel_rfl) rfl rfl (zc00 BK265) (fun hHeld => ?_);refine with_tabW spec_l03Disk.tab16 spec_l03Disk.bits16 (fun HT_ HW_ => ?_)
          generalize w85.drew = w86 at HO_266000 BK264 BK265 HI0 HK HB hHeld ⊢
          refine zp0 0 74 9 1 HT_ ?_
          refine zp0 2 76 9 5 HT_ ?_
          refine zp0 3 77 9 13 HT_ ?_
          refine zt0 1 75 9 15 HT_ HW_ hHeld ?_
          refine one_ (i:=4) (N:=some 78) (zF0 9 31) rfl rfl (one_of HT_.out (by kernel_rfl)) (by decide) (fun K hK => ?_)
          refine Kd.R_lit_step Kd.string _ 9 ?hg (N:=78) ?hd (xs:=([(⟨#[]⟩ : ByteArray),(⟨#[49,50,51,52,53,54,55,56]⟩ : ByteArray),(⟨#[49,50,51,52,53,54,55,56,57]⟩ : ByteArray)] : List ByteArray)) (inner:=[.string (⟨#[]⟩ : ByteArray),.string (⟨#[49,50,51,52,53,54,55,56]⟩ : ByteArray),.string (⟨#[49,50,51,52,53,54,55,56,57]⟩ : ByteArray)]) (ok:=fun _ => True) (okp:=fun _ => True) ?hr ?hp (fun _ hk => hk) trivial (Below.refl _ _) (Nat.le_refl _) (by simp) ?_;(case hd => rfl);(case hg => rfl);(case hr => first | (go_simp;done) | (go_simp;rfl));(case hp => exact (Reps.one (show Kd.M Kd.string _ _ _ (⟨#[]⟩ : ByteArray) [.string (⟨#[]⟩ : ByteArray)] from rfl) (Reps.one (show Kd.M Kd.string _ _ _ (⟨#[49,50,51,52,53,54,55,56]⟩ : ByteArray) [.string (⟨#[49,50,51,52,53,54,55,56]⟩ : ByteArray)] from rfl) (Reps.one (show Kd.M Kd.string _ _ _ (⟨#[49,50,51,52,53,54,55,56,57]⟩ : ByteArray) [.string (⟨#[49,50,51,52,53,54,55,56,57]⟩ : ByteArray)] from rfl) (Reps.none _ _)))))
          intro v303 w87 ho88 hb hg_ hnew_
          clear hg_ hnew_
          (first | rw [← Ny302.out] at ho88 | (simp only [Int.reduceToNat] at ho88;rw [← Ny302.out] at ho88))
          replace HO_266000:=Aside0.mk (Kd.R_below (zR0 HO_266000.out) hb)
          have HO304:=Aside0.mk (Kd.R_lower ho88 (keep_size (w:=w) (g:=g) (row:=none) (zk0 HK)))
          replace BK264:=zb0 BK264 hb
          replace BK265:=zb0 BK265 hb
          replace HK:=Aside0.mk (KeepBut.trans (zk0 HK) (KeepBut.of_below hb g none) (.inl rfl))
          replace HB:=Aside0.mk (below_step (zj0 HB HI0) hb)
          replace HI0:=Aside0.mk (IsS139.below (zi0 HI0) hb)
          clear hb ho88
          obtain ⟨Ao89,co89,eo89⟩:=Kd.R_slice HO304.out
          (first | subst eo89 | (injection eo89 with f1_ f2_ f3_;have f4_:=f1_.symm;have f5_:=f3_.symm;clear f1_ f2_ f3_;subst f4_;subst f5_))
          refine hK.out _ _ (zc00 BK265) (fun hHeld => ?_)
          clear hK K
          refine norm_ (a':=?_) ?_ ?_;rotate_left
          ·show Act.put _ (some 78) _ = _;simp only [Act.put,qA0,qB0,qC0,i64_w,i32_w];rfl
          refine one_ (i:=5) (N:=some 79) (zF0 9 63) rfl rfl (one_of HT_.out (by kernel_rfl)) (by decide) (fun K hK => ?_)
          refine goes_ Try.func113 (by kernel_rfl) rfl #[.pointer (some ⟨g,0,none⟩),.slice Ao89 y302.length co89] (by rfl) rfl rfl zM0 ?_
          with_reducible refine (spec_l01Pick.calls g s0_0 t288 t289 _ _ y302 t305 t306 t307 w0 _ ?side1 ?side2 ?side3 ?side4 ?side5 A75.out).mono ?_
          (case side1 => exact zi0 HI0)
          (case side2 => exact zj0 HB HI0)
          (case side3 => exact zA0 ((Kd.R_reads' HO304.out).2.2))
          (case side4 => exact (Kd.R_reads' HO304.out).2.1)
          (case side5 => exact far_slice (IsS139.own_ne HI0.out HO304.out (by decide)))
          rintro e w90 ⟨rfl,hi,hb,hk⟩
          refine ⟨_,rfl,?_⟩
          replace HO_266000:=Aside0.mk (Kd.R_mono (Kd.R_keep (IsS139.apart (show IsS139 w0 _ g s0_0 t288 t289 from zi0 HI0) (zR0 HO_266000.out) (by decide)) hk (fun _ h => h.2)) (fun _ h => h.1))
          replace BK264:=zw0 hk BK264 NB264_0
          replace BK265:=zw0 hk BK265 NB265_0
          replace HO304:=Aside0.mk (Kd.R_mono (Kd.R_keep (IsS139.apart (show IsS139 w0 _ g s0_0 t288 t289 from zi0 HI0) (zR0 HO304.out) (by decide)) hk (fun _ h => h.2)) (fun _ h => h.1))
          replace HK:=zm0 HK hk
          replace HB:=Aside0.mk hb
          replace HI0:=Aside0.mk hi
          (try clear hb)
          (try clear hb2)
          (try clear hk)
          (try clear hi)
          have p78 : 0 ≤ (t284 : Int):=zD0
          have q78 : (t284 : Int) < ((x266000_1.length : Int) : Int):=zD0
          obtain ⟨go78,co78,eo78,gb78,gl78,cl78,HG78⟩:=Kd.R_form HO_266000.out (by omega)
          (first | cases eo78 | (injection eo78 with ea_ en_ ec_;(first | subst ea_ | (injection ea_ with ea_;subst ea_));subst ec_;clear en_))
          have GB78:=Aside0.mk gb78
          have GG78:=Aside0.mk HG78
          clear gb78 gl78 HG78
          obtain ⟨ce78,hcl78,hM78,hcc78,hfr78⟩:=Kd.R_elem HO_266000.out z45 (t284 : Int) p78 q78
          obtain rfl:=k45_openM hM78
          have hx78_0 : World.cell? _ ⟨go78,(t284 : Int).toNat * 3,none⟩ = some (.string ((rd_T45 x266000_1 t284).f0)):=hcc78 0 _ rfl
          have hx78_1 : World.cell? _ ⟨go78,(t284 : Int).toNat * 3 + 1,none⟩ = some (.string ((rd_T45 x266000_1 t284).f1)):=hcc78 1 _ rfl
          have hx78_2 : World.cell? _ ⟨go78,(t284 : Int).toNat * 3 + 2,none⟩ = some (.int .i64 ((rd_T45 x266000_1 t284).f2)):=hcc78 2 _ rfl
          have hf78_0 : World.frozen? _ ⟨go78,(t284 : Int).toNat * 3,none⟩ = false:=hfr78 0
          have hf78_1 : World.frozen? _ ⟨go78,(t284 : Int).toNat * 3 + 1,none⟩ = false:=hfr78 1
          have hf78_2 : World.frozen? _ ⟨go78,(t284 : Int).toNat * 3 + 2,none⟩ = false:=hfr78 2
          clear hcl78 hcc78 hfr78 hM78
          replace p78:=eq_true p78
          replace q78:=eq_true q78
          have HN0_go78:=Aside0.mk (show g ≠ go78 from by have h_:=IsS139.own_ne HI0.out HO_266000.out (by decide);intro e_;exact h_ (by rw [e_];rfl))
          obtain ⟨ce91,hcl91,hM91,hcc91,hfr91⟩:=Kd.R_elem HO_266000.out z45 (t284 : Int) (zD0) (by have h_ : (t284 : Int) < ((x266000_1.length : Int) : Int):=zD0;first | exact h_ | (have e_:=(Kd.R_reads' HO_266000.out).1;omega) | simpa using h_)
          obtain rfl:=k45_openM hM91
          have HP91:=(Kd.R_seg HO_266000.out (t284 : Int) (zD0) (by have h_ : (t284 : Int) < ((x266000_1.length : Int) : Int):=zD0;first | exact h_ | (have e_:=(Kd.R_reads' HO_266000.out).1;omega) | simpa using h_) (seg:=[.string t305]) (j:=0) hcl91 hcc91 (show 1 ≤ 3 from by decide) (x':=(⟨t305,(rd_T45 x266000_1 t284).f1,(rd_T45 x266000_1 t284).f2⟩ : S45)) (k45_mkM _ _ _ (⟨t305,(rd_T45 x266000_1 t284).f1,(rd_T45 x266000_1 t284).f2⟩ : S45) ) (fun _ hk => hk)).1
          rw [← Ny308.out] at HP91
          have HQ91:=Aside0.mk HP91
          clear hcl91 hcc91 hfr91 hM91 HP91
          refine hK.out _ _ (zc00 BK265) (fun hHeld => ?_)
          clear hK K
          refine norm_ (a':=?_) ?_ ?_;rotate_left
          ·show Act.put _ (some 79) _ = _;simp only [Act.put,qA0,qB0,qC0,i64_w,i32_w];rfl
          refine zp0 6 80 9 127 HT_ ?_
          refine zp0 7 81 9 255 HT_ ?_
          refine last_ (i:=8) (N:=none) (zF0 9 511) rfl rfl (one_of HT_.out (by kernel_rfl)) (by decide) (fun K hK => ?_)
          refine skip_ (w1:=?_) (by rfl) rfl ?_ ?_;rotate_left
          ·go_simp
           rfl
          refine hK.out _ _ ?_
          clear hK K
          refine done_ (done_of HT_.out (by kernel_rfl)) ?_
          have n0_ : Aside0 (Kd.R k45 45 (w90.setCell ⟨go78,(t284 : Int).toNat * 3,none⟩ (.string t305)) w.heap.size (fun _ => True) (.slice (some ⟨go78,0,none⟩) x266000_1.length co83) y308):=⟨zR0 HQ91.out⟩
          have n1_ : Aside0 (Kd.R Kd.string 9 (w90.setCell ⟨go78,(t284 : Int).toNat * 3,none⟩ (.string t305)) w.heap.size (fun _ => True) (.slice Ao89 y302.length co89) y302):=⟨by refine zV0 ?_;exact Kd.R_mono (Kd.R_far (p:=⟨go78,(t284 : Int).toNat * 3,none⟩) (Kd.R_types HO304.out GG78.out (by decide)) (fun _ hk => hk.2) (.string t305)) (fun _ hk => trivial)⟩
          have n2_ : Aside0 ((w90.setCell ⟨go78,(t284 : Int).toNat * 3,none⟩ (.string t305)).heap[gb264]? = some (.cells #[.slice none 0 0] 30 (0,0))):=⟨by refine zT0 ?_;refine blk_far ?_ (by have h_:=Kd.R_ne HO_266000.out BK264.out (by decide);intro e_;exact h_ (by rw [e_];rfl)) _;exact zK0 BK264.out⟩
          have n3_ : Aside0 ((w90.setCell ⟨go78,(t284 : Int).toNat * 3,none⟩ (.string t305)).heap[gb265]? = some (.cells #[.slice (some ⟨go78,0,none⟩) x266000_1.length co83] 30 (0,0))):=⟨by refine zT0 ?_;refine blk_far ?_ (by have h_:=Kd.R_ne HO_266000.out BK265.out (by decide);intro e_;exact h_ (by rw [e_];rfl)) _;exact zK0 BK265.out⟩
          have n4_ : Aside0 (IsS139 w0 (w90.setCell ⟨go78,(t284 : Int).toNat * 3,none⟩ (.string t305)) g s0_0 t306 t307):=⟨by repeat (first | (with_reducible first | exact HI0.out | apply IsS139.alloc | apply IsS139.drewN | apply IsS139.drew | apply IsS139.set_1 | apply IsS139.set_2 | refine IsS139.far ?_ HN0_go78.out _ | refine IsS139.far ?_ NB0_264.out _ | refine IsS139.far ?_ NB0_265.out _) | exact HI0.out)⟩
          have n5_ : Aside0 (KeepBut w (w90.setCell ⟨go78,(t284 : Int).toNat * 3,none⟩ (.string t305)) g none):=⟨by repeat (first | (with_reducible first | exact HK.out | apply KeepBut.set_ | apply keep_drewN | apply keep_drew | apply keep_alloc | refine keep_far ?_ GB78.out _ | refine keep_far ?_ GW264.out _ | refine keep_far ?_ GW265.out _) | exact HK.out)⟩
          have n6_ : Aside0 (Below w0.heap.size w0 (w90.setCell ⟨go78,(t284 : Int).toNat * 3,none⟩ (.string t305))):=⟨by repeat (first | (with_reducible first | exact HB.out | apply below_alloc | apply pw_below_drewN | apply below_drew1 | refine below_set ?_ (Nat.le_trans HL.out GB78.out) | refine below_set ?_ (IsS139.ge HI0.out) | refine below_set ?_ GE264.out | refine below_set ?_ GE265.out) | exact HB.out)⟩
          (try clear HO_266000)
          (try clear HO304)
          (try clear BK264)
          (try clear BK265)
          (try clear HI0)
          (try clear HK)
          (try clear HB)
          generalize (w90.setCell ⟨go78,(t284 : Int).toNat * 3,none⟩ (.string t305)) = w92 at n0_ n1_ n2_ n3_ n4_ n5_ n6_ ⊢
          have HO_266000:=n0_
          have HO304:=n1_
          have BK264:=n2_
          have BK265:=n3_
          have HI0:=n4_
          have HK:=n5_
          have HB:=n6_
          clear n0_ n1_ n2_ n3_ n4_ n5_ n6_
          obtain ⟨_,_⟩:=zd01 BK265
          obtain ⟨_,_⟩:=zn0 NB264_0
          obtain ⟨_,_⟩:=zd01 BK264
          try go_wp2
          refine bodyPost_ret (results_cell_row rfl _ _ gb264 30 #[.slice (some ⟨go78,0,none⟩) x266000_1.length co83] (0,0) _ rfl (by refine zT0 ?_;refine blk_put (cs:=#[.slice none 0 0]) ?_ 0 _ rfl;exact zK0 BK264.out) Try.underlying30 rfl (by kernel_rfl)) rfl ?_
          exact ⟨_,zW0,by refine zV0 ?_;exact Kd.R_mono (Kd.R_far (p:=⟨gb264,0,none⟩) (Kd.R_types HO_266000.out BK264.out (by decide)) (fun _ hk => hk.2) (.slice (some ⟨go78,0,none⟩) x266000_1.length co83)) (fun _ hk => trivial),zi0 HI0,zj0 HB HI0,zk0 HK⟩
         ·rw [if_neg c77] at H
          exact absurd H (by simp)
        ·rw [if_neg c76] at H
         exact absurd H (by simp)
       ·rw [if_neg c74] at H
        have c74b0 : (t287 == 2) = false:=beq_eq_false_iff_ne.mpr c74
        have c74b1 : (t287 != 2) = true:=bne_iff_ne.mpr c74
        by_cases c96 : t287 = 3
        ·rw [if_pos c96] at H
         have c96b0 : (t287 == 3) = true:=beq_iff_eq.mpr c96
         have c96b1 : (t287 != 3) = false:=bne_eq_false_iff_eq.mpr c96
         clear c96
         obtain ⟨y309,hy309⟩ : ∃ y_ : List (S45),y_ = (([] : List (S45))):=⟨_,rfl⟩
         replace H : (spec_l03Disk.l1 k1 0 s0_0 t288 t289 y309) = some (r1,r2,r3):=by first | (rw [hy309];with_reducible exact H) | (have H2_:=(Option.bind_some _ _).symm.trans H;rw [hy309];with_reducible exact H2_) | (have H2_:=(Option.bind_some _ _).symm.trans H;with_reducible exact H2_) | with_reducible exact H | (rw [hy309];exact H) | exact H
         have Ny309:=Aside0.mk hy309
         clear hy309
         have H':=Aside0.mk H
         clear H
         go_wp2_with (first | ((with_reducible refine gate_callee (f:=72) rfl ?_);refine goesL_ (some 11) rfl rfl Try.func72 (by kernel_rfl) rfl #[.pointer (some ⟨g,0,none⟩),.int .i64 6] rfl zM0 ?_;(with_reducible refine (spec_l01Below.calls g s0_0 x1001_1 x1002_1 6 t266 t267 t268 w0 _ ?side1 ?side2 A7.out).mono ?_);(case side1 => exact zi0 HI0);(case side2 => exact zj0 HB HI0);rintro e w97 ⟨rfl,hi,hb,hk⟩;refine ⟨_,rfl,?_⟩;replace HO_266000:=Aside0.mk (Kd.R_mono (Kd.R_keep (IsS139.apart (show IsS139 w0 _ g s0_0 x1001_1 x1002_1 from zi0 HI0) (zR0 HO_266000.out) (by decide)) hk (fun _ h => h.2)) (fun _ h => h.1));replace BK264:=zw0 hk BK264 NB264_0;replace BK265:=zw0 hk BK265 NB265_0;replace HK:=zm0 HK hk;replace HB:=Aside0.mk hb;replace HI0:=Aside0.mk hi;(try clear hb);(try clear hk);(try clear hi);obtain ⟨_,_⟩:=zn0 NB265_264;obtain ⟨_,_⟩:=zn0 NB265_0;obtain ⟨hcz100_0,hfz100_0⟩:=zd01 BK265;obtain ⟨Ao101,co101,eo101⟩:=Kd.R_slice HO_266000.out;subst eo101) | ((with_reducible refine gate_callee (f:=72) rfl ?_);refine goesL_ (some 39) rfl rfl Try.func72 (by kernel_rfl) rfl #[.pointer (some ⟨g,0,none⟩),.int .i64 (x266000_1.length : Int)] rfl zM0 ?_;(with_reducible refine (spec_l01Below.calls g s0_0 t267 t268 (x266000_1.length : Int) t284 t285 t286 w0 _ ?side1 ?side2 A32.out).mono ?_);(case side1 => exact zi0 HI0);(case side2 => exact zj0 HB HI0);rintro e w102 ⟨rfl,hi,hb,hk⟩;refine ⟨_,rfl,?_⟩;replace HO_266000:=Aside0.mk (Kd.R_mono (Kd.R_keep (IsS139.apart (show IsS139 w0 _ g s0_0 t267 t268 from zi0 HI0) (zR0 HO_266000.out) (by decide)) hk (fun _ h => h.2)) (fun _ h => h.1));replace BK264:=zw0 hk BK264 NB264_0;replace BK265:=zw0 hk BK265 NB265_0;replace HK:=zm0 HK hk;replace HB:=Aside0.mk hb;replace HI0:=Aside0.mk hi;(try clear hb);(try clear hk);(try clear hi)) | ((with_reducible refine gate_callee (f:=72) rfl ?_);refine goesL_ (some 41) rfl rfl Try.func72 (by kernel_rfl) rfl #[.pointer (some ⟨g,0,none⟩),.int .i64 40] rfl zM0 ?_;(with_reducible refine (spec_l01Below.calls g s0_0 t285 t286 40 t287 t288 t289 w0 _ ?side1 ?side2 A33.out).mono ?_);(case side1 => exact zi0 HI0);(case side2 => exact zj0 HB HI0);rintro e w103 ⟨rfl,hi,hb,hk⟩;refine ⟨_,rfl,?_⟩;replace HO_266000:=Aside0.mk (Kd.R_mono (Kd.R_keep (IsS139.apart (show IsS139 w0 _ g s0_0 t285 t286 from zi0 HI0) (zR0 HO_266000.out) (by decide)) hk (fun _ h => h.2)) (fun _ h => h.1));replace BK264:=zw0 hk BK264 NB264_0;replace BK265:=zw0 hk BK265 NB265_0;replace HK:=zm0 HK hk;replace HB:=Aside0.mk hb;replace HI0:=Aside0.mk hi;(try clear hb);(try clear hk);(try clear hi)) | ((with_reducible refine gate_dst (N:=84) rfl ?_);refine Kd.R_lit k45 _ 45 ?hg (N:=84) ?hd (xs:=([] : List (S45))) (inner:=[]) (ok:=fun _ => True) (okp:=fun _ => True) ?hr ?hp (fun _ hk => hk) trivial (Below.refl _ _) (Nat.le_refl _) (by simp) ?_;(case hd => rfl);(case hg => rfl);(case hr => first | (go_simp;done) | (go_simp;rfl));(case hp => exact (Reps.none _ _));intro v310 w104 ho105 hb hg_ hnew_;clear hg_ hnew_;(first | rw [← Ny309.out] at ho105 | (simp only [Int.reduceToNat] at ho105;rw [← Ny309.out] at ho105));have HO311:=Aside0.mk (Kd.R_lower (Kd.R_new' ho105 (Kd.R_lt (zR0 HO_266000.out))) (keep_size (w:=w) (g:=g) (row:=none) (zk0 HK)));replace HO_266000:=Aside0.mk (Kd.R_elder' (zR0 HO_266000.out) (Kd.R_base ho105) hb);replace BK264:=zb0 BK264 hb;replace BK265:=zb0 BK265 hb;replace HK:=Aside0.mk (KeepBut.trans (zk0 HK) (KeepBut.of_below hb g none) (.inl rfl));replace HB:=Aside0.mk (below_step (zj0 HB HI0) hb);replace HI0:=Aside0.mk (IsS139.below (zi0 HI0) hb);clear hb ho105;obtain ⟨Ao106,co106,eo106⟩:=Kd.R_slice HO311.out;subst eo106;obtain ⟨hcz107_0,hfz107_0⟩:=zd01 BK265))
         go_loopg [7] k1 (fun kq v7 w' => ∃ (x7_2 : Int) (x1001_2 : Int) (x1002_2 : Int) (x266000_2 : List (S45)) (u266000 : Value),v7 = .int .i64 x7_2 ∧ Aside0 (spec_l03Disk.l1 kq x7_2 s0_0 x1001_2 x1002_2 x266000_2 = some (r1,r2,r3)) ∧ Aside0 (kq ≤ k1) ∧ Aside0 (Kd.R k45 45 w' w.heap.size (fun _ => True) u266000 x266000_2) ∧ Aside0 (w'.heap[gb264]? = some (.cells #[(.slice none 0 0)] 30 (0,0))) ∧ Aside0 (w'.heap[gb265]? = some (.cells #[u266000] 30 (0,0))) ∧ Aside0 (IsS139 w0 w' g s0_0 x1001_2 x1002_2) ∧ Aside0 (KeepBut w w' g none) ∧ Aside0 (Below w0.heap.size w0 w'))
         case atStart => exact ⟨(0),(t288),(t289),(y309),(.slice Ao106 y309.length co106),zE0,H',⟨Nat.le_refl _⟩,⟨by refine zV0 ?_;exact Kd.R_mono (Kd.R_far (p:=⟨gb265,0,none⟩) (Kd.R_types HO311.out BK265.out (by decide)) (fun _ hk => hk.2) (.slice Ao106 y309.length co106)) (fun _ hk => trivial)⟩,⟨zK0 BK264.out⟩,⟨by refine zT0 ?_;refine blk_put (cs:=#[.slice Ao101 x266000_1.length co101]) ?_ 0 _ rfl;exact zK0 BK265.out⟩,⟨zi0 HI0⟩,⟨zk0 HK⟩,⟨zj0 HB HI0⟩⟩
         case round =>
          clear H'
          try clear hf3
          try clear hf7
          try clear c8
          try clear c34
          try clear c34b0
          try clear c34b1
          try clear hf38
          try clear c56
          try clear c56b0
          try clear c56b1
          try clear c74
          try clear c74b0
          try clear c74b1
          try clear hf78
          try clear c96
          try clear c96b0
          try clear c96b1
          try clear hcz100_0
          try clear hcz107_0
          try clear hfz100_0
          try clear hfz107_0
          obtain ⟨x7_2,x1001_2,x1002_2,x266000_2,u266000,rfl,HA,HK2,HO_266000,BK264,BK265,HI0,HK,HB⟩:=hrel
          cases gk with
          | zero => exact absurd HA.out (by simp [spec_l03Disk.l1])
          | succ k2 =>
           have H:=HA.out
           clear HA
           simp only [spec_l03Disk.l1] at H
           obtain ⟨⟨t312,t313,t314⟩,A108,H⟩:=bX0 H
           dsimp only at H
           by_cases c109 : x7_2 < (wrap64 (30 + t312))
           ·rw [if_pos c109] at H
            have c109b0 : decide (x7_2 < (wrap64 (30 + t312))) = true:=decide_eq_true c109
            clear c109
            obtain ⟨t315,A110,H⟩:=bX0 H
            by_cases c111 : 1 + t315.size ≤ 9223372036854775807
            ·rw [if_pos c111] at H
             have c111b0:=eq_true c111
             have c111b1 : decide (1 + t315.size ≤ 9223372036854775807) = true:=decide_eq_true c111
             try have c111b2 : (9223372036854775807 < 1 + t315.size) = False:=eq_false (Nat.not_lt.2 c111)
             by_cases c112 : x266000_2.length < 3518437208883
             ·rw [if_pos c112] at H
              have LMc112:=Aside0.mk c112
              clear c112
              obtain ⟨y316,hy316⟩ : ∃ y_ : List (S45),y_ = (x266000_2 ++ [(⟨(⟨#[102]⟩ : ByteArray) ++ t315,(⟨#[]⟩ : ByteArray),0⟩ : S45)]):=⟨_,rfl⟩
              replace H : (spec_l03Disk.l1 k2 (wrap64 (x7_2 + 1)) s0_0 t313 t314 y316) = some (r1,r2,r3):=by first | (rw [hy316];with_reducible exact H) | (have H2_:=(Option.bind_some _ _).symm.trans H;rw [hy316];with_reducible exact H2_) | (have H2_:=(Option.bind_some _ _).symm.trans H;with_reducible exact H2_) | with_reducible exact H | (rw [hy316];exact H) | exact H
              have Ny316:=Aside0.mk hy316
              clear hy316
              have H':=Aside0.mk H
              clear H
              try go_wp2_with (first | ((with_reducible refine gate_callee (f:=72) rfl ?_);refine goesL_ (some 88) rfl rfl Try.func72 (by kernel_rfl) rfl #[.pointer (some ⟨g,0,none⟩),.int .i64 2] rfl zM0 ?_;(with_reducible refine (spec_l01Below.calls g s0_0 x1001_2 x1002_2 2 t312 t313 t314 w0 _ ?side1 ?side2 A108.out).mono ?_);(case side1 => exact zi0 HI0);(case side2 => exact zj0 HB HI0);rintro e w113 ⟨rfl,hi,hb,hk⟩;refine ⟨_,rfl,?_⟩;replace HO_266000:=Aside0.mk (Kd.R_mono (Kd.R_keep (IsS139.apart (show IsS139 w0 _ g s0_0 x1001_2 x1002_2 from zi0 HI0) (zR0 HO_266000.out) (by decide)) hk (fun _ h => h.2)) (fun _ h => h.1));replace BK264:=zw0 hk BK264 NB264_0;replace BK265:=zw0 hk BK265 NB265_0;replace HK:=zm0 HK hk;replace HB:=Aside0.mk hb;replace HI0:=Aside0.mk hi;(try clear hb);(try clear hk);(try clear hi)))
              replace HO_266000:=Aside0.mk (Kd.R_drew HO_266000.out)
              replace BK264:=Aside0.mk (blk_drew BK264.out)
              replace BK265:=Aside0.mk (blk_drew BK265.out)
              replace HI0:=Aside0.mk (IsS139.drew HI0.out)
              replace HK:=Aside0.mk (keep_drew HK.out)
              replace HB:=Aside0.mk (below_drew1 HB.out)
              refine start_ (n:=11) (S:=fun w' => w'.cell? ⟨gb265,0,none⟩ = some (u266000)) (ds:=[10]) (zF0 11 0) (by kernel_rfl) rfl rfl (zc00 BK265) (fun hHeld => ?_);refine with_tabW spec_l03Disk.tab22 spec_l03Disk.bits22 (fun HT_ HW_ => ?_)
              generalize w113.drew = w114 at HO_266000 BK264 BK265 HI0 HK HB hHeld ⊢
              refine zp0 0 93 11 1 HT_ ?_
              refine zp0 2 95 11 5 HT_ ?_
              refine zp0 3 96 11 13 HT_ ?_
              refine zt0 1 94 11 15 HT_ HW_ hHeld ?_
              refine one_ (i:=4) (N:=some 97) (zF0 11 31) rfl rfl (one_of HT_.out (by kernel_rfl)) (by decide) (fun K hK => ?_)
              refine goes_ Try.func117 (by kernel_rfl) rfl #[.int .i64 (wrap64 (100 + x7_2))] (by rfl) rfl rfl zM0 ?_
              with_reducible refine (spec_Decimal.calls k2 (wrap64 (100 + x7_2)) t315 _ A110.out).mono ?_
              rintro e w115 ⟨rfl,hb⟩
              refine ⟨_,rfl,?_⟩
              replace HO_266000:=Aside0.mk (Kd.R_below (zR0 HO_266000.out) hb)
              replace BK264:=zb0 BK264 hb
              replace BK265:=zb0 BK265 hb
              replace HK:=Aside0.mk (KeepBut.trans (zk0 HK) (KeepBut.of_below hb g none) (.inl rfl))
              replace HB:=Aside0.mk (below_step (zj0 HB HI0) hb)
              replace HI0:=Aside0.mk (IsS139.below (zi0 HI0) hb)
              (try clear hb)
              (try clear hb2)
              (try clear hk)
              (try clear hi)
              refine hK.out _ _ (zc00 BK265) (fun hHeld => ?_)
              clear hK K
              refine norm_ (a':=?_) ?_ ?_;rotate_left
              ·show Act.put _ (some 97) _ = _;simp only [Act.put,qA0,qB0,qC0,i64_w,i32_w];rfl
              refine zp0 5 98 11 63 HT_ ?_
              refine zp0 6 99 11 127 HT_ ?_
              refine one_ (i:=7) (N:=some 100) (zF0 11 255) rfl rfl (one_of HT_.out (by kernel_rfl)) (by decide) (fun K hK => ?_)
              refine value_ (w1:=?_) (v:=?_) (by rfl) rfl ?_ ?_
              rotate_left 2
              ·go_simp
               constructor
               ·rfl
               ·rfl
              refine hK.out _ _ ((blk_cell (blk_alloc BK265.out _) 0).trans rfl) (fun hHeld => ?_)
              clear hK K
              refine norm_ (a':=?_) ?_ ?_;rotate_left
              ·show Act.put _ (some 100) _ = _;simp only [Act.put,qA0,qB0,qC0,i64_w,i32_w];rfl
              refine one_ (i:=8) (N:=some 101) (zF0 11 511) rfl rfl (one_of HT_.out (by kernel_rfl)) (by decide) (fun K hK => ?_)
              refine Kd.R_append_step k45 w.heap.size (by rfl) (.tmp 94) (.tmp 100) 28 45 (.agg #[(.string ⟨#[]⟩),(.string ⟨#[]⟩),(.int .i64 0)]) 40 rfl Try.underlying28 info45 rfl (by decide) (by omega) u266000 x266000_2 (⟨(⟨#[102]⟩ : ByteArray) ++ t315,(⟨#[]⟩ : ByteArray),0⟩ : S45) [.string ((⟨#[102]⟩ : ByteArray) ++ t315),.string (⟨#[]⟩ : ByteArray),.int .i64 0] (fun _ => True) (fun _ => False) rfl rfl ?aP (fun _ hk => hk.elim) ?aF ?aO (Below.refl _ _) ?aS ?aL ?_
              (case aP => exact k45_mkM _ _ _ (⟨(⟨#[102]⟩ : ByteArray) ++ t315,(⟨#[]⟩ : ByteArray),0⟩ : S45))
              (case aF => exact (fun _ _ => trivial))
              (case aO => exact (zR0 HO_266000.out))
              (case aS => exact (keep_size (w:=w) (g:=g) (row:=none) (zk0 HK)))
              (case aL => have:=LMc112.out;omega)
              intro v317 w116 ho hb hg hat
              rw [← Ny316.out] at ho
              replace BK264:=Aside0.mk (blk_grown (g:=gb264) (o:=.cells #[.slice none 0 0] 30 (0,0)) (zK0 BK264.out) hg (Kd.R_ne HO_266000.out BK264.out (by decide)))
              replace BK265:=Aside0.mk (blk_grown (g:=gb265) (o:=.cells #[u266000] 30 (0,0)) (zK0 BK265.out) hg (Kd.R_ne HO_266000.out BK265.out (by decide)))
              replace HB:=Aside0.mk (below_weaken (zj0 HB HI0) HL.out hb)
              replace HI0:=Aside0.mk (IsS139.grown (zi0 HI0) hg (IsS139.own_ne HI0.out HO_266000.out (by decide)))
              replace HK:=Aside0.mk (KeepBut.trans (zk0 HK) (KeepBut.of_grown hg g) (Kd.R_base2 HO_266000.out))
              have HO318:=Aside0.mk ho
              clear HO_266000
              clear ho hb hg hat
              obtain ⟨Ao117,co117,eo117⟩:=Kd.R_slice HO318.out
              (first | subst eo117 | (injection eo117 with f1_ f2_ f3_;have f4_:=f1_.symm;have f5_:=f3_.symm;clear f1_ f2_ f3_;subst f4_;subst f5_))
              refine hK.out _ _ (zc00 BK265) (fun hHeld => ?_)
              clear hK K
              refine norm_ (a':=?_) ?_ ?_;rotate_left
              ·show Act.put _ (some 101) _ = _;simp only [Act.put,qA0,qB0,qC0,i64_w,i32_w];rfl
              refine zp0 9 102 11 1023 HT_ ?_
              refine last_ (i:=10) (N:=none) (zF0 11 2047) rfl rfl (one_of HT_.out (by kernel_rfl)) (by decide) (fun K hK => ?_)
              have hs118 : w116.cell? ⟨gb265,0,none⟩ = some (u266000):=zc00 BK265
              have hfs118:=blk_frozen BK265.out 0
              have hns118_0:=NB264_265.out
              have hms118_0:=NB265_264.out
              refine skip_ (w1:=?_) (by rfl) rfl ?_ ?_;rotate_left
              ·go_simp
               rfl
              refine hK.out _ _ ?_
              clear hK K
              refine done_ (done_of HT_.out (by kernel_rfl)) ?_
              try go_wp2
              go_roundg k2
              case measure => have:=HK1.out;have:=HK2.out;omega
              case rel => exact ⟨(wrap64 (x7_2 + 1)),(t313),(t314),(y316),(.slice Ao117 y316.length co117),zE0,H',⟨by have:=HK1.out;have:=HK2.out;omega⟩,⟨by refine zV0 ?_;exact Kd.R_mono (Kd.R_far (p:=⟨gb265,0,none⟩) (Kd.R_types HO318.out BK265.out (by decide)) (fun _ hk => hk.2) (.slice Ao117 y316.length co117)) (fun _ hk => trivial)⟩,⟨zK0 BK264.out⟩,⟨by refine zT0 ?_;refine blk_put (cs:=#[u266000]) ?_ 0 _ rfl;exact zK0 BK265.out⟩,⟨zi0 HI0⟩,⟨zk0 HK⟩,⟨zj0 HB HI0⟩⟩
             ·rw [if_neg c112] at H
              exact absurd H (by simp)
            ·rw [if_neg c111] at H
             exact absurd H (by simp)
           ·rw [if_neg c109] at H
            have c109b0 : decide (x7_2 < (wrap64 (30 + t312))) = false:=decide_eq_false c109
            clear c109
            simp only [Option.some.injEq,Prod.mk.injEq] at H
            obtain ⟨rfl,rfl,rfl⟩:=H
            go_wp2_with (first | ((with_reducible refine gate_callee (f:=72) rfl ?_);refine goesL_ (some 88) rfl rfl Try.func72 (by kernel_rfl) rfl #[.pointer (some ⟨g,0,none⟩),.int .i64 2] rfl zM0 ?_;(with_reducible refine (spec_l01Below.calls g s0_0 x1001_2 x1002_2 2 t312 t313 t314 w0 _ ?side1 ?side2 A108.out).mono ?_);(case side1 => exact zi0 HI0);(case side2 => exact zj0 HB HI0);rintro e w119 ⟨rfl,hi,hb,hk⟩;refine ⟨_,rfl,?_⟩;replace HO_266000:=Aside0.mk (Kd.R_mono (Kd.R_keep (IsS139.apart (show IsS139 w0 _ g s0_0 x1001_2 x1002_2 from zi0 HI0) (zR0 HO_266000.out) (by decide)) hk (fun _ h => h.2)) (fun _ h => h.1));replace BK264:=zw0 hk BK264 NB264_0;replace BK265:=zw0 hk BK265 NB265_0;replace HK:=zm0 HK hk;replace HB:=Aside0.mk hb;replace HI0:=Aside0.mk hi;(try clear hb);(try clear hk);(try clear hi);obtain ⟨_,_⟩:=zn0 NB265_264;obtain ⟨_,_⟩:=zn0 NB265_0;obtain ⟨_,_⟩:=zd01 BK265;obtain ⟨Ao123,co123,eo123⟩:=Kd.R_slice HO_266000.out;subst eo123;obtain ⟨_,_⟩:=zn0 NB264_0;obtain ⟨_,_⟩:=zd01 BK264))
            refine bodyPost_ret (results_cell_row rfl _ _ gb264 30 #[.slice Ao123 x266000_2.length co123] (0,0) _ rfl (by refine zT0 ?_;refine blk_put (cs:=#[.slice none 0 0]) ?_ 0 _ rfl;exact zK0 BK264.out) Try.underlying30 rfl (by kernel_rfl)) rfl ?_
            exact ⟨_,zW0,by refine zV0 ?_;exact Kd.R_mono (Kd.R_far (p:=⟨gb264,0,none⟩) (Kd.R_types HO_266000.out BK264.out (by decide)) (fun _ hk => hk.2) (.slice Ao123 x266000_2.length co123)) (fun _ hk => trivial),zi0 HI0,zj0 HB HI0,zk0 HK⟩
        ·rw [if_neg c96] at H
         have c96b0 : (t287 == 3) = false:=beq_eq_false_iff_ne.mpr c96
         have c96b1 : (t287 != 3) = true:=bne_iff_ne.mpr c96
         by_cases c126 : t287 = 4
         ·rw [if_pos c126] at H
          have c126b0 : (t287 == 4) = true:=beq_iff_eq.mpr c126
          have c126b1 : (t287 != 4) = false:=bne_eq_false_iff_eq.mpr c126
          clear c126
          obtain ⟨⟨t319,t320,t321⟩,A127,H⟩:=bX0 H
          dsimp only at H
          obtain ⟨t322,A128,H⟩:=bX0 H
          by_cases c129 : 0 ≤ t284
          ·rw [if_pos c129] at H
           have c129b0 : decide (0 ≤ t284) = true:=decide_eq_true c129
           clear c129
           by_cases c130 : t284 < (x266000_1.length : Int)
           ·rw [if_pos c130] at H
            have c130b0 : decide (t284 < (x266000_1.length : Int)) = true:=decide_eq_true c130
            clear c130
            obtain ⟨y323,hy323⟩ : ∃ y_ : List (S45),y_ = (x266000_1.set (t284 : Int).toNat (⟨(rd_T45 x266000_1 t284).f0,t322,(rd_T45 x266000_1 t284).f2⟩ : S45)):=⟨_,rfl⟩
            replace H : (some (y323,t320,t321)) = some (r1,r2,r3):=by first | (rw [hy323];with_reducible exact H) | (have H2_:=(Option.bind_some _ _).symm.trans H;rw [hy323];with_reducible exact H2_) | (have H2_:=(Option.bind_some _ _).symm.trans H;with_reducible exact H2_) | with_reducible exact H | (rw [hy323];exact H) | exact H
            have Ny323:=Aside0.mk hy323
            clear hy323
            simp only [Option.some.injEq,Prod.mk.injEq] at H
            obtain ⟨rfl,rfl,rfl⟩:=H
            try go_wp2_with (first | ((with_reducible refine gate_callee (f:=72) rfl ?_);refine goesL_ (some 11) rfl rfl Try.func72 (by kernel_rfl) rfl #[.pointer (some ⟨g,0,none⟩),.int .i64 6] rfl zM0 ?_;(with_reducible refine (spec_l01Below.calls g s0_0 x1001_1 x1002_1 6 t266 t267 t268 w0 _ ?side1 ?side2 A7.out).mono ?_);(case side1 => exact zi0 HI0);(case side2 => exact zj0 HB HI0);rintro e w132 ⟨rfl,hi,hb,hk⟩;refine ⟨_,rfl,?_⟩;replace HO_266000:=Aside0.mk (Kd.R_mono (Kd.R_keep (IsS139.apart (show IsS139 w0 _ g s0_0 x1001_1 x1002_1 from zi0 HI0) (zR0 HO_266000.out) (by decide)) hk (fun _ h => h.2)) (fun _ h => h.1));replace BK264:=zw0 hk BK264 NB264_0;replace BK265:=zw0 hk BK265 NB265_0;replace HK:=zm0 HK hk;replace HB:=Aside0.mk hb;replace HI0:=Aside0.mk hi;(try clear hb);(try clear hk);(try clear hi);obtain ⟨_,_⟩:=zn0 NB265_264;obtain ⟨_,_⟩:=zn0 NB265_0;obtain ⟨_,_⟩:=zd01 BK265;obtain ⟨Ao136,co136,eo136⟩:=Kd.R_slice HO_266000.out;subst eo136) | ((with_reducible refine gate_callee (f:=72) rfl ?_);refine goesL_ (some 39) rfl rfl Try.func72 (by kernel_rfl) rfl #[.pointer (some ⟨g,0,none⟩),.int .i64 (x266000_1.length : Int)] rfl zM0 ?_;(with_reducible refine (spec_l01Below.calls g s0_0 t267 t268 (x266000_1.length : Int) t284 t285 t286 w0 _ ?side1 ?side2 A32.out).mono ?_);(case side1 => exact zi0 HI0);(case side2 => exact zj0 HB HI0);rintro e w137 ⟨rfl,hi,hb,hk⟩;refine ⟨_,rfl,?_⟩;replace HO_266000:=Aside0.mk (Kd.R_mono (Kd.R_keep (IsS139.apart (show IsS139 w0 _ g s0_0 t267 t268 from zi0 HI0) (zR0 HO_266000.out) (by decide)) hk (fun _ h => h.2)) (fun _ h => h.1));replace BK264:=zw0 hk BK264 NB264_0;replace BK265:=zw0 hk BK265 NB265_0;replace HK:=zm0 HK hk;replace HB:=Aside0.mk hb;replace HI0:=Aside0.mk hi;(try clear hb);(try clear hk);(try clear hi)) | ((with_reducible refine gate_callee (f:=72) rfl ?_);refine goesL_ (some 41) rfl rfl Try.func72 (by kernel_rfl) rfl #[.pointer (some ⟨g,0,none⟩),.int .i64 40] rfl zM0 ?_;(with_reducible refine (spec_l01Below.calls g s0_0 t285 t286 40 t287 t288 t289 w0 _ ?side1 ?side2 A33.out).mono ?_);(case side1 => exact zi0 HI0);(case side2 => exact zj0 HB HI0);rintro e w138 ⟨rfl,hi,hb,hk⟩;refine ⟨_,rfl,?_⟩;replace HO_266000:=Aside0.mk (Kd.R_mono (Kd.R_keep (IsS139.apart (show IsS139 w0 _ g s0_0 t285 t286 from zi0 HI0) (zR0 HO_266000.out) (by decide)) hk (fun _ h => h.2)) (fun _ h => h.1));replace BK264:=zw0 hk BK264 NB264_0;replace BK265:=zw0 hk BK265 NB265_0;replace HK:=zm0 HK hk;replace HB:=Aside0.mk hb;replace HI0:=Aside0.mk hi;(try clear hb);(try clear hk);(try clear hi)))
            replace HO_266000:=Aside0.mk (Kd.R_drew HO_266000.out)
            replace BK264:=Aside0.mk (blk_drew BK264.out)
            replace BK265:=Aside0.mk (blk_drew BK265.out)
            replace HI0:=Aside0.mk (IsS139.drew HI0.out)
            replace HK:=Aside0.mk (keep_drew HK.out)
            replace HB:=Aside0.mk (below_drew1 HB.out)
            refine start_ (n:=10) (S:=fun w' => w'.cell? ⟨gb265,0,none⟩ = some (.slice Ao136 x266000_1.length co136)) (ds:=[9]) (zF0 10 0) (by kernel_rfl) rfl rfl (zc00 BK265) (fun hHeld => ?_);refine with_tabW spec_l03Disk.tab24 spec_l03Disk.bits24 (fun HT_ HW_ => ?_)
            generalize w138.drew = w139 at HO_266000 BK264 BK265 HI0 HK HB hHeld ⊢
            refine zp0 0 105 10 1 HT_ ?_
            refine zp0 2 107 10 5 HT_ ?_
            refine zp0 3 108 10 13 HT_ ?_
            refine zt0 1 106 10 15 HT_ HW_ hHeld ?_
            refine one_ (i:=4) (N:=some 109) (zF0 10 31) rfl rfl (one_of HT_.out (by kernel_rfl)) (by decide) (fun K hK => ?_)
            refine goes_ Try.func72 (by kernel_rfl) rfl #[.pointer (some ⟨g,0,none⟩),.int .i64 3] (by rfl) rfl rfl zM0 ?_
            with_reducible refine (spec_l01Below.calls g s0_0 t288 t289 3 t319 t320 t321 w0 _ ?side1 ?side2 A127.out).mono ?_
            (case side1 => exact zi0 HI0)
            (case side2 => exact zj0 HB HI0)
            rintro e w140 ⟨rfl,hi,hb,hk⟩
            refine ⟨_,rfl,?_⟩
            replace HO_266000:=Aside0.mk (Kd.R_mono (Kd.R_keep (IsS139.apart (show IsS139 w0 _ g s0_0 t288 t289 from zi0 HI0) (zR0 HO_266000.out) (by decide)) hk (fun _ h => h.2)) (fun _ h => h.1))
            replace BK264:=zw0 hk BK264 NB264_0
            replace BK265:=zw0 hk BK265 NB265_0
            replace HK:=zm0 HK hk
            replace HB:=Aside0.mk hb
            replace HI0:=Aside0.mk hi
            (try clear hb)
            (try clear hb2)
            (try clear hk)
            (try clear hi)
            refine hK.out _ _ (zc00 BK265) (fun hHeld => ?_)
            clear hK K
            refine norm_ (a':=?_) ?_ ?_;rotate_left
            ·show Act.put _ (some 109) _ = _;simp only [Act.put,qA0,qB0,qC0,i64_w,i32_w];rfl
            refine zp0 5 110 10 63 HT_ ?_
            refine one_ (i:=6) (N:=some 111) (zF0 10 127) rfl rfl (one_of HT_.out (by kernel_rfl)) (by decide) (fun K hK => ?_)
            refine goes_ Try.func118 (by kernel_rfl) rfl #[.int .i64 (wrap64 (19999 + t319)),.int .u8 65] (by rfl) rfl rfl zM0 ?_
            with_reducible refine (spec_l01Long.calls k1 (wrap64 (19999 + t319)) 65 t322 _ A128.out).mono ?_
            rintro e w141 ⟨rfl,hb⟩
            refine ⟨_,rfl,?_⟩
            replace HO_266000:=Aside0.mk (Kd.R_below (zR0 HO_266000.out) hb)
            replace BK264:=zb0 BK264 hb
            replace BK265:=zb0 BK265 hb
            replace HK:=Aside0.mk (KeepBut.trans (zk0 HK) (KeepBut.of_below hb g none) (.inl rfl))
            replace HB:=Aside0.mk (below_step (zj0 HB HI0) hb)
            replace HI0:=Aside0.mk (IsS139.below (zi0 HI0) hb)
            (try clear hb)
            (try clear hb2)
            (try clear hk)
            (try clear hi)
            have p131 : 0 ≤ (t284 : Int):=zD0
            have q131 : (t284 : Int) < ((x266000_1.length : Int) : Int):=zD0
            obtain ⟨go131,co131,eo131,gb131,gl131,cl131,HG131⟩:=Kd.R_form HO_266000.out (by omega)
            (first | cases eo131 | (injection eo131 with ea_ en_ ec_;(first | subst ea_ | (injection ea_ with ea_;subst ea_));subst ec_;clear en_))
            have GB131:=Aside0.mk gb131
            have GG131:=Aside0.mk HG131
            clear gb131 gl131 HG131
            obtain ⟨ce131,hcl131,hM131,hcc131,hfr131⟩:=Kd.R_elem HO_266000.out z45 (t284 : Int) p131 q131
            obtain rfl:=k45_openM hM131
            have hx131_0 : World.cell? _ ⟨go131,(t284 : Int).toNat * 3,none⟩ = some (.string ((rd_T45 x266000_1 t284).f0)):=hcc131 0 _ rfl
            have hx131_1 : World.cell? _ ⟨go131,(t284 : Int).toNat * 3 + 1,none⟩ = some (.string ((rd_T45 x266000_1 t284).f1)):=hcc131 1 _ rfl
            have hx131_2 : World.cell? _ ⟨go131,(t284 : Int).toNat * 3 + 2,none⟩ = some (.int .i64 ((rd_T45 x266000_1 t284).f2)):=hcc131 2 _ rfl
            have hf131_0 : World.frozen? _ ⟨go131,(t284 : Int).toNat * 3,none⟩ = false:=hfr131 0
            have hf131_1 : World.frozen? _ ⟨go131,(t284 : Int).toNat * 3 + 1,none⟩ = false:=hfr131 1
            have hf131_2 : World.frozen? _ ⟨go131,(t284 : Int).toNat * 3 + 2,none⟩ = false:=hfr131 2
            clear hcl131 hcc131 hfr131 hM131
            replace p131:=eq_true p131
            replace q131:=eq_true q131
            have HN0_go131:=Aside0.mk (show g ≠ go131 from by have h_:=IsS139.own_ne HI0.out HO_266000.out (by decide);intro e_;exact h_ (by rw [e_];rfl))
            obtain ⟨ce142,hcl142,hM142,hcc142,hfr142⟩:=Kd.R_elem HO_266000.out z45 (t284 : Int) (zD0) (by have h_ : (t284 : Int) < ((x266000_1.length : Int) : Int):=zD0;first | exact h_ | (have e_:=(Kd.R_reads' HO_266000.out).1;omega) | simpa using h_)
            obtain rfl:=k45_openM hM142
            have HP142:=(Kd.R_seg HO_266000.out (t284 : Int) (zD0) (by have h_ : (t284 : Int) < ((x266000_1.length : Int) : Int):=zD0;first | exact h_ | (have e_:=(Kd.R_reads' HO_266000.out).1;omega) | simpa using h_) (seg:=[.string t322]) (j:=1) hcl142 hcc142 (show 2 ≤ 3 from by decide) (x':=(⟨(rd_T45 x266000_1 t284).f0,t322,(rd_T45 x266000_1 t284).f2⟩ : S45)) (k45_mkM _ _ _ (⟨(rd_T45 x266000_1 t284).f0,t322,(rd_T45 x266000_1 t284).f2⟩ : S45) ) (fun _ hk => hk)).1
            rw [← Ny323.out] at HP142
            have HQ142:=Aside0.mk HP142
            clear hcl142 hcc142 hfr142 hM142 HP142
            refine hK.out _ _ (zc00 BK265) (fun hHeld => ?_)
            clear hK K
            refine norm_ (a':=?_) ?_ ?_;rotate_left
            ·show Act.put _ (some 111) _ = _;simp only [Act.put,qA0,qB0,qC0,i64_w,i32_w];rfl
            refine zp0 7 112 10 255 HT_ ?_
            refine zp0 8 113 10 511 HT_ ?_
            refine last_ (i:=9) (N:=none) (zF0 10 1023) rfl rfl (one_of HT_.out (by kernel_rfl)) (by decide) (fun K hK => ?_)
            refine skip_ (w1:=?_) (by rfl) rfl ?_ ?_;rotate_left
            ·go_simp
             rfl
            refine hK.out _ _ ?_
            clear hK K
            refine done_ (done_of HT_.out (by kernel_rfl)) ?_
            have n0_ : Aside0 (Kd.R k45 45 (w141.setCell ⟨go131,(t284 : Int).toNat * 3 + 1,none⟩ (.string t322)) w.heap.size (fun _ => True) (.slice (some ⟨go131,0,none⟩) x266000_1.length co136) y323):=⟨zR0 HQ142.out⟩
            have n1_ : Aside0 ((w141.setCell ⟨go131,(t284 : Int).toNat * 3 + 1,none⟩ (.string t322)).heap[gb264]? = some (.cells #[.slice none 0 0] 30 (0,0))):=⟨by refine zT0 ?_;refine blk_far ?_ (by have h_:=Kd.R_ne HO_266000.out BK264.out (by decide);intro e_;exact h_ (by rw [e_];rfl)) _;exact zK0 BK264.out⟩
            have n2_ : Aside0 ((w141.setCell ⟨go131,(t284 : Int).toNat * 3 + 1,none⟩ (.string t322)).heap[gb265]? = some (.cells #[.slice (some ⟨go131,0,none⟩) x266000_1.length co136] 30 (0,0))):=⟨by refine zT0 ?_;refine blk_far ?_ (by have h_:=Kd.R_ne HO_266000.out BK265.out (by decide);intro e_;exact h_ (by rw [e_];rfl)) _;exact zK0 BK265.out⟩
            have n3_ : Aside0 (IsS139 w0 (w141.setCell ⟨go131,(t284 : Int).toNat * 3 + 1,none⟩ (.string t322)) g s0_0 t320 t321):=⟨by repeat (first | (with_reducible first | exact HI0.out | apply IsS139.alloc | apply IsS139.drewN | apply IsS139.drew | apply IsS139.set_1 | apply IsS139.set_2 | refine IsS139.far ?_ HN0_go131.out _ | refine IsS139.far ?_ NB0_264.out _ | refine IsS139.far ?_ NB0_265.out _) | exact HI0.out)⟩
            have n4_ : Aside0 (KeepBut w (w141.setCell ⟨go131,(t284 : Int).toNat * 3 + 1,none⟩ (.string t322)) g none):=⟨by repeat (first | (with_reducible first | exact HK.out | apply KeepBut.set_ | apply keep_drewN | apply keep_drew | apply keep_alloc | refine keep_far ?_ GB131.out _ | refine keep_far ?_ GW264.out _ | refine keep_far ?_ GW265.out _) | exact HK.out)⟩
            have n5_ : Aside0 (Below w0.heap.size w0 (w141.setCell ⟨go131,(t284 : Int).toNat * 3 + 1,none⟩ (.string t322))):=⟨by repeat (first | (with_reducible first | exact HB.out | apply below_alloc | apply pw_below_drewN | apply below_drew1 | refine below_set ?_ (Nat.le_trans HL.out GB131.out) | refine below_set ?_ (IsS139.ge HI0.out) | refine below_set ?_ GE264.out | refine below_set ?_ GE265.out) | exact HB.out)⟩
            (try clear HO_266000)
            (try clear BK264)
            (try clear BK265)
            (try clear HI0)
            (try clear HK)
            (try clear HB)
            generalize (w141.setCell ⟨go131,(t284 : Int).toNat * 3 + 1,none⟩ (.string t322)) = w143 at n0_ n1_ n2_ n3_ n4_ n5_ ⊢
            have HO_266000:=n0_
            have BK264:=n1_
            have BK265:=n2_
            have HI0:=n3_
            have HK:=n4_
            have HB:=n5_
            clear n0_ n1_ n2_ n3_ n4_ n5_
            obtain ⟨_,_⟩:=zd01 BK265
            obtain ⟨_,_⟩:=zn0 NB264_0
            obtain ⟨_,_⟩:=zd01 BK264
            try go_wp2
            refine bodyPost_ret (results_cell_row rfl _ _ gb264 30 #[.slice (some ⟨go131,0,none⟩) x266000_1.length co136] (0,0) _ rfl (by refine zT0 ?_;refine blk_put (cs:=#[.slice none 0 0]) ?_ 0 _ rfl;exact zK0 BK264.out) Try.underlying30 rfl (by kernel_rfl)) rfl ?_
            exact ⟨_,zW0,by refine zV0 ?_;exact Kd.R_mono (Kd.R_far (p:=⟨gb264,0,none⟩) (Kd.R_types HO_266000.out BK264.out (by decide)) (fun _ hk => hk.2) (.slice (some ⟨go131,0,none⟩) x266000_1.length co136)) (fun _ hk => trivial),zi0 HI0,zj0 HB HI0,zk0 HK⟩
           ·rw [if_neg c130] at H
            exact absurd H (by simp)
          ·rw [if_neg c129] at H
           exact absurd H (by simp)
         ·rw [if_neg c126] at H
          have c126b0 : (t287 == 4) = false:=beq_eq_false_iff_ne.mpr c126
          have c126b1 : (t287 != 4) = true:=bne_iff_ne.mpr c126
          simp only [Option.some.injEq,Prod.mk.injEq] at H
          obtain ⟨rfl,rfl,rfl⟩:=H
          go_wp2_with (first | ((with_reducible refine gate_callee (f:=72) rfl ?_);refine goesL_ (some 11) rfl rfl Try.func72 (by kernel_rfl) rfl #[.pointer (some ⟨g,0,none⟩),.int .i64 6] rfl zM0 ?_;(with_reducible refine (spec_l01Below.calls g s0_0 x1001_1 x1002_1 6 t266 t267 t268 w0 _ ?side1 ?side2 A7.out).mono ?_);(case side1 => exact zi0 HI0);(case side2 => exact zj0 HB HI0);rintro e w147 ⟨rfl,hi,hb,hk⟩;refine ⟨_,rfl,?_⟩;replace HO_266000:=Aside0.mk (Kd.R_mono (Kd.R_keep (IsS139.apart (show IsS139 w0 _ g s0_0 x1001_1 x1002_1 from zi0 HI0) (zR0 HO_266000.out) (by decide)) hk (fun _ h => h.2)) (fun _ h => h.1));replace BK264:=zw0 hk BK264 NB264_0;replace BK265:=zw0 hk BK265 NB265_0;replace HK:=zm0 HK hk;replace HB:=Aside0.mk hb;replace HI0:=Aside0.mk hi;(try clear hb);(try clear hk);(try clear hi);obtain ⟨_,_⟩:=zn0 NB265_264;obtain ⟨_,_⟩:=zn0 NB265_0;obtain ⟨_,_⟩:=zd01 BK265;obtain ⟨Ao151,co151,eo151⟩:=Kd.R_slice HO_266000.out;subst eo151) | ((with_reducible refine gate_callee (f:=72) rfl ?_);refine goesL_ (some 39) rfl rfl Try.func72 (by kernel_rfl) rfl #[.pointer (some ⟨g,0,none⟩),.int .i64 (x266000_1.length : Int)] rfl zM0 ?_;(with_reducible refine (spec_l01Below.calls g s0_0 t267 t268 (x266000_1.length : Int) t284 t285 t286 w0 _ ?side1 ?side2 A32.out).mono ?_);(case side1 => exact zi0 HI0);(case side2 => exact zj0 HB HI0);rintro e w152 ⟨rfl,hi,hb,hk⟩;refine ⟨_,rfl,?_⟩;replace HO_266000:=Aside0.mk (Kd.R_mono (Kd.R_keep (IsS139.apart (show IsS139 w0 _ g s0_0 t267 t268 from zi0 HI0) (zR0 HO_266000.out) (by decide)) hk (fun _ h => h.2)) (fun _ h => h.1));replace BK264:=zw0 hk BK264 NB264_0;replace BK265:=zw0 hk BK265 NB265_0;replace HK:=zm0 HK hk;replace HB:=Aside0.mk hb;replace HI0:=Aside0.mk hi;(try clear hb);(try clear hk);(try clear hi)) | ((with_reducible refine gate_callee (f:=72) rfl ?_);refine goesL_ (some 41) rfl rfl Try.func72 (by kernel_rfl) rfl #[.pointer (some ⟨g,0,none⟩),.int .i64 40] rfl zM0 ?_;(with_reducible refine (spec_l01Below.calls g s0_0 t285 t286 40 t287 t288 t289 w0 _ ?side1 ?side2 A33.out).mono ?_);(case side1 => exact zi0 HI0);(case side2 => exact zj0 HB HI0);rintro e w153 ⟨rfl,hi,hb,hk⟩;refine ⟨_,rfl,?_⟩;replace HO_266000:=Aside0.mk (Kd.R_mono (Kd.R_keep (IsS139.apart (show IsS139 w0 _ g s0_0 t285 t286 from zi0 HI0) (zR0 HO_266000.out) (by decide)) hk (fun _ h => h.2)) (fun _ h => h.1));replace BK264:=zw0 hk BK264 NB264_0;replace BK265:=zw0 hk BK265 NB265_0;replace HK:=zm0 HK hk;replace HB:=Aside0.mk hb;replace HI0:=Aside0.mk hi;(try clear hb);(try clear hk);(try clear hi);obtain ⟨_,_⟩:=zd01 BK265;obtain ⟨_,_⟩:=zn0 NB264_0;obtain ⟨_,_⟩:=zd01 BK264))
          refine bodyPost_ret (results_cell_row rfl _ _ gb264 30 #[.slice Ao151 x266000_1.length co151] (0,0) _ rfl (by refine zT0 ?_;refine blk_put (cs:=#[.slice none 0 0]) ?_ 0 _ rfl;exact zK0 BK264.out) Try.underlying30 rfl (by kernel_rfl)) rfl ?_
          exact ⟨_,zW0,by refine zV0 ?_;exact Kd.R_mono (Kd.R_far (p:=⟨gb264,0,none⟩) (Kd.R_types HO_266000.out BK264.out (by decide)) (fun _ hk => hk.2) (.slice Ao151 x266000_1.length co151)) (fun _ hk => trivial),zi0 HI0,zj0 HB HI0,zk0 HK⟩

end Go.Proofs.Ytgfacdhkamphiaa.PFnActs
