/- Walks, turned from a print. -/
import Derived.Test.YtgfacdhkamphiaaOFnActsx0
import Derived.Test.YtgfacdhkamphiaaOFnActsx1
namespace Go.Proofs.Ytgfacdhkamphiaa.PFnActs
open Go.RowKit Go.Proofs.YtgfacdhkamphiaaW.PrintWords Go.Proofs.YtgfacdhkamphiaaW.PrintLast Go.Proofs.YtgfacdhkamphiaaW.PrintMore
attribute [local go_sem] max2_int min2_int max_two min_two max_three min_three max_four min_four
set_option linter.unusedVariables false
set_option linter.unusedSimpArgs false

/-! ### impl_File_110: function 110 (a text of its own) -/
def idxFrom {α : Type} (p : α → Bool) : List α → Int → Int
 | [],_ => -1
 | x :: t,i => if p x = true then i else idxFrom p t (i + 1)
theorem idx_step {p : S45 → Bool} {l : List S45} {k : Nat} (h : k < l.length) : idxFrom p (l.drop k) k = if p (rd_T45 l k) = true then (k : Int) else idxFrom p (l.drop (k + 1)) ((k : Int) + 1):=by
 rw [List.drop_eq_getElem_cons h,idxFrom]
 have e : rd_T45 l k = l[k]:=by
  unfold rd_T45
  rw [Int.toNat_natCast,List.getD_eq_getElem?_getD,List.getElem?_eq_getElem h]
  rfl
 rw [e]
set_option maxHeartbeats 8000000 in
set_option maxRecDepth 100000 in
theorem slices_IndexFunc110 (p : S45 → Bool) (g : Nat) (lb : Array Value) (eg : ∀ args w,(callFunc g args).run Try.prog w = .ok (.enter g args) w) (A : Option Addr) (c : Nat) (l0 : List S45) (w : World)
  (hr0 : Kd.C k45 w A l0.length l0)
  (hp : ∀ (W : World) (x : S45),Below w.heap.size w W → Calls Try.prog g (#[.agg #[.string x.f0,.string x.f1,.int .i64 x.f2]] ++ lb) W fun e w' => e = .returned (.bool (p x)) ∧ Below w.heap.size w w') :
  Calls Try.prog 110 #[.slice A l0.length c,.func (.func g) #[] lb] w fun e w' => e = .returned (.int .i64 (idxFrom p l0 0)) ∧ Below w.heap.size w w':=by
 have hu45:=Try.underlying45
 have HR:=Aside0.mk hr0
 have HM:=hr0.2.1
 clear hr0
 go_enter Try.func110,Try.ntmps110
 go_wp2
 go_loopg [5,8] l0.length (fun gg _ s8 wr => ∃ kk : Nat,kk ≤ l0.length ∧ l0.length - kk ≤ gg ∧ s8 = .int .i64 kk ∧ Aside0 (Below w.heap.size w wr) ∧ Aside0 (idxFrom p l0 0 = idxFrom p (l0.drop kk) kk))
 case atStart => exact ⟨0,Nat.zero_le _,by omega,rfl,⟨Below.refl _ w⟩,⟨rfl⟩⟩
 case round =>
  obtain ⟨kk,hkk,hg,rfl,BW,HI⟩:=hrel
  by_cases hlt : kk < l0.length
  ·have hltz : (kk : Int) < (l0.length : Int):=by omega
   have hI:=HI.out
   rw [idx_step hlt] at hI
   clear HI
   obtain ⟨ad,e1,hx0,hx1,hx2⟩:=at_T45 HR.out (kk : Int) (by omega) hltz
   cases e1
   replace hx0:=(BW.out.cell (World.block_lt_of_cell? w _ hx0)).trans hx0
   replace hx1:=(BW.out.cell (World.block_lt_of_cell? w _ hx1)).trans hx1
   replace hx2:=(BW.out.cell (World.block_lt_of_cell? w _ hx2)).trans hx2
   rw [Int.toNat_natCast] at hx0 hx1 hx2
   have hcall:=hp wr (rd_T45 l0 kk) BW.out
   clear hp
   generalize rd_T45 l0 kk = y at hI hx0 hx1 hx2 hcall
   cases hq : p y with
   | true =>
    rw [hq] at hcall hI
    rw [if_pos rfl] at hI
    go_wp2_with (go_at_fn g;refine hcall.mono ?_;rintro e w' ⟨rfl,hb'⟩)
    go_ret
    exact ⟨by first | rfl | (rw [hI];rfl),hb'⟩
   | false =>
    rw [hq] at hcall hI
    rw [if_neg (by decide)] at hI
    have H2:=Aside0.mk hI
    clear hI
    go_wp2_with (go_at_fn g;refine hcall.mono ?_;rintro e w' ⟨rfl,hb'⟩)
    go_roundg (l0.length - (kk + 1))
    case measure => omega
    case rel => exact ⟨kk + 1,by omega,by omega,by go_num,⟨hb'⟩,⟨H2.out⟩⟩
  ·have hltz : ¬ (kk : Int) < (l0.length : Int):=by omega
   have hI:=HI.out
   rw [List.drop_eq_nil_of_le (by omega),idxFrom] at hI
   clear HI
   go_wp2
   go_ret
   exact ⟨by first | rfl | (rw [hI];rfl),BW.out⟩

theorem beq_dec (a b : List UInt8) : (a == b) = decide (a = b):=by
 by_cases h : a = b
 ·subst h;simp
 ·rw [decide_eq_false h];simpa using h

/-! ### impl_fileAt: function 66 (a text of its own) -/
theorem fileAt_pred (name : ByteArray) (B : Nat) (w : World) (hB : B < w.heap.size) (hcell : w.cell? ⟨B,0,none⟩ = some (.string name)) : ∀ (W : World) (x : S45),Below w.heap.size w W →
  Calls Try.prog 111 (#[.agg #[.string x.f0,.string x.f1,.int .i64 x.f2]] ++ #[.pointer (some ⟨B,0,none⟩)]) W fun e w' => e = .returned (.bool (decide (x.f0.toList = name.toList))) ∧ Below w.heap.size w w':=fun W x hb => by
 have hc : W.cell? ⟨B,0,none⟩ = some (.string name):=(hb.cell (p:=⟨B,0,none⟩) hB).trans hcell
 have hBW : B < W.heap.size:=Nat.lt_of_lt_of_le hB hb.size
 have hne : B ≠ W.heap.size:=by omega
 have hu45:=Try.underlying45
 show Calls Try.prog 111 #[.agg #[.string x.f0,.string x.f1,.int .i64 x.f2],.pointer (some ⟨B,0,none⟩)] W _
 go_enter Try.func111,Try.ntmps111
 go_wp2
 all_goals (go_ret;exact ⟨by first | rfl | (simp only [beq_dec];rfl) | simp_all,hb.alloc hb.size _⟩)
def impl_fileAt.f (l0_0 : List S45) (a1 : ByteArray) : Option Int:=some (idxFrom (fun x : S45 => decide (x.f0.toList = a1.toList)) l0_0 0)
set_option maxHeartbeats 8000000 in
set_option maxRecDepth 100000 in
theorem impl_fileAt.calls (A0_0 : Option Addr) (c0_0 : Nat) (l0_0 : List S45) (a1 : ByteArray) (r : Int) (w : World) (hr0_0 : Kd.C k45 w A0_0 l0_0.length l0_0) (hc0_0 : l0_0.length ≤ c0_0) (h : impl_fileAt.f l0_0 a1 = some r) :
  Calls Try.prog 66 #[.agg #[.slice A0_0 l0_0.length c0_0],.string a1] w fun e w' => e = .returned (.int .i64 r) ∧ Below w.heap.size w w':=by
 obtain rfl:=Option.some.inj h
 have hu30:=Try.underlying30
 have eg : ∀ args w,(callFunc 111 args).run Try.prog w = .ok (.enter 111 args) w:=enters_of Try.func111 (by kernel_rfl) rfl
 have hB2 : Below w.heap.size w ((w.alloc (.cells #[.slice A0_0 l0_0.length c0_0] 30)).alloc (.cells #[.string a1] 9)):=below_alloc (below_alloc (Below.refl _ _) _) _
 have hcon:=slices_IndexFunc110 (fun x : S45 => decide (x.f0.toList = a1.toList)) 111 #[.pointer (some ⟨w.heap.size + 1,0,none⟩)] eg A0_0 c0_0 l0_0 ((w.alloc (.cells #[.slice A0_0 l0_0.length c0_0] 30)).alloc (.cells #[.string a1] 9))
  (Kd.C_alloc (Kd.C_alloc hr0_0 _) _) (fileAt_pred a1 (w.heap.size + 1) _ (by simp) (by simp))
 generalize idxFrom (fun x : S45 => decide (x.f0.toList = a1.toList)) l0_0 0 = r at hcon ⊢
 go_enter Try.func66,Try.ntmps66
 go_wp2_with (go_at_call 110;refine hcon.mono ?_;rintro e w' ⟨rfl,hb'⟩)
 go_ret
 exact ⟨rfl,hB2.trans (hb'.mono (by simp;omega))⟩

/-! ### impl_FileAt: function 17 -/
def impl_FileAt.f (l0_0 : List (S45)) (a1 : ByteArray) : Option (ByteArray × Bool):=(impl_fileAt.f l0_0 a1).bind fun t102 => (if t102 < 0 then (some ((⟨#[]⟩ : ByteArray),false)) else (if 0 ≤ t102 then (if t102 < (l0_0.length : Int) then (some ((rd_T45 l0_0 t102).f1,true)) else (none)) else (none)))
set_option maxHeartbeats 8000000 in
set_option maxRecDepth 100000 in
theorem impl_FileAt.calls (A0_0 : Option Addr) (c0_0 : Nat) (l0_0 : List (S45)) (a1 : ByteArray) (r1 : ByteArray) (r2 : Bool) (w : World) (hr0_0 : Kd.C k45 w A0_0 l0_0.length l0_0) (hc0_0 : l0_0.length ≤ c0_0) (h : impl_FileAt.f l0_0 a1 = some (r1,r2)) :
  Calls Try.prog 17 #[.agg #[.slice A0_0 l0_0.length c0_0],.string a1] w fun e w' => e = .returned (.tuple #[.string r1,.bool r2]) ∧ Below w.heap.size w w':=by
 have hu30:=Try.underlying30
 have HR0_0:=Aside0.mk hr0_0
 have HC0_0:=Aside0.mk hc0_0
 clear hr0_0 hc0_0
 have HB:=Aside0.mk (Below.refl w.heap.size w)
 have H : ((impl_fileAt.f l0_0 a1).bind fun t102 => (if t102 < 0 then (some ((⟨#[]⟩ : ByteArray),false)) else (if 0 ≤ t102 then (if t102 < (l0_0.length : Int) then (some ((rd_T45 l0_0 t102).f1,true)) else (none)) else (none)))) = some (r1,r2):=h
 clear h
 obtain ⟨t102,A3,H⟩:=bX0 H
 by_cases c4 : t102 < 0
 ·rw [if_pos c4] at H
  have c4b0 : decide (t102 < 0) = true:=decide_eq_true c4
  clear c4
  simp only [Option.some.injEq,Prod.mk.injEq] at H
  obtain ⟨rfl,rfl⟩:=H
  go_enter Try.func17,Try.ntmps17
  go_wp2_with (first | ((with_reducible refine gate_dst (N:=2) rfl ?_);refine zy0 (cs:=#[.slice A0_0 l0_0.length c0_0]) (t:=30) ?_;intro gb101 hg w5 hbox hb;have BK101:=Aside0.mk hbox;have GW101:=zz0 hg HB;have GE101:=zz0 hg HB;replace HB:=zs0 HB hb;clear hb hbox hg;obtain ⟨_,_⟩:=zd01 BK101) | ((with_reducible refine gate_callee (f:=66) rfl ?_);refine goesL_ (some 9) rfl rfl Try.func66 (by kernel_rfl) rfl #[.agg #[.slice A0_0 l0_0.length c0_0],.string a1] rfl zM0 ?_;(with_reducible refine (impl_fileAt.calls _ _ l0_0 a1 t102 _ ?side1 ?side2 A3.out).mono ?_);(case side1 => exact zA0 ((Kd.C_below HR0_0.out HB.out)));(case side2 => exact HC0_0.out);rintro e w7 ⟨rfl,hb⟩;refine ⟨_,rfl,?_⟩;replace BK101:=zb0 BK101 hb;replace HB:=zs0 HB hb;(try clear hb)))
  go_ret2
  exact ⟨zW0,(zY0 HB.out)⟩
 ·rw [if_neg c4] at H
  have c4b0 : decide (t102 < 0) = false:=decide_eq_false c4
  clear c4
  by_cases c8 : 0 ≤ t102
  ·rw [if_pos c8] at H
   have c8b0 : decide (0 ≤ t102) = true:=decide_eq_true c8
   clear c8
   by_cases c9 : t102 < (l0_0.length : Int)
   ·rw [if_pos c9] at H
    have c9b0 : decide (t102 < (l0_0.length : Int)) = true:=decide_eq_true c9
    clear c9
    simp only [Option.some.injEq,Prod.mk.injEq] at H
    obtain ⟨rfl,rfl⟩:=H
    go_enter Try.func17,Try.ntmps17
    go_wp2_with (first | ((with_reducible refine gate_dst (N:=2) rfl ?_);refine zy0 (cs:=#[.slice A0_0 l0_0.length c0_0]) (t:=30) ?_;intro gb101 hg w10 hbox hb;have BK101:=Aside0.mk hbox;have GW101:=zz0 hg HB;have GE101:=zz0 hg HB;replace HB:=zs0 HB hb;clear hb hbox hg;obtain ⟨_,_⟩:=zd01 BK101) | ((with_reducible refine gate_callee (f:=66) rfl ?_);refine goesL_ (some 9) rfl rfl Try.func66 (by kernel_rfl) rfl #[.agg #[.slice A0_0 l0_0.length c0_0],.string a1] rfl zM0 ?_;(with_reducible refine (impl_fileAt.calls _ _ l0_0 a1 t102 _ ?side1 ?side2 A3.out).mono ?_);(case side1 => exact zA0 ((Kd.C_below HR0_0.out HB.out)));(case side2 => exact HC0_0.out);rintro e w12 ⟨rfl,hb⟩;refine ⟨_,rfl,?_⟩;replace BK101:=zb0 BK101 hb;replace HB:=zs0 HB hb;(try clear hb);obtain ⟨_,_⟩:=zd01 BK101;have p103 : 0 ≤ (t102 : Int):=zD0;have q103 : t102 < (l0_0.length : Int):=zD0;obtain ⟨ad103,e103,hx103_0,hx103_1,hx103_2⟩:=at_T45 HR0_0.out t102 p103 q103;cases e103;replace hx103_0:=zx0 HB hx103_0;replace hx103_1:=zx0 HB hx103_1;replace hx103_2:=zx0 HB hx103_2;replace p103:=eq_true p103;replace q103:=eq_true q103))
    go_ret2
    exact ⟨zW0,(zY0 HB.out)⟩
   ·rw [if_neg c9] at H
    exact absurd H (by simp)
  ·rw [if_neg c8] at H
   exact absurd H (by simp)

/-! ### laws_big: function 21 -/
def laws_big.f (l0 : List Int) : Option (Bool):=some (decide ((l0.length : Int) > 1048576))
set_option maxHeartbeats 8000000 in
set_option maxRecDepth 100000 in
theorem laws_big.calls (A0 : Option Addr) (c0 : Nat) (l0 : List Int) (r : Bool) (w : World) (hr0 : Kd.C (Kd.int .u8) w A0 l0.length l0) (hc0 : l0.length ≤ c0) (h : laws_big.f l0 = some r) :
  Calls Try.prog 21 #[.slice A0 l0.length c0] w fun e w' => e = .returned (.bool r) ∧ Drawn0 w w':=by
 have HR0:=Aside0.mk hr0
 have HC0:=Aside0.mk hc0
 clear hr0 hc0
 have H : (some (decide ((l0.length : Int) > 1048576))) = some r:=h
 clear h
 obtain rfl:=Option.some.inj H
 go_enter Try.func21,Try.ntmps21
 go_wp2
 go_ret
 exact ⟨by first | rfl | (simp;done) | (simp [*];done),by repeat (first | exact Drawn0.refl _ | apply Drawn0.step)⟩

attribute [local go_sem high] eqA45
/-! ### laws_sameDisk: function 26 -/
def laws_sameDisk.l0 : Nat → Int → List (S45) → List (S45) → Option (Bool)
 | 0,_,_,_ => none
 | k + 1,x5,x105000,x106000 => if x5 < (x105000.length : Int) then (if 0 ≤ x5 then (if x5 < (x106000.length : Int) then (if (!((((rd_T45 x105000 x5).f0).toList) == (((rd_T45 x106000 x5).f0).toList)) || (!((((rd_T45 x105000 x5).f1).toList) == (((rd_T45 x106000 x5).f1).toList)) || (!(((rd_T45 x105000 x5).f2) == ((rd_T45 x106000 x5).f2))))) = true then (some false) else (laws_sameDisk.l0 k (wrap64 (x5 + 1)) x105000 x106000)) else (none)) else (none)) else (some true)
def laws_sameDisk.f (k : Nat) (l0_0 : List (S45)) (l1_0 : List (S45)) : Option (Bool):=if (l0_0.length : Int) = (l1_0.length : Int) then (laws_sameDisk.l0 k 0 l0_0 l1_0) else (some false)
theorem laws_sameDisk.mono_l : ∀ k,(∀ y0 y1 y2,LeO (laws_sameDisk.l0 k y0 y1 y2) (laws_sameDisk.l0 (k + 1) y0 y1 y2))
 | 0 => fun _ _ _ r h => by simp [laws_sameDisk.l0] at h
 | k + 1 => by
  have ih0:=laws_sameDisk.mono_l k
  ·intro y0 y1 y2
   unfold laws_sameDisk.l0
   repeat' first
  | (with_reducible exact ih0 _ _ _)
  | (with_reducible exact LeO.refl _)
  | (with_reducible exact LeO.none _)
  | (with_reducible refine LeO.ite ?_ ?_)
  | (with_reducible refine LeO.bind ?_ (fun _ => ?_))
theorem laws_sameDisk.mono : ∀ a0 a1 k,LeO (laws_sameDisk.f k a0 a1) (laws_sameDisk.f (k + 1) a0 a1):=by
 intro a0 a1 k
 have ih0:=laws_sameDisk.mono_l k
 unfold laws_sameDisk.f
 repeat' first
  | (with_reducible exact ih0 _ _ _)
  | (with_reducible exact LeO.refl _)
  | (with_reducible exact LeO.none _)
  | (with_reducible refine LeO.ite ?_ ?_)
  | (with_reducible refine LeO.bind ?_ (fun _ => ?_))
set_option maxHeartbeats 8000000 in
set_option maxRecDepth 100000 in
theorem laws_sameDisk.calls (k : Nat) (A0_0 : Option Addr) (c0_0 : Nat) (l0_0 : List (S45)) (A1_0 : Option Addr) (c1_0 : Nat) (l1_0 : List (S45)) (r : Bool) (w : World) (hr0_0 : Kd.C k45 w A0_0 l0_0.length l0_0) (hc0_0 : l0_0.length ≤ c0_0) (hr1_0 : Kd.C k45 w A1_0 l1_0.length l1_0) (hc1_0 : l1_0.length ≤ c1_0) (h : laws_sameDisk.f k l0_0 l1_0 = some r) :
  Calls Try.prog 26 #[.agg #[.slice A0_0 l0_0.length c0_0],.agg #[.slice A1_0 l1_0.length c1_0]] w fun e w' => e = .returned (.bool r) ∧ Below w.heap.size w w':=by
 have hu30:=Try.underlying30
 have hu45:=Try.underlying45
 have HR0_0:=Aside0.mk hr0_0
 have HC0_0:=Aside0.mk hc0_0
 clear hr0_0 hc0_0
 have HR1_0:=Aside0.mk hr1_0
 have HC1_0:=Aside0.mk hc1_0
 clear hr1_0 hc1_0
 have HB:=Aside0.mk (Below.refl w.heap.size w)
 have H : (if (l0_0.length : Int) = (l1_0.length : Int) then (laws_sameDisk.l0 k 0 l0_0 l1_0) else (some false)) = some r:=h
 clear h
 by_cases c3 : (l0_0.length : Int) = (l1_0.length : Int)
 ·rw [if_pos c3] at H
  have c3b0 : ((l0_0.length : Int) == (l1_0.length : Int)) = true:=beq_iff_eq.mpr c3
  have c3b1 : ((l0_0.length : Int) != (l1_0.length : Int)) = false:=bne_eq_false_iff_eq.mpr c3
  have c3b2 : (l0_0.length == l1_0.length) = true:=by first | simpa using c3 | (simp at c3 ⊢;omega)
  clear c3
  have H':=Aside0.mk H
  clear H
  go_enter Try.func26,Try.ntmps26
  go_wp2_with (first | ((with_reducible refine gate_dst (N:=2) rfl ?_);refine zy0 (cs:=#[.slice A0_0 l0_0.length c0_0]) (t:=30) ?_;intro gb104 hg w4 hbox hb;have BK104:=Aside0.mk hbox;have GW104:=zz0 hg HB;have GE104:=zz0 hg HB;replace HB:=zs0 HB hb;clear hb hbox hg) | ((with_reducible refine gate_dst (N:=3) rfl ?_);refine zy0 (cs:=#[.slice A1_0 l1_0.length c1_0]) (t:=30) ?_;intro gb105 hg w5 hbox hb;have BK105:=Aside0.mk hbox;have GW105:=zz0 hg HB;have GE105:=zz0 hg HB;replace HB:=zs0 HB hb;have NB104_105:=zl0 hg BK104;have NB105_104:=zg0 hg BK104;replace BK104:=zb0 BK104 hb;clear hb hbox hg;obtain ⟨_,_⟩:=zn0 NB104_105;obtain ⟨hcz7_0,hfz7_0⟩:=zd01 BK104;obtain ⟨hcz8_0,hfz8_0⟩:=zd01 BK105))
  repeat (go_quiet (first | ((with_reducible refine gate_dst (N:=2) rfl ?_);refine zy0 (cs:=#[.slice A0_0 l0_0.length c0_0]) (t:=30) ?_;intro gb104 hg w4 hbox hb;have BK104:=Aside0.mk hbox;have GW104:=zz0 hg HB;have GE104:=zz0 hg HB;replace HB:=zs0 HB hb;clear hb hbox hg) | ((with_reducible refine gate_dst (N:=3) rfl ?_);refine zy0 (cs:=#[.slice A1_0 l1_0.length c1_0]) (t:=30) ?_;intro gb105 hg w5 hbox hb;have BK105:=Aside0.mk hbox;have GW105:=zz0 hg HB;have GE105:=zz0 hg HB;replace HB:=zs0 HB hb;have NB104_105:=zl0 hg BK104;have NB105_104:=zg0 hg BK104;replace BK104:=zb0 BK104 hb;clear hb hbox hg;obtain ⟨_,_⟩:=zn0 NB104_105;obtain ⟨hcz7_0,hfz7_0⟩:=zd01 BK104;obtain ⟨hcz8_0,hfz8_0⟩:=zd01 BK105));try go_wp2_with (first | ((with_reducible refine gate_dst (N:=2) rfl ?_);refine zy0 (cs:=#[.slice A0_0 l0_0.length c0_0]) (t:=30) ?_;intro gb104 hg w4 hbox hb;have BK104:=Aside0.mk hbox;have GW104:=zz0 hg HB;have GE104:=zz0 hg HB;replace HB:=zs0 HB hb;clear hb hbox hg) | ((with_reducible refine gate_dst (N:=3) rfl ?_);refine zy0 (cs:=#[.slice A1_0 l1_0.length c1_0]) (t:=30) ?_;intro gb105 hg w5 hbox hb;have BK105:=Aside0.mk hbox;have GW105:=zz0 hg HB;have GE105:=zz0 hg HB;replace HB:=zs0 HB hb;have NB104_105:=zl0 hg BK104;have NB105_104:=zg0 hg BK104;replace BK104:=zb0 BK104 hb;clear hb hbox hg;obtain ⟨_,_⟩:=zn0 NB104_105;obtain ⟨hcz7_0,hfz7_0⟩:=zd01 BK104;obtain ⟨hcz8_0,hfz8_0⟩:=zd01 BK105)))
  go_loopg [5] k (fun kq v5 w' => ∃ (x5_1 : Int),v5 = .int .i64 x5_1 ∧ Aside0 (laws_sameDisk.l0 kq x5_1 l0_0 l1_0 = some r) ∧ Aside0 (kq ≤ k) ∧ Aside0 (w'.heap[gb104]? = some (.cells #[(.slice A0_0 l0_0.length c0_0)] 30 (0,0))) ∧ Aside0 (w'.heap[gb105]? = some (.cells #[(.slice A1_0 l1_0.length c1_0)] 30 (0,0))) ∧ Aside0 (Below w.heap.size w w'))
  case atStart => exact ⟨(0),zE0,H',⟨Nat.le_refl _⟩,⟨zK0 BK104.out⟩,⟨zK0 BK105.out⟩,⟨zY0 HB.out⟩⟩
  case round =>
   clear H'
   try clear c3
   try clear c3b0
   try clear c3b1
   try clear c3b2
   try clear hcz7_0
   try clear hcz8_0
   try clear hfz7_0
   try clear hfz8_0
   obtain ⟨x5_1,rfl,HA,HK1,BK104,BK105,HB⟩:=hrel
   cases gk with
   | zero => exact absurd HA.out (by simp [laws_sameDisk.l0])
   | succ k1 =>
    have H:=HA.out
    clear HA
    simp only [laws_sameDisk.l0] at H
    by_cases c9 : x5_1 < (l0_0.length : Int)
    ·rw [if_pos c9] at H
     have c9b0 : decide (x5_1 < (l0_0.length : Int)) = true:=decide_eq_true c9
     clear c9
     by_cases c10 : 0 ≤ x5_1
     ·rw [if_pos c10] at H
      have c10b0 : decide (0 ≤ x5_1) = true:=decide_eq_true c10
      clear c10
      by_cases c11 : x5_1 < (l1_0.length : Int)
      ·rw [if_pos c11] at H
       have c11b0 : decide (x5_1 < (l1_0.length : Int)) = true:=decide_eq_true c11
       clear c11
       by_cases c12 : (!((((rd_T45 l0_0 x5_1).f0).toList) == (((rd_T45 l1_0 x5_1).f0).toList)) || (!((((rd_T45 l0_0 x5_1).f1).toList) == (((rd_T45 l1_0 x5_1).f1).toList)) || (!(((rd_T45 l0_0 x5_1).f2) == ((rd_T45 l1_0 x5_1).f2))))) = true
       ·rw [if_pos c12] at H
        have c12b0 : (!((((rd_T45 l0_0 x5_1).f0).toList) == (((rd_T45 l1_0 x5_1).f0).toList)) || (!((((rd_T45 l0_0 x5_1).f1).toList) == (((rd_T45 l1_0 x5_1).f1).toList)) || (!(((rd_T45 l0_0 x5_1).f2) == ((rd_T45 l1_0 x5_1).f2))))) = true:=c12
        clear c12
        obtain rfl:=Option.some.inj H
        obtain ⟨_,_⟩:=zn0 NB104_105
        have hcz14_0 : wr.cell? ⟨gb104,0,none⟩ = some (.slice A0_0 l0_0.length c0_0):=zc00 BK104
        have hfz14_0:=blk_frozen BK104.out 0
        have p106 : 0 ≤ (x5_1 : Int):=zD0
        have q106 : x5_1 < (l0_0.length : Int):=zD0
        obtain ⟨ad106,e106,hx106_0,hx106_1,hx106_2⟩:=at_T45 HR0_0.out x5_1 p106 q106
        cases e106
        replace hx106_0:=zx0 HB hx106_0
        replace hx106_1:=zx0 HB hx106_1
        replace hx106_2:=zx0 HB hx106_2
        replace p106:=eq_true p106
        replace q106:=eq_true q106
        have hcz15_0 : wr.cell? ⟨gb105,0,none⟩ = some (.slice A1_0 l1_0.length c1_0):=zc00 BK105
        have hfz15_0:=blk_frozen BK105.out 0
        have p107 : 0 ≤ (x5_1 : Int):=zD0
        have q107 : x5_1 < (l1_0.length : Int):=zD0
        obtain ⟨ad107,e107,hx107_0,hx107_1,hx107_2⟩:=at_T45 HR1_0.out x5_1 p107 q107
        cases e107
        replace hx107_0:=zx0 HB hx107_0
        replace hx107_1:=zx0 HB hx107_1
        replace hx107_2:=zx0 HB hx107_2
        replace p107:=eq_true p107
        replace q107:=eq_true q107
        go_wp2
        repeat (go_quiet (fail);try go_wp2)
        go_ret
        exact ⟨zW0,(zY0 HB.out)⟩
       ·rw [if_neg c12] at H
        have c12b0 : (!((((rd_T45 l0_0 x5_1).f0).toList) == (((rd_T45 l1_0 x5_1).f0).toList)) || (!((((rd_T45 l0_0 x5_1).f1).toList) == (((rd_T45 l1_0 x5_1).f1).toList)) || (!(((rd_T45 l0_0 x5_1).f2) == ((rd_T45 l1_0 x5_1).f2))))) = false:=by simpa using c12
        clear c12
        have H':=Aside0.mk H
        clear H
        obtain ⟨_,_⟩:=zn0 NB104_105
        have hcz17_0 : wr.cell? ⟨gb104,0,none⟩ = some (.slice A0_0 l0_0.length c0_0):=zc00 BK104
        have hfz17_0:=blk_frozen BK104.out 0
        have p106 : 0 ≤ (x5_1 : Int):=zD0
        have q106 : x5_1 < (l0_0.length : Int):=zD0
        obtain ⟨ad106,e106,hx106_0,hx106_1,hx106_2⟩:=at_T45 HR0_0.out x5_1 p106 q106
        cases e106
        replace hx106_0:=zx0 HB hx106_0
        replace hx106_1:=zx0 HB hx106_1
        replace hx106_2:=zx0 HB hx106_2
        replace p106:=eq_true p106
        replace q106:=eq_true q106
        have hcz18_0 : wr.cell? ⟨gb105,0,none⟩ = some (.slice A1_0 l1_0.length c1_0):=zc00 BK105
        have hfz18_0:=blk_frozen BK105.out 0
        have p107 : 0 ≤ (x5_1 : Int):=zD0
        have q107 : x5_1 < (l1_0.length : Int):=zD0
        obtain ⟨ad107,e107,hx107_0,hx107_1,hx107_2⟩:=at_T45 HR1_0.out x5_1 p107 q107
        cases e107
        replace hx107_0:=zx0 HB hx107_0
        replace hx107_1:=zx0 HB hx107_1
        replace hx107_2:=zx0 HB hx107_2
        replace p107:=eq_true p107
        replace q107:=eq_true q107
        go_wp2
        repeat (go_quiet (fail);try go_wp2)
        go_roundg k1
        case measure => have:=HK1.out;omega
        case rel => exact ⟨(wrap64 (x5_1 + 1)),zE0,H',⟨by have:=HK1.out;omega⟩,⟨zK0 BK104.out⟩,⟨zK0 BK105.out⟩,⟨zY0 HB.out⟩⟩
      ·rw [if_neg c11] at H
       exact absurd H (by simp)
     ·rw [if_neg c10] at H
      exact absurd H (by simp)
    ·rw [if_neg c9] at H
     have c9b0 : decide (x5_1 < (l0_0.length : Int)) = false:=decide_eq_false c9
     clear c9
     obtain rfl:=Option.some.inj H
     obtain ⟨_,_⟩:=zn0 NB104_105
     have hcz20_0 : wr.cell? ⟨gb104,0,none⟩ = some (.slice A0_0 l0_0.length c0_0):=zc00 BK104
     have hfz20_0:=blk_frozen BK104.out 0
     go_wp2
     repeat (go_quiet (fail);try go_wp2)
     go_ret
     exact ⟨zW0,(zY0 HB.out)⟩
 ·rw [if_neg c3] at H
  have c3b0 : ((l0_0.length : Int) == (l1_0.length : Int)) = false:=beq_eq_false_iff_ne.mpr c3
  have c3b1 : ((l0_0.length : Int) != (l1_0.length : Int)) = true:=bne_iff_ne.mpr c3
  have c3b2 : (l0_0.length == l1_0.length) = false:=by first | simpa using c3 | (simp at c3 ⊢;omega)
  obtain rfl:=Option.some.inj H
  go_enter Try.func26,Try.ntmps26
  go_wp2_with (first | ((with_reducible refine gate_dst (N:=2) rfl ?_);refine zy0 (cs:=#[.slice A0_0 l0_0.length c0_0]) (t:=30) ?_;intro gb104 hg w21 hbox hb;have BK104:=Aside0.mk hbox;have GW104:=zz0 hg HB;have GE104:=zz0 hg HB;replace HB:=zs0 HB hb;clear hb hbox hg) | ((with_reducible refine gate_dst (N:=3) rfl ?_);refine zy0 (cs:=#[.slice A1_0 l1_0.length c1_0]) (t:=30) ?_;intro gb105 hg w22 hbox hb;have BK105:=Aside0.mk hbox;have GW105:=zz0 hg HB;have GE105:=zz0 hg HB;replace HB:=zs0 HB hb;have NB104_105:=zl0 hg BK104;have NB105_104:=zg0 hg BK104;replace BK104:=zb0 BK104 hb;clear hb hbox hg;obtain ⟨_,_⟩:=zn0 NB104_105;obtain ⟨hcz24_0,hfz24_0⟩:=zd01 BK104;obtain ⟨hcz25_0,hfz25_0⟩:=zd01 BK105))
  repeat (go_quiet (first | ((with_reducible refine gate_dst (N:=2) rfl ?_);refine zy0 (cs:=#[.slice A0_0 l0_0.length c0_0]) (t:=30) ?_;intro gb104 hg w21 hbox hb;have BK104:=Aside0.mk hbox;have GW104:=zz0 hg HB;have GE104:=zz0 hg HB;replace HB:=zs0 HB hb;clear hb hbox hg) | ((with_reducible refine gate_dst (N:=3) rfl ?_);refine zy0 (cs:=#[.slice A1_0 l1_0.length c1_0]) (t:=30) ?_;intro gb105 hg w22 hbox hb;have BK105:=Aside0.mk hbox;have GW105:=zz0 hg HB;have GE105:=zz0 hg HB;replace HB:=zs0 HB hb;have NB104_105:=zl0 hg BK104;have NB105_104:=zg0 hg BK104;replace BK104:=zb0 BK104 hb;clear hb hbox hg;obtain ⟨_,_⟩:=zn0 NB104_105;obtain ⟨hcz24_0,hfz24_0⟩:=zd01 BK104;obtain ⟨hcz25_0,hfz25_0⟩:=zd01 BK105));try go_wp2_with (first | ((with_reducible refine gate_dst (N:=2) rfl ?_);refine zy0 (cs:=#[.slice A0_0 l0_0.length c0_0]) (t:=30) ?_;intro gb104 hg w21 hbox hb;have BK104:=Aside0.mk hbox;have GW104:=zz0 hg HB;have GE104:=zz0 hg HB;replace HB:=zs0 HB hb;clear hb hbox hg) | ((with_reducible refine gate_dst (N:=3) rfl ?_);refine zy0 (cs:=#[.slice A1_0 l1_0.length c1_0]) (t:=30) ?_;intro gb105 hg w22 hbox hb;have BK105:=Aside0.mk hbox;have GW105:=zz0 hg HB;have GE105:=zz0 hg HB;replace HB:=zs0 HB hb;have NB104_105:=zl0 hg BK104;have NB105_104:=zg0 hg BK104;replace BK104:=zb0 BK104 hb;clear hb hbox hg;obtain ⟨_,_⟩:=zn0 NB104_105;obtain ⟨hcz24_0,hfz24_0⟩:=zd01 BK104;obtain ⟨hcz25_0,hfz25_0⟩:=zd01 BK105)))
  go_ret
  exact ⟨zW0,(zY0 HB.out)⟩

/-! ### impl_within: function 78 -/
def impl_within.f (a0 : Int) (a1 : Int) (a2 : Int) : Option (Bool):=if a0 ≥ a1 then (some (decide (a0 ≤ a2))) else (some false)
set_option maxHeartbeats 8000000 in
set_option maxRecDepth 100000 in
theorem impl_within.calls (a0 : Int) (a1 : Int) (a2 : Int) (r : Bool) (w : World) (h : impl_within.f a0 a1 a2 = some r) :
  Calls Try.prog 78 #[.int .i64 a0,.int .i64 a1,.int .i64 a2] w fun e w' => e = .returned (.bool r) ∧ Drawn0 w w':=by
 have H : (if a0 ≥ a1 then (some (decide (a0 ≤ a2))) else (some false)) = some r:=h
 clear h
 by_cases c4 : a0 ≥ a1
 ·rw [if_pos c4] at H
  have c4b0 : decide (a1 ≤ a0) = true:=decide_eq_true c4
  clear c4
  obtain rfl:=Option.some.inj H
  go_enter Try.func78,Try.ntmps78
  go_wp2
  go_ret
  exact ⟨by first | rfl | (simp;done) | (simp [*];done),by repeat (first | exact Drawn0.refl _ | apply Drawn0.step)⟩
 ·rw [if_neg c4] at H
  have c4b0 : decide (a1 ≤ a0) = false:=decide_eq_false c4
  clear c4
  obtain rfl:=Option.some.inj H
  go_enter Try.func78,Try.ntmps78
  go_wp2
  go_ret
  exact ⟨by first | rfl | (simp;done) | (simp [*];done),by repeat (first | exact Drawn0.refl _ | apply Drawn0.step)⟩

end Go.Proofs.Ytgfacdhkamphiaa.PFnActs
