/- Walks, turned from a print. -/
import Derived.Shelf.SortM.Plain
import Derived.Shelf.SortM.SortNone
import Derived.Shelf.SlicesE.DeleteFunc
import Derived.Sort.OwnSortedInts
import Derived.Shelf.Abstract
import Derived.Test.YtlekhcopddajbaaGreatDoorOFnExactSegmentsx0
import Derived.Test.YtlekhcopddajbaaGreatDoorOFnExactSegmentsx10
import Derived.Test.YtlekhcopddajbaaGreatDoorOFnExactSegmentsx12
import Derived.Test.YtlekhcopddajbaaGreatDoorOFnExactSegmentsx13
namespace Go.Proofs.YtlekhcopddajbaaGreatDoor.PFnExactSegments
open Go.RowKit Go.Proofs.YtlekhcopddajbaaGreatDoorW.PrintWords Go.Proofs.YtlekhcopddajbaaGreatDoorW.PrintLast Go.Proofs.YtlekhcopddajbaaGreatDoorW.PrintMore
attribute [local go_sem] max2_int min2_int max_two min_two max_three min_three max_four min_four
set_option linter.unusedVariables false
set_option linter.unusedSimpArgs false

/-! ### impl_vars: function 66 -/
def impl_vars.l0 : Nat → List Int → List Int → Int → Int → Option (ByteArray × Bool)
 | 0,_,_,_,_ => none
 | k + 1,x4,x9,x10,x11 => if x11 < x10 then (if 0 ≤ x11 then (if x11 < (x9.length : Int) then ((impl_VarText.f k (rd x9 x11)).bind fun bt364 => (if bt364.2 = true then (if x4.length + bt364.1.size < 140737488355328 then (impl_vars.l0 k (x4 ++ bytesOf bt364.1) x9 x10 (wrap64 (x11 + 1))) else (none)) else (some ((⟨#[]⟩ : ByteArray),false)))) else (none)) else (none)) else (some (strOfNums x4,true))
def impl_vars.f (k : Nat) (l0 : List Int) : Option (ByteArray × Bool):=impl_vars.l0 k ([] : List Int) l0 (l0.length : Int) 0
theorem impl_vars.mono_l : ∀ k,(∀ y0 y1 y2 y3,LeO (impl_vars.l0 k y0 y1 y2 y3) (impl_vars.l0 (k + 1) y0 y1 y2 y3))
 | 0 => fun _ _ _ _ r h => by simp [impl_vars.l0] at h
 | k + 1 => by
  have ih0:=impl_vars.mono_l k
  ·intro y0 y1 y2 y3
   unfold impl_vars.l0
   repeat' first
  | (with_reducible exact ih0 _ _ _ _)
  | (with_reducible exact impl_VarText.mono _ _)
  | (with_reducible exact LeO.refl _)
  | (with_reducible exact LeO.none _)
  | (with_reducible refine LeO.ite ?_ ?_)
  | (with_reducible refine LeO.bind ?_ (fun _ => ?_))
theorem impl_vars.mono : ∀ a0 k,LeO (impl_vars.f k a0) (impl_vars.f (k + 1) a0):=by
 intro a0 k
 have ih0:=impl_vars.mono_l k
 unfold impl_vars.f
 repeat' first
  | (with_reducible exact ih0 _ _ _ _)
  | (with_reducible exact impl_VarText.mono _ _)
  | (with_reducible exact LeO.refl _)
  | (with_reducible exact LeO.none _)
  | (with_reducible refine LeO.ite ?_ ?_)
  | (with_reducible refine LeO.bind ?_ (fun _ => ?_))
set_option maxHeartbeats 8000000 in
set_option maxRecDepth 100000 in
theorem impl_vars.calls (k : Nat) (A0 : Option Addr) (c0 : Nat) (l0 : List Int) (r1 : ByteArray) (r2 : Bool) (w : World) (hr0 : Kd.C (Kd.int .i64) w A0 l0.length l0) (hc0 : l0.length ≤ c0) (h : impl_vars.f k l0 = some (r1,r2)) :
  Calls Tryz.prog 66 #[.slice A0 l0.length c0] w fun e w' => e = .returned (.tuple #[.string r1,.bool r2]) ∧ Below w.heap.size w w':=by
 have HR0:=Aside0.mk hr0
 have HC0:=Aside0.mk hc0
 clear hr0 hc0
 have HB:=Aside0.mk (Below.refl w.heap.size w)
 have H : (impl_vars.l0 k ([] : List Int) l0 (l0.length : Int) 0) = some (r1,r2):=h
 clear h
 have H':=Aside0.mk H
 clear H
 go_enter Tryz.func66,Tryz.ntmps66
 go_wp2
 go_loopg [4,11] k (fun kq v4 v11 w' => ∃ (x4_1 : List Int) (x11_1 : Int),v11 = .int .i64 x11_1 ∧ Aside0 (impl_vars.l0 kq x4_1 l0 (l0.length : Int) x11_1 = some (r1,r2)) ∧ Aside0 (kq ≤ k) ∧ Aside0 (Kd.R (Kd.int .u8) 5 w' w.heap.size (fun _ => True) v4 x4_1) ∧ Aside0 (Below w.heap.size w w'))
 case atStart => exact ⟨(([] : List Int)),(0),zE0,H',⟨Nat.le_refl _⟩,⟨by first | exact Kd.R_nil _ _ _ _ _ | exact Kd.N_nil _ _ _ _ _ | exact Kd.V_nil _ _ _ _ _ | exact Kd.Q_nil _ _ _ _ _ | exact Kd.S_nil _ _ _ _ _⟩,⟨zY0 HB.out⟩⟩
 case round =>
  clear H'
  obtain ⟨x4_1,x11_1,rfl,HA,HK1,HO_4,HB⟩:=hrel
  cases gk with
  | zero => exact absurd HA.out (by simp [impl_vars.l0])
  | succ k1 =>
   have H:=HA.out
   clear HA
   simp only [impl_vars.l0] at H
   by_cases c2 : x11_1 < (l0.length : Int)
   ·rw [if_pos c2] at H
    have c2b0 : decide (x11_1 < (l0.length : Int)) = true:=decide_eq_true c2
    clear c2
    by_cases c3 : 0 ≤ x11_1
    ·rw [if_pos c3] at H
     have c3b0 : decide (0 ≤ x11_1) = true:=decide_eq_true c3
     clear c3
     by_cases c4 : x11_1 < (l0.length : Int)
     ·rw [if_pos c4] at H
      have c4b0 : decide (x11_1 < (l0.length : Int)) = true:=decide_eq_true c4
      clear c4
      obtain ⟨⟨t364,t365⟩,A5,H⟩:=bX0 H
      dsimp only at H
      by_cases c6 : t365 = true
      ·subst c6
       rw [if_pos rfl] at H
       by_cases c7 : x4_1.length + t364.size < 140737488355328
       ·rw [if_pos c7] at H
        have LMc7:=Aside0.mk c7
        clear c7
        obtain ⟨y366,hy366⟩ : ∃ y_ : List Int,y_ = (x4_1 ++ bytesOf t364):=⟨_,rfl⟩
        replace H : (impl_vars.l0 k1 y366 l0 (l0.length : Int) (wrap64 (x11_1 + 1))) = some (r1,r2):=by first | (rw [hy366];with_reducible exact H) | (have H2_:=(Option.bind_some _ _).symm.trans H;rw [hy366];with_reducible exact H2_) | (have H2_:=(Option.bind_some _ _).symm.trans H;with_reducible exact H2_) | with_reducible exact H | (rw [hy366];exact H) | exact H
        have Ny366:=Aside0.mk hy366
        clear hy366
        have H':=Aside0.mk H
        clear H
        have p363 : 0 ≤ (x11_1 : Int):=zD0
        have q363 : x11_1 < (l0.length : Int):=zD0
        obtain ⟨ad363,e363,hx363_0⟩:=Kd.at_int HR0.out x11_1 p363 q363
        cases e363
        replace hx363_0:=zx0 HB hx363_0
        replace p363:=eq_true p363
        replace q363:=eq_true q363
        go_wp2_with (first | ((with_reducible refine gate_callee (f:=88) rfl ?_);refine goesL_ (some 17) rfl rfl Tryz.func88 (by kernel_rfl) rfl #[.int .i64 (rd l0 x11_1)] rfl zM0 ?_;(with_reducible refine (impl_VarText.calls k1 (rd l0 x11_1) t364 true _ A5.out).mono ?_);rintro e w8 ⟨rfl,hb⟩;refine ⟨_,rfl,?_⟩;replace HO_4:=Aside0.mk (Kd.R_below (zR0 HO_4.out) hb);replace HB:=zs0 HB hb;(try clear hb)) | (at_builtin;refine print_append_str (w0:=w) w.heap.size rfl (.tmp 22) _ 88 9 5 rfl Tryz.underlying88 Tryz.underlying9 info5 u4 x4_1 t364 rfl rfl ?aO ?aB ?aS ?aL ?_;(case aB => exact (zY0 HB.out));(case aO => exact (Kd.own_of_R (zR0 HO_4.out)));(case aS => exact (zZ0 HB.out));(case aL => have:=LMc7.out;omega);intro v367 w9 ho0 hb hg;have ho:=Kd.R_of_own (h1:=fun _ => rfl) (ok:=fun _ => True) ho0 (fun _ _ => trivial);clear ho0;have hat:=True.intro;rw [← Ny366.out] at ho;change Kd.R (Kd.int .u8) 5 w9 w.heap.size (fun _ => True) v367 y366 at ho;replace HB:=Aside0.mk hb;have HO368:=Aside0.mk ho;clear HO_4;clear ho hb hg hat))
        go_roundg k1
        case measure => have:=HK1.out;omega
        case rel => exact ⟨(y366),(wrap64 (x11_1 + 1)),zE0,H',⟨by have:=HK1.out;omega⟩,⟨zR0 HO368.out⟩,⟨zY0 HB.out⟩⟩
       ·rw [if_neg c7] at H
        exact absurd H (by simp)
      ·replace c6:=Bool.eq_false_iff.mpr c6
       subst c6
       rw [if_neg (show ¬ (false = true) by decide)] at H
       simp only [Option.some.injEq,Prod.mk.injEq] at H
       obtain ⟨rfl,rfl⟩:=H
       have p363 : 0 ≤ (x11_1 : Int):=zD0
       have q363 : x11_1 < (l0.length : Int):=zD0
       obtain ⟨ad363,e363,hx363_0⟩:=Kd.at_int HR0.out x11_1 p363 q363
       cases e363
       replace hx363_0:=zx0 HB hx363_0
       replace p363:=eq_true p363
       replace q363:=eq_true q363
       go_wp2_with (first | ((with_reducible refine gate_callee (f:=88) rfl ?_);refine goesL_ (some 17) rfl rfl Tryz.func88 (by kernel_rfl) rfl #[.int .i64 (rd l0 x11_1)] rfl zM0 ?_;(with_reducible refine (impl_VarText.calls k1 (rd l0 x11_1) t364 false _ A5.out).mono ?_);rintro e w10 ⟨rfl,hb⟩;refine ⟨_,rfl,?_⟩;replace HO_4:=Aside0.mk (Kd.R_below (zR0 HO_4.out) hb);replace HB:=zs0 HB hb;(try clear hb)))
       go_ret2
       exact ⟨zW0,(zY0 HB.out)⟩
     ·rw [if_neg c4] at H
      exact absurd H (by simp)
    ·rw [if_neg c3] at H
     exact absurd H (by simp)
   ·rw [if_neg c2] at H
    have c2b0 : decide (x11_1 < (l0.length : Int)) = false:=decide_eq_false c2
    clear c2
    simp only [Option.some.injEq,Prod.mk.injEq] at H
    obtain ⟨rfl,rfl⟩:=H
    have hcv11:=own_string (P:=Tryz.prog) Tryz.underlying88 Tryz.underlying5 Tryz.underlying9 (Kd.own_of_R HO_4.out)
    go_wp2
    go_ret2
    exact ⟨zW0,(zY0 HB.out)⟩

/-! ### impl_HeadText: function 44 -/
def impl_HeadText.j0 : Nat → Int → Int → Bool → Option (ByteArray × Bool)
 | 0,_,_,_ => none
 | k + 1,x0,x1,x16 => if x16 = true then (some ((⟨#[]⟩ : ByteArray),false)) else ((impl_vars.f k (([x0,x1] : List Int))).bind fun bt374 => (if 1 + bt374.1.size ≤ 9223372036854775807 then ((impl_Frame.f k ((⟨#[72]⟩ : ByteArray) ++ bt374.1)).bind fun bt376 => (some (bt376.1,bt376.2))) else (none)))
def impl_HeadText.f (k : Nat) (a0 : Int) (a1 : Int) : Option (ByteArray × Bool):=(impl_within.f a0 0 99).bind fun t369 => (if t369 = true then ((impl_within.f a1 0 a0).bind fun t370 => (impl_HeadText.j0 k a0 a1 (!t370))) else (impl_HeadText.j0 k a0 a1 true))
theorem impl_HeadText.mono_l : ∀ k,(∀ y0 y1 y2,LeO (impl_HeadText.j0 k y0 y1 y2) (impl_HeadText.j0 (k + 1) y0 y1 y2))
 | 0 => fun _ _ _ r h => by simp [impl_HeadText.j0] at h
 | k + 1 => by
  have ih0:=impl_HeadText.mono_l k
  ·intro y0 y1 y2
   unfold impl_HeadText.j0
   repeat' first
  | (with_reducible exact ih0 _ _ _)
  | (with_reducible exact impl_Frame.mono _ _)
  | (with_reducible exact impl_vars.mono _ _)
  | (with_reducible exact LeO.refl _)
  | (with_reducible exact LeO.none _)
  | (with_reducible refine LeO.ite ?_ ?_)
  | (with_reducible refine LeO.bind ?_ (fun _ => ?_))
theorem impl_HeadText.mono : ∀ a0 a1 k,LeO (impl_HeadText.f k a0 a1) (impl_HeadText.f (k + 1) a0 a1):=by
 intro a0 a1 k
 have ih0:=impl_HeadText.mono_l k
 unfold impl_HeadText.f
 repeat' first
  | (with_reducible exact ih0 _ _ _)
  | (with_reducible exact impl_Frame.mono _ _)
  | (with_reducible exact impl_vars.mono _ _)
  | (with_reducible exact LeO.refl _)
  | (with_reducible exact LeO.none _)
  | (with_reducible refine LeO.ite ?_ ?_)
  | (with_reducible refine LeO.bind ?_ (fun _ => ?_))
set_option maxHeartbeats 8000000 in
set_option maxRecDepth 100000 in
theorem impl_HeadText.calls (k : Nat) (a0 : Int) (a1 : Int) (r1 : ByteArray) (r2 : Bool) (w : World) (h : impl_HeadText.f k a0 a1 = some (r1,r2)) :
  Calls Tryz.prog 44 #[.int .i64 a0,.int .i64 a1] w fun e w' => e = .returned (.tuple #[.string r1,.bool r2]) ∧ Below w.heap.size w w':=by
 have HB:=Aside0.mk (Below.refl w.heap.size w)
 have H : ((impl_within.f a0 0 99).bind fun t369 => (if t369 = true then ((impl_within.f a1 0 a0).bind fun t370 => (impl_HeadText.j0 k a0 a1 (!t370))) else (impl_HeadText.j0 k a0 a1 true))) = some (r1,r2):=h
 clear h
 have HC3:=Aside0.mk H
 clear H
 go_enter Tryz.func44,Tryz.ntmps44
 go_upto_region 1 with (fail)
 go_cut [16] (fun v16 wc => ∃ (kq : Nat) (x16_2 : Bool),v16 = .bool x16_2 ∧ Aside0 (impl_HeadText.j0 kq a0 a1 x16_2 = some (r1,r2)) ∧ Aside0 (kq ≤ k) ∧ Aside0 (Below w.heap.size w wc))
 case first =>
  have H:=HC3.out
  clear HC3
  obtain ⟨t369,A4,H⟩:=bX0 H
  by_cases c5 : t369 = true
  ·subst c5
   rw [if_pos rfl] at H
   obtain ⟨t370,A6,H⟩:=bX0 H
   have H':=Aside0.mk H
   clear H
   go_wp2_with (first | ((with_reducible refine gate_callee (f:=38) rfl ?_);refine goesL_ (some 9) rfl rfl Tryz.func38 (by kernel_rfl) rfl #[.int .i64 a0,.int .i64 0,.int .i64 99] rfl zM0 ?_;(with_reducible refine (impl_within.calls a0 0 99 true _ A4.out).mono ?_);rintro e w' ⟨rfl,⟨nd,rfl⟩⟩;refine ⟨_,rfl,?_⟩) | (go_at_call 38;(with_reducible refine (impl_within.calls a1 0 a0 t370 _ A6.out).mono ?_);rintro e w' ⟨rfl,⟨nd,rfl⟩⟩))
   go_meet
   case rel => exact ⟨_,(!t370),zE0,H',⟨by first | omega | exact Nat.le_refl _⟩,⟨zY0 HB.out⟩⟩
  ·replace c5:=Bool.eq_false_iff.mpr c5
   subst c5
   rw [if_neg (show ¬ (false = true) by decide)] at H
   have H':=Aside0.mk H
   clear H
   go_wp2_with (first | ((with_reducible refine gate_callee (f:=38) rfl ?_);refine goesL_ (some 9) rfl rfl Tryz.func38 (by kernel_rfl) rfl #[.int .i64 a0,.int .i64 0,.int .i64 99] rfl zM0 ?_;(with_reducible refine (impl_within.calls a0 0 99 false _ A4.out).mono ?_);rintro e w' ⟨rfl,⟨nd,rfl⟩⟩;refine ⟨_,rfl,?_⟩))
   go_meet
   case rel => exact ⟨_,(true),zE0,H',⟨by first | omega | exact Nat.le_refl _⟩,⟨zY0 HB.out⟩⟩
 case rest =>
  clear HC3
  obtain ⟨kq,x16_2,rfl,HA,HJ2,HB⟩:=hcut
  cases kq with
  | zero => exact absurd HA.out (by simp [impl_HeadText.j0])
  | succ kj2 =>
   have H:=HA.out
   clear HA
   simp only [impl_HeadText.j0] at H
   by_cases c7 : x16_2 = true
   ·subst c7
    rw [if_pos rfl] at H
    simp only [Option.some.injEq,Prod.mk.injEq] at H
    obtain ⟨rfl,rfl⟩:=H
    go_wp2
    go_ret2
    exact ⟨zW0,(zY0 HB.out)⟩
   ·replace c7:=Bool.eq_false_iff.mpr c7
    subst c7
    rw [if_neg (show ¬ (false = true) by decide)] at H
    obtain ⟨y371,hy371⟩ : ∃ y_ : List Int,y_ = (([a0,a1] : List Int)):=⟨_,rfl⟩
    replace H : ((impl_vars.f kj2 y371).bind fun bt374 => (if 1 + bt374.1.size ≤ 9223372036854775807 then ((impl_Frame.f kj2 ((⟨#[72]⟩ : ByteArray) ++ bt374.1)).bind fun bt376 => (some (bt376.1,bt376.2))) else (none))) = some (r1,r2):=by first | (rw [hy371];with_reducible exact H) | (have H2_:=(Option.bind_some _ _).symm.trans H;rw [hy371];with_reducible exact H2_) | (have H2_:=(Option.bind_some _ _).symm.trans H;with_reducible exact H2_) | with_reducible exact H | (rw [hy371];exact H) | exact H
    have Ny371:=Aside0.mk hy371
    clear hy371
    obtain ⟨⟨t374,t375⟩,A8,H⟩:=bX0 H
    dsimp only at H
    by_cases c9 : 1 + t374.size ≤ 9223372036854775807
    ·rw [if_pos c9] at H
     have c9b0:=eq_true c9
     have c9b1 : decide (1 + t374.size ≤ 9223372036854775807) = true:=decide_eq_true c9
     try have c9b2 : (9223372036854775807 < 1 + t374.size) = False:=eq_false (Nat.not_lt.2 c9)
     obtain ⟨⟨t376,t377⟩,A10,H⟩:=bX0 H
     dsimp only at H
     simp only [Option.some.injEq,Prod.mk.injEq] at H
     obtain ⟨rfl,rfl⟩:=H
     go_wp2_with (first | ((with_reducible refine gate_dst (N:=20) rfl ?_);refine Kd.R_lit (Kd.int .i64) _ 3 ?hg (N:=20) ?hd (xs:=([a0,a1] : List Int)) (inner:=[.int .i64 a0,.int .i64 a1]) (ok:=fun _ => True) (okp:=fun _ => True) ?hr ?hp (fun _ hk => hk) trivial (Below.refl _ _) (Nat.le_refl _) (by simp) ?_;(case hd => rfl);(case hg => rfl);(case hr => first | (go_simp;done) | (go_simp;rfl));(case hp => exact (Reps.one (show Kd.M (Kd.int .i64) _ _ _ a0 [.int .i64 a0] from rfl) (Reps.one (show Kd.M (Kd.int .i64) _ _ _ a1 [.int .i64 a1] from rfl) (Reps.none _ _))));intro v372 w11 ho12 hb hg_ hnew_;clear hg_ hnew_;(first | rw [← Ny371.out] at ho12 | (simp only [Int.reduceToNat] at ho12;rw [← Ny371.out] at ho12));have HO373:=Aside0.mk (Kd.R_lower ho12 (zZ0 HB.out));replace HB:=zs0 HB hb;clear hb ho12;obtain ⟨Ao13,co13,eo13⟩:=Kd.R_slice HO373.out;subst eo13) | ((with_reducible refine gate_callee (f:=66) rfl ?_);refine goesL_ (some 21) rfl rfl Tryz.func66 (by kernel_rfl) rfl #[.slice Ao13 y371.length co13] rfl zM0 ?_;(with_reducible refine (impl_vars.calls kj2 _ _ y371 t374 t375 _ ?side1 ?side2 A8.out).mono ?_);(case side1 => exact zA0 ((Kd.R_reads' HO373.out).2.2));(case side2 => exact (Kd.R_reads' HO373.out).2.1);rintro e w14 ⟨rfl,hb⟩;refine ⟨_,rfl,?_⟩;replace HO373:=Aside0.mk (Kd.R_below (zR0 HO373.out) hb);replace HB:=zs0 HB hb;(try clear hb);(try clear hk)) | ((with_reducible refine gate_callee (f:=65) rfl ?_);refine goesL_ (some 26) rfl rfl Tryz.func65 (by kernel_rfl) rfl #[.string ((⟨#[72]⟩ : ByteArray) ++ t374)] rfl zM0 ?_;(with_reducible refine (impl_Frame.calls kj2 ((⟨#[72]⟩ : ByteArray) ++ t374) t376 t377 _ A10.out).mono ?_);rintro e w15 ⟨rfl,hb⟩;refine ⟨_,rfl,?_⟩;replace HO373:=Aside0.mk (Kd.R_below (zR0 HO373.out) hb);replace HB:=zs0 HB hb;(try clear hb);(try clear hk)))
     go_ret2
     exact ⟨zW0,(zY0 HB.out)⟩
    ·rw [if_neg c9] at H
     exact absurd H (by simp)

/-! ### impl_reader_done: function 45 -/
def impl_reader_done.f (s0_0 : ByteArray) (s0_1 : Int) (s0_2 : Bool) : Option (Bool × ByteArray × Int × Bool):=if s0_2 = true then (some (false,s0_0,s0_1,s0_2)) else (some ((s0_1 == (s0_0.size : Int)),s0_0,s0_1,s0_2))
set_option maxHeartbeats 8000000 in
set_option maxRecDepth 100000 in
theorem impl_reader_done.calls (g : Nat) (s0_0 : ByteArray) (s0_1 : Int) (s0_2 : Bool) (r1 : Bool) (r2 : ByteArray) (r3 : Int) (r4 : Bool) (w0 w : World) (hI : IsS78 w0 w g s0_0 s0_1 s0_2) (hB : Below w0.heap.size w0 w) (h : impl_reader_done.f s0_0 s0_1 s0_2 = some (r1,r2,r3,r4)) :
  Calls Tryz.prog 45 #[.pointer (some ⟨g,0,none⟩)] w fun e w' => e = .returned (.bool r1) ∧ IsS78 w0 w' g r2 r3 r4 ∧ Below w0.heap.size w0 w' ∧ KeepBut w w' g none:=by
 have HI0:=Aside0.mk hI
 have HK:=Aside0.mk (KeepBut.refl w g none)
 have HL:=Aside0.mk hB.size
 clear hI
 have HW0:=Aside0.mk hB.size
 have HB:=Aside0.mk hB
 clear hB
 have H : (if s0_2 = true then (some (false,s0_0,s0_1,s0_2)) else (some ((s0_1 == (s0_0.size : Int)),s0_0,s0_1,s0_2))) = some (r1,r2,r3,r4):=h
 clear h
 by_cases c2 : s0_2 = true
 ·subst c2
  rw [if_pos rfl] at H
  simp only [Option.some.injEq,Prod.mk.injEq] at H
  obtain ⟨rfl,rfl,rfl,rfl⟩:=H
  obtain ⟨HGz3,hgz3⟩:=HI0.out
  have hcz3_0:=cellS78_0 HGz3
  have hcz3_1:=cellS78_1 HGz3
  have hcz3_2:=cellS78_2 HGz3
  have hfz3_0:=blk_frozen HGz3 0
  have hfz3_1:=blk_frozen HGz3 1
  have hfz3_2:=blk_frozen HGz3 2
  clear HGz3 hgz3
  go_enter Tryz.func45,Tryz.ntmps45
  go_wp2
  repeat (go_quiet (fail);try go_wp2)
  go_ret
  exact ⟨zW0,zi078 HI0,zj078 HB HI0,zk0 HK⟩
 ·replace c2:=Bool.eq_false_iff.mpr c2
  subst c2
  rw [if_neg (show ¬ (false = true) by decide)] at H
  simp only [Option.some.injEq,Prod.mk.injEq] at H
  obtain ⟨rfl,rfl,rfl,rfl⟩:=H
  obtain ⟨HGz4,hgz4⟩:=HI0.out
  have hcz4_0:=cellS78_0 HGz4
  have hcz4_1:=cellS78_1 HGz4
  have hcz4_2:=cellS78_2 HGz4
  have hfz4_0:=blk_frozen HGz4 0
  have hfz4_1:=blk_frozen HGz4 1
  have hfz4_2:=blk_frozen HGz4 2
  clear HGz4 hgz4
  go_enter Tryz.func45,Tryz.ntmps45
  go_wp2
  repeat (go_quiet (fail);try go_wp2)
  go_ret
  exact ⟨zW0,zi078 HI0,zj078 HB HI0,zk0 HK⟩

/-! ### impl_headOf: function 21 -/
def impl_headOf.f (k : Nat) (a0 : Int) (a1 : ByteArray) : Option (Int × Int × Bool):=(impl_Unframe.f k a1).bind fun bt378 => (if (bt378.1.length : Int) = 0 then (some (0,0,false)) else (if 0 < (bt378.1.length : Int) then ((impl_reader_byte.f (rdOf ByteArray.empty bt378.1 0) 0 false).bind fun bt384 => ((impl_reader_num.f k bt384.2.1 bt384.2.2.1 bt384.2.2.2).bind fun bt388 => ((impl_reader_num.f k bt388.2.1 bt388.2.2.1 bt388.2.2.2).bind fun bt392 => ((impl_HeadText.f k bt388.1 bt392.1).bind fun bt396 => (if bt384.1 = 72 then ((impl_reader_done.f bt392.2.1 bt392.2.2.1 bt392.2.2.2).bind fun bt398 => (if bt398.1 = true then (if bt396.2 = true then (if bt388.1 = a0 then (some (bt392.1,(bt396.1.size : Int),true)) else (some (0,0,false))) else (some (0,0,false))) else (some (0,0,false)))) else (some (0,0,false))))))) else (none)))
theorem impl_headOf.mono : ∀ a0 a1 k,LeO (impl_headOf.f k a0 a1) (impl_headOf.f (k + 1) a0 a1):=by
 intro a0 a1 k
 unfold impl_headOf.f
 repeat' first
  | (with_reducible exact impl_HeadText.mono _ _ _)
  | (with_reducible exact impl_Unframe.mono _ _)
  | (with_reducible exact impl_reader_num.mono _ _ _ _)
  | (with_reducible exact LeO.refl _)
  | (with_reducible exact LeO.none _)
  | (with_reducible refine LeO.ite ?_ ?_)
  | (with_reducible refine LeO.bind ?_ (fun _ => ?_))
set_option maxHeartbeats 8000000 in
set_option maxRecDepth 100000 in
theorem impl_headOf.calls (k : Nat) (a0 : Int) (a1 : ByteArray) (r1 : Int) (r2 : Int) (r3 : Bool) (w : World) (h : impl_headOf.f k a0 a1 = some (r1,r2,r3)) :
  Calls Tryz.prog 21 #[.int .i64 a0,.string a1] w fun e w' => e = .returned (.tuple #[.int .i64 r1,.int .i64 r2,.bool r3]) ∧ Below w.heap.size w w':=by
 have hu78:=Tryz.underlying78
 have HB:=Aside0.mk (Below.refl w.heap.size w)
 have H : ((impl_Unframe.f k a1).bind fun bt378 => (if (bt378.1.length : Int) = 0 then (some (0,0,false)) else (if 0 < (bt378.1.length : Int) then ((impl_reader_byte.f (rdOf ByteArray.empty bt378.1 0) 0 false).bind fun bt384 => ((impl_reader_num.f k bt384.2.1 bt384.2.2.1 bt384.2.2.2).bind fun bt388 => ((impl_reader_num.f k bt388.2.1 bt388.2.2.1 bt388.2.2.2).bind fun bt392 => ((impl_HeadText.f k bt388.1 bt392.1).bind fun bt396 => (if bt384.1 = 72 then ((impl_reader_done.f bt392.2.1 bt392.2.2.1 bt392.2.2.2).bind fun bt398 => (if bt398.1 = true then (if bt396.2 = true then (if bt388.1 = a0 then (some (bt392.1,(bt396.1.size : Int),true)) else (some (0,0,false))) else (some (0,0,false))) else (some (0,0,false)))) else (some (0,0,false))))))) else (none)))) = some (r1,r2,r3):=h
 clear h
 obtain ⟨⟨t378,t379⟩,A3,H⟩:=bX0 H
 dsimp only at H
 by_cases c4 : (t378.length : Int) = 0
 ·rw [if_pos c4] at H
  have c4b0 : ((t378.length : Int) == 0) = true:=beq_iff_eq.mpr c4
  have c4b1 : ((t378.length : Int) != 0) = false:=bne_eq_false_iff_eq.mpr c4
  clear c4
  simp only [Option.some.injEq,Prod.mk.injEq] at H
  obtain ⟨rfl,rfl,rfl⟩:=H
  go_enter Tryz.func21,Tryz.ntmps21
  go_wp2_with (first | ((with_reducible refine gate_callee (f:=41) rfl ?_);refine goesL_ (some 17) rfl rfl Tryz.func41 (by kernel_rfl) rfl #[.string a1] rfl zM0 ?_;(with_reducible refine (impl_Unframe.calls k a1 t378 t379 _ A3.out).mono ?_);rintro e w5 ⟨v380,rfl,ho0,hb⟩;refine ⟨_,rfl,?_⟩;have HO381:=Aside0.mk (Kd.R_lower ho0 (zZ0 HB.out));replace HB:=zs0 HB hb;(try clear hb);(try clear ho0);obtain ⟨Ao6,co6,eo6⟩:=Kd.R_slice HO381.out;subst eo6))
  go_ret3
  exact ⟨zW0,(zY0 HB.out)⟩
 ·rw [if_neg c4] at H
  have c4b0 : ((t378.length : Int) == 0) = false:=beq_eq_false_iff_ne.mpr c4
  have c4b1 : ((t378.length : Int) != 0) = true:=bne_iff_ne.mpr c4
  have c4b2 : ¬ (t378 = []):=fun h_ => c4 (by rw [h_];rfl)
  by_cases c7 : 0 < (t378.length : Int)
  ·rw [if_pos c7] at H
   have c7b0 : decide (0 < (t378.length : Int)) = true:=decide_eq_true c7
   have c7b1 : decide (0 < t378.length) = true:=decide_eq_true (by omega)
   clear c7
   obtain ⟨⟨t384,t385,t386,t387⟩,A8,H⟩:=bX0 H
   dsimp only at H
   obtain ⟨⟨t388,t389,t390,t391⟩,A9,H⟩:=bX0 H
   dsimp only at H
   obtain ⟨⟨t392,t393,t394,t395⟩,A10,H⟩:=bX0 H
   dsimp only at H
   obtain ⟨⟨t396,t397⟩,A11,H⟩:=bX0 H
   dsimp only at H
   by_cases c12 : t384 = 72
   ·rw [if_pos c12] at H
    have c12b0 : (t384 == 72) = true:=beq_iff_eq.mpr c12
    have c12b1 : (t384 != 72) = false:=bne_eq_false_iff_eq.mpr c12
    clear c12
    obtain ⟨⟨t398,t399,t400,t401⟩,A13,H⟩:=bX0 H
    dsimp only at H
    by_cases c14 : t398 = true
    ·subst c14
     rw [if_pos rfl] at H
     by_cases c15 : t397 = true
     ·subst c15
      rw [if_pos rfl] at H
      by_cases c16 : t388 = a0
      ·rw [if_pos c16] at H
       have c16b0 : (t388 == a0) = true:=beq_iff_eq.mpr c16
       have c16b1 : (t388 != a0) = false:=bne_eq_false_iff_eq.mpr c16
       clear c16
       simp only [Option.some.injEq,Prod.mk.injEq] at H
       obtain ⟨rfl,rfl,rfl⟩:=H
       go_enter Tryz.func21,Tryz.ntmps21
       go_wp2_with (first | ((with_reducible refine gate_callee (f:=41) rfl ?_);refine goesL_ (some 17) rfl rfl Tryz.func41 (by kernel_rfl) rfl #[.string a1] rfl zM0 ?_;(with_reducible refine (impl_Unframe.calls k a1 t378 t379 _ A3.out).mono ?_);rintro e w17 ⟨v380,rfl,ho0,hb⟩;refine ⟨_,rfl,?_⟩;have HO381:=Aside0.mk (Kd.R_lower ho0 (zZ0 HB.out));replace HB:=zs0 HB hb;(try clear hb);(try clear ho0);obtain ⟨Ao18,co18,eo18⟩:=Kd.R_slice HO381.out;subst eo18;have p382 : 0 ≤ (0 : Int):=(by omega);have q382 : 0 < (t378.length : Int):=zD0;obtain ⟨ad382,e382,hx382_0⟩:=Kd.at_string (Kd.R_reads' HO381.out).2.2 0 p382 q382;cases e382;have qi382 : (0 < t378.length) = True:=eq_true (by omega);(try rw [show ((0 : Int)).toNat = 0 from rfl] at hx382_0);(try rw [Addr.add_zero'] at hx382_0);replace p382:=eq_true p382;replace q382:=eq_true q382) | ((with_reducible refine gate_dst (N:=27) rfl ?_);refine zy0 (cs:=#[.string (rdOf ByteArray.empty t378 0),.int .i64 0,.bool false]) (t:=78) ?_;intro gb383 hg w19 hbox hb;replace HO381:=Aside0.mk (Kd.R_below (zR0 HO381.out) hb);have HI383:=Aside0.mk ((show IsS78 w w19 gb383 (rdOf ByteArray.empty t378 0) 0 false from ⟨hbox,by rw [hg];exact (zZ0 HB.out)⟩));replace HB:=zs0 HB hb;clear hb hbox hg) | ((with_reducible refine gate_callee (f:=42) rfl ?_);refine goesL_ (some 29) rfl rfl Tryz.func42 (by kernel_rfl) rfl #[.pointer (some ⟨gb383,0,none⟩)] rfl zM0 ?_;(with_reducible refine (impl_reader_byte.calls gb383 (rdOf ByteArray.empty t378 0) 0 false t384 t385 t386 t387 w _ ?side1 ?side2 A8.out).mono ?_);(case side1 => exact zi078 HI383);(case side2 => exact zj078 HB HI383);rintro e w20 ⟨rfl,hi,hb,hk⟩;refine ⟨_,rfl,?_⟩;replace HO381:=Aside0.mk (Kd.R_mono (Kd.R_keep (IsS78.apart (show IsS78 w _ gb383 (rdOf ByteArray.empty t378 0) 0 false from zi078 HI383) (zR0 HO381.out) (by decide)) hk (fun _ h => h.2)) (fun _ h => h.1));replace HB:=Aside0.mk hb;replace HI383:=Aside0.mk hi;(try clear hb);(try clear hk);(try clear hi)) | ((with_reducible refine gate_callee (f:=43) rfl ?_);refine goesL_ (some 31) rfl rfl Tryz.func43 (by kernel_rfl) rfl #[.pointer (some ⟨gb383,0,none⟩)] rfl zM0 ?_;(with_reducible refine (impl_reader_num.calls k gb383 t385 t386 t387 t388 t389 t390 t391 w _ ?side1 ?side2 A9.out).mono ?_);(case side1 => exact zi078 HI383);(case side2 => exact zj078 HB HI383);rintro e w21 ⟨rfl,hi,hb,hk⟩;refine ⟨_,rfl,?_⟩;replace HO381:=Aside0.mk (Kd.R_mono (Kd.R_keep (IsS78.apart (show IsS78 w _ gb383 t385 t386 t387 from zi078 HI383) (zR0 HO381.out) (by decide)) hk (fun _ h => h.2)) (fun _ h => h.1));replace HB:=Aside0.mk hb;replace HI383:=Aside0.mk hi;(try clear hb);(try clear hk);(try clear hi)) | ((with_reducible refine gate_callee (f:=43) rfl ?_);refine goesL_ (some 33) rfl rfl Tryz.func43 (by kernel_rfl) rfl #[.pointer (some ⟨gb383,0,none⟩)] rfl zM0 ?_;(with_reducible refine (impl_reader_num.calls k gb383 t389 t390 t391 t392 t393 t394 t395 w _ ?side1 ?side2 A10.out).mono ?_);(case side1 => exact zi078 HI383);(case side2 => exact zj078 HB HI383);rintro e w22 ⟨rfl,hi,hb,hk⟩;refine ⟨_,rfl,?_⟩;replace HO381:=Aside0.mk (Kd.R_mono (Kd.R_keep (IsS78.apart (show IsS78 w _ gb383 t389 t390 t391 from zi078 HI383) (zR0 HO381.out) (by decide)) hk (fun _ h => h.2)) (fun _ h => h.1));replace HB:=Aside0.mk hb;replace HI383:=Aside0.mk hi;(try clear hb);(try clear hk);(try clear hi)) | ((with_reducible refine gate_callee (f:=44) rfl ?_);refine goesL_ (some 37) rfl rfl Tryz.func44 (by kernel_rfl) rfl #[.int .i64 t388,.int .i64 t392] rfl zM0 ?_;(with_reducible refine (impl_HeadText.calls k t388 t392 t396 true _ A11.out).mono ?_);rintro e w23 ⟨rfl,hb⟩;refine ⟨_,rfl,?_⟩;replace HO381:=Aside0.mk (Kd.R_below (zR0 HO381.out) hb);replace HB:=Aside0.mk (below_step (zj078 HB HI383) hb);replace HI383:=Aside0.mk (IsS78.below (zi078 HI383) hb);(try clear hb);(try clear hk);(try clear hi)) | (go_at_call 45;(with_reducible refine (impl_reader_done.calls gb383 t393 t394 t395 true t399 t400 t401 w _ ?side1 ?side2 A13.out).mono ?_);(case side1 => exact zi078 HI383);(case side2 => exact zj078 HB HI383);rintro e w24 ⟨rfl,hi,hb,hk⟩;replace HO381:=Aside0.mk (Kd.R_mono (Kd.R_keep (IsS78.apart (show IsS78 w _ gb383 t393 t394 t395 from zi078 HI383) (zR0 HO381.out) (by decide)) hk (fun _ h => h.2)) (fun _ h => h.1));replace HB:=Aside0.mk hb;replace HI383:=Aside0.mk hi;(try clear hb);(try clear hk);(try clear hi)))
       go_ret3
       exact ⟨zW0,zj078 HB HI383⟩
      ·rw [if_neg c16] at H
       have c16b0 : (t388 == a0) = false:=beq_eq_false_iff_ne.mpr c16
       have c16b1 : (t388 != a0) = true:=bne_iff_ne.mpr c16
       simp only [Option.some.injEq,Prod.mk.injEq] at H
       obtain ⟨rfl,rfl,rfl⟩:=H
       go_enter Tryz.func21,Tryz.ntmps21
       go_wp2_with (first | ((with_reducible refine gate_callee (f:=41) rfl ?_);refine goesL_ (some 17) rfl rfl Tryz.func41 (by kernel_rfl) rfl #[.string a1] rfl zM0 ?_;(with_reducible refine (impl_Unframe.calls k a1 t378 t379 _ A3.out).mono ?_);rintro e w25 ⟨v380,rfl,ho0,hb⟩;refine ⟨_,rfl,?_⟩;have HO381:=Aside0.mk (Kd.R_lower ho0 (zZ0 HB.out));replace HB:=zs0 HB hb;(try clear hb);(try clear ho0);obtain ⟨Ao26,co26,eo26⟩:=Kd.R_slice HO381.out;subst eo26;have p382 : 0 ≤ (0 : Int):=(by omega);have q382 : 0 < (t378.length : Int):=zD0;obtain ⟨ad382,e382,hx382_0⟩:=Kd.at_string (Kd.R_reads' HO381.out).2.2 0 p382 q382;cases e382;have qi382 : (0 < t378.length) = True:=eq_true (by omega);(try rw [show ((0 : Int)).toNat = 0 from rfl] at hx382_0);(try rw [Addr.add_zero'] at hx382_0);replace p382:=eq_true p382;replace q382:=eq_true q382) | ((with_reducible refine gate_dst (N:=27) rfl ?_);refine zy0 (cs:=#[.string (rdOf ByteArray.empty t378 0),.int .i64 0,.bool false]) (t:=78) ?_;intro gb383 hg w27 hbox hb;replace HO381:=Aside0.mk (Kd.R_below (zR0 HO381.out) hb);have HI383:=Aside0.mk ((show IsS78 w w27 gb383 (rdOf ByteArray.empty t378 0) 0 false from ⟨hbox,by rw [hg];exact (zZ0 HB.out)⟩));replace HB:=zs0 HB hb;clear hb hbox hg) | ((with_reducible refine gate_callee (f:=42) rfl ?_);refine goesL_ (some 29) rfl rfl Tryz.func42 (by kernel_rfl) rfl #[.pointer (some ⟨gb383,0,none⟩)] rfl zM0 ?_;(with_reducible refine (impl_reader_byte.calls gb383 (rdOf ByteArray.empty t378 0) 0 false t384 t385 t386 t387 w _ ?side1 ?side2 A8.out).mono ?_);(case side1 => exact zi078 HI383);(case side2 => exact zj078 HB HI383);rintro e w28 ⟨rfl,hi,hb,hk⟩;refine ⟨_,rfl,?_⟩;replace HO381:=Aside0.mk (Kd.R_mono (Kd.R_keep (IsS78.apart (show IsS78 w _ gb383 (rdOf ByteArray.empty t378 0) 0 false from zi078 HI383) (zR0 HO381.out) (by decide)) hk (fun _ h => h.2)) (fun _ h => h.1));replace HB:=Aside0.mk hb;replace HI383:=Aside0.mk hi;(try clear hb);(try clear hk);(try clear hi)) | ((with_reducible refine gate_callee (f:=43) rfl ?_);refine goesL_ (some 31) rfl rfl Tryz.func43 (by kernel_rfl) rfl #[.pointer (some ⟨gb383,0,none⟩)] rfl zM0 ?_;(with_reducible refine (impl_reader_num.calls k gb383 t385 t386 t387 t388 t389 t390 t391 w _ ?side1 ?side2 A9.out).mono ?_);(case side1 => exact zi078 HI383);(case side2 => exact zj078 HB HI383);rintro e w29 ⟨rfl,hi,hb,hk⟩;refine ⟨_,rfl,?_⟩;replace HO381:=Aside0.mk (Kd.R_mono (Kd.R_keep (IsS78.apart (show IsS78 w _ gb383 t385 t386 t387 from zi078 HI383) (zR0 HO381.out) (by decide)) hk (fun _ h => h.2)) (fun _ h => h.1));replace HB:=Aside0.mk hb;replace HI383:=Aside0.mk hi;(try clear hb);(try clear hk);(try clear hi)) | ((with_reducible refine gate_callee (f:=43) rfl ?_);refine goesL_ (some 33) rfl rfl Tryz.func43 (by kernel_rfl) rfl #[.pointer (some ⟨gb383,0,none⟩)] rfl zM0 ?_;(with_reducible refine (impl_reader_num.calls k gb383 t389 t390 t391 t392 t393 t394 t395 w _ ?side1 ?side2 A10.out).mono ?_);(case side1 => exact zi078 HI383);(case side2 => exact zj078 HB HI383);rintro e w30 ⟨rfl,hi,hb,hk⟩;refine ⟨_,rfl,?_⟩;replace HO381:=Aside0.mk (Kd.R_mono (Kd.R_keep (IsS78.apart (show IsS78 w _ gb383 t389 t390 t391 from zi078 HI383) (zR0 HO381.out) (by decide)) hk (fun _ h => h.2)) (fun _ h => h.1));replace HB:=Aside0.mk hb;replace HI383:=Aside0.mk hi;(try clear hb);(try clear hk);(try clear hi)) | ((with_reducible refine gate_callee (f:=44) rfl ?_);refine goesL_ (some 37) rfl rfl Tryz.func44 (by kernel_rfl) rfl #[.int .i64 t388,.int .i64 t392] rfl zM0 ?_;(with_reducible refine (impl_HeadText.calls k t388 t392 t396 true _ A11.out).mono ?_);rintro e w31 ⟨rfl,hb⟩;refine ⟨_,rfl,?_⟩;replace HO381:=Aside0.mk (Kd.R_below (zR0 HO381.out) hb);replace HB:=Aside0.mk (below_step (zj078 HB HI383) hb);replace HI383:=Aside0.mk (IsS78.below (zi078 HI383) hb);(try clear hb);(try clear hk);(try clear hi)) | (go_at_call 45;(with_reducible refine (impl_reader_done.calls gb383 t393 t394 t395 true t399 t400 t401 w _ ?side1 ?side2 A13.out).mono ?_);(case side1 => exact zi078 HI383);(case side2 => exact zj078 HB HI383);rintro e w32 ⟨rfl,hi,hb,hk⟩;replace HO381:=Aside0.mk (Kd.R_mono (Kd.R_keep (IsS78.apart (show IsS78 w _ gb383 t393 t394 t395 from zi078 HI383) (zR0 HO381.out) (by decide)) hk (fun _ h => h.2)) (fun _ h => h.1));replace HB:=Aside0.mk hb;replace HI383:=Aside0.mk hi;(try clear hb);(try clear hk);(try clear hi)))
       go_ret3
       exact ⟨zW0,zj078 HB HI383⟩
     ·replace c15:=Bool.eq_false_iff.mpr c15
      subst c15
      rw [if_neg (show ¬ (false = true) by decide)] at H
      simp only [Option.some.injEq,Prod.mk.injEq] at H
      obtain ⟨rfl,rfl,rfl⟩:=H
      go_enter Tryz.func21,Tryz.ntmps21
      go_wp2_with (first | ((with_reducible refine gate_callee (f:=41) rfl ?_);refine goesL_ (some 17) rfl rfl Tryz.func41 (by kernel_rfl) rfl #[.string a1] rfl zM0 ?_;(with_reducible refine (impl_Unframe.calls k a1 t378 t379 _ A3.out).mono ?_);rintro e w33 ⟨v380,rfl,ho0,hb⟩;refine ⟨_,rfl,?_⟩;have HO381:=Aside0.mk (Kd.R_lower ho0 (zZ0 HB.out));replace HB:=zs0 HB hb;(try clear hb);(try clear ho0);obtain ⟨Ao34,co34,eo34⟩:=Kd.R_slice HO381.out;subst eo34;have p382 : 0 ≤ (0 : Int):=(by omega);have q382 : 0 < (t378.length : Int):=zD0;obtain ⟨ad382,e382,hx382_0⟩:=Kd.at_string (Kd.R_reads' HO381.out).2.2 0 p382 q382;cases e382;have qi382 : (0 < t378.length) = True:=eq_true (by omega);(try rw [show ((0 : Int)).toNat = 0 from rfl] at hx382_0);(try rw [Addr.add_zero'] at hx382_0);replace p382:=eq_true p382;replace q382:=eq_true q382) | ((with_reducible refine gate_dst (N:=27) rfl ?_);refine zy0 (cs:=#[.string (rdOf ByteArray.empty t378 0),.int .i64 0,.bool false]) (t:=78) ?_;intro gb383 hg w35 hbox hb;replace HO381:=Aside0.mk (Kd.R_below (zR0 HO381.out) hb);have HI383:=Aside0.mk ((show IsS78 w w35 gb383 (rdOf ByteArray.empty t378 0) 0 false from ⟨hbox,by rw [hg];exact (zZ0 HB.out)⟩));replace HB:=zs0 HB hb;clear hb hbox hg) | ((with_reducible refine gate_callee (f:=42) rfl ?_);refine goesL_ (some 29) rfl rfl Tryz.func42 (by kernel_rfl) rfl #[.pointer (some ⟨gb383,0,none⟩)] rfl zM0 ?_;(with_reducible refine (impl_reader_byte.calls gb383 (rdOf ByteArray.empty t378 0) 0 false t384 t385 t386 t387 w _ ?side1 ?side2 A8.out).mono ?_);(case side1 => exact zi078 HI383);(case side2 => exact zj078 HB HI383);rintro e w36 ⟨rfl,hi,hb,hk⟩;refine ⟨_,rfl,?_⟩;replace HO381:=Aside0.mk (Kd.R_mono (Kd.R_keep (IsS78.apart (show IsS78 w _ gb383 (rdOf ByteArray.empty t378 0) 0 false from zi078 HI383) (zR0 HO381.out) (by decide)) hk (fun _ h => h.2)) (fun _ h => h.1));replace HB:=Aside0.mk hb;replace HI383:=Aside0.mk hi;(try clear hb);(try clear hk);(try clear hi)) | ((with_reducible refine gate_callee (f:=43) rfl ?_);refine goesL_ (some 31) rfl rfl Tryz.func43 (by kernel_rfl) rfl #[.pointer (some ⟨gb383,0,none⟩)] rfl zM0 ?_;(with_reducible refine (impl_reader_num.calls k gb383 t385 t386 t387 t388 t389 t390 t391 w _ ?side1 ?side2 A9.out).mono ?_);(case side1 => exact zi078 HI383);(case side2 => exact zj078 HB HI383);rintro e w37 ⟨rfl,hi,hb,hk⟩;refine ⟨_,rfl,?_⟩;replace HO381:=Aside0.mk (Kd.R_mono (Kd.R_keep (IsS78.apart (show IsS78 w _ gb383 t385 t386 t387 from zi078 HI383) (zR0 HO381.out) (by decide)) hk (fun _ h => h.2)) (fun _ h => h.1));replace HB:=Aside0.mk hb;replace HI383:=Aside0.mk hi;(try clear hb);(try clear hk);(try clear hi)) | ((with_reducible refine gate_callee (f:=43) rfl ?_);refine goesL_ (some 33) rfl rfl Tryz.func43 (by kernel_rfl) rfl #[.pointer (some ⟨gb383,0,none⟩)] rfl zM0 ?_;(with_reducible refine (impl_reader_num.calls k gb383 t389 t390 t391 t392 t393 t394 t395 w _ ?side1 ?side2 A10.out).mono ?_);(case side1 => exact zi078 HI383);(case side2 => exact zj078 HB HI383);rintro e w38 ⟨rfl,hi,hb,hk⟩;refine ⟨_,rfl,?_⟩;replace HO381:=Aside0.mk (Kd.R_mono (Kd.R_keep (IsS78.apart (show IsS78 w _ gb383 t389 t390 t391 from zi078 HI383) (zR0 HO381.out) (by decide)) hk (fun _ h => h.2)) (fun _ h => h.1));replace HB:=Aside0.mk hb;replace HI383:=Aside0.mk hi;(try clear hb);(try clear hk);(try clear hi)) | ((with_reducible refine gate_callee (f:=44) rfl ?_);refine goesL_ (some 37) rfl rfl Tryz.func44 (by kernel_rfl) rfl #[.int .i64 t388,.int .i64 t392] rfl zM0 ?_;(with_reducible refine (impl_HeadText.calls k t388 t392 t396 false _ A11.out).mono ?_);rintro e w39 ⟨rfl,hb⟩;refine ⟨_,rfl,?_⟩;replace HO381:=Aside0.mk (Kd.R_below (zR0 HO381.out) hb);replace HB:=Aside0.mk (below_step (zj078 HB HI383) hb);replace HI383:=Aside0.mk (IsS78.below (zi078 HI383) hb);(try clear hb);(try clear hk);(try clear hi)) | (go_at_call 45;(with_reducible refine (impl_reader_done.calls gb383 t393 t394 t395 true t399 t400 t401 w _ ?side1 ?side2 A13.out).mono ?_);(case side1 => exact zi078 HI383);(case side2 => exact zj078 HB HI383);rintro e w40 ⟨rfl,hi,hb,hk⟩;replace HO381:=Aside0.mk (Kd.R_mono (Kd.R_keep (IsS78.apart (show IsS78 w _ gb383 t393 t394 t395 from zi078 HI383) (zR0 HO381.out) (by decide)) hk (fun _ h => h.2)) (fun _ h => h.1));replace HB:=Aside0.mk hb;replace HI383:=Aside0.mk hi;(try clear hb);(try clear hk);(try clear hi)))
      go_ret3
      exact ⟨zW0,zj078 HB HI383⟩
    ·replace c14:=Bool.eq_false_iff.mpr c14
     subst c14
     rw [if_neg (show ¬ (false = true) by decide)] at H
     simp only [Option.some.injEq,Prod.mk.injEq] at H
     obtain ⟨rfl,rfl,rfl⟩:=H
     go_enter Tryz.func21,Tryz.ntmps21
     go_wp2_with (first | ((with_reducible refine gate_callee (f:=41) rfl ?_);refine goesL_ (some 17) rfl rfl Tryz.func41 (by kernel_rfl) rfl #[.string a1] rfl zM0 ?_;(with_reducible refine (impl_Unframe.calls k a1 t378 t379 _ A3.out).mono ?_);rintro e w41 ⟨v380,rfl,ho0,hb⟩;refine ⟨_,rfl,?_⟩;have HO381:=Aside0.mk (Kd.R_lower ho0 (zZ0 HB.out));replace HB:=zs0 HB hb;(try clear hb);(try clear ho0);obtain ⟨Ao42,co42,eo42⟩:=Kd.R_slice HO381.out;subst eo42;have p382 : 0 ≤ (0 : Int):=(by omega);have q382 : 0 < (t378.length : Int):=zD0;obtain ⟨ad382,e382,hx382_0⟩:=Kd.at_string (Kd.R_reads' HO381.out).2.2 0 p382 q382;cases e382;have qi382 : (0 < t378.length) = True:=eq_true (by omega);(try rw [show ((0 : Int)).toNat = 0 from rfl] at hx382_0);(try rw [Addr.add_zero'] at hx382_0);replace p382:=eq_true p382;replace q382:=eq_true q382) | ((with_reducible refine gate_dst (N:=27) rfl ?_);refine zy0 (cs:=#[.string (rdOf ByteArray.empty t378 0),.int .i64 0,.bool false]) (t:=78) ?_;intro gb383 hg w43 hbox hb;replace HO381:=Aside0.mk (Kd.R_below (zR0 HO381.out) hb);have HI383:=Aside0.mk ((show IsS78 w w43 gb383 (rdOf ByteArray.empty t378 0) 0 false from ⟨hbox,by rw [hg];exact (zZ0 HB.out)⟩));replace HB:=zs0 HB hb;clear hb hbox hg) | ((with_reducible refine gate_callee (f:=42) rfl ?_);refine goesL_ (some 29) rfl rfl Tryz.func42 (by kernel_rfl) rfl #[.pointer (some ⟨gb383,0,none⟩)] rfl zM0 ?_;(with_reducible refine (impl_reader_byte.calls gb383 (rdOf ByteArray.empty t378 0) 0 false t384 t385 t386 t387 w _ ?side1 ?side2 A8.out).mono ?_);(case side1 => exact zi078 HI383);(case side2 => exact zj078 HB HI383);rintro e w44 ⟨rfl,hi,hb,hk⟩;refine ⟨_,rfl,?_⟩;replace HO381:=Aside0.mk (Kd.R_mono (Kd.R_keep (IsS78.apart (show IsS78 w _ gb383 (rdOf ByteArray.empty t378 0) 0 false from zi078 HI383) (zR0 HO381.out) (by decide)) hk (fun _ h => h.2)) (fun _ h => h.1));replace HB:=Aside0.mk hb;replace HI383:=Aside0.mk hi;(try clear hb);(try clear hk);(try clear hi)) | ((with_reducible refine gate_callee (f:=43) rfl ?_);refine goesL_ (some 31) rfl rfl Tryz.func43 (by kernel_rfl) rfl #[.pointer (some ⟨gb383,0,none⟩)] rfl zM0 ?_;(with_reducible refine (impl_reader_num.calls k gb383 t385 t386 t387 t388 t389 t390 t391 w _ ?side1 ?side2 A9.out).mono ?_);(case side1 => exact zi078 HI383);(case side2 => exact zj078 HB HI383);rintro e w45 ⟨rfl,hi,hb,hk⟩;refine ⟨_,rfl,?_⟩;replace HO381:=Aside0.mk (Kd.R_mono (Kd.R_keep (IsS78.apart (show IsS78 w _ gb383 t385 t386 t387 from zi078 HI383) (zR0 HO381.out) (by decide)) hk (fun _ h => h.2)) (fun _ h => h.1));replace HB:=Aside0.mk hb;replace HI383:=Aside0.mk hi;(try clear hb);(try clear hk);(try clear hi)) | ((with_reducible refine gate_callee (f:=43) rfl ?_);refine goesL_ (some 33) rfl rfl Tryz.func43 (by kernel_rfl) rfl #[.pointer (some ⟨gb383,0,none⟩)] rfl zM0 ?_;(with_reducible refine (impl_reader_num.calls k gb383 t389 t390 t391 t392 t393 t394 t395 w _ ?side1 ?side2 A10.out).mono ?_);(case side1 => exact zi078 HI383);(case side2 => exact zj078 HB HI383);rintro e w46 ⟨rfl,hi,hb,hk⟩;refine ⟨_,rfl,?_⟩;replace HO381:=Aside0.mk (Kd.R_mono (Kd.R_keep (IsS78.apart (show IsS78 w _ gb383 t389 t390 t391 from zi078 HI383) (zR0 HO381.out) (by decide)) hk (fun _ h => h.2)) (fun _ h => h.1));replace HB:=Aside0.mk hb;replace HI383:=Aside0.mk hi;(try clear hb);(try clear hk);(try clear hi)) | ((with_reducible refine gate_callee (f:=44) rfl ?_);refine goesL_ (some 37) rfl rfl Tryz.func44 (by kernel_rfl) rfl #[.int .i64 t388,.int .i64 t392] rfl zM0 ?_;(with_reducible refine (impl_HeadText.calls k t388 t392 t396 t397 _ A11.out).mono ?_);rintro e w47 ⟨rfl,hb⟩;refine ⟨_,rfl,?_⟩;replace HO381:=Aside0.mk (Kd.R_below (zR0 HO381.out) hb);replace HB:=Aside0.mk (below_step (zj078 HB HI383) hb);replace HI383:=Aside0.mk (IsS78.below (zi078 HI383) hb);(try clear hb);(try clear hk);(try clear hi)) | (go_at_call 45;(with_reducible refine (impl_reader_done.calls gb383 t393 t394 t395 false t399 t400 t401 w _ ?side1 ?side2 A13.out).mono ?_);(case side1 => exact zi078 HI383);(case side2 => exact zj078 HB HI383);rintro e w48 ⟨rfl,hi,hb,hk⟩;replace HO381:=Aside0.mk (Kd.R_mono (Kd.R_keep (IsS78.apart (show IsS78 w _ gb383 t393 t394 t395 from zi078 HI383) (zR0 HO381.out) (by decide)) hk (fun _ h => h.2)) (fun _ h => h.1));replace HB:=Aside0.mk hb;replace HI383:=Aside0.mk hi;(try clear hb);(try clear hk);(try clear hi)))
     go_ret3
     exact ⟨zW0,zj078 HB HI383⟩
   ·rw [if_neg c12] at H
    have c12b0 : (t384 == 72) = false:=beq_eq_false_iff_ne.mpr c12
    have c12b1 : (t384 != 72) = true:=bne_iff_ne.mpr c12
    simp only [Option.some.injEq,Prod.mk.injEq] at H
    obtain ⟨rfl,rfl,rfl⟩:=H
    go_enter Tryz.func21,Tryz.ntmps21
    go_wp2_with (first | ((with_reducible refine gate_callee (f:=41) rfl ?_);refine goesL_ (some 17) rfl rfl Tryz.func41 (by kernel_rfl) rfl #[.string a1] rfl zM0 ?_;(with_reducible refine (impl_Unframe.calls k a1 t378 t379 _ A3.out).mono ?_);rintro e w49 ⟨v380,rfl,ho0,hb⟩;refine ⟨_,rfl,?_⟩;have HO381:=Aside0.mk (Kd.R_lower ho0 (zZ0 HB.out));replace HB:=zs0 HB hb;(try clear hb);(try clear ho0);obtain ⟨Ao50,co50,eo50⟩:=Kd.R_slice HO381.out;subst eo50;have p382 : 0 ≤ (0 : Int):=(by omega);have q382 : 0 < (t378.length : Int):=zD0;obtain ⟨ad382,e382,hx382_0⟩:=Kd.at_string (Kd.R_reads' HO381.out).2.2 0 p382 q382;cases e382;have qi382 : (0 < t378.length) = True:=eq_true (by omega);(try rw [show ((0 : Int)).toNat = 0 from rfl] at hx382_0);(try rw [Addr.add_zero'] at hx382_0);replace p382:=eq_true p382;replace q382:=eq_true q382) | ((with_reducible refine gate_dst (N:=27) rfl ?_);refine zy0 (cs:=#[.string (rdOf ByteArray.empty t378 0),.int .i64 0,.bool false]) (t:=78) ?_;intro gb383 hg w51 hbox hb;replace HO381:=Aside0.mk (Kd.R_below (zR0 HO381.out) hb);have HI383:=Aside0.mk ((show IsS78 w w51 gb383 (rdOf ByteArray.empty t378 0) 0 false from ⟨hbox,by rw [hg];exact (zZ0 HB.out)⟩));replace HB:=zs0 HB hb;clear hb hbox hg) | ((with_reducible refine gate_callee (f:=42) rfl ?_);refine goesL_ (some 29) rfl rfl Tryz.func42 (by kernel_rfl) rfl #[.pointer (some ⟨gb383,0,none⟩)] rfl zM0 ?_;(with_reducible refine (impl_reader_byte.calls gb383 (rdOf ByteArray.empty t378 0) 0 false t384 t385 t386 t387 w _ ?side1 ?side2 A8.out).mono ?_);(case side1 => exact zi078 HI383);(case side2 => exact zj078 HB HI383);rintro e w52 ⟨rfl,hi,hb,hk⟩;refine ⟨_,rfl,?_⟩;replace HO381:=Aside0.mk (Kd.R_mono (Kd.R_keep (IsS78.apart (show IsS78 w _ gb383 (rdOf ByteArray.empty t378 0) 0 false from zi078 HI383) (zR0 HO381.out) (by decide)) hk (fun _ h => h.2)) (fun _ h => h.1));replace HB:=Aside0.mk hb;replace HI383:=Aside0.mk hi;(try clear hb);(try clear hk);(try clear hi)) | ((with_reducible refine gate_callee (f:=43) rfl ?_);refine goesL_ (some 31) rfl rfl Tryz.func43 (by kernel_rfl) rfl #[.pointer (some ⟨gb383,0,none⟩)] rfl zM0 ?_;(with_reducible refine (impl_reader_num.calls k gb383 t385 t386 t387 t388 t389 t390 t391 w _ ?side1 ?side2 A9.out).mono ?_);(case side1 => exact zi078 HI383);(case side2 => exact zj078 HB HI383);rintro e w53 ⟨rfl,hi,hb,hk⟩;refine ⟨_,rfl,?_⟩;replace HO381:=Aside0.mk (Kd.R_mono (Kd.R_keep (IsS78.apart (show IsS78 w _ gb383 t385 t386 t387 from zi078 HI383) (zR0 HO381.out) (by decide)) hk (fun _ h => h.2)) (fun _ h => h.1));replace HB:=Aside0.mk hb;replace HI383:=Aside0.mk hi;(try clear hb);(try clear hk);(try clear hi)) | ((with_reducible refine gate_callee (f:=43) rfl ?_);refine goesL_ (some 33) rfl rfl Tryz.func43 (by kernel_rfl) rfl #[.pointer (some ⟨gb383,0,none⟩)] rfl zM0 ?_;(with_reducible refine (impl_reader_num.calls k gb383 t389 t390 t391 t392 t393 t394 t395 w _ ?side1 ?side2 A10.out).mono ?_);(case side1 => exact zi078 HI383);(case side2 => exact zj078 HB HI383);rintro e w54 ⟨rfl,hi,hb,hk⟩;refine ⟨_,rfl,?_⟩;replace HO381:=Aside0.mk (Kd.R_mono (Kd.R_keep (IsS78.apart (show IsS78 w _ gb383 t389 t390 t391 from zi078 HI383) (zR0 HO381.out) (by decide)) hk (fun _ h => h.2)) (fun _ h => h.1));replace HB:=Aside0.mk hb;replace HI383:=Aside0.mk hi;(try clear hb);(try clear hk);(try clear hi)) | ((with_reducible refine gate_callee (f:=44) rfl ?_);refine goesL_ (some 37) rfl rfl Tryz.func44 (by kernel_rfl) rfl #[.int .i64 t388,.int .i64 t392] rfl zM0 ?_;(with_reducible refine (impl_HeadText.calls k t388 t392 t396 t397 _ A11.out).mono ?_);rintro e w55 ⟨rfl,hb⟩;refine ⟨_,rfl,?_⟩;replace HO381:=Aside0.mk (Kd.R_below (zR0 HO381.out) hb);replace HB:=Aside0.mk (below_step (zj078 HB HI383) hb);replace HI383:=Aside0.mk (IsS78.below (zi078 HI383) hb);(try clear hb);(try clear hk);(try clear hi)))
    go_ret3
    exact ⟨zW0,zj078 HB HI383⟩
  ·rw [if_neg c7] at H
   exact absurd H (by simp)

/-! ### cmp_isNaN_int: function 95 -/
def cmp_isNaN_int.f (a0 : Int) : Option (Bool):=some (a0 != a0)
set_option maxHeartbeats 8000000 in
set_option maxRecDepth 100000 in
theorem cmp_isNaN_int.calls (a0 : Int) (r : Bool) (w : World) (h : cmp_isNaN_int.f a0 = some r) :
  Calls Tryz.prog 95 #[.int .i64 a0] w fun e w' => e = .returned (.bool r) ∧ Drawn0 w w':=by
 have H : (some (a0 != a0)) = some r:=h
 clear h
 obtain rfl:=Option.some.inj H
 go_enter Tryz.func95,Tryz.ntmps95
 go_wp2
 go_ret
 exact ⟨by first | rfl | (simp;done) | (simp [*];done),by repeat (first | exact Drawn0.refl _ | apply Drawn0.step)⟩

/-! ### cmp_Less_int: function 73 -/
def cmp_Less_int.f (a0 : Int) (a1 : Int) : Option (Bool):=(cmp_isNaN_int.f a0).bind fun t402 => (if t402 = true then ((cmp_isNaN_int.f a1).bind fun t403 => (if t403 = true then (some (decide (a0 < a1))) else (some true))) else (some (decide (a0 < a1))))
set_option maxHeartbeats 8000000 in
set_option maxRecDepth 100000 in
theorem cmp_Less_int.calls (a0 : Int) (a1 : Int) (r : Bool) (w : World) (h : cmp_Less_int.f a0 a1 = some r) :
  Calls Tryz.prog 73 #[.int .i64 a0,.int .i64 a1] w fun e w' => e = .returned (.bool r) ∧ Drawn0 w w':=by
 have H : ((cmp_isNaN_int.f a0).bind fun t402 => (if t402 = true then ((cmp_isNaN_int.f a1).bind fun t403 => (if t403 = true then (some (decide (a0 < a1))) else (some true))) else (some (decide (a0 < a1))))) = some r:=h
 clear h
 obtain ⟨t402,A3,H⟩:=bX0 H
 by_cases c4 : t402 = true
 ·subst c4
  rw [if_pos rfl] at H
  obtain ⟨t403,A5,H⟩:=bX0 H
  by_cases c6 : t403 = true
  ·subst c6
   rw [if_pos rfl] at H
   obtain rfl:=Option.some.inj H
   go_enter Tryz.func73,Tryz.ntmps73
   go_wp2_with (first | ((with_reducible refine gate_callee (f:=95) rfl ?_);refine goesL_ (some 6) rfl rfl Tryz.func95 (by kernel_rfl) rfl #[.int .i64 a0] rfl zM0 ?_;(with_reducible refine (cmp_isNaN_int.calls a0 true _ A3.out).mono ?_);rintro e w' ⟨rfl,⟨nd,rfl⟩⟩;refine ⟨_,rfl,?_⟩) | (go_at_call 95;(with_reducible refine (cmp_isNaN_int.calls a1 true _ A5.out).mono ?_);rintro e w' ⟨rfl,⟨nd,rfl⟩⟩))
   go_ret
   exact ⟨by first | rfl | (simp;done) | (simp [*];done),by repeat (first | exact Drawn0.refl _ | apply Drawn0.step)⟩
  ·replace c6:=Bool.eq_false_iff.mpr c6
   subst c6
   rw [if_neg (show ¬ (false = true) by decide)] at H
   obtain rfl:=Option.some.inj H
   go_enter Tryz.func73,Tryz.ntmps73
   go_wp2_with (first | ((with_reducible refine gate_callee (f:=95) rfl ?_);refine goesL_ (some 6) rfl rfl Tryz.func95 (by kernel_rfl) rfl #[.int .i64 a0] rfl zM0 ?_;(with_reducible refine (cmp_isNaN_int.calls a0 true _ A3.out).mono ?_);rintro e w' ⟨rfl,⟨nd,rfl⟩⟩;refine ⟨_,rfl,?_⟩) | (go_at_call 95;(with_reducible refine (cmp_isNaN_int.calls a1 false _ A5.out).mono ?_);rintro e w' ⟨rfl,⟨nd,rfl⟩⟩))
   go_ret
   exact ⟨by first | rfl | (simp;done) | (simp [*];done),by repeat (first | exact Drawn0.refl _ | apply Drawn0.step)⟩
 ·replace c4:=Bool.eq_false_iff.mpr c4
  subst c4
  rw [if_neg (show ¬ (false = true) by decide)] at H
  obtain rfl:=Option.some.inj H
  go_enter Tryz.func73,Tryz.ntmps73
  go_wp2_with (first | ((with_reducible refine gate_callee (f:=95) rfl ?_);refine goesL_ (some 6) rfl rfl Tryz.func95 (by kernel_rfl) rfl #[.int .i64 a0] rfl zM0 ?_;(with_reducible refine (cmp_isNaN_int.calls a0 false _ A3.out).mono ?_);rintro e w' ⟨rfl,⟨nd,rfl⟩⟩;refine ⟨_,rfl,?_⟩))
  go_ret
  exact ⟨by first | rfl | (simp;done) | (simp [*];done),by repeat (first | exact Drawn0.refl _ | apply Drawn0.step)⟩

-- NOT PRINTED: function 92 (slices_xorshift_Next)

/-! ### slices_Sort_int_int: function 22 (a text of its own) -/
/-- What stands of a row of whole numbers whose first cells were written anew. -/
theorem R_putI {w0 w : World} {P_ : Nat → Prop} {g cap n : Nat} {os : Array Obj} {cur : Array Value} {d r : List Int} (hB : Below w0.heap.size w0 w) (hg : w0.heap.size ≤ g) (hok : P_ g) (hh : w.heap[g]? = some (.cells cur 3 (0,0))) (hcs : cur.size = cap * 1) (hcm : cap ≤ maxLen) (hd : d.length ≤ cap) (hrd : r.length ≤ d.length) (hr : d.take r.length = r) :
  Kd.R (Kd.int .i64) 3 (Sort.grow (Sort.putRow (Value.int .i64) (Sort.ahead w n) g 0 d.toArray) os) w0.heap.size (fun k_ => (P_ k_ ∨ w.heap.size ≤ k_)) (.slice (some ⟨g,0,none⟩) r.length cap) r ∧
   Below w0.heap.size w0 (Sort.grow (Sort.putRow (Value.int .i64) (Sort.ahead w n) g 0 d.toArray) os) ∧ Kept w (Sort.grow (Sort.putRow (Value.int .i64) (Sort.ahead w n) g 0 d.toArray) os) (fun k_ => P_ k_):=by
 have hgl : g < w.heap.size:=blk_lt hh
 have hW : (Sort.grow (Sort.putRow (Value.int .i64) (Sort.ahead w n) g 0 d.toArray) os).heap[g]? = some (.cells (Sort.putCells (Value.int .i64) 0 d.toArray cur) 3 (0,0)):=by
  have e : (Sort.grow (Sort.putRow (Value.int .i64) (Sort.ahead w n) g 0 d.toArray) os).heap[g]? = (Sort.putRow (Value.int .i64) (Sort.ahead w n) g 0 d.toArray).heap[g]?:=by
   show ((Sort.putRow (Value.int .i64) (Sort.ahead w n) g 0 d.toArray).heap ++ os)[g]? = _
   exact Array.getElem?_append_left (by simpa [Sort.putRow,Sort.mapBlock,Sort.ahead] using hgl)
  rw [e]
  simp [Sort.putRow,Sort.mapBlock,Sort.ahead,Array.getElem?_modify,hh,Sort.onCells]
 have hot : ∀ k,k < w.heap.size → k ≠ g → (Sort.grow (Sort.putRow (Value.int .i64) (Sort.ahead w n) g 0 d.toArray) os).heap[k]? = w.heap[k]?:=fun k hk hne => by
  have e : (Sort.grow (Sort.putRow (Value.int .i64) (Sort.ahead w n) g 0 d.toArray) os).heap[k]? = (Sort.putRow (Value.int .i64) (Sort.ahead w n) g 0 d.toArray).heap[k]?:=by
   show ((Sort.putRow (Value.int .i64) (Sort.ahead w n) g 0 d.toArray).heap ++ os)[k]? = _
   exact Array.getElem?_append_left (by simpa [Sort.putRow,Sort.mapBlock,Sort.ahead] using hk)
  rw [e]
  have : g ≠ k:=fun e => hne e.symm
  simp [Sort.putRow,Sort.mapBlock,Sort.ahead,Array.getElem?_modify,this]
 have hsz : w.heap.size ≤ (Sort.grow (Sort.putRow (Value.int .i64) (Sort.ahead w n) g 0 d.toArray) os).heap.size:=by
  simp [Sort.grow,Sort.putRow,Sort.mapBlock,Sort.ahead]
 have ht : (Sort.putCells (Value.int .i64) 0 d.toArray cur).toList.take r.length = r.map (Value.int .i64):=by
  have e : r.map (Value.int .i64) = (d.map (Value.int .i64)).take r.length:=by rw [← List.map_take,hr]
  rw [e]
  apply List.ext_getElem?
  intro j
  rw [List.getElem?_take,List.getElem?_take]
  by_cases hj : j < r.length
  ·rw [if_pos hj,if_pos hj,Array.getElem?_toList]
   simp [Sort.putCells,show j < d.length by omega,show j < cur.size by omega]
  ·rw [if_neg hj,if_neg hj]
 refine ⟨Kd.R_of_own (enc:=Value.int .i64) (h1:=fun _ => rfl) ⟨by simp [encs],.inr ⟨g,cap,_,rfl,hg,hW,by omega,hcm,by simp [Sort.putCells,hcs],by simpa [encs] using ht⟩⟩ (fun k hk => .inl (by injection hk with hk;subst hk;exact hok)),⟨hB.os,hB.tape,hB.output,Nat.le_trans hB.size hsz,fun k hk => ?_⟩,hsz,fun k hk hn => hot k hk (fun e => hn (by rw [e];exact hok))⟩
 rw [hot k (Nat.lt_of_lt_of_le hk hB.size) (by omega)]
 exact hB.block k hk
def Tryz.sortInts_ren : Go.Shelf.Ren := ⟨fun | 5 => 22 | 8 => 47 | 7 => 46 | 19 => 76 | 20 => 77 | 10 => 67 | 11 => 68 | 12 => 69 | 13 => 70 | 14 => 71 | 15 => 72 | 16 => 73 | 17 => 74 | 18 => 75 | 30 => 90 | 31 => 91 | 32 => 92 | 33 => 93 | 34 => 94 | 35 => 95 | 40 => 103 | n => n, fun | 23 => 26 | 25 => 3 | 3 => 3 | 32 => 84 | 22 => 26 | 0 => 0 | 44 => 96 | 46 => 117 | 4 => 4 | 36 => 109 | 35 => 108 | 41 => 65 | 5 => 5 | 9 => 9 | 53 => 127 | 57 => 131 | 63 => 139 | 64 => 140 | n => n, fun | n => n⟩
theorem Tryz.sortInts : Go.Proofs.SlLaysM.n5 Tryz.prog Tryz.sortInts_ren := {
  mixed := by kernel_rfl
  f5 := ⟨Tryz.f22.name, by decide, Tryz.func22.trans (congrArg some (by kernel_rfl))⟩
  f7 := ⟨Tryz.f46.name, by decide, Tryz.func46.trans (congrArg some (by kernel_rfl))⟩
  f8 := Tryz.func47.trans (congrArg some (by kernel_rfl))
  f10 := ⟨Tryz.f67.name, by decide, Tryz.func67.trans (congrArg some (by kernel_rfl))⟩
  f11 := ⟨Tryz.f68.name, by decide, Tryz.func68.trans (congrArg some (by kernel_rfl))⟩
  f12 := ⟨Tryz.f69.name, by decide, Tryz.func69.trans (congrArg some (by kernel_rfl))⟩
  f13 := ⟨Tryz.f70.name, by decide, Tryz.func70.trans (congrArg some (by kernel_rfl))⟩
  f14 := ⟨Tryz.f71.name, by decide, Tryz.func71.trans (congrArg some (by kernel_rfl))⟩
  f15 := ⟨Tryz.f72.name, by decide, Tryz.func72.trans (congrArg some (by kernel_rfl))⟩
  f16 := ⟨Tryz.f73.name, by decide, Tryz.func73.trans (congrArg some (by kernel_rfl))⟩
  f17 := ⟨Tryz.f74.name, by decide, Tryz.func74.trans (congrArg some (by kernel_rfl))⟩
  f18 := ⟨Tryz.f75.name, by decide, Tryz.func75.trans (congrArg some (by kernel_rfl))⟩
  f19 := Tryz.func76.trans (congrArg some (by kernel_rfl))
  f20 := Tryz.func77.trans (congrArg some (by kernel_rfl))
  f30 := ⟨Tryz.f90.name, by decide, Tryz.func90.trans (congrArg some (by kernel_rfl))⟩
  f31 := Tryz.func91.trans (congrArg some (by kernel_rfl))
  f32 := Tryz.func92.trans (congrArg some (by kernel_rfl))
  f33 := ⟨Tryz.f93.name, by decide, Tryz.func93.trans (congrArg some (by kernel_rfl))⟩
  f34 := ⟨Tryz.f94.name, by decide, Tryz.func94.trans (congrArg some (by kernel_rfl))⟩
  f35 := ⟨Tryz.f95.name, by decide, Tryz.func95.trans (congrArg some (by kernel_rfl))⟩
  f40 := ⟨Tryz.f103.name, by decide, Tryz.func103.trans (congrArg some (by kernel_rfl))⟩
  t0 := Tryz.underlying0
  a0 := Tryz.isAgg0
  z0 := Tryz.sizeOf0
  v0 := Tryz.zeroValue0
  t3 := Tryz.underlying3
  a3 := Tryz.isAgg3
  z3 := Tryz.sizeOf3
  v3 := Tryz.zeroValue3
  t4 := Tryz.underlying4
  a4 := Tryz.isAgg4
  z4 := Tryz.sizeOf4
  v4 := Tryz.zeroValue4
  t5 := Tryz.underlying5
  a5 := Tryz.isAgg5
  z5 := Tryz.sizeOf5
  v5 := Tryz.zeroValue5
  t9 := Tryz.underlying9
  a9 := Tryz.isAgg9
  z9 := Tryz.sizeOf9
  v9 := Tryz.zeroValue9
  t22 := Tryz.underlying26
  a22 := Tryz.isAgg26
  z22 := Tryz.sizeOf26
  v22 := Tryz.zeroValue26
  t23 := Tryz.underlying26
  a23 := Tryz.isAgg26
  z23 := Tryz.sizeOf26
  v23 := Tryz.zeroValue26
  t25 := Tryz.underlying3
  a25 := Tryz.isAgg3
  z25 := Tryz.sizeOf3
  v25 := Tryz.zeroValue3
  t32 := Tryz.underlying84
  a32 := Tryz.isAgg84
  z32 := Tryz.sizeOf84
  v32 := Tryz.zeroValue84
  t35 := Tryz.underlying108
  a35 := Tryz.isAgg108
  z35 := Tryz.sizeOf108
  v35 := Tryz.zeroValue108
  t36 := Tryz.underlying109
  a36 := Tryz.isAgg109
  z36 := Tryz.sizeOf109
  v36 := Tryz.zeroValue109
  t41 := Tryz.underlying65
  a41 := Tryz.isAgg65
  z41 := Tryz.sizeOf65
  v41 := Tryz.zeroValue65
  t44 := Tryz.underlying96
  a44 := Tryz.isAgg96
  z44 := Tryz.sizeOf96
  v44 := Tryz.zeroValue96
  t46 := Tryz.underlying117
  a46 := Tryz.isAgg117
  z46 := Tryz.sizeOf117
  v46 := Tryz.zeroValue117
  t53 := Tryz.underlying127
  a53 := Tryz.isAgg127
  z53 := Tryz.sizeOf127
  v53 := Tryz.zeroValue127
  t57 := Tryz.underlying131
  a57 := Tryz.isAgg131
  z57 := Tryz.sizeOf131
  v57 := Tryz.zeroValue131
  t63 := Tryz.underlying139
  a63 := Tryz.isAgg139
  z63 := Tryz.sizeOf139
  v63 := Tryz.zeroValue139
  t64 := Tryz.underlying140
  a64 := Tryz.isAgg140
  z64 := Tryz.sizeOf140
  v64 := Tryz.zeroValue140 }
def slices_Sort_i.f (l : List Int) : Option (List Int):=if l.length < 4611686018427387904 then some (l.mergeSort fun x y => decide (x ≤ y)) else none
theorem slices_Sort_i.calls (P0_ : Nat → Prop) (u : Value) (l0 r1 : List Int) (w0 w : World) (hB : Below w0.heap.size w0 w) (ho0 : Kd.R (Kd.int .i64) 3 w w0.heap.size P0_ u l0) (h : slices_Sort_i.f l0 = some r1) :
  Calls Tryz.prog 22 #[u] w fun e w' => e = .returned (.tuple #[]) ∧ Kd.R (Kd.int .i64) 3 w' w0.heap.size (fun k_ => (P0_ k_ ∨ w.heap.size ≤ k_)) u r1 ∧ Below w0.heap.size w0 w' ∧ Kept w w' (fun k_ => P0_ k_):=by
 unfold slices_Sort_i.f at h
 split at h
 case isFalse => cases h
 rename_i hl
 replace h:=Option.some.inj h
 have hlen : r1.length = l0.length:=by rw [← h];exact List.length_mergeSort _
 have hown : w.ownsRow w0.heap.size 3 1 u l0.length (encs (Value.int .i64) l0):=Kd.own_of_R (enc:=Value.int .i64) (h1:=fun _ => rfl) ho0
 have hok:=ho0.1
 rcases hown.2 with ⟨rfl,hn⟩ | ⟨g,cap,cur,rfl,hg,hh,hnc,hcm,hcs,hct⟩
 ·have e1 : r1 = []:=List.eq_nil_of_length_eq_zero (by rw [hlen,hn])
  subst e1
  exact (AnyM.slices_Sort_int_none Tryz.sortInts none 0 w).mono (fun e w' h_ => by obtain ⟨he,hw⟩:=h_;subst hw;exact ⟨he,Kd.R_nil _ _ _ _ _,hB,Kept.refl _ _⟩)
 ·have hH : Sort.Holds (Value.int .i64) w g 0 l0.toArray:=holds_of_blockI hh (by simpa [encs] using hct)
  have hcon:=AnyM.slices_Sort_int Tryz.sortInts g 0 cap l0 w hH (blk_lt hh) hl
  rw [h] at hcon
  refine hcon.mono ?_
  rintro e w' ⟨rfl,n,os,rfl⟩
  have h3:=R_putI (P_:=P0_) (n:=n) (os:=os) (d:=r1) (r:=r1) hB hg (hok g rfl) hh hcs hcm (by omega) (Nat.le_refl _) (by simp)
  rw [hlen] at h3
  exact ⟨rfl,h3⟩

/-! ### slices_DeleteFunc_int_int: function 23 (a text of its own) -/
def Tryz.delInts_ren : Go.Shelf.Ren := ⟨fun | 10 => 23 | 6 => 48 | n => n, fun | 22 => 26 | 23 => 3 | 25 => 53 | 3 => 3 | 4 => 4 | 0 => 0 | n => n, fun | n => n⟩
theorem Tryz.delInts : Go.Proofs.SlLaysH.n10 Tryz.prog Tryz.delInts_ren := {
  mixed := by kernel_rfl
  f6 := ⟨Tryz.f48.name, by decide, Tryz.func48.trans (congrArg some (by kernel_rfl))⟩
  f10 := ⟨Tryz.f23.name, by decide, Tryz.func23.trans (congrArg some (by kernel_rfl))⟩
  t0 := Tryz.underlying0
  a0 := Tryz.isAgg0
  z0 := Tryz.sizeOf0
  v0 := Tryz.zeroValue0
  t3 := Tryz.underlying3
  a3 := Tryz.isAgg3
  z3 := Tryz.sizeOf3
  v3 := Tryz.zeroValue3
  t4 := Tryz.underlying4
  a4 := Tryz.isAgg4
  z4 := Tryz.sizeOf4
  v4 := Tryz.zeroValue4
  t22 := Tryz.underlying26
  a22 := Tryz.isAgg26
  z22 := Tryz.sizeOf26
  v22 := Tryz.zeroValue26
  a23 := Tryz.isAgg3
  z23 := Tryz.sizeOf3
  t25 := Tryz.underlying53
  a25 := Tryz.isAgg53
  z25 := Tryz.sizeOf53
  v25 := Tryz.zeroValue53 }
def Tryz.idxInts_ren : Go.Shelf.Ren := ⟨fun | 6 => 48 | n => n, fun | 22 => 26 | 23 => 3 | 25 => 53 | 3 => 3 | 0 => 0 | 4 => 4 | n => n, fun | n => n⟩
theorem Tryz.idxInts : Go.Proofs.SlLaysH.n6 Tryz.prog Tryz.idxInts_ren := {
  mixed := by kernel_rfl
  f6 := ⟨Tryz.f48.name, by decide, Tryz.func48.trans (congrArg some (by kernel_rfl))⟩
  t0 := Tryz.underlying0
  a0 := Tryz.isAgg0
  z0 := Tryz.sizeOf0
  v0 := Tryz.zeroValue0
  t3 := Tryz.underlying3
  a3 := Tryz.isAgg3
  z3 := Tryz.sizeOf3
  v3 := Tryz.zeroValue3
  t4 := Tryz.underlying4
  a4 := Tryz.isAgg4
  z4 := Tryz.sizeOf4
  v4 := Tryz.zeroValue4
  t22 := Tryz.underlying26
  a22 := Tryz.isAgg26
  z22 := Tryz.sizeOf26
  v22 := Tryz.zeroValue26
  a23 := Tryz.isAgg3
  z23 := Tryz.sizeOf3
  t25 := Tryz.underlying53
  a25 := Tryz.isAgg53
  z25 := Tryz.sizeOf53
  v25 := Tryz.zeroValue53 }
def slices_DeleteFunc_i.f (l : List Int) (a : Int) : Option (List Int):=if l.length ≤ 9223372036854775807 then some (l.filter fun x => !decide (x < a)) else none
/-- The function value of impl.Segments, in whatever world holds 'least' in the cell ⟨B, 0⟩. -/
theorem least_gives (a x : Int) (B : Nat) (W : World) (hc : W.cell? ⟨B,0,none⟩ = some (.int .i64 a)) :
  FnGives Tryz.prog 24 #[.pointer (some ⟨B,0,none⟩)] #[.int .i64 x] (.bool (decide (x < a))) W:=by
 show Calls Tryz.prog 24 #[.int .i64 x,.pointer (some ⟨B,0,none⟩)] W _
 go_enter Tryz.func24,Tryz.ntmps24
 go_wp2
 all_goals (go_ret;exact ⟨by simp_all,0,rfl⟩)
set_option maxHeartbeats 2000000 in
theorem slices_DeleteFunc_i.calls (P0_ : Nat → Prop) (u : Value) (l0 : List Int) (a1 : Int) (r1 : List Int) (w0 w : World) (hB : Below w0.heap.size w0 w) (ho0 : Kd.R (Kd.int .i64) 3 w w0.heap.size P0_ u l0) (h : slices_DeleteFunc_i.f l0 a1 = some r1) (B : Nat) (hc : w.heap[B]? = some (.cells #[.int .i64 a1] 3 (0,0))) (hne : some B ≠ u.ownBlock) :
  Calls Tryz.prog 23 #[u,.func (.func 24) #[] #[.pointer (some ⟨B,0,none⟩)]] w fun e w' => ∃ v0_ : Value,e = .returned v0_ ∧ Kd.R (Kd.int .i64) 3 w' w0.heap.size (fun k_ => (P0_ k_ ∨ w.heap.size ≤ k_)) v0_ r1 ∧ Below w0.heap.size w0 w' ∧ Kept w w' (fun k_ => P0_ k_):=by
 unfold slices_DeleteFunc_i.f at h
 split at h
 case isFalse => cases h
 rename_i hl
 obtain rfl:=Option.some.inj h
 clear h
 have hown : w.ownsRow w0.heap.size 3 1 u l0.length (encs (Value.int .i64) l0):=Kd.own_of_R (enc:=Value.int .i64) (h1:=fun _ => rfl) ho0
 have hok:=ho0.1
 have hlt : B < w.heap.size:=blk_lt hc
 have hcell : w.cell? ⟨B,0,none⟩ = some (.int .i64 a1):=(blk_cell hc 0).trans rfl
 rcases hown.2 with ⟨rfl,hn⟩ | ⟨g,cap,cur,rfl,hg,hh,hnc,hcm,hcs,hct⟩
 ·have e0 : l0 = []:=List.eq_nil_of_length_eq_zero hn
  subst e0
  have hcon:=AnyE.slices_IndexFunc_empty Tryz.idxInts none 0 (.func (.func 24) #[] #[.pointer (some ⟨B,0,none⟩)]) w
  change Calls Tryz.prog 48 _ _ _ at hcon
  clear hown ho0 hc hcell
  go_enter Tryz.func23,Tryz.ntmps23
  go_wp2_with (go_at_call 48;refine hcon.mono ?_;rintro e w' ⟨rfl,rfl⟩)
  go_ret
  exact ⟨_,rfl,Kd.R_nil _ _ _ _ _,hB,Kept.refl _ _⟩
 ·have hH : Sort.Holds (Value.int .i64) w g 0 l0.toArray:=holds_of_blockI hh (by simpa [encs] using hct)
  have hgB : B ≠ g:=fun e => hne (by rw [e];rfl)
  have hcon:=AnyE.slices_DeleteFunc Tryz.delInts (Value.int .i64) (fun _ => rfl) (fun x => decide (x < a1)) 24 #[.pointer (some ⟨B,0,none⟩)] (enters_of Tryz.func24 (by kernel_rfl) rfl) 0 Tryz.zeroValue3 g 0 cap l0.toArray w
   (fun W x hb => least_gives a1 x B W ((hb.cell (p:=⟨B,0,none⟩) hlt).trans hcell))
   (fun n os dk x _ => least_gives a1 x B _ (by
    unfold sortWorld
    rw [Sort.cell?_grow _ _ _ (by show B < (Sort.putRow _ _ _ _ _).heap.size;rw [Sort.size_putRow];exact hlt),Sort.cell?_putRow_other _ _ g 0 _ _ (Or.inl hgB)]
    exact hcell)) hH (by simpa using hl) (by simpa using hnc)
  change Calls Tryz.prog 23 _ _ _ at hcon
  rw [List.size_toArray] at hcon
  refine hcon.mono ?_
  rintro e w' ⟨rfl,q,rfl⟩
  have hlen : (l0.filter fun x => !decide (x < a1)).length ≤ l0.length:=List.length_filter_le _ _
  have h3:=R_putI (P_:=P0_) (n:=q) (os:=#[]) (d:=(l0.filter fun x => !decide (x < a1)) ++ List.replicate (l0.length - (l0.filter fun x => !decide (x < a1)).length) 0) (r:=l0.filter fun x => !decide (x < a1)) hB hg (hok g rfl) hh hcs hcm (by simp;omega) (by simp) (by simp)
  rw [show ∀ W : World,Sort.grow W #[] = W from fun W => by simp [Sort.grow]] at h3
  exact ⟨_,rfl,h3⟩

/-! ### impl_File: function 78 (a text of its own) -/
def idxFrom {α : Type} (p : α → Bool) : List α → Int → Int
 | [],_ => -1
 | x :: t,i => if p x = true then i else idxFrom p t (i + 1)
theorem idx_step {p : S46 → Bool} {l : List S46} {k : Nat} (h : k < l.length) : idxFrom p (l.drop k) k = if p (rd_T46 l k) = true then (k : Int) else idxFrom p (l.drop (k + 1)) ((k : Int) + 1):=by
 rw [List.drop_eq_getElem_cons h,idxFrom]
 have e : rd_T46 l k = l[k]:=by
  unfold rd_T46
  rw [Int.toNat_natCast,List.getD_eq_getElem?_getD,List.getElem?_eq_getElem h]
  rfl
 rw [e]
set_option maxHeartbeats 8000000 in
set_option maxRecDepth 100000 in
theorem slices_IndexFunc78 (p : S46 → Bool) (g : Nat) (lb : Array Value) (eg : ∀ args w,(callFunc g args).run Tryz.prog w = .ok (.enter g args) w) (A : Option Addr) (c : Nat) (l0 : List S46) (w : World)
  (hr0 : Kd.C k46 w A l0.length l0)
  (hp : ∀ (W : World) (x : S46),Below w.heap.size w W → Calls Tryz.prog g (#[.agg #[.string x.f0,.string x.f1,.int .i64 x.f2]] ++ lb) W fun e w' => e = .returned (.bool (p x)) ∧ Below w.heap.size w w') :
  Calls Tryz.prog 78 #[.slice A l0.length c,.func (.func g) #[] lb] w fun e w' => e = .returned (.int .i64 (idxFrom p l0 0)) ∧ Below w.heap.size w w':=by
 have hu45:=Tryz.underlying46
 have HR:=Aside0.mk hr0
 have HM:=hr0.2.1
 clear hr0
 go_enter Tryz.func78,Tryz.ntmps78
 go_wp2
 go_loopg [5,8] l0.length (fun gg _ s8 wr => ∃ kk : Nat,kk ≤ l0.length ∧ l0.length - kk ≤ gg ∧ s8 = .int .i64 kk ∧ Aside0 (Below w.heap.size w wr) ∧ Aside0 (idxFrom p l0 0 = idxFrom p (l0.drop kk) kk))
 case atStart => exact ⟨0,Nat.zero_le _,by omega,rfl,⟨Below.refl _ w⟩,⟨rfl⟩⟩
 case round =>
  obtain ⟨kk,hkk,hg,rfl,BW,HI⟩:=hrel
  by_cases hlt : kk < l0.length
  ·have hltz : (kk : Int) < (l0.length : Int):=by omega
   have hI:=HI.out
   rw [idx_step hlt] at hI
   clear HI
   obtain ⟨ad,e1,hx0,hx1,hx2⟩:=at_T46 HR.out (kk : Int) (by omega) hltz
   cases e1
   replace hx0:=(BW.out.cell (World.block_lt_of_cell? w _ hx0)).trans hx0
   replace hx1:=(BW.out.cell (World.block_lt_of_cell? w _ hx1)).trans hx1
   replace hx2:=(BW.out.cell (World.block_lt_of_cell? w _ hx2)).trans hx2
   rw [Int.toNat_natCast] at hx0 hx1 hx2
   have hcall:=hp wr (rd_T46 l0 kk) BW.out
   clear hp
   generalize rd_T46 l0 kk = y at hI hx0 hx1 hx2 hcall
   cases hq : p y with
   | true =>
    rw [hq] at hcall hI
    rw [if_pos rfl] at hI
    go_wp2_with (go_at_fn g;refine hcall.mono ?_;rintro e w' ⟨rfl,hb'⟩)
    go_ret
    exact ⟨by first | rfl | (rw [hI];rfl),hb'⟩
   | false =>
    rw [hq] at hcall hI
    rw [if_neg (by decide)] at hI
    have H2:=Aside0.mk hI
    clear hI
    go_wp2_with (go_at_fn g;refine hcall.mono ?_;rintro e w' ⟨rfl,hb'⟩)
    go_roundg (l0.length - (kk + 1))
    case measure => omega
    case rel => exact ⟨kk + 1,by omega,by omega,by go_num,⟨hb'⟩,⟨H2.out⟩⟩
  ·have hltz : ¬ (kk : Int) < (l0.length : Int):=by omega
   have hI:=HI.out
   rw [List.drop_eq_nil_of_le (by omega),idxFrom] at hI
   clear HI
   go_wp2
   go_ret
   exact ⟨by first | rfl | (rw [hI];rfl),BW.out⟩

theorem beq_dec (a b : List UInt8) : (a == b) = decide (a = b):=by
 by_cases h : a = b
 ·subst h;simp
 ·rw [decide_eq_false h];simpa using h

/-! ### impl_fileAt: function 49 (a text of its own) -/
theorem fileAt_pred (name : ByteArray) (B : Nat) (w : World) (hB : B < w.heap.size) (hcell : w.cell? ⟨B,0,none⟩ = some (.string name)) : ∀ (W : World) (x : S46),Below w.heap.size w W →
  Calls Tryz.prog 79 (#[.agg #[.string x.f0,.string x.f1,.int .i64 x.f2]] ++ #[.pointer (some ⟨B,0,none⟩)]) W fun e w' => e = .returned (.bool (decide (x.f0.toList = name.toList))) ∧ Below w.heap.size w w':=fun W x hb => by
 have hc : W.cell? ⟨B,0,none⟩ = some (.string name):=(hb.cell (p:=⟨B,0,none⟩) hB).trans hcell
 have hBW : B < W.heap.size:=Nat.lt_of_lt_of_le hB hb.size
 have hne : B ≠ W.heap.size:=by omega
 have hu45:=Tryz.underlying46
 show Calls Tryz.prog 79 #[.agg #[.string x.f0,.string x.f1,.int .i64 x.f2],.pointer (some ⟨B,0,none⟩)] W _
 go_enter Tryz.func79,Tryz.ntmps79
 go_wp2
 all_goals (go_ret;exact ⟨by first | rfl | (simp only [beq_dec];rfl) | simp_all,hb.alloc hb.size _⟩)
def impl_fileAt.f (l0_0 : List S46) (a1 : ByteArray) : Option Int:=some (idxFrom (fun x : S46 => decide (x.f0.toList = a1.toList)) l0_0 0)
set_option maxHeartbeats 8000000 in
set_option maxRecDepth 100000 in
theorem impl_fileAt.calls (A0_0 : Option Addr) (c0_0 : Nat) (l0_0 : List S46) (a1 : ByteArray) (r : Int) (w : World) (hr0_0 : Kd.C k46 w A0_0 l0_0.length l0_0) (hc0_0 : l0_0.length ≤ c0_0) (h : impl_fileAt.f l0_0 a1 = some r) :
  Calls Tryz.prog 49 #[.agg #[.slice A0_0 l0_0.length c0_0],.string a1] w fun e w' => e = .returned (.int .i64 r) ∧ Below w.heap.size w w':=by
 obtain rfl:=Option.some.inj h
 have hu30:=Tryz.underlying31
 have eg : ∀ args w,(callFunc 79 args).run Tryz.prog w = .ok (.enter 79 args) w:=enters_of Tryz.func79 (by kernel_rfl) rfl
 have hB2 : Below w.heap.size w ((w.alloc (.cells #[.slice A0_0 l0_0.length c0_0] 31)).alloc (.cells #[.string a1] 9)):=below_alloc (below_alloc (Below.refl _ _) _) _
 have hcon:=slices_IndexFunc78 (fun x : S46 => decide (x.f0.toList = a1.toList)) 79 #[.pointer (some ⟨w.heap.size + 1,0,none⟩)] eg A0_0 c0_0 l0_0 ((w.alloc (.cells #[.slice A0_0 l0_0.length c0_0] 31)).alloc (.cells #[.string a1] 9))
  (Kd.C_alloc (Kd.C_alloc hr0_0 _) _) (fileAt_pred a1 (w.heap.size + 1) _ (by simp) (by simp))
 generalize idxFrom (fun x : S46 => decide (x.f0.toList = a1.toList)) l0_0 0 = r at hcon ⊢
 go_enter Tryz.func49,Tryz.ntmps49
 go_wp2_with (go_at_call 78;refine hcon.mono ?_;rintro e w' ⟨rfl,hb'⟩)
 go_ret
 exact ⟨rfl,hB2.trans (hb'.mono (by simp;omega))⟩

/-! ### impl_FileAt: function 25 -/
def impl_FileAt.f (l0_0 : List (S46)) (a1 : ByteArray) : Option (ByteArray × Bool):=(impl_fileAt.f l0_0 a1).bind fun t405 => (if t405 < 0 then (some ((⟨#[]⟩ : ByteArray),false)) else (if 0 ≤ t405 then (if t405 < (l0_0.length : Int) then (some ((rd_T46 l0_0 t405).f1,true)) else (none)) else (none)))
set_option maxHeartbeats 8000000 in
set_option maxRecDepth 100000 in
theorem impl_FileAt.calls (A0_0 : Option Addr) (c0_0 : Nat) (l0_0 : List (S46)) (a1 : ByteArray) (r1 : ByteArray) (r2 : Bool) (w : World) (hr0_0 : Kd.C k46 w A0_0 l0_0.length l0_0) (hc0_0 : l0_0.length ≤ c0_0) (h : impl_FileAt.f l0_0 a1 = some (r1,r2)) :
  Calls Tryz.prog 25 #[.agg #[.slice A0_0 l0_0.length c0_0],.string a1] w fun e w' => e = .returned (.tuple #[.string r1,.bool r2]) ∧ Below w.heap.size w w':=by
 have hu31:=Tryz.underlying31
 have HR0_0:=Aside0.mk hr0_0
 have HC0_0:=Aside0.mk hc0_0
 clear hr0_0 hc0_0
 have HB:=Aside0.mk (Below.refl w.heap.size w)
 have H : ((impl_fileAt.f l0_0 a1).bind fun t405 => (if t405 < 0 then (some ((⟨#[]⟩ : ByteArray),false)) else (if 0 ≤ t405 then (if t405 < (l0_0.length : Int) then (some ((rd_T46 l0_0 t405).f1,true)) else (none)) else (none)))) = some (r1,r2):=h
 clear h
 obtain ⟨t405,A3,H⟩:=bX0 H
 by_cases c4 : t405 < 0
 ·rw [if_pos c4] at H
  have c4b0 : decide (t405 < 0) = true:=decide_eq_true c4
  clear c4
  simp only [Option.some.injEq,Prod.mk.injEq] at H
  obtain ⟨rfl,rfl⟩:=H
  go_enter Tryz.func25,Tryz.ntmps25
  go_wp2_with (first | ((with_reducible refine gate_dst (N:=2) rfl ?_);refine zy0 (cs:=#[.slice A0_0 l0_0.length c0_0]) (t:=31) ?_;intro gb404 hg w5 hbox hb;have BK404:=Aside0.mk hbox;have GW404:=zz0 hg HB;have GE404:=zz0 hg HB;replace HB:=zs0 HB hb;clear hb hbox hg;obtain ⟨_,_⟩:=zd01 BK404) | ((with_reducible refine gate_callee (f:=49) rfl ?_);refine goesL_ (some 9) rfl rfl Tryz.func49 (by kernel_rfl) rfl #[.agg #[.slice A0_0 l0_0.length c0_0],.string a1] rfl zM0 ?_;(with_reducible refine (impl_fileAt.calls _ _ l0_0 a1 t405 _ ?side1 ?side2 A3.out).mono ?_);(case side1 => exact zA0 ((Kd.C_below HR0_0.out HB.out)));(case side2 => exact HC0_0.out);rintro e w7 ⟨rfl,hb⟩;refine ⟨_,rfl,?_⟩;replace BK404:=zb0 BK404 hb;replace HB:=zs0 HB hb;(try clear hb)))
  go_ret2
  exact ⟨zW0,(zY0 HB.out)⟩
 ·rw [if_neg c4] at H
  have c4b0 : decide (t405 < 0) = false:=decide_eq_false c4
  clear c4
  by_cases c8 : 0 ≤ t405
  ·rw [if_pos c8] at H
   have c8b0 : decide (0 ≤ t405) = true:=decide_eq_true c8
   clear c8
   by_cases c9 : t405 < (l0_0.length : Int)
   ·rw [if_pos c9] at H
    have c9b0 : decide (t405 < (l0_0.length : Int)) = true:=decide_eq_true c9
    clear c9
    simp only [Option.some.injEq,Prod.mk.injEq] at H
    obtain ⟨rfl,rfl⟩:=H
    go_enter Tryz.func25,Tryz.ntmps25
    go_wp2_with (first | ((with_reducible refine gate_dst (N:=2) rfl ?_);refine zy0 (cs:=#[.slice A0_0 l0_0.length c0_0]) (t:=31) ?_;intro gb404 hg w10 hbox hb;have BK404:=Aside0.mk hbox;have GW404:=zz0 hg HB;have GE404:=zz0 hg HB;replace HB:=zs0 HB hb;clear hb hbox hg;obtain ⟨_,_⟩:=zd01 BK404) | ((with_reducible refine gate_callee (f:=49) rfl ?_);refine goesL_ (some 9) rfl rfl Tryz.func49 (by kernel_rfl) rfl #[.agg #[.slice A0_0 l0_0.length c0_0],.string a1] rfl zM0 ?_;(with_reducible refine (impl_fileAt.calls _ _ l0_0 a1 t405 _ ?side1 ?side2 A3.out).mono ?_);(case side1 => exact zA0 ((Kd.C_below HR0_0.out HB.out)));(case side2 => exact HC0_0.out);rintro e w12 ⟨rfl,hb⟩;refine ⟨_,rfl,?_⟩;replace BK404:=zb0 BK404 hb;replace HB:=zs0 HB hb;(try clear hb);obtain ⟨_,_⟩:=zd01 BK404;have p406 : 0 ≤ (t405 : Int):=zD0;have q406 : t405 < (l0_0.length : Int):=zD0;obtain ⟨ad406,e406,hx406_0,hx406_1,hx406_2⟩:=at_T46 HR0_0.out t405 p406 q406;cases e406;replace hx406_0:=zx0 HB hx406_0;replace hx406_1:=zx0 HB hx406_1;replace hx406_2:=zx0 HB hx406_2;replace p406:=eq_true p406;replace q406:=eq_true q406))
    go_ret2
    exact ⟨zW0,(zY0 HB.out)⟩
   ·rw [if_neg c9] at H
    exact absurd H (by simp)
  ·rw [if_neg c8] at H
   exact absurd H (by simp)

end Go.Proofs.YtlekhcopddajbaaGreatDoor.PFnExactSegments
