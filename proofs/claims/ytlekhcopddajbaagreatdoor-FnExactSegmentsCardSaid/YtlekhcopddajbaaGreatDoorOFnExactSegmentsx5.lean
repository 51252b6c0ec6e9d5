/- Walks, turned from a print. -/
import Derived.Test.YtlekhcopddajbaaGreatDoorOFnExactSegmentsx0
import Derived.Test.YtlekhcopddajbaaGreatDoorOFnExactSegmentsx1
import Derived.Test.YtlekhcopddajbaaGreatDoorOFnExactSegmentsx3
import Derived.Test.YtlekhcopddajbaaGreatDoorOFnExactSegmentsx4
namespace Go.Proofs.YtlekhcopddajbaaGreatDoor.PFnExactSegments
open Go.RowKit Go.Proofs.YtlekhcopddajbaaGreatDoorW.PrintWords Go.Proofs.YtlekhcopddajbaaGreatDoorW.PrintLast Go.Proofs.YtlekhcopddajbaaGreatDoorW.PrintMore
attribute [local go_sem] max2_int min2_int max_two min_two max_three min_three max_four min_four
set_option linter.unusedVariables false
set_option linter.unusedSimpArgs false

/-- A state of type 92 at block g of W; what its slices lead to came in by w0. -/
def IsS92 (w0 W : World) (g : Nat) (f0 : ByteArray) (f1 : Int) (f2 : Bool) : Prop:=W.heap[g]? = some (.cells #[.string f0,.int .i64 f1,.bool f2] 92 (0,0)) ∧ w0.heap.size ≤ g
theorem IsS92.grown {w0 W : World} {g : Nat} {f0 : ByteArray} {f1 : Int} {f2 : Bool} {W1 : World} {row : Option Nat} (h : IsS92 w0 W g f0 f1 f2) (hw : W.grownBy W1 row) (hne : some g ≠ row) : IsS92 w0 W1 g f0 f1 f2:=by
 obtain ⟨hb,hg⟩:=h
 exact ⟨blk_grown hb hw hne,hg⟩
theorem IsS92.own_neN {w0 W : World} {g : Nat} {f0 : ByteArray} {f1 : Int} {f2 : Bool} {α : Type} {d : Kd α} {e : Nat} {base : Nat} {ok : Nat → Prop} {v : Value} {xs : List α} (h : IsS92 w0 W g f0 f1 f2) (ho : Kd.N d e W base ok v xs) (ht : e ≠ 92) : some g ≠ v.ownBlock:=by
 obtain ⟨hb,hg⟩:=h
 exact Kd.N_ne ho hb ht
theorem IsS92.fresh {w0 W : World} {g : Nat} {f0 : ByteArray} {f1 : Int} {f2 : Bool} (h : IsS92 w0 W g f0 f1 f2) : ∀ k,W.heap.size ≤ k → k ≠ g:=by
 obtain ⟨hb,hg⟩:=h
 exact Kd.freshB hb
theorem IsS92.kept {w0 W : World} {g : Nat} {f0 : ByteArray} {f1 : Int} {f2 : Bool} {W1 : World} {S : Nat → Prop} (h : IsS92 w0 W g f0 f1 f2) (hk : Kept W W1 S) (hne : ¬ S g) : IsS92 w0 W1 g f0 f1 f2:=by
 obtain ⟨hb,hg⟩:=h
 exact ⟨blk_kept hb hk hne,hg⟩
theorem IsS92.below {w0 W : World} {g : Nat} {f0 : ByteArray} {f1 : Int} {f2 : Bool} {W1 : World} (h : IsS92 w0 W g f0 f1 f2) (hw : Below W.heap.size W W1) : IsS92 w0 W1 g f0 f1 f2:=h.grown (grown_of_below hw none) (by simp)
theorem IsS92.alloc {w0 W : World} {g : Nat} {f0 : ByteArray} {f1 : Int} {f2 : Bool} (h : IsS92 w0 W g f0 f1 f2) (o : Obj) : IsS92 w0 (W.alloc o) g f0 f1 f2:=h.below (below_alloc (Below.refl _ _) o)
theorem IsS92.drewN {w0 W : World} {g : Nat} {f0 : ByteArray} {f1 : Int} {f2 : Bool} (h : IsS92 w0 W g f0 f1 f2) (m : Nat) : IsS92 w0 (W.drewN m) g f0 f1 f2:=h
theorem IsS92.drew {w0 W : World} {g : Nat} {f0 : ByteArray} {f1 : Int} {f2 : Bool} (h : IsS92 w0 W g f0 f1 f2) : IsS92 w0 W.drew g f0 f1 f2:=h
theorem IsS92.at_ {w0 W : World} {g : Nat} {f0 : ByteArray} {f1 : Int} {f2 : Bool} {w' : World} {m : Nat} (hq : W.drewN m = w') (h : IsS92 w0 W g f0 f1 f2) : IsS92 w0 w' g f0 f1 f2:=by subst hq;exact IsS92.drewN h m
theorem IsS92.apart {w0 W : World} {g : Nat} {f0 : ByteArray} {f1 : Int} {f2 : Bool} {α : Type} {d : Kd α} {e : Nat} {base : Nat} {ok : Nat → Prop} {v : Value} {xs : List α} (h : IsS92 w0 W g f0 f1 f2) (ho : d.R e W base ok v xs) (ht : ∀ q,q ∈ e :: d.E → q ≠ 92) : d.R e W base (fun k => ok k ∧ k ≠ g) v xs:=by
 obtain ⟨hb,hg⟩:=h
 exact Kd.R_types ho hb ht
theorem IsS92.own_ne {w0 W : World} {g : Nat} {f0 : ByteArray} {f1 : Int} {f2 : Bool} {α : Type} {d : Kd α} {e : Nat} {base : Nat} {ok : Nat → Prop} {v : Value} {xs : List α} (h : IsS92 w0 W g f0 f1 f2) (ho : d.R e W base ok v xs) (ht : e ≠ 92) : some g ≠ v.ownBlock:=by
 obtain ⟨hb,hg⟩:=h
 exact Kd.R_ne ho hb ht
theorem IsS92.apartQ {w0 W : World} {g : Nat} {f0 : ByteArray} {f1 : Int} {f2 : Bool} {α : Type} {d : Kd α} {e : Nat} {base : Nat} {ok : Nat → Prop} {v : Value} {xs : List α} (h : IsS92 w0 W g f0 f1 f2) (ho : d.Q e W base ok v xs) (ht : ∀ q,q ∈ e :: d.E → q ≠ 92) : d.Q e W base (fun k => ok k ∧ k ≠ g) v xs:=by
 obtain ⟨hb,hg⟩:=h
 exact Kd.Q_types ho hb ht
theorem IsS92.own_neQ {w0 W : World} {g : Nat} {f0 : ByteArray} {f1 : Int} {f2 : Bool} {α : Type} {d : Kd α} {e : Nat} {base : Nat} {ok : Nat → Prop} {v : Value} {xs : List α} (h : IsS92 w0 W g f0 f1 f2) (ho : d.Q e W base ok v xs) (ht : e ≠ 92) : some g ≠ v.ownBlock:=by
 obtain ⟨hb,hg⟩:=h
 exact Kd.Q_ne ho hb ht
theorem IsS92.apartS {w0 W : World} {g : Nat} {f0 : ByteArray} {f1 : Int} {f2 : Bool} {α : Type} {d : Kd α} {e : Nat} {base : Nat} {ok : Nat → Prop} {v : Value} {xs : List α} (h : IsS92 w0 W g f0 f1 f2) (ho : d.S e W base ok v xs) (ht : ∀ q,q ∈ e :: d.E → q ≠ 92) : d.S e W base (fun k => ok k ∧ k ≠ g) v xs:=by
 obtain ⟨hb,hg⟩:=h
 exact Kd.S_types ho hb ht
theorem IsS92.own_neS {w0 W : World} {g : Nat} {f0 : ByteArray} {f1 : Int} {f2 : Bool} {α : Type} {d : Kd α} {e : Nat} {base : Nat} {ok : Nat → Prop} {v : Value} {xs : List α} (h : IsS92 w0 W g f0 f1 f2) (ho : d.S e W base ok v xs) (ht : e ≠ 92) : some g ≠ v.ownBlock:=by
 obtain ⟨hb,hg⟩:=h
 exact Kd.S_ne ho hb ht
theorem IsS92.lt {w0 W : World} {g : Nat} {f0 : ByteArray} {f1 : Int} {f2 : Bool} (h : IsS92 w0 W g f0 f1 f2) : g < W.heap.size:=by
 obtain ⟨hb,hg⟩:=h
 exact blk_lt hb
theorem IsS92.ge {w0 W : World} {g : Nat} {f0 : ByteArray} {f1 : Int} {f2 : Bool} (h : IsS92 w0 W g f0 f1 f2) : w0.heap.size ≤ g:=by
 obtain ⟨hb,hg⟩:=h
 exact hg
theorem IsS92.ne_blk {w0 W : World} {g : Nat} {f0 : ByteArray} {f1 : Int} {f2 : Bool} {a : Nat} {cs : Array Value} {t : TypeId} {fr : Nat × Nat} (h : IsS92 w0 W g f0 f1 f2) (hb2 : W.heap[a]? = some (.cells cs t fr)) (ht : t ≠ 92) : g ≠ a:=by
 obtain ⟨hb,hg⟩:=h
 rintro rfl
 rw [hb] at hb2
 injection hb2 with hb2
 injection hb2 with _ ht2
 exact ht ht2.symm
theorem IsS92.far {w0 W : World} {g : Nat} {f0 : ByteArray} {f1 : Int} {f2 : Bool} {p : Addr} (h : IsS92 w0 W g f0 f1 f2) (hne : g ≠ p.block) (u : Value) : IsS92 w0 (W.setCell p u) g f0 f1 f2:=by
 obtain ⟨hb,hg⟩:=h
 exact ⟨blk_far hb hne u,hg⟩
theorem cellS92_0 {W : World} {g : Nat} {f0 : ByteArray} {f1 : Int} {f2 : Bool} (h : W.heap[g]? = some (.cells #[.string f0,.int .i64 f1,.bool f2] 92 (0,0))) : W.cell? ⟨g,0,none⟩ = some (.string f0):=(blk_cell h 0).trans rfl
theorem IsS92.set_0 {w0 W : World} {g : Nat} {f0 : ByteArray} {f1 : Int} {f2 : Bool} (h : IsS92 w0 W g f0 f1 f2) (x : ByteArray) : IsS92 w0 (W.setCell ⟨g,0,none⟩ (.string x)) g x f1 f2:=by
 obtain ⟨hb,hg⟩:=h
 exact ⟨by simpa using blk_set hb 0 (.string x),hg⟩
theorem cellS92_1 {W : World} {g : Nat} {f0 : ByteArray} {f1 : Int} {f2 : Bool} (h : W.heap[g]? = some (.cells #[.string f0,.int .i64 f1,.bool f2] 92 (0,0))) : W.cell? ⟨g,1,none⟩ = some (.int .i64 f1):=(blk_cell h 1).trans rfl
theorem IsS92.set_1 {w0 W : World} {g : Nat} {f0 : ByteArray} {f1 : Int} {f2 : Bool} (h : IsS92 w0 W g f0 f1 f2) (x : Int) : IsS92 w0 (W.setCell ⟨g,1,none⟩ (.int .i64 x)) g f0 x f2:=by
 obtain ⟨hb,hg⟩:=h
 exact ⟨by simpa using blk_set hb 1 (.int .i64 x),hg⟩
theorem cellS92_2 {W : World} {g : Nat} {f0 : ByteArray} {f1 : Int} {f2 : Bool} (h : W.heap[g]? = some (.cells #[.string f0,.int .i64 f1,.bool f2] 92 (0,0))) : W.cell? ⟨g,2,none⟩ = some (.bool f2):=(blk_cell h 2).trans rfl
theorem IsS92.set_2 {w0 W : World} {g : Nat} {f0 : ByteArray} {f1 : Int} {f2 : Bool} (h : IsS92 w0 W g f0 f1 f2) (x : Bool) : IsS92 w0 (W.setCell ⟨g,2,none⟩ (.bool x)) g f0 f1 x:=by
 obtain ⟨hb,hg⟩:=h
 exact ⟨by simpa using blk_set hb 2 (.bool x),hg⟩
theorem IsS92.new (w0 W : World) (f0 : ByteArray) (f1 : Int) (f2 : Bool) (hB : Below w0.heap.size w0 W) : IsS92 w0 (W.alloc (.cells #[.string f0,.int .i64 f1,.bool f2] 92)) W.heap.size f0 f1 f2:=⟨by simpa using heap_alloc_new W _,hB.size⟩
theorem zi092 {w0 W W1 : World} {g : Nat} {f0 f0b : ByteArray} {f1 f1b : Int} {f2 f2b : Bool} (h : Aside0 (IsS92 w0 W g f0 f1 f2)) (f : IsS92 w0 W g f0 f1 f2 → IsS92 w0 W1 g f0b f1b f2b := by intro h_; repeat (first | (with_reducible first | exact h_ | apply IsS92.alloc | apply IsS92.drewN | apply IsS92.drew | apply IsS92.set_0 | apply IsS92.set_1 | apply IsS92.set_2 | refine IsS92.far ?_ (Aside0.out (by clear h_; assumption)) _) | exact h_)) : IsS92 w0 W1 g f0b f1b f2b := f h.out
theorem zj092 {B : Nat} {w W W1 : World} {r : Prop} (h : Aside0 (Below B w W)) (h2 : Aside0 r) (f : r → Below B w W → Below B w W1 := by intro k_ h_; repeat (first | (with_reducible first | exact h_ | apply below_alloc | apply pw_below_drewN | apply below_drew1 | refine below_set ?_ (IsS92.ge k_) | refine below_set ?_ (Aside0.out (by clear h_ k_; assumption))) | exact h_)) : Below B w W1 := f h2.out h.out

/-! ### spec_l05Take: function 55 -/
def spec_l05Take.f (s0_0 : ByteArray) (s0_1 : Int) (s0_2 : Bool) (a1 : Int) : Option (ByteArray × ByteArray × Int × Bool):=if s0_2 = true then (some ((⟨#[]⟩ : ByteArray),s0_0,s0_1,true)) else (if a1 > (wrap64 ((s0_0.size : Int) - s0_1)) then (some ((⟨#[]⟩ : ByteArray),s0_0,s0_1,true)) else (if 0 ≤ (wrap64 ((wrap64 (s0_1 + a1)) - a1)) then (if (wrap64 ((wrap64 (s0_1 + a1)) - a1)) ≤ (wrap64 (s0_1 + a1)) then (if (wrap64 (s0_1 + a1)) ≤ (s0_0.size : Int) then (some (s0_0.extract ((wrap64 ((wrap64 (s0_1 + a1)) - a1)) : Int).toNat ((wrap64 (s0_1 + a1)) : Int).toNat,s0_0,wrap64 (s0_1 + a1),s0_2)) else (none)) else (none)) else (none)))
set_option maxHeartbeats 8000000 in
set_option maxRecDepth 100000 in
theorem spec_l05Take.calls (g : Nat) (s0_0 : ByteArray) (s0_1 : Int) (s0_2 : Bool) (a1 : Int) (r1 : ByteArray) (r2 : ByteArray) (r3 : Int) (r4 : Bool) (w0 w : World) (hI : IsS92 w0 w g s0_0 s0_1 s0_2) (hB : Below w0.heap.size w0 w) (h : spec_l05Take.f s0_0 s0_1 s0_2 a1 = some (r1,r2,r3,r4)) :
  Calls Tryz.prog 55 #[.pointer (some ⟨g,0,none⟩),.int .i64 a1] w fun e w' => e = .returned (.string r1) ∧ IsS92 w0 w' g r2 r3 r4 ∧ Below w0.heap.size w0 w' ∧ KeepBut w w' g none:=by
 have HI0:=Aside0.mk hI
 have HK:=Aside0.mk (KeepBut.refl w g none)
 have HL:=Aside0.mk hB.size
 clear hI
 have HW0:=Aside0.mk hB.size
 have HB:=Aside0.mk hB
 clear hB
 have H : (if s0_2 = true then (some ((⟨#[]⟩ : ByteArray),s0_0,s0_1,true)) else (if a1 > (wrap64 ((s0_0.size : Int) - s0_1)) then (some ((⟨#[]⟩ : ByteArray),s0_0,s0_1,true)) else (if 0 ≤ (wrap64 ((wrap64 (s0_1 + a1)) - a1)) then (if (wrap64 ((wrap64 (s0_1 + a1)) - a1)) ≤ (wrap64 (s0_1 + a1)) then (if (wrap64 (s0_1 + a1)) ≤ (s0_0.size : Int) then (some (s0_0.extract ((wrap64 ((wrap64 (s0_1 + a1)) - a1)) : Int).toNat ((wrap64 (s0_1 + a1)) : Int).toNat,s0_0,wrap64 (s0_1 + a1),s0_2)) else (none)) else (none)) else (none)))) = some (r1,r2,r3,r4):=h
 clear h
 by_cases c3 : s0_2 = true
 ·subst c3
  rw [if_pos rfl] at H
  simp only [Option.some.injEq,Prod.mk.injEq] at H
  obtain ⟨rfl,rfl,rfl,rfl⟩:=H
  obtain ⟨HGz4,hgz4⟩:=HI0.out
  have hcz4_0:=cellS92_0 HGz4
  have hcz4_1:=cellS92_1 HGz4
  have hcz4_2:=cellS92_2 HGz4
  have hfz4_0:=blk_frozen HGz4 0
  have hfz4_1:=blk_frozen HGz4 1
  have hfz4_2:=blk_frozen HGz4 2
  clear HGz4 hgz4
  go_enter Tryz.func55,Tryz.ntmps55
  go_wp2
  repeat (go_quiet (fail);try go_wp2)
  go_ret
  exact ⟨zW0,zi092 HI0,zj092 HB HI0,zk0 HK⟩
 ·replace c3:=Bool.eq_false_iff.mpr c3
  subst c3
  rw [if_neg (show ¬ (false = true) by decide)] at H
  by_cases c5 : a1 > (wrap64 ((s0_0.size : Int) - s0_1))
  ·rw [if_pos c5] at H
   have c5b0 : decide ((wrap64 ((s0_0.size : Int) - s0_1)) < a1) = true:=decide_eq_true c5
   clear c5
   simp only [Option.some.injEq,Prod.mk.injEq] at H
   obtain ⟨rfl,rfl,rfl,rfl⟩:=H
   obtain ⟨HGz6,hgz6⟩:=HI0.out
   have hcz6_0:=cellS92_0 HGz6
   have hcz6_1:=cellS92_1 HGz6
   have hcz6_2:=cellS92_2 HGz6
   have hfz6_0:=blk_frozen HGz6 0
   have hfz6_1:=blk_frozen HGz6 1
   have hfz6_2:=blk_frozen HGz6 2
   clear HGz6 hgz6
   go_enter Tryz.func55,Tryz.ntmps55
   go_wp2
   repeat (go_quiet (fail);try go_wp2)
   go_ret
   exact ⟨zW0,zi092 HI0,zj092 HB HI0,zk0 HK⟩
  ·rw [if_neg c5] at H
   have c5b0 : decide ((wrap64 ((s0_0.size : Int) - s0_1)) < a1) = false:=decide_eq_false c5
   clear c5
   obtain ⟨ji7,hji7⟩ : ∃ j_ : Int,(wrap64 ((wrap64 (s0_1 + a1)) - a1)) = j_:=⟨_,rfl⟩
   replace H : (if 0 ≤ (ji7) then (if (ji7) ≤ (wrap64 (s0_1 + a1)) then (if (wrap64 (s0_1 + a1)) ≤ (s0_0.size : Int) then (some (s0_0.extract ((ji7) : Int).toNat ((wrap64 (s0_1 + a1)) : Int).toNat,s0_0,wrap64 (s0_1 + a1),false)) else (none)) else (none)) else (none)) = some (r1,r2,r3,r4):=by first | (rw [hji7] at H;exact H) | (simp only [hji7] at H ⊢;exact H)
   have hji7w : (IntKind.i64.wrap ((wrap64 (s0_1 + a1)) - a1)) = ji7:=(i64_w _).trans hji7
   by_cases c8 : 0 ≤ (ji7)
   ·rw [if_pos c8] at H
    have c8b0:=eq_true c8
    have c8b1 : decide (0 ≤ (ji7)) = true:=decide_eq_true c8
    clear c8
    by_cases c9 : (ji7) ≤ (wrap64 (s0_1 + a1))
    ·rw [if_pos c9] at H
     have c9b0:=eq_true c9
     have c9b1 : decide ((ji7) ≤ (wrap64 (s0_1 + a1))) = true:=decide_eq_true c9
     by_cases c10 : (wrap64 (s0_1 + a1)) ≤ (s0_0.size : Int)
     ·rw [if_pos c10] at H
      have c10b0:=eq_true c10
      have c10b1 : decide ((wrap64 (s0_1 + a1)) ≤ (s0_0.size : Int)) = true:=decide_eq_true c10
      simp only [Option.some.injEq,Prod.mk.injEq] at H
      obtain ⟨rfl,rfl,rfl,rfl⟩:=H
      obtain ⟨HGz11,hgz11⟩:=HI0.out
      have hcz11_0:=cellS92_0 HGz11
      have hcz11_1:=cellS92_1 HGz11
      have hcz11_2:=cellS92_2 HGz11
      have hfz11_0:=blk_frozen HGz11 0
      have hfz11_1:=blk_frozen HGz11 1
      have hfz11_2:=blk_frozen HGz11 2
      clear HGz11 hgz11
      go_enter Tryz.func55,Tryz.ntmps55
      go_wp2
      repeat (go_quiet (fail);try go_wp2)
      go_ret
      exact ⟨by first | rfl | (simp [errW_none,errW_some] <;> rfl) | (simp only [← hji7];first | rfl | (simp [errW_none,errW_some] <;> rfl)) | (simp [*,errW_none,errW_some] <;> rfl),zi092 HI0,zj092 HB HI0,zk0 HK⟩
     ·rw [if_neg c10] at H
      exact absurd H (by simp)
    ·rw [if_neg c9] at H
     exact absurd H (by simp)
   ·rw [if_neg c8] at H
    exact absurd H (by simp)

/-! ### spec_l05Var: function 56 (a text of its own) -/
def spec_l05Var.f (k : Nat) (s0_0 : ByteArray) (s0_1 : Int) (s0_2 : Bool) : Option (Int × ByteArray × Int × Bool):=(spec_ReadVar.f k s0_0 s0_1).bind fun bt => (if s0_2 = true then (some (0,s0_0,s0_1,true)) else (if bt.2.2 = true then (some (bt.1,s0_0,bt.2.1,false)) else (some (0,s0_0,s0_1,true))))
theorem spec_l05Var.mono : ∀ a0 a1 a2 k,LeO (spec_l05Var.f k a0 a1 a2) (spec_l05Var.f (k + 1) a0 a1 a2):=by
 intro a0 a1 a2 k
 unfold spec_l05Var.f
 exact LeO.bind (spec_ReadVar.mono _ _ _) (fun _ => LeO.refl _)
set_option maxHeartbeats 8000000 in
set_option maxRecDepth 100000 in
theorem spec_l05Var.calls (k : Nat) (g : Nat) (s0_0 : ByteArray) (s0_1 : Int) (s0_2 : Bool) (r1 : Int) (r2 : ByteArray) (r3 : Int) (r4 : Bool) (w0 w : World) (hI : IsS92 w0 w g s0_0 s0_1 s0_2) (hB : Below w0.heap.size w0 w) (h : spec_l05Var.f k s0_0 s0_1 s0_2 = some (r1,r2,r3,r4)) :
  Calls Tryz.prog 56 #[.pointer (some ⟨g,0,none⟩)] w fun e w' => e = .returned (.int .i64 r1) ∧ IsS92 w0 w' g r2 r3 r4 ∧ Below w0.heap.size w0 w' ∧ KeepBut w w' g none:=by
 obtain ⟨⟨t1,t2,t3⟩,A,H⟩:=Option.bind_eq_some_iff.mp h
 clear h
 have hc:=spec_ReadVar.calls k s0_0 s0_1 t1 t2 t3 w.drew A
 have c0:=cellS92_0 hI.1
 have c1:=cellS92_1 hI.1
 have hlt : g < w.heap.size:=hI.lt
 have HI:=Aside0.mk hI
 have HB:=Aside0.mk hB
 clear hI hB A
 dsimp only at H
 go_enter Tryz.func56,Tryz.ntmps56
 go_wp2_with fail
 go_region_held3 (fun w' => w'.cell? ⟨g,0,none⟩ = some (.string s0_0) ∧ w'.cell? ⟨g,1,none⟩ = some (.int .i64 s0_1))
  (first
   | go_keep
   | exact ⟨(hb1.cell (p:=⟨g,0,none⟩) hlt).trans c0,(hb1.cell (p:=⟨g,1,none⟩) hlt).trans c1⟩)
  (first | (go_simp;go_at_call 54;refine hc.mono ?_;rintro e w1 ⟨rfl,hb1⟩))
 have hI1 : IsS92 w0 w1 g s0_0 s0_1 s0_2:=IsS92.below (W:=w.drew) (IsS92.drew HI.out) hb1
 have hB1 : Below w0.heap.size w0 w1:=below_step (below_drew1 HB.out) hb1
 have hK1 : KeepBut w w1 g none:=KeepBut.trans (keep_drew (KeepBut.refl w g none)) (KeepBut.of_below hb1 g none) (.inl rfl)
 clear c0 c1 hc
 have d1:=cellS92_1 hI1.1
 have d2:=cellS92_2 hI1.1
 have f1:=blk_frozen hI1.1 1
 have f2:=blk_frozen hI1.1 2
 have HI1:=Aside0.mk hI1
 have HB1:=Aside0.mk hB1
 have HK1:=Aside0.mk hK1
 clear HI HB hI1 hB1 hK1 hb1
 cases s0_2 with
 | true =>
  rw [if_pos rfl] at H
  obtain ⟨rfl,rfl,rfl,rfl⟩ : 0 = r1 ∧ s0_0 = r2 ∧ s0_1 = r3 ∧ true = r4:=by simpa using H
  go_wp2
  go_ret
  exact ⟨rfl,IsS92.set_2 HI1.out _,below_set HB1.out (IsS92.ge HI1.out),KeepBut.set_ HK1.out _ _⟩
 | false =>
  rw [if_neg (by decide)] at H
  cases t3 with
  | true =>
   rw [if_pos rfl] at H
   obtain ⟨rfl,rfl,rfl,rfl⟩ : t1 = r1 ∧ s0_0 = r2 ∧ t2 = r3 ∧ false = r4:=by simpa using H
   go_wp2
   go_ret
   exact ⟨rfl,IsS92.set_1 HI1.out _,below_set HB1.out (IsS92.ge HI1.out),KeepBut.set_ HK1.out _ _⟩
  | false =>
   rw [if_neg (by decide)] at H
   obtain ⟨rfl,rfl,rfl,rfl⟩ : 0 = r1 ∧ s0_0 = r2 ∧ s0_1 = r3 ∧ true = r4:=by simpa using H
   go_wp2
   go_ret
   exact ⟨rfl,IsS92.set_2 HI1.out _,below_set HB1.out (IsS92.ge HI1.out),KeepBut.set_ HK1.out _ _⟩

/-! ### spec_l06Head: function 34 -/
def spec_l06Head.f (k : Nat) (a0 : Int) (a1 : ByteArray) : Option (Int × Bool):=(spec_l05Take.f a1 0 false 1).bind fun bt156 => ((spec_l05Var.f k bt156.2.1 bt156.2.2.1 bt156.2.2.2).bind fun bt160 => ((spec_l05Var.f k bt160.2.1 bt160.2.2.1 bt160.2.2.2).bind fun bt164 => (if bt164.2.2.2 = true then (some (0,false)) else (if bt160.1 = a0 then ((spec_l01In.f bt164.1 0 a0).bind fun t168 => (if t168 = true then ((spec_l01Var.f k a0).bind fun t169 => (if 1 + t169.size ≤ 9223372036854775807 then ((spec_l01Var.f k bt164.1).bind fun t170 => (if ((⟨#[72]⟩ : ByteArray) ++ t169).size + t170.size ≤ 9223372036854775807 then (if (((⟨#[72]⟩ : ByteArray) ++ t169) ++ t170).toList = a1.toList then (some (bt164.1,true)) else (some (0,false))) else (none))) else (none))) else (some (0,false)))) else (some (0,false))))))
theorem spec_l06Head.mono : ∀ a0 a1 k,LeO (spec_l06Head.f k a0 a1) (spec_l06Head.f (k + 1) a0 a1):=by
 intro a0 a1 k
 unfold spec_l06Head.f
 repeat' first
  | (with_reducible exact spec_l01Var.mono _ _)
  | (with_reducible exact spec_l05Var.mono _ _ _ _)
  | (with_reducible exact LeO.refl _)
  | (with_reducible exact LeO.none _)
  | (with_reducible refine LeO.ite ?_ ?_)
  | (with_reducible refine LeO.bind ?_ (fun _ => ?_))
set_option maxHeartbeats 8000000 in
set_option maxRecDepth 100000 in
theorem spec_l06Head.calls (k : Nat) (a0 : Int) (a1 : ByteArray) (r1 : Int) (r2 : Bool) (w : World) (h : spec_l06Head.f k a0 a1 = some (r1,r2)) :
  Calls Tryz.prog 34 #[.int .i64 a0,.string a1] w fun e w' => e = .returned (.tuple #[.int .i64 r1,.bool r2]) ∧ Below w.heap.size w w':=by
 have hu92:=Tryz.underlying92
 have HB:=Aside0.mk (Below.refl w.heap.size w)
 have H : ((spec_l05Take.f a1 0 false 1).bind fun bt156 => ((spec_l05Var.f k bt156.2.1 bt156.2.2.1 bt156.2.2.2).bind fun bt160 => ((spec_l05Var.f k bt160.2.1 bt160.2.2.1 bt160.2.2.2).bind fun bt164 => (if bt164.2.2.2 = true then (some (0,false)) else (if bt160.1 = a0 then ((spec_l01In.f bt164.1 0 a0).bind fun t168 => (if t168 = true then ((spec_l01Var.f k a0).bind fun t169 => (if 1 + t169.size ≤ 9223372036854775807 then ((spec_l01Var.f k bt164.1).bind fun t170 => (if ((⟨#[72]⟩ : ByteArray) ++ t169).size + t170.size ≤ 9223372036854775807 then (if (((⟨#[72]⟩ : ByteArray) ++ t169) ++ t170).toList = a1.toList then (some (bt164.1,true)) else (some (0,false))) else (none))) else (none))) else (some (0,false)))) else (some (0,false))))))) = some (r1,r2):=h
 clear h
 obtain ⟨⟨t156,t157,t158,t159⟩,A3,H⟩:=bX0 H
 dsimp only at H
 obtain ⟨⟨t160,t161,t162,t163⟩,A4,H⟩:=bX0 H
 dsimp only at H
 obtain ⟨⟨t164,t165,t166,t167⟩,A5,H⟩:=bX0 H
 dsimp only at H
 by_cases c6 : t167 = true
 ·subst c6
  rw [if_pos rfl] at H
  simp only [Option.some.injEq,Prod.mk.injEq] at H
  obtain ⟨rfl,rfl⟩:=H
  go_enter Tryz.func34,Tryz.ntmps34
  go_wp2_with (first | ((with_reducible refine gate_dst (N:=11) rfl ?_);refine zy0 (cs:=#[.string a1,.int .i64 0,.bool false]) (t:=92) ?_;intro gb155 hg w7 hbox hb;have HI155:=Aside0.mk ((show IsS92 w w7 gb155 a1 0 false from ⟨hbox,by rw [hg];exact (zZ0 HB.out)⟩));replace HB:=zs0 HB hb;clear hb hbox hg) | ((with_reducible refine gate_callee (f:=55) rfl ?_);refine goesL_ (some 13) rfl rfl Tryz.func55 (by kernel_rfl) rfl #[.pointer (some ⟨gb155,0,none⟩),.int .i64 1] rfl zM0 ?_;(with_reducible refine (spec_l05Take.calls gb155 a1 0 false 1 t156 t157 t158 t159 w _ ?side1 ?side2 A3.out).mono ?_);(case side1 => exact zi092 HI155);(case side2 => exact zj092 HB HI155);rintro e w8 ⟨rfl,hi,hb,hk⟩;refine ⟨_,rfl,?_⟩;replace HB:=Aside0.mk hb;replace HI155:=Aside0.mk hi;(try clear hb);(try clear hk);(try clear hi)) | ((with_reducible refine gate_callee (f:=56) rfl ?_);refine goesL_ (some 15) rfl rfl Tryz.func56 (by kernel_rfl) rfl #[.pointer (some ⟨gb155,0,none⟩)] rfl zM0 ?_;(with_reducible refine (spec_l05Var.calls k gb155 t157 t158 t159 t160 t161 t162 t163 w _ ?side1 ?side2 A4.out).mono ?_);(case side1 => exact zi092 HI155);(case side2 => exact zj092 HB HI155);rintro e w9 ⟨rfl,hi,hb,hk⟩;refine ⟨_,rfl,?_⟩;replace HB:=Aside0.mk hb;replace HI155:=Aside0.mk hi;(try clear hb);(try clear hk);(try clear hi)) | ((with_reducible refine gate_callee (f:=56) rfl ?_);refine goesL_ (some 17) rfl rfl Tryz.func56 (by kernel_rfl) rfl #[.pointer (some ⟨gb155,0,none⟩)] rfl zM0 ?_;(with_reducible refine (spec_l05Var.calls k gb155 t161 t162 t163 t164 t165 t166 true w _ ?side1 ?side2 A5.out).mono ?_);(case side1 => exact zi092 HI155);(case side2 => exact zj092 HB HI155);rintro e w10 ⟨rfl,hi,hb,hk⟩;refine ⟨_,rfl,?_⟩;replace HB:=Aside0.mk hb;replace HI155:=Aside0.mk hi;(try clear hb);(try clear hk);(try clear hi);obtain ⟨HGz11,hgz11⟩:=HI155.out;have hcz11_0:=cellS92_0 HGz11;have hcz11_1:=cellS92_1 HGz11;have hcz11_2:=cellS92_2 HGz11;have hfz11_0:=blk_frozen HGz11 0;have hfz11_1:=blk_frozen HGz11 1;have hfz11_2:=blk_frozen HGz11 2;clear HGz11 hgz11))
  go_ret2
  exact ⟨zW0,zj092 HB HI155⟩
 ·replace c6:=Bool.eq_false_iff.mpr c6
  subst c6
  rw [if_neg (show ¬ (false = true) by decide)] at H
  by_cases c12 : t160 = a0
  ·rw [if_pos c12] at H
   have c12b0 : (t160 == a0) = true:=beq_iff_eq.mpr c12
   have c12b1 : (t160 != a0) = false:=bne_eq_false_iff_eq.mpr c12
   clear c12
   obtain ⟨t168,A13,H⟩:=bX0 H
   by_cases c14 : t168 = true
   ·subst c14
    rw [if_pos rfl] at H
    obtain ⟨t169,A15,H⟩:=bX0 H
    by_cases c16 : 1 + t169.size ≤ 9223372036854775807
    ·rw [if_pos c16] at H
     have c16b0:=eq_true c16
     have c16b1 : decide (1 + t169.size ≤ 9223372036854775807) = true:=decide_eq_true c16
     try have c16b2 : (9223372036854775807 < 1 + t169.size) = False:=eq_false (Nat.not_lt.2 c16)
     obtain ⟨t170,A17,H⟩:=bX0 H
     by_cases c18 : ((⟨#[72]⟩ : ByteArray) ++ t169).size + t170.size ≤ 9223372036854775807
     ·rw [if_pos c18] at H
      have c18b0:=eq_true c18
      have c18b1 : decide (((⟨#[72]⟩ : ByteArray) ++ t169).size + t170.size ≤ 9223372036854775807) = true:=decide_eq_true c18
      try have c18b2 : (9223372036854775807 < ((⟨#[72]⟩ : ByteArray) ++ t169).size + t170.size) = False:=eq_false (Nat.not_lt.2 c18)
      have c18n:=c18
      simp only [ByteArray.size_append] at c18n
      have c18m1:=eq_true c18n
      have c18m2:=decide_eq_true c18n
      have c18m3:=eq_false (Nat.not_lt.2 c18n)
      try have c18q:=c18n
      try simp only [show (⟨#[66]⟩ : ByteArray).size = 1 from rfl,show (⟨#[72]⟩ : ByteArray).size = 1 from rfl] at c18q
      try have c18q1:=eq_true c18q
      try have c18q2:=decide_eq_true c18q
      try have c18q3:=eq_false (Nat.not_lt.2 c18q)
      by_cases c19 : (((⟨#[72]⟩ : ByteArray) ++ t169) ++ t170).toList = a1.toList
      ·rw [if_pos c19] at H
       have c19b0 : ((((⟨#[72]⟩ : ByteArray) ++ t169) ++ t170).toList == a1.toList) = true:=beq_iff_eq.mpr c19
       have c19b1 : ((((⟨#[72]⟩ : ByteArray) ++ t169) ++ t170).toList != a1.toList) = false:=bne_eq_false_iff_eq.mpr c19
       clear c19
       simp only [Option.some.injEq,Prod.mk.injEq] at H
       obtain ⟨rfl,rfl⟩:=H
       go_enter Tryz.func34,Tryz.ntmps34
       go_wp2_with (first | ((with_reducible refine gate_dst (N:=11) rfl ?_);refine zy0 (cs:=#[.string a1,.int .i64 0,.bool false]) (t:=92) ?_;intro gb155 hg w20 hbox hb;have HI155:=Aside0.mk ((show IsS92 w w20 gb155 a1 0 false from ⟨hbox,by rw [hg];exact (zZ0 HB.out)⟩));replace HB:=zs0 HB hb;clear hb hbox hg) | ((with_reducible refine gate_callee (f:=55) rfl ?_);refine goesL_ (some 13) rfl rfl Tryz.func55 (by kernel_rfl) rfl #[.pointer (some ⟨gb155,0,none⟩),.int .i64 1] rfl zM0 ?_;(with_reducible refine (spec_l05Take.calls gb155 a1 0 false 1 t156 t157 t158 t159 w _ ?side1 ?side2 A3.out).mono ?_);(case side1 => exact zi092 HI155);(case side2 => exact zj092 HB HI155);rintro e w21 ⟨rfl,hi,hb,hk⟩;refine ⟨_,rfl,?_⟩;replace HB:=Aside0.mk hb;replace HI155:=Aside0.mk hi;(try clear hb);(try clear hk);(try clear hi)) | ((with_reducible refine gate_callee (f:=56) rfl ?_);refine goesL_ (some 15) rfl rfl Tryz.func56 (by kernel_rfl) rfl #[.pointer (some ⟨gb155,0,none⟩)] rfl zM0 ?_;(with_reducible refine (spec_l05Var.calls k gb155 t157 t158 t159 t160 t161 t162 t163 w _ ?side1 ?side2 A4.out).mono ?_);(case side1 => exact zi092 HI155);(case side2 => exact zj092 HB HI155);rintro e w22 ⟨rfl,hi,hb,hk⟩;refine ⟨_,rfl,?_⟩;replace HB:=Aside0.mk hb;replace HI155:=Aside0.mk hi;(try clear hb);(try clear hk);(try clear hi)) | ((with_reducible refine gate_callee (f:=56) rfl ?_);refine goesL_ (some 17) rfl rfl Tryz.func56 (by kernel_rfl) rfl #[.pointer (some ⟨gb155,0,none⟩)] rfl zM0 ?_;(with_reducible refine (spec_l05Var.calls k gb155 t161 t162 t163 t164 t165 t166 false w _ ?side1 ?side2 A5.out).mono ?_);(case side1 => exact zi092 HI155);(case side2 => exact zj092 HB HI155);rintro e w23 ⟨rfl,hi,hb,hk⟩;refine ⟨_,rfl,?_⟩;replace HB:=Aside0.mk hb;replace HI155:=Aside0.mk hi;(try clear hb);(try clear hk);(try clear hi);obtain ⟨HGz24,hgz24⟩:=HI155.out;have hcz24_0:=cellS92_0 HGz24;have hcz24_1:=cellS92_1 HGz24;have hcz24_2:=cellS92_2 HGz24;have hfz24_0:=blk_frozen HGz24 0;have hfz24_1:=blk_frozen HGz24 1;have hfz24_2:=blk_frozen HGz24 2;clear HGz24 hgz24) | (go_at_call 31;(with_reducible refine (spec_l01In.calls t164 0 a0 true _ A13.out).mono ?_);rintro e w' ⟨rfl,⟨nd,rfl⟩⟩) | (go_at_call 57;(with_reducible refine (spec_l01Var.calls k a0 t169 _ A15.out).mono ?_);rintro e w25 ⟨rfl,hb⟩;replace HB:=Aside0.mk (below_step (zj092 HB HI155) hb);replace HI155:=Aside0.mk (IsS92.below (zi092 HI155) hb);(try clear hb);(try clear hk);(try clear hi)) | (go_at_call 57;(with_reducible refine (spec_l01Var.calls k t164 t170 _ A17.out).mono ?_);rintro e w26 ⟨rfl,hb⟩;replace HB:=Aside0.mk (below_step (zj092 HB HI155) hb);replace HI155:=Aside0.mk (IsS92.below (zi092 HI155) hb);(try clear hb);(try clear hk);(try clear hi)))
       go_ret2
       exact ⟨zW0,zj092 HB HI155⟩
      ·rw [if_neg c19] at H
       have c19b0 : ((((⟨#[72]⟩ : ByteArray) ++ t169) ++ t170).toList == a1.toList) = false:=beq_eq_false_iff_ne.mpr c19
       have c19b1 : ((((⟨#[72]⟩ : ByteArray) ++ t169) ++ t170).toList != a1.toList) = true:=bne_iff_ne.mpr c19
       simp only [Option.some.injEq,Prod.mk.injEq] at H
       obtain ⟨rfl,rfl⟩:=H
       go_enter Tryz.func34,Tryz.ntmps34
       go_wp2_with (first | ((with_reducible refine gate_dst (N:=11) rfl ?_);refine zy0 (cs:=#[.string a1,.int .i64 0,.bool false]) (t:=92) ?_;intro gb155 hg w27 hbox hb;have HI155:=Aside0.mk ((show IsS92 w w27 gb155 a1 0 false from ⟨hbox,by rw [hg];exact (zZ0 HB.out)⟩));replace HB:=zs0 HB hb;clear hb hbox hg) | ((with_reducible refine gate_callee (f:=55) rfl ?_);refine goesL_ (some 13) rfl rfl Tryz.func55 (by kernel_rfl) rfl #[.pointer (some ⟨gb155,0,none⟩),.int .i64 1] rfl zM0 ?_;(with_reducible refine (spec_l05Take.calls gb155 a1 0 false 1 t156 t157 t158 t159 w _ ?side1 ?side2 A3.out).mono ?_);(case side1 => exact zi092 HI155);(case side2 => exact zj092 HB HI155);rintro e w28 ⟨rfl,hi,hb,hk⟩;refine ⟨_,rfl,?_⟩;replace HB:=Aside0.mk hb;replace HI155:=Aside0.mk hi;(try clear hb);(try clear hk);(try clear hi)) | ((with_reducible refine gate_callee (f:=56) rfl ?_);refine goesL_ (some 15) rfl rfl Tryz.func56 (by kernel_rfl) rfl #[.pointer (some ⟨gb155,0,none⟩)] rfl zM0 ?_;(with_reducible refine (spec_l05Var.calls k gb155 t157 t158 t159 t160 t161 t162 t163 w _ ?side1 ?side2 A4.out).mono ?_);(case side1 => exact zi092 HI155);(case side2 => exact zj092 HB HI155);rintro e w29 ⟨rfl,hi,hb,hk⟩;refine ⟨_,rfl,?_⟩;replace HB:=Aside0.mk hb;replace HI155:=Aside0.mk hi;(try clear hb);(try clear hk);(try clear hi)) | ((with_reducible refine gate_callee (f:=56) rfl ?_);refine goesL_ (some 17) rfl rfl Tryz.func56 (by kernel_rfl) rfl #[.pointer (some ⟨gb155,0,none⟩)] rfl zM0 ?_;(with_reducible refine (spec_l05Var.calls k gb155 t161 t162 t163 t164 t165 t166 false w _ ?side1 ?side2 A5.out).mono ?_);(case side1 => exact zi092 HI155);(case side2 => exact zj092 HB HI155);rintro e w30 ⟨rfl,hi,hb,hk⟩;refine ⟨_,rfl,?_⟩;replace HB:=Aside0.mk hb;replace HI155:=Aside0.mk hi;(try clear hb);(try clear hk);(try clear hi);obtain ⟨HGz31,hgz31⟩:=HI155.out;have hcz31_0:=cellS92_0 HGz31;have hcz31_1:=cellS92_1 HGz31;have hcz31_2:=cellS92_2 HGz31;have hfz31_0:=blk_frozen HGz31 0;have hfz31_1:=blk_frozen HGz31 1;have hfz31_2:=blk_frozen HGz31 2;clear HGz31 hgz31) | (go_at_call 31;(with_reducible refine (spec_l01In.calls t164 0 a0 true _ A13.out).mono ?_);rintro e w' ⟨rfl,⟨nd,rfl⟩⟩) | (go_at_call 57;(with_reducible refine (spec_l01Var.calls k a0 t169 _ A15.out).mono ?_);rintro e w32 ⟨rfl,hb⟩;replace HB:=Aside0.mk (below_step (zj092 HB HI155) hb);replace HI155:=Aside0.mk (IsS92.below (zi092 HI155) hb);(try clear hb);(try clear hk);(try clear hi)) | (go_at_call 57;(with_reducible refine (spec_l01Var.calls k t164 t170 _ A17.out).mono ?_);rintro e w33 ⟨rfl,hb⟩;replace HB:=Aside0.mk (below_step (zj092 HB HI155) hb);replace HI155:=Aside0.mk (IsS92.below (zi092 HI155) hb);(try clear hb);(try clear hk);(try clear hi)))
       go_ret2
       exact ⟨zW0,zj092 HB HI155⟩
     ·rw [if_neg c18] at H
      exact absurd H (by simp)
    ·rw [if_neg c16] at H
     exact absurd H (by simp)
   ·replace c14:=Bool.eq_false_iff.mpr c14
    subst c14
    rw [if_neg (show ¬ (false = true) by decide)] at H
    simp only [Option.some.injEq,Prod.mk.injEq] at H
    obtain ⟨rfl,rfl⟩:=H
    go_enter Tryz.func34,Tryz.ntmps34
    go_wp2_with (first | ((with_reducible refine gate_dst (N:=11) rfl ?_);refine zy0 (cs:=#[.string a1,.int .i64 0,.bool false]) (t:=92) ?_;intro gb155 hg w34 hbox hb;have HI155:=Aside0.mk ((show IsS92 w w34 gb155 a1 0 false from ⟨hbox,by rw [hg];exact (zZ0 HB.out)⟩));replace HB:=zs0 HB hb;clear hb hbox hg) | ((with_reducible refine gate_callee (f:=55) rfl ?_);refine goesL_ (some 13) rfl rfl Tryz.func55 (by kernel_rfl) rfl #[.pointer (some ⟨gb155,0,none⟩),.int .i64 1] rfl zM0 ?_;(with_reducible refine (spec_l05Take.calls gb155 a1 0 false 1 t156 t157 t158 t159 w _ ?side1 ?side2 A3.out).mono ?_);(case side1 => exact zi092 HI155);(case side2 => exact zj092 HB HI155);rintro e w35 ⟨rfl,hi,hb,hk⟩;refine ⟨_,rfl,?_⟩;replace HB:=Aside0.mk hb;replace HI155:=Aside0.mk hi;(try clear hb);(try clear hk);(try clear hi)) | ((with_reducible refine gate_callee (f:=56) rfl ?_);refine goesL_ (some 15) rfl rfl Tryz.func56 (by kernel_rfl) rfl #[.pointer (some ⟨gb155,0,none⟩)] rfl zM0 ?_;(with_reducible refine (spec_l05Var.calls k gb155 t157 t158 t159 t160 t161 t162 t163 w _ ?side1 ?side2 A4.out).mono ?_);(case side1 => exact zi092 HI155);(case side2 => exact zj092 HB HI155);rintro e w36 ⟨rfl,hi,hb,hk⟩;refine ⟨_,rfl,?_⟩;replace HB:=Aside0.mk hb;replace HI155:=Aside0.mk hi;(try clear hb);(try clear hk);(try clear hi)) | ((with_reducible refine gate_callee (f:=56) rfl ?_);refine goesL_ (some 17) rfl rfl Tryz.func56 (by kernel_rfl) rfl #[.pointer (some ⟨gb155,0,none⟩)] rfl zM0 ?_;(with_reducible refine (spec_l05Var.calls k gb155 t161 t162 t163 t164 t165 t166 false w _ ?side1 ?side2 A5.out).mono ?_);(case side1 => exact zi092 HI155);(case side2 => exact zj092 HB HI155);rintro e w37 ⟨rfl,hi,hb,hk⟩;refine ⟨_,rfl,?_⟩;replace HB:=Aside0.mk hb;replace HI155:=Aside0.mk hi;(try clear hb);(try clear hk);(try clear hi);obtain ⟨HGz38,hgz38⟩:=HI155.out;have hcz38_0:=cellS92_0 HGz38;have hcz38_1:=cellS92_1 HGz38;have hcz38_2:=cellS92_2 HGz38;have hfz38_0:=blk_frozen HGz38 0;have hfz38_1:=blk_frozen HGz38 1;have hfz38_2:=blk_frozen HGz38 2;clear HGz38 hgz38) | (go_at_call 31;(with_reducible refine (spec_l01In.calls t164 0 a0 false _ A13.out).mono ?_);rintro e w' ⟨rfl,⟨nd,rfl⟩⟩))
    go_ret2
    exact ⟨zW0,zj092 HB HI155⟩
  ·rw [if_neg c12] at H
   have c12b0 : (t160 == a0) = false:=beq_eq_false_iff_ne.mpr c12
   have c12b1 : (t160 != a0) = true:=bne_iff_ne.mpr c12
   simp only [Option.some.injEq,Prod.mk.injEq] at H
   obtain ⟨rfl,rfl⟩:=H
   go_enter Tryz.func34,Tryz.ntmps34
   go_wp2_with (first | ((with_reducible refine gate_dst (N:=11) rfl ?_);refine zy0 (cs:=#[.string a1,.int .i64 0,.bool false]) (t:=92) ?_;intro gb155 hg w39 hbox hb;have HI155:=Aside0.mk ((show IsS92 w w39 gb155 a1 0 false from ⟨hbox,by rw [hg];exact (zZ0 HB.out)⟩));replace HB:=zs0 HB hb;clear hb hbox hg) | ((with_reducible refine gate_callee (f:=55) rfl ?_);refine goesL_ (some 13) rfl rfl Tryz.func55 (by kernel_rfl) rfl #[.pointer (some ⟨gb155,0,none⟩),.int .i64 1] rfl zM0 ?_;(with_reducible refine (spec_l05Take.calls gb155 a1 0 false 1 t156 t157 t158 t159 w _ ?side1 ?side2 A3.out).mono ?_);(case side1 => exact zi092 HI155);(case side2 => exact zj092 HB HI155);rintro e w40 ⟨rfl,hi,hb,hk⟩;refine ⟨_,rfl,?_⟩;replace HB:=Aside0.mk hb;replace HI155:=Aside0.mk hi;(try clear hb);(try clear hk);(try clear hi)) | ((with_reducible refine gate_callee (f:=56) rfl ?_);refine goesL_ (some 15) rfl rfl Tryz.func56 (by kernel_rfl) rfl #[.pointer (some ⟨gb155,0,none⟩)] rfl zM0 ?_;(with_reducible refine (spec_l05Var.calls k gb155 t157 t158 t159 t160 t161 t162 t163 w _ ?side1 ?side2 A4.out).mono ?_);(case side1 => exact zi092 HI155);(case side2 => exact zj092 HB HI155);rintro e w41 ⟨rfl,hi,hb,hk⟩;refine ⟨_,rfl,?_⟩;replace HB:=Aside0.mk hb;replace HI155:=Aside0.mk hi;(try clear hb);(try clear hk);(try clear hi)) | ((with_reducible refine gate_callee (f:=56) rfl ?_);refine goesL_ (some 17) rfl rfl Tryz.func56 (by kernel_rfl) rfl #[.pointer (some ⟨gb155,0,none⟩)] rfl zM0 ?_;(with_reducible refine (spec_l05Var.calls k gb155 t161 t162 t163 t164 t165 t166 false w _ ?side1 ?side2 A5.out).mono ?_);(case side1 => exact zi092 HI155);(case side2 => exact zj092 HB HI155);rintro e w42 ⟨rfl,hi,hb,hk⟩;refine ⟨_,rfl,?_⟩;replace HB:=Aside0.mk hb;replace HI155:=Aside0.mk hi;(try clear hb);(try clear hk);(try clear hi);obtain ⟨HGz43,hgz43⟩:=HI155.out;have hcz43_0:=cellS92_0 HGz43;have hcz43_1:=cellS92_1 HGz43;have hcz43_2:=cellS92_2 HGz43;have hfz43_0:=blk_frozen HGz43 0;have hfz43_1:=blk_frozen HGz43 1;have hfz43_2:=blk_frozen HGz43 2;clear HGz43 hgz43))
   go_ret2
   exact ⟨zW0,zj092 HB HI155⟩

/-! ### spec_l05ReadShort: function 60 -/
def spec_l05ReadShort.f (k : Nat) (s0_0 : ByteArray) (s0_1 : Int) (s0_2 : Bool) : Option (ByteArray × ByteArray × Int × Bool):=(spec_l05Var.f k s0_0 s0_1 s0_2).bind fun bt171 => ((spec_l05Take.f bt171.2.1 bt171.2.2.1 bt171.2.2.2 bt171.1).bind fun bt175 => (some (bt175.1,bt175.2.1,bt175.2.2.1,bt175.2.2.2)))
theorem spec_l05ReadShort.mono : ∀ a0 a1 a2 k,LeO (spec_l05ReadShort.f k a0 a1 a2) (spec_l05ReadShort.f (k + 1) a0 a1 a2):=by
 intro a0 a1 a2 k
 unfold spec_l05ReadShort.f
 repeat' first
  | (with_reducible exact spec_l05Var.mono _ _ _ _)
  | (with_reducible exact LeO.refl _)
  | (with_reducible exact LeO.none _)
  | (with_reducible refine LeO.ite ?_ ?_)
  | (with_reducible refine LeO.bind ?_ (fun _ => ?_))
set_option maxHeartbeats 8000000 in
set_option maxRecDepth 100000 in
theorem spec_l05ReadShort.calls (k : Nat) (g : Nat) (s0_0 : ByteArray) (s0_1 : Int) (s0_2 : Bool) (r1 : ByteArray) (r2 : ByteArray) (r3 : Int) (r4 : Bool) (w0 w : World) (hI : IsS92 w0 w g s0_0 s0_1 s0_2) (hB : Below w0.heap.size w0 w) (h : spec_l05ReadShort.f k s0_0 s0_1 s0_2 = some (r1,r2,r3,r4)) :
  Calls Tryz.prog 60 #[.pointer (some ⟨g,0,none⟩)] w fun e w' => e = .returned (.string r1) ∧ IsS92 w0 w' g r2 r3 r4 ∧ Below w0.heap.size w0 w' ∧ KeepBut w w' g none:=by
 have HI0:=Aside0.mk hI
 have HK:=Aside0.mk (KeepBut.refl w g none)
 have HL:=Aside0.mk hB.size
 clear hI
 have HW0:=Aside0.mk hB.size
 have HB:=Aside0.mk hB
 clear hB
 have H : ((spec_l05Var.f k s0_0 s0_1 s0_2).bind fun bt171 => ((spec_l05Take.f bt171.2.1 bt171.2.2.1 bt171.2.2.2 bt171.1).bind fun bt175 => (some (bt175.1,bt175.2.1,bt175.2.2.1,bt175.2.2.2)))) = some (r1,r2,r3,r4):=h
 clear h
 obtain ⟨⟨t171,t172,t173,t174⟩,A2,H⟩:=bX0 H
 dsimp only at H
 obtain ⟨⟨t175,t176,t177,t178⟩,A3,H⟩:=bX0 H
 dsimp only at H
 simp only [Option.some.injEq,Prod.mk.injEq] at H
 obtain ⟨rfl,rfl,rfl,rfl⟩:=H
 go_enter Tryz.func60,Tryz.ntmps60
 go_wp2_with (first | ((with_reducible refine gate_callee (f:=56) rfl ?_);refine goesL_ (some 5) rfl rfl Tryz.func56 (by kernel_rfl) rfl #[.pointer (some ⟨g,0,none⟩)] rfl zM0 ?_;(with_reducible refine (spec_l05Var.calls k g s0_0 s0_1 s0_2 t171 t172 t173 t174 w0 _ ?side1 ?side2 A2.out).mono ?_);(case side1 => exact zi092 HI0);(case side2 => exact zj092 HB HI0);rintro e w4 ⟨rfl,hi,hb,hk⟩;refine ⟨_,rfl,?_⟩;replace HK:=zm0 HK hk;replace HB:=Aside0.mk hb;replace HI0:=Aside0.mk hi;(try clear hb);(try clear hk);(try clear hi)) | ((with_reducible refine gate_callee (f:=55) rfl ?_);refine goesL_ (some 8) rfl rfl Tryz.func55 (by kernel_rfl) rfl #[.pointer (some ⟨g,0,none⟩),.int .i64 t171] rfl zM0 ?_;(with_reducible refine (spec_l05Take.calls g t172 t173 t174 t171 t175 t176 t177 t178 w0 _ ?side1 ?side2 A3.out).mono ?_);(case side1 => exact zi092 HI0);(case side2 => exact zj092 HB HI0);rintro e w5 ⟨rfl,hi,hb,hk⟩;refine ⟨_,rfl,?_⟩;replace HK:=zm0 HK hk;replace HB:=Aside0.mk hb;replace HI0:=Aside0.mk hi;(try clear hb);(try clear hk);(try clear hi)))
 go_ret
 exact ⟨zW0,zi092 HI0,zj092 HB HI0,zk0 HK⟩

end Go.Proofs.YtlekhcopddajbaaGreatDoor.PFnExactSegments
