/- For every text both programs' SumOf come to the same sum. -/
import Derived.Test.YtppnojomcanpoaaPFnExactSumOfx1
import Derived.Test.YtppnojomcanpoaaBase
namespace Go.Proofs.Ytppnojomcanpoaa.Pure
open Go.RowKit Go.Proofs.Ytppnojomcanpoaa.PFnExactSumOf Go.Proofs.YtppnojomcanpoaaW.PrintWords Go.Proofs.YtppnojomcanpoaaW.PrintLast Go.Proofs.Ytppnojomcanpoaa.Base
set_option linter.unusedVariables false
set_option linter.unusedSimpArgs false

theorem spec_SumMore_l1 (s : ByteArray) (i : Int) (h0 : 0 ≤ i) (h1 : i < 140737488355328) (r : Int) : ∀ (d : Nat) (j x : Int), j + d = 8 → 0 ≤ j → Ev (fun k => spec_SumMore.l0 k (sumN d x) s (i + 1)) r → Ev (fun k => spec_SumMore.l1 k x s i j) r := by
  intro d
  induction d with
  | zero =>
    intro j x hj hj0 h
    refine Ev.step (f := fun k => spec_SumMore.l0 k x s (i + 1)) (fun k => ?_) h
    rw [spec_SumMore.l1, if_neg (by omega), w64 (by omega) (by omega)]
  | succ d ih =>
    intro j x hj hj0 h
    refine Ev.step (f := fun k => spec_SumMore.l1 k (sum1 x) s i (j + 1)) (fun k => ?_) (ih (j + 1) (sum1 x) (by omega) (by omega) h)
    rw [spec_SumMore.l1, if_pos (by omega), w64 (by omega) (by omega), sum1]
    split <;> rfl
theorem spec_SumMore_l0 (s : ByteArray) (hs : s.size ≤ 140737488351232) : ∀ (l : List UInt8) (i : Nat) (x : Int), s.data.toList.drop i = l → i ≤ s.size → Ev (fun k => spec_SumMore.l0 k x s i) (sumMore x l) := by
  intro l
  induction l with
  | nil =>
    intro i x hl hi
    have := drop_none hl
    rw [sumMore_nil]
    refine Ev.step (f := fun _ => some x) (fun k => ?_) (Ev.now _)
    rw [spec_SumMore.l0, if_neg (by omega)]
  | cons c l ih =>
    intro i x hl hi
    obtain ⟨hb, hlt, hd⟩ := bt_drop hl
    refine Ev.step (f := fun k => spec_SumMore.l1 k (Go.bits .xor .u32 x ((c.toNat : Int) % 4294967296)) s i 0) (fun k => ?_) ?_
    · rw [spec_SumMore.l0, if_pos (by omega), if_pos (by omega), hb]
    · rw [sumMore_cons, feed]
      exact spec_SumMore_l1 s i (by omega) (by omega) _ 8 0 _ (by omega) (by omega) (ih (i + 1) _ hd (by omega))
theorem spec_SumMore_ev (x : Int) (s : ByteArray) (hs : s.size ≤ 140737488351232) : Ev (fun k => spec_SumMore.f k x s) (sumMore x s.data.toList) :=
  spec_SumMore_l0 s hs s.data.toList 0 x rfl (Nat.zero_le _)

theorem spec_SumOf_ev (s : ByteArray) (hs : s.size ≤ 140737488351232) : Ev (fun k => spec_SumOf.f k s) (sumOf s) := by
  unfold spec_SumOf.f
  exact Ev.bind (spec_SumMore_ev _ s hs) (Ev.now _)

theorem impl_SumMore_l1 (s : ByteArray) (i : Int) (h0 : 0 ≤ i) (h1 : i < 140737488355328) (r : Int) : ∀ (d : Nat) (j x : Int), j + d = 8 → 0 ≤ j → Ev (fun k => impl_SumMore.l0 k (sumN d x) s (i + 1)) r → Ev (fun k => impl_SumMore.l1 k x s i j) r := by
  intro d
  induction d with
  | zero =>
    intro j x hj hj0 h
    refine Ev.step (f := fun k => impl_SumMore.l0 k x s (i + 1)) (fun k => ?_) h
    rw [impl_SumMore.l1, if_neg (by omega), w64 (by omega) (by omega)]
  | succ d ih =>
    intro j x hj hj0 h
    refine Ev.step (f := fun k => impl_SumMore.l1 k (sum1 x) s i (j + 1)) (fun k => ?_) (ih (j + 1) (sum1 x) (by omega) (by omega) h)
    rw [impl_SumMore.l1, if_pos (by omega), w64 (by omega) (by omega), sum1]
    split <;> rfl
theorem impl_SumMore_l0 (s : ByteArray) (hs : s.size ≤ 140737488351232) : ∀ (l : List UInt8) (i : Nat) (x : Int), s.data.toList.drop i = l → i ≤ s.size → Ev (fun k => impl_SumMore.l0 k x s i) (sumMore x l) := by
  intro l
  induction l with
  | nil =>
    intro i x hl hi
    have := drop_none hl
    rw [sumMore_nil]
    refine Ev.step (f := fun _ => some x) (fun k => ?_) (Ev.now _)
    rw [impl_SumMore.l0, if_neg (by omega)]
  | cons c l ih =>
    intro i x hl hi
    obtain ⟨hb, hlt, hd⟩ := bt_drop hl
    refine Ev.step (f := fun k => impl_SumMore.l1 k (Go.bits .xor .u32 x ((c.toNat : Int) % 4294967296)) s i 0) (fun k => ?_) ?_
    · rw [impl_SumMore.l0, if_pos (by omega), if_pos (by omega), hb]
    · rw [sumMore_cons, feed]
      exact impl_SumMore_l1 s i (by omega) (by omega) _ 8 0 _ (by omega) (by omega) (ih (i + 1) _ hd (by omega))
theorem impl_SumMore_ev (x : Int) (s : ByteArray) (hs : s.size ≤ 140737488351232) : Ev (fun k => impl_SumMore.f k x s) (sumMore x s.data.toList) :=
  impl_SumMore_l0 s hs s.data.toList 0 x rfl (Nat.zero_le _)

theorem impl_SumOf_ev (s : ByteArray) (hs : s.size ≤ 140737488351232) : Ev (fun k => impl_SumOf.f k s) (sumOf s) := by
  unfold impl_SumOf.f
  exact Ev.bind (impl_SumMore_ev _ s hs) (Ev.now _)

theorem FnExactSumOf : laws_FnExactSumOf.Pure := by
  intro a0 h0
  refine Ev.rounds (r := true) ?_
  unfold laws_FnExactSumOf.f
  by_cases hb : (a0.size : Int) > 1048576
  · exact Ev.pos hb (Ev.now _)
  refine Ev.neg hb (Ev.bind (spec_SumOf_ev a0 h0) (Ev.bind (impl_SumOf_ev a0 h0) (Ev.pos rfl (Ev.now _))))

end Go.Proofs.Ytppnojomcanpoaa.Pure
