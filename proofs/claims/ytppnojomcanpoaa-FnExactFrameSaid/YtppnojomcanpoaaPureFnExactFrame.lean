/- For every text both programs' Frame come to the same text and the same answer. -/
import Derived.Test.YtppnojomcanpoaaPFnExactFramex2
import Derived.Test.YtppnojomcanpoaaBase
namespace Go.Proofs.Ytppnojomcanpoaa.Pure
open Go.RowKit Go.Proofs.Ytppnojomcanpoaa.PFnExactFrame Go.Proofs.YtppnojomcanpoaaW.PrintWords Go.Proofs.YtppnojomcanpoaaW.PrintLast Go.Proofs.Ytppnojomcanpoaa.Base
set_option linter.unusedVariables false
set_option linter.unusedSimpArgs false

theorem spec_l01In_eq (a b c : Int) : spec_l01In.f a b c = some (decide (b ≤ a ∧ a ≤ c)) := by
  unfold spec_l01In.f
  by_cases h : b ≤ a <;> simp [h]

theorem spec_l01Var_l0 : ∀ (n : Nat) (acc : List Int), acc.length + n < 140737488355327 → Ev (fun k => spec_l01Var.l0 k (n : Int) acc) (strOfNums (acc ++ vl n)) := by
  intro n
  induction n using Nat.strongRecOn with
  | _ n ih =>
    intro acc h
    by_cases hn : n > 127
    · refine Ev.step (f := fun k => spec_l01Var.l0 k ((n / 128 : Nat) : Int) (acc ++ [((n % 128 + 128 : Nat) : Int)])) (fun k => ?_) ?_
      · rw [spec_l01Var.l0, if_pos (by omega), if_pos (by omega), quo128 (by omega), rem128]
      · have e := ih (n / 128) (by omega) (acc ++ [((n % 128 + 128 : Nat) : Int)]) (by rw [List.length_append, List.length_singleton]; omega)
        rw [vl_big hn]
        rwa [List.append_assoc] at e
    · refine Ev.step (f := fun _ => some (strOfNums (acc ++ vl n))) (fun k => ?_) (Ev.now _)
      rw [spec_l01Var.l0, if_neg (by omega), if_pos (by omega), vl_small hn, show (n : Int) % 256 = (n : Int) from by omega]
theorem spec_l01Var_ev {a : Int} (h : 0 ≤ a) (h' : a < 140737488355327) : Ev (fun k => spec_l01Var.f k a) (strOfNums (vl a.toNat)) := by
  obtain ⟨n, rfl⟩ := Int.eq_ofNat_of_zero_le h
  exact spec_l01Var_l0 n [] (by simp; omega)

theorem spec_SumMore_l1 (s : ByteArray) (i : Int) (h0 : 0 ≤ i) (h1 : i < 140737488355328) (r : Int) : ∀ (d : Nat) (j x : Int), j + d = 8 → 0 ≤ j → Ev (fun k => spec_SumMore.l0 k (sumN d x) s (i + 1)) r → Ev (fun k => spec_SumMore.l1 k x s i j) r := by
  intro d
  induction d with
  | zero =>
    intro j x hj hj0 h
    refine Ev.step (f := fun k => spec_SumMore.l0 k x s (i + 1)) (fun k => ?_) h
    rw [spec_SumMore.l1, if_neg (by omega), w64 (by omega) (by omega)]
  | succ d ih =>
    intro j x hj hj0 h
    refine Ev.step (f := fun k => spec_SumMore.l1 k (sum1 x) s i (j + 1)) (fun k => ?_) (ih (j + 1) (sum1 x) (by omega) (by omega) h)
    rw [spec_SumMore.l1, if_pos (by omega), w64 (by omega) (by omega), sum1]
    split <;> rfl
theorem spec_SumMore_l0 (s : ByteArray) (hs : s.size ≤ 140737488351232) : ∀ (l : List UInt8) (i : Nat) (x : Int), s.data.toList.drop i = l → i ≤ s.size → Ev (fun k => spec_SumMore.l0 k x s i) (sumMore x l) := by
  intro l
  induction l with
  | nil =>
    intro i x hl hi
    have := drop_none hl
    rw [sumMore_nil]
    refine Ev.step (f := fun _ => some x) (fun k => ?_) (Ev.now _)
    rw [spec_SumMore.l0, if_neg (by omega)]
  | cons c l ih =>
    intro i x hl hi
    obtain ⟨hb, hlt, hd⟩ := bt_drop hl
    refine Ev.step (f := fun k => spec_SumMore.l1 k (Go.bits .xor .u32 x ((c.toNat : Int) % 4294967296)) s i 0) (fun k => ?_) ?_
    · rw [spec_SumMore.l0, if_pos (by omega), if_pos (by omega), hb]
    · rw [sumMore_cons, feed]
      exact spec_SumMore_l1 s i (by omega) (by omega) _ 8 0 _ (by omega) (by omega) (ih (i + 1) _ hd (by omega))
theorem spec_SumMore_ev (x : Int) (s : ByteArray) (hs : s.size ≤ 140737488351232) : Ev (fun k => spec_SumMore.f k x s) (sumMore x s.data.toList) :=
  spec_SumMore_l0 s hs s.data.toList 0 x rfl (Nat.zero_le _)

theorem spec_SumOf_ev (s : ByteArray) (hs : s.size ≤ 140737488351232) : Ev (fun k => spec_SumOf.f k s) (sumOf s) := by
  unfold spec_SumOf.f
  exact Ev.bind (spec_SumMore_ev _ s hs) (Ev.now _)

theorem spec_Frame_ev (s : ByteArray) (hs : s.size ≤ 140737488351232) : Ev (fun k => spec_Frame.f k s) (frameOf s) := by
  unfold spec_Frame.f frameOf
  refine Ev.bind0 (spec_l01In_eq _ _ _) ?_
  by_cases h : 1 ≤ s.size ∧ s.size ≤ 9000
  · rw [if_pos h]
    refine Ev.pos (by rw [decide_eq_true_eq]; omega) ?_
    have hv := vl_len 2 s.size (by omega) (by omega)
    refine Ev.bind (spec_l01Var_ev (by omega) (by omega)) (Ev.bind (spec_SumOf_ev s hs) (Ev.bind0 (x := four (sumOf s)) rfl ?_))
    rw [Int.toNat_natCast]
    refine Ev.pos (by rw [four_size, strOfNums_size]; omega) (Ev.pos (by rw [app_size, four_size, strOfNums_size]; omega) (Ev.now _))
  · rw [if_neg h]
    exact Ev.neg (by rw [decide_eq_true_eq]; omega) (Ev.now _)

theorem impl_within_eq (a b c : Int) : impl_within.f a b c = some (decide (b ≤ a ∧ a ≤ c)) := by
  unfold impl_within.f
  by_cases h : b ≤ a <;> simp [h]

theorem impl_VarText_l0 : ∀ (n : Nat) (acc : List Int), acc.length + n < 140737488355327 → Ev (fun k => impl_VarText.l0 k (n : Int) acc) (strOfNums (acc ++ vl n), true) := by
  intro n
  induction n using Nat.strongRecOn with
  | _ n ih =>
    intro acc h
    by_cases hn : n > 127
    · refine Ev.step (f := fun k => impl_VarText.l0 k ((n / 128 : Nat) : Int) (acc ++ [((n % 128 + 128 : Nat) : Int)])) (fun k => ?_) ?_
      · rw [impl_VarText.l0, if_pos (by omega), if_pos (by omega), quo128 (by omega), rem128]
      · have e := ih (n / 128) (by omega) (acc ++ [((n % 128 + 128 : Nat) : Int)]) (by rw [List.length_append, List.length_singleton]; omega)
        rw [vl_big hn]
        rwa [List.append_assoc] at e
    · refine Ev.step (f := fun _ => some (strOfNums (acc ++ vl n), true)) (fun k => ?_) (Ev.now _)
      rw [impl_VarText.l0, if_neg (by omega), if_pos (by omega), vl_small hn, show (n : Int) % 256 = (n : Int) from by omega]
theorem impl_VarText_ev (a : Int) : Ev (fun k => impl_VarText.f k a) (varText a) := by
  unfold impl_VarText.f
  refine Ev.bind0 (impl_within_eq _ _ _) ?_
  by_cases h : 0 ≤ a ∧ a ≤ 1000000000
  · refine Ev.pos (by simpa using h) ?_
    rw [varText_yes h.1 h.2]
    obtain ⟨n, rfl⟩ := Int.eq_ofNat_of_zero_le h.1
    exact impl_VarText_l0 n [] (by simp; omega)
  · refine Ev.neg (by simpa using h) (Ev.ret (varText_no h).symm)

theorem impl_SumMore_l1 (s : ByteArray) (i : Int) (h0 : 0 ≤ i) (h1 : i < 140737488355328) (r : Int) : ∀ (d : Nat) (j x : Int), j + d = 8 → 0 ≤ j → Ev (fun k => impl_SumMore.l0 k (sumN d x) s (i + 1)) r → Ev (fun k => impl_SumMore.l1 k x s i j) r := by
  intro d
  induction d with
  | zero =>
    intro j x hj hj0 h
    refine Ev.step (f := fun k => impl_SumMore.l0 k x s (i + 1)) (fun k => ?_) h
    rw [impl_SumMore.l1, if_neg (by omega), w64 (by omega) (by omega)]
  | succ d ih =>
    intro j x hj hj0 h
    refine Ev.step (f := fun k => impl_SumMore.l1 k (sum1 x) s i (j + 1)) (fun k => ?_) (ih (j + 1) (sum1 x) (by omega) (by omega) h)
    rw [impl_SumMore.l1, if_pos (by omega), w64 (by omega) (by omega), sum1]
    split <;> rfl
theorem impl_SumMore_l0 (s : ByteArray) (hs : s.size ≤ 140737488351232) : ∀ (l : List UInt8) (i : Nat) (x : Int), s.data.toList.drop i = l → i ≤ s.size → Ev (fun k => impl_SumMore.l0 k x s i) (sumMore x l) := by
  intro l
  induction l with
  | nil =>
    intro i x hl hi
    have := drop_none hl
    rw [sumMore_nil]
    refine Ev.step (f := fun _ => some x) (fun k => ?_) (Ev.now _)
    rw [impl_SumMore.l0, if_neg (by omega)]
  | cons c l ih =>
    intro i x hl hi
    obtain ⟨hb, hlt, hd⟩ := bt_drop hl
    refine Ev.step (f := fun k => impl_SumMore.l1 k (Go.bits .xor .u32 x ((c.toNat : Int) % 4294967296)) s i 0) (fun k => ?_) ?_
    · rw [impl_SumMore.l0, if_pos (by omega), if_pos (by omega), hb]
    · rw [sumMore_cons, feed]
      exact impl_SumMore_l1 s i (by omega) (by omega) _ 8 0 _ (by omega) (by omega) (ih (i + 1) _ hd (by omega))
theorem impl_SumMore_ev (x : Int) (s : ByteArray) (hs : s.size ≤ 140737488351232) : Ev (fun k => impl_SumMore.f k x s) (sumMore x s.data.toList) :=
  impl_SumMore_l0 s hs s.data.toList 0 x rfl (Nat.zero_le _)

theorem impl_SumOf_ev (s : ByteArray) (hs : s.size ≤ 140737488351232) : Ev (fun k => impl_SumOf.f k s) (sumOf s) := by
  unfold impl_SumOf.f
  exact Ev.bind (impl_SumMore_ev _ s hs) (Ev.now _)

theorem impl_Frame_ev (s : ByteArray) (hs : s.size ≤ 140737488351232) : Ev (fun k => impl_Frame.f k s) (frameOf s) := by
  unfold impl_Frame.f frameOf
  refine Ev.bind0 (impl_within_eq _ _ _) ?_
  by_cases h : 1 ≤ s.size ∧ s.size ≤ 9000
  · rw [if_pos h]
    refine Ev.pos (by rw [decide_eq_true_eq]; omega) ?_
    have hv := vl_len 2 s.size (by omega) (by omega)
    refine Ev.bind (impl_VarText_ev _) (Ev.bind (impl_SumOf_ev s hs) (Ev.bind0 (x := [(sumOf s / 16777216) % 256, (sumOf s / 65536) % 256, (sumOf s / 256) % 256, (sumOf s) % 256]) rfl ?_))
    rw [varText_yes (by omega) (by omega), Int.toNat_natCast]
    have e : strOfNums [(sumOf s / 16777216) % 256, (sumOf s / 65536) % 256, (sumOf s / 256) % 256, (sumOf s) % 256] = four (sumOf s) := rfl
    rw [e]
    refine Ev.pos (by rw [four_size, strOfNums_size]; omega) (Ev.pos (by rw [app_size, four_size, strOfNums_size]; omega) (Ev.now _))
  · rw [if_neg h]
    exact Ev.neg (by rw [decide_eq_true_eq]; omega) (Ev.now _)

theorem FnExactFrame : laws_FnExactFrame.Pure := by
  intro a0 h0
  refine Ev.rounds (r := true) ?_
  unfold laws_FnExactFrame.f
  by_cases hb : (a0.size : Int) > 1048576
  · exact Ev.pos hb (Ev.now _)
  refine Ev.neg hb (Ev.bind (spec_Frame_ev a0 h0) (Ev.bind (impl_Frame_ev a0 h0) ?_))
  simpa using Ev.now true

end Go.Proofs.Ytppnojomcanpoaa.Pure
