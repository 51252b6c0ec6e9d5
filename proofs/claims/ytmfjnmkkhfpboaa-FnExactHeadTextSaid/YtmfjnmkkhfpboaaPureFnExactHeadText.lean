/- For every two numbers both programs' HeadText come to the same text and the same answer. -/
import Derived.Test.YtmfjnmkkhfpboaaOFnExactHeadTextx2
import Derived.Test.YtmfjnmkkhfpboaaBase
import Derived.Test.YtmfjnmkkhfpboaaBase2
namespace Go.Proofs.Ytmfjnmkkhfpboaa.Pure
open Go.RowKit Go.Proofs.Ytmfjnmkkhfpboaa.PFnExactHeadText Go.Proofs.YtmfjnmkkhfpboaaW.PrintWords Go.Proofs.YtmfjnmkkhfpboaaW.PrintLast Go.Proofs.Ytmfjnmkkhfpboaa.Base
set_option linter.unusedVariables false
set_option linter.unusedSimpArgs false

theorem spec_l01In_eq (a b c : Int) : spec_l01In.f a b c = some (decide (b ≤ a ∧ a ≤ c)) := by
  unfold spec_l01In.f
  by_cases h : b ≤ a <;> simp [h]

theorem spec_l01Var_l0 : ∀ (n : Nat) (acc : List Int), acc.length + n < 140737488355327 → Ev (fun k => spec_l01Var.l0 k (n : Int) acc) (strOfNums (acc ++ vl n)) := by
  intro n
  induction n using Nat.strongRecOn with
  | _ n ih =>
    intro acc h
    by_cases hn : n > 127
    · refine Ev.step (f := fun k => spec_l01Var.l0 k ((n / 128 : Nat) : Int) (acc ++ [((n % 128 + 128 : Nat) : Int)])) (fun k => ?_) ?_
      · rw [spec_l01Var.l0, if_pos (by omega), if_pos (by omega), quo128 (by omega), rem128]
      · have e := ih (n / 128) (by omega) (acc ++ [((n % 128 + 128 : Nat) : Int)]) (by rw [List.length_append, List.length_singleton]; omega)
        rw [vl_big hn]
        rwa [List.append_assoc] at e
    · refine Ev.step (f := fun _ => some (strOfNums (acc ++ vl n))) (fun k => ?_) (Ev.now _)
      rw [spec_l01Var.l0, if_neg (by omega), if_pos (by omega), vl_small hn, show (n : Int) % 256 = (n : Int) from by omega]
theorem spec_l01Var_ev {a : Int} (h : 0 ≤ a) (h' : a < 140737488355327) : Ev (fun k => spec_l01Var.f k a) (strOfNums (vl a.toNat)) := by
  obtain ⟨n, rfl⟩ := Int.eq_ofNat_of_zero_le h
  exact spec_l01Var_l0 n [] (by simp; omega)

theorem spec_SumMore_l1 (s : ByteArray) (i : Int) (h0 : 0 ≤ i) (h1 : i < 140737488355328) (r : Int) : ∀ (d : Nat) (j x : Int), j + d = 8 → 0 ≤ j → Ev (fun k => spec_SumMore.l0 k (sumN d x) s (i + 1)) r → Ev (fun k => spec_SumMore.l1 k x s i j) r := by
  intro d
  induction d with
  | zero =>
    intro j x hj hj0 h
    refine Ev.step (f := fun k => spec_SumMore.l0 k x s (i + 1)) (fun k => ?_) h
    rw [spec_SumMore.l1, if_neg (by omega), w64 (by omega) (by omega)]
  | succ d ih =>
    intro j x hj hj0 h
    refine Ev.step (f := fun k => spec_SumMore.l1 k (sum1 x) s i (j + 1)) (fun k => ?_) (ih (j + 1) (sum1 x) (by omega) (by omega) h)
    rw [spec_SumMore.l1, if_pos (by omega), w64 (by omega) (by omega), sum1]
    split <;> rfl
theorem spec_SumMore_l0 (s : ByteArray) (hs : s.size ≤ 140737488351232) : ∀ (l : List UInt8) (i : Nat) (x : Int), s.data.toList.drop i = l → i ≤ s.size → Ev (fun k => spec_SumMore.l0 k x s i) (sumMore x l) := by
  intro l
  induction l with
  | nil =>
    intro i x hl hi
    have := drop_none hl
    rw [sumMore_nil]
    refine Ev.step (f := fun _ => some x) (fun k => ?_) (Ev.now _)
    rw [spec_SumMore.l0, if_neg (by omega)]
  | cons c l ih =>
    intro i x hl hi
    obtain ⟨hb, hlt, hd⟩ := bt_drop hl
    refine Ev.step (f := fun k => spec_SumMore.l1 k (Go.bits .xor .u32 x ((c.toNat : Int) % 4294967296)) s i 0) (fun k => ?_) ?_
    · rw [spec_SumMore.l0, if_pos (by omega), if_pos (by omega), hb]
    · rw [sumMore_cons, feed]
      exact spec_SumMore_l1 s i (by omega) (by omega) _ 8 0 _ (by omega) (by omega) (ih (i + 1) _ hd (by omega))
theorem spec_SumMore_ev (x : Int) (s : ByteArray) (hs : s.size ≤ 140737488351232) : Ev (fun k => spec_SumMore.f k x s) (sumMore x s.data.toList) :=
  spec_SumMore_l0 s hs s.data.toList 0 x rfl (Nat.zero_le _)

theorem spec_SumOf_ev (s : ByteArray) (hs : s.size ≤ 140737488351232) : Ev (fun k => spec_SumOf.f k s) (sumOf s) := by
  unfold spec_SumOf.f
  exact Ev.bind (spec_SumMore_ev _ s hs) (Ev.now _)

theorem spec_Frame_ev (s : ByteArray) (hs : s.size ≤ 140737488351232) : Ev (fun k => spec_Frame.f k s) (frameOf s) := by
  unfold spec_Frame.f frameOf
  refine Ev.bind0 (spec_l01In_eq _ _ _) ?_
  by_cases h : 1 ≤ s.size ∧ s.size ≤ 9000
  · rw [if_pos h]
    refine Ev.pos (by rw [decide_eq_true_eq]; omega) ?_
    have hv := vl_len 2 s.size (by omega) (by omega)
    refine Ev.bind (spec_l01Var_ev (by omega) (by omega)) (Ev.bind (spec_SumOf_ev s hs) (Ev.bind0 (x := four (sumOf s)) rfl ?_))
    rw [Int.toNat_natCast]
    refine Ev.pos (by rw [four_size, strOfNums_size]; omega) (Ev.pos (by rw [app_size, four_size, strOfNums_size]; omega) (Ev.now _))
  · rw [if_neg h]
    exact Ev.neg (by rw [decide_eq_true_eq]; omega) (Ev.now _)

theorem spec_HeadText_no (n f : Int) (h : ¬ (0 ≤ n ∧ n ≤ 99 ∧ 0 ≤ f ∧ f ≤ n)) : Ev (fun k => spec_HeadText.j0 k n f true) (headText n f) := by
  refine Ev.step (f := fun _ => some noText) (fun k => by rw [spec_HeadText.j0, if_pos rfl]; rfl) ?_
  rw [headText, if_neg h]
  exact Ev.now _
theorem spec_HeadText_ev (n f : Int) : Ev (fun k => spec_HeadText.f k n f) (headText n f) := by
  unfold spec_HeadText.f
  refine Ev.bind0 (spec_l01In_eq _ _ _) ?_
  by_cases h : 0 ≤ n ∧ n ≤ 99
  · refine Ev.pos (by simpa using h) (Ev.bind0 (spec_l01In_eq _ _ _) ?_)
    by_cases h' : 0 ≤ f ∧ f ≤ n
    · rw [decide_eq_true h', headText, if_pos ⟨h.1, h.2, h'.1, h'.2⟩]
      refine Ev.succ ?_
      simp only [spec_HeadText.j0]
      have v1 := vl_len 1 n.toNat (by omega) (by omega)
      have v2 := vl_len 1 f.toNat (by omega) (by omega)
      refine Ev.neg (by decide) (Ev.bind (spec_l01Var_ev h.1 (by omega)) ?_)
      have hz : (⟨#[72]⟩ : ByteArray).size = 1 := rfl
      refine Ev.pos (by rw [strOfNums_size]; omega) (Ev.bind (spec_l01Var_ev h'.1 (by omega)) ?_)
      refine Ev.pos (by rw [app_size, strOfNums_size, strOfNums_size]; omega) (Ev.bind (spec_Frame_ev _ (by rw [app_size, app_size, strOfNums_size, strOfNums_size]; omega)) ?_)
      rw [app_assoc]
      exact Ev.now _
    · rw [decide_eq_false h']
      exact spec_HeadText_no n f (by omega)
  · refine Ev.neg (by simpa using h) (spec_HeadText_no n f (by omega))

theorem impl_within_eq (a b c : Int) : impl_within.f a b c = some (decide (b ≤ a ∧ a ≤ c)) := by
  unfold impl_within.f
  by_cases h : b ≤ a <;> simp [h]

theorem impl_VarText_l0 : ∀ (n : Nat) (acc : List Int), acc.length + n < 140737488355327 → Ev (fun k => impl_VarText.l0 k (n : Int) acc) (strOfNums (acc ++ vl n), true) := by
  intro n
  induction n using Nat.strongRecOn with
  | _ n ih =>
    intro acc h
    by_cases hn : n > 127
    · refine Ev.step (f := fun k => impl_VarText.l0 k ((n / 128 : Nat) : Int) (acc ++ [((n % 128 + 128 : Nat) : Int)])) (fun k => ?_) ?_
      · rw [impl_VarText.l0, if_pos (by omega), if_pos (by omega), quo128 (by omega), rem128]
      · have e := ih (n / 128) (by omega) (acc ++ [((n % 128 + 128 : Nat) : Int)]) (by rw [List.length_append, List.length_singleton]; omega)
        rw [vl_big hn]
        rwa [List.append_assoc] at e
    · refine Ev.step (f := fun _ => some (strOfNums (acc ++ vl n), true)) (fun k => ?_) (Ev.now _)
      rw [impl_VarText.l0, if_neg (by omega), if_pos (by omega), vl_small hn, show (n : Int) % 256 = (n : Int) from by omega]
theorem impl_VarText_ev (a : Int) : Ev (fun k => impl_VarText.f k a) (varText a) := by
  unfold impl_VarText.f
  refine Ev.bind0 (impl_within_eq _ _ _) ?_
  by_cases h : 0 ≤ a ∧ a ≤ 1000000000
  · refine Ev.pos (by simpa using h) ?_
    rw [varText_yes h.1 h.2]
    obtain ⟨n, rfl⟩ := Int.eq_ofNat_of_zero_le h.1
    exact impl_VarText_l0 n [] (by simp; omega)
  · refine Ev.neg (by simpa using h) (Ev.ret (varText_no h).symm)

theorem impl_vars_l0 (l : List Int) (hr : ∀ a ∈ l, 0 ≤ a ∧ a ≤ 1000000000) (hl : l.length ≤ 1000) : ∀ (t : List Int) (i : Nat) (acc : List Int), l.drop i = t → i ≤ l.length → acc.length ≤ 5 * i →
    Ev (fun k => impl_vars.l0 k acc l (l.length : Int) (i : Int)) (strOfNums (acc ++ vlAll t), true) := by
  intro t
  induction t with
  | nil =>
    intro i acc ht hi ha
    have := List.drop_eq_nil_iff.1 ht
    rw [vlAll_nil, List.append_nil]
    refine Ev.step (f := fun _ => some (strOfNums acc, true)) (fun k => ?_) (Ev.now _)
    rw [impl_vars.l0, if_neg (by omega)]
  | cons a t ih =>
    intro i acc ht hi ha
    obtain ⟨h1, h2, h3⟩ := rd_drop ht
    have hin : 0 ≤ a ∧ a ≤ 1000000000 := hr a (List.mem_of_mem_drop (by rw [ht]; exact List.mem_cons_self))
    have hv := vl_len 5 a.toNat (by omega) (by omega)
    refine Ev.succ ?_
    simp only [impl_vars.l0, h1, w64 (n := (i : Int) + 1) (by omega) (by omega)]
    refine Ev.pos (by omega) (Ev.pos (by omega) (Ev.pos (by omega) (Ev.bind (impl_VarText_ev a) ?_)))
    rw [varText_yes hin.1 hin.2]
    refine Ev.pos rfl (Ev.pos (by rw [strOfNums_size]; omega) ?_)
    rw [bytesOf_nums _ (vl_range 5 a.toNat (by omega) (by omega)), vlAll_cons, ← List.append_assoc]
    exact ih (i + 1) (acc ++ vl a.toNat) h3 (by omega) (by rw [List.length_append]; omega)
theorem impl_vars_ev (l : List Int) (hr : ∀ a ∈ l, 0 ≤ a ∧ a ≤ 1000000000) (hl : l.length ≤ 1000) : Ev (fun k => impl_vars.f k l) (strOfNums (vlAll l), true) :=
  impl_vars_l0 l hr hl l 0 [] rfl (Nat.zero_le _) (Nat.le_refl _)

theorem impl_SumMore_l1 (s : ByteArray) (i : Int) (h0 : 0 ≤ i) (h1 : i < 140737488355328) (r : Int) : ∀ (d : Nat) (j x : Int), j + d = 8 → 0 ≤ j → Ev (fun k => impl_SumMore.l0 k (sumN d x) s (i + 1)) r → Ev (fun k => impl_SumMore.l1 k x s i j) r := by
  intro d
  induction d with
  | zero =>
    intro j x hj hj0 h
    refine Ev.step (f := fun k => impl_SumMore.l0 k x s (i + 1)) (fun k => ?_) h
    rw [impl_SumMore.l1, if_neg (by omega), w64 (by omega) (by omega)]
  | succ d ih =>
    intro j x hj hj0 h
    refine Ev.step (f := fun k => impl_SumMore.l1 k (sum1 x) s i (j + 1)) (fun k => ?_) (ih (j + 1) (sum1 x) (by omega) (by omega) h)
    rw [impl_SumMore.l1, if_pos (by omega), w64 (by omega) (by omega), sum1]
    split <;> rfl
theorem impl_SumMore_l0 (s : ByteArray) (hs : s.size ≤ 140737488351232) : ∀ (l : List UInt8) (i : Nat) (x : Int), s.data.toList.drop i = l → i ≤ s.size → Ev (fun k => impl_SumMore.l0 k x s i) (sumMore x l) := by
  intro l
  induction l with
  | nil =>
    intro i x hl hi
    have := drop_none hl
    rw [sumMore_nil]
    refine Ev.step (f := fun _ => some x) (fun k => ?_) (Ev.now _)
    rw [impl_SumMore.l0, if_neg (by omega)]
  | cons c l ih =>
    intro i x hl hi
    obtain ⟨hb, hlt, hd⟩ := bt_drop hl
    refine Ev.step (f := fun k => impl_SumMore.l1 k (Go.bits .xor .u32 x ((c.toNat : Int) % 4294967296)) s i 0) (fun k => ?_) ?_
    · rw [impl_SumMore.l0, if_pos (by omega), if_pos (by omega), hb]
    · rw [sumMore_cons, feed]
      exact impl_SumMore_l1 s i (by omega) (by omega) _ 8 0 _ (by omega) (by omega) (ih (i + 1) _ hd (by omega))
theorem impl_SumMore_ev (x : Int) (s : ByteArray) (hs : s.size ≤ 140737488351232) : Ev (fun k => impl_SumMore.f k x s) (sumMore x s.data.toList) :=
  impl_SumMore_l0 s hs s.data.toList 0 x rfl (Nat.zero_le _)

theorem impl_SumOf_ev (s : ByteArray) (hs : s.size ≤ 140737488351232) : Ev (fun k => impl_SumOf.f k s) (sumOf s) := by
  unfold impl_SumOf.f
  exact Ev.bind (impl_SumMore_ev _ s hs) (Ev.now _)

theorem impl_Frame_ev (s : ByteArray) (hs : s.size ≤ 140737488351232) : Ev (fun k => impl_Frame.f k s) (frameOf s) := by
  unfold impl_Frame.f frameOf
  refine Ev.bind0 (impl_within_eq _ _ _) ?_
  by_cases h : 1 ≤ s.size ∧ s.size ≤ 9000
  · rw [if_pos h]
    refine Ev.pos (by rw [decide_eq_true_eq]; omega) ?_
    have hv := vl_len 2 s.size (by omega) (by omega)
    refine Ev.bind (impl_VarText_ev _) (Ev.bind (impl_SumOf_ev s hs) (Ev.bind0 (x := [(sumOf s / 16777216) % 256, (sumOf s / 65536) % 256, (sumOf s / 256) % 256, (sumOf s) % 256]) rfl ?_))
    rw [varText_yes (by omega) (by omega), Int.toNat_natCast]
    have e : strOfNums [(sumOf s / 16777216) % 256, (sumOf s / 65536) % 256, (sumOf s / 256) % 256, (sumOf s) % 256] = four (sumOf s) := rfl
    rw [e]
    refine Ev.pos (by rw [four_size, strOfNums_size]; omega) (Ev.pos (by rw [app_size, four_size, strOfNums_size]; omega) (Ev.now _))
  · rw [if_neg h]
    exact Ev.neg (by rw [decide_eq_true_eq]; omega) (Ev.now _)

theorem impl_HeadText_no (n f : Int) (h : ¬ (0 ≤ n ∧ n ≤ 99 ∧ 0 ≤ f ∧ f ≤ n)) : Ev (fun k => impl_HeadText.j0 k n f true) (headText n f) := by
  refine Ev.step (f := fun _ => some noText) (fun k => by rw [impl_HeadText.j0, if_pos rfl]; rfl) ?_
  rw [headText, if_neg h]
  exact Ev.now _
theorem impl_HeadText_ev (n f : Int) : Ev (fun k => impl_HeadText.f k n f) (headText n f) := by
  unfold impl_HeadText.f
  refine Ev.bind0 (impl_within_eq _ _ _) ?_
  by_cases h : 0 ≤ n ∧ n ≤ 99
  · refine Ev.pos (by simpa using h) (Ev.bind0 (impl_within_eq _ _ _) ?_)
    by_cases h' : 0 ≤ f ∧ f ≤ n
    · rw [decide_eq_true h', headText, if_pos ⟨h.1, h.2, h'.1, h'.2⟩]
      refine Ev.succ ?_
      simp only [impl_HeadText.j0]
      have v1 := vl_len 1 n.toNat (by omega) (by omega)
      have v2 := vl_len 1 f.toNat (by omega) (by omega)
      have hz : (⟨#[72]⟩ : ByteArray).size = 1 := rfl
      refine Ev.neg (by decide) (Ev.bind (impl_vars_ev [n, f] (by intro a ha; simp at ha; omega) (by simp)) ?_)
      rw [show vlAll [n, f] = vl n.toNat ++ vl f.toNat from by rw [vlAll_cons, vlAll_cons, vlAll_nil, List.append_nil], strOfNums_append]
      refine Ev.pos (by rw [app_size, strOfNums_size, strOfNums_size]; omega) (Ev.bind (impl_Frame_ev _ (by rw [app_size, app_size, strOfNums_size, strOfNums_size]; omega)) (Ev.now _))
    · rw [decide_eq_false h']
      exact impl_HeadText_no n f (by omega)
  · refine Ev.neg (by simpa using h) (impl_HeadText_no n f (by omega))

theorem FnExactHeadText : laws_FnExactHeadText.Pure := by
  intro a0 a1 h0 h1
  refine Ev.rounds (r := true) ?_
  unfold laws_FnExactHeadText.f
  refine Ev.bind (spec_HeadText_ev a0 a1) (Ev.bind (impl_HeadText_ev a0 a1) (Ev.pos rfl ?_))
  simpa using Ev.now true

end Go.Proofs.Ytmfjnmkkhfpboaa.Pure
