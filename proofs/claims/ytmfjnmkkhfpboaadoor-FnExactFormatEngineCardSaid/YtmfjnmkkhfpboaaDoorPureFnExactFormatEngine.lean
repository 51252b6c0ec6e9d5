/- For every room both programs' FormatEngine come to the same engine and answer, of memory of its own. -/
import Derived.Test.YtmfjnmkkhfpboaaDoorOFnExactFormatEnginex7
import Derived.Test.YtmfjnmkkhfpboaaDoorBase
import Derived.Test.YtmfjnmkkhfpboaaDoorBase2
import Derived.Test.YtmfjnmkkhfpboaaDoorBase3
namespace Go.Proofs.YtmfjnmkkhfpboaaDoor.Pure
open Go.RowKit Go.Proofs.YtmfjnmkkhfpboaaDoor.PFnExactFormatEngine Go.Proofs.YtmfjnmkkhfpboaaDoorW.PrintWords Go.Proofs.YtmfjnmkkhfpboaaDoorW.PrintLast Go.Proofs.YtmfjnmkkhfpboaaDoor.Base
set_option linter.unusedVariables false
set_option linter.unusedSimpArgs false

theorem spec_l01In_eq (a b c : Int) : spec_l01In.f a b c = some (decide (b ≤ a ∧ a ≤ c)) := by
  unfold spec_l01In.f
  by_cases h : b ≤ a <;> simp [h]

theorem spec_l01Var_l0 : ∀ (n : Nat) (acc : List Int), acc.length + n < 140737488355327 → Ev (fun k => spec_l01Var.l0 k (n : Int) acc) (strOfNums (acc ++ vl n)) := by
  intro n
  induction n using Nat.strongRecOn with
  | _ n ih =>
    intro acc h
    by_cases hn : n > 127
    · refine Ev.step (f := fun k => spec_l01Var.l0 k ((n / 128 : Nat) : Int) (acc ++ [((n % 128 + 128 : Nat) : Int)])) (fun k => ?_) ?_
      · rw [spec_l01Var.l0, if_pos (by omega), if_pos (by omega), quo128 (by omega), rem128]
      · have e := ih (n / 128) (by omega) (acc ++ [((n % 128 + 128 : Nat) : Int)]) (by rw [List.length_append, List.length_singleton]; omega)
        rw [vl_big hn]
        rwa [List.append_assoc] at e
    · refine Ev.step (f := fun _ => some (strOfNums (acc ++ vl n))) (fun k => ?_) (Ev.now _)
      rw [spec_l01Var.l0, if_neg (by omega), if_pos (by omega), vl_small hn, show (n : Int) % 256 = (n : Int) from by omega]
theorem spec_l01Var_ev {a : Int} (h : 0 ≤ a) (h' : a < 140737488355327) : Ev (fun k => spec_l01Var.f k a) (strOfNums (vl a.toNat)) := by
  obtain ⟨n, rfl⟩ := Int.eq_ofNat_of_zero_le h
  exact spec_l01Var_l0 n [] (by simp; omega)

theorem spec_SumMore_l1 (s : ByteArray) (i : Int) (h0 : 0 ≤ i) (h1 : i < 140737488355328) (r : Int) : ∀ (d : Nat) (j x : Int), j + d = 8 → 0 ≤ j → Ev (fun k => spec_SumMore.l0 k (sumN d x) s (i + 1)) r → Ev (fun k => spec_SumMore.l1 k x s i j) r := by
  intro d
  induction d with
  | zero =>
    intro j x hj hj0 h
    refine Ev.step (f := fun k => spec_SumMore.l0 k x s (i + 1)) (fun k => ?_) h
    rw [spec_SumMore.l1, if_neg (by omega), w64 (by omega) (by omega)]
  | succ d ih =>
    intro j x hj hj0 h
    refine Ev.step (f := fun k => spec_SumMore.l1 k (sum1 x) s i (j + 1)) (fun k => ?_) (ih (j + 1) (sum1 x) (by omega) (by omega) h)
    rw [spec_SumMore.l1, if_pos (by omega), w64 (by omega) (by omega), sum1]
    split <;> rfl
theorem spec_SumMore_l0 (s : ByteArray) (hs : s.size ≤ 140737488351232) : ∀ (l : List UInt8) (i : Nat) (x : Int), s.data.toList.drop i = l → i ≤ s.size → Ev (fun k => spec_SumMore.l0 k x s i) (sumMore x l) := by
  intro l
  induction l with
  | nil =>
    intro i x hl hi
    have := drop_none hl
    rw [sumMore_nil]
    refine Ev.step (f := fun _ => some x) (fun k => ?_) (Ev.now _)
    rw [spec_SumMore.l0, if_neg (by omega)]
  | cons c l ih =>
    intro i x hl hi
    obtain ⟨hb, hlt, hd⟩ := bt_drop hl
    refine Ev.step (f := fun k => spec_SumMore.l1 k (Go.bits .xor .u32 x ((c.toNat : Int) % 4294967296)) s i 0) (fun k => ?_) ?_
    · rw [spec_SumMore.l0, if_pos (by omega), if_pos (by omega), hb]
    · rw [sumMore_cons, feed]
      exact spec_SumMore_l1 s i (by omega) (by omega) _ 8 0 _ (by omega) (by omega) (ih (i + 1) _ hd (by omega))
theorem spec_SumMore_ev (x : Int) (s : ByteArray) (hs : s.size ≤ 140737488351232) : Ev (fun k => spec_SumMore.f k x s) (sumMore x s.data.toList) :=
  spec_SumMore_l0 s hs s.data.toList 0 x rfl (Nat.zero_le _)

theorem spec_SumOf_ev (s : ByteArray) (hs : s.size ≤ 140737488351232) : Ev (fun k => spec_SumOf.f k s) (sumOf s) := by
  unfold spec_SumOf.f
  exact Ev.bind (spec_SumMore_ev _ s hs) (Ev.now _)

theorem spec_Frame_ev (s : ByteArray) (hs : s.size ≤ 140737488351232) : Ev (fun k => spec_Frame.f k s) (frameOf s) := by
  unfold spec_Frame.f frameOf
  refine Ev.bind0 (spec_l01In_eq _ _ _) ?_
  by_cases h : 1 ≤ s.size ∧ s.size ≤ 9000
  · rw [if_pos h]
    refine Ev.pos (by rw [decide_eq_true_eq]; omega) ?_
    have hv := vl_len 2 s.size (by omega) (by omega)
    refine Ev.bind (spec_l01Var_ev (by omega) (by omega)) (Ev.bind (spec_SumOf_ev s hs) (Ev.bind0 (x := four (sumOf s)) rfl ?_))
    rw [Int.toNat_natCast]
    refine Ev.pos (by rw [four_size, strOfNums_size]; omega) (Ev.pos (by rw [app_size, four_size, strOfNums_size]; omega) (Ev.now _))
  · rw [if_neg h]
    exact Ev.neg (by rw [decide_eq_true_eq]; omega) (Ev.now _)

theorem spec_HeadText_no (n f : Int) (h : ¬ (0 ≤ n ∧ n ≤ 99 ∧ 0 ≤ f ∧ f ≤ n)) : Ev (fun k => spec_HeadText.j0 k n f true) (headText n f) := by
  refine Ev.step (f := fun _ => some noText) (fun k => by rw [spec_HeadText.j0, if_pos rfl]; rfl) ?_
  rw [headText, if_neg h]
  exact Ev.now _
theorem spec_HeadText_ev (n f : Int) : Ev (fun k => spec_HeadText.f k n f) (headText n f) := by
  unfold spec_HeadText.f
  refine Ev.bind0 (spec_l01In_eq _ _ _) ?_
  by_cases h : 0 ≤ n ∧ n ≤ 99
  · refine Ev.pos (by simpa using h) (Ev.bind0 (spec_l01In_eq _ _ _) ?_)
    by_cases h' : 0 ≤ f ∧ f ≤ n
    · rw [decide_eq_true h', headText, if_pos ⟨h.1, h.2, h'.1, h'.2⟩]
      refine Ev.succ ?_
      simp only [spec_HeadText.j0]
      have v1 := vl_len 1 n.toNat (by omega) (by omega)
      have v2 := vl_len 1 f.toNat (by omega) (by omega)
      refine Ev.neg (by decide) (Ev.bind (spec_l01Var_ev h.1 (by omega)) ?_)
      have hz : (⟨#[72]⟩ : ByteArray).size = 1 := rfl
      refine Ev.pos (by rw [strOfNums_size]; omega) (Ev.bind (spec_l01Var_ev h'.1 (by omega)) ?_)
      refine Ev.pos (by rw [app_size, strOfNums_size, strOfNums_size]; omega) (Ev.bind (spec_Frame_ev _ (by rw [app_size, app_size, strOfNums_size, strOfNums_size]; omega)) ?_)
      rw [app_assoc]
      exact Ev.now _
    · rw [decide_eq_false h']
      exact spec_HeadText_no n f (by omega)
  · refine Ev.neg (by simpa using h) (spec_HeadText_no n f (by omega))

theorem impl_within_eq (a b c : Int) : impl_within.f a b c = some (decide (b ≤ a ∧ a ≤ c)) := by
  unfold impl_within.f
  by_cases h : b ≤ a <;> simp [h]

theorem impl_VarText_l0 : ∀ (n : Nat) (acc : List Int), acc.length + n < 140737488355327 → Ev (fun k => impl_VarText.l0 k (n : Int) acc) (strOfNums (acc ++ vl n), true) := by
  intro n
  induction n using Nat.strongRecOn with
  | _ n ih =>
    intro acc h
    by_cases hn : n > 127
    · refine Ev.step (f := fun k => impl_VarText.l0 k ((n / 128 : Nat) : Int) (acc ++ [((n % 128 + 128 : Nat) : Int)])) (fun k => ?_) ?_
      · rw [impl_VarText.l0, if_pos (by omega), if_pos (by omega), quo128 (by omega), rem128]
      · have e := ih (n / 128) (by omega) (acc ++ [((n % 128 + 128 : Nat) : Int)]) (by rw [List.length_append, List.length_singleton]; omega)
        rw [vl_big hn]
        rwa [List.append_assoc] at e
    · refine Ev.step (f := fun _ => some (strOfNums (acc ++ vl n), true)) (fun k => ?_) (Ev.now _)
      rw [impl_VarText.l0, if_neg (by omega), if_pos (by omega), vl_small hn, show (n : Int) % 256 = (n : Int) from by omega]
theorem impl_VarText_ev (a : Int) : Ev (fun k => impl_VarText.f k a) (varText a) := by
  unfold impl_VarText.f
  refine Ev.bind0 (impl_within_eq _ _ _) ?_
  by_cases h : 0 ≤ a ∧ a ≤ 1000000000
  · refine Ev.pos (by simpa using h) ?_
    rw [varText_yes h.1 h.2]
    obtain ⟨n, rfl⟩ := Int.eq_ofNat_of_zero_le h.1
    exact impl_VarText_l0 n [] (by simp; omega)
  · refine Ev.neg (by simpa using h) (Ev.ret (varText_no h).symm)

theorem impl_vars_l0 (l : List Int) (hr : ∀ a ∈ l, 0 ≤ a ∧ a ≤ 1000000000) (hl : l.length ≤ 1000) : ∀ (t : List Int) (i : Nat) (acc : List Int), l.drop i = t → i ≤ l.length → acc.length ≤ 5 * i →
    Ev (fun k => impl_vars.l0 k acc l (l.length : Int) (i : Int)) (strOfNums (acc ++ vlAll t), true) := by
  intro t
  induction t with
  | nil =>
    intro i acc ht hi ha
    have := List.drop_eq_nil_iff.1 ht
    rw [vlAll_nil, List.append_nil]
    refine Ev.step (f := fun _ => some (strOfNums acc, true)) (fun k => ?_) (Ev.now _)
    rw [impl_vars.l0, if_neg (by omega)]
  | cons a t ih =>
    intro i acc ht hi ha
    obtain ⟨h1, h2, h3⟩ := rd_drop ht
    have hin : 0 ≤ a ∧ a ≤ 1000000000 := hr a (List.mem_of_mem_drop (by rw [ht]; exact List.mem_cons_self))
    have hv := vl_len 5 a.toNat (by omega) (by omega)
    refine Ev.succ ?_
    simp only [impl_vars.l0, h1, w64 (n := (i : Int) + 1) (by omega) (by omega)]
    refine Ev.pos (by omega) (Ev.pos (by omega) (Ev.pos (by omega) (Ev.bind (impl_VarText_ev a) ?_)))
    rw [varText_yes hin.1 hin.2]
    refine Ev.pos rfl (Ev.pos (by rw [strOfNums_size]; omega) ?_)
    rw [bytesOf_nums _ (vl_range 5 a.toNat (by omega) (by omega)), vlAll_cons, ← List.append_assoc]
    exact ih (i + 1) (acc ++ vl a.toNat) h3 (by omega) (by rw [List.length_append]; omega)
theorem impl_vars_ev (l : List Int) (hr : ∀ a ∈ l, 0 ≤ a ∧ a ≤ 1000000000) (hl : l.length ≤ 1000) : Ev (fun k => impl_vars.f k l) (strOfNums (vlAll l), true) :=
  impl_vars_l0 l hr hl l 0 [] rfl (Nat.zero_le _) (Nat.le_refl _)

theorem impl_SumMore_l1 (s : ByteArray) (i : Int) (h0 : 0 ≤ i) (h1 : i < 140737488355328) (r : Int) : ∀ (d : Nat) (j x : Int), j + d = 8 → 0 ≤ j → Ev (fun k => impl_SumMore.l0 k (sumN d x) s (i + 1)) r → Ev (fun k => impl_SumMore.l1 k x s i j) r := by
  intro d
  induction d with
  | zero =>
    intro j x hj hj0 h
    refine Ev.step (f := fun k => impl_SumMore.l0 k x s (i + 1)) (fun k => ?_) h
    rw [impl_SumMore.l1, if_neg (by omega), w64 (by omega) (by omega)]
  | succ d ih =>
    intro j x hj hj0 h
    refine Ev.step (f := fun k => impl_SumMore.l1 k (sum1 x) s i (j + 1)) (fun k => ?_) (ih (j + 1) (sum1 x) (by omega) (by omega) h)
    rw [impl_SumMore.l1, if_pos (by omega), w64 (by omega) (by omega), sum1]
    split <;> rfl
theorem impl_SumMore_l0 (s : ByteArray) (hs : s.size ≤ 140737488351232) : ∀ (l : List UInt8) (i : Nat) (x : Int), s.data.toList.drop i = l → i ≤ s.size → Ev (fun k => impl_SumMore.l0 k x s i) (sumMore x l) := by
  intro l
  induction l with
  | nil =>
    intro i x hl hi
    have := drop_none hl
    rw [sumMore_nil]
    refine Ev.step (f := fun _ => some x) (fun k => ?_) (Ev.now _)
    rw [impl_SumMore.l0, if_neg (by omega)]
  | cons c l ih =>
    intro i x hl hi
    obtain ⟨hb, hlt, hd⟩ := bt_drop hl
    refine Ev.step (f := fun k => impl_SumMore.l1 k (Go.bits .xor .u32 x ((c.toNat : Int) % 4294967296)) s i 0) (fun k => ?_) ?_
    · rw [impl_SumMore.l0, if_pos (by omega), if_pos (by omega), hb]
    · rw [sumMore_cons, feed]
      exact impl_SumMore_l1 s i (by omega) (by omega) _ 8 0 _ (by omega) (by omega) (ih (i + 1) _ hd (by omega))
theorem impl_SumMore_ev (x : Int) (s : ByteArray) (hs : s.size ≤ 140737488351232) : Ev (fun k => impl_SumMore.f k x s) (sumMore x s.data.toList) :=
  impl_SumMore_l0 s hs s.data.toList 0 x rfl (Nat.zero_le _)

theorem impl_SumOf_ev (s : ByteArray) (hs : s.size ≤ 140737488351232) : Ev (fun k => impl_SumOf.f k s) (sumOf s) := by
  unfold impl_SumOf.f
  exact Ev.bind (impl_SumMore_ev _ s hs) (Ev.now _)

theorem impl_Frame_ev (s : ByteArray) (hs : s.size ≤ 140737488351232) : Ev (fun k => impl_Frame.f k s) (frameOf s) := by
  unfold impl_Frame.f frameOf
  refine Ev.bind0 (impl_within_eq _ _ _) ?_
  by_cases h : 1 ≤ s.size ∧ s.size ≤ 9000
  · rw [if_pos h]
    refine Ev.pos (by rw [decide_eq_true_eq]; omega) ?_
    have hv := vl_len 2 s.size (by omega) (by omega)
    refine Ev.bind (impl_VarText_ev _) (Ev.bind (impl_SumOf_ev s hs) (Ev.bind0 (x := [(sumOf s / 16777216) % 256, (sumOf s / 65536) % 256, (sumOf s / 256) % 256, (sumOf s) % 256]) rfl ?_))
    rw [varText_yes (by omega) (by omega), Int.toNat_natCast]
    have e : strOfNums [(sumOf s / 16777216) % 256, (sumOf s / 65536) % 256, (sumOf s / 256) % 256, (sumOf s) % 256] = four (sumOf s) := rfl
    rw [e]
    refine Ev.pos (by rw [four_size, strOfNums_size]; omega) (Ev.pos (by rw [app_size, four_size, strOfNums_size]; omega) (Ev.now _))
  · rw [if_neg h]
    exact Ev.neg (by rw [decide_eq_true_eq]; omega) (Ev.now _)

theorem impl_HeadText_no (n f : Int) (h : ¬ (0 ≤ n ∧ n ≤ 99 ∧ 0 ≤ f ∧ f ≤ n)) : Ev (fun k => impl_HeadText.j0 k n f true) (headText n f) := by
  refine Ev.step (f := fun _ => some noText) (fun k => by rw [impl_HeadText.j0, if_pos rfl]; rfl) ?_
  rw [headText, if_neg h]
  exact Ev.now _
theorem impl_HeadText_ev (n f : Int) : Ev (fun k => impl_HeadText.f k n f) (headText n f) := by
  unfold impl_HeadText.f
  refine Ev.bind0 (impl_within_eq _ _ _) ?_
  by_cases h : 0 ≤ n ∧ n ≤ 99
  · refine Ev.pos (by simpa using h) (Ev.bind0 (impl_within_eq _ _ _) ?_)
    by_cases h' : 0 ≤ f ∧ f ≤ n
    · rw [decide_eq_true h', headText, if_pos ⟨h.1, h.2, h'.1, h'.2⟩]
      refine Ev.succ ?_
      simp only [impl_HeadText.j0]
      have v1 := vl_len 1 n.toNat (by omega) (by omega)
      have v2 := vl_len 1 f.toNat (by omega) (by omega)
      have hz : (⟨#[72]⟩ : ByteArray).size = 1 := rfl
      refine Ev.neg (by decide) (Ev.bind (impl_vars_ev [n, f] (by intro a ha; simp at ha; omega) (by simp)) ?_)
      rw [show vlAll [n, f] = vl n.toNat ++ vl f.toNat from by rw [vlAll_cons, vlAll_cons, vlAll_nil, List.append_nil], strOfNums_append]
      refine Ev.pos (by rw [app_size, strOfNums_size, strOfNums_size]; omega) (Ev.bind (impl_Frame_ev _ (by rw [app_size, app_size, strOfNums_size, strOfNums_size]; omega)) (Ev.now _))
    · rw [decide_eq_false h']
      exact impl_HeadText_no n f (by omega)
  · refine Ev.neg (by simpa using h) (impl_HeadText_no n f (by omega))

def decText (n : Nat) : ByteArray := ⟨(Lib.decDigits n).toArray⟩
theorem decText_data (n : Nat) : (decText n).data.toList = Lib.decDigits n := by simp [decText]
theorem digit_text (n : Nat) (h : n < 10) : strOfNums [((48 + n : Nat) : Int)] = ⟨#[UInt8.ofNat (48 + n)]⟩ := by
  apply ba_ext
  rw [strOfNums_data]
  show [UInt8.ofNat (((48 + n : Nat) : Int)).toNat] = _
  rw [Int.toNat_natCast]
theorem spec_l01Figure_eq (n : Nat) (h : n < 10) : spec_l01Figure.f (n : Int) = some ((48 + n : Nat) : Int) := by
  unfold spec_l01Figure.f
  rw [if_pos (by omega), w64 (by omega) (by omega)]
  congr 1
  omega
theorem decText_small {n : Nat} (h : n < 10) : decText n = strOfNums [((48 + n : Nat) : Int)] := by
  rw [digit_text n h]
  apply ba_ext
  rw [decText_data, Lib.decDigits, dif_pos h]
theorem decText_big {n : Nat} (h : ¬ n < 10) : decText n = decText (n / 10) ++ strOfNums [((48 + n % 10 : Nat) : Int)] := by
  rw [digit_text (n % 10) (by omega)]
  apply ba_ext
  rw [app_data, decText_data, decText_data, Lib.decDigits, dif_neg h]
theorem spec_Decimal_l0 : ∀ (n : Nat) (acc : ByteArray), 0 < n → n < 4611686018427387904 → acc.size + n < 9223372036854775807 → Ev (fun k => spec_Decimal.l0 k (n : Int) false acc) (decText n ++ acc) := by
  intro n
  induction n using Nat.strongRecOn with
  | _ n ih =>
    intro acc h0 h1 h2
    have hz : (strOfNums [((48 + n % 10 : Nat) : Int)]).size = 1 := by rw [strOfNums_size, List.length_singleton]
    refine Ev.succ ?_
    simp only [spec_Decimal.l0]
    rw [tmodp (by omega), tdivp (by omega), w64 (n := (n : Int) / 10) (by omega) (by omega), show (n : Int) % 10 = ((n % 10 : Nat) : Int) from by omega, show (n : Int) / 10 = ((n / 10 : Nat) : Int) from by omega]
    refine Ev.neg (by omega) (Ev.neg (by omega) (Ev.bind0 (spec_l01Figure_eq (n % 10) (by omega)) (Ev.bind0 rfl (Ev.pos (by rw [hz]; omega) ?_))))
    by_cases hs : n < 10
    · rw [show n / 10 = 0 from by omega, show n % 10 = n from by omega, decText_small hs]
      exact Ev.step (f := fun _ => some (strOfNums [((48 + n : Nat) : Int)] ++ acc)) (fun k => by rw [spec_Decimal.l0, if_pos (by omega), if_neg (by decide)]) (Ev.now _)
    · rw [decText_big hs, ByteArray.append_assoc]
      exact ih (n / 10) (by omega) _ (by omega) (by omega) (by rw [app_size, hz]; omega)
theorem spec_Decimal_nat (n : Nat) (h : n < 4611686018427387904) : Ev (fun k => spec_Decimal.f k (n : Int)) (decText n) := by
  unfold spec_Decimal.f
  by_cases h0 : n = 0
  · subst h0
    rw [decText_small (by omega)]
    exact Ev.pos (by omega) (Ev.ret rfl)
  · rw [show decide ((n : Int) < 0) = false from decide_eq_false (by omega)]
    have e := spec_Decimal_l0 n (⟨#[]⟩ : ByteArray) (by omega) h (by rw [show (⟨#[]⟩ : ByteArray).size = 0 from rfl]; omega)
    rw [show decText n ++ (⟨#[]⟩ : ByteArray) = decText n from by apply ba_ext; rw [app_data]; simp] at e
    exact Ev.neg (by omega) e
theorem decText_len (n : Nat) (h : n < 100) : (decText n).size ≤ 2 := by
  have h1 : ∀ m : Nat, m < 10 → (decText m).size = 1 := fun m hm => by rw [decText_small hm, strOfNums_size, List.length_singleton]
  by_cases hs : n < 10
  · rw [h1 n hs]; omega
  · rw [decText_big hs, app_size, h1 _ (by omega), strOfNums_size, List.length_singleton]; omega
theorem impl_Decimal_small (n : Nat) (h : n < 100) : impl_Decimal.f (n : Int) = some (decText n) := by
  unfold impl_Decimal.f decText
  rw [if_pos (by omega), if_pos (by omega), Int.toNat_natCast]
def segName (a : Int) : ByteArray := if 0 ≤ a ∧ a ≤ 99 then (⟨#[98]⟩ : ByteArray) ++ decText a.toNat else (⟨#[]⟩ : ByteArray)
theorem spec_SegName_ev (a : Int) : Ev (fun k => spec_SegName.f k a) (segName a) := by
  unfold spec_SegName.f segName
  refine Ev.bind0 (spec_l01In_eq _ _ _) ?_
  by_cases h : 0 ≤ a ∧ a ≤ 99
  · obtain ⟨n, rfl⟩ := Int.eq_ofNat_of_zero_le h.1
    have := decText_len n (by omega)
    rw [if_pos h, Int.toNat_natCast]
    exact Ev.pos (decide_eq_true h) (Ev.bind (spec_Decimal_nat n (by omega)) (Ev.pos (by omega) (Ev.now _)))
  · rw [if_neg h]
    exact Ev.neg (by simpa using h) (Ev.now _)
theorem impl_SegName_eq (a : Int) : impl_SegName.f a = some (segName a) := by
  unfold impl_SegName.f segName
  rw [impl_within_eq, Option.bind_some]
  by_cases h : 0 ≤ a ∧ a ≤ 99
  · obtain ⟨n, rfl⟩ := Int.eq_ofNat_of_zero_le h.1
    have := decText_len n (by omega)
    rw [if_pos h, if_pos (decide_eq_true h), Int.toNat_natCast, impl_Decimal_small n (by omega), Option.bind_some, if_pos (by omega)]
  · rw [if_neg h, if_neg (by simpa using h)]

theorem rd_T70_drop {xs : List S70} {i : Nat} {a : S70} {t : List S70} (h : xs.drop i = a :: t) : rd_T70 xs (i : Int) = a ∧ i < xs.length ∧ xs.drop (i + 1) = t := rdOf_drop (d := z70) h
theorem laws_eqFile_self (x : S70) : laws_eqFile.f x.f0 x.f1 x.f2 x.f0 x.f1 x.f2 = some true := by
  unfold laws_eqFile.f
  rw [if_pos rfl, if_pos rfl, if_pos rfl]
theorem laws_eqFileS_l0 (l : List S70) (hl : l.length ≤ 1048576) : ∀ (t : List S70) (i : Nat), l.drop i = t → i ≤ l.length → Ev (fun k => laws_eqFileS.l0 k l l (i : Int)) true := by
  intro t
  induction t with
  | nil =>
    intro i ht hi
    have := drop_nil_len ht
    exact Ev.step (f := fun _ => some true) (fun k => by rw [laws_eqFileS.l0, if_neg (by omega)]) (Ev.now _)
  | cons a t ih =>
    intro i ht hi
    obtain ⟨h1, h2, h3⟩ := rd_T70_drop ht
    refine Ev.step (fun k => ?_) (ih (i + 1) h3 (by omega))
    rw [laws_eqFileS.l0, if_pos (by omega), if_pos (by omega), if_pos (by omega), h1, laws_eqFile_self, Option.bind_some, if_pos rfl, w64 (by omega) (by omega)]
    rfl
theorem laws_eqDisk_ev (l : List S70) (hl : l.length ≤ 1048576) : Ev (fun k => laws_eqDisk.f k l l) true := by
  unfold laws_eqDisk.f laws_eqFileS.f
  exact Ev.bind (Ev.pos rfl (laws_eqFileS_l0 l hl l 0 rfl (Nat.zero_le _))) (Ev.pos rfl (Ev.now _))

theorem laws_markText_l0 : ∀ (n : Nat) (acc : ByteArray), acc.size + n < 4611686018427387904 → Ev (fun k => laws_markText.l0 k (n : Int) acc) (mtl n acc) := by
  intro n
  induction n using Nat.strongRecOn with
  | _ n ih =>
    intro acc h
    by_cases hn : 0 < n
    · rw [mtl_pos hn]
      refine Ev.succ ?_
      simp only [laws_markText.l0]
      rw [tmodp (by omega), tdivp (by omega), w64 (n := 48 + (n : Int) % 10) (by omega) (by omega), w64 (n := (n : Int) / 10) (by omega) (by omega), show (48 + (n : Int) % 10) % 256 = ((48 + n % 10 : Nat) : Int) from by omega, show (n : Int) / 10 = ((n / 10 : Nat) : Int) from by omega]
      refine Ev.pos (by omega) (Ev.bind0 rfl (Ev.pos (by rw [strOfNums_size, List.length_singleton]; omega) ?_))
      exact ih (n / 10) (by omega) _ (by rw [app_size, strOfNums_size, List.length_singleton]; omega)
    · obtain rfl : n = 0 := by omega
      rw [mtl_zero]
      exact Ev.step (f := fun _ => some ((⟨#[109]⟩ : ByteArray) ++ acc)) (fun k => by rw [laws_markText.l0, if_neg (by omega), if_pos (by omega)]) (Ev.now _)
theorem laws_markText_ev {n : Nat} (h : 0 < n) (h' : n < 4611686018427387904) : Ev (fun k => laws_markText.f k (n : Int)) (mt n) := by
  unfold laws_markText.f
  exact Ev.neg (by omega) (laws_markText_l0 n _ (by rw [show (⟨#[]⟩ : ByteArray).size = 0 from rfl]; omega))

def marksF : Nat → Nat → List S70
  | _, 0 => []
  | a, m + 1 => ⟨mt a, mt (a + 1), ((a + 2 : Nat) : Int)⟩ :: marksF (a + 3) m
theorem marksF_length : ∀ (m a : Nat), (marksF a m).length = m := by
  intro m
  induction m with
  | zero => intro a; rfl
  | succ m ih => intro a; rw [marksF, List.length_cons, ih]
theorem rd_set {xs : List S70} {i : Nat} (h : i < xs.length) (v : S70) : rd_T70 (xs.set i v) (i : Int) = v := by
  unfold rd_T70
  rw [Int.toNat_natCast, List.getD_eq_getElem?_getD, List.getElem?_set_self h]
  rfl
theorem laws_markFileS_l0 : ∀ (d i a : Nat) (xs : List S70), xs.length = i + d → xs.length ≤ 1048576 → 0 < a → a + 3 * d < 4611686018427387904 → Ev (fun k => laws_markFileS.l0 k xs (a : Int) (i : Int)) (((a + 3 * d : Nat) : Int), xs.take i ++ marksF a d) := by
  intro d
  induction d with
  | zero =>
    intro i a xs hx hb ha hz
    refine Ev.step (f := fun _ => some ((a : Int), xs)) (fun k => by rw [laws_markFileS.l0, if_neg (by omega)]) (Ev.ret ?_)
    rw [List.take_of_length_le (by omega), marksF, List.append_nil, Nat.mul_zero, Nat.add_zero]
  | succ d ih =>
    intro i a xs hx hb ha hz
    have hi : i < xs.length := by omega
    have e := ih (i + 1) (a + 3) (xs.set i ⟨mt a, mt (a + 1), ((a + 2 : Nat) : Int)⟩) (by rw [List.length_set]; omega) (by rw [List.length_set]; omega) (by omega) (by omega)
    rw [take_set_snoc _ _ _ hi, List.append_assoc, show a + 3 + 3 * d = a + 3 * (d + 1) from by omega, show ((i + 1 : Nat) : Int) = (i : Int) + 1 from by omega, show ((a + 3 : Nat) : Int) = (a : Int) + 1 + 1 + 1 from by omega] at e
    refine Ev.succ ?_
    simp only [laws_markFileS.l0, w64 (n := (i : Int) + 1) (by omega) (by omega), w64 (n := (a : Int) + 1) (by omega) (by omega), w64 (n := (a : Int) + 1 + 1) (by omega) (by omega), w64 (n := (a : Int) + 1 + 1 + 1) (by omega) (by omega), Int.toNat_natCast]
    refine Ev.pos (by omega) (Ev.bind (laws_markText_ev ha (by omega)) (Ev.pos (by omega) (Ev.bind0 rfl ?_)))
    have m1 := laws_markText_ev (n := a + 1) (by omega) (by omega)
    rw [show ((a + 1 : Nat) : Int) = (a : Int) + 1 from by omega] at m1
    refine Ev.bind m1 (Ev.bind0 rfl ?_)
    simp only [List.set_set, rd_set hi]
    rw [show ((a + 2 : Nat) : Int) = (a : Int) + 1 + 1 from by omega] at e
    rw [marksF, show ((a + 2 : Nat) : Int) = (a : Int) + 1 + 1 from by omega]
    exact e
theorem laws_markDisk_ev (xs : List S70) (hb : xs.length ≤ 1048576) : Ev (fun k => laws_markDisk.f k xs 1) (((1 + 3 * xs.length : Nat) : Int), marksF 1 xs.length) := by
  unfold laws_markDisk.f laws_markFileS.f
  exact Ev.bind (laws_markFileS_l0 xs.length 0 1 xs (by omega) hb (by omega) (by omega)) (Ev.now _)
theorem laws_heldFileS_l0 (xs : List S70) (hb : xs.length ≤ 1048576) : ∀ (d i a : Nat), xs.drop i = marksF a d → i ≤ xs.length → 0 < a → a + 3 * d < 4611686018427387904 → Ev (fun k => laws_heldFileS.l0 k xs (a : Int) (i : Int)) ((a + 3 * d : Nat) : Int) := by
  intro d
  induction d with
  | zero =>
    intro i a hx hi ha hz
    have := drop_nil_len hx
    exact Ev.step (f := fun _ => some (a : Int)) (fun k => by rw [laws_heldFileS.l0, if_neg (by omega)]) (Ev.now _)
  | succ d ih =>
    intro i a hx hi ha hz
    obtain ⟨h1, h2, h3⟩ := rd_T70_drop hx
    have e := ih (i + 1) (a + 3) h3 (by omega) (by omega) (by omega)
    rw [show a + 3 + 3 * d = a + 3 * (d + 1) from by omega, show ((i + 1 : Nat) : Int) = (i : Int) + 1 from by omega, show ((a + 3 : Nat) : Int) = (a : Int) + 1 + 1 + 1 from by omega] at e
    refine Ev.succ ?_
    simp only [laws_heldFileS.l0, w64 (n := (i : Int) + 1) (by omega) (by omega), w64 (n := (a : Int) + 1) (by omega) (by omega), w64 (n := (a : Int) + 1 + 1) (by omega) (by omega), w64 (n := (a : Int) + 1 + 1 + 1) (by omega) (by omega), h1]
    have m1 := laws_markText_ev (n := a + 1) (by omega) (by omega)
    rw [show ((a + 1 : Nat) : Int) = (a : Int) + 1 from by omega] at m1
    exact Ev.pos (by omega) (Ev.pos (by omega) (Ev.bind (laws_markText_ev ha (by omega)) (Ev.pos rfl (Ev.bind m1 (Ev.pos rfl (Ev.pos (by omega) e))))))
theorem laws_heldDisk_ev (m : Nat) (hb : m ≤ 1048576) : Ev (fun k => laws_heldDisk.f k (marksF 1 m) 1) ((1 + 3 * m : Nat) : Int) := by
  unfold laws_heldDisk.f laws_heldFileS.f
  exact Ev.bind (laws_heldFileS_l0 (marksF 1 m) (by rw [marksF_length]; exact hb) m 0 1 rfl (Nat.zero_le _) (by omega) (by omega)) (Ev.neg (by omega) (Ev.now _))

def fmtE (a : Int) : List S70 × Int × Int × Int × List S87 × Bool := if 100 ≤ a ∧ a ≤ 20000 then ([(⟨segName 0, (headText 0 0).1, ((headText 0 0).1.size : Int)⟩ : S70)], a, 0, 0, [], true) else ([], 0, 0, 0, [], false)
theorem fmtE_spots (a : Int) : (fmtE a).2.2.2.2.1 = [] := by unfold fmtE; split <;> rfl
theorem fmtE_len (a : Int) : (fmtE a).1.length ≤ 1 := by
  unfold fmtE
  split
  · exact Nat.le_refl _
  · exact Nat.zero_le _
theorem spec_FormatEngine_ev (a : Int) : Ev (fun k => spec_FormatEngine.f k a) (fmtE a) := by
  unfold spec_FormatEngine.f fmtE
  refine Ev.bind0 (spec_l01In_eq _ _ _) ?_
  by_cases h : 100 ≤ a ∧ a ≤ 20000
  · rw [if_pos h]
    exact Ev.pos (decide_eq_true h) (Ev.bind (spec_HeadText_ev 0 0) (Ev.bind (spec_SegName_ev 0) (Ev.now _)))
  · rw [if_neg h]
    exact Ev.neg (by simpa using h) (Ev.now _)
theorem impl_FormatEngine_ev (a : Int) : Ev (fun k => impl_FormatEngine.f k a) (fmtE a) := by
  unfold impl_FormatEngine.f fmtE
  refine Ev.bind0 (impl_within_eq _ _ _) ?_
  by_cases h : 100 ≤ a ∧ a ≤ 20000
  · rw [if_pos h]
    exact Ev.pos (decide_eq_true h) (Ev.bind (impl_HeadText_ev 0 0) (Ev.bind0 (impl_SegName_eq 0) (Ev.now _)))
  · rw [if_neg h]
    exact Ev.neg (by simpa using h) (Ev.now _)
theorem laws_eqSpotS_nil : Ev (fun k => laws_eqSpotS.f k [] []) true := by
  unfold laws_eqSpotS.f
  exact Ev.pos rfl (Ev.step (f := fun _ => some true) (fun k => by rw [laws_eqSpotS.l0, if_neg (by simp)]) (Ev.now _))
theorem laws_markSpotS_nil (n : Int) : Ev (fun k => laws_markSpotS.f k [] n) (n, []) := by
  unfold laws_markSpotS.f
  exact Ev.step (f := fun _ => some (n, [])) (fun k => by rw [laws_markSpotS.l0, if_neg (by simp)]) (Ev.now _)
theorem laws_heldSpotS_nil (n : Int) : Ev (fun k => laws_heldSpotS.f k [] n) n := by
  unfold laws_heldSpotS.f
  exact Ev.step (f := fun _ => some n) (fun k => by rw [laws_heldSpotS.l0, if_neg (by simp)]) (Ev.now _)
theorem laws_eqEngine_ev (l : List S70) (hl : l.length ≤ 1048576) (a b c : Int) : Ev (fun k => laws_eqEngine.f k l a b c [] l a b c []) true := by
  unfold laws_eqEngine.f
  exact Ev.bind (laws_eqDisk_ev l hl) (Ev.pos rfl (Ev.pos rfl (Ev.pos rfl (Ev.pos rfl (Ev.bind laws_eqSpotS_nil (Ev.pos rfl (Ev.now _)))))))
theorem laws_markEngine_ev (l : List S70) (hl : l.length ≤ 1048576) (a b c : Int) : Ev (fun k => laws_markEngine.f k l a b c [] 1) (((1 + 3 * l.length : Nat) : Int), marksF 1 l.length, []) := by
  unfold laws_markEngine.f
  exact Ev.bind (laws_markDisk_ev l hl) (Ev.bind (laws_markSpotS_nil _) (Ev.now _))
theorem laws_heldEngine_ev (m : Nat) (hm : m ≤ 1048576) (a b c : Int) : Ev (fun k => laws_heldEngine.f k (marksF 1 m) a b c [] 1) ((1 + 3 * m : Nat) : Int) := by
  unfold laws_heldEngine.f
  exact Ev.bind (laws_heldDisk_ev m hm) (Ev.neg (by omega) (Ev.bind (laws_heldSpotS_nil _) (Ev.neg (by omega) (Ev.now _))))
theorem FnExactFormatEngine : laws_FnExactFormatEngine.Pure := by
  intro a h
  refine Ev.rounds (r := true) ?_
  unfold laws_FnExactFormatEngine.f
  have hl : (fmtE a).1.length ≤ 1048576 := Nat.le_trans (fmtE_len a) (by decide)
  refine Ev.bind (spec_FormatEngine_ev a) (Ev.bind (impl_FormatEngine_ev a) ?_)
  rw [fmtE_spots]
  refine Ev.bind (laws_eqEngine_ev _ hl _ _ _) (Ev.pos rfl ?_)
  refine Ev.succ ?_
  simp only [laws_FnExactFormatEngine.j0]
  refine Ev.neg (by simp) (Ev.bind (laws_markEngine_ev _ hl _ _ _) (Ev.bind (laws_heldEngine_ev _ hl _ _ _) (Ev.neg (by omega) (Ev.pos rfl (Ev.bind (impl_FormatEngine_ev a) ?_)))))
  rw [fmtE_spots]
  refine Ev.bind (laws_eqEngine_ev _ hl _ _ _) (Ev.pos rfl ?_)
  refine Ev.succ ?_
  simp only [laws_FnExactFormatEngine.j1]
  exact Ev.neg (by simp) (Ev.bind (laws_heldEngine_ev _ hl _ _ _) (Ev.neg (by omega) (Ev.pos rfl (Ev.now _))))

end Go.Proofs.YtmfjnmkkhfpboaaDoor.Pure
