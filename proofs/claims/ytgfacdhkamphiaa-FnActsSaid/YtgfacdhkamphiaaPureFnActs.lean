/- For every draw both programs do the drawn acts alike, what is added stands behind, what is dropped is gone, and cut they leave the same. -/
import Derived.Test.YtgfacdhkamphiaaOFnActsx20
import Derived.Test.YtgfacdhkamphiaaBase
import Derived.Test.YtgfacdhkamphiaaBase2
import Derived.Test.YtgfacdhkamphiaaBase3
namespace Go.Proofs.Ytgfacdhkamphiaa.Pure
open Go.RowKit Go.Proofs.Ytgfacdhkamphiaa.PFnActs Go.Proofs.YtgfacdhkamphiaaW.PrintWords Go.Proofs.YtgfacdhkamphiaaW.PrintLast Go.Proofs.Ytgfacdhkamphiaa.Base
set_option linter.unusedVariables false
set_option linter.unusedSimpArgs false

theorem spec_l01In_eq (a b c : Int) : spec_l01In.f a b c = some (decide (b ≤ a ∧ a ≤ c)) := by
  unfold spec_l01In.f
  by_cases h : b ≤ a <;> simp [h]

theorem impl_within_eq (a b c : Int) : impl_within.f a b c = some (decide (b ≤ a ∧ a ≤ c)) := by
  unfold impl_within.f
  by_cases h : b ≤ a <;> simp [h]

theorem rd_T45_drop {xs : List S45} {i : Nat} {a : S45} {t : List S45} (h : xs.drop i = a :: t) : rd_T45 xs (i : Int) = a ∧ i < xs.length ∧ xs.drop (i + 1) = t := rdOf_drop (d := z45) h

theorem rd_T55_drop {xs : List S55} {i : Nat} {a : S55} {t : List S55} (h : xs.drop i = a :: t) : rd_T55 xs (i : Int) = a ∧ i < xs.length ∧ xs.drop (i + 1) = t := rdOf_drop (d := z55) h

/-- A file of a right disk, behind the one ahead. -/
def fileOk (x : S45) : Bool := decide (1 ≤ (x.f0.size : Int) ∧ (x.f0.size : Int) ≤ 8) && decide ((x.f1.size : Int) ≤ 20000) && decide (0 ≤ x.f2 ∧ x.f2 ≤ (x.f1.size : Int))
def filesOk : Option S45 → List S45 → Bool
  | _, [] => true
  | none, x :: l => fileOk x && filesOk (some x) l
  | some y, x :: l => fileOk x && Op.bytesLess y.f0.toList x.f0.toList && filesOk (some x) l
def diskOk (l : List S45) : Bool := decide (l.length ≤ 30) && filesOk none l
def ahead (l : List S45) (i : Nat) : Option S45 := if 0 < i then l[i - 1]? else none
theorem ahead_succ {l : List S45} {i : Nat} {a : S45} {t : List S45} (h : l.drop i = a :: t) : ahead l (i + 1) = some a := by
  unfold ahead
  rw [if_pos (by omega), Nat.add_sub_cancel]
  have := congrArg (fun z => z[0]?) h
  simpa using this
theorem rd_ahead {l : List S45} {i : Nat} (h : 0 < i) (hi : i ≤ l.length) : ahead l i = some (rd_T45 l ((i : Int) - 1)) := by
  unfold ahead
  rw [if_pos h]
  obtain ⟨j, rfl⟩ : ∃ j, i = j + 1 := ⟨i - 1, by omega⟩
  rw [Nat.add_sub_cancel, show ((j + 1 : Nat) : Int) - 1 = (j : Int) from by omega]
  have e : rd_T45 l (j : Int) = l[j] := rdOf_get (d := z45) (by omega)
  rw [e, List.getElem?_eq_getElem (by omega)]
theorem spec_l03Name_eq (s : ByteArray) : spec_l03Name.f s = some (decide (1 ≤ (s.size : Int) ∧ (s.size : Int) ≤ 8)) := by
  unfold spec_l03Name.f
  rw [spec_l01In_eq, Option.bind_some]
theorem spec_DiskOk_l0 (l : List S45) (hl : l.length ≤ 1048576) : ∀ (t : List S45) (i : Nat), l.drop i = t → i ≤ l.length → Ev (fun k => spec_DiskOk.l0 k (i : Int) l) (filesOk (ahead l i) t) := by
  intro t
  induction t with
  | nil =>
    intro i ht hi
    have := drop_nil_len ht
    refine Ev.step (f := fun _ => some true) (fun k => by rw [spec_DiskOk.l0, if_neg (by omega)]) (Ev.ret ?_)
    cases ahead l i <;> rfl
  | cons a t ih =>
    intro i ht hi
    obtain ⟨h1, h2, h3⟩ := rd_T45_drop ht
    have e := ih (i + 1) h3 (by omega)
    rw [ahead_succ ht, show ((i + 1 : Nat) : Int) = (i : Int) + 1 from by omega] at e
    refine Ev.succ ?_
    simp only [spec_DiskOk.l0, h1, w64 (n := (i : Int) + 1) (by omega) (by omega), w64 (n := (i : Int) - 1) (by omega) (by omega)]
    refine Ev.pos (by omega) (Ev.pos (by omega) (Ev.bind0 (spec_l03Name_eq _) ?_))
    have hno : fileOk a = false → Ev (fun _ => some false) (filesOk (ahead l i) (a :: t)) := fun h => Ev.ret (by cases ahead l i <;> simp [filesOk, h])
    by_cases c1 : 1 ≤ (a.f0.size : Int) ∧ (a.f0.size : Int) ≤ 8
    · refine Ev.pos (decide_eq_true c1) ?_
      by_cases c2 : (a.f1.size : Int) > 20000
      · exact Ev.pos c2 (hno (by simp only [fileOk]; rw [show decide ((a.f1.size : Int) ≤ 20000) = false from decide_eq_false (by omega)]; simp))
      · refine Ev.neg c2 (Ev.bind0 (spec_l01In_eq _ _ _) ?_)
        by_cases c3 : 0 ≤ a.f2 ∧ a.f2 ≤ (a.f1.size : Int)
        · refine Ev.pos (decide_eq_true c3) ?_
          have hok : fileOk a = true := by
            simp only [fileOk]
            rw [decide_eq_true c1, decide_eq_true c3, show decide ((a.f1.size : Int) ≤ 20000) = true from decide_eq_true (by omega)]
            rfl
          by_cases c4 : 0 < i
          · refine Ev.pos (by omega) (Ev.pos (by omega) (Ev.pos (by omega) ?_))
            rw [rd_ahead c4 hi]
            simp only [filesOk, hok, Bool.true_and]
            cases hb : Op.bytesLess (rd_T45 l ((i : Int) - 1)).f0.toList a.f0.toList with
            | true => exact Ev.pos (by trivial) (by simpa using e)
            | false => exact Ev.neg (by simp) (Ev.ret (by simp))
          · refine Ev.neg (by omega) ?_
            rw [show ahead l i = none from if_neg c4]
            simp only [filesOk, hok, Bool.true_and]
            exact e
        · exact Ev.neg (by simpa using c3) (hno (by simp only [fileOk]; rw [decide_eq_false c3]; simp))
    · exact Ev.neg (by simpa using c1) (hno (by simp only [fileOk]; rw [decide_eq_false c1]; simp))
theorem spec_DiskOk_ev (l : List S45) (hl : l.length ≤ 1048576) : Ev (fun k => spec_DiskOk.f k l) (diskOk l) := by
  unfold spec_DiskOk.f diskOk
  by_cases h : (l.length : Int) > 30
  · exact Ev.pos h (Ev.ret (by rw [decide_eq_false (by omega)]; rfl))
  · refine Ev.neg h ?_
    rw [show decide (l.length ≤ 30) = true from decide_eq_true (by omega), Bool.true_and]
    exact spec_DiskOk_l0 l hl l 0 rfl (Nat.zero_le _)

theorem impl_DiskOk_l0 (l : List S45) (hl : l.length ≤ 1048576) : ∀ (t : List S45) (i : Nat), l.drop i = t → i ≤ l.length → Ev (fun k => impl_DiskOk.l0 k l (l.length : Int) (i : Int) l) (decide (l.length ≤ 30) && filesOk (ahead l i) t) := by
  intro t
  induction t with
  | nil =>
    intro i ht hi
    have := drop_nil_len ht
    refine Ev.step (f := fun _ => some (decide ((l.length : Int) ≤ 30))) (fun k => by rw [impl_DiskOk.l0, if_neg (by omega)]) (Ev.ret ?_)
    have e : filesOk (ahead l i) [] = true := by cases ahead l i <;> rfl
    rw [e, Bool.and_true]
    exact decide_eq_decide.2 (by omega)
  | cons a t ih =>
    intro i ht hi
    obtain ⟨h1, h2, h3⟩ := rd_T45_drop ht
    have e := ih (i + 1) h3 (by omega)
    rw [ahead_succ ht, show ((i + 1 : Nat) : Int) = (i : Int) + 1 from by omega] at e
    refine Ev.succ ?_
    simp only [impl_DiskOk.l0, h1, w64 (n := (i : Int) + 1) (by omega) (by omega), w64 (n := (i : Int) - 1) (by omega) (by omega)]
    refine Ev.pos (by omega) (Ev.pos (by omega) (Ev.pos (by omega) (Ev.bind0 (impl_within_eq _ _ _) ?_)))
    have hno : fileOk a = false → Ev (fun _ => some false) (decide (l.length ≤ 30) && filesOk (ahead l i) (a :: t)) := fun h => Ev.ret (by cases ahead l i <;> simp [filesOk, h])
    by_cases c1 : 1 ≤ (a.f0.size : Int) ∧ (a.f0.size : Int) ≤ 8
    · refine Ev.pos (decide_eq_true c1) ?_
      by_cases c2 : (a.f1.size : Int) > 20000
      · exact Ev.pos c2 (hno (by simp only [fileOk]; rw [show decide ((a.f1.size : Int) ≤ 20000) = false from decide_eq_false (by omega)]; simp))
      · refine Ev.neg c2 (Ev.bind0 (impl_within_eq _ _ _) ?_)
        by_cases c3 : 0 ≤ a.f2 ∧ a.f2 ≤ (a.f1.size : Int)
        · refine Ev.pos (decide_eq_true c3) ?_
          have hok : fileOk a = true := by
            simp only [fileOk]
            rw [decide_eq_true c1, decide_eq_true c3, show decide ((a.f1.size : Int) ≤ 20000) = true from decide_eq_true (by omega)]
            rfl
          by_cases c4 : 0 < i
          · refine Ev.pos (by omega) (Ev.pos (by omega) (Ev.pos (by omega) ?_))
            rw [rd_ahead c4 hi]
            simp only [filesOk, hok, Bool.true_and]
            cases hb : Op.bytesLess (rd_T45 l ((i : Int) - 1)).f0.toList a.f0.toList with
            | true => exact Ev.pos (by trivial) (by simpa using e)
            | false => exact Ev.neg (by simp) (Ev.ret (by simp))
          · refine Ev.neg (by omega) ?_
            rw [show ahead l i = none from if_neg c4]
            simp only [filesOk, hok, Bool.true_and]
            exact e
        · exact Ev.neg (by simpa using c3) (hno (by simp only [fileOk]; rw [decide_eq_false c3]; simp))
    · exact Ev.neg (by simpa using c1) (hno (by simp only [fileOk]; rw [decide_eq_false c1]; simp))
theorem impl_DiskOk_ev (l : List S45) (hl : l.length ≤ 1048576) : Ev (fun k => impl_DiskOk.f k l) (diskOk l) := by
  unfold impl_DiskOk.f diskOk
  exact impl_DiskOk_l0 l hl l 0 rfl (Nat.zero_le _)

theorem files_all : ∀ (l : List S45) (o : Option S45), filesOk o l = true → ∀ x ∈ l, fileOk x = true := by
  intro l
  induction l with
  | nil => intro _ _ x hx; cases hx
  | cons a t ih =>
    intro o h x hx
    have h2 : fileOk a = true ∧ filesOk (some a) t = true := by
      cases o with
      | none => rw [filesOk, Bool.and_eq_true] at h; exact h
      | some y => rw [filesOk, Bool.and_eq_true, Bool.and_eq_true] at h; exact ⟨h.1.1, h.2⟩
    rcases List.mem_cons.1 hx with rfl | hx
    · exact h2.1
    · exact ih _ h2.2 x hx

theorem idx_range {α : Type} (p : α → Bool) : ∀ (l : List α) (i : Int), idxFrom p l i = -1 ∨ (i ≤ idxFrom p l i ∧ idxFrom p l i < i + (l.length : Int)) := by
  intro l
  induction l with
  | nil => intro i; exact .inl rfl
  | cons a t ih =>
    intro i
    rw [idxFrom, List.length_cons]
    by_cases h : p a = true
    · rw [if_pos h]; right; omega
    · rw [if_neg h]
      rcases ih (i + 1) with h1 | h1
      · exact .inl h1
      · right; omega
theorem idx_any {α : Type} (p : α → Bool) : ∀ (l : List α) (i : Int), 0 ≤ i → decide (0 ≤ idxFrom p l i) = l.any p := by
  intro l
  induction l with
  | nil => intro i _; rfl
  | cons a t ih =>
    intro i hi
    rw [idxFrom, List.any_cons]
    by_cases h : p a = true
    · rw [if_pos h, h, decide_eq_true hi]; rfl
    · rw [if_neg h, ih (i + 1) (by omega)]
      rw [show p a = false from by simpa using h]; rfl

theorem bytes_gt : ∀ (x y : List UInt8), Op.bytesLess y x = (!Op.bytesLess x y && !(x == y))
  | [], [] => rfl
  | [], _ :: _ => rfl
  | _ :: _, [] => rfl
  | a :: x, b :: y => by
    have ih := bytes_gt x y
    by_cases h : a = b
    · subst h
      simp [Op.bytesLess, ih]
    · have hn : a.toNat ≠ b.toNat := fun e => h (UInt8.toNat_inj.1 e)
      have h1 : (b == a) = false := by simpa using fun e => h e.symm
      have h2 : (a == b) = false := by simpa using h
      by_cases hl : a.toNat < b.toNat
      · have c1 : decide (b < a) = false := decide_eq_false (fun e => by have := UInt8.lt_iff_toNat_lt.1 e; omega)
        have c2 : decide (a < b) = true := decide_eq_true (UInt8.lt_iff_toNat_lt.2 hl)
        simp [Op.bytesLess, h1, h2, c1, c2]
      · have c1 : decide (b < a) = true := decide_eq_true (UInt8.lt_iff_toNat_lt.2 (by omega))
        have c2 : decide (a < b) = false := decide_eq_false (fun e => hl (UInt8.lt_iff_toNat_lt.1 e))
        simp [Op.bytesLess, h1, h2, c1, c2]
def before (x y : S45) : Prop := Op.bytesLess x.f0.toList y.f0.toList = true
theorem less_trans : ∀ (x y z : List UInt8), Op.bytesLess x y = true → Op.bytesLess y z = true → Op.bytesLess x z = true
  | _, _, [], _, h => by simp [Op.bytesLess] at h
  | _, [], _ :: _, h, _ => by simp [Op.bytesLess] at h
  | [], _ :: _, _ :: _, _, _ => rfl
  | a :: x, b :: y, c :: z, h, k => by
    simp only [Op.bytesLess, Bool.or_eq_true, Bool.and_eq_true, decide_eq_true_eq, beq_iff_eq] at h k ⊢
    rcases h with h | ⟨h, h'⟩
    · rcases k with k | ⟨k, k'⟩
      · exact .inl (UInt8.lt_trans h k)
      · exact .inl (k ▸ h)
    · rcases k with k | ⟨k, k'⟩
      · exact .inl (h ▸ k)
      · exact .inr ⟨h.trans k, less_trans x y z h' k'⟩
theorem less_irrefl : ∀ (x : List UInt8), ¬ Op.bytesLess x x = true
  | [] => by simp [Op.bytesLess]
  | a :: x => by
    simp only [Op.bytesLess, Bool.or_eq_true, Bool.and_eq_true, decide_eq_true_eq, beq_iff_eq, not_or, not_and]
    exact ⟨UInt8.lt_irrefl a, fun _ => less_irrefl x⟩
theorem before_trans {x y z : S45} (h : before x y) (k : before y z) : before x z := less_trans _ _ _ h k
theorem pair_files : ∀ (l : List S45) (o : Option S45), (∀ x ∈ l, fileOk x = true) → l.Pairwise before → (∀ y, o = some y → ∀ x ∈ l, before y x) → filesOk o l = true := by
  intro l
  induction l with
  | nil => intro o _ _ _; cases o <;> rfl
  | cons a t ih =>
    intro o h1 h2 h3
    rw [List.pairwise_cons] at h2
    have e := ih (some a) (fun x hx => h1 x (List.mem_cons_of_mem _ hx)) h2.2 (fun y hy x hx => by injection hy with hy; subst hy; exact h2.1 x hx)
    have ha := h1 a List.mem_cons_self
    cases o with
    | none => rw [filesOk, ha, e]; rfl
    | some y =>
      have hb : Op.bytesLess y.f0.toList a.f0.toList = true := h3 y rfl a List.mem_cons_self
      rw [filesOk, ha, hb, e]; rfl
def putOf (l : List S45) (f : S45) : List S45 := l.filter (fun x => Op.bytesLess x.f0.toList f.f0.toList) ++ f :: l.filter (fun x => Op.bytesLess f.f0.toList x.f0.toList)
theorem putOf_pair {l : List S45} (f : S45) (h : l.Pairwise before) : (putOf l f).Pairwise before := by
  unfold putOf
  rw [List.pairwise_append, List.pairwise_cons]
  refine ⟨h.filter _, ⟨fun x hx => (List.mem_filter.1 hx).2, h.filter _⟩, fun x hx y hy => ?_⟩
  have hx2 : before x f := (List.mem_filter.1 hx).2
  rcases List.mem_cons.1 hy with rfl | hy
  · exact hx2
  · exact before_trans hx2 (show before f y from (List.mem_filter.1 hy).2)
theorem putOf_mem {l : List S45} {f x : S45} (h : x ∈ putOf l f) : x = f ∨ x ∈ l := by
  unfold putOf at h
  rcases List.mem_append.1 h with h | h
  · exact .inr (List.mem_filter.1 h).1
  · rcases List.mem_cons.1 h with h | h
    · exact .inl h
    · exact .inr (List.mem_filter.1 h).1
theorem filter_two {l : List S45} (f : S45) : (l.filter (fun x => Op.bytesLess x.f0.toList f.f0.toList)).length + (l.filter (fun x => Op.bytesLess f.f0.toList x.f0.toList)).length ≤ l.length := by
  induction l with
  | nil => simp
  | cons a t ih =>
    have hno : ¬ (Op.bytesLess a.f0.toList f.f0.toList = true ∧ Op.bytesLess f.f0.toList a.f0.toList = true) := fun h => by
      exact less_irrefl _ (less_trans _ _ _ h.1 h.2)
    rw [List.filter_cons, List.filter_cons, List.length_cons]
    by_cases c1 : Op.bytesLess a.f0.toList f.f0.toList = true
    · have c2 : ¬ Op.bytesLess f.f0.toList a.f0.toList = true := fun h => hno ⟨c1, h⟩
      rw [if_pos c1, if_neg c2, List.length_cons]; omega
    · rw [if_neg c1]
      by_cases c2 : Op.bytesLess f.f0.toList a.f0.toList = true
      · rw [if_pos c2, List.length_cons]; omega
      · rw [if_neg c2]; omega
theorem putOf_length (l : List S45) (f : S45) : (putOf l f).length ≤ l.length + 1 := by
  unfold putOf
  rw [List.length_append, List.length_cons]
  have := filter_two (l := l) f
  omega
theorem spec_l03Put_l1 (l : List S45) (hl : l.length ≤ 1048576) (f : S45) : ∀ (t : List S45) (i : Nat) (acc : List S45), l.drop i = t → i ≤ l.length → acc.length ≤ 1048577 + i →
    Ev (fun k => spec_l03Put.l1 k (i : Int) l f.f0 f.f1 f.f2 acc) (acc ++ t.filter (fun x => Op.bytesLess f.f0.toList x.f0.toList)) := by
  intro t
  induction t with
  | nil =>
    intro i acc ht hi hz
    have := drop_nil_len ht
    exact Ev.step (f := fun _ => some acc) (fun k => by rw [spec_l03Put.l1, if_neg (by omega)]) (Ev.ret (by simp))
  | cons a t ih =>
    intro i acc ht hi hz
    obtain ⟨h1, h2, h3⟩ := rd_T45_drop ht
    refine Ev.succ ?_
    simp only [spec_l03Put.l1, h1, w64 (n := (i : Int) + 1) (by omega) (by omega)]
    refine Ev.pos (by omega) (Ev.pos (by omega) ?_)
    rw [List.filter_cons]
    by_cases c : Op.bytesLess f.f0.toList a.f0.toList = true
    · have e := ih (i + 1) (acc ++ [a]) h3 (by omega) (by rw [List.length_append, List.length_singleton]; omega)
      rw [List.append_assoc, show ((i + 1 : Nat) : Int) = (i : Int) + 1 from by omega] at e
      rw [if_pos c]
      exact Ev.pos c (Ev.pos (by omega) e)
    · have e := ih (i + 1) acc h3 (by omega) (by omega)
      rw [show ((i + 1 : Nat) : Int) = (i : Int) + 1 from by omega] at e
      rw [if_neg c]
      exact Ev.neg c e
theorem spec_l03Put_l0 (l : List S45) (hl : l.length ≤ 1048576) (f : S45) : ∀ (t : List S45) (i : Nat) (acc : List S45), l.drop i = t → i ≤ l.length → acc.length ≤ i →
    Ev (fun k => spec_l03Put.l0 k (i : Int) l f.f0 f.f1 f.f2 acc) (acc ++ t.filter (fun x => Op.bytesLess x.f0.toList f.f0.toList) ++ f :: l.filter (fun x => Op.bytesLess f.f0.toList x.f0.toList)) := by
  intro t
  induction t with
  | nil =>
    intro i acc ht hi hz
    have := drop_nil_len ht
    refine Ev.succ ?_
    simp only [spec_l03Put.l0]
    have e := spec_l03Put_l1 l hl f l 0 (acc ++ [f]) rfl (Nat.zero_le _) (by rw [List.length_append, List.length_singleton]; omega)
    rw [List.append_assoc] at e
    refine Ev.neg (by omega) (Ev.pos (by omega) ?_)
    rw [List.filter_nil, List.append_nil]
    exact e
  | cons a t ih =>
    intro i acc ht hi hz
    obtain ⟨h1, h2, h3⟩ := rd_T45_drop ht
    refine Ev.succ ?_
    simp only [spec_l03Put.l0, h1, w64 (n := (i : Int) + 1) (by omega) (by omega)]
    refine Ev.pos (by omega) (Ev.pos (by omega) ?_)
    rw [List.filter_cons]
    by_cases c : Op.bytesLess a.f0.toList f.f0.toList = true
    · have e := ih (i + 1) (acc ++ [a]) h3 (by omega) (by rw [List.length_append, List.length_singleton]; omega)
      rw [List.append_assoc acc, show ((i + 1 : Nat) : Int) = (i : Int) + 1 from by omega] at e
      rw [if_pos c]
      exact Ev.pos c (Ev.pos (by omega) e)
    · have e := ih (i + 1) acc h3 (by omega) (by omega)
      rw [show ((i + 1 : Nat) : Int) = (i : Int) + 1 from by omega] at e
      rw [if_neg c]
      exact Ev.neg c e
theorem spec_l03Put_ev (l : List S45) (hl : l.length ≤ 1048576) (f : S45) : Ev (fun k => spec_l03Put.f k l f.f0 f.f1 f.f2) (putOf l f) := by
  unfold spec_l03Put.f
  exact spec_l03Put_l0 l hl f l 0 [] rfl (Nat.zero_le _) (Nat.le_refl _)
def named (s : ByteArray) (x : S45) : Bool := decide (x.f0.toList = s.toList)
theorem spec_l03At_l0 (l : List S45) (hl : l.length ≤ 1048576) (s : ByteArray) : ∀ (t : List S45) (i : Nat), l.drop i = t → i ≤ l.length → Ev (fun k => spec_l03At.l0 k s (i : Int) l) (idxFrom (named s) t (i : Int)) := by
  intro t
  induction t with
  | nil =>
    intro i ht hi
    have := drop_nil_len ht
    exact Ev.step (f := fun _ => some (-1)) (fun k => by rw [spec_l03At.l0, if_neg (by omega)]) (Ev.now _)
  | cons a t ih =>
    intro i ht hi
    obtain ⟨h1, h2, h3⟩ := rd_T45_drop ht
    have e := ih (i + 1) h3 (by omega)
    rw [show ((i + 1 : Nat) : Int) = (i : Int) + 1 from by omega] at e
    refine Ev.succ ?_
    simp only [spec_l03At.l0, h1, w64 (n := (i : Int) + 1) (by omega) (by omega)]
    refine Ev.pos (by omega) (Ev.pos (by omega) ?_)
    rw [idxFrom, named]
    by_cases h : a.f0.toList = s.toList
    · rw [if_pos (decide_eq_true h)]
      exact Ev.pos h (Ev.now _)
    · rw [if_neg (by simpa using h)]
      exact Ev.neg h e

theorem bytes_ne {x y : S45} (h : ¬ x.f0.toList = y.f0.toList) (h2 : ¬ Op.bytesLess y.f0.toList x.f0.toList = true) : Op.bytesLess x.f0.toList y.f0.toList = true := by
  have := bytes_gt x.f0.toList y.f0.toList
  cases hb : Op.bytesLess x.f0.toList y.f0.toList with
  | true => rfl
  | false =>
    rw [hb] at this
    refine absurd ?_ h2
    rw [this]
    simp only [Bool.not_false, Bool.true_and, Bool.not_eq_true']
    exact beq_eq_false_iff_ne.2 h
theorem before_ne {x y : S45} (h : before x y) : ¬ x.f0.toList = y.f0.toList := fun e => by unfold before at h; rw [e] at h; exact less_irrefl _ h
theorem before_not {x y : S45} (h : before x y) : ¬ before y x := fun k => less_irrefl _ (less_trans _ _ _ h k)
/-- A file put into a sorted disk. -/
def putRec (f : S45) : List S45 → List S45
  | [] => [f]
  | x :: t => if x.f0.toList = f.f0.toList then f :: t else if Op.bytesLess f.f0.toList x.f0.toList = true then f :: x :: t else x :: putRec f t
theorem putOf_rec (f : S45) : ∀ (l : List S45), l.Pairwise before → putOf l f = putRec f l := by
  intro l
  induction l with
  | nil => intro _; rfl
  | cons x t ih =>
    intro h
    rw [List.pairwise_cons] at h
    have ih := ih h.2
    unfold putOf at ih ⊢
    rw [putRec, List.filter_cons, List.filter_cons]
    by_cases c : x.f0.toList = f.f0.toList
    · have hl : ∀ y ∈ t, before f y := fun y hy => by have := h.1 y hy; unfold before at this ⊢; rw [← c]; exact this
      rw [if_pos c, c, if_neg (less_irrefl _), if_neg (less_irrefl _), List.filter_eq_nil_iff.2 (fun y hy => before_not (hl y hy)), List.filter_eq_self.2 hl]
      rfl
    · rw [if_neg c]
      by_cases c2 : Op.bytesLess f.f0.toList x.f0.toList = true
      · have hl : ∀ y ∈ t, before f y := fun y hy => before_trans (show before f x from c2) (h.1 y hy)
        rw [if_pos c2, if_pos c2, if_neg (show ¬ Op.bytesLess x.f0.toList f.f0.toList = true from before_not (show before f x from c2)), List.filter_eq_nil_iff.2 (fun y hy => before_not (hl y hy)), List.filter_eq_self.2 hl]
        rfl
      · rw [if_neg c2, if_neg c2, if_pos (bytes_ne c c2), ← ih]
        rfl
theorem idx_shift {α : Type} (p : α → Bool) : ∀ (l : List α) (i : Int), idxFrom p l i = if idxFrom p l 0 < 0 then -1 else i + idxFrom p l 0
  | [], i => rfl
  | x :: t, i => by
    rw [idxFrom, idxFrom]
    by_cases c : p x = true
    · rw [if_pos c, if_pos c, if_neg (by omega)]; omega
    · rw [if_neg c, if_neg c, idx_shift p t (i + 1), idx_shift p t (0 + 1)]
      by_cases c2 : idxFrom p t 0 < 0
      · rw [if_pos c2, if_pos c2, if_pos (by omega)]
      · rw [if_neg c2, if_neg c2, if_neg (by omega)]; omega
theorem idx_cons {α : Type} (p : α → Bool) (x : α) (t : List α) (h : ¬ p x = true) : idxFrom p (x :: t) 0 = if idxFrom p t 0 < 0 then -1 else 1 + idxFrom p t 0 := by
  rw [idxFrom, if_neg h, idx_shift p t (0 + 1)]
  rfl
theorem idx_none {α : Type} (p : α → Bool) : ∀ (l : List α) (i : Int), (∀ x ∈ l, ¬ p x = true) → idxFrom p l i = -1
  | [], i, _ => rfl
  | x :: t, i, h => by rw [idxFrom, if_neg (h x List.mem_cons_self)]; exact idx_none p t (i + 1) (fun y hy => h y (List.mem_cons_of_mem _ hy))
theorem insAt_succ (x f : S45) (t : List S45) (n : Nat) : insAt (x :: t) (n + 1) f = x :: insAt t n f := rfl
theorem putFileL_rec (f : S45) : ∀ (l : List S45), l.Pairwise before → putFileL l f = putRec f l := by
  intro l
  induction l with
  | nil => intro _; rfl
  | cons x t ih =>
    intro h
    rw [List.pairwise_cons] at h
    have ih := ih h.2
    rw [putRec]
    by_cases c : x.f0.toList = f.f0.toList
    · rw [if_pos c]
      unfold putFileL
      rw [idxFrom, if_pos (decide_eq_true c), if_pos (Int.le_refl _)]
      rfl
    · rw [if_neg c]
      have hx : ¬ (fun x : S45 => decide (x.f0.toList = f.f0.toList)) x = true := by simpa using c
      by_cases c2 : Op.bytesLess f.f0.toList x.f0.toList = true
      · rw [if_pos c2]
        have hn : idxFrom (fun x : S45 => decide (x.f0.toList = f.f0.toList)) (x :: t) 0 = -1 := idx_none _ _ _ (fun y hy => by
          rcases List.mem_cons.1 hy with rfl | hy
          · exact hx
          · have := before_ne (before_trans (show before f x from c2) (h.1 y hy))
            simp only [decide_eq_true_eq]
            exact fun e => this e.symm)
        have hj : idxFrom (fun x : S45 => Op.bytesLess f.f0.toList x.f0.toList) (x :: t) 0 = 0 := by rw [idxFrom, if_pos c2]
        unfold putFileL
        rw [hn, hj, if_neg (by omega), if_neg (by omega)]
        rfl
      · rw [if_neg c2, ← ih]
        have r1 := idx_range (fun x : S45 => decide (x.f0.toList = f.f0.toList)) t 0
        have r2 := idx_range (fun x : S45 => Op.bytesLess f.f0.toList x.f0.toList) t 0
        unfold putFileL
        rw [idx_cons _ x t hx, idx_cons (fun x : S45 => Op.bytesLess f.f0.toList x.f0.toList) x t c2]
        generalize idxFrom (fun x : S45 => decide (x.f0.toList = f.f0.toList)) t 0 = A at r1 ⊢
        generalize idxFrom (fun x : S45 => Op.bytesLess f.f0.toList x.f0.toList) t 0 = B at r2 ⊢
        by_cases d : A < 0
        · rw [if_pos d, if_neg (show ¬ (0 : Int) ≤ -1 by omega), if_neg (show ¬ 0 ≤ A by omega)]
          by_cases d2 : B < 0
          · rw [if_pos d2, if_pos (show (-1 : Int) < 0 by omega), if_pos d2, List.length_cons, insAt_succ]
          · rw [if_neg d2, if_neg (show ¬ 1 + B < 0 by omega), if_neg d2]
            obtain ⟨n, hn⟩ := Int.eq_ofNat_of_zero_le (Int.not_lt.1 d2)
            rw [hn, show (1 + (n : Int)).toNat = n + 1 from by omega, Int.toNat_natCast, insAt_succ]
        · rw [if_neg d, if_pos (show 0 ≤ 1 + A by omega), if_pos (show 0 ≤ A by omega)]
          obtain ⟨n, hn⟩ := Int.eq_ofNat_of_zero_le (Int.not_lt.1 d)
          rw [hn, show (1 + (n : Int)).toNat = n + 1 from by omega, Int.toNat_natCast, List.set_cons_succ]
theorem putRec_mem (f : S45) : ∀ (l : List S45), f ∈ putRec f l
  | [] => List.mem_cons_self
  | x :: t => by
    rw [putRec]
    split
    · exact List.mem_cons_self
    · split
      · exact List.mem_cons_self
      · exact List.mem_cons_of_mem _ (putRec_mem f t)
theorem putFileL_mem (l : List S45) (f : S45) : f ∈ putFileL l f := by
  unfold putFileL
  split
  · rename_i h
    have hr := idx_range (fun x : S45 => decide (x.f0.toList = f.f0.toList)) l 0
    exact List.mem_iff_getElem?.2 ⟨_, List.getElem?_set_self (by omega)⟩
  · split <;> exact List.mem_append_right _ List.mem_cons_self
theorem putFileL_length (l : List S45) (f : S45) : (putFileL l f).length ≤ l.length + 1 := by
  unfold putFileL insAt
  split
  · rw [List.length_set]; omega
  · split <;> simp <;> omega
theorem files_pair : ∀ (l : List S45) (o : Option S45), filesOk o l = true → l.Pairwise before ∧ ∀ y, o = some y → ∀ x ∈ l, before y x := by
  intro l
  induction l with
  | nil => intro o _; exact ⟨List.Pairwise.nil, fun _ _ x hx => by cases hx⟩
  | cons a t ih =>
    intro o h
    have h2 : filesOk (some a) t = true ∧ ∀ y, o = some y → before y a := by
      cases o with
      | none => rw [filesOk, Bool.and_eq_true] at h; exact ⟨h.2, fun y e => by cases e⟩
      | some y => rw [filesOk, Bool.and_eq_true, Bool.and_eq_true] at h; exact ⟨h.2, fun z e => by injection e with e; subst e; exact h.1.2⟩
    obtain ⟨i1, i2⟩ := ih (some a) h2.1
    refine ⟨List.pairwise_cons.2 ⟨i2 a rfl, i1⟩, fun y e x hx => ?_⟩
    rcases List.mem_cons.1 hx with rfl | hx
    · exact h2.2 y e
    · exact before_trans (h2.2 y e) (i2 a rfl x hx)
theorem disk_pair {l : List S45} (h : diskOk l = true) : l.Pairwise before ∧ (∀ x ∈ l, fileOk x = true) ∧ l.length ≤ 30 := by
  unfold diskOk at h
  rw [Bool.and_eq_true, decide_eq_true_eq] at h
  exact ⟨(files_pair l none h.2).1, files_all l none h.2, h.1⟩
theorem disk_bad {l : List S45} {f : S45} (hm : f ∈ l) (h : fileOk f = false) : diskOk l = false := by
  cases hd : diskOk l with
  | false => rfl
  | true =>
    have := (disk_pair hd).2.1 f hm
    rw [h] at this; cases this
def nameOk (s : ByteArray) : Bool := decide (1 ≤ (s.size : Int) ∧ (s.size : Int) ≤ 8)
theorem fileOk_name {x : S45} (h : fileOk x = true) : nameOk x.f0 = true ∧ (x.f1.size : Int) ≤ 20000 ∧ 0 ≤ x.f2 ∧ x.f2 ≤ (x.f1.size : Int) := by
  unfold fileOk at h
  rw [Bool.and_eq_true, Bool.and_eq_true, decide_eq_true_eq (p := (x.f1.size : Int) ≤ 20000), decide_eq_true_eq (p := 0 ≤ x.f2 ∧ x.f2 ≤ (x.f1.size : Int))] at h
  exact ⟨h.1.1, h.1.2, h.2⟩
theorem fileOk_bad {x : S45} (h : nameOk x.f0 = false) : fileOk x = false := by
  unfold nameOk at h
  unfold fileOk
  rw [h]; rfl
def without (l : List S45) (s : ByteArray) : List S45 := l.filter (fun x => !decide (x.f0.toList = s.toList))
theorem spec_l03Without_l0 (l : List S45) (hl : l.length ≤ 1048576) (s : ByteArray) : ∀ (t : List S45) (i : Nat) (acc : List S45), l.drop i = t → i ≤ l.length → acc.length ≤ i → Ev (fun k => spec_l03Without.l0 k s (i : Int) l acc) (acc ++ without t s) := by
  intro t
  induction t with
  | nil =>
    intro i acc ht hi hz
    have := drop_nil_len ht
    exact Ev.step (f := fun _ => some acc) (fun k => by rw [spec_l03Without.l0, if_neg (by omega)]) (Ev.ret (by simp [without]))
  | cons a t ih =>
    intro i acc ht hi hz
    obtain ⟨h1, h2, h3⟩ := rd_T45_drop ht
    refine Ev.succ ?_
    simp only [spec_l03Without.l0, h1, w64 (n := (i : Int) + 1) (by omega) (by omega)]
    refine Ev.pos (by omega) (Ev.pos (by omega) ?_)
    unfold without at ih ⊢
    rw [List.filter_cons]
    by_cases c : a.f0.toList = s.toList
    · have e := ih (i + 1) acc h3 (by omega) (by omega)
      rw [show ((i + 1 : Nat) : Int) = (i : Int) + 1 from by omega] at e
      rw [if_neg (by rw [decide_eq_true c]; decide)]
      exact Ev.pos c e
    · have e := ih (i + 1) (acc ++ [a]) h3 (by omega) (by rw [List.length_append, List.length_singleton]; omega)
      rw [List.append_assoc, show ((i + 1 : Nat) : Int) = (i : Int) + 1 from by omega] at e
      rw [if_pos (by rw [decide_eq_false c]; decide)]
      exact Ev.neg c (Ev.pos (by omega) e)
theorem spec_l03Without_ev (l : List S45) (hl : l.length ≤ 1048576) (s : ByteArray) : Ev (fun k => spec_l03Without.f k l s) (without l s) := by
  unfold spec_l03Without.f
  exact spec_l03Without_l0 l hl s l 0 [] rfl (Nat.zero_le _) (Nat.le_refl _)
theorem without_length (l : List S45) (s : ByteArray) : (without l s).length ≤ l.length := List.length_filter_le ..
/-- The one file of a name, struck. -/
theorem without_erase (s : ByteArray) : ∀ (l : List S45) (n : Nat), l.Pairwise before → idxFrom (named s) l 0 = (n : Int) → l.eraseIdx n = without l s := by
  intro l
  induction l with
  | nil => intro n _ h; rw [idxFrom] at h; omega
  | cons x t ih =>
    intro n h hi
    rw [List.pairwise_cons] at h
    unfold without
    rw [List.filter_cons]
    by_cases c : x.f0.toList = s.toList
    · rw [idxFrom, named, if_pos (decide_eq_true c)] at hi
      obtain rfl : n = 0 := by omega
      rw [if_neg (by rw [decide_eq_true c]; decide), List.eraseIdx_cons_zero, List.filter_eq_self.2]
      intro y hy
      have := before_ne (h.1 y hy)
      rw [c] at this
      simp only [Bool.not_eq_true', decide_eq_false_iff_not]
      exact fun e => this e.symm
    · have hx : ¬ named s x = true := by unfold named; simpa using c
      rw [idx_cons _ x t hx] at hi
      by_cases d : idxFrom (named s) t 0 < 0
      · rw [if_pos d] at hi; omega
      · rw [if_neg d] at hi
        obtain ⟨m, hm⟩ := Int.eq_ofNat_of_zero_le (Int.not_lt.1 d)
        rw [hm] at hi
        obtain rfl : n = m + 1 := by omega
        rw [if_pos (by rw [decide_eq_false c]; decide), List.eraseIdx_cons_succ, ih m h.2 hm]
        rfl
theorem idx_get {α : Type} (p : α → Bool) : ∀ (l : List α) (n : Nat), idxFrom p l 0 = (n : Int) → ∃ (h : n < l.length), p l[n] = true
  | [], n, h => by rw [idxFrom] at h; omega
  | x :: t, n, h => by
    by_cases c : p x = true
    · rw [idxFrom, if_pos c] at h
      obtain rfl : n = 0 := by omega
      exact ⟨by simp, c⟩
    · rw [idx_cons p x t c] at h
      by_cases d : idxFrom p t 0 < 0
      · rw [if_pos d] at h; omega
      · rw [if_neg d] at h
        obtain ⟨m, hm⟩ := Int.eq_ofNat_of_zero_le (Int.not_lt.1 d)
        rw [hm] at h
        obtain rfl : n = m + 1 := by omega
        obtain ⟨h1, h2⟩ := idx_get p t m hm
        exact ⟨by simp; omega, by simpa using h2⟩
def fin (m : List S45) : List S45 × Bool := if diskOk m = true then (m, true) else ([], false)
def goAct (l : List S45) (i a0 : Int) (f : S45) (a1 a2 a3 : ByteArray) : List S45 × Bool :=
  if a0 = 1 then fin (putOf l ⟨f.f0, f.f1 ++ a2, f.f2⟩)
  else if i < 0 then ([], false)
  else if a0 = 2 then fin (putOf l ⟨f.f0, f.f1, (f.f1.size : Int)⟩)
  else if a0 = 3 then (if f.f2 < (f.f1.size : Int) then ([], false) else if a3.toList = a1.toList then ([], false) else if nameOk a3 = true then fin (putOf (without l a1) ⟨a3, f.f1, f.f2⟩) else ([], false))
  else if a0 = 4 then fin (without l a1) else ([], false)
def fileOf (l : List S45) (i : Int) (a1 : ByteArray) : S45 := if 0 ≤ i then rd_T45 l i else ⟨a1, (⟨#[]⟩ : ByteArray), 0⟩
/-- What DoAct leaves. -/
def doAct (l : List S45) (a0 : Int) (a1 a2 a3 : ByteArray) : List S45 × Bool :=
  if diskOk l = true then (if nameOk a1 = true then (if a0 = 3 ∨ a3.toList = [] then (if a0 = 1 ∨ a2.toList = [] then goAct l (idxFrom (named a1) l 0) a0 (fileOf l (idxFrom (named a1) l 0) a1) a1 a2 a3 else ([], false)) else ([], false)) else ([], false)) else ([], false)
theorem fin_ev (m : List S45) (hm : m.length ≤ 1048576) : Ev (fun k => (spec_DiskOk.f k m).bind fun t => if t = true then some (m, true) else some (([] : List S45), false)) (fin m) := by
  refine Ev.bind (spec_DiskOk_ev m hm) ?_
  unfold fin
  cases diskOk m with
  | true => exact Ev.pos rfl (Ev.tpos rfl (Ev.now _))
  | false => exact Ev.neg (by decide) (Ev.tneg (by decide) (Ev.now _))
theorem spec_DoAct_j2 (b : Bool) (l : List S45) (hl : l.length ≤ 1048575) (a0 : Int) (a1 a2 a3 : ByteArray) (f : S45) : Ev (fun k => spec_DoAct.j2 k b l a0 a1 a2 a3 f.f0 f.f1 f.f2) (if b = true then ([], false) else fin (putOf (without l a1) ⟨a3, f.f1, f.f2⟩)) := by
  refine Ev.succ ?_
  simp only [spec_DoAct.j2]
  cases b with
  | true => exact Ev.pos rfl (Ev.tpos rfl (Ev.now _))
  | false =>
    have h1 := without_length l a1
    have h2 := putOf_length (without l a1) ⟨a3, f.f1, f.f2⟩
    exact Ev.neg (by decide) (Ev.tneg (by decide) (Ev.bind (spec_l03Without_ev l (by omega) a1) (Ev.bind (spec_l03Put_ev _ (by omega) ⟨a3, f.f1, f.f2⟩) (fin_ev _ (by omega)))))
theorem spec_DoAct_j1 (l : List S45) (hl : l.length ≤ 1048575) (i a0 : Int) (a1 a2 a3 : ByteArray) (f : S45) (hs : f.f1.size + a2.size ≤ 9223372036854775807) : Ev (fun k => spec_DoAct.j1 k i l a0 a1 a2 a3 f.f0 f.f1 f.f2) (goAct l i a0 f a1 a2 a3) := by
  refine Ev.succ ?_
  simp only [spec_DoAct.j1]
  unfold goAct
  by_cases c1 : a0 = 1
  · have h2 := putOf_length l ⟨f.f0, f.f1 ++ a2, f.f2⟩
    exact Ev.pos c1 (Ev.tpos c1 (Ev.pos hs (Ev.bind (spec_l03Put_ev l (by omega) ⟨f.f0, f.f1 ++ a2, f.f2⟩) (fin_ev _ (by omega)))))
  refine Ev.neg c1 (Ev.tneg c1 ?_)
  by_cases c2 : i < 0
  · exact Ev.pos c2 (Ev.tpos c2 (Ev.now _))
  refine Ev.neg c2 (Ev.tneg c2 ?_)
  by_cases c3 : a0 = 2
  · have h2 := putOf_length l ⟨f.f0, f.f1, (f.f1.size : Int)⟩
    exact Ev.pos c3 (Ev.tpos c3 (Ev.bind (spec_l03Put_ev l (by omega) ⟨f.f0, f.f1, (f.f1.size : Int)⟩) (fin_ev _ (by omega))))
  refine Ev.neg c3 (Ev.tneg c3 ?_)
  by_cases c4 : a0 = 3
  · refine Ev.pos c4 (Ev.tpos c4 ?_)
    by_cases c5 : f.f2 < (f.f1.size : Int)
    · exact Ev.pos c5 (Ev.tpos c5 (Ev.to (spec_DoAct_j2 true l hl a0 a1 a2 a3 f) (if_pos rfl)))
    refine Ev.neg c5 (Ev.tneg c5 ?_)
    by_cases c6 : a3.toList = a1.toList
    · exact Ev.pos c6 (Ev.tpos c6 (Ev.to (spec_DoAct_j2 true l hl a0 a1 a2 a3 f) (if_pos rfl)))
    refine Ev.neg c6 (Ev.tneg c6 (Ev.bind0 (spec_l03Name_eq a3) (Ev.to (spec_DoAct_j2 (!nameOk a3) l hl a0 a1 a2 a3 f) ?_)))
    cases nameOk a3 <;> rfl
  refine Ev.neg c4 (Ev.tneg c4 ?_)
  by_cases c5 : a0 = 4
  · have h1 := without_length l a1
    exact Ev.pos c5 (Ev.tpos c5 (Ev.bind (spec_l03Without_ev l (by omega) a1) (fin_ev _ (by omega))))
  exact Ev.neg c5 (Ev.tneg c5 (Ev.now _))
theorem spec_DoAct_j0 (b : Bool) (l : List S45) (hl : diskOk l = true) (a0 : Int) (a1 a2 a3 : ByteArray) (hs : a2.size ≤ 2097152) : Ev (fun k => spec_DoAct.j0 k b l a0 a1 a2 a3) (if b = true then ([], false) else goAct l (idxFrom (named a1) l 0) a0 (fileOf l (idxFrom (named a1) l 0) a1) a1 a2 a3) := by
  obtain ⟨_, h2, h3⟩ := disk_pair hl
  refine Ev.succ ?_
  simp only [spec_DoAct.j0]
  cases b with
  | true => exact Ev.pos rfl (Ev.tpos rfl (Ev.now _))
  | false =>
    refine Ev.neg (by decide) (Ev.tneg (by decide) ?_)
    have e0 := spec_l03At_l0 l (by omega) a1 l 0 rfl (Nat.zero_le _)
    rw [show ((0 : Nat) : Int) = 0 from rfl] at e0
    have E : Ev (fun k => spec_l03At.f k l a1) (idxFrom (named a1) l 0) := by unfold spec_l03At.f; exact e0
    refine Ev.bind E ?_
    have hr := idx_range (named a1) l 0
    unfold fileOf
    by_cases c : idxFrom (named a1) l 0 ≥ 0
    · have hf : fileOk (rd_T45 l (idxFrom (named a1) l 0)) = true := by
        obtain ⟨n, hn⟩ := Int.eq_ofNat_of_zero_le c
        rw [hn]
        have : rd_T45 l (n : Int) = l[n]'(by omega) := rdOf_get (d := z45) (by omega)
        rw [this]
        exact h2 _ (List.getElem_mem ..)
      have hz := (fileOk_name hf).2.1
      rw [if_pos c]
      exact Ev.pos c (Ev.pos c (Ev.pos (by omega) (spec_DoAct_j1 l (by omega) _ a0 a1 a2 a3 _ (by omega))))
    · rw [if_neg c]
      exact Ev.neg c (spec_DoAct_j1 l (by omega) _ a0 a1 a2 a3 ⟨a1, (⟨#[]⟩ : ByteArray), 0⟩ (by show (⟨#[]⟩ : ByteArray).size + a2.size ≤ _; have : (⟨#[]⟩ : ByteArray).size = 0 := rfl; omega))
theorem spec_DoAct_ev (l : List S45) (hl : l.length ≤ 1048576) (a0 : Int) (a1 a2 a3 : ByteArray) (hs : a2.size ≤ 2097152) : Ev (fun k => spec_DoAct.f k l a0 a1 a2 a3) (doAct l a0 a1 a2 a3) := by
  have jt : ∀ l, Ev (fun k => spec_DoAct.j0 k true l a0 a1 a2 a3) (([] : List S45), false) := fun l => by
    refine Ev.succ ?_
    simp only [spec_DoAct.j0]
    exact Ev.pos (by simp) (Ev.now _)
  unfold spec_DoAct.f doAct
  refine Ev.bind (spec_DiskOk_ev l hl) ?_
  cases hd : diskOk l with
  | false => exact Ev.neg (by decide) (Ev.tneg (by decide) (jt l))
  | true =>
    refine Ev.pos rfl (Ev.tpos rfl (Ev.bind0 (spec_l03Name_eq a1) ?_))
    show Ev _ (if nameOk a1 = true then _ else _)
    cases hn : nameOk a1 with
    | false => exact Ev.neg (by rw [show decide (1 ≤ (a1.size : Int) ∧ (a1.size : Int) ≤ 8) = false from hn]; decide) (Ev.tneg (by decide) (jt l))
    | true =>
      refine Ev.pos hn (Ev.tpos rfl ?_)
      have j0 := spec_DoAct_j0 false l hd a0 a1 a2 a3 hs
      rw [if_neg (by decide)] at j0
      have jx := spec_DoAct_j0 (a2.toList != ([] : List UInt8)) l hd a0 a1 a2 a3 hs
      have hx : (if (a2.toList != ([] : List UInt8)) = true then (([] : List S45), false) else goAct l (idxFrom (named a1) l 0) a0 (fileOf l (idxFrom (named a1) l 0) a1) a1 a2 a3) = (if a2.toList = [] then goAct l (idxFrom (named a1) l 0) a0 (fileOf l (idxFrom (named a1) l 0) a1) a1 a2 a3 else ([], false)) := by
        by_cases c : a2.toList = []
        · rw [if_pos c, if_neg (by rw [bne_eq_false_iff_eq.mpr c]; decide)]
        · rw [if_neg c, if_pos (bne_iff_ne.mpr c)]
      rw [hx] at jx
      have body : Ev (fun k => if a0 = 1 then spec_DoAct.j0 k false l a0 a1 a2 a3 else spec_DoAct.j0 k (a2.toList != ([] : List UInt8)) l a0 a1 a2 a3) (if a0 = 1 ∨ a2.toList = [] then goAct l (idxFrom (named a1) l 0) a0 (fileOf l (idxFrom (named a1) l 0) a1) a1 a2 a3 else ([], false)) := by
        by_cases c : a0 = 1
        · exact Ev.pos c (Ev.tpos (.inl c) j0)
        · refine Ev.neg c ?_
          by_cases c2 : a2.toList = []
          · rw [if_pos c2] at jx; exact Ev.tpos (.inr c2) jx
          · rw [if_neg c2] at jx; exact Ev.tneg (fun h => h.elim (fun h => c h) (fun h => c2 h)) jx
      by_cases c3 : a0 = 3
      · exact Ev.pos c3 (Ev.tpos (.inl c3) body)
      · refine Ev.neg c3 ?_
        by_cases c4 : a3.toList = []
        · exact Ev.pos c4 (Ev.tpos (.inr c4) body)
        · exact Ev.neg c4 (Ev.tneg (fun h => h.elim (fun h => c3 h) (fun h => c4 h)) (jt l))
theorem impl_fin_ev (m : List S45) (hm : m.length ≤ 1048576) : Ev (fun k => impl_DoAct.fin k m) (fin m) := by
  unfold impl_DoAct.fin fin
  refine Ev.bind (impl_DiskOk_ev m hm) ?_
  cases diskOk m with
  | true => exact Ev.pos rfl (Ev.tpos rfl (Ev.now _))
  | false => exact Ev.neg (by decide) (Ev.tneg (by decide) (Ev.now _))
theorem fin_bad {m : List S45} {f : S45} (hm : f ∈ m) (h : nameOk f.f0 = false) : fin m = ([], false) := by
  unfold fin
  rw [disk_bad hm (fileOk_bad h)]; rfl
theorem rd_idx {l : List S45} {s : ByteArray} {n : Nat} (h : idxFrom (named s) l 0 = (n : Int)) : ∃ hn : n < l.length, rd_T45 l (n : Int) = l[n] ∧ (rd_T45 l (n : Int)).f0 = s := by
  obtain ⟨hn, h2⟩ := idx_get _ l n h
  have e : rd_T45 l (n : Int) = l[n] := rdOf_get (d := z45) hn
  unfold named at h2
  rw [decide_eq_true_eq] at h2
  exact ⟨hn, e, by rw [e]; exact toList_inj h2⟩
theorem impl_DoAct_ev (l : List S45) (hl : l.length ≤ 1048576) (a0 : Int) (a1 a2 a3 : ByteArray) (hs : a2.size ≤ 2097152) : Ev (fun k => impl_DoAct.f k l a0 a1 a2 a3) (doAct l a0 a1 a2 a3) := by
  unfold impl_DoAct.f doAct
  refine Ev.bind (impl_DiskOk_ev l (by omega)) ?_
  cases hd : diskOk l with
  | false => exact Ev.neg (by decide) (Ev.tneg (by decide) (Ev.now _))
  | true =>
    obtain ⟨hp, hf, h30⟩ := disk_pair hd
    refine Ev.pos rfl (Ev.tpos rfl ?_)
    show Ev (fun k => if a0 = 3 ∨ a3.toList = [] then (if a0 = 1 ∨ (a2.toList = [] ∧ 0 ≤ idxFrom (named a1) l 0) then (if l.length < 3518437208883 then impl_DoAct.go k l (idxFrom (named a1) l 0) a0 a1 a2 a3 else none) else some ([], false)) else some ([], false)) _
    have hlt : l.length < 3518437208883 := by omega
    have hr := idx_range (named a1) l 0
    cases hn : nameOk a1 with
    | false =>
      -- no file bears that name; a file that did would make the disk a wrong one
      refine Ev.tneg (by decide) ?_
      have hno : idxFrom (named a1) l 0 = -1 := idx_none _ l 0 (fun x hx e => by
        unfold named at e
        rw [decide_eq_true_eq] at e
        have := (fileOk_name (hf x hx)).1
        rw [toList_inj e, hn] at this; cases this)
      rw [hno]
      by_cases c3 : a0 = 3 ∨ a3.toList = []
      · refine Ev.pos c3 ?_
        by_cases c1 : a0 = 1
        · refine Ev.pos (.inl c1) (Ev.pos hlt ?_)
          unfold impl_DoAct.go
          have hp2 := putFileL_length l ⟨a1, (⟨#[]⟩ : ByteArray) ++ a2, 0⟩
          refine Ev.pos c1 (Ev.neg (by omega) (Ev.pos (by omega) (Ev.to (impl_fin_ev _ (by omega)) ?_)))
          exact fin_bad (putFileL_mem l _) hn
        · exact Ev.neg (fun h => h.elim (fun h => c1 h) (fun h => by omega)) (Ev.now _)
      · exact Ev.neg c3 (Ev.now _)
    | true =>
      refine Ev.tpos rfl ?_
      by_cases c3 : a0 = 3 ∨ a3.toList = []
      · refine Ev.pos c3 (Ev.tpos c3 ?_)
        by_cases c1 : a0 = 1
        · refine Ev.pos (.inl c1) (Ev.tpos (.inl c1) (Ev.pos hlt ?_))
          unfold impl_DoAct.go goAct fileOf
          refine Ev.pos c1 (Ev.tpos c1 ?_)
          by_cases ci : 0 ≤ idxFrom (named a1) l 0
          · rw [if_pos ci]
            obtain ⟨n, hi⟩ := Int.eq_ofNat_of_zero_le ci
            rw [hi]
            obtain ⟨h1, h2, h3⟩ := rd_idx hi
            have hz := (fileOk_name (x := rd_T45 l (n : Int)) (by rw [h2]; exact hf _ (List.getElem_mem ..))).2.1
            have hp2 := putFileL_length l ⟨(rd_T45 l (n : Int)).f0, (rd_T45 l (n : Int)).f1 ++ a2, (rd_T45 l (n : Int)).f2⟩
            refine Ev.pos (by omega) (Ev.pos (by omega) (Ev.to (impl_fin_ev _ (by omega)) ?_))
            rw [putFileL_rec _ l hp, putOf_rec _ l hp]
          · rw [if_neg ci]
            have hp2 := putFileL_length l ⟨a1, (⟨#[]⟩ : ByteArray) ++ a2, 0⟩
            refine Ev.neg ci (Ev.pos (by omega) (Ev.to (impl_fin_ev _ (by omega)) ?_))
            rw [putFileL_rec _ l hp, putOf_rec _ l hp]
        · by_cases cx : a2.toList = []
          · refine Ev.tpos (.inr cx) ?_
            unfold goAct
            refine Ev.tneg c1 ?_
            by_cases ci : idxFrom (named a1) l 0 < 0
            · exact Ev.neg (fun h => h.elim (fun h => c1 h) (fun h => by omega)) (Ev.tpos ci (Ev.now _))
            · refine Ev.pos (.inr ⟨cx, by omega⟩) (Ev.tneg ci (Ev.pos hlt ?_))
              obtain ⟨n, hi⟩ := Int.eq_ofNat_of_zero_le (Int.not_lt.1 ci)
              rw [hi]
              obtain ⟨h1, h2, h3⟩ := rd_idx hi
              have hfo := fileOk_name (x := rd_T45 l (n : Int)) (by rw [h2]; exact hf _ (List.getElem_mem ..))
              unfold impl_DoAct.go fileOf
              rw [if_pos (show (0 : Int) ≤ (n : Int) by omega)]
              simp only [Int.toNat_natCast]
              refine Ev.neg c1 ?_
              have er := without_erase a1 l n hp hi
              by_cases c2 : a0 = 2
              · refine Ev.pos c2 (Ev.tpos c2 (Ev.to (impl_fin_ev _ (by rw [List.length_set]; omega)) ?_))
                rw [putOf_rec _ l hp, ← putFileL_rec _ l hp]
                unfold putFileL
                have hi2 : idxFrom (fun x : S45 => decide (x.f0.toList = (rd_T45 l (n : Int)).f0.toList)) l 0 = (n : Int) := by rw [h3]; exact hi
                show fin _ = fin (if 0 ≤ idxFrom (fun x : S45 => decide (x.f0.toList = (rd_T45 l (n : Int)).f0.toList)) l 0 then _ else _)
                rw [if_pos (by rw [hi2]; omega)]
                show fin _ = fin (l.set (idxFrom (fun x : S45 => decide (x.f0.toList = (rd_T45 l (n : Int)).f0.toList)) l 0).toNat _)
                rw [hi2, Int.toNat_natCast]
              refine Ev.neg c2 (Ev.tneg c2 ?_)
              by_cases c4 : a0 = 3
              · refine Ev.pos c4 (Ev.tpos c4 ?_)
                by_cases ck : (rd_T45 l (n : Int)).f2 < ((rd_T45 l (n : Int)).f1.size : Int)
                · refine Ev.tpos ck ?_
                  by_cases ce : a3.toList = a1.toList
                  · exact Ev.pos ce (Ev.now _)
                  · exact Ev.neg ce (Ev.neg (by omega) (Ev.now _))
                · refine Ev.tneg ck ?_
                  by_cases ce : a3.toList = a1.toList
                  · exact Ev.pos ce (Ev.tpos ce (Ev.now _))
                  · have hp2 := putFileL_length (l.eraseIdx n) ⟨a3, (rd_T45 l (n : Int)).f1, (rd_T45 l (n : Int)).f2⟩
                    have hel := List.length_eraseIdx_le l n
                    refine Ev.neg ce (Ev.tneg ce (Ev.pos (by omega) (Ev.to (impl_fin_ev _ (by omega)) ?_)))
                    cases h3n : nameOk a3 with
                    | false => rw [if_neg (by decide)]; exact fin_bad (putFileL_mem _ _) h3n
                    | true =>
                      have hpw : (without l a1).Pairwise before := hp.filter _
                      rw [if_pos rfl, er, putFileL_rec _ _ hpw, putOf_rec _ _ hpw]
              refine Ev.neg c4 (Ev.tneg c4 ?_)
              by_cases c5 : a0 = 4
              · have hel := List.length_eraseIdx_le l n
                exact Ev.pos c5 (Ev.tpos c5 (Ev.to (impl_fin_ev _ (by omega)) (by rw [er])))
              · exact Ev.neg c5 (Ev.tneg c5 (Ev.now _))
          · exact Ev.neg (fun h => h.elim (fun h => c1 h) (fun h => cx h.1)) (Ev.tneg (fun h => h.elim (fun h => c1 h) (fun h => cx h)) (Ev.now _))
      · exact Ev.neg c3 (Ev.tneg c3 (Ev.now _))
theorem fin_length (m : List S45) : (fin m).1.length ≤ 30 := by
  unfold fin
  cases h : diskOk m with
  | true => rw [if_pos rfl]; exact (disk_pair h).2.2
  | false => rw [if_neg (by decide)]; exact Nat.zero_le _
theorem goAct_length (l : List S45) (i a0 : Int) (f : S45) (a1 a2 a3 : ByteArray) : (goAct l i a0 f a1 a2 a3).1.length ≤ 30 := by
  unfold goAct
  repeat' split
  all_goals first | exact fin_length _ | exact Nat.zero_le _
theorem doAct_length (l : List S45) (a0 : Int) (a1 a2 a3 : ByteArray) : (doAct l a0 a1 a2 a3).1.length ≤ 30 := by
  unfold doAct
  repeat' split
  all_goals first | exact goAct_length .. | exact Nat.zero_le _

/-- What DoActs leaves, from the act at i on. -/
def doFrom : List S45 → List S55 → Nat → List S45 × Int
  | l, [], i => (l, (i : Int))
  | l, a :: t, i => if (doAct l a.f0 a.f1 a.f2 a.f3).2 = true then doFrom (doAct l a.f0 a.f1 a.f2 a.f3).1 t (i + 1) else (l, (i : Int))
theorem doFrom_length : ∀ (t : List S55) (l : List S45) (i n : Nat), 30 ≤ n → l.length ≤ n → (doFrom l t i).1.length ≤ n
  | [], l, i, n, _, h => h
  | a :: t, l, i, n, h30, h => by
    rw [doFrom]
    split
    · exact doFrom_length t _ _ n h30 (Nat.le_trans (doAct_length ..) h30)
    · exact h
theorem impl_copyDisk_eq (l : List S45) (hl : l.length ≤ 1048576) : impl_copyDisk.f l = some l := by
  unfold impl_copyDisk.f
  rw [if_pos (by rw [List.length_nil]; omega), List.nil_append]
theorem spec_DoActs_l0 (acts : List S55) (hl : acts.length ≤ 1048576) (hf : ∀ x ∈ acts, x.f2.size ≤ 2097152) : ∀ (t : List S55) (i : Nat) (l : List S45), acts.drop i = t → i ≤ acts.length → l.length ≤ 1048576 → Ev (fun k => spec_DoActs.l0 k acts (i : Int) l) (doFrom l t i) := by
  intro t
  induction t with
  | nil =>
    intro i l ht hi hz
    have := drop_nil_len ht
    refine Ev.step (f := fun _ => some (l, (acts.length : Int))) (fun k => by rw [spec_DoActs.l0, if_neg (by omega)]) (Ev.ret ?_)
    rw [doFrom, show acts.length = i from by omega]
  | cons a t ih =>
    intro i l ht hi hz
    obtain ⟨h1, h2, h3⟩ := rd_T55_drop ht
    have ha : a.f2.size ≤ 2097152 := hf a (List.mem_of_mem_drop (by rw [ht]; exact List.mem_cons_self))
    refine Ev.succ ?_
    simp only [spec_DoActs.l0, h1, w64 (n := (i : Int) + 1) (by omega) (by omega)]
    refine Ev.pos (by omega) (Ev.pos (by omega) (Ev.bind (spec_DoAct_ev l hz a.f0 a.f1 a.f2 a.f3 ha) ?_))
    rw [doFrom]
    by_cases c : (doAct l a.f0 a.f1 a.f2 a.f3).2 = true
    · have e := ih (i + 1) (doAct l a.f0 a.f1 a.f2 a.f3).1 h3 (by omega) (Nat.le_trans (doAct_length ..) (by omega))
      rw [show ((i + 1 : Nat) : Int) = (i : Int) + 1 from by omega] at e
      exact Ev.pos c (Ev.tpos c e)
    · exact Ev.neg c (Ev.tneg c (Ev.now _))
theorem spec_DoActs_ev (l : List S45) (hz : l.length ≤ 1048576) (acts : List S55) (hl : acts.length ≤ 1048576) (hf : ∀ x ∈ acts, x.f2.size ≤ 2097152) : Ev (fun k => spec_DoActs.f k l acts) (doFrom l acts 0) := by
  unfold spec_DoActs.f
  refine Ev.bind0 rfl (Ev.pos (by rw [List.length_nil]; omega) ?_)
  exact spec_DoActs_l0 acts hl hf acts 0 l rfl (Nat.zero_le _) hz
theorem impl_DoActs_l0 (acts : List S55) (hl : acts.length ≤ 1048576) (hf : ∀ x ∈ acts, x.f2.size ≤ 2097152) : ∀ (t : List S55) (i : Nat) (l : List S45), acts.drop i = t → i ≤ acts.length → l.length ≤ 1048576 → Ev (fun k => impl_DoActs.l0 k acts acts (acts.length : Int) (i : Int) l) (doFrom l t i) := by
  intro t
  induction t with
  | nil =>
    intro i l ht hi hz
    have := drop_nil_len ht
    refine Ev.step (f := fun _ => some (l, (acts.length : Int))) (fun k => by rw [impl_DoActs.l0, if_neg (by omega)]) (Ev.ret ?_)
    rw [doFrom, show acts.length = i from by omega]
  | cons a t ih =>
    intro i l ht hi hz
    obtain ⟨h1, h2, h3⟩ := rd_T55_drop ht
    have ha : a.f2.size ≤ 2097152 := hf a (List.mem_of_mem_drop (by rw [ht]; exact List.mem_cons_self))
    refine Ev.succ ?_
    simp only [impl_DoActs.l0, h1, w64 (n := (i : Int) + 1) (by omega) (by omega)]
    refine Ev.pos (by omega) (Ev.pos (by omega) (Ev.pos (by omega) (Ev.bind (impl_DoAct_ev l hz a.f0 a.f1 a.f2 a.f3 ha) ?_)))
    rw [doFrom]
    by_cases c : (doAct l a.f0 a.f1 a.f2 a.f3).2 = true
    · have e := ih (i + 1) (doAct l a.f0 a.f1 a.f2 a.f3).1 h3 (by omega) (Nat.le_trans (doAct_length ..) (by omega))
      rw [show ((i + 1 : Nat) : Int) = (i : Int) + 1 from by omega] at e
      exact Ev.pos c (Ev.tpos c e)
    · exact Ev.neg c (Ev.tneg c (Ev.now _))
theorem impl_DoActs_ev (l : List S45) (hz : l.length ≤ 1048576) (acts : List S55) (hl : acts.length ≤ 1048576) (hf : ∀ x ∈ acts, x.f2.size ≤ 2097152) : Ev (fun k => impl_DoActs.f k l acts) (doFrom l acts 0) := by
  unfold impl_DoActs.f
  exact Ev.bind0 (impl_copyDisk_eq l hz) (impl_DoActs_l0 acts hl hf acts 0 l rfl (Nat.zero_le _) hz)

theorem rd_set {xs : List S45} {i : Nat} (h : i < xs.length) (v : S45) : rd_T45 (xs.set i v) (i : Int) = v := by
  unfold rd_T45
  rw [Int.toNat_natCast, List.getD_eq_getElem?_getD, List.getElem?_set_self h]
  rfl

def leftAt (left : List Int) (i : Nat) : Int := if (i : Int) < (left.length : Int) then rd left (i : Int) else 0
def loseOne (n : Int) (x : S45) : S45 := ⟨x.f0, x.f1.extract 0 (mx x.f2 (mn n (x.f1.size : Int))).toNat, mx x.f2 (mn n (x.f1.size : Int))⟩
def loseFrom (left : List Int) : Nat → List S45 → List S45
  | _, [] => []
  | i, x :: t => loseOne (leftAt left i) x :: loseFrom left (i + 1) t
theorem loseFrom_length (left : List Int) : ∀ (t : List S45) (i : Nat), (loseFrom left i t).length = t.length := by
  intro t
  induction t with
  | nil => intro i; rfl
  | cons a t ih => intro i; rw [loseFrom, List.length_cons, List.length_cons, ih]
def keptFits (x : S45) : Prop := 0 ≤ x.f2 ∧ x.f2 ≤ (x.f1.size : Int)
theorem mxmn {a n s : Int} (h : 0 ≤ a) (h' : a ≤ s) : 0 ≤ mx a (mn n s) ∧ mx a (mn n s) ≤ s ∧ mx a (mn n s) = if n > s then s else if n < a then a else n := by
  unfold mx mn
  by_cases c1 : s < n
  · rw [if_pos c1, if_pos (c := n > s) c1]
    by_cases c2 : a < s
    · rw [if_pos c2]; omega
    · rw [if_neg c2]; omega
  · rw [if_neg c1, if_neg (c := n > s) c1]
    by_cases c2 : a < n
    · rw [if_pos c2, if_neg (c := n < a) (by omega)]; omega
    · rw [if_neg c2]
      by_cases c3 : n < a
      · rw [if_pos c3]; omega
      · rw [if_neg c3]; omega
theorem disk_fits {l : List S45} (h : diskOk l = true) : l.length ≤ 30 ∧ ∀ x ∈ l, keptFits x := by
  unfold diskOk at h
  rw [Bool.and_eq_true, decide_eq_true_eq] at h
  refine ⟨h.1, fun x hx => ?_⟩
  have := files_all l none h.2 x hx
  unfold fileOk at this
  rw [Bool.and_eq_true, decide_eq_true_eq (p := 0 ≤ x.f2 ∧ x.f2 ≤ (x.f1.size : Int))] at this
  exact this.2
theorem spec_LoseDisk_j1 (left : List Int) (i n : Int) (l acc : List S45) (a : S45) (ha : keptFits a) (hacc : acc.length ≤ 1048576) {r : List S45 × Bool} (e : Ev (fun k => spec_LoseDisk.l0 k left (wrap64 (i + 1)) l (acc ++ [loseOne n a])) r) :
    Ev (fun k => spec_LoseDisk.j1 k left i n l acc a.f0 a.f1 a.f2) r := by
  obtain ⟨h0, h1⟩ := ha
  obtain ⟨m0, m1, m2⟩ := mxmn (n := n) h0 h1
  rw [loseOne, m2] at e
  refine Ev.succ ?_
  simp only [spec_LoseDisk.j1]
  by_cases c1 : n > (a.f1.size : Int)
  · rw [if_pos c1] at e
    exact Ev.pos c1 (Ev.neg (by omega) (Ev.pos (by omega) (Ev.pos (by omega) (Ev.pos (by omega) e))))
  · rw [if_neg c1] at e
    refine Ev.neg c1 ?_
    by_cases c2 : n < a.f2
    · rw [if_pos c2] at e
      exact Ev.pos c2 (Ev.pos (by omega) (Ev.pos (by omega) (Ev.pos (by omega) e)))
    · rw [if_neg c2] at e
      exact Ev.neg c2 (Ev.pos (by omega) (Ev.pos (by omega) (Ev.pos (by omega) e)))
theorem spec_LoseDisk_l0 (left : List Int) (l : List S45) (hl : l.length ≤ 30) (hf : ∀ x ∈ l, keptFits x) : ∀ (t : List S45) (i : Nat) (acc : List S45), l.drop i = t → i ≤ l.length → acc.length = i →
    Ev (fun k => spec_LoseDisk.l0 k left (i : Int) l acc) (acc ++ loseFrom left i t, true) := by
  intro t
  induction t with
  | nil =>
    intro i acc ht hi hz
    have := drop_nil_len ht
    refine Ev.step (f := fun _ => some (acc, true)) (fun k => by rw [spec_LoseDisk.l0, if_neg (by omega)]) (Ev.ret ?_)
    rw [loseFrom, List.append_nil]
  | cons a t ih =>
    intro i acc ht hi hz
    obtain ⟨h1, h2, h3⟩ := rd_T45_drop ht
    have ha := hf a (List.mem_of_mem_drop (by rw [ht]; exact List.mem_cons_self))
    have e := ih (i + 1) (acc ++ [loseOne (leftAt left i) a]) h3 (by omega) (by rw [List.length_append, List.length_singleton]; omega)
    rw [List.append_assoc, show ((i + 1 : Nat) : Int) = wrap64 ((i : Int) + 1) from by rw [w64 (by omega) (by omega)]; omega] at e
    have e2 := spec_LoseDisk_j1 left (i : Int) (leftAt left i) l acc a ha (by omega) e
    refine Ev.succ ?_
    simp only [spec_LoseDisk.l0, h1]
    refine Ev.pos (by omega) (Ev.pos (by omega) ?_)
    rw [loseFrom]
    by_cases c : (i : Int) < (left.length : Int)
    · rw [show leftAt left i = rd left (i : Int) from if_pos c] at e2 ⊢; exact Ev.pos c e2
    · rw [show leftAt left i = 0 from if_neg c] at e2 ⊢; exact Ev.neg c e2
def loseDisk (l : List S45) (left : List Int) : List S45 × Bool := if diskOk l = true then (loseFrom left 0 l, true) else ([], false)
theorem spec_LoseDisk_ev (l : List S45) (left : List Int) (hl : l.length ≤ 1048576) : Ev (fun k => spec_LoseDisk.f k l left) (loseDisk l left) := by
  unfold spec_LoseDisk.f loseDisk
  refine Ev.bind (spec_DiskOk_ev l hl) ?_
  cases h : diskOk l with
  | false => exact Ev.neg (by decide) (Ev.tneg (by decide) (Ev.now _))
  | true =>
    obtain ⟨f1, f2⟩ := disk_fits h
    exact Ev.pos rfl (Ev.tpos rfl (spec_LoseDisk_l0 left l f1 f2 l 0 [] rfl (Nat.zero_le _) rfl))
theorem impl_LoseDisk_l0 (left : List Int) (l : List S45) (hl : l.length ≤ 30) (hf : ∀ x ∈ l, keptFits x) : ∀ (t : List S45) (i : Nat) (xs : List S45), l.drop i = t → xs.drop i = t → i ≤ l.length → xs.length = l.length →
    Ev (fun k => impl_LoseDisk.l0 k left (l.length : Int) (i : Int) xs) (xs.take i ++ loseFrom left i t, true) := by
  intro t
  induction t with
  | nil =>
    intro i xs ht hx hi hz
    have := drop_nil_len ht
    refine Ev.step (f := fun _ => some (xs, true)) (fun k => by rw [impl_LoseDisk.l0, if_neg (by omega)]) (Ev.ret ?_)
    rw [loseFrom, List.append_nil, List.take_of_length_le (by omega)]
  | cons a t ih =>
    intro i xs ht hx hi hz
    obtain ⟨h1, h2, h3⟩ := rd_T45_drop hx
    obtain ⟨_, h4, h5⟩ := rd_T45_drop ht
    have ha := hf a (List.mem_of_mem_drop (by rw [ht]; exact List.mem_cons_self))
    have e := ih (i + 1) (xs.set i (loseOne (leftAt left i) a)) h5 (by rw [List.drop_set_of_lt (by omega)]; exact h3) (by omega) (by rw [List.length_set]; exact hz)
    rw [take_set_snoc _ _ _ h2, List.append_assoc, show ((i + 1 : Nat) : Int) = (i : Int) + 1 from by omega] at e
    rw [loseFrom]
    refine Ev.succ ?_
    simp only [impl_LoseDisk.l0, h1, w64 (n := (i : Int) + 1) (by omega) (by omega), Int.toNat_natCast]
    refine Ev.pos (by omega) (Ev.pos (by omega) (Ev.pos (by omega) ?_))
    by_cases c : (i : Int) < (left.length : Int)
    · obtain ⟨m0, m1, m2⟩ := mxmn (n := rd left (i : Int)) ha.1 ha.2
      rw [show leftAt left i = rd left (i : Int) from if_pos c] at e ⊢
      refine Ev.pos c (Ev.pos m0 (Ev.pos m1 (Ev.bind0 rfl ?_)))
      simp only [List.set_set, rd_set h2]
      exact e
    · obtain ⟨m0, m1, m2⟩ := mxmn (n := 0) ha.1 ha.2
      rw [show leftAt left i = 0 from if_neg c] at e ⊢
      refine Ev.neg c (Ev.pos m0 (Ev.pos m1 (Ev.bind0 rfl ?_)))
      simp only [List.set_set, rd_set h2]
      exact e
theorem impl_LoseDisk_ev (l : List S45) (left : List Int) (hl : l.length ≤ 1048576) : Ev (fun k => impl_LoseDisk.f k l left) (loseDisk l left) := by
  unfold impl_LoseDisk.f loseDisk
  refine Ev.bind (impl_DiskOk_ev l hl) ?_
  cases h : diskOk l with
  | false => exact Ev.neg (by decide) (Ev.tneg (by decide) (Ev.now _))
  | true =>
    obtain ⟨f1, f2⟩ := disk_fits h
    have hc : impl_copyDisk.f l = some l := by
      unfold impl_copyDisk.f
      rw [if_pos (by rw [List.length_nil]; omega), List.nil_append]
    exact Ev.pos rfl (Ev.tpos rfl (Ev.bind0 hc (impl_LoseDisk_l0 left l f1 f2 l 0 l rfl rfl (Nat.zero_le _) rfl)))
theorem loseDisk_length (l : List S45) (left : List Int) : (loseDisk l left).1.length ≤ l.length := by
  unfold loseDisk
  split
  · rw [loseFrom_length]; exact Nat.le_refl _
  · exact Nat.zero_le _

/-- What CutActs leaves. -/
def cutActs (l : List S45) (acts : List S55) (n : Int) (left : List Int) : List S45 × Bool :=
  if 0 ≤ n ∧ n ≤ (acts.length : Int) then (if (doFrom l (acts.take n.toNat) 0).2 < n then ([], false) else loseDisk (doFrom l (acts.take n.toNat) 0).1 left) else ([], false)
theorem cutActs_length (l : List S45) (hl : l.length ≤ 1048576) (acts : List S55) (n : Int) (left : List Int) : (cutActs l acts n left).1.length ≤ 1048576 := by
  unfold cutActs
  split
  · split
    · exact Nat.zero_le _
    · exact Nat.le_trans (loseDisk_length _ _) (doFrom_length _ _ _ _ (by omega) hl)
  · exact Nat.zero_le _
theorem spec_CutActs_ev (l : List S45) (hz : l.length ≤ 1048576) (acts : List S55) (hl : acts.length ≤ 1048576) (hf : ∀ x ∈ acts, x.f2.size ≤ 2097152) (n : Int) (left : List Int) : Ev (fun k => spec_CutActs.f k l acts n left) (cutActs l acts n left) := by
  unfold spec_CutActs.f cutActs
  refine Ev.bind0 (spec_l01In_eq ..) ?_
  by_cases c : 0 ≤ n ∧ n ≤ (acts.length : Int)
  · have ht : (acts.take n.toNat).length ≤ 1048576 := by rw [List.length_take]; omega
    have hft : ∀ x ∈ acts.take n.toNat, x.f2.size ≤ 2097152 := fun x hx => hf x (List.mem_of_mem_take hx)
    refine Ev.pos (decide_eq_true c) (Ev.pos c.1 (Ev.pos c.2 (Ev.tpos c (Ev.bind (spec_DoActs_ev l hz _ ht hft) ?_))))
    by_cases d : (doFrom l (acts.take n.toNat) 0).2 < n
    · exact Ev.pos d (Ev.tpos d (Ev.now _))
    · exact Ev.neg d (Ev.tneg d (Ev.bind (spec_LoseDisk_ev _ left (doFrom_length _ _ _ _ (by omega) hz)) (Ev.now _)))
  · exact Ev.neg (by rw [decide_eq_false c]; decide) (Ev.tneg c (Ev.now _))
theorem impl_CutActs_ev (l : List S45) (hz : l.length ≤ 1048576) (acts : List S55) (hl : acts.length ≤ 1048576) (hf : ∀ x ∈ acts, x.f2.size ≤ 2097152) (n : Int) (left : List Int) : Ev (fun k => impl_CutActs.f k l acts n left) (cutActs l acts n left) := by
  unfold impl_CutActs.f cutActs
  refine Ev.bind0 (impl_within_eq ..) ?_
  by_cases c : 0 ≤ n ∧ n ≤ (acts.length : Int)
  · have ht : (acts.take n.toNat).length ≤ 1048576 := by rw [List.length_take]; omega
    have hft : ∀ x ∈ acts.take n.toNat, x.f2.size ≤ 2097152 := fun x hx => hf x (List.mem_of_mem_take hx)
    refine Ev.pos (decide_eq_true c) (Ev.pos c.1 (Ev.pos c.2 (Ev.tpos c (Ev.bind (impl_DoActs_ev l hz _ ht hft) ?_))))
    by_cases d : (doFrom l (acts.take n.toNat) 0).2 < n
    · exact Ev.pos d (Ev.tpos d (Ev.now _))
    · exact Ev.neg d (Ev.tneg d (Ev.bind (impl_LoseDisk_ev _ left (doFrom_length _ _ _ _ (by omega) hz)) (Ev.now _)))
  · exact Ev.neg (by rw [decide_eq_false c]; decide) (Ev.tneg c (Ev.now _))

theorem laws_sameDisk_l0 (l : List S45) (hl : l.length ≤ 1048576) : ∀ (t : List S45) (i : Nat), l.drop i = t → i ≤ l.length → Ev (fun k => laws_sameDisk.l0 k (i : Int) l l) true := by
  intro t
  induction t with
  | nil =>
    intro i ht hi
    have := drop_nil_len ht
    exact Ev.step (f := fun _ => some true) (fun k => by rw [laws_sameDisk.l0, if_neg (by omega)]) (Ev.now _)
  | cons a t ih =>
    intro i ht hi
    obtain ⟨h1, h2, h3⟩ := rd_T45_drop ht
    have e := ih (i + 1) h3 (by omega)
    rw [show ((i + 1 : Nat) : Int) = (i : Int) + 1 from by omega] at e
    refine Ev.succ ?_
    simp only [laws_sameDisk.l0, w64 (n := (i : Int) + 1) (by omega) (by omega)]
    exact Ev.pos (by omega) (Ev.pos (by omega) (Ev.pos (by omega) (Ev.neg (by simp) e)))
theorem laws_sameDisk_ev (l : List S45) (hl : l.length ≤ 1048576) : Ev (fun k => laws_sameDisk.f k l l) true := by
  unfold laws_sameDisk.f
  exact Ev.pos rfl (laws_sameDisk_l0 l hl l 0 rfl (Nat.zero_le _))

theorem idxFrom_find {α : Type} (p : α → Bool) : ∀ (l : List α) (i : Nat), (l.find? p = none ∧ idxFrom p l i = -1) ∨ ∃ j x, l.find? p = some x ∧ idxFrom p l i = ((i + j : Nat) : Int) ∧ l[j]? = some x
  | [], i => .inl ⟨rfl, rfl⟩
  | x :: t, i => by
    rw [idxFrom, List.find?_cons]
    cases h : p x with
    | true => exact .inr ⟨0, x, rfl, by rw [if_pos rfl]; rfl, rfl⟩
    | false =>
      rw [if_neg (by decide)]
      rcases idxFrom_find p t (i + 1) with ⟨h1, h2⟩ | ⟨j, y, h1, h2, h3⟩
      · exact .inl ⟨h1, by rw [← h2]; congr 1⟩
      · exact .inr ⟨j + 1, y, h1, by rw [show i + (j + 1) = i + 1 + j by omega, ← h2]; congr 1, by simpa using h3⟩

def fileAtOf (l : List S45) (s : ByteArray) : ByteArray × Bool := if idxFrom (named s) l 0 < 0 then noText else ((rd_T45 l (idxFrom (named s) l 0)).f1, true)
theorem impl_FileAt_eq (l : List S45) (s : ByteArray) : impl_FileAt.f l s = some (fileAtOf l s) := by
  unfold impl_FileAt.f impl_fileAt.f fileAtOf
  rw [Option.bind_some]
  show (if idxFrom (named s) l 0 < 0 then _ else (if 0 ≤ idxFrom (named s) l 0 then (if idxFrom (named s) l 0 < (l.length : Int) then (some ((rd_T45 l (idxFrom (named s) l 0)).f1, true)) else none) else none)) = _
  have hr := idx_range (named s) l 0
  by_cases h : idxFrom (named s) l 0 < 0
  · rw [if_pos h, if_pos h]; rfl
  · rw [if_neg h, if_neg h, if_pos (by omega), if_pos (by omega)]

theorem laws_big_eq (l : List Int) : laws_big.f l = some (decide ((l.length : Int) > 1048576)) := rfl
theorem spec_l01New_l0 (l : List Int) (hl : l.length ≤ 1048576) : ∀ (d : Nat) (x i : Int), 0 ≤ i → (l.length : Int) - i ≤ d → ∃ h, Ev (fun k => spec_l01New.l0 k l x i) (l, 0, h) := by
  intro d
  induction d with
  | zero =>
    intro x i h0 hd
    exact ⟨x, Ev.step (f := fun _ => some (l, 0, x)) (fun k => by rw [spec_l01New.l0, if_neg (by omega)]) (Ev.now _)⟩
  | succ d ih =>
    intro x i h0 hd
    by_cases h1 : i < (l.length : Int)
    · by_cases h2 : i < 4000
      · obtain ⟨h, e⟩ := ih (Go.bits .and .i64 (wrap64 ((wrap64 ((wrap64 (x * 131)) + (wrap64 (rd l i)))) + 7)) 1073741823) (i + 1) (by omega) (by omega)
        refine ⟨h, Ev.step (fun k => ?_) e⟩
        rw [spec_l01New.l0, if_pos h1, if_pos h2, if_pos h0, w64 (n := i + 1) (by omega) (by omega)]
      · exact ⟨x, Ev.step (f := fun _ => some (l, 0, x)) (fun k => by rw [spec_l01New.l0, if_pos h1, if_neg h2]) (Ev.now _)⟩
    · exact ⟨x, Ev.step (f := fun _ => some (l, 0, x)) (fun k => by rw [spec_l01New.l0, if_neg h1]) (Ev.now _)⟩
theorem spec_l01New_ev (l : List Int) (hl : l.length ≤ 1048576) : ∃ h, Ev (fun k => spec_l01New.f k l) (l, 0, h) := by
  obtain ⟨h, e⟩ := spec_l01New_l0 l hl l.length (wrap64 (12701 + (l.length : Int))) 0 (by omega) (by omega)
  exact ⟨h, e⟩
/-- The cursor stands within the draw. -/
def cur (l : List Int) (i : Int) : Prop := 0 ≤ i ∧ i ≤ l.length ∧ l.length ≤ 1048576
theorem spec_l01Byte_some {l : List Int} {i : Int} (h : Int) (hc : cur l i) : ∃ b i' h', spec_l01Byte.f l i h = some (b, i', h') ∧ 0 ≤ b ∧ b ≤ 255 ∧ cur l i' := by
  obtain ⟨h0, h1, h2⟩ := hc
  unfold spec_l01Byte.f
  by_cases hlt : i < (l.length : Int)
  · rw [if_pos hlt, if_pos h0]
    exact ⟨_, _, _, rfl, (and255 _).1, (and255 _).2, by rw [w64 (by omega) (by omega)]; omega, by rw [w64 (by omega) (by omega)]; omega, h2⟩
  · rw [if_neg hlt]
    exact ⟨_, _, _, rfl, (and255 _).1, (and255 _).2, h0, h1, h2⟩
theorem spec_l01Below_some {l : List Int} {i : Int} (h n : Int) (hn : n ≤ 9223372036854775807) (hc : cur l i) : ∃ x i' h', spec_l01Below.f l i h n = some (x, i', h') ∧ cur l i' ∧ (n ≤ 0 → x = 0) ∧ (0 < n → 0 ≤ x ∧ x < n) := by
  unfold spec_l01Below.f
  by_cases h1 : n ≤ 0
  · rw [if_pos h1]
    exact ⟨_, _, _, rfl, hc, fun _ => rfl, fun _ => by omega⟩
  rw [if_neg h1]
  by_cases h2 : n ≤ 256
  · rw [if_pos h2]
    obtain ⟨b, i', h', e, b0, b1, c'⟩ := spec_l01Byte_some h hc
    rw [e, Option.bind_some, if_neg (by omega)]
    exact ⟨_, _, _, rfl, c', fun _ => by omega, fun _ => by rw [tmodp b0]; exact ⟨Int.emod_nonneg _ (by omega), Int.emod_lt_of_pos _ (by omega)⟩⟩
  · rw [if_neg h2]
    obtain ⟨b, i1, h1', e1, b0, b1, c1⟩ := spec_l01Byte_some h hc
    obtain ⟨b2, i2, h2', e2, b20, b21, c2⟩ := spec_l01Byte_some h1' c1
    obtain ⟨b3, i3, h3', e3, b30, b31, c3⟩ := spec_l01Byte_some h2' c2
    obtain ⟨b4, i4, h4', e4, b40, b41, c4⟩ := spec_l01Byte_some h3' c3
    rw [e1, Option.bind_some, e2, Option.bind_some, e3, Option.bind_some, e4, Option.bind_some, if_neg (by omega)]
    have hw : 0 ≤ wrap64 (wrap64 (wrap64 (wrap64 (b * 16777216) + wrap64 (b2 * 65536)) + wrap64 (b3 * 256)) + b4) := by unfold wrap64; omega
    exact ⟨_, _, _, rfl, c4, fun _ => by omega, fun _ => by rw [tmodp hw]; exact ⟨Int.emod_nonneg _ (by omega), Int.emod_lt_of_pos _ (by omega)⟩⟩

theorem spec_l01Text_l0 (l : List Int) (n : Int) (hn : n ≤ 5000) : ∀ (d : Nat) (j : Int) (acc : List Int) (i h : Int), cur l i → n - j ≤ d → 0 ≤ j → (acc.length : Int) = j → (j ≤ n ∨ j = 0) →
    ∃ t i' h', Ev (fun k => spec_l01Text.l0 k n acc j l i h) (t, i', h') ∧ cur l i' ∧ (t.size : Int) = max 0 n := by
  intro d
  induction d with
  | zero =>
    intro j acc i h hc hj h0 ha hr
    exact ⟨_, i, h, Ev.step (f := fun _ => some (strOfNums acc, i, h)) (fun k => by rw [spec_l01Text.l0, if_neg (by omega)]) (Ev.now _), hc, by rw [strOfNums_size]; omega⟩
  | succ d ih =>
    intro j acc i h hc hj h0 ha hr
    by_cases hlt : j < n
    · obtain ⟨b, i', h', e, b0, b1, c'⟩ := spec_l01Byte_some h hc
      obtain ⟨t, i2, h2, ep, h3, h4⟩ := ih (j + 1) (acc ++ [b % 256]) i' h' c' (by omega) (by omega) (by rw [List.length_append, List.length_singleton]; omega) (by omega)
      refine ⟨t, i2, h2, Ev.step (fun k => ?_) ep, h3, h4⟩
      rw [spec_l01Text.l0, if_pos hlt, e, Option.bind_some, if_pos (by omega), w64 (by omega) (by omega)]
    · exact ⟨_, i, h, Ev.step (f := fun _ => some (strOfNums acc, i, h)) (fun k => by rw [spec_l01Text.l0, if_neg hlt]) (Ev.now _), hc, by rw [strOfNums_size]; omega⟩
theorem spec_l01Text_ev {l : List Int} {i : Int} (h n : Int) (hc : cur l i) : ∃ t i' h', Ev (fun k => spec_l01Text.f k l i h n) (t, i', h') ∧ cur l i' ∧ (t.size : Int) = max 0 (min n 5000) := by
  unfold spec_l01Text.f
  by_cases h1 : n > 5000
  · obtain ⟨t, i2, h2, ep, h3, h4⟩ := spec_l01Text_l0 l 5000 (by omega) 5000 0 [] i h hc (by omega) (by omega) (by simp) (by omega)
    exact ⟨t, i2, h2, Ev.pos h1 (Ev.step (fun k => by rw [spec_l01Text.j0]) ep), h3, by omega⟩
  · obtain ⟨t, i2, h2, ep, h3, h4⟩ := spec_l01Text_l0 l n (by omega) 5000 0 [] i h hc (by omega) (by omega) (by simp) (by omega)
    exact ⟨t, i2, h2, Ev.neg h1 (Ev.step (fun k => by rw [spec_l01Text.j0]) ep), h3, by omega⟩

theorem spec_l01Once_some {l : List Int} {i : Int} (h n : Int) (hn : n ≤ 9223372036854775807) (hc : cur l i) : ∃ b i' h', spec_l01Once.f l i h n = some (b, i', h') ∧ cur l i' := by
  obtain ⟨x, i', h', e, c', _⟩ := spec_l01Below_some h n hn hc
  exact ⟨_, i', h', by unfold spec_l01Once.f; rw [e, Option.bind_some], c'⟩

theorem spec_l01Long_l0 (n x : Int) (hn : n ≤ 100000) : ∀ (d : Nat) (xs : List Int) (j : Int), (xs.length : Int) = n → 0 ≤ j → n - j ≤ d → ∃ t, Ev (fun k => spec_l01Long.l0 k n x xs j) t ∧ (t.size : Int) = n := by
  intro d
  induction d with
  | zero =>
    intro xs j hx h0 hd
    exact ⟨_, Ev.step (f := fun _ => some (strOfNums xs)) (fun k => by rw [spec_l01Long.l0, if_neg (by omega)]) (Ev.now _), by rw [strOfNums_size]; exact hx⟩
  | succ d ih =>
    intro xs j hx h0 hd
    by_cases hlt : j < n
    · obtain ⟨t, e, ht⟩ := ih (xs.set j.toNat x) (j + 1) (by rw [List.length_set]; exact hx) (by omega) (by omega)
      refine ⟨t, Ev.step (fun k => ?_) e, ht⟩
      rw [spec_l01Long.l0, if_pos hlt, if_pos h0, if_pos (by omega), w64 (by omega) (by omega)]
    · exact ⟨_, Ev.step (f := fun _ => some (strOfNums xs)) (fun k => by rw [spec_l01Long.l0, if_neg hlt]) (Ev.now _), by rw [strOfNums_size]; exact hx⟩
theorem spec_l01Long_ev (n x : Int) (h0 : 0 ≤ n) (hn : n ≤ 100000) : ∃ t, Ev (fun k => spec_l01Long.f k n x) t ∧ (t.size : Int) = n := by
  obtain ⟨t, e, ht⟩ := spec_l01Long_l0 n x hn n.toNat (List.replicate n.toNat 0) 0 (by rw [List.length_replicate]; omega) (by omega) (by omega)
  refine ⟨t, ?_, ht⟩
  unfold spec_l01Long.f
  exact Ev.pos h0 (Ev.pos (by omega) e)

theorem spec_l01Figure_eq (n : Nat) (h : n < 10) : spec_l01Figure.f (n : Int) = some ((48 + n : Nat) : Int) := by
  unfold spec_l01Figure.f
  rw [if_pos (by omega), w64 (by omega) (by omega)]
  congr 1
  omega
theorem spec_Decimal_end : ∀ (m n : Nat) (acc : ByteArray), n < 10 ^ m → n < 1000000 → acc.size + m ≤ 1000 → ∃ t, Ev (fun k => spec_Decimal.l0 k (n : Int) false acc) t ∧ t.size ≤ acc.size + m := by
  intro m
  induction m with
  | zero =>
    intro n acc h _ _
    have h0 : n = 0 := by simpa using h
    subst h0
    refine ⟨acc, Ev.step (f := fun _ => some acc) (fun k => by rw [spec_Decimal.l0, if_pos (by omega), if_neg (by decide)]) (Ev.now _), by omega⟩
  | succ m ih =>
    intro n acc h hn ha
    by_cases h0 : n = 0
    · subst h0
      exact ⟨acc, Ev.step (f := fun _ => some acc) (fun k => by rw [spec_Decimal.l0, if_pos (by omega), if_neg (by decide)]) (Ev.now _), by omega⟩
    have hz : (strOfNums [((48 + n % 10 : Nat) : Int)]).size = 1 := by rw [strOfNums_size, List.length_singleton]
    obtain ⟨t, et, ht⟩ := ih (n / 10) (strOfNums [((48 + n % 10 : Nat) : Int)] ++ acc) (by rw [Nat.pow_succ] at h; omega) (by omega) (by rw [app_size, hz]; omega)
    refine ⟨t, Ev.succ ?_, by rw [app_size, hz] at ht; omega⟩
    simp only [spec_Decimal.l0]
    rw [tmodp (by omega), tdivp (by omega), w64 (n := (n : Int) / 10) (by omega) (by omega), show (n : Int) % 10 = ((n % 10 : Nat) : Int) from by omega, show (n : Int) / 10 = ((n / 10 : Nat) : Int) from by omega]
    exact Ev.neg (by omega) (Ev.neg (by omega) (Ev.bind0 (spec_l01Figure_eq (n % 10) (by omega)) (Ev.bind0 rfl (Ev.pos (by rw [hz]; omega) et))))
theorem spec_Decimal_ends (n : Nat) (h : n < 1000) (h0 : 0 < n) : ∃ t, Ev (fun k => spec_Decimal.f k (n : Int)) t ∧ t.size ≤ 3 := by
  obtain ⟨t, et, ht⟩ := spec_Decimal_end 3 n (⟨#[]⟩ : ByteArray) (by omega) (by omega) (by decide)
  refine ⟨t, ?_, by rw [show (⟨#[]⟩ : ByteArray).size = 0 from rfl] at ht; omega⟩
  unfold spec_Decimal.f
  refine Ev.neg (by omega) ?_
  rw [show decide ((n : Int) < 0) = false from decide_eq_false (by omega)]
  exact et

/-! #### 'it ends, with an answer that ..' -/
theorem ExEv.bind0 {α β : Type} {P : β → Prop} {a : Option α} {x : α} {f : Nat → α → Option β} (h : a = some x) (k : ∃ r, Ev (fun n => f n x) r ∧ P r) : ∃ r, Ev (fun n => a.bind (f n)) r ∧ P r := by
  obtain ⟨r, e, p⟩ := k
  exact ⟨r, Ev.bind0 h e, p⟩
theorem ExEv.bind {α β : Type} {P : β → Prop} {g : Nat → Option α} {x : α} {f : Nat → α → Option β} (h : Ev g x) (k : ∃ r, Ev (fun n => f n x) r ∧ P r) : ∃ r, Ev (fun n => (g n).bind (f n)) r ∧ P r := by
  obtain ⟨r, e, p⟩ := k
  exact ⟨r, Ev.bind h e, p⟩
theorem ExEv.pos {β : Type} {P : β → Prop} {c : Prop} [Decidable c] {f g : Nat → Option β} (h : c) (k : ∃ r, Ev f r ∧ P r) : ∃ r, Ev (fun n => if c then f n else g n) r ∧ P r := by
  obtain ⟨r, e, p⟩ := k
  exact ⟨r, Ev.pos h e, p⟩
theorem ExEv.neg {β : Type} {P : β → Prop} {c : Prop} [Decidable c] {f g : Nat → Option β} (h : ¬ c) (k : ∃ r, Ev g r ∧ P r) : ∃ r, Ev (fun n => if c then f n else g n) r ∧ P r := by
  obtain ⟨r, e, p⟩ := k
  exact ⟨r, Ev.neg h e, p⟩
theorem ExEv.now {β : Type} {P : β → Prop} {r : β} (h : P r) : ∃ r', Ev (fun _ => some r) r' ∧ P r' := ⟨r, Ev.now _, h⟩
theorem ExEv.succ {β : Type} {P : β → Prop} {g : Nat → Option β} (k : ∃ r, Ev (fun n => g (n + 1)) r ∧ P r) : ∃ r, Ev g r ∧ P r := by
  obtain ⟨r, e, p⟩ := k
  exact ⟨r, Ev.succ e, p⟩
theorem spec_l01PickInt_some {l : List Int} {i : Int} (h : Int) (hc : cur l i) (xs : List Int) (h0 : 0 < xs.length) (h1 : xs.length ≤ 1000) : ∃ x i' h', spec_l01PickInt.f l i h xs = some (x, i', h') ∧ cur l i' := by
  obtain ⟨x, i1, k1, e1, c1, _, hx⟩ := spec_l01Below_some h (xs.length : Int) (by omega) hc
  have hr := hx (by omega)
  refine ⟨rd xs x, i1, k1, ?_, c1⟩
  unfold spec_l01PickInt.f
  rw [e1, Option.bind_some, if_pos hr.1, if_pos hr.2]
theorem spec_l01Pick_some {l : List Int} {i : Int} (h : Int) (hc : cur l i) (xs : List ByteArray) (h0 : 0 < xs.length) (h1 : xs.length ≤ 1000) : ∃ x i' h', spec_l01Pick.f l i h xs = some (x, i', h') ∧ cur l i' := by
  obtain ⟨x, i1, k1, e1, c1, _, hx⟩ := spec_l01Below_some h (xs.length : Int) (by omega) hc
  have hr := hx (by omega)
  refine ⟨rdOf ByteArray.empty xs x, i1, k1, ?_, c1⟩
  unfold spec_l01Pick.f
  rw [e1, Option.bind_some, if_pos hr.1, if_pos hr.2]
theorem spec_l03Named_some {l : List Int} {i : Int} (h : Int) (hc : cur l i) : ∃ s i' h', spec_l03Named.f l i h = some (s, i', h') ∧ cur l i' := by
  unfold spec_l03Named.f
  obtain ⟨x, i1, k1, e1, c1⟩ := spec_l01Pick_some h hc ([(⟨#[97]⟩ : ByteArray), (⟨#[98]⟩ : ByteArray), (⟨#[99]⟩ : ByteArray), (⟨#[98, 48]⟩ : ByteArray), (⟨#[98, 49]⟩ : ByteArray), (⟨#[98, 50]⟩ : ByteArray), (⟨#[109, 43]⟩ : ByteArray), (⟨#[120]⟩ : ByteArray)] : List ByteArray) (by decide) (by decide)
  exact ⟨x, i1, k1, by rw [e1, Option.bind_some], c1⟩
theorem spec_l03Disk_l1 (l : List Int) : ∀ (d : Nat) (j i h : Int) (xs : List S45), cur l i → 32 - j ≤ d → 0 ≤ j → j ≤ 31 → (xs.length : Int) ≤ j → ∃ ys i' h', Ev (fun k => spec_l03Disk.l1 k j l i h xs) (ys, i', h') ∧ cur l i' ∧ ys.length ≤ 31 := by
  intro d
  induction d with
  | zero => intro j i h xs hc hd hj hj6 hl; omega
  | succ d ih =>
    intro j i h xs hc hd hj hj6 hl
    obtain ⟨x, i1, k1, e1, c1, _, hx⟩ := spec_l01Below_some h 2 (by omega) hc
    have hr := hx (by omega)
    by_cases hjx : j < 30 + x
    · obtain ⟨z, ed, hz⟩ := spec_Decimal_ends (100 + j).toNat (by omega) (by omega)
      rw [show (((100 + j).toNat : Nat) : Int) = 100 + j from by omega] at ed
      obtain ⟨ys, i2, k2, ey, c2, y1⟩ := ih (j + 1) i1 k1 (xs ++ [(⟨(⟨#[102]⟩ : ByteArray) ++ z, (⟨#[]⟩ : ByteArray), 0⟩ : S45)]) c1 (by omega) (by omega) (by omega) (by rw [List.length_append, List.length_singleton]; omega)
      refine ⟨ys, i2, k2, Ev.succ ?_, c2, y1⟩
      simp only [spec_l03Disk.l1]
      refine Ev.bind0 e1 ?_
      dsimp only
      rw [w64 (n := 30 + x) (by omega) (by omega), w64 (n := 100 + j) (by omega) (by omega), w64 (n := j + 1) (by omega) (by omega)]
      exact Ev.pos hjx (Ev.bind ed (Ev.pos (by omega) (Ev.pos (by omega) ey)))
    · refine ⟨xs, i1, k1, Ev.succ ?_, c1, by omega⟩
      simp only [spec_l03Disk.l1]
      refine Ev.bind0 e1 ?_
      dsimp only
      rw [w64 (n := 30 + x) (by omega) (by omega)]
      exact Ev.neg hjx (Ev.now _)
def diskEnd (l : List Int) (r : List S45 × Int × Int) : Prop := cur l r.2.1 ∧ r.1.length ≤ 31
theorem spec_l03Disk_l0 (l : List Int) : ∀ (d : Nat) (j i h : Int) (xs : List S45), cur l i → 7 - j ≤ d → 0 ≤ j → j ≤ 6 → (xs.length : Int) ≤ j → ∃ r, Ev (fun k => spec_l03Disk.l0 k j l i h xs) r ∧ diskEnd l r := by
  intro d
  induction d with
  | zero => intro j i h xs hc hd hj hj6 hl; omega
  | succ d ih =>
    intro j i h xs hc hd hj hj6 hl
    obtain ⟨x, i1, k1, e1, c1, _, hx⟩ := spec_l01Below_some h 6 (by omega) hc
    have hr := hx (by omega)
    refine ExEv.succ ?_
    simp only [spec_l03Disk.l0]
    refine ExEv.bind0 e1 ?_
    dsimp only
    by_cases hjx : j < x
    · obtain ⟨n, i2, k2, e2, c2, _, hn⟩ := spec_l01Below_some k1 9 (by omega) c1
      have hn := hn (by omega)
      obtain ⟨t, i3, k3, e3, c3, ht⟩ := spec_l01Text_ev k2 n c2
      obtain ⟨s, i4, k4, e4, c4⟩ := spec_l03Named_some k3 c3
      obtain ⟨q, i5, k5, e5, c5, _, hq⟩ := spec_l01Below_some k4 ((t.size : Int) + 1) (by omega) c4
      have hp := putOf_length xs ⟨s, t, q⟩
      refine ExEv.pos hjx (ExEv.bind0 e2 (ExEv.bind e3 (ExEv.bind0 e4 ?_)))
      dsimp only
      rw [w64 (n := (t.size : Int) + 1) (by omega) (by omega), w64 (n := j + 1) (by omega) (by omega)]
      exact ExEv.bind0 e5 (ExEv.bind (spec_l03Put_ev xs (by omega) ⟨s, t, q⟩) (ih (j + 1) i5 k5 _ c5 (by omega) (by omega) (by omega) (by omega)))
    · refine ExEv.neg hjx ?_
      by_cases c0 : (xs.length : Int) = 0
      · exact ExEv.pos c0 (ExEv.now ⟨c1, by show xs.length ≤ 31; omega⟩)
      obtain ⟨p, i2, k2, e2, c2, _, hp⟩ := spec_l01Below_some k1 (xs.length : Int) (by omega) c1
      have hp := hp (by omega)
      obtain ⟨q, i3, k3, e3, c3, _, hq⟩ := spec_l01Below_some k2 40 (by omega) c2
      have hset : ∀ (m : Nat) (v : S45), (xs.set m v).length ≤ 31 := fun m v => by rw [List.length_set]; omega
      refine ExEv.neg c0 (ExEv.bind0 e2 (ExEv.bind0 e3 ?_))
      dsimp only
      by_cases q0 : q = 0
      · refine ExEv.pos q0 (ExEv.pos hp.1 (ExEv.pos hp.2 ?_))
        obtain ⟨y, i4, k4, e4, c4⟩ := spec_l01PickInt_some k3 c3 ([(-1), wrap64 ((((rd_T45 xs p).f1).size : Int) + 1)] : List Int) (by simp) (by simp)
        exact ExEv.bind0 e4 (ExEv.now ⟨c4, hset _ _⟩)
      refine ExEv.neg q0 ?_
      by_cases q1 : q = 1
      · exact ExEv.pos q1 (ExEv.pos hp.1 (ExEv.pos hp.2 (ExEv.pos (by omega) (ExEv.now ⟨c3, by show (xs ++ [_]).length ≤ 31; rw [List.length_append, List.length_singleton]; omega⟩))))
      refine ExEv.neg q1 ?_
      by_cases q2 : q = 2
      · refine ExEv.pos q2 ?_
        obtain ⟨y, i4, k4, e4, c4⟩ := spec_l01Pick_some k3 c3 ([(⟨#[]⟩ : ByteArray), (⟨#[49, 50, 51, 52, 53, 54, 55, 56]⟩ : ByteArray), (⟨#[49, 50, 51, 52, 53, 54, 55, 56, 57]⟩ : ByteArray)] : List ByteArray) (by decide) (by decide)
        exact ExEv.bind0 e4 (ExEv.pos hp.1 (ExEv.pos hp.2 (ExEv.now ⟨c4, hset _ _⟩)))
      refine ExEv.neg q2 ?_
      by_cases q3 : q = 3
      · refine ExEv.pos q3 ?_
        obtain ⟨ys, i4, k4, e4, c4, y4⟩ := spec_l03Disk_l1 l 32 0 i3 k3 [] c3 (by omega) (by omega) (by omega) (by simp)
        exact ⟨_, e4, c4, y4⟩
      refine ExEv.neg q3 ?_
      by_cases q4 : q = 4
      · refine ExEv.pos q4 ?_
        obtain ⟨z, i4, k4, e4, c4, _, hz⟩ := spec_l01Below_some k3 3 (by omega) c3
        have hz := hz (by omega)
        obtain ⟨t, et, _⟩ := spec_l01Long_ev (19999 + z) 65 (by omega) (by omega)
        refine ExEv.bind0 e4 ?_
        dsimp only
        rw [w64 (n := 19999 + z) (by omega) (by omega)]
        exact ExEv.bind et (ExEv.pos hp.1 (ExEv.pos hp.2 (ExEv.now ⟨c4, hset _ _⟩)))
      exact ExEv.neg q4 (ExEv.now ⟨c3, by show xs.length ≤ 31; omega⟩)
def actEnd (l : List Int) (r : Int × ByteArray × ByteArray × ByteArray × Int × Int) : Prop := cur l r.2.2.2.2.1 ∧ r.2.2.1.size ≤ 100
theorem spec_l03Act_j0 (l : List Int) (i h a0 : Int) (a1 a2 a3 : ByteArray) (hc : cur l i) (h2 : a2.size ≤ 100) : ∃ r, Ev (fun k => spec_l03Act.j0 k l i h a0 a1 a2 a3) r ∧ actEnd l r := by
  obtain ⟨x, i1, k1, e1, c1, _, _⟩ := spec_l01Below_some h 40 (by omega) hc
  refine ExEv.succ ?_
  simp only [spec_l03Act.j0]
  refine ExEv.bind0 e1 ?_
  dsimp only
  by_cases q0 : x = 0
  · refine ExEv.pos q0 ?_
    obtain ⟨y, i2, k2, e2, c2⟩ := spec_l01PickInt_some k1 c1 ([0, 5] : List Int) (by decide) (by decide)
    exact ExEv.bind0 e2 (ExEv.now ⟨c2, h2⟩)
  refine ExEv.neg q0 ?_
  by_cases q1 : x = 1
  · refine ExEv.pos q1 ?_
    obtain ⟨y, i2, k2, e2, c2⟩ := spec_l01Pick_some k1 c1 ([(⟨#[]⟩ : ByteArray), (⟨#[49, 50, 51, 52, 53, 54, 55, 56, 57]⟩ : ByteArray), (⟨#[110, 101, 119]⟩ : ByteArray)] : List ByteArray) (by decide) (by decide)
    exact ExEv.bind0 e2 (ExEv.now ⟨c2, h2⟩)
  refine ExEv.neg q1 ?_
  by_cases q2 : x = 2
  · exact ExEv.pos q2 (ExEv.now ⟨c1, h2⟩)
  refine ExEv.neg q2 ?_
  by_cases q3 : x = 3
  · exact ExEv.pos q3 (ExEv.now ⟨c1, by show (⟨#[120]⟩ : ByteArray).size ≤ 100; decide⟩)
  exact ExEv.neg q3 (ExEv.now ⟨c1, h2⟩)
theorem spec_l03Act_ev (l : List Int) (i h : Int) (hc : cur l i) : ∃ r, Ev (fun k => spec_l03Act.f k l i h) r ∧ actEnd l r := by
  obtain ⟨x, i1, k1, e1, c1, _, hx⟩ := spec_l01Below_some h 4 (by omega) hc
  have hx := hx (by omega)
  obtain ⟨s, i2, k2, e2, c2⟩ := spec_l03Named_some k1 c1
  unfold spec_l03Act.f
  refine ExEv.bind0 e1 (ExEv.bind0 e2 ?_)
  dsimp only
  rw [w64 (n := 1 + x) (by omega) (by omega)]
  by_cases q1 : 1 + x = 1
  · refine ExEv.pos q1 ?_
    obtain ⟨n, i3, k3, e3, c3, _, hn⟩ := spec_l01Below_some k2 6 (by omega) c2
    have hn := hn (by omega)
    obtain ⟨t, i4, k4, e4, c4, ht⟩ := spec_l01Text_ev k3 n c3
    exact ExEv.bind0 e3 (ExEv.bind e4 (spec_l03Act_j0 l i4 k4 _ _ t _ c4 (by omega)))
  refine ExEv.neg q1 ?_
  by_cases q3 : 1 + x = 3
  · refine ExEv.pos q3 ?_
    obtain ⟨t, i3, k3, e3, c3⟩ := spec_l03Named_some k2 c2
    exact ExEv.bind0 e3 (spec_l03Act_j0 l i3 k3 _ _ _ _ c3 (by decide))
  exact ExEv.neg q3 (spec_l03Act_j0 l i2 k2 _ _ _ _ c2 (by decide))
def actsEnd (l : List Int) (r : List S55 × Int × Int) : Prop := cur l r.2.1 ∧ r.1.length ≤ 9 ∧ ∀ x ∈ r.1, x.f2.size ≤ 100
theorem spec_l03Acts_l0 (l : List Int) : ∀ (d : Nat) (j i h : Int) (acts : List S55) (disk : List S45), cur l i → 10 - j ≤ d → 0 ≤ j → j ≤ 9 → (acts.length : Int) ≤ j → (∀ x ∈ acts, x.f2.size ≤ 100) → disk.length ≤ 31 → ∃ r, Ev (fun k => spec_l03Acts.l0 k acts j l i h disk) r ∧ actsEnd l r := by
  intro d
  induction d with
  | zero => intro j i h acts disk hc hd hj hj6; omega
  | succ d ih =>
    intro j i h acts disk hc hd hj hj6 hl hf hz
    obtain ⟨x, i1, k1, e1, c1, _, hx⟩ := spec_l01Below_some h 9 (by omega) hc
    have hx := hx (by omega)
    refine ExEv.succ ?_
    simp only [spec_l03Acts.l0]
    refine ExEv.bind0 e1 ?_
    dsimp only
    rw [w64 (n := j + 1) (by omega) (by omega)]
    by_cases hjx : j < x
    · obtain ⟨⟨a0, a1, a2, a3, i2, k2⟩, ea, c2, ha⟩ := spec_l03Act_ev l i1 k1 c1
      have ha' : a2.size ≤ 100 := ha
      have c2' : cur l i2 := c2
      have hdl := doAct_length disk a0 a1 a2 a3
      have happ : ((acts ++ [(⟨a0, a1, a2, a3⟩ : S55)]).length : Int) ≤ j + 1 := by rw [List.length_append, List.length_singleton]; omega
      have hff : ∀ y ∈ acts ++ [(⟨a0, a1, a2, a3⟩ : S55)], y.f2.size ≤ 100 := fun y hy => by
        rcases List.mem_append.1 hy with hy | hy
        · exact hf y hy
        · rw [List.mem_singleton.1 hy]; exact ha'
      refine ExEv.pos hjx (ExEv.bind ea ?_)
      dsimp only
      refine ExEv.bind (spec_DoAct_ev disk (by omega) a0 a1 a2 a3 (by omega)) ?_
      by_cases q1 : (doAct disk a0 a1 a2 a3).2 = true
      · exact ExEv.pos q1 (ExEv.pos (by omega) (ih (j + 1) i2 k2 _ _ c2' (by omega) (by omega) (by omega) happ hff (by omega)))
      refine ExEv.neg q1 ?_
      obtain ⟨b, i3, k3, e3, c3⟩ := spec_l01Once_some k2 20 (by omega) c2'
      refine ExEv.bind0 e3 ?_
      dsimp only
      by_cases q2 : b = true
      · exact ExEv.pos q2 (ExEv.pos (by omega) (ih (j + 1) i3 k3 _ _ c3 (by omega) (by omega) (by omega) happ hff (by omega)))
      · exact ExEv.neg q2 (ih (j + 1) i3 k3 _ _ c3 (by omega) (by omega) (by omega) (by omega) hf hz)
    · exact ExEv.neg hjx (ExEv.now ⟨c1, by show acts.length ≤ 9; omega, hf⟩)
theorem spec_l01Place_some {l : List Int} {i : Int} (h n : Int) (hn : n ≤ 1000) (hc : cur l i) : ∃ x i' h', spec_l01Place.f l i h n = some (x, i', h') ∧ cur l i' := by
  obtain ⟨b, i1, k1, e1, c1⟩ := spec_l01Once_some h 15 (by omega) hc
  unfold spec_l01Place.f
  rw [e1, Option.bind_some]
  dsimp only
  by_cases q : b = true
  · rw [if_pos q]
    obtain ⟨x, i2, k2, e2, c2⟩ := spec_l01PickInt_some k1 c1 ([(-1), n, wrap64 (n + 1), 9223372036854775807, (-9223372036854775808)] : List Int) (by simp) (by simp)
    exact ⟨x, i2, k2, by rw [e2, Option.bind_some], c2⟩
  · rw [if_neg q]
    obtain ⟨x, i2, k2, e2, c2, _⟩ := spec_l01Below_some k1 n (by omega) c1
    exact ⟨x, i2, k2, by rw [e2, Option.bind_some], c2⟩
theorem spec_l03Left_l0 (l : List Int) : ∀ (d : Nat) (j i h : Int) (xs : List Int), cur l i → 7 - j ≤ d → 0 ≤ j → j ≤ 6 → (xs.length : Int) ≤ j → ∃ r, Ev (fun k => spec_l03Left.l0 k xs j l i h) r ∧ True := by
  intro d
  induction d with
  | zero => intro j i h xs hc hd hj hj6; omega
  | succ d ih =>
    intro j i h xs hc hd hj hj6 hl
    obtain ⟨x, i1, k1, e1, c1, _, hx⟩ := spec_l01Below_some h 6 (by omega) hc
    have hx := hx (by omega)
    refine ExEv.succ ?_
    simp only [spec_l03Left.l0]
    refine ExEv.bind0 e1 ?_
    dsimp only
    rw [w64 (n := j + 1) (by omega) (by omega)]
    by_cases hjx : j < x
    · obtain ⟨y, i2, k2, e2, c2⟩ := spec_l01PickInt_some k1 c1 ([0, 1, 2, 3, 5, 9, 40, 200, (-1), 9223372036854775807] : List Int) (by decide) (by decide)
      exact ExEv.pos hjx (ExEv.bind0 e2 (ExEv.pos (by omega) (ih (j + 1) i2 k2 _ c2 (by omega) (by omega) (by omega) (by rw [List.length_append, List.length_singleton]; omega))))
    · exact ExEv.neg hjx (ExEv.now trivial)
theorem spec_DrawCutActs_ev (l : List Int) (hl : l.length ≤ 1048576) : ∃ r, Ev (fun k => spec_DrawCutActs.f k l) r ∧ (r.1.length ≤ 31 ∧ r.2.1.length ≤ 9 ∧ ∀ x ∈ r.2.1, x.f2.size ≤ 100) := by
  obtain ⟨h, e⟩ := spec_l01New_ev l hl
  obtain ⟨⟨d, i1, k1⟩, e1, c1, hd⟩ := spec_l03Disk_l0 l 7 0 0 h [] ⟨Int.le_refl _, by omega, hl⟩ (by omega) (by omega) (by omega) (by simp)
  have hd' : d.length ≤ 31 := hd
  obtain ⟨⟨a, i2, k2⟩, e2, c2, ha, hf⟩ := spec_l03Acts_l0 l 10 0 i1 k1 [] d c1 (by omega) (by omega) (by omega) (by simp) (fun x hx => by cases hx) hd'
  have ha' : a.length ≤ 9 := ha
  obtain ⟨n, i3, k3, e3, c3⟩ := spec_l01Place_some k2 ((a.length : Int) + 1) (by omega) c2
  obtain ⟨⟨r, i4, k4⟩, e4, _⟩ := spec_l03Left_l0 l 7 0 i3 k3 [] c3 (by omega) (by omega) (by omega) (by simp)
  unfold spec_DrawCutActs.f
  refine ExEv.bind e (ExEv.bind (x := (d, i1, k1)) e1 (ExEv.bind (x := (a, i2, k2)) e2 ?_))
  dsimp only
  rw [w64 (n := (a.length : Int) + 1) (by omega) (by omega)]
  exact ExEv.bind0 e3 (ExEv.bind (x := (r, i4, k4)) e4 (ExEv.now ⟨hd', ha', hf⟩))

theorem fileAt_find (l : List S45) (s : ByteArray) : fileAtOf l s = match l.find? (named s) with | some x => (x.f1, true) | none => noText := by
  unfold fileAtOf
  rcases idxFrom_find (named s) l 0 with ⟨h1, h2⟩ | ⟨j, x, h1, h2, h3⟩
  · rw [show ((0 : Nat) : Int) = (0 : Int) from rfl] at h2
    rw [h1, h2, if_pos (by omega)]
  · rw [show ((0 : Nat) : Int) = (0 : Int) from rfl, Nat.zero_add] at h2
    have hr : rd_T45 l (j : Int) = x := by
      obtain ⟨hj, e⟩ := List.getElem?_eq_some_iff.1 h3
      exact (rdOf_get (d := z45) hj).trans e
    rw [h1, h2, if_neg (by omega), hr]
theorem find_put (l : List S45) (g : S45) (s : ByteArray) (h : g.f0.toList = s.toList) : (putOf l g).find? (named s) = some g := by
  unfold putOf
  rw [List.find?_append]
  have h1 : (l.filter (fun x => Op.bytesLess x.f0.toList g.f0.toList)).find? (named s) = none := by
    rw [List.find?_eq_none]
    intro x hx
    obtain ⟨_, hx2⟩ := List.mem_filter.1 hx
    unfold named
    simp only [decide_eq_true_eq]
    intro e
    rw [e, ← h] at hx2
    exact less_irrefl _ hx2
  rw [h1, Option.none_or, List.find?_cons]
  have h2 : named s g = true := by unfold named; exact decide_eq_true h
  rw [h2]
theorem find_without (l : List S45) (s : ByteArray) : (without l s).find? (named s) = none := by
  unfold without
  rw [List.find?_eq_none]
  intro x hx
  obtain ⟨_, hx2⟩ := List.mem_filter.1 hx
  unfold named
  simpa using hx2
theorem fin_yes {m : List S45} (h : (fin m).2 = true) : (fin m).1 = m := by
  unfold fin at h ⊢
  split
  · rfl
  · rename_i c; rw [if_neg c] at h; cases h
theorem doAct_in {l : List S45} {a0 : Int} {a1 a2 a3 : ByteArray} (h : (doAct l a0 a1 a2 a3).2 = true) : diskOk l = true ∧ doAct l a0 a1 a2 a3 = goAct l (idxFrom (named a1) l 0) a0 (fileOf l (idxFrom (named a1) l 0) a1) a1 a2 a3 := by
  unfold doAct at h ⊢
  split at h
  · rename_i c1
    refine ⟨c1, ?_⟩
    rw [if_pos c1]
    split at h
    · rename_i c2
      rw [if_pos c2]
      split at h
      · rename_i c3
        rw [if_pos c3]
        split at h
        · rename_i c4
          rw [if_pos c4]
        · cases h
      · cases h
    · cases h
  · cases h
theorem fileOf_at (l : List S45) (s : ByteArray) : (fileOf l (idxFrom (named s) l 0) s).f1 = (fileAtOf l s).1 ∧ (fileOf l (idxFrom (named s) l 0) s).f0.toList = s.toList := by
  unfold fileOf fileAtOf
  by_cases h : 0 ≤ idxFrom (named s) l 0
  · rw [if_pos h, if_neg (by omega)]
    refine ⟨rfl, ?_⟩
    rcases idxFrom_find (named s) l 0 with ⟨h1, h2⟩ | ⟨j, x, h1, h2, h3⟩
    · rw [show ((0 : Nat) : Int) = (0 : Int) from rfl] at h2
      omega
    · rw [show ((0 : Nat) : Int) = (0 : Int) from rfl, Nat.zero_add] at h2
      have hr : rd_T45 l (j : Int) = x := by
        obtain ⟨hj, e⟩ := List.getElem?_eq_some_iff.1 h3
        exact (rdOf_get (d := z45) hj).trans e
      rw [h2, hr]
      have := List.find?_some h1
      unfold named at this
      exact of_decide_eq_true this
  · rw [if_neg h, if_pos (by omega)]
    exact ⟨rfl, rfl⟩
theorem doAct_add {l : List S45} {a1 a2 a3 : ByteArray} (h : (doAct l 1 a1 a2 a3).2 = true) : fileAtOf (doAct l 1 a1 a2 a3).1 a1 = ((fileAtOf l a1).1 ++ a2, true) := by
  obtain ⟨_, e⟩ := doAct_in h
  obtain ⟨f1, f2⟩ := fileOf_at l a1
  rw [e] at h ⊢
  unfold goAct at h ⊢
  rw [if_pos rfl] at h ⊢
  rw [fin_yes h, fileAt_find, find_put l ⟨(fileOf l (idxFrom (named a1) l 0) a1).f0, (fileOf l (idxFrom (named a1) l 0) a1).f1 ++ a2, (fileOf l (idxFrom (named a1) l 0) a1).f2⟩ a1 f2]
  show ((fileOf l (idxFrom (named a1) l 0) a1).f1 ++ a2, true) = _
  rw [f1]
theorem doAct_drop {l : List S45} {a1 a2 a3 : ByteArray} (h : (doAct l 4 a1 a2 a3).2 = true) : (fileAtOf (doAct l 4 a1 a2 a3).1 a1).2 = false := by
  obtain ⟨_, e⟩ := doAct_in h
  rw [e] at h ⊢
  unfold goAct at h ⊢
  rw [if_neg (by decide)] at h ⊢
  split at h
  · cases h
  · rename_i c
    rw [if_neg c]
    rw [if_neg (by decide), if_neg (by decide), if_pos rfl] at h ⊢
    rw [fin_yes h, fileAt_find, find_without]
    rfl
theorem fileAt_size {l : List S45} (h : diskOk l = true) (s : ByteArray) : (fileAtOf l s).1.size ≤ 20000 := by
  rw [fileAt_find]
  cases hq : l.find? (named s) with
  | none => exact Nat.zero_le _
  | some x =>
    unfold diskOk at h
    rw [Bool.and_eq_true] at h
    have := files_all l none h.2 x (List.mem_of_find?_eq_some hq)
    unfold fileOk at this
    simp only [Bool.and_eq_true, decide_eq_true_eq] at this
    show x.f1.size ≤ 20000
    omega
theorem doFrom_ge : ∀ (t : List S55) (l : List S45) (i : Nat), (i : Int) ≤ (doFrom l t i).2
  | [], l, i => Int.le_refl _
  | a :: t, l, i => by
    rw [doFrom]
    split
    · have := doFrom_ge t (doAct l a.f0 a.f1 a.f2 a.f3).1 (i + 1)
      omega
    · exact Int.le_refl _
theorem laws_FnActs_end (d : List S45) (acts : List S55) (hd : d.length ≤ 31) (ha : acts.length ≤ 9) (hf : ∀ x ∈ acts, x.f2.size ≤ 100) (n : Int) (left : List Int) (l : List S45) (hl : l.length ≤ 31) (m : Int) :
    Ev (fun k => laws_FnActs.l0 k acts n left m m d l l) true := by
  have hf2 : ∀ x ∈ acts, x.f2.size ≤ 2097152 := fun x hx => by have := hf x hx; omega
  refine Ev.succ ?_
  simp only [laws_FnActs.l0]
  refine Ev.neg (by omega) (Ev.bind (impl_CutActs_ev d (by omega) acts (by omega) hf2 n left) (Ev.bind (spec_CutActs_ev d (by omega) acts (by omega) hf2 n left) (Ev.pos (by simp) (Ev.bind (laws_sameDisk_ev _ (cutActs_length d (by omega) acts n left)) (Ev.pos rfl ?_)))))
  by_cases h : m = 0
  · exact Ev.pos h (Ev.now _)
  · exact Ev.neg h (Ev.bind (laws_sameDisk_ev l (by omega)) (Ev.now _))
theorem laws_FnActs_l0 (d : List S45) (acts : List S55) (hd : d.length ≤ 31) (ha : acts.length ≤ 9) (hf : ∀ x ∈ acts, x.f2.size ≤ 100) (n : Int) (left : List Int) (now : List S45) (m : Int) : ∀ (t : List S55) (i : Nat) (l : List S45), acts.drop i = t → i ≤ acts.length → l.length ≤ 31 → doFrom l t i = (now, m) →
    Ev (fun k => laws_FnActs.l0 k acts n left m (i : Int) d now l) true := by
  intro t
  induction t with
  | nil =>
    intro i l ht hi hl he
    rw [doFrom, Prod.mk.injEq] at he
    obtain ⟨rfl, rfl⟩ := he
    exact laws_FnActs_end d acts hd ha hf n left l hl (i : Int)
  | cons a t ih =>
    intro i l ht hi hl he
    obtain ⟨h1, h2, h3⟩ := rd_T55_drop ht
    have hfa := hf a (List.mem_of_mem_drop (by rw [ht]; exact List.mem_cons_self))
    by_cases c : (doAct l a.f0 a.f1 a.f2 a.f3).2 = true
    · rw [doFrom, if_pos c] at he
      have hge := doFrom_ge t (doAct l a.f0 a.f1 a.f2 a.f3).1 (i + 1)
      rw [he] at hge
      have hge : ((i + 1 : Nat) : Int) ≤ m := hge
      have hdl := doAct_length l a.f0 a.f1 a.f2 a.f3
      have e := ih (i + 1) _ h3 (by omega) (by omega) he
      have hdk := (doAct_in c).1
      have hsz := fileAt_size hdk a.f1
      refine Ev.succ ?_
      simp only [laws_FnActs.l0, h1, w64 (n := (i : Int) + 1) (by omega) (by omega)]
      refine Ev.pos (by omega) (Ev.pos (by omega) (Ev.pos (by omega) (Ev.bind (impl_DoAct_ev l (by omega) a.f0 a.f1 a.f2 a.f3 (by omega)) (Ev.pos c (Ev.bind0 (impl_FileAt_eq l a.f1) (Ev.bind0 (impl_FileAt_eq _ a.f1) ?_))))))
      by_cases k1 : a.f0 = 1
      · rw [k1] at c e ⊢
        have hx := doAct_add c
        rw [hx]
        exact Ev.pos rfl (Ev.pos rfl (Ev.pos (by omega) (Ev.pos rfl (Ev.neg (by decide) e))))
      refine Ev.neg k1 ?_
      by_cases k4 : a.f0 = 4
      · rw [k4] at c e ⊢
        have hx := doAct_drop c
        exact Ev.pos rfl (Ev.neg (by rw [hx]; decide) e)
      · exact Ev.neg k4 e
    · rw [doFrom, if_neg c, Prod.mk.injEq] at he
      obtain ⟨rfl, rfl⟩ := he
      exact laws_FnActs_end d acts hd ha hf n left l hl (i : Int)
theorem FnActs : laws_FnActs.Pure := by
  intro l h0 h1 h2
  refine Ev.rounds (r := true) ?_
  unfold laws_FnActs.f
  refine Ev.bind0 (laws_big_eq l) ?_
  by_cases hb : (l.length : Int) > 1048576
  · exact Ev.pos (decide_eq_true hb) (Ev.now _)
  refine Ev.neg (by rw [decide_eq_false hb]; decide) ?_
  obtain ⟨⟨d, acts, n, left⟩, e, hd, ha, hf⟩ := spec_DrawCutActs_ev l (by omega)
  have hd : d.length ≤ 31 := hd
  have ha : acts.length ≤ 9 := ha
  have hf : ∀ x ∈ acts, x.f2.size ≤ 100 := hf
  have hf2 : ∀ x ∈ acts, x.f2.size ≤ 2097152 := fun x hx => by have := hf x hx; omega
  have hn := doFrom_length acts d 0 31 (by omega) hd
  refine Ev.bind e (Ev.bind (impl_DoActs_ev d (by omega) acts (by omega) hf2) (Ev.bind (spec_DoActs_ev d (by omega) acts (by omega) hf2) (Ev.pos rfl (Ev.bind (laws_sameDisk_ev _ (by omega)) ?_))))
  refine Ev.succ ?_
  simp only [laws_FnActs.j0]
  exact Ev.neg (by decide) (laws_FnActs_l0 d acts hd ha hf n left _ _ acts 0 d rfl (Nat.zero_le _) hd rfl)

end Go.Proofs.Ytgfacdhkamphiaa.Pure
