/- For every disk that reads as data both programs' Segments come to the same numbers and answer, of memory of their own, and the disk is left as it was. -/
import Derived.Test.YtlekhcopddajbaaGreatDoorOFnExactSegmentsx18
import Derived.Test.YtlekhcopddajbaaGreatDoorBase
import Derived.Test.YtlekhcopddajbaaGreatDoorBase2
import Derived.Test.YtlekhcopddajbaaGreatDoorBase3
namespace Go.Proofs.YtlekhcopddajbaaGreatDoor.Pure
open Go.RowKit Go.Proofs.YtlekhcopddajbaaGreatDoor.PFnExactSegments Go.Proofs.YtlekhcopddajbaaGreatDoorW.PrintWords Go.Proofs.YtlekhcopddajbaaGreatDoorW.PrintLast Go.Proofs.YtlekhcopddajbaaGreatDoor.Base
set_option linter.unusedVariables false
set_option linter.unusedSimpArgs false

theorem spec_l01In_eq (a b c : Int) : spec_l01In.f a b c = some (decide (b ≤ a ∧ a ≤ c)) := by
  unfold spec_l01In.f
  by_cases h : b ≤ a <;> simp [h]

theorem impl_within_eq (a b c : Int) : impl_within.f a b c = some (decide (b ≤ a ∧ a ≤ c)) := by
  unfold impl_within.f
  by_cases h : b ≤ a <;> simp [h]

theorem laws_szFile_some (x : S59) (h0 : x.f0.size ≤ maxLen) (h1 : x.f1.size ≤ maxLen) (left : Int) (g0 : 0 ≤ left) (g1 : left ≤ 1048576) :
    ∃ r, laws_szFile.f x.f0 x.f1 x.f2 left = some r ∧ (0 ≤ r → r ≤ left ∧ (x.f0.size : Int) ≤ left ∧ (x.f1.size : Int) ≤ left) := by
  unfold maxLen at h0 h1
  unfold laws_szFile.f
  rw [w64 (n := left - (x.f0.size : Int)) (by omega) (by omega)]
  by_cases c1 : left - (x.f0.size : Int) < 0
  · rw [if_pos c1]; exact ⟨_, rfl, fun h => by omega⟩
  rw [if_neg c1, w64 (n := left - (x.f0.size : Int) - (x.f1.size : Int)) (by omega) (by omega)]
  by_cases c2 : left - (x.f0.size : Int) - (x.f1.size : Int) < 0
  · rw [if_pos c2]; exact ⟨_, rfl, fun h => by omega⟩
  rw [if_neg c2]; exact ⟨_, rfl, fun h => by omega⟩
theorem rd_T59_drop {xs : List S59} {i : Nat} {a : S59} {t : List S59} (h : xs.drop i = a :: t) : rd_T59 xs (i : Int) = a ∧ i < xs.length ∧ xs.drop (i + 1) = t := rdOf_drop (d := z59) h
def fileFits (x : S59) : Prop := x.f0.size ≤ maxLen ∧ x.f1.size ≤ maxLen
theorem laws_szFileS_l0 (l : List S59) (hl : l.length ≤ 1048576) (hf : ∀ x ∈ l, fileFits x) : ∀ (t : List S59) (i : Nat) (left : Int), l.drop i = t → i ≤ l.length → 0 ≤ left → left ≤ 1048576 →
    ∃ r, Ev (fun k => laws_szFileS.l0 k l left (i : Int)) r ∧ (0 ≤ r → r ≤ left ∧ ∀ x ∈ t, (x.f0.size : Int) ≤ left ∧ (x.f1.size : Int) ≤ left) := by
  intro t
  induction t with
  | nil =>
    intro i left ht hi g0 g1
    have := drop_nil_len ht
    exact ⟨left, Ev.step (f := fun _ => some left) (fun k => by rw [laws_szFileS.l0, if_neg (by omega)]) (Ev.now _), fun _ => ⟨Int.le_refl _, fun x hx => by cases hx⟩⟩
  | cons a t ih =>
    intro i left ht hi g0 g1
    obtain ⟨h1, h2, h3⟩ := rd_T59_drop ht
    have ha : fileFits a := hf a (List.mem_of_mem_drop (by rw [ht]; exact List.mem_cons_self))
    obtain ⟨r, e, hr⟩ := laws_szFile_some a ha.1 ha.2 left g0 g1
    by_cases hr0 : r < 0
    · refine ⟨-1, Ev.step (f := fun _ => some (-1)) (fun k => ?_) (Ev.now _), fun h => by omega⟩
      rw [laws_szFileS.l0, if_pos (by omega), if_pos (by omega), h1, e, Option.bind_some, if_pos hr0]
    · have hr := hr (by omega)
      obtain ⟨r2, e2, hr2⟩ := ih (i + 1) r h3 (by omega) (by omega) (by omega)
      refine ⟨r2, Ev.step (fun k => ?_) e2, fun h => ⟨by have := (hr2 h).1; omega, fun x hx => ?_⟩⟩
      · rw [laws_szFileS.l0, if_pos (by omega), if_pos (by omega), h1, e, Option.bind_some, if_neg hr0, w64 (by omega) (by omega)]
        rfl
      · rcases List.mem_cons.1 hx with rfl | hx
        · exact hr.2
        · have := (hr2 h).2 x hx
          omega
theorem laws_szFileS_ev (l : List S59) (hl : l.length ≤ maxLen) (hf : ∀ x ∈ l, fileFits x) (left : Int) (g0 : 0 ≤ left) (g1 : left ≤ 1048576) :
    ∃ r, Ev (fun k => laws_szFileS.f k l left) r ∧ (0 ≤ r → r ≤ left ∧ (l.length : Int) ≤ left ∧ ∀ x ∈ l, (x.f0.size : Int) ≤ left ∧ (x.f1.size : Int) ≤ left) := by
  unfold maxLen at hl
  unfold laws_szFileS.f
  rw [w64 (n := left - (l.length : Int)) (by omega) (by omega)]
  by_cases c1 : left - (l.length : Int) < 0
  · exact ⟨-1, Ev.pos c1 (Ev.now _), fun h => by omega⟩
  · obtain ⟨r, e, hr⟩ := laws_szFileS_l0 l (by omega) hf l 0 (left - (l.length : Int)) rfl (Nat.zero_le _) (by omega) (by omega)
    exact ⟨r, Ev.neg c1 e, fun h => ⟨by have := (hr h).1; omega, by omega, fun x hx => by have := (hr h).2 x hx; omega⟩⟩
theorem laws_szDisk_ev (l : List S59) (hl : l.length ≤ maxLen) (hf : ∀ x ∈ l, fileFits x) (left : Int) (g0 : 0 ≤ left) (g1 : left ≤ 1048576) :
    ∃ r, Ev (fun k => laws_szDisk.f k l left) r ∧ (0 ≤ r → r ≤ left ∧ (l.length : Int) ≤ left ∧ ∀ x ∈ l, (x.f0.size : Int) ≤ left ∧ (x.f1.size : Int) ≤ left) := by
  obtain ⟨r, e, hr⟩ := laws_szFileS_ev l hl hf left g0 g1
  unfold laws_szDisk.f
  by_cases hr0 : r < 0
  · exact ⟨-1, Ev.bind e (Ev.pos hr0 (Ev.now _)), fun h => by omega⟩
  · exact ⟨r, Ev.bind e (Ev.neg hr0 (Ev.now _)), hr⟩

def toF (x : S59) : S46 := ⟨x.f0, x.f1, x.f2⟩
theorem laws_toFileS_l0 (l : List S59) (hl : l.length ≤ 1048576) : ∀ (d i : Nat) (xs : List S46), xs.length = l.length → i + d = l.length → xs.take i = (l.take i).map toF → Ev (fun k => laws_toFileS.l0 k l xs (i : Int)) (l.map toF) := by
  intro d
  induction d with
  | zero =>
    intro i xs hx hi ht
    refine Ev.step (f := fun _ => some xs) (fun k => by rw [laws_toFileS.l0, if_neg (by omega)]) (Ev.ret ?_)
    rw [List.take_of_length_le (by omega), List.take_of_length_le (by omega)] at ht
    exact ht
  | succ d ih =>
    intro i xs hx hi ht
    have hr : rd_T59 l (i : Int) = l[i] := rdOf_get (d := z59) (by omega)
    refine Ev.step (fun k => ?_) (ih (i + 1) (xs.set i (toF l[i])) (by rw [List.length_set]; exact hx) (by omega) ?_)
    · rw [laws_toFileS.l0, if_pos (by omega), if_pos (by omega), hr, laws_toFile.f, Option.bind_some, if_pos (by omega), w64 (by omega) (by omega), Int.toNat_natCast]
      rfl
    · rw [take_set_snoc _ _ _ (by omega), ht, List.take_succ_eq_append_getElem (by omega), List.map_append, List.map_singleton]
theorem laws_toFileS_ev (l : List S59) (hl : l.length ≤ 1048576) : Ev (fun k => laws_toFileS.f k l) (l.map toF) := by
  unfold laws_toFileS.f
  exact Ev.pos (by omega) (Ev.pos (by omega) (laws_toFileS_l0 l hl l.length 0 _ (by rw [List.length_replicate]; omega) (by omega) rfl))
theorem laws_toDisk_ev (l : List S59) (hl : l.length ≤ 1048576) : Ev (fun k => laws_toDisk.f k l) (l.map toF) := by
  unfold laws_toDisk.f
  exact Ev.bind (laws_toFileS_ev l hl) (Ev.now _)

theorem rd_T46_drop {xs : List S46} {i : Nat} {a : S46} {t : List S46} (h : xs.drop i = a :: t) : rd_T46 xs (i : Int) = a ∧ i < xs.length ∧ xs.drop (i + 1) = t := rdOf_drop (d := z46) h
theorem laws_eqFile_self (x : S46) : laws_eqFile.f x.f0 x.f1 x.f2 x.f0 x.f1 x.f2 = some true := by
  unfold laws_eqFile.f
  rw [if_pos rfl, if_pos rfl, if_pos rfl]
theorem laws_eqFileS_l0 (l : List S46) (hl : l.length ≤ 1048576) : ∀ (t : List S46) (i : Nat), l.drop i = t → i ≤ l.length → Ev (fun k => laws_eqFileS.l0 k l l (i : Int)) true := by
  intro t
  induction t with
  | nil =>
    intro i ht hi
    have := drop_nil_len ht
    exact Ev.step (f := fun _ => some true) (fun k => by rw [laws_eqFileS.l0, if_neg (by omega)]) (Ev.now _)
  | cons a t ih =>
    intro i ht hi
    obtain ⟨h1, h2, h3⟩ := rd_T46_drop ht
    refine Ev.step (fun k => ?_) (ih (i + 1) h3 (by omega))
    rw [laws_eqFileS.l0, if_pos (by omega), if_pos (by omega), if_pos (by omega), h1, laws_eqFile_self, Option.bind_some, if_pos rfl, w64 (by omega) (by omega)]
    rfl
theorem laws_eqDisk_ev (l : List S46) (hl : l.length ≤ 1048576) : Ev (fun k => laws_eqDisk.f k l l) true := by
  unfold laws_eqDisk.f laws_eqFileS.f
  exact Ev.bind (Ev.pos rfl (laws_eqFileS_l0 l hl l 0 rfl (Nat.zero_le _))) (Ev.pos rfl (Ev.now _))

/-- A file of a right disk, behind the one ahead. -/
def fileOk (x : S46) : Bool := decide (1 ≤ (x.f0.size : Int) ∧ (x.f0.size : Int) ≤ 8) && decide ((x.f1.size : Int) ≤ 20000) && decide (0 ≤ x.f2 ∧ x.f2 ≤ (x.f1.size : Int))
def filesOk : Option S46 → List S46 → Bool
  | _, [] => true
  | none, x :: l => fileOk x && filesOk (some x) l
  | some y, x :: l => fileOk x && Op.bytesLess y.f0.toList x.f0.toList && filesOk (some x) l
def diskOk (l : List S46) : Bool := decide (l.length ≤ 30) && filesOk none l
def ahead (l : List S46) (i : Nat) : Option S46 := if 0 < i then l[i - 1]? else none
theorem ahead_succ {l : List S46} {i : Nat} {a : S46} {t : List S46} (h : l.drop i = a :: t) : ahead l (i + 1) = some a := by
  unfold ahead
  rw [if_pos (by omega), Nat.add_sub_cancel]
  have := congrArg (fun z => z[0]?) h
  simpa using this
theorem rd_ahead {l : List S46} {i : Nat} (h : 0 < i) (hi : i ≤ l.length) : ahead l i = some (rd_T46 l ((i : Int) - 1)) := by
  unfold ahead
  rw [if_pos h]
  obtain ⟨j, rfl⟩ : ∃ j, i = j + 1 := ⟨i - 1, by omega⟩
  rw [Nat.add_sub_cancel, show ((j + 1 : Nat) : Int) - 1 = (j : Int) from by omega]
  have e : rd_T46 l (j : Int) = l[j] := rdOf_get (d := z46) (by omega)
  rw [e, List.getElem?_eq_getElem (by omega)]
theorem spec_l03Name_eq (s : ByteArray) : spec_l03Name.f s = some (decide (1 ≤ (s.size : Int) ∧ (s.size : Int) ≤ 8)) := by
  unfold spec_l03Name.f
  rw [spec_l01In_eq, Option.bind_some]
theorem spec_DiskOk_l0 (l : List S46) (hl : l.length ≤ 1048576) : ∀ (t : List S46) (i : Nat), l.drop i = t → i ≤ l.length → Ev (fun k => spec_DiskOk.l0 k (i : Int) l) (filesOk (ahead l i) t) := by
  intro t
  induction t with
  | nil =>
    intro i ht hi
    have := drop_nil_len ht
    refine Ev.step (f := fun _ => some true) (fun k => by rw [spec_DiskOk.l0, if_neg (by omega)]) (Ev.ret ?_)
    cases ahead l i <;> rfl
  | cons a t ih =>
    intro i ht hi
    obtain ⟨h1, h2, h3⟩ := rd_T46_drop ht
    have e := ih (i + 1) h3 (by omega)
    rw [ahead_succ ht, show ((i + 1 : Nat) : Int) = (i : Int) + 1 from by omega] at e
    refine Ev.succ ?_
    simp only [spec_DiskOk.l0, h1, w64 (n := (i : Int) + 1) (by omega) (by omega), w64 (n := (i : Int) - 1) (by omega) (by omega)]
    refine Ev.pos (by omega) (Ev.pos (by omega) (Ev.bind0 (spec_l03Name_eq _) ?_))
    have hno : fileOk a = false → Ev (fun _ => some false) (filesOk (ahead l i) (a :: t)) := fun h => Ev.ret (by cases ahead l i <;> simp [filesOk, h])
    by_cases c1 : 1 ≤ (a.f0.size : Int) ∧ (a.f0.size : Int) ≤ 8
    · refine Ev.pos (decide_eq_true c1) ?_
      by_cases c2 : (a.f1.size : Int) > 20000
      · exact Ev.pos c2 (hno (by simp only [fileOk]; rw [show decide ((a.f1.size : Int) ≤ 20000) = false from decide_eq_false (by omega)]; simp))
      · refine Ev.neg c2 (Ev.bind0 (spec_l01In_eq _ _ _) ?_)
        by_cases c3 : 0 ≤ a.f2 ∧ a.f2 ≤ (a.f1.size : Int)
        · refine Ev.pos (decide_eq_true c3) ?_
          have hok : fileOk a = true := by
            simp only [fileOk]
            rw [decide_eq_true c1, decide_eq_true c3, show decide ((a.f1.size : Int) ≤ 20000) = true from decide_eq_true (by omega)]
            rfl
          by_cases c4 : 0 < i
          · refine Ev.pos (by omega) (Ev.pos (by omega) (Ev.pos (by omega) ?_))
            rw [rd_ahead c4 hi]
            simp only [filesOk, hok, Bool.true_and]
            cases hb : Op.bytesLess (rd_T46 l ((i : Int) - 1)).f0.toList a.f0.toList with
            | true => exact Ev.pos (by trivial) (by simpa using e)
            | false => exact Ev.neg (by simp) (Ev.ret (by simp))
          · refine Ev.neg (by omega) ?_
            rw [show ahead l i = none from if_neg c4]
            simp only [filesOk, hok, Bool.true_and]
            exact e
        · exact Ev.neg (by simpa using c3) (hno (by simp only [fileOk]; rw [decide_eq_false c3]; simp))
    · exact Ev.neg (by simpa using c1) (hno (by simp only [fileOk]; rw [decide_eq_false c1]; simp))
theorem spec_DiskOk_ev (l : List S46) (hl : l.length ≤ 1048576) : Ev (fun k => spec_DiskOk.f k l) (diskOk l) := by
  unfold spec_DiskOk.f diskOk
  by_cases h : (l.length : Int) > 30
  · exact Ev.pos h (Ev.ret (by rw [decide_eq_false (by omega)]; rfl))
  · refine Ev.neg h ?_
    rw [show decide (l.length ≤ 30) = true from decide_eq_true (by omega), Bool.true_and]
    exact spec_DiskOk_l0 l hl l 0 rfl (Nat.zero_le _)

theorem impl_DiskOk_l0 (l : List S46) (hl : l.length ≤ 1048576) : ∀ (t : List S46) (i : Nat), l.drop i = t → i ≤ l.length → Ev (fun k => impl_DiskOk.l0 k l (l.length : Int) (i : Int) l) (decide (l.length ≤ 30) && filesOk (ahead l i) t) := by
  intro t
  induction t with
  | nil =>
    intro i ht hi
    have := drop_nil_len ht
    refine Ev.step (f := fun _ => some (decide ((l.length : Int) ≤ 30))) (fun k => by rw [impl_DiskOk.l0, if_neg (by omega)]) (Ev.ret ?_)
    have e : filesOk (ahead l i) [] = true := by cases ahead l i <;> rfl
    rw [e, Bool.and_true]
    exact decide_eq_decide.2 (by omega)
  | cons a t ih =>
    intro i ht hi
    obtain ⟨h1, h2, h3⟩ := rd_T46_drop ht
    have e := ih (i + 1) h3 (by omega)
    rw [ahead_succ ht, show ((i + 1 : Nat) : Int) = (i : Int) + 1 from by omega] at e
    refine Ev.succ ?_
    simp only [impl_DiskOk.l0, h1, w64 (n := (i : Int) + 1) (by omega) (by omega), w64 (n := (i : Int) - 1) (by omega) (by omega)]
    refine Ev.pos (by omega) (Ev.pos (by omega) (Ev.pos (by omega) (Ev.bind0 (impl_within_eq _ _ _) ?_)))
    have hno : fileOk a = false → Ev (fun _ => some false) (decide (l.length ≤ 30) && filesOk (ahead l i) (a :: t)) := fun h => Ev.ret (by cases ahead l i <;> simp [filesOk, h])
    by_cases c1 : 1 ≤ (a.f0.size : Int) ∧ (a.f0.size : Int) ≤ 8
    · refine Ev.pos (decide_eq_true c1) ?_
      by_cases c2 : (a.f1.size : Int) > 20000
      · exact Ev.pos c2 (hno (by simp only [fileOk]; rw [show decide ((a.f1.size : Int) ≤ 20000) = false from decide_eq_false (by omega)]; simp))
      · refine Ev.neg c2 (Ev.bind0 (impl_within_eq _ _ _) ?_)
        by_cases c3 : 0 ≤ a.f2 ∧ a.f2 ≤ (a.f1.size : Int)
        · refine Ev.pos (decide_eq_true c3) ?_
          have hok : fileOk a = true := by
            simp only [fileOk]
            rw [decide_eq_true c1, decide_eq_true c3, show decide ((a.f1.size : Int) ≤ 20000) = true from decide_eq_true (by omega)]
            rfl
          by_cases c4 : 0 < i
          · refine Ev.pos (by omega) (Ev.pos (by omega) (Ev.pos (by omega) ?_))
            rw [rd_ahead c4 hi]
            simp only [filesOk, hok, Bool.true_and]
            cases hb : Op.bytesLess (rd_T46 l ((i : Int) - 1)).f0.toList a.f0.toList with
            | true => exact Ev.pos (by trivial) (by simpa using e)
            | false => exact Ev.neg (by simp) (Ev.ret (by simp))
          · refine Ev.neg (by omega) ?_
            rw [show ahead l i = none from if_neg c4]
            simp only [filesOk, hok, Bool.true_and]
            exact e
        · exact Ev.neg (by simpa using c3) (hno (by simp only [fileOk]; rw [decide_eq_false c3]; simp))
    · exact Ev.neg (by simpa using c1) (hno (by simp only [fileOk]; rw [decide_eq_false c1]; simp))
theorem impl_DiskOk_ev (l : List S46) (hl : l.length ≤ 1048576) : Ev (fun k => impl_DiskOk.f k l) (diskOk l) := by
  unfold impl_DiskOk.f diskOk
  exact impl_DiskOk_l0 l hl l 0 rfl (Nat.zero_le _)

theorem files_all : ∀ (l : List S46) (o : Option S46), filesOk o l = true → ∀ x ∈ l, fileOk x = true := by
  intro l
  induction l with
  | nil => intro _ _ x hx; cases hx
  | cons a t ih =>
    intro o h x hx
    have h2 : fileOk a = true ∧ filesOk (some a) t = true := by
      cases o with
      | none => rw [filesOk, Bool.and_eq_true] at h; exact h
      | some y => rw [filesOk, Bool.and_eq_true, Bool.and_eq_true] at h; exact ⟨h.1.1, h.2⟩
    rcases List.mem_cons.1 hx with rfl | hx
    · exact h2.1
    · exact ih _ h2.2 x hx

theorem idx_range {α : Type} (p : α → Bool) : ∀ (l : List α) (i : Int), idxFrom p l i = -1 ∨ (i ≤ idxFrom p l i ∧ idxFrom p l i < i + (l.length : Int)) := by
  intro l
  induction l with
  | nil => intro i; exact .inl rfl
  | cons a t ih =>
    intro i
    rw [idxFrom, List.length_cons]
    by_cases h : p a = true
    · rw [if_pos h]; right; omega
    · rw [if_neg h]
      rcases ih (i + 1) with h1 | h1
      · exact .inl h1
      · right; omega
theorem idx_any {α : Type} (p : α → Bool) : ∀ (l : List α) (i : Int), 0 ≤ i → decide (0 ≤ idxFrom p l i) = l.any p := by
  intro l
  induction l with
  | nil => intro i _; rfl
  | cons a t ih =>
    intro i hi
    rw [idxFrom, List.any_cons]
    by_cases h : p a = true
    · rw [if_pos h, h, decide_eq_true hi]; rfl
    · rw [if_neg h, ih (i + 1) (by omega)]
      rw [show p a = false from by simpa using h]; rfl

theorem less_trans : ∀ (x y z : List UInt8), Op.bytesLess x y = true → Op.bytesLess y z = true → Op.bytesLess x z = true
  | _, _, [], _, h => by simp [Op.bytesLess] at h
  | _, [], _ :: _, h, _ => by simp [Op.bytesLess] at h
  | [], _ :: _, _ :: _, _, _ => rfl
  | a :: x, b :: y, c :: z, h, k => by
    simp only [Op.bytesLess, Bool.or_eq_true, Bool.and_eq_true, decide_eq_true_eq, beq_iff_eq] at h k ⊢
    rcases h with h | ⟨h, h'⟩
    · rcases k with k | ⟨k, k'⟩
      · exact .inl (UInt8.lt_trans h k)
      · exact .inl (k ▸ h)
    · rcases k with k | ⟨k, k'⟩
      · exact .inl (h ▸ k)
      · exact .inr ⟨h.trans k, less_trans x y z h' k'⟩
theorem less_irrefl : ∀ (x : List UInt8), ¬ Op.bytesLess x x = true
  | [] => by simp [Op.bytesLess]
  | a :: x => by
    simp only [Op.bytesLess, Bool.or_eq_true, Bool.and_eq_true, decide_eq_true_eq, beq_iff_eq, not_or, not_and]
    exact ⟨UInt8.lt_irrefl a, fun _ => less_irrefl x⟩
def before (x y : S46) : Prop := Op.bytesLess x.f0.toList y.f0.toList = true
theorem before_trans {x y z : S46} (h : before x y) (k : before y z) : before x z := less_trans _ _ _ h k
theorem before_ne {x y : S46} (h : before x y) : ¬ x.f0.toList = y.f0.toList := fun e => by unfold before at h; rw [e] at h; exact less_irrefl _ h
theorem files_pair : ∀ (l : List S46) (o : Option S46), filesOk o l = true → l.Pairwise before ∧ ∀ y, o = some y → ∀ x ∈ l, before y x := by
  intro l
  induction l with
  | nil => intro o _; exact ⟨List.Pairwise.nil, fun _ _ x hx => by cases hx⟩
  | cons a t ih =>
    intro o h
    have h2 : filesOk (some a) t = true ∧ ∀ y, o = some y → before y a := by
      cases o with
      | none => rw [filesOk, Bool.and_eq_true] at h; exact ⟨h.2, fun y e => by cases e⟩
      | some y => rw [filesOk, Bool.and_eq_true, Bool.and_eq_true] at h; exact ⟨h.2, fun z e => by injection e with e; subst e; exact h.1.2⟩
    obtain ⟨i1, i2⟩ := ih (some a) h2.1
    refine ⟨List.pairwise_cons.2 ⟨i2 a rfl, i1⟩, fun y e x hx => ?_⟩
    rcases List.mem_cons.1 hx with rfl | hx
    · exact h2.2 y e
    · exact before_trans (h2.2 y e) (i2 a rfl x hx)
theorem disk_pair {l : List S46} (h : diskOk l = true) : l.Pairwise before ∧ (∀ x ∈ l, fileOk x = true) ∧ l.length ≤ 30 := by
  unfold diskOk at h
  rw [Bool.and_eq_true, decide_eq_true_eq] at h
  exact ⟨(files_pair l none h.2).1, files_all l none h.2, h.1⟩
def nameOk (s : ByteArray) : Bool := decide (1 ≤ (s.size : Int) ∧ (s.size : Int) ≤ 8)
theorem fileOk_name {x : S46} (h : fileOk x = true) : nameOk x.f0 = true ∧ (x.f1.size : Int) ≤ 20000 ∧ 0 ≤ x.f2 ∧ x.f2 ≤ (x.f1.size : Int) := by
  unfold fileOk at h
  rw [Bool.and_eq_true, Bool.and_eq_true, decide_eq_true_eq (p := (x.f1.size : Int) ≤ 20000), decide_eq_true_eq (p := 0 ≤ x.f2 ∧ x.f2 ≤ (x.f1.size : Int))] at h
  exact ⟨h.1.1, h.1.2, h.2⟩

def named (s : ByteArray) (x : S46) : Bool := decide (x.f0.toList = s.toList)
theorem spec_l03At_l0 (l : List S46) (hl : l.length ≤ 1048576) (s : ByteArray) : ∀ (t : List S46) (i : Nat), l.drop i = t → i ≤ l.length → Ev (fun k => spec_l03At.l0 k s (i : Int) l) (idxFrom (named s) t (i : Int)) := by
  intro t
  induction t with
  | nil =>
    intro i ht hi
    have := drop_nil_len ht
    exact Ev.step (f := fun _ => some (-1)) (fun k => by rw [spec_l03At.l0, if_neg (by omega)]) (Ev.now _)
  | cons a t ih =>
    intro i ht hi
    obtain ⟨h1, h2, h3⟩ := rd_T46_drop ht
    have e := ih (i + 1) h3 (by omega)
    rw [show ((i + 1 : Nat) : Int) = (i : Int) + 1 from by omega] at e
    refine Ev.succ ?_
    simp only [spec_l03At.l0, h1, w64 (n := (i : Int) + 1) (by omega) (by omega)]
    refine Ev.pos (by omega) (Ev.pos (by omega) ?_)
    rw [idxFrom, named]
    by_cases h : a.f0.toList = s.toList
    · rw [if_pos (decide_eq_true h)]
      exact Ev.pos h (Ev.now _)
    · rw [if_neg (by simpa using h)]
      exact Ev.neg h e
def fileAtOf (l : List S46) (s : ByteArray) : ByteArray × Bool := if idxFrom (named s) l 0 < 0 then noText else ((rd_T46 l (idxFrom (named s) l 0)).f1, true)
theorem impl_FileAt_eq (l : List S46) (s : ByteArray) : impl_FileAt.f l s = some (fileAtOf l s) := by
  unfold impl_FileAt.f impl_fileAt.f fileAtOf
  rw [Option.bind_some]
  show (if idxFrom (named s) l 0 < 0 then _ else (if 0 ≤ idxFrom (named s) l 0 then (if idxFrom (named s) l 0 < (l.length : Int) then (some ((rd_T46 l (idxFrom (named s) l 0)).f1, true)) else none) else none)) = _
  have hr := idx_range (named s) l 0
  by_cases h : idxFrom (named s) l 0 < 0
  · rw [if_pos h, if_pos h]; rfl
  · rw [if_neg h, if_neg h, if_pos (by omega), if_pos (by omega)]

theorem spec_l01Var_l0 : ∀ (n : Nat) (acc : List Int), acc.length + n < 140737488355327 → Ev (fun k => spec_l01Var.l0 k (n : Int) acc) (strOfNums (acc ++ vl n)) := by
  intro n
  induction n using Nat.strongRecOn with
  | _ n ih =>
    intro acc h
    by_cases hn : n > 127
    · refine Ev.step (f := fun k => spec_l01Var.l0 k ((n / 128 : Nat) : Int) (acc ++ [((n % 128 + 128 : Nat) : Int)])) (fun k => ?_) ?_
      · rw [spec_l01Var.l0, if_pos (by omega), if_pos (by omega), quo128 (by omega), rem128]
      · have e := ih (n / 128) (by omega) (acc ++ [((n % 128 + 128 : Nat) : Int)]) (by rw [List.length_append, List.length_singleton]; omega)
        rw [vl_big hn]
        rwa [List.append_assoc] at e
    · refine Ev.step (f := fun _ => some (strOfNums (acc ++ vl n))) (fun k => ?_) (Ev.now _)
      rw [spec_l01Var.l0, if_neg (by omega), if_pos (by omega), vl_small hn, show (n : Int) % 256 = (n : Int) from by omega]
theorem spec_l01Var_ev {a : Int} (h : 0 ≤ a) (h' : a < 140737488355327) : Ev (fun k => spec_l01Var.f k a) (strOfNums (vl a.toNat)) := by
  obtain ⟨n, rfl⟩ := Int.eq_ofNat_of_zero_le h
  exact spec_l01Var_l0 n [] (by simp; omega)

theorem spec_ReadVar_l0 (s : ByteArray) (p : Nat) (hs : s.size ≤ 140737488351232) : ∀ (f j sc n : Nat), f + j = 5 → sc * 128 ^ f = 34359738368 → n < sc → p + j ≤ s.size →
    Ev (fun k => spec_ReadVar.l0 k s (p : Int) (n : Int) (sc : Int) ((p + j : Nat) : Int)) (rvS s p n sc (p + j) (dig f (s.data.toList.drop (p + j)))) := by
  intro f
  induction f with
  | zero =>
    intro j sc n hf hsc hn hj
    by_cases hlt : p + j < s.size
    · refine Ev.step (f := fun k => spec_ReadVar.j1 k s (p : Int) (n : Int) (sc : Int) ((p + j : Nat) : Int) false) (fun k => ?_) ?_
      · rw [spec_ReadVar.l0, if_pos (by omega), w64 (by omega) (by omega), show decide (((p + j : Nat) : Int) < (p : Int) + 5) = false from decide_eq_false (by omega)]
      · exact Ev.step (f := fun _ => some noVar) (fun k => by rw [spec_ReadVar.j1, if_neg (by decide)]; rfl) (Ev.now _)
    · refine Ev.step (f := fun k => spec_ReadVar.j1 k s (p : Int) (n : Int) (sc : Int) ((p + j : Nat) : Int) false) (fun k => ?_) ?_
      · rw [spec_ReadVar.l0, if_neg (by omega)]
      · exact Ev.step (f := fun _ => some noVar) (fun k => by rw [spec_ReadVar.j1, if_neg (by decide)]; rfl) (Ev.now _)
  | succ f ih =>
    intro j sc n hf hsc hn hj
    obtain ⟨hsc1, hsc2⟩ := rv_sc hsc
    cases hl : s.data.toList.drop (p + j) with
    | nil =>
      have hz := drop_none hl
      refine Ev.step (f := fun k => spec_ReadVar.j1 k s (p : Int) (n : Int) (sc : Int) ((p + j : Nat) : Int) false) (fun k => ?_) ?_
      · rw [spec_ReadVar.l0, if_neg (by omega)]
      · exact Ev.step (f := fun _ => some noVar) (fun k => by rw [spec_ReadVar.j1, if_neg (by decide)]; rfl) (Ev.now _)
    | cons c l =>
      obtain ⟨hb, hlt, hd⟩ := bt_drop hl
      have hc : c.toNat < 256 := c.toNat_lt
      refine Ev.step (f := fun k => spec_ReadVar.j1 k s (p : Int) (n : Int) (sc : Int) ((p + j : Nat) : Int) true) (fun k => ?_) ?_
      · rw [spec_ReadVar.l0, if_pos (by omega), w64 (by omega) (by omega), show decide (((p + j : Nat) : Int) < (p : Int) + 5) = true from decide_eq_true (by omega)]
      refine Ev.succ ?_
      simp only [spec_ReadVar.j1, hb, rv_term hc hsc1 hn, w64 (n := ((p + j : Nat) : Int) + 1) (by omega) (by omega), w64 (n := (sc : Int) * 128) (by omega) (by omega)]
      refine Ev.pos (by trivial) (Ev.pos (by omega) (Ev.pos (by omega) ?_))
      have hsum := rv_lt (c := c.toNat) hn
      by_cases hc1 : c.toNat < 128
      · rw [dig_small hc1]
        have e0 : c.toNat % 128 * sc = sc * c.toNat := by rw [Nat.mod_eq_of_lt hc1, Nat.mul_comm]
        rw [e0] at hsum ⊢
        simp only [rvS]
        refine Ev.pos (by omega) ?_
        by_cases hmax : n + sc * c.toNat ≤ 1000000000
        · refine Ev.neg (by omega) (Ev.bind (spec_l01Var_ev (by omega) (by omega)) ?_)
          refine Ev.pos (by omega) (Ev.pos (by omega) (Ev.pos (by omega) ?_))
          rw [Int.toNat_natCast, Int.toNat_natCast, show (((p + j : Nat) : Int) + 1).toNat = p + j + 1 from by omega]
          by_cases he : strOfNums (vl (n + sc * c.toNat)) = s.extract p (p + j + 1)
          · exact Ev.tpos ⟨hmax, he⟩ (Ev.pos (toList_iff.2 he) (Ev.ret (by rw [Int.natCast_add (p + j) 1]; rfl)))
          · exact Ev.tneg (fun h => he h.2) (Ev.neg (fun h => he (toList_inj h)) (Ev.now _))
        · exact Ev.tneg (fun h => hmax h.1) (Ev.pos (by omega) (Ev.now _))
      · rw [dig_big hc1, rvS_next]
        refine Ev.neg (by omega) ?_
        have e := ih (j + 1) (sc * 128) (n + c.toNat % 128 * sc) (by omega) hsc2 hsum (by omega)
        rw [← Nat.add_assoc, hd, show ((p + j + 1 : Nat) : Int) = ((p + j : Nat) : Int) + 1 from by omega, show ((sc * 128 : Nat) : Int) = (sc : Int) * 128 from by omega] at e
        exact e
theorem spec_ReadVar_ev (s : ByteArray) (p : Int) (hs : s.size ≤ 140737488351232) : Ev (fun k => spec_ReadVar.f k s p) (readVar s p) := by
  unfold spec_ReadVar.f
  refine Ev.bind0 (spec_l01In_eq _ _ _) ?_
  by_cases h : 0 ≤ p ∧ p ≤ s.size
  · refine Ev.pos (by simpa using h) ?_
    obtain ⟨p, rfl⟩ := Int.eq_ofNat_of_zero_le h.1
    rw [← rvS_top s p (by omega)]
    exact spec_ReadVar_l0 s p hs 5 0 1 0 (by omega) (by decide) (by omega) (by omega)
  · refine Ev.neg (by simpa using h) ?_
    rw [readVar, if_neg h]
    exact Ev.now _

theorem spec_SumMore_l1 (s : ByteArray) (i : Int) (h0 : 0 ≤ i) (h1 : i < 140737488355328) (r : Int) : ∀ (d : Nat) (j x : Int), j + d = 8 → 0 ≤ j → Ev (fun k => spec_SumMore.l0 k (sumN d x) s (i + 1)) r → Ev (fun k => spec_SumMore.l1 k x s i j) r := by
  intro d
  induction d with
  | zero =>
    intro j x hj hj0 h
    refine Ev.step (f := fun k => spec_SumMore.l0 k x s (i + 1)) (fun k => ?_) h
    rw [spec_SumMore.l1, if_neg (by omega), w64 (by omega) (by omega)]
  | succ d ih =>
    intro j x hj hj0 h
    refine Ev.step (f := fun k => spec_SumMore.l1 k (sum1 x) s i (j + 1)) (fun k => ?_) (ih (j + 1) (sum1 x) (by omega) (by omega) h)
    rw [spec_SumMore.l1, if_pos (by omega), w64 (by omega) (by omega), sum1]
    split <;> rfl
theorem spec_SumMore_l0 (s : ByteArray) (hs : s.size ≤ 140737488351232) : ∀ (l : List UInt8) (i : Nat) (x : Int), s.data.toList.drop i = l → i ≤ s.size → Ev (fun k => spec_SumMore.l0 k x s i) (sumMore x l) := by
  intro l
  induction l with
  | nil =>
    intro i x hl hi
    have := drop_none hl
    rw [sumMore_nil]
    refine Ev.step (f := fun _ => some x) (fun k => ?_) (Ev.now _)
    rw [spec_SumMore.l0, if_neg (by omega)]
  | cons c l ih =>
    intro i x hl hi
    obtain ⟨hb, hlt, hd⟩ := bt_drop hl
    refine Ev.step (f := fun k => spec_SumMore.l1 k (Go.bits .xor .u32 x ((c.toNat : Int) % 4294967296)) s i 0) (fun k => ?_) ?_
    · rw [spec_SumMore.l0, if_pos (by omega), if_pos (by omega), hb]
    · rw [sumMore_cons, feed]
      exact spec_SumMore_l1 s i (by omega) (by omega) _ 8 0 _ (by omega) (by omega) (ih (i + 1) _ hd (by omega))
theorem spec_SumMore_ev (x : Int) (s : ByteArray) (hs : s.size ≤ 140737488351232) : Ev (fun k => spec_SumMore.f k x s) (sumMore x s.data.toList) :=
  spec_SumMore_l0 s hs s.data.toList 0 x rfl (Nat.zero_le _)

theorem spec_SumOf_ev (s : ByteArray) (hs : s.size ≤ 140737488351232) : Ev (fun k => spec_SumOf.f k s) (sumOf s) := by
  unfold spec_SumOf.f
  exact Ev.bind (spec_SumMore_ev _ s hs) (Ev.now _)

theorem spec_Frame_ev (s : ByteArray) (hs : s.size ≤ 140737488351232) : Ev (fun k => spec_Frame.f k s) (frameOf s) := by
  unfold spec_Frame.f frameOf
  refine Ev.bind0 (spec_l01In_eq _ _ _) ?_
  by_cases h : 1 ≤ s.size ∧ s.size ≤ 9000
  · rw [if_pos h]
    refine Ev.pos (by rw [decide_eq_true_eq]; omega) ?_
    have hv := vl_len 2 s.size (by omega) (by omega)
    refine Ev.bind (spec_l01Var_ev (by omega) (by omega)) (Ev.bind (spec_SumOf_ev s hs) (Ev.bind0 (x := four (sumOf s)) rfl ?_))
    rw [Int.toNat_natCast]
    refine Ev.pos (by rw [four_size, strOfNums_size]; omega) (Ev.pos (by rw [app_size, four_size, strOfNums_size]; omega) (Ev.now _))
  · rw [if_neg h]
    exact Ev.neg (by rw [decide_eq_true_eq]; omega) (Ev.now _)

theorem spec_Unframe_j1t (s : ByteArray) (acc : List ByteArray) (p n q : Int) : Ev (fun k => spec_Unframe.j1 k s acc p n q true) (acc, p) :=
  Ev.step (f := fun _ => some (acc, p)) (fun k => by rw [spec_Unframe.j1, if_pos rfl]) (Ev.now _)
theorem spec_Unframe_l0 (s : ByteArray) (hs : s.size ≤ 20000) : ∀ (f : Nat) (acc : List ByteArray) (p : Int), 0 ≤ p → p ≤ s.size → (s.size : Int) - p < f → (acc.length : Int) ≤ p →
    Ev (fun k => spec_Unframe.l0 k s acc p) (unfr f s acc p) := by
  intro f
  induction f with
  | zero => intro acc p h0 h1 h2 h3; omega
  | succ f ih =>
    intro acc p h0 h1 h2 h3
    unfold unfr
    refine Ev.succ ?_
    simp only [spec_Unframe.l0]
    by_cases hlt : p < (s.size : Int)
    case neg =>
      refine Ev.neg hlt ?_
      have hr : readVar s p = (0, 0, false) := by
        rcases readVar_cases s p with hr | ⟨n, m, hr, hn, hm, hp, hz, hl, hx⟩
        · exact hr
        · omega
      rw [hr]
      exact Ev.tneg (fun h => absurd h.1 (by decide)) (Ev.now _)
    refine Ev.pos hlt ?_
    refine Ev.bind (spec_ReadVar_ev s p (by omega)) ?_
    rcases readVar_cases s p with hr | ⟨n, m, hr, hn, hm, hp, hz, hl, hx⟩
    · rw [hr]
      exact Ev.tneg (fun h => absurd h.1 (by decide)) (Ev.neg (by decide) (spec_Unframe_j1t s acc p _ _))
    · rw [hr]
      dsimp only
      rw [w64 (n := (s.size : Int) - (p + (m : Int))) (by omega) (by omega), w64 (n := (s.size : Int) - (p + (m : Int)) - 4) (by omega) (by omega)]
      refine Ev.pos rfl ?_
      by_cases hc : (n : Int) ≤ (s.size : Int) - (p + (m : Int)) - 4
      · rw [show decide ((n : Int) > (s.size : Int) - (p + (m : Int)) - 4) = false from decide_eq_false (by omega)]
        refine Ev.succ ?_
        simp only [spec_Unframe.j1, w64 (n := p + (m : Int) + 4) (by omega) (by omega), w64 (n := p + (m : Int) + 4 + (n : Int)) (by omega) (by omega)]
        refine Ev.neg (by decide) (Ev.pos (by omega) (Ev.pos (by omega) (Ev.pos (by omega) (Ev.bind (spec_Frame_ev _ (by rw [ext_size _ _ _ (by omega)]; omega)) ?_))))
        by_cases hf : frameOf (s.extract (p + (m : Int) + 4).toNat (p + (m : Int) + 4 + (n : Int)).toNat) = (s.extract p.toNat (p + (m : Int) + 4 + (n : Int)).toNat, true)
        · refine Ev.tpos ⟨by trivial, hc, hf⟩ ?_
          rw [hf]
          refine Ev.pos rfl (Ev.pos (by omega) (Ev.pos (by omega) (Ev.pos rfl (Ev.pos (by omega) ?_))))
          exact ih _ _ (by omega) (by omega) (by omega) (by rw [List.length_append, List.length_singleton]; omega)
        · refine Ev.tneg (fun h => hf h.2.2) ?_
          by_cases h2 : (frameOf (s.extract (p + (m : Int) + 4).toNat (p + (m : Int) + 4 + (n : Int)).toNat)).2 = true
          · refine Ev.pos h2 (Ev.pos (by omega) (Ev.pos (by omega) (Ev.neg (fun he => hf ?_) (Ev.now _))))
            exact Prod.ext (toList_inj he) h2
          · exact Ev.neg h2 (Ev.now _)
      · rw [show decide ((n : Int) > (s.size : Int) - (p + (m : Int)) - 4) = true from decide_eq_true (by omega)]
        exact Ev.tneg (fun h => hc h.2.1) (spec_Unframe_j1t s acc p _ _)
theorem spec_Unframe_ev (s : ByteArray) : Ev (fun k => spec_Unframe.f k s) (unframe s) := by
  unfold spec_Unframe.f unframe
  refine Ev.bind0 rfl ?_
  by_cases h : s.size > 20000
  · rw [if_pos h]
    exact Ev.pos (by omega) (Ev.now _)
  · rw [if_neg h]
    exact Ev.neg (by omega) (spec_Unframe_l0 s (by omega) _ [] 0 (by omega) (by omega) (by omega) (by simp))

theorem impl_VarText_l0 : ∀ (n : Nat) (acc : List Int), acc.length + n < 140737488355327 → Ev (fun k => impl_VarText.l0 k (n : Int) acc) (strOfNums (acc ++ vl n), true) := by
  intro n
  induction n using Nat.strongRecOn with
  | _ n ih =>
    intro acc h
    by_cases hn : n > 127
    · refine Ev.step (f := fun k => impl_VarText.l0 k ((n / 128 : Nat) : Int) (acc ++ [((n % 128 + 128 : Nat) : Int)])) (fun k => ?_) ?_
      · rw [impl_VarText.l0, if_pos (by omega), if_pos (by omega), quo128 (by omega), rem128]
      · have e := ih (n / 128) (by omega) (acc ++ [((n % 128 + 128 : Nat) : Int)]) (by rw [List.length_append, List.length_singleton]; omega)
        rw [vl_big hn]
        rwa [List.append_assoc] at e
    · refine Ev.step (f := fun _ => some (strOfNums (acc ++ vl n), true)) (fun k => ?_) (Ev.now _)
      rw [impl_VarText.l0, if_neg (by omega), if_pos (by omega), vl_small hn, show (n : Int) % 256 = (n : Int) from by omega]
theorem impl_VarText_ev (a : Int) : Ev (fun k => impl_VarText.f k a) (varText a) := by
  unfold impl_VarText.f
  refine Ev.bind0 (impl_within_eq _ _ _) ?_
  by_cases h : 0 ≤ a ∧ a ≤ 1000000000
  · refine Ev.pos (by simpa using h) ?_
    rw [varText_yes h.1 h.2]
    obtain ⟨n, rfl⟩ := Int.eq_ofNat_of_zero_le h.1
    exact impl_VarText_l0 n [] (by simp; omega)
  · refine Ev.neg (by simpa using h) (Ev.ret (varText_no h).symm)

theorem impl_ReadVar_l0 (s : ByteArray) (p : Nat) (hs : s.size ≤ 140737488351232) (hp : p ≤ s.size) : ∀ (f j n : Nat), f + j = 5 → n < 128 ^ j →
    Ev (fun k => impl_ReadVar.l0 k s (p : Int) (n : Int) (j : Int)) (rvI p n (128 ^ j) j (dig f (s.data.toList.drop (p + j)))) := by
  intro f
  induction f with
  | zero =>
    intro j n hf hn
    refine Ev.step (f := fun k => impl_ReadVar.j1 k s (p : Int) (n : Int) (j : Int) false) (fun k => ?_) ?_
    · rw [impl_ReadVar.l0, if_neg (by omega)]
    · exact Ev.step (f := fun _ => some noVar) (fun k => by rw [impl_ReadVar.j1, if_neg (by decide)]; rfl) (Ev.now _)
  | succ f ih =>
    intro j n hf hn
    have hsc1 : 128 ^ j * 128 ≤ 34359738368 := by
      have h5 : 128 ^ (j + 1) ≤ 128 ^ 5 := Nat.pow_le_pow_right (by decide) (by omega)
      rw [← Nat.pow_succ]
      exact Nat.le_trans h5 (by decide)
    cases hl : s.data.toList.drop (p + j) with
    | nil =>
      have hz := drop_none hl
      refine Ev.step (f := fun k => impl_ReadVar.j1 k s (p : Int) (n : Int) (j : Int) false) (fun k => ?_) ?_
      · rw [impl_ReadVar.l0, if_pos (by omega), w64 (by omega) (by omega), show decide ((p : Int) + (j : Int) < (s.size : Int)) = false from decide_eq_false (by omega)]
      · exact Ev.step (f := fun _ => some noVar) (fun k => by rw [impl_ReadVar.j1, if_neg (by decide)]; rfl) (Ev.now _)
    | cons c l =>
      obtain ⟨hb, hlt, hd⟩ := bt_drop hl
      have hc : c.toNat < 256 := c.toNat_lt
      refine Ev.step (f := fun k => impl_ReadVar.j1 k s (p : Int) (n : Int) (j : Int) true) (fun k => ?_) ?_
      · rw [impl_ReadVar.l0, if_pos (by omega), w64 (by omega) (by omega), show decide ((p : Int) + (j : Int) < (s.size : Int)) = true from decide_eq_true (by omega)]
      refine Ev.succ ?_
      have hsum := rv_lt (c := c.toNat) hn
      rw [Int.natCast_add] at hb
      have et : wrap64 ((n : Int) + ((c.toNat % 128 * 128 ^ j : Nat) : Int)) = ((n + c.toNat % 128 * 128 ^ j : Nat) : Int) := by
        generalize c.toNat % 128 * 128 ^ j = t at *
        rw [w64 (by omega) (by omega), Int.natCast_add]
      have hs7 := shl7 (c := c.toNat) (j := j) hc (by omega)
      simp only [impl_ReadVar.j1, w64 (n := (p : Int) + (j : Int)) (by omega) (by omega), hb, hs7, et, w64 (n := (p : Int) + (j : Int) + 1) (by omega) (by omega), w64 (n := (j : Int) + 1) (by omega) (by omega), w64 (n := 7 * (j : Int)) (by omega) (by omega), w64 (n := (c.toNat : Int)) (by omega) (by omega)]
      refine Ev.pos (by trivial) (Ev.pos (by omega) (Ev.pos (by omega) (Ev.pos (by omega) ?_)))
      by_cases hc1 : c.toNat < 128
      · rw [dig_small hc1]
        have e0 : c.toNat % 128 * 128 ^ j = 128 ^ j * c.toNat := by rw [Nat.mod_eq_of_lt hc1, Nat.mul_comm]
        rw [e0] at hsum ⊢
        simp only [rvI]
        generalize n + 128 ^ j * c.toNat = t at *
        refine Ev.pos (by omega) (Ev.bind (impl_VarText_ev _) ?_)
        by_cases hmax : t ≤ 1000000000
        · rw [varText_yes (by omega) (by omega), Int.toNat_natCast]
          refine Ev.pos (by trivial) ?_
          rw [strOfNums_size]
          by_cases he : (vl t).length = j + 1
          · refine Ev.tpos ⟨hmax, he⟩ (Ev.pos (by omega) (Ev.ret ?_))
            rw [Int.natCast_add, Int.natCast_add]; rfl
          · exact Ev.tneg (fun h => he h.2) (Ev.neg (by omega) (Ev.now _))
        · rw [varText_no (by omega)]
          exact Ev.tneg (fun h => hmax h.1) (Ev.neg (by simp) (Ev.now _))
      · rw [dig_big hc1, rvI_next]
        refine Ev.neg (by omega) ?_
        have e := ih (j + 1) (n + c.toNat % 128 * 128 ^ j) (by omega) (by rw [Nat.pow_succ]; exact hsum)
        rw [← Nat.add_assoc, hd, Nat.pow_succ, show ((j + 1 : Nat) : Int) = (j : Int) + 1 from by omega] at e
        exact e
theorem impl_ReadVar_ev (s : ByteArray) (p : Int) (hs : s.size ≤ 140737488351232) : Ev (fun k => impl_ReadVar.f k s p) (readVar s p) := by
  unfold impl_ReadVar.f
  refine Ev.bind0 (impl_within_eq _ _ _) ?_
  by_cases h : 0 ≤ p ∧ p ≤ s.size
  · refine Ev.pos (by simpa using h) ?_
    obtain ⟨p, rfl⟩ := Int.eq_ofNat_of_zero_le h.1
    rw [← rvI_top s p (by omega)]
    exact impl_ReadVar_l0 s p hs (by omega) 5 0 0 (by omega) (by decide)
  · refine Ev.neg (by simpa using h) ?_
    rw [readVar, if_neg h]
    exact Ev.now _

theorem impl_SumMore_l1 (s : ByteArray) (i : Int) (h0 : 0 ≤ i) (h1 : i < 140737488355328) (r : Int) : ∀ (d : Nat) (j x : Int), j + d = 8 → 0 ≤ j → Ev (fun k => impl_SumMore.l0 k (sumN d x) s (i + 1)) r → Ev (fun k => impl_SumMore.l1 k x s i j) r := by
  intro d
  induction d with
  | zero =>
    intro j x hj hj0 h
    refine Ev.step (f := fun k => impl_SumMore.l0 k x s (i + 1)) (fun k => ?_) h
    rw [impl_SumMore.l1, if_neg (by omega), w64 (by omega) (by omega)]
  | succ d ih =>
    intro j x hj hj0 h
    refine Ev.step (f := fun k => impl_SumMore.l1 k (sum1 x) s i (j + 1)) (fun k => ?_) (ih (j + 1) (sum1 x) (by omega) (by omega) h)
    rw [impl_SumMore.l1, if_pos (by omega), w64 (by omega) (by omega), sum1]
    split <;> rfl
theorem impl_SumMore_l0 (s : ByteArray) (hs : s.size ≤ 140737488351232) : ∀ (l : List UInt8) (i : Nat) (x : Int), s.data.toList.drop i = l → i ≤ s.size → Ev (fun k => impl_SumMore.l0 k x s i) (sumMore x l) := by
  intro l
  induction l with
  | nil =>
    intro i x hl hi
    have := drop_none hl
    rw [sumMore_nil]
    refine Ev.step (f := fun _ => some x) (fun k => ?_) (Ev.now _)
    rw [impl_SumMore.l0, if_neg (by omega)]
  | cons c l ih =>
    intro i x hl hi
    obtain ⟨hb, hlt, hd⟩ := bt_drop hl
    refine Ev.step (f := fun k => impl_SumMore.l1 k (Go.bits .xor .u32 x ((c.toNat : Int) % 4294967296)) s i 0) (fun k => ?_) ?_
    · rw [impl_SumMore.l0, if_pos (by omega), if_pos (by omega), hb]
    · rw [sumMore_cons, feed]
      exact impl_SumMore_l1 s i (by omega) (by omega) _ 8 0 _ (by omega) (by omega) (ih (i + 1) _ hd (by omega))
theorem impl_SumMore_ev (x : Int) (s : ByteArray) (hs : s.size ≤ 140737488351232) : Ev (fun k => impl_SumMore.f k x s) (sumMore x s.data.toList) :=
  impl_SumMore_l0 s hs s.data.toList 0 x rfl (Nat.zero_le _)

theorem impl_SumOf_ev (s : ByteArray) (hs : s.size ≤ 140737488351232) : Ev (fun k => impl_SumOf.f k s) (sumOf s) := by
  unfold impl_SumOf.f
  exact Ev.bind (impl_SumMore_ev _ s hs) (Ev.now _)

theorem impl_Frame_ev (s : ByteArray) (hs : s.size ≤ 140737488351232) : Ev (fun k => impl_Frame.f k s) (frameOf s) := by
  unfold impl_Frame.f frameOf
  refine Ev.bind0 (impl_within_eq _ _ _) ?_
  by_cases h : 1 ≤ s.size ∧ s.size ≤ 9000
  · rw [if_pos h]
    refine Ev.pos (by rw [decide_eq_true_eq]; omega) ?_
    have hv := vl_len 2 s.size (by omega) (by omega)
    refine Ev.bind (impl_VarText_ev _) (Ev.bind (impl_SumOf_ev s hs) (Ev.bind0 (x := [(sumOf s / 16777216) % 256, (sumOf s / 65536) % 256, (sumOf s / 256) % 256, (sumOf s) % 256]) rfl ?_))
    rw [varText_yes (by omega) (by omega), Int.toNat_natCast]
    have e : strOfNums [(sumOf s / 16777216) % 256, (sumOf s / 65536) % 256, (sumOf s / 256) % 256, (sumOf s) % 256] = four (sumOf s) := rfl
    rw [e]
    refine Ev.pos (by rw [four_size, strOfNums_size]; omega) (Ev.pos (by rw [app_size, four_size, strOfNums_size]; omega) (Ev.now _))
  · rw [if_neg h]
    exact Ev.neg (by rw [decide_eq_true_eq]; omega) (Ev.now _)

theorem impl_Unframe_j1t (s : ByteArray) (acc : List ByteArray) (p n q : Int) : Ev (fun k => impl_Unframe.j1 k s acc p n q true) (acc, p) :=
  Ev.step (f := fun _ => some (acc, p)) (fun k => by rw [impl_Unframe.j1, if_pos rfl]) (Ev.now _)
theorem impl_Unframe_l0 (s : ByteArray) (hs : s.size ≤ 20000) : ∀ (f : Nat) (acc : List ByteArray) (p : Int), 0 ≤ p → p ≤ s.size → (s.size : Int) - p < f → (acc.length : Int) ≤ p →
    Ev (fun k => impl_Unframe.l0 k s acc p) (unfr f s acc p) := by
  intro f
  induction f with
  | zero => intro acc p h0 h1 h2 h3; omega
  | succ f ih =>
    intro acc p h0 h1 h2 h3
    unfold unfr
    refine Ev.succ ?_
    simp only [impl_Unframe.l0]
    refine Ev.bind (impl_ReadVar_ev s p (by omega)) ?_
    rcases readVar_cases s p with hr | ⟨n, m, hr, hn, hm, hp, hz, hl, hx⟩
    · rw [hr]
      exact Ev.tneg (fun h => absurd h.1 (by decide)) (Ev.neg (by decide) (impl_Unframe_j1t s acc p _ _))
    · rw [hr]
      dsimp only
      rw [w64 (n := (s.size : Int) - (p + (m : Int))) (by omega) (by omega), w64 (n := (s.size : Int) - (p + (m : Int)) - 4) (by omega) (by omega)]
      refine Ev.pos rfl ?_
      by_cases hc : (n : Int) ≤ (s.size : Int) - (p + (m : Int)) - 4
      · rw [show decide ((n : Int) > (s.size : Int) - (p + (m : Int)) - 4) = false from decide_eq_false (by omega)]
        refine Ev.succ ?_
        simp only [impl_Unframe.j1, w64 (n := p + (m : Int) + 4) (by omega) (by omega), w64 (n := p + (m : Int) + 4 + (n : Int)) (by omega) (by omega)]
        refine Ev.neg (by decide) (Ev.pos (by omega) (Ev.pos (by omega) (Ev.pos (by omega) (Ev.bind (impl_Frame_ev _ (by rw [ext_size _ _ _ (by omega)]; omega)) ?_))))
        by_cases hf : frameOf (s.extract (p + (m : Int) + 4).toNat (p + (m : Int) + 4 + (n : Int)).toNat) = (s.extract p.toNat (p + (m : Int) + 4 + (n : Int)).toNat, true)
        · refine Ev.tpos ⟨by trivial, hc, hf⟩ ?_
          rw [hf]
          refine Ev.pos rfl (Ev.pos (by omega) (Ev.pos (by omega) (Ev.pos rfl (Ev.pos (by omega) ?_))))
          exact ih _ _ (by omega) (by omega) (by omega) (by rw [List.length_append, List.length_singleton]; omega)
        · refine Ev.tneg (fun h => hf h.2.2) ?_
          by_cases h2 : (frameOf (s.extract (p + (m : Int) + 4).toNat (p + (m : Int) + 4 + (n : Int)).toNat)).2 = true
          · refine Ev.pos h2 (Ev.pos (by omega) (Ev.pos (by omega) (Ev.neg (fun he => hf ?_) (Ev.now _))))
            exact Prod.ext (toList_inj he) h2
          · exact Ev.neg h2 (Ev.now _)
      · rw [show decide ((n : Int) > (s.size : Int) - (p + (m : Int)) - 4) = true from decide_eq_true (by omega)]
        exact Ev.tneg (fun h => hc h.2.1) (impl_Unframe_j1t s acc p _ _)
theorem impl_Unframe_ev (s : ByteArray) : Ev (fun k => impl_Unframe.f k s) (unframe s) := by
  unfold impl_Unframe.f unframe
  by_cases h : s.size > 20000
  · rw [if_pos h]
    exact Ev.pos (by omega) (Ev.now _)
  · rw [if_neg h]
    exact Ev.neg (by omega) (impl_Unframe_l0 s (by omega) _ [] 0 (by omega) (by omega) (by omega) (by simp))

theorem impl_vars_l0 (l : List Int) (hr : ∀ a ∈ l, 0 ≤ a ∧ a ≤ 1000000000) (hl : l.length ≤ 1000) : ∀ (t : List Int) (i : Nat) (acc : List Int), l.drop i = t → i ≤ l.length → acc.length ≤ 5 * i →
    Ev (fun k => impl_vars.l0 k acc l (l.length : Int) (i : Int)) (strOfNums (acc ++ vlAll t), true) := by
  intro t
  induction t with
  | nil =>
    intro i acc ht hi ha
    have := List.drop_eq_nil_iff.1 ht
    rw [vlAll_nil, List.append_nil]
    refine Ev.step (f := fun _ => some (strOfNums acc, true)) (fun k => ?_) (Ev.now _)
    rw [impl_vars.l0, if_neg (by omega)]
  | cons a t ih =>
    intro i acc ht hi ha
    obtain ⟨h1, h2, h3⟩ := rd_drop ht
    have hin : 0 ≤ a ∧ a ≤ 1000000000 := hr a (List.mem_of_mem_drop (by rw [ht]; exact List.mem_cons_self))
    have hv := vl_len 5 a.toNat (by omega) (by omega)
    refine Ev.succ ?_
    simp only [impl_vars.l0, h1, w64 (n := (i : Int) + 1) (by omega) (by omega)]
    refine Ev.pos (by omega) (Ev.pos (by omega) (Ev.pos (by omega) (Ev.bind (impl_VarText_ev a) ?_)))
    rw [varText_yes hin.1 hin.2]
    refine Ev.pos rfl (Ev.pos (by rw [strOfNums_size]; omega) ?_)
    rw [bytesOf_nums _ (vl_range 5 a.toNat (by omega) (by omega)), vlAll_cons, ← List.append_assoc]
    exact ih (i + 1) (acc ++ vl a.toNat) h3 (by omega) (by rw [List.length_append]; omega)
theorem impl_vars_ev (l : List Int) (hr : ∀ a ∈ l, 0 ≤ a ∧ a ≤ 1000000000) (hl : l.length ≤ 1000) : Ev (fun k => impl_vars.f k l) (strOfNums (vlAll l), true) :=
  impl_vars_l0 l hr hl l 0 [] rfl (Nat.zero_le _) (Nat.le_refl _)

theorem impl_HeadText_no (n f : Int) (h : ¬ (0 ≤ n ∧ n ≤ 99 ∧ 0 ≤ f ∧ f ≤ n)) : Ev (fun k => impl_HeadText.j0 k n f true) (headText n f) := by
  refine Ev.step (f := fun _ => some noText) (fun k => by rw [impl_HeadText.j0, if_pos rfl]; rfl) ?_
  rw [headText, if_neg h]
  exact Ev.now _
theorem impl_HeadText_ev (n f : Int) : Ev (fun k => impl_HeadText.f k n f) (headText n f) := by
  unfold impl_HeadText.f
  refine Ev.bind0 (impl_within_eq _ _ _) ?_
  by_cases h : 0 ≤ n ∧ n ≤ 99
  · refine Ev.pos (by simpa using h) (Ev.bind0 (impl_within_eq _ _ _) ?_)
    by_cases h' : 0 ≤ f ∧ f ≤ n
    · rw [decide_eq_true h', headText, if_pos ⟨h.1, h.2, h'.1, h'.2⟩]
      refine Ev.succ ?_
      simp only [impl_HeadText.j0]
      have v1 := vl_len 1 n.toNat (by omega) (by omega)
      have v2 := vl_len 1 f.toNat (by omega) (by omega)
      have hz : (⟨#[72]⟩ : ByteArray).size = 1 := rfl
      refine Ev.neg (by decide) (Ev.bind (impl_vars_ev [n, f] (by intro a ha; simp at ha; omega) (by simp)) ?_)
      rw [show vlAll [n, f] = vl n.toNat ++ vl f.toNat from by rw [vlAll_cons, vlAll_cons, vlAll_nil, List.append_nil], strOfNums_append]
      refine Ev.pos (by rw [app_size, strOfNums_size, strOfNums_size]; omega) (Ev.bind (impl_Frame_ev _ (by rw [app_size, app_size, strOfNums_size, strOfNums_size]; omega)) (Ev.now _))
    · rw [decide_eq_false h']
      exact impl_HeadText_no n f (by omega)
  · refine Ev.neg (by simpa using h) (impl_HeadText_no n f (by omega))

namespace Bt

theorem rd_T100_drop {xs : List S100} {i : Nat} {a : S100} {t : List S100} (h : xs.drop i = a :: t) : rd_T100 xs (i : Int) = a ∧ i < xs.length ∧ xs.drop (i + 1) = t := rdOf_drop (d := z100) h
def elemOk (a : S100) : Bool := decide (1 ≤ (a.f0.size : Int) ∧ (a.f0.size : Int) ≤ 20) && (!decide ((a.f1.size : Int) > 2000) && (!a.f2 || decide (a.f1.toList = [])))
theorem Ev.gone {b : Bool} {c : Prop} [Decidable c] {f : Nat → Option Bool} {r : Bool} (e : Ev f r) : Ev (fun k => if b = true then (if c then f k else some false) else f k) ((!b || decide c) && r) := by
  cases b with
  | true => exact Ev.to (Ev.pos rfl (Ev.ifb e)) (by simp)
  | false => exact Ev.to (Ev.neg (by decide) e) (by simp)

/-- Elements, each right by itself, their keys ascending. -/
def chainOk : Option S100 → List S100 → Bool
  | _, [] => true
  | none, x :: l => elemOk x && chainOk (some x) l
  | some y, x :: l => elemOk x && Op.bytesLess y.f0.toList x.f0.toList && chainOk (some x) l
theorem chain_nil (o : Option S100) : chainOk o [] = true := by cases o <;> rfl
def ahead (l : List S100) (i : Nat) : Option S100 := if 0 < i then l[i - 1]? else none
theorem ahead_succ {l : List S100} {i : Nat} {a : S100} {t : List S100} (h : l.drop i = a :: t) : ahead l (i + 1) = some a := by
  unfold ahead
  rw [if_pos (by omega), Nat.add_sub_cancel]
  have := congrArg (fun z => z[0]?) h
  simpa using this
theorem rd_ahead {l : List S100} {i : Nat} (h : 0 < i) (hi : i ≤ l.length) : ahead l i = some (rd_T100 l ((i : Int) - 1)) := by
  unfold ahead
  rw [if_pos h]
  obtain ⟨j, rfl⟩ : ∃ j, i = j + 1 := ⟨i - 1, by omega⟩
  rw [Nat.add_sub_cancel, show ((j + 1 : Nat) : Int) - 1 = (j : Int) from by omega]
  have e : rd_T100 l (j : Int) = l[j] := rdOf_get (d := z100) (by omega)
  rw [e, List.getElem?_eq_getElem (by omega)]
theorem ahead_zero {l : List S100} {i : Nat} (h : ¬ 0 < i) : ahead l i = none := if_neg h

def batchOk (n : Int) (l : List S100) : Bool := decide (0 ≤ n ∧ n ≤ 1000000000) && decide (1 ≤ (l.length : Int) ∧ (l.length : Int) ≤ 40) && chainOk none l
theorem spec_BatchOk_l0 (n : Int) (l : List S100) (hl : l.length ≤ 1048576) : ∀ (t : List S100) (i : Nat), l.drop i = t → i ≤ l.length → Ev (fun k => spec_BatchOk.l0 k (i : Int) n l) (chainOk (ahead l i) t) := by
  intro t
  induction t with
  | nil =>
    intro i ht hi
    have := drop_nil_len ht
    exact Ev.step (f := fun _ => some true) (fun k => by rw [spec_BatchOk.l0, if_neg (by omega)]) (Ev.ret (chain_nil _).symm)
  | cons a t ih =>
    intro i ht hi
    obtain ⟨h1, h2, h3⟩ := rd_T100_drop ht
    have e := ih (i + 1) h3 (by omega)
    rw [ahead_succ ht, show ((i + 1 : Nat) : Int) = (i : Int) + 1 from by omega] at e
    refine Ev.succ ?_
    simp only [spec_BatchOk.l0, h1, w64 (n := (i : Int) + 1) (by omega) (by omega), w64 (n := (i : Int) - 1) (by omega) (by omega)]
    refine Ev.pos (by omega) (Ev.pos (by omega) ?_)
    by_cases c4 : 0 < i
    · refine Ev.to (Ev.bool (spec_l01In_eq _ _ _) (Ev.pos (by omega) (Ev.pos (by omega) (Ev.pos (by omega) (Ev.ifbb (Ev.ifn (Ev.gone e))))))) ?_
      rw [rd_ahead c4 hi, chainOk, elemOk]
      ac_rfl
    · refine Ev.to (Ev.bool (spec_l01In_eq _ _ _) (Ev.neg (by omega) (Ev.ifn (Ev.gone e)))) ?_
      rw [ahead_zero c4, chainOk, elemOk]
      ac_rfl
theorem spec_BatchOk_ev (n : Int) (l : List S100) (hl : l.length ≤ 1048576) : Ev (fun k => spec_BatchOk.f k n l) (batchOk n l) := by
  have hno : ∀ r : Bool, r = false → Ev (fun k => spec_BatchOk.j0 k true n l) r := fun r hr => by
    subst hr
    exact Ev.step (f := fun _ => some false) (fun k => by rw [spec_BatchOk.j0, if_pos rfl]) (Ev.now _)
  unfold spec_BatchOk.f batchOk
  refine Ev.bind0 (spec_l01In_eq _ _ _) ?_
  by_cases c1 : 0 ≤ n ∧ n ≤ 1000000000
  · refine Ev.pos (decide_eq_true c1) (Ev.bind0 (spec_l01In_eq _ _ _) ?_)
    rw [decide_eq_true c1, Bool.true_and]
    by_cases c2 : 1 ≤ (l.length : Int) ∧ (l.length : Int) ≤ 40
    · rw [decide_eq_true c2, Bool.true_and]
      exact Ev.step (fun k => by rw [Bool.not_true, spec_BatchOk.j0, if_neg (by decide)]; rfl) (spec_BatchOk_l0 n l hl l 0 rfl (Nat.zero_le _))
    · rw [decide_eq_false c2]
      exact hno _ rfl
  · exact Ev.neg (by simpa using c1) (hno _ (by rw [decide_eq_false c1]; rfl))

theorem chain_all : ∀ (l : List S100) (o : Option S100), chainOk o l = true → ∀ x ∈ l, elemOk x = true := by
  intro l
  induction l with
  | nil => intro _ _ x hx; cases hx
  | cons a t ih =>
    intro o h x hx
    have h2 : elemOk a = true ∧ chainOk (some a) t = true := by
      cases o with
      | none => rw [chainOk, Bool.and_eq_true] at h; exact h
      | some y => rw [chainOk, Bool.and_eq_true, Bool.and_eq_true] at h; exact ⟨h.1.1, h.2⟩
    rcases List.mem_cons.1 hx with rfl | hx
    · exact h2.1
    · exact ih _ h2.2 x hx
theorem bytesOf_app (a b : ByteArray) : bytesOf (a ++ b) = bytesOf a ++ bytesOf b := by
  unfold bytesOf
  rw [app_data, List.map_append]
theorem str_bytes (s : ByteArray) : strOfNums (bytesOf s) = s := strOfNums_eq rfl

def shortB (s : ByteArray) : ByteArray := strOfNums (vl s.size) ++ s
theorem shortB_size (s : ByteArray) : (shortB s).size = (vl s.size).length + s.size := by rw [shortB, app_size, strOfNums_size]
theorem short_len {s : ByteArray} (h : s.size ≤ 1048576) : (vl s.size).length ≤ 3 := vl_len 3 s.size (by omega) (by omega)
theorem spec_l05Short_ev (s : ByteArray) (h : s.size ≤ 1048576) : Ev (fun k => spec_l05Short.f k s) (shortB s) := by
  unfold spec_l05Short.f
  refine Ev.bind (spec_l01Var_ev (by omega) (by omega)) ?_
  rw [Int.toNat_natCast]
  have := short_len h
  exact Ev.pos (by rw [strOfNums_size]; omega) (Ev.now _)

def flagB (b : Bool) : ByteArray := if b = true then (⟨#[1]⟩ : ByteArray) else (⟨#[0]⟩ : ByteArray)
theorem flagB_size (b : Bool) : (flagB b).size = 1 := by cases b <;> rfl
theorem spec_l05Flag_eq (b : Bool) : spec_l05Flag.f b = some (flagB b) := by cases b <;> rfl
def changeB (x : S100) : ByteArray := (shortB x.f0 ++ flagB x.f2) ++ shortB x.f1
theorem changeB_size (x : S100) : (changeB x).size = (vl x.f0.size).length + x.f0.size + 1 + ((vl x.f1.size).length + x.f1.size) := by
  rw [changeB, app_size, app_size, shortB_size, shortB_size, flagB_size]
def addChanges (acc : ByteArray) (l : List S100) : ByteArray := l.foldl (fun a x => a ++ changeB x) acc
def batchHead (n : Int) (c : Nat) : ByteArray := (⟨#[66]⟩ : ByteArray) ++ (strOfNums (vl n.toNat) ++ strOfNums (vl c))
theorem one_size : (⟨#[66]⟩ : ByteArray).size = 1 := rfl
theorem batchHead_size (n : Int) (c : Nat) : (batchHead n c).size = 1 + ((vl n.toNat).length + (vl c).length) := by
  rw [batchHead, app_size, app_size, strOfNums_size, strOfNums_size, one_size]
def cutText (s : ByteArray) : ByteArray × Bool := if (s.size : Int) > 9000 then noText else (s, true)
def batchText (n : Int) (l : List S100) : ByteArray × Bool := if batchOk n l = true then cutText (addChanges (batchHead n l.length) l) else noText
theorem batchOk_facts {n : Int} {l : List S100} (h : batchOk n l = true) : 0 ≤ n ∧ n ≤ 1000000000 ∧ l.length ≤ 40 ∧ ∀ x ∈ l, x.f0.size ≤ 20 ∧ x.f1.size ≤ 2000 := by
  unfold batchOk at h
  rw [Bool.and_eq_true, Bool.and_eq_true, decide_eq_true_eq, decide_eq_true_eq] at h
  obtain ⟨⟨h1, h2⟩, h3⟩ := h
  refine ⟨h1.1, h1.2, by omega, fun x hx => ?_⟩
  have he := chain_all l none h3 x hx
  unfold elemOk at he
  rw [Bool.and_eq_true, Bool.and_eq_true, decide_eq_true_eq, Bool.not_eq_true', decide_eq_false_iff_not] at he
  exact ⟨by omega, by omega⟩
theorem spec_BatchText_l0 (n : Int) (l : List S100) (hl : l.length ≤ 40) (hf : ∀ x ∈ l, x.f0.size ≤ 20 ∧ x.f1.size ≤ 2000) : ∀ (t : List S100) (i : Nat) (acc : ByteArray), l.drop i = t → i ≤ l.length → acc.size ≤ 1000 + 2100 * i →
    Ev (fun k => spec_BatchText.l0 k (bytesOf acc) (i : Int) n l) (cutText (addChanges acc t)) := by
  intro t
  induction t with
  | nil =>
    intro i acc ht hi hz
    have := drop_nil_len ht
    refine Ev.step (f := fun _ => some (cutText acc)) (fun k => ?_) (Ev.now _)
    rw [spec_BatchText.l0, if_neg (by omega), bytesOf_length, str_bytes, cutText]
    by_cases h : (acc.size : Int) > 9000
    · rw [if_pos h, if_pos h]; rfl
    · rw [if_neg h, if_neg h]
  | cons x t ih =>
    intro i acc ht hi hz
    obtain ⟨h1, h2, h3⟩ := rd_T100_drop ht
    have hx := hf x (List.mem_of_mem_drop (by rw [ht]; exact List.mem_cons_self))
    have hv := vl_len 1 x.f0.size (by omega) (by omega)
    have hv2 := vl_len 2 x.f1.size (by omega) (by omega)
    have hc := changeB_size x
    have e := ih (i + 1) (acc ++ changeB x) h3 (by omega) (by rw [app_size]; omega)
    rw [show ((i + 1 : Nat) : Int) = (i : Int) + 1 from by omega, bytesOf_app] at e
    refine Ev.succ ?_
    simp only [spec_BatchText.l0, h1, w64 (n := (i : Int) + 1) (by omega) (by omega)]
    refine Ev.pos (by omega) (Ev.pos (by omega) (Ev.bind (spec_l05Short_ev x.f0 (by omega)) (Ev.bind0 (spec_l05Flag_eq _) (Ev.pos (by rw [shortB_size, flagB_size]; omega) (Ev.bind (spec_l05Short_ev x.f1 (by omega)) ?_)))))
    refine Ev.pos (by rw [app_size, shortB_size, shortB_size, flagB_size]; omega) (Ev.pos (by show (changeB x).size < _; omega) (Ev.bind0 rfl (Ev.pos ?_ e)))
    rw [bytesOf_length]
    show _ + (bytesOf (changeB x)).length < _
    rw [bytesOf_length]
    omega
theorem spec_BatchText_ev (n : Int) (l : List S100) (hl : l.length ≤ 1048576) : Ev (fun k => spec_BatchText.f k n l) (batchText n l) := by
  unfold spec_BatchText.f batchText
  refine Ev.bind (spec_BatchOk_ev n l hl) ?_
  cases hv : batchOk n l with
  | false => exact Ev.neg (by decide) (Ev.tneg (by decide) (Ev.now _))
  | true =>
    obtain ⟨f1, f2, f3, f4⟩ := batchOk_facts hv
    have v1 := vl_len 5 n.toNat (by omega) (by omega)
    have v2 := vl_len 1 l.length (by omega) (by omega)
    have hh := batchHead_size n l.length
    have e := spec_BatchText_l0 n l f3 f4 l 0 (batchHead n l.length) rfl (Nat.zero_le _) (by omega)
    refine Ev.pos (by trivial) (Ev.tpos (by trivial) (Ev.bind (spec_l01Var_ev f1 (by omega)) ?_))
    refine Ev.pos (by rw [strOfNums_size]; omega) (Ev.bind (spec_l01Var_ev (by omega) (by omega)) ?_)
    rw [Int.toNat_natCast]
    refine Ev.pos (by rw [app_size, strOfNums_size, strOfNums_size, one_size]; omega) ?_
    refine Ev.pos (by rw [app_size, app_size, strOfNums_size, strOfNums_size, one_size]; omega) ?_
    rw [show (((⟨#[66]⟩ : ByteArray) ++ strOfNums (vl n.toNat)) ++ strOfNums (vl l.length)) = batchHead n l.length from ByteArray.append_assoc]
    exact e

end Bt

def decText (n : Nat) : ByteArray := ⟨(Lib.decDigits n).toArray⟩
theorem decText_data (n : Nat) : (decText n).data.toList = Lib.decDigits n := by simp [decText]
theorem digit_text (n : Nat) (h : n < 10) : strOfNums [((48 + n : Nat) : Int)] = ⟨#[UInt8.ofNat (48 + n)]⟩ := by
  apply ba_ext
  rw [strOfNums_data]
  show [UInt8.ofNat (((48 + n : Nat) : Int)).toNat] = _
  rw [Int.toNat_natCast]
theorem spec_l01Figure_eq (n : Nat) (h : n < 10) : spec_l01Figure.f (n : Int) = some ((48 + n : Nat) : Int) := by
  unfold spec_l01Figure.f
  rw [if_pos (by omega), w64 (by omega) (by omega)]
  congr 1
  omega
theorem decText_small {n : Nat} (h : n < 10) : decText n = strOfNums [((48 + n : Nat) : Int)] := by
  rw [digit_text n h]
  apply ba_ext
  rw [decText_data, Lib.decDigits, dif_pos h]
theorem decText_big {n : Nat} (h : ¬ n < 10) : decText n = decText (n / 10) ++ strOfNums [((48 + n % 10 : Nat) : Int)] := by
  rw [digit_text (n % 10) (by omega)]
  apply ba_ext
  rw [app_data, decText_data, decText_data, Lib.decDigits, dif_neg h]
theorem spec_Decimal_l0 : ∀ (n : Nat) (acc : ByteArray), 0 < n → n < 4611686018427387904 → acc.size + n < 9223372036854775807 → Ev (fun k => spec_Decimal.l0 k (n : Int) false acc) (decText n ++ acc) := by
  intro n
  induction n using Nat.strongRecOn with
  | _ n ih =>
    intro acc h0 h1 h2
    have hz : (strOfNums [((48 + n % 10 : Nat) : Int)]).size = 1 := by rw [strOfNums_size, List.length_singleton]
    refine Ev.succ ?_
    simp only [spec_Decimal.l0]
    rw [tmodp (by omega), tdivp (by omega), w64 (n := (n : Int) / 10) (by omega) (by omega), show (n : Int) % 10 = ((n % 10 : Nat) : Int) from by omega, show (n : Int) / 10 = ((n / 10 : Nat) : Int) from by omega]
    refine Ev.neg (by omega) (Ev.neg (by omega) (Ev.bind0 (spec_l01Figure_eq (n % 10) (by omega)) (Ev.bind0 rfl (Ev.pos (by rw [hz]; omega) ?_))))
    by_cases hs : n < 10
    · rw [show n / 10 = 0 from by omega, show n % 10 = n from by omega, decText_small hs]
      exact Ev.step (f := fun _ => some (strOfNums [((48 + n : Nat) : Int)] ++ acc)) (fun k => by rw [spec_Decimal.l0, if_pos (by omega), if_neg (by decide)]) (Ev.now _)
    · rw [decText_big hs, ByteArray.append_assoc]
      exact ih (n / 10) (by omega) _ (by omega) (by omega) (by rw [app_size, hz]; omega)
theorem spec_Decimal_nat (n : Nat) (h : n < 4611686018427387904) : Ev (fun k => spec_Decimal.f k (n : Int)) (decText n) := by
  unfold spec_Decimal.f
  by_cases h0 : n = 0
  · subst h0
    rw [decText_small (by omega)]
    exact Ev.pos (by omega) (Ev.ret rfl)
  · rw [show decide ((n : Int) < 0) = false from decide_eq_false (by omega)]
    have e := spec_Decimal_l0 n (⟨#[]⟩ : ByteArray) (by omega) h (by rw [show (⟨#[]⟩ : ByteArray).size = 0 from rfl]; omega)
    rw [show decText n ++ (⟨#[]⟩ : ByteArray) = decText n from by apply ba_ext; rw [app_data]; simp] at e
    exact Ev.neg (by omega) e
theorem decText_len (n : Nat) (h : n < 100) : (decText n).size ≤ 2 := by
  have h1 : ∀ m : Nat, m < 10 → (decText m).size = 1 := fun m hm => by rw [decText_small hm, strOfNums_size, List.length_singleton]
  by_cases hs : n < 10
  · rw [h1 n hs]; omega
  · rw [decText_big hs, app_size, h1 _ (by omega), strOfNums_size, List.length_singleton]; omega

def itoaText (a : Int) : ByteArray := ⟨(Lib.itoa a).toArray⟩
theorem impl_Decimal_eq (a : Int) (h0 : -9223372036854775808 ≤ a) (h1 : a ≤ 9223372036854775807) : impl_Decimal.f a = some (itoaText a) := by
  unfold impl_Decimal.f
  rw [if_pos h0, if_pos h1]; rfl

def dig : Nat → List UInt8 → Option Nat
  | acc, [] => some acc
  | acc, c :: r => if 48 ≤ c.toNat ∧ c.toNat ≤ 57 then dig (10 * acc + (c.toNat - 48)) r else none
theorem dig_append : ∀ (l : List UInt8) (acc : Nat) (r : List UInt8), dig acc (l ++ r) = (dig acc l).bind fun m => dig m r
  | [], acc, r => rfl
  | c :: l, acc, r => by
    rw [List.cons_append, dig, dig]
    split
    · exact dig_append l _ r
    · rfl
theorem dig_digits : ∀ (n : Nat), dig 0 (Lib.decDigits n) = some n := by
  intro n
  induction n using Nat.strongRecOn with
  | _ n ih =>
    have hc : ∀ d, d < 10 → (UInt8.ofNat (48 + d)).toNat = 48 + d := fun d hd => by rw [UInt8.toNat_ofNat']; omega
    rw [Lib.decDigits]
    by_cases h : n < 10
    · rw [dif_pos h, dig, hc n h, if_pos (by omega), dig]; congr 1; omega
    · rw [dif_neg h, dig_append, ih (n / 10) (by omega), Option.bind_some, dig, hc _ (by omega), if_pos (by omega), dig]; congr 1; omega
theorem dig_le : ∀ (l : List UInt8) (acc n : Nat), dig acc l = some n → acc ≤ n
  | [], acc, n, h => by rw [dig] at h; injection h with h; omega
  | c :: l, acc, n, h => by
    rw [dig] at h
    split at h
    · have := dig_le l _ n h; omega
    · cases h
theorem parse_dig : ∀ (l : List UInt8) (acc n : Nat), dig acc l = some n → n < 1000000000000 → Lib.parseUint10 acc l = .ok n
  | [], acc, n, h, _ => by rw [dig] at h; injection h with h; rw [Lib.parseUint10, h]
  | c :: l, acc, n, h, hb => by
    rw [dig] at h
    split at h
    · rename_i hc
      have := dig_le l _ n h
      rw [Lib.parseUint10, if_pos hc, if_neg (by omega), if_neg (by omega), Nat.mul_comm acc 10]
      exact parse_dig l _ n h hb
    · cases h
theorem atoi_digits (n : Nat) (h : n ≤ 1000000000) : Lib.atoiAll (Lib.decDigits n) = .ok (n : Int) := by
  have hd := dig_digits n
  have hp := parse_dig _ 0 n hd (by omega)
  cases hl : Lib.decDigits n with
  | nil => exact absurd hl (by rw [Lib.decDigits]; split <;> simp)
  | cons c r =>
    rw [hl] at hd hp
    rw [dig] at hd
    have hc : 48 ≤ c.toNat ∧ c.toNat ≤ 57 := by
      by_cases hc : 48 ≤ c.toNat ∧ c.toNat ≤ 57
      · exact hc
      · rw [if_neg hc] at hd; cases hd
    unfold Lib.atoiAll
    dsimp only
    rw [if_neg (show ¬ (c.toNat = 43 ∨ c.toNat = 45) by omega), Lib.parseMag, if_neg (List.cons_ne_nil _ _), hp]
    dsimp only
    rw [if_neg (by omega), if_neg (by omega), if_neg (by omega)]
theorem decText_len_le : ∀ (L n : Nat), n < 10 ^ (L + 1) → (decText n).size ≤ L + 1 := by
  intro L
  induction L with
  | zero => intro n h; rw [decText_small (by simpa using h), strOfNums_size, List.length_singleton]; omega
  | succ L ih =>
    intro n h
    by_cases hs : n < 10
    · rw [decText_small hs, strOfNums_size, List.length_singleton]; omega
    · have := ih (n / 10) (by rw [Nat.pow_succ] at h; omega)
      rw [decText_big hs, app_size, strOfNums_size, List.length_singleton]; omega
def finRead (a : ByteArray) (o : Option Nat) : Int × Bool := match o with
  | some n => if n ≤ 1000000000 ∧ decText n = a then ((n : Int), true) else (0, false)
  | none => (0, false)
theorem finRead_some (a : ByteArray) (n : Nat) : finRead a (some n) = if n ≤ 1000000000 ∧ decText n = a then ((n : Int), true) else (0, false) := rfl
def readDec (a : ByteArray) : Int × Bool := finRead a (if a.size ≤ 10 then dig 0 a.data.toList else none)
theorem itoaText_nat (n : Nat) : itoaText (n : Int) = decText n := by unfold itoaText decText; rw [Lib.itoa_nonneg]
theorem impl_ReadDecimal_eq (a : ByteArray) (hs : a.size ≤ 281474976710656) : impl_ReadDecimal.f a = some (readDec a) := by
  unfold impl_ReadDecimal.f
  rw [if_pos hs]
  by_cases hx : ∃ n : Nat, n ≤ 1000000000 ∧ decText n = a
  · obtain ⟨n, hn, rfl⟩ := hx
    have hl := decText_len_le 9 n (by omega)
    unfold readDec
    rw [if_pos (by omega), decText_data, atoi_digits n hn, dig_digits n]
    dsimp only
    rw [show (⟨(Lib.itoa (n : Int)).toArray⟩ : ByteArray) = decText n from itoaText_nat n, if_pos rfl, if_pos (by omega)]
    rw [finRead_some, if_pos ⟨hn, rfl⟩]
  · have hf : readDec a = (0, false) := by
      unfold readDec finRead
      split
      · rw [if_neg (fun h => hx ⟨_, h⟩)]
      · rfl
    rw [hf]
    split
    · rename_i v hv
      by_cases e : (⟨(Lib.itoa v).toArray⟩ : ByteArray).toList = a.toList
      · rw [if_pos e]
        by_cases g : 0 ≤ v ∧ v ≤ 1000000000
        · obtain ⟨n, rfl⟩ := Int.eq_ofNat_of_zero_le g.1
          exact absurd ⟨n, by omega, (itoaText_nat n).symm.trans (toList_inj e)⟩ hx
        · rw [if_neg g]
      · rw [if_neg e]
    · rfl

theorem laws_eqIntS_l0 (l : List Int) (hl : l.length ≤ 1048576) : ∀ (t : List Int) (i : Nat), l.drop i = t → i ≤ l.length → Ev (fun k => laws_eqIntS.l0 k l l (i : Int)) true := by
  intro t
  induction t with
  | nil =>
    intro i ht hi
    have := List.drop_eq_nil_iff.1 ht
    exact Ev.step (f := fun _ => some true) (fun k => by rw [laws_eqIntS.l0, if_neg (by omega)]) (Ev.now _)
  | cons a t ih =>
    intro i ht hi
    obtain ⟨h1, h2, h3⟩ := rd_drop ht
    refine Ev.step (fun k => ?_) (ih (i + 1) h3 (by omega))
    rw [laws_eqIntS.l0, if_pos (by omega), if_pos (by omega), if_pos (by omega), if_pos rfl, w64 (by omega) (by omega)]
    rfl
theorem laws_eqIntS_ev (l : List Int) (hl : l.length ≤ 1048576) : Ev (fun k => laws_eqIntS.f k l l) true := by
  unfold laws_eqIntS.f
  exact Ev.pos rfl (laws_eqIntS_l0 l hl l 0 rfl (Nat.zero_le _))

theorem laws_markText_l0 : ∀ (n : Nat) (acc : ByteArray), acc.size + n < 4611686018427387904 → Ev (fun k => laws_markText.l0 k (n : Int) acc) (mtl n acc) := by
  intro n
  induction n using Nat.strongRecOn with
  | _ n ih =>
    intro acc h
    by_cases hn : 0 < n
    · rw [mtl_pos hn]
      refine Ev.succ ?_
      simp only [laws_markText.l0]
      rw [tmodp (by omega), tdivp (by omega), w64 (n := 48 + (n : Int) % 10) (by omega) (by omega), w64 (n := (n : Int) / 10) (by omega) (by omega), show (48 + (n : Int) % 10) % 256 = ((48 + n % 10 : Nat) : Int) from by omega, show (n : Int) / 10 = ((n / 10 : Nat) : Int) from by omega]
      refine Ev.pos (by omega) (Ev.bind0 rfl (Ev.pos (by rw [strOfNums_size, List.length_singleton]; omega) ?_))
      exact ih (n / 10) (by omega) _ (by rw [app_size, strOfNums_size, List.length_singleton]; omega)
    · obtain rfl : n = 0 := by omega
      rw [mtl_zero]
      exact Ev.step (f := fun _ => some ((⟨#[109]⟩ : ByteArray) ++ acc)) (fun k => by rw [laws_markText.l0, if_neg (by omega), if_pos (by omega)]) (Ev.now _)
theorem laws_markText_ev {n : Nat} (h : 0 < n) (h' : n < 4611686018427387904) : Ev (fun k => laws_markText.f k (n : Int)) (mt n) := by
  unfold laws_markText.f
  exact Ev.neg (by omega) (laws_markText_l0 n _ (by rw [show (⟨#[]⟩ : ByteArray).size = 0 from rfl]; omega))

def marksF : Nat → Nat → List S46
  | _, 0 => []
  | a, m + 1 => ⟨mt a, mt (a + 1), ((a + 2 : Nat) : Int)⟩ :: marksF (a + 3) m
theorem marksF_length : ∀ (m a : Nat), (marksF a m).length = m := by
  intro m
  induction m with
  | zero => intro a; rfl
  | succ m ih => intro a; rw [marksF, List.length_cons, ih]
theorem rd_set {xs : List S46} {i : Nat} (h : i < xs.length) (v : S46) : rd_T46 (xs.set i v) (i : Int) = v := by
  unfold rd_T46
  rw [Int.toNat_natCast, List.getD_eq_getElem?_getD, List.getElem?_set_self h]
  rfl
theorem laws_markFileS_l0 : ∀ (d i a : Nat) (xs : List S46), xs.length = i + d → xs.length ≤ 1048576 → 0 < a → a + 3 * d < 4611686018427387904 → Ev (fun k => laws_markFileS.l0 k xs (a : Int) (i : Int)) (((a + 3 * d : Nat) : Int), xs.take i ++ marksF a d) := by
  intro d
  induction d with
  | zero =>
    intro i a xs hx hb ha hz
    refine Ev.step (f := fun _ => some ((a : Int), xs)) (fun k => by rw [laws_markFileS.l0, if_neg (by omega)]) (Ev.ret ?_)
    rw [List.take_of_length_le (by omega), marksF, List.append_nil, Nat.mul_zero, Nat.add_zero]
  | succ d ih =>
    intro i a xs hx hb ha hz
    have hi : i < xs.length := by omega
    have e := ih (i + 1) (a + 3) (xs.set i ⟨mt a, mt (a + 1), ((a + 2 : Nat) : Int)⟩) (by rw [List.length_set]; omega) (by rw [List.length_set]; omega) (by omega) (by omega)
    rw [take_set_snoc _ _ _ hi, List.append_assoc, show a + 3 + 3 * d = a + 3 * (d + 1) from by omega, show ((i + 1 : Nat) : Int) = (i : Int) + 1 from by omega, show ((a + 3 : Nat) : Int) = (a : Int) + 1 + 1 + 1 from by omega] at e
    refine Ev.succ ?_
    simp only [laws_markFileS.l0, w64 (n := (i : Int) + 1) (by omega) (by omega), w64 (n := (a : Int) + 1) (by omega) (by omega), w64 (n := (a : Int) + 1 + 1) (by omega) (by omega), w64 (n := (a : Int) + 1 + 1 + 1) (by omega) (by omega), Int.toNat_natCast]
    refine Ev.pos (by omega) (Ev.bind (laws_markText_ev ha (by omega)) (Ev.pos (by omega) (Ev.bind0 rfl ?_)))
    have m1 := laws_markText_ev (n := a + 1) (by omega) (by omega)
    rw [show ((a + 1 : Nat) : Int) = (a : Int) + 1 from by omega] at m1
    refine Ev.bind m1 (Ev.bind0 rfl ?_)
    simp only [List.set_set, rd_set hi]
    rw [show ((a + 2 : Nat) : Int) = (a : Int) + 1 + 1 from by omega] at e
    rw [marksF, show ((a + 2 : Nat) : Int) = (a : Int) + 1 + 1 from by omega]
    exact e
theorem laws_markDisk_ev (xs : List S46) (hb : xs.length ≤ 1048576) : Ev (fun k => laws_markDisk.f k xs 1) (((1 + 3 * xs.length : Nat) : Int), marksF 1 xs.length) := by
  unfold laws_markDisk.f laws_markFileS.f
  exact Ev.bind (laws_markFileS_l0 xs.length 0 1 xs (by omega) hb (by omega) (by omega)) (Ev.now _)

/-! readers of a text -/
def cv (s : ByteArray) (p : Int) (b : Bool) : Int × ByteArray × Int × Bool := if b = true then (0, s, p, true) else (if (readVar s p).2.2 = true then ((readVar s p).1, s, (readVar s p).2.1, false) else (0, s, p, true))
theorem spec_l05Var_ev (s : ByteArray) (p : Int) (b : Bool) (hs : s.size ≤ 140737488351232) : Ev (fun k => spec_l05Var.f k s p b) (cv s p b) := by
  unfold spec_l05Var.f
  refine Ev.bind (spec_ReadVar_ev s p hs) ?_
  unfold cv
  by_cases h : b = true
  · exact Ev.pos h (Ev.tpos h (Ev.now _))
  · by_cases h2 : (readVar s p).2.2 = true
    · exact Ev.neg h (Ev.tneg h (Ev.pos h2 (Ev.tpos h2 (Ev.now _))))
    · exact Ev.neg h (Ev.tneg h (Ev.neg h2 (Ev.tneg h2 (Ev.now _))))
theorem impl_reader_num_ev (s : ByteArray) (p : Int) (b : Bool) (hs : s.size ≤ 140737488351232) : Ev (fun k => impl_reader_num.f k s p b) (cv s p b) := by
  unfold impl_reader_num.f
  refine Ev.bind (impl_ReadVar_ev s p hs) ?_
  unfold cv
  by_cases h : b = true
  · exact Ev.pos h (Ev.tpos h (Ev.now _))
  · by_cases h2 : (readVar s p).2.2 = true
    · exact Ev.neg h (Ev.tneg h (Ev.pos h2 (Ev.tpos h2 (Ev.now _))))
    · exact Ev.neg h (Ev.tneg h (Ev.neg h2 (Ev.tneg h2 (Ev.now _))))
theorem cv_facts (s : ByteArray) (p : Int) (b : Bool) (h0 : 0 ≤ p) (h1 : p ≤ s.size) : (cv s p b).2.1 = s ∧ 0 ≤ (cv s p b).2.2.1 ∧ (cv s p b).2.2.1 ≤ s.size ∧ 0 ≤ (cv s p b).1 ∧ (cv s p b).1 ≤ 1000000000 := by
  unfold cv
  split
  · exact ⟨rfl, h0, h1, Int.le_refl _, by show (0 : Int) ≤ 1000000000; decide⟩
  · split
    · rename_i h2
      rcases readVar_cases s p with h | ⟨n, m, h, hn, hm, hp, hz, _⟩
      · rw [h] at h2; cases h2
      · rw [h]
        exact ⟨rfl, by show 0 ≤ p + (m : Int); omega, by show p + (m : Int) ≤ _; omega, by show 0 ≤ (n : Int); omega, by show (n : Int) ≤ _; omega⟩
    · exact ⟨rfl, h0, h1, Int.le_refl _, by show (0 : Int) ≤ 1000000000; decide⟩
def tk (s : ByteArray) (p : Int) (b : Bool) (n : Int) : ByteArray × ByteArray × Int × Bool := if b = true then ((⟨#[]⟩ : ByteArray), s, p, true) else (if n > (s.size : Int) - p then ((⟨#[]⟩ : ByteArray), s, p, true) else (s.extract p.toNat (p + n).toNat, s, p + n, false))
theorem spec_l05Take_eq (s : ByteArray) (p : Int) (b : Bool) (n : Int) (hs : s.size ≤ 140737488351232) (h0 : 0 ≤ p) (h1 : p ≤ s.size) (n0 : 0 ≤ n) (n1 : n ≤ 1000000000) : spec_l05Take.f s p b n = some (tk s p b n) := by
  unfold spec_l05Take.f tk
  rw [w64 (n := (s.size : Int) - p) (by omega) (by omega), w64 (n := p + n) (by omega) (by omega), w64 (n := p + n - n) (by omega) (by omega)]
  cases b with
  | true => rfl
  | false =>
    rw [if_neg Bool.false_ne_true, if_neg (c := false = true) Bool.false_ne_true]
    by_cases h : n > (s.size : Int) - p
    · rw [if_pos h, if_pos h]
    · rw [if_neg h, if_neg h, if_pos (by omega), if_pos (by omega), if_pos (by omega), show p + n - n = p by omega]
theorem tk_facts (s : ByteArray) (p : Int) (b : Bool) (n : Int) (h0 : 0 ≤ p) (h1 : p ≤ s.size) (n0 : 0 ≤ n) : (tk s p b n).2.1 = s ∧ 0 ≤ (tk s p b n).2.2.1 ∧ (tk s p b n).2.2.1 ≤ s.size := by
  unfold tk
  split
  · exact ⟨rfl, h0, h1⟩
  · split
    · exact ⟨rfl, h0, h1⟩
    · exact ⟨rfl, by show 0 ≤ p + n; omega, by show p + n ≤ _; omega⟩
theorem spec_l05ReadShort_ev (s : ByteArray) (p : Int) (b : Bool) (hs : s.size ≤ 140737488351232) (h0 : 0 ≤ p) (h1 : p ≤ s.size) : ∃ t q c, Ev (fun k => spec_l05ReadShort.f k s p b) (t, s, q, c) ∧ 0 ≤ q ∧ q ≤ s.size := by
  obtain ⟨f1, f2, f3, f4, f5⟩ := cv_facts s p b h0 h1
  have e := spec_l05Take_eq s (cv s p b).2.2.1 (cv s p b).2.2.2 (cv s p b).1 hs f2 f3 f4 f5
  obtain ⟨g1, g2, g3⟩ := tk_facts s (cv s p b).2.2.1 (cv s p b).2.2.2 (cv s p b).1 f2 f3 f4
  refine ⟨(tk s (cv s p b).2.2.1 (cv s p b).2.2.2 (cv s p b).1).1, _, (tk s (cv s p b).2.2.1 (cv s p b).2.2.2 (cv s p b).1).2.2.2, ?_, g2, g3⟩
  unfold spec_l05ReadShort.f
  refine Ev.bind (spec_l05Var_ev s p b hs) ?_
  rw [f1]
  refine Ev.bind0 e (Ev.ret ?_)
  rw [g1]

/-! a batch is read to an end, whatever the text -/
theorem spec_ReadBatch_fin (s : ByteArray) (n i : Int) (t : ByteArray) (p : Int) (b : Bool) (q : Int) (l : List S100) (hl : l.length ≤ 1048576) : ∃ r, Ev (fun k => spec_ReadBatch.j1 k s n i false t p b q l) r := by
  have e := Bt.spec_BatchText_ev q l hl
  by_cases h1 : b = true
  · refine ⟨(0, ([] : List S100), false), Ev.succ ?_⟩
    simp only [spec_ReadBatch.j1]
    exact Ev.neg Bool.false_ne_true (Ev.bind e (Ev.pos h1 (Ev.now _)))
  · by_cases h2 : (Bt.batchText q l).2 = true
    · by_cases h3 : (Bt.batchText q l).1.toList = s.toList
      · refine ⟨(q, l, true), Ev.succ ?_⟩
        simp only [spec_ReadBatch.j1]
        exact Ev.neg Bool.false_ne_true (Ev.bind e (Ev.neg h1 (Ev.pos h2 (Ev.pos h3 (Ev.now _)))))
      · refine ⟨(0, ([] : List S100), false), Ev.succ ?_⟩
        simp only [spec_ReadBatch.j1]
        exact Ev.neg Bool.false_ne_true (Ev.bind e (Ev.neg h1 (Ev.pos h2 (Ev.neg h3 (Ev.now _)))))
    · refine ⟨(0, ([] : List S100), false), Ev.succ ?_⟩
      simp only [spec_ReadBatch.j1]
      exact Ev.neg Bool.false_ne_true (Ev.bind e (Ev.neg h1 (Ev.neg h2 (Ev.now _))))
theorem spec_ReadBatch_l0 (s0 s : ByteArray) (hs : s.size ≤ 140737488351232) (n : Int) : ∀ (d i : Nat) (p : Int) (b : Bool) (q : Int) (l : List S100), i + d = 100 → 0 ≤ p → p ≤ s.size → l.length ≤ i → ∃ r, Ev (fun k => spec_ReadBatch.l0 k s0 n (i : Int) s p b q l) r := by
  intro d
  induction d with
  | zero =>
    intro i p b q l hi h0 h1 hl
    obtain ⟨r, e⟩ := spec_ReadBatch_fin s0 n (i : Int) s p b q l (by omega)
    refine ⟨r, Ev.succ ?_⟩
    simp only [spec_ReadBatch.l0]
    by_cases c : (i : Int) < n
    · exact Ev.pos c (Ev.neg (by omega) e)
    · exact Ev.neg c e
  | succ d ih =>
    intro i p b q l hi h0 h1 hl
    by_cases c : (i : Int) < n
    · cases b with
      | true =>
        obtain ⟨r, e⟩ := spec_ReadBatch_fin s0 n (i : Int) s p true q l (by omega)
        refine ⟨r, Ev.succ ?_⟩
        simp only [spec_ReadBatch.l0]
        exact Ev.pos c (Ev.pos (by omega) e)
      | false =>
        obtain ⟨t1, q1, c1, e1, a1, a2⟩ := spec_l05ReadShort_ev s p false hs h0 h1
        have e2 := spec_l05Take_eq s q1 c1 1 hs a1 a2 (by decide) (by decide)
        obtain ⟨g1, g2, g3⟩ := tk_facts s q1 c1 1 a1 a2 (by decide)
        obtain ⟨t3, q3, c3, e3, a5, a6⟩ := spec_l05ReadShort_ev s (tk s q1 c1 1).2.2.1 (tk s q1 c1 1).2.2.2 hs g2 g3
        obtain ⟨r, e⟩ := ih (i + 1) q3 c3 q (l ++ [(⟨t1, t3, ((tk s q1 c1 1).1.toList == ([1] : List UInt8))⟩ : S100)]) (by omega) a5 a6 (by simp; omega)
        refine ⟨r, Ev.succ ?_⟩
        simp only [spec_ReadBatch.l0]
        refine Ev.pos c (Ev.pos (by omega) (Ev.succ ?_))
        simp only [spec_ReadBatch.j1]
        refine Ev.pos rfl (Ev.bind e1 (Ev.bind0 e2 ?_))
        rw [g1]
        refine Ev.bind e3 (Ev.pos (by omega) ?_)
        rw [w64 (n := (i : Int) + 1) (by omega) (by omega)]
        exact e
    · obtain ⟨r, e⟩ := spec_ReadBatch_fin s0 n (i : Int) s p b q l (by omega)
      refine ⟨r, Ev.succ ?_⟩
      simp only [spec_ReadBatch.l0]
      exact Ev.neg c e
theorem spec_ReadBatch_ev (s : ByteArray) (hs : s.size ≤ 140737488351232) : ∃ r, Ev (fun k => spec_ReadBatch.f k s) r := by
  have e1 := spec_l05Take_eq s 0 false 1 hs (by decide) (by omega) (by decide) (by decide)
  obtain ⟨g1, g2, g3⟩ := tk_facts s 0 false 1 (by decide) (by omega) (by decide)
  obtain ⟨f1, f2, f3, _, _⟩ := cv_facts s (tk s 0 false 1).2.2.1 (tk s 0 false 1).2.2.2 g2 g3
  obtain ⟨h1, h2, h3, _, _⟩ := cv_facts s (cv s (tk s 0 false 1).2.2.1 (tk s 0 false 1).2.2.2).2.2.1 (cv s (tk s 0 false 1).2.2.1 (tk s 0 false 1).2.2.2).2.2.2 f2 f3
  obtain ⟨r, e⟩ := spec_ReadBatch_l0 s s hs (cv s (cv s (tk s 0 false 1).2.2.1 (tk s 0 false 1).2.2.2).2.2.1 (cv s (tk s 0 false 1).2.2.1 (tk s 0 false 1).2.2.2).2.2.2).1 100 0 _ (cv s (cv s (tk s 0 false 1).2.2.1 (tk s 0 false 1).2.2.2).2.2.1 (cv s (tk s 0 false 1).2.2.1 (tk s 0 false 1).2.2.2).2.2.2).2.2.2 (cv s (tk s 0 false 1).2.2.1 (tk s 0 false 1).2.2.2).1 [] (by omega) h2 h3 (Nat.le_refl _)
  refine ⟨r, ?_⟩
  unfold spec_ReadBatch.f
  refine Ev.bind0 e1 ?_
  rw [g1]
  refine Ev.bind (spec_l05Var_ev s _ _ hs) ?_
  rw [f1]
  refine Ev.bind (spec_l05Var_ev s _ _ hs) ?_
  rw [h1]
  exact e

/-! records of a file, and the head -/
theorem frame_ok {x y : ByteArray} (h : frameOf x = (y, true)) : recOk x := by
  unfold frameOf at h
  split at h
  · rename_i c; exact c
  · cases h
theorem unfr_facts (s : ByteArray) : ∀ (f : Nat) (acc : List ByteArray) (p : Int), 0 ≤ p → p ≤ s.size → (acc.length : Int) ≤ p → (∀ r ∈ acc, recOk r) → ((unfr f s acc p).1.length : Int) ≤ s.size ∧ ∀ r ∈ (unfr f s acc p).1, recOk r := by
  intro f
  induction f with
  | zero => intro acc p h0 h1 h2 h3; exact ⟨Int.le_trans h2 h1, h3⟩
  | succ f ih =>
    intro acc p h0 h1 h2 h3
    rw [unfr]
    split
    · rename_i c
      obtain ⟨c1, c2, c3⟩ := c
      rcases readVar_cases s p with e | ⟨n, m, e, hn, hm, hp, hz, _⟩
      · rw [e] at c1; cases c1
      · rw [e] at c2 c3 ⊢
        have c2' : (n : Int) ≤ (s.size : Int) - (p + (m : Int)) - 4 := c2
        refine ih _ _ (by show 0 ≤ p + (m : Int) + 4 + (n : Int); omega) (by show p + (m : Int) + 4 + (n : Int) ≤ _; omega) (by rw [List.length_append]; show ((acc.length + 1 : Nat) : Int) ≤ p + (m : Int) + 4 + (n : Int); omega) (fun r hr => ?_)
        rcases List.mem_append.1 hr with hr | hr
        · exact h3 r hr
        · rw [List.mem_singleton.1 hr]; exact frame_ok c3
    · exact ⟨Int.le_trans h2 h1, h3⟩
theorem unframe_facts (s : ByteArray) : (unframe s).1.length ≤ 20000 ∧ ∀ r ∈ (unframe s).1, recOk r := by
  unfold unframe
  split
  · exact ⟨Nat.zero_le _, fun r hr => by cases hr⟩
  · rename_i h
    have := unfr_facts s (s.size + 1) [] 0 (Int.le_refl _) (by omega) (Int.le_refl _) (fun r hr => by cases hr)
    exact ⟨by omega, this.2⟩
def hd1 (r : ByteArray) : Int × ByteArray × Int × Bool := cv r 1 false
def hd2 (r : ByteArray) : Int × ByteArray × Int × Bool := cv r (hd1 r).2.2.1 (hd1 r).2.2.2
def headB (a f : Int) : ByteArray := ((⟨#[72]⟩ : ByteArray) ++ strOfNums (vl a.toNat)) ++ strOfNums (vl f.toNat)
def recHead (n : Int) (r : ByteArray) : Int × Bool :=
  if bt r 0 = 72 ∧ (hd2 r).2.2.2 = false ∧ (hd2 r).2.2.1 = (r.size : Int) ∧ (0 ≤ (hd2 r).1 ∧ (hd2 r).1 ≤ n) ∧ (hd1 r).1 = n then ((hd2 r).1, true) else (0, false)
theorem head_same {r : ByteArray} {a f m1 m2 : Nat} (h1 : strOfNums (vl a) = r.extract 1 (1 + m1)) (l1 : (vl a).length = m1) (h2 : strOfNums (vl f) = r.extract (1 + m1) (1 + m1 + m2)) (l2 : (vl f).length = m2) (hz : 1 + m1 + m2 ≤ r.size) :
    ((⟨#[72]⟩ : ByteArray) ++ strOfNums (vl a)) ++ strOfNums (vl f) = r ↔ (bt r 0 = 72 ∧ 1 + m1 + m2 = r.size) := by
  constructor
  · intro h
    have hs := congrArg ByteArray.size h
    rw [app_size, app_size, strOfNums_size, strOfNums_size, l1, l2] at hs
    have hb : bt r ((0 : Nat) : Int) = ((72 : UInt8).toNat : Int) := bt_get (by rw [← h, app_data, app_data]; rfl)
    exact ⟨hb, hs⟩
  · rintro ⟨hb, hs⟩
    apply ba_ext
    rw [app_data, app_data, h1, h2, ext_data, ext_data, Nat.add_sub_cancel_left, Nat.add_sub_cancel_left]
    have hlen := size_len r
    obtain ⟨c, t, hL⟩ : ∃ c t, r.data.toList = c :: t := by
      cases h : r.data.toList with
      | nil => rw [h] at hlen; simp at hlen; omega
      | cons c t => exact ⟨c, t, rfl⟩
    have hb2 : bt r ((0 : Nat) : Int) = (c.toNat : Int) := bt_get (by rw [hL]; rfl)
    have hc : c = 72 := by
      have hb3 : bt r ((0 : Nat) : Int) = 72 := hb
      apply UInt8.toNat_inj.1
      show c.toNat = 72
      omega
    rw [hL, List.length_cons] at hlen
    subst hc
    rw [hL, show (1 + m1) = m1 + 1 by omega, List.drop_succ_cons, List.drop_succ_cons, List.drop_zero]
    show [72] ++ List.take m1 t ++ List.take m2 (List.drop m1 t) = 72 :: t
    have e2 : List.take m2 (List.drop m1 t) = List.drop m1 t := List.take_of_length_le (by rw [List.length_drop]; omega)
    rw [e2, List.append_assoc, List.take_append_drop]
    rfl
/-- The two numbers of a head that is read. -/
theorem hd_cases (r : ByteArray) (h : (hd2 r).2.2.2 = false) : ∃ a m1 f m2 : Nat, hd1 r = ((a : Int), r, ((1 + m1 : Nat) : Int), false) ∧ hd2 r = ((f : Int), r, ((1 + m1 + m2 : Nat) : Int), false) ∧ strOfNums (vl a) = r.extract 1 (1 + m1) ∧ (vl a).length = m1 ∧ strOfNums (vl f) = r.extract (1 + m1) (1 + m1 + m2) ∧ (vl f).length = m2 ∧ 1 + m1 + m2 ≤ r.size ∧ a ≤ 1000000000 ∧ f ≤ 1000000000 := by
  have g1 : (hd1 r).2.2.2 = false := by
    cases hh : (hd1 r).2.2.2 with
    | false => rfl
    | true => unfold hd2 at h; rw [hh] at h; unfold cv at h; rw [if_pos rfl] at h; cases h
  rcases readVar_cases r 1 with e | ⟨a, m1, e, ha, _, _, hz1, l1, x1⟩
  · unfold hd1 cv at g1; rw [e] at g1; cases g1
  have e1 : hd1 r = ((a : Int), r, ((1 + m1 : Nat) : Int), false) := by
    unfold hd1 cv; rw [e]
    show ((a : Int), r, (1 : Int) + (m1 : Int), false) = _
    rw [show (1 : Int) + (m1 : Int) = ((1 + m1 : Nat) : Int) by omega]
  rcases readVar_cases r ((1 + m1 : Nat) : Int) with e' | ⟨f, m2, e', hf, _, _, hz2, l2, x2⟩
  · unfold hd2 at h; rw [e1] at h; unfold cv at h; rw [e'] at h; cases h
  have e2 : hd2 r = ((f : Int), r, ((1 + m1 + m2 : Nat) : Int), false) := by
    unfold hd2; rw [e1]; unfold cv; rw [e']
    show ((f : Int), r, ((1 + m1 : Nat) : Int) + (m2 : Int), false) = _
    rw [show ((1 + m1 : Nat) : Int) + (m2 : Int) = ((1 + m1 + m2 : Nat) : Int) by omega]
  rw [Int.toNat_natCast] at x2
  exact ⟨a, m1, f, m2, e1, e2, x1, l1, x2, l2, by omega, ha, hf⟩
theorem one72 : (⟨#[72]⟩ : ByteArray).size = 1 := rfl
theorem vl_le5 {n : Int} (h : n ≤ 1000000000) : (vl n.toNat).length ≤ 5 := vl_len 5 n.toNat (by omega) (by omega)
theorem spec_l06Head_ev (n : Int) (r : ByteArray) (n0 : 0 ≤ n) (n1 : n ≤ 99) (h1 : 1 ≤ r.size) (hs : r.size ≤ 140737488351232) : Ev (fun k => spec_l06Head.f k n r) (recHead n r) := by
  have e1 := spec_l05Take_eq r 0 false 1 hs (by decide) (by omega) (by decide) (by decide)
  have et : tk r 0 false 1 = (r.extract 0 1, r, 1, false) := by
    unfold tk; rw [if_neg Bool.false_ne_true, if_neg (by omega)]; rfl
  rw [et] at e1
  obtain ⟨f1, f2, f3, f4, f5⟩ := cv_facts r 1 false (by decide) (by omega)
  unfold spec_l06Head.f
  refine Ev.bind0 e1 (Ev.bind (spec_l05Var_ev r 1 false hs) ?_)
  rw [f1]
  refine Ev.bind (spec_l05Var_ev r _ _ hs) ?_
  rw [show cv r 1 false = hd1 r from rfl, show cv r (hd1 r).2.2.1 (hd1 r).2.2.2 = hd2 r from rfl]
  cases hb : (hd2 r).2.2.2 with
  | true => exact Ev.pos rfl (Ev.ret (by unfold recHead; rw [hb, if_neg (fun h => by cases h.2.1)]))
  | false =>
    refine Ev.neg Bool.false_ne_true ?_
    obtain ⟨a, m1, f, m2, x1, x2, y1, l1, y2, l2, hz, ha, hf⟩ := hd_cases r hb
    by_cases c1 : (hd1 r).1 = n
    · refine Ev.pos c1 (Ev.bind0 (spec_l01In_eq _ _ _) ?_)
      by_cases c2 : 0 ≤ (hd2 r).1 ∧ (hd2 r).1 ≤ n
      · refine Ev.pos (decide_eq_true c2) (Ev.bind (spec_l01Var_ev n0 (by omega)) ?_)
        have v1 := vl_le5 (n := n) (by omega)
        have v2 := vl_le5 (n := (hd2 r).1) (by omega)
        refine Ev.pos (by rw [strOfNums_size]; omega) (Ev.bind (spec_l01Var_ev c2.1 (by omega)) (Ev.pos (by rw [app_size, strOfNums_size, strOfNums_size, one72]; omega) ?_))
        have en : n.toNat = a := by rw [x1] at c1; have : (a : Int) = n := c1; omega
        have ef : (hd2 r).1.toNat = f := by rw [x2]; rfl
        have key := head_same y1 l1 y2 l2 hz
        rw [en, ef]
        by_cases c3 : ((⟨#[72]⟩ : ByteArray) ++ strOfNums (vl a)) ++ strOfNums (vl f) = r
        · refine Ev.pos (toList_iff.2 c3) (Ev.ret ?_)
          have k3 := key.1 c3
          unfold recHead
          rw [if_pos ⟨k3.1, hb, by rw [x2]; show ((1 + m1 + m2 : Nat) : Int) = _; omega, c2, c1⟩]
        · refine Ev.neg (fun h => c3 (toList_iff.1 h)) (Ev.ret ?_)
          unfold recHead
          rw [if_neg (fun h => c3 (key.2 ⟨h.1, by have := h.2.2.1; rw [x2] at this; have : ((1 + m1 + m2 : Nat) : Int) = (r.size : Int) := this; omega⟩))]
      · exact Ev.neg (by rw [decide_eq_false c2]; exact Bool.false_ne_true) (Ev.ret (by unfold recHead; rw [if_neg (fun h => c2 h.2.2.2.1)]))
    · exact Ev.neg c1 (Ev.ret (by unfold recHead; rw [if_neg (fun h => c1 h.2.2.2.2)]))

/-! a segment's file, read by both programs -/
def segHead (n : Int) (s : ByteArray) : Int × Bool := match (unframe s).1 with
  | [] => (0, false)
  | r :: _ => if 0 ≤ n ∧ n ≤ 99 then recHead n r else (0, false)
theorem recHead_range (n : Int) (r : ByteArray) : 0 ≤ (recHead n r).1 ∧ ((recHead n r).1 ≤ n ∨ recHead n r = (0, false)) := by
  unfold recHead
  split
  · rename_i h; exact ⟨h.2.2.2.1.1, .inl h.2.2.2.1.2⟩
  · exact ⟨Int.le_refl _, .inr rfl⟩
theorem recHead_false (n : Int) (r : ByteArray) (h : (recHead n r).2 = false) : recHead n r = (0, false) := by
  unfold recHead at h ⊢
  split at h
  · cases h
  · rename_i c; rw [if_neg c]
theorem segHead_facts (n : Int) (s : ByteArray) : 0 ≤ (segHead n s).1 ∧ ((segHead n s).2 = false → (segHead n s).1 = 0) ∧ (0 ≤ n → (segHead n s).1 ≤ n) := by
  unfold segHead
  split
  · exact ⟨Int.le_refl _, fun _ => rfl, fun h => h⟩
  · rename_i r t _
    split
    · rename_i hn
      have := recHead_range n r
      refine ⟨this.1, fun h => by rw [recHead_false n r h], fun h => ?_⟩
      rcases this.2 with h2 | h2
      · exact h2
      · rw [h2]; exact h
    · exact ⟨Int.le_refl _, fun _ => rfl, fun h => h⟩
theorem spec_ReadSegment_l0 (l : List ByteArray) (hl : l.length ≤ 20000) (hr : ∀ r ∈ l, recOk r) (f : Int) : ∀ (t : List ByteArray) (i : Nat) (acc : List S70) (e : Int), l.drop i = t → i ≤ l.length → acc.length ≤ i → ∃ out e2, Ev (fun k => spec_ReadSegment.l0 k acc l f e (i : Int)) (f, out, e2, true) := by
  intro t
  induction t with
  | nil =>
    intro i acc e ht hi ha
    have := drop_nil_len ht
    refine ⟨acc, e, Ev.succ ?_⟩
    simp only [spec_ReadSegment.l0]
    exact Ev.neg (by omega) (Ev.now _)
  | cons a t ih =>
    intro i acc e ht hi ha
    obtain ⟨h1, h2, h3⟩ := rdOf_drop (d := ByteArray.empty) ht
    have hra := hr a (List.mem_of_mem_drop (by rw [ht]; exact List.mem_cons_self))
    have hz : a.size ≤ 140737488351232 := by have := hra.2; omega
    obtain ⟨b, eb⟩ := spec_ReadBatch_ev a hz
    have ef := spec_Frame_ev a hz
    by_cases c1 : b.2.2 = true
    · by_cases c2 : (acc.length : Int) > 0
      · have ew : wrap64 ((acc.length : Int) - 1) = (acc.length : Int) - 1 := w64 (by omega) (by omega)
        by_cases c3 : ((rd_T70 acc ((acc.length : Int) - 1)).f0) ≥ b.1
        · refine ⟨acc, e, Ev.succ ?_⟩
          simp only [spec_ReadSegment.l0, h1, ew]
          exact Ev.pos (by omega) (Ev.pos (by omega) (Ev.bind eb (Ev.pos c1 (Ev.pos c2 (Ev.pos (by omega) (Ev.pos (by omega) (Ev.pos c3 (Ev.now _))))))))
        · obtain ⟨out, e2, e3⟩ := ih (i + 1) (acc ++ [(⟨b.1, b.2.1⟩ : S70)]) (wrap64 (e + ((frameOf a).1.size : Int))) h3 (by omega) (by simp; omega)
          refine ⟨out, e2, Ev.succ ?_⟩
          simp only [spec_ReadSegment.l0, h1, ew]
          refine Ev.pos (by omega) (Ev.pos (by omega) (Ev.bind eb (Ev.pos c1 (Ev.pos c2 (Ev.pos (by omega) (Ev.pos (by omega) (Ev.neg c3 (Ev.pos (by omega) (Ev.bind ef ?_)))))))))
          rw [w64 (n := (i : Int) + 1) (by omega) (by omega)]
          exact e3
      · obtain ⟨out, e2, e3⟩ := ih (i + 1) (acc ++ [(⟨b.1, b.2.1⟩ : S70)]) (wrap64 (e + ((frameOf a).1.size : Int))) h3 (by omega) (by simp; omega)
        refine ⟨out, e2, Ev.succ ?_⟩
        simp only [spec_ReadSegment.l0, h1]
        refine Ev.pos (by omega) (Ev.pos (by omega) (Ev.bind eb (Ev.pos c1 (Ev.neg c2 (Ev.pos (by omega) (Ev.bind ef ?_))))))
        rw [w64 (n := (i : Int) + 1) (by omega) (by omega)]
        exact e3
    · refine ⟨acc, e, Ev.succ ?_⟩
      simp only [spec_ReadSegment.l0, h1]
      exact Ev.pos (by omega) (Ev.pos (by omega) (Ev.bind eb (Ev.neg c1 (Ev.now _))))
theorem spec_ReadSegment_ev (n : Int) (s : ByteArray) : ∃ out e, Ev (fun k => spec_ReadSegment.f k n s) ((segHead n s).1, out, e, (segHead n s).2) := by
  obtain ⟨hl, hr⟩ := unframe_facts s
  have bad : ∀ (l : List ByteArray), Ev (fun k => spec_ReadSegment.j0 k n ([] : List S70) l true) (0, ([] : List S70), 0, false) := fun l => Ev.succ (by simp only [spec_ReadSegment.j0]; exact Ev.pos (by trivial) (Ev.now _))
  unfold segHead
  split
  · rename_i hu
    refine ⟨[], 0, ?_⟩
    unfold spec_ReadSegment.f
    refine Ev.bind0 rfl (Ev.bind (spec_Unframe_ev s) (Ev.bind0 (spec_l01In_eq _ _ _) ?_))
    rw [hu]
    by_cases c : 0 ≤ n ∧ n ≤ 99
    · exact Ev.pos (decide_eq_true c) (bad _)
    · exact Ev.neg (by rw [decide_eq_false c]; exact Bool.false_ne_true) (bad _)
  · rename_i r t hu
    have hr0 := hr r (by rw [hu]; exact List.mem_cons_self)
    have hz : r.size ≤ 140737488351232 := by have := hr0.2; omega
    by_cases c : 0 ≤ n ∧ n ≤ 99
    · rw [if_pos c]
      have eh := spec_l06Head_ev n r c.1 c.2 hr0.1 hz
      have e0 : rdOf ByteArray.empty (unframe s).1 0 = r := by rw [hu]; rfl
      have elen : ((unframe s).1.length : Int) = (t.length : Int) + 1 := by rw [hu]; rfl
      cases hv : (recHead n r).2 with
      | true =>
        obtain ⟨out, e2, e3⟩ := spec_ReadSegment_l0 (unframe s).1 hl hr (recHead n r).1 t 1 [] ((frameOf r).1.size : Int) (by rw [hu]; rfl) (by rw [hu]; simp) (Nat.zero_le _)
        refine ⟨out, e2, ?_⟩
        unfold spec_ReadSegment.f
        refine Ev.bind0 rfl (Ev.bind (spec_Unframe_ev s) (Ev.bind0 (spec_l01In_eq _ _ _) (Ev.pos (decide_eq_true c) (Ev.succ ?_))))
        simp only [spec_ReadSegment.j0, e0]
        exact Ev.neg (by rw [elen]; simp; omega) (Ev.pos (by omega) (Ev.bind eh (Ev.pos hv (Ev.bind (spec_Frame_ev r hz) e3))))
      | false =>
        refine ⟨[], 0, ?_⟩
        have hv2 := recHead_false n r hv
        unfold spec_ReadSegment.f
        refine Ev.bind0 rfl (Ev.bind (spec_Unframe_ev s) (Ev.bind0 (spec_l01In_eq _ _ _) (Ev.pos (decide_eq_true c) (Ev.succ ?_))))
        simp only [spec_ReadSegment.j0, e0]
        exact Ev.neg (by rw [elen]; simp; omega) (Ev.pos (by omega) (Ev.bind eh (Ev.neg (by rw [hv]; exact Bool.false_ne_true) (Ev.ret (by rw [hv2])))))
    · rw [if_neg c]
      refine ⟨[], 0, ?_⟩
      unfold spec_ReadSegment.f
      exact Ev.bind0 rfl (Ev.bind (spec_Unframe_ev s) (Ev.bind0 (spec_l01In_eq _ _ _) (Ev.neg (by rw [decide_eq_false c]; exact Bool.false_ne_true) (bad _))))
theorem headText_ok (a f : Int) : (headText a f).2 = decide (0 ≤ a ∧ a ≤ 99 ∧ 0 ≤ f ∧ f ≤ a) := by
  unfold headText
  by_cases h : 0 ≤ a ∧ a ≤ 99 ∧ 0 ≤ f ∧ f ≤ a
  · rw [if_pos h, decide_eq_true h]
    have v1 := vl_le5 (n := a) (by omega)
    have v2 := vl_le5 (n := f) (by omega)
    have : 1 ≤ ((⟨#[72]⟩ : ByteArray) ++ (strOfNums (vl a.toNat) ++ strOfNums (vl f.toNat))).size ∧ ((⟨#[72]⟩ : ByteArray) ++ (strOfNums (vl a.toNat) ++ strOfNums (vl f.toNat))).size ≤ 9000 := by
      rw [app_size, app_size, strOfNums_size, strOfNums_size, one72]; omega
    unfold frameOf
    rw [if_pos this]
  · rw [if_neg h, decide_eq_false h]; rfl
theorem impl_headOf_ev (n : Int) (s : ByteArray) : ∃ z, Ev (fun k => impl_headOf.f k n s) ((segHead n s).1, z, (segHead n s).2) := by
  obtain ⟨hl, hr⟩ := unframe_facts s
  unfold segHead
  split
  · rename_i hu
    refine ⟨0, ?_⟩
    unfold impl_headOf.f
    refine Ev.bind (impl_Unframe_ev s) ?_
    rw [hu]
    exact Ev.pos rfl (Ev.now _)
  · rename_i r t hu
    have hr0 := hr r (by rw [hu]; exact List.mem_cons_self)
    have hz : r.size ≤ 140737488351232 := by have := hr0.2; omega
    have h1 := hr0.1
    have e0 : rdOf ByteArray.empty (unframe s).1 0 = r := by rw [hu]; rfl
    have elen : ((unframe s).1.length : Int) = (t.length : Int) + 1 := by rw [hu]; rfl
    have hb := bt_list r 0 (by omega)
    have hb2 : 0 ≤ bt r 0 ∧ bt r 0 < 256 := by
      have h3 : bt r ((0 : Nat) : Int) = _ := hb
      have h4 := (r.data.toList[0]'(by rw [size_len]; omega)).toNat_lt
      show 0 ≤ bt r ((0 : Nat) : Int) ∧ bt r ((0 : Nat) : Int) < 256
      rw [h3]; omega
    have eb : impl_reader_byte.f r 0 false = some (bt r 0, r, 1, false) := by
      have a1 : wrap64 (0 + 1) = 1 := (w64 (n := 0 + 1) (by decide) (by decide)).trans rfl
      have a2 : wrap64 (1 - 1) = 0 := (w64 (n := 1 - 1) (by decide) (by decide)).trans rfl
      unfold impl_reader_byte.f
      rw [if_neg Bool.false_ne_true, if_neg (by omega), a1, a2, if_pos (by decide), if_pos (by omega), w64 (by omega) (by omega)]
    obtain ⟨f1, f2, f3, f4, f5⟩ := cv_facts r 1 false (by decide) (by omega)
    obtain ⟨g1, g2, g3, g4, g5⟩ := cv_facts r (hd1 r).2.2.1 (hd1 r).2.2.2 f2 f3
    have done : impl_reader_done.f r (hd2 r).2.2.1 (hd2 r).2.2.2 = some (!(hd2 r).2.2.2 && ((hd2 r).2.2.1 == (r.size : Int)), r, (hd2 r).2.2.1, (hd2 r).2.2.2) := by
      unfold impl_reader_done.f
      cases (hd2 r).2.2.2 <;> simp
    have key : ∀ (z : Int) (v : Int × Int × Bool), v = (if bt r 0 = 72 then (if (!(hd2 r).2.2.2 && ((hd2 r).2.2.1 == (r.size : Int))) = true then (if (headText (hd1 r).1 (hd2 r).1).2 = true then (if (hd1 r).1 = n then ((hd2 r).1, z, true) else (0, 0, false)) else (0, 0, false)) else (0, 0, false)) else (0, 0, false)) → ∃ z2, v = ((if 0 ≤ n ∧ n ≤ 99 then recHead n r else (0, false)).1, z2, (if 0 ≤ n ∧ n ≤ 99 then recHead n r else (0, false)).2) := by
      intro z v hv
      rw [headText_ok] at hv
      by_cases c : bt r 0 = 72 ∧ (hd2 r).2.2.2 = false ∧ (hd2 r).2.2.1 = (r.size : Int) ∧ (0 ≤ (hd2 r).1 ∧ (hd2 r).1 ≤ n) ∧ (hd1 r).1 = n
      · by_cases c2 : n ≤ 99
        · refine ⟨z, ?_⟩
          rw [hv, if_pos c.1, if_pos (by rw [c.2.1, c.2.2.1]; simp), if_pos (decide_eq_true ⟨by omega, by omega, c.2.2.2.1.1, by omega⟩), if_pos c.2.2.2.2, if_pos ⟨by omega, c2⟩]
          unfold recHead
          rw [if_pos c]
        · refine ⟨0, ?_⟩
          rw [hv, if_neg (c := 0 ≤ n ∧ n ≤ 99) (by omega), if_neg (c := decide (0 ≤ (hd1 r).1 ∧ (hd1 r).1 ≤ 99 ∧ 0 ≤ (hd2 r).1 ∧ (hd2 r).1 ≤ (hd1 r).1) = true) (by rw [decide_eq_true_eq]; omega)]
          simp
      · refine ⟨0, ?_⟩
        have e1 : (if 0 ≤ n ∧ n ≤ 99 then recHead n r else (0, false)) = ((0 : Int), false) := by
          split
          · unfold recHead; rw [if_neg c]
          · rfl
        rw [e1, hv]
        split
        · split
          · split
            · split
              · rename_i d1 d2 d3 d4
                rw [Bool.and_eq_true, Bool.not_eq_true', beq_iff_eq] at d2
                rw [decide_eq_true_eq] at d3
                exact absurd ⟨d1, d2.1, d2.2, ⟨by omega, by omega⟩, d4⟩ c
              · rfl
            · rfl
          · rfl
        · rfl
    obtain ⟨z2, hz2⟩ := key ((headText (hd1 r).1 (hd2 r).1).1.size : Int) _ rfl
    refine ⟨z2, ?_⟩
    rw [← hz2]
    unfold impl_headOf.f
    refine Ev.bind (impl_Unframe_ev s) (Ev.neg (by omega) (Ev.pos (by omega) ?_))
    rw [e0]
    refine Ev.bind0 eb (Ev.bind (impl_reader_num_ev r 1 false hz) ?_)
    rw [f1]
    refine Ev.bind (impl_reader_num_ev r _ _ hz) ?_
    rw [show cv r 1 false = hd1 r from rfl, show cv r (hd1 r).2.2.1 (hd1 r).2.2.2 = hd2 r from rfl]
    refine Ev.bind (impl_HeadText_ev _ _) ?_
    by_cases d1 : bt r 0 = 72
    · refine Ev.pos d1 (Ev.tpos d1 ?_)
      rw [show (hd2 r).2.1 = r from g1]
      refine Ev.bind0 done ?_
      by_cases d2 : (!(hd2 r).2.2.2 && ((hd2 r).2.2.1 == (r.size : Int))) = true
      · refine Ev.pos d2 (Ev.tpos d2 ?_)
        by_cases d3 : (headText (hd1 r).1 (hd2 r).1).2 = true
        · refine Ev.pos d3 (Ev.tpos d3 ?_)
          by_cases d4 : (hd1 r).1 = n
          · exact Ev.pos d4 (Ev.tpos d4 (Ev.now _))
          · exact Ev.neg d4 (Ev.tneg d4 (Ev.now _))
        · exact Ev.neg d3 (Ev.tneg d3 (Ev.now _))
      · exact Ev.neg d2 (Ev.tneg d2 (Ev.now _))
    · exact Ev.neg d1 (Ev.tneg d1 (Ev.now _))

/-! the number of a name -/
theorem one98 : (⟨#[98]⟩ : ByteArray).size = 1 := rfl
theorem impl_Decimal_small (n : Nat) (h : n < 100) : impl_Decimal.f (n : Int) = some (decText n) := by
  rw [impl_Decimal_eq _ (by omega) (by omega), itoaText_nat]
def segName (a : Int) : ByteArray := if 0 ≤ a ∧ a ≤ 99 then (⟨#[98]⟩ : ByteArray) ++ decText a.toNat else (⟨#[]⟩ : ByteArray)
theorem spec_SegName_ev (a : Int) : Ev (fun k => spec_SegName.f k a) (segName a) := by
  unfold spec_SegName.f segName
  refine Ev.bind0 (spec_l01In_eq _ _ _) ?_
  by_cases h : 0 ≤ a ∧ a ≤ 99
  · obtain ⟨n, rfl⟩ := Int.eq_ofNat_of_zero_le h.1
    have := decText_len n (by omega)
    rw [if_pos h, Int.toNat_natCast]
    exact Ev.pos (decide_eq_true h) (Ev.bind (spec_Decimal_nat n (by omega)) (Ev.pos (by omega) (Ev.now _)))
  · rw [if_neg h]
    exact Ev.neg (by simpa using h) (Ev.now _)
theorem impl_SegName_eq (a : Int) : impl_SegName.f a = some (segName a) := by
  unfold impl_SegName.f segName
  rw [impl_within_eq, Option.bind_some]
  by_cases h : 0 ≤ a ∧ a ≤ 99
  · obtain ⟨n, rfl⟩ := Int.eq_ofNat_of_zero_le h.1
    have := decText_len n (by omega)
    rw [if_pos h, if_pos (decide_eq_true h), Int.toNat_natCast, impl_Decimal_small n (by omega), Option.bind_some, if_pos (by omega)]
  · rw [if_neg h, if_neg (by simpa using h)]
theorem segName_nat (n : Nat) (h : n ≤ 99) : segName (n : Int) = (⟨#[98]⟩ : ByteArray) ++ decText n := by
  unfold segName; rw [if_pos (by omega), Int.toNat_natCast]
theorem segName_data (n : Nat) (h : n ≤ 99) : (segName (n : Int)).data.toList = 98 :: Lib.decDigits n := by
  rw [segName_nat n h, app_data, decText_data]; rfl
theorem segName_inj {n m : Nat} (hn : n ≤ 99) (hm : m ≤ 99) (h : segName (n : Int) = segName (m : Int)) : n = m := by
  have h2 := congrArg (fun s : ByteArray => s.data.toList) h
  simp only [segName_data n hn, segName_data m hm] at h2
  injection h2 with _ h2
  have h3 := dig_digits n
  rw [h2, dig_digits m] at h3
  exact (Option.some.inj h3).symm
theorem readDec_small (n : Nat) (h : n ≤ 99) : readDec (decText n) = ((n : Int), true) := by
  have := decText_len n (by omega)
  unfold readDec
  rw [if_pos (by omega), decText_data, dig_digits, finRead_some, if_pos ⟨by omega, rfl⟩]
def hasB (a : ByteArray) : Bool := decide ((a.extract 0 1).toList = (⟨#[98]⟩ : ByteArray).toList) && decide (1 ≤ a.size)
theorem cutPrefix_eq (a : ByteArray) : strings_CutPrefix.f a (⟨#[98]⟩ : ByteArray) = some (if hasB a = true then (a.extract 1 a.size, true) else (a, false)) := by
  unfold strings_CutPrefix.f stringslite_CutPrefix.f stringslite_HasPrefix.f hasB
  rw [one98]
  by_cases h : 1 ≤ a.size
  · rw [if_pos (by omega), if_pos (by omega), if_pos (by omega), Option.bind_some]
    show ((if ((a.extract 0 1).toList == (⟨#[98]⟩ : ByteArray).toList) = true then _ else _ : Option (ByteArray × Bool)).bind _) = _
    by_cases c : (a.extract 0 1).toList = (⟨#[98]⟩ : ByteArray).toList
    · rw [if_pos (beq_iff_eq.2 c), if_pos (by omega), if_pos (by omega), Option.bind_some, if_pos (by rw [decide_eq_true c, decide_eq_true h]; rfl)]
      rfl
    · rw [if_neg (by rw [beq_iff_eq]; exact c), Option.bind_some, if_neg (by rw [decide_eq_false c]; exact Bool.false_ne_true)]
  · rw [if_neg (by omega), Option.bind_some, if_neg Bool.false_ne_true, Option.bind_some, if_neg (by rw [decide_eq_false h, Bool.and_false]; exact Bool.false_ne_true)]
theorem hasB_segName (n : Nat) (h : n ≤ 99) : hasB (segName (n : Int)) = true ∧ (segName (n : Int)).extract 1 (segName (n : Int)).size = decText n := by
  have hd := segName_data n h
  have hz := size_len (segName (n : Int))
  rw [hd, List.length_cons] at hz
  constructor
  · unfold hasB
    rw [Bool.and_eq_true, decide_eq_true_eq, decide_eq_true_eq]
    refine ⟨toList_iff.2 (ba_ext ?_), by omega⟩
    rw [ext_data, hd]; rfl
  · apply ba_ext
    rw [ext_data, hd, decText_data, List.drop_succ_cons, List.drop_zero, List.take_of_length_le (by omega)]
theorem impl_segNumber_eq (a : ByteArray) (hs : a.size ≤ 1048576) :
    (∃ n : Nat, n ≤ 99 ∧ a = segName (n : Int) ∧ impl_segNumber.f a = some (n : Int)) ∨ ((∀ n : Nat, n ≤ 99 → a ≠ segName (n : Int)) ∧ impl_segNumber.f a = some (-1)) := by
  unfold impl_segNumber.f
  rw [cutPrefix_eq, Option.bind_some]
  by_cases hx : ∃ n : Nat, n ≤ 99 ∧ a = segName (n : Int)
  · obtain ⟨n, hn, rfl⟩ := hx
    obtain ⟨h1, h2⟩ := hasB_segName n hn
    have h3 := decText_len n (by omega)
    refine .inl ⟨n, hn, rfl, ?_⟩
    rw [if_pos h1, h2]
    show (impl_ReadDecimal.f (decText n)).bind _ = _
    rw [impl_ReadDecimal_eq _ (by omega), readDec_small n hn, Option.bind_some, if_pos rfl, if_pos rfl, impl_SegName_eq, Option.bind_some, if_pos rfl]
  · refine .inr ⟨fun n hn e => hx ⟨n, hn, e⟩, ?_⟩
    cases hb : hasB a with
    | false =>
      rw [if_neg Bool.false_ne_true]
      show (impl_ReadDecimal.f a).bind _ = _
      rw [impl_ReadDecimal_eq _ (by omega), Option.bind_some, if_neg Bool.false_ne_true]
    | true =>
      rw [if_pos rfl]
      show (impl_ReadDecimal.f (a.extract 1 a.size)).bind _ = _
      have hz : (a.extract 1 a.size).size = a.size - 1 := ext_size a 1 a.size (Nat.le_refl _)
      rw [impl_ReadDecimal_eq _ (by omega), Option.bind_some, if_pos rfl]
      by_cases c : (readDec (a.extract 1 a.size)).2 = true
      · rw [if_pos c, impl_SegName_eq, Option.bind_some]
        by_cases d : (segName (readDec (a.extract 1 a.size)).1).toList = a.toList
        · exfalso
          have e := toList_iff.1 d
          by_cases r : 0 ≤ (readDec (a.extract 1 a.size)).1 ∧ (readDec (a.extract 1 a.size)).1 ≤ 99
          · obtain ⟨n, hn⟩ := Int.eq_ofNat_of_zero_le r.1
            exact hx ⟨n, by omega, by rw [← hn]; exact e.symm⟩
          · unfold segName at e
            rw [if_neg r] at e
            unfold hasB at hb
            rw [← e] at hb
            rw [Bool.and_eq_true] at hb
            have h0 : 1 ≤ (⟨#[]⟩ : ByteArray).size := of_decide_eq_true hb.2
            exact absurd h0 (by show ¬ 1 ≤ 0; omega)
        · rw [if_neg d]
      · rw [if_neg c]

/-! the loops of both programs -/
def segNum (a : ByteArray) : Int := match impl_segNumber.f a with
  | some n => n
  | none => -1
theorem impl_segNumber_some (a : ByteArray) (hs : a.size ≤ 1048576) : impl_segNumber.f a = some (segNum a) := by
  unfold segNum
  rcases impl_segNumber_eq a hs with ⟨n, _, _, h⟩ | ⟨_, h⟩ <;> rw [h]
theorem segNum_cases (a : ByteArray) (hs : a.size ≤ 1048576) : (∃ n : Nat, n ≤ 99 ∧ a = segName (n : Int) ∧ segNum a = (n : Int)) ∨ ((∀ n : Nat, n ≤ 99 → a ≠ segName (n : Int)) ∧ segNum a = -1) := by
  unfold segNum
  rcases impl_segNumber_eq a hs with ⟨n, h1, h2, h⟩ | ⟨h1, h⟩
  · rw [h]; exact .inl ⟨n, h1, h2, rfl⟩
  · rw [h]; exact .inr ⟨h1, rfl⟩
def numsOf : List S46 → List Int
  | [] => []
  | f :: t => if segNum f.f0 < 0 then numsOf t else segNum f.f0 :: numsOf t
def leastOf (m : Int) : List S46 → Int
  | [] => m
  | f :: t => if segNum f.f0 < 0 then leastOf m t else leastOf (mx m (segHead (segNum f.f0) f.f1).1) t
def sortI (l : List Int) : List Int := l.mergeSort fun x y => decide (x ≤ y)
def pickI (l : List Int) (m : Int) : List Int := (sortI l).filter fun x => !decide (x < m)
theorem pickI_length (l : List Int) (m : Int) : (pickI l m).length ≤ l.length := by
  unfold pickI sortI
  have := List.length_filter_le (fun x : Int => !decide (x < m)) (l.mergeSort fun x y => decide (x ≤ y))
  rw [List.length_mergeSort] at this
  exact this
theorem numsOf_length : ∀ (l : List S46), (numsOf l).length ≤ l.length
  | [] => Nat.le_refl _
  | f :: t => by
    have := numsOf_length t
    rw [numsOf]
    split <;> simp <;> omega
theorem impl_Segments_l0 (l : List S46) (hl : l.length ≤ 1000) (hn : ∀ f ∈ l, f.f0.size ≤ 1048576) {r : List Int × Bool} : ∀ (t : List S46) (i : Nat) (acc : List Int) (m : Int), l.drop i = t → i ≤ l.length → acc.length ≤ i →
    Ev (fun k => impl_Segments.l1 k (pickI (acc ++ numsOf t) (leastOf m t)) (pickI (acc ++ numsOf t) (leastOf m t)) ((pickI (acc ++ numsOf t) (leastOf m t)).length : Int) 0 l) r →
    Ev (fun k => impl_Segments.l0 k acc l (l.length : Int) (i : Int) l m) r := by
  intro t
  induction t with
  | nil =>
    intro i acc m ht hi ha e
    have hd := drop_nil_len ht
    rw [numsOf, leastOf, List.append_nil] at e
    refine Ev.succ ?_
    simp only [impl_Segments.l0]
    refine Ev.neg (by omega) (Ev.bind0 (x := sortI acc) (by unfold slices_Sort_i.f; rw [if_pos (by omega)]; rfl) (Ev.bind0 (x := pickI acc m) (by unfold slices_DeleteFunc_i.f; rw [if_pos (by unfold sortI; rw [List.length_mergeSort]; omega)]; rfl) e))
  | cons a t ih =>
    intro i acc m ht hi ha e
    obtain ⟨h1, h2, h3⟩ := rd_T46_drop ht
    have hm : a ∈ l := List.mem_of_mem_drop (by rw [ht]; exact List.mem_cons_self)
    have e0 := impl_segNumber_some a.f0 (hn a hm)
    rw [numsOf, leastOf] at e
    have wi : wrap64 ((i : Int) + 1) = ((i + 1 : Nat) : Int) := (w64 (by omega) (by omega)).trans (by omega)
    by_cases c : segNum a.f0 < 0
    · rw [if_pos c, if_pos c] at e
      have e1 := ih (i + 1) acc m h3 (by omega) (by omega) e
      refine Ev.succ ?_
      simp only [impl_Segments.l0, h1, wi]
      exact Ev.pos (by omega) (Ev.pos (by omega) (Ev.pos (by omega) (Ev.bind0 e0 (Ev.pos c e1))))
    · rw [if_neg c, if_neg c] at e
      obtain ⟨z, eh⟩ := impl_headOf_ev (segNum a.f0) a.f1
      have e1 := ih (i + 1) (acc ++ [segNum a.f0]) (mx m (segHead (segNum a.f0) a.f1).1) h3 (by omega) (by simp; omega) (by rw [List.append_assoc]; exact e)
      refine Ev.succ ?_
      simp only [impl_Segments.l0, h1, wi]
      exact Ev.pos (by omega) (Ev.pos (by omega) (Ev.pos (by omega) (Ev.bind0 e0 (Ev.neg c (Ev.pos (by omega) (Ev.bind eh e1))))))
def hasN (l : List S46) (n : Int) : Bool := decide (0 ≤ idxFrom (named (segName n)) l 0)
def okN (l : List S46) (n : Int) : Bool := (segHead n (fileAtOf l (segName n)).1).2
def hN (l : List S46) (n : Int) : Int := (segHead n (fileAtOf l (segName n)).1).1
theorem impl_Segments_l1 (L : List Int) (hL : L.length ≤ 100000) (l : List S46) : ∀ (t : List Int) (i : Nat), L.drop i = t → i ≤ L.length →
    Ev (fun k => impl_Segments.l1 k L L (L.length : Int) (i : Int) l) (if t.all (okN l) = true then (if (L.length : Int) = 0 then (([] : List Int), false) else (L, true)) else (([] : List Int), false)) := by
  intro t
  induction t with
  | nil =>
    intro i ht hi
    have hd := drop_nil_len ht
    refine Ev.succ ?_
    simp only [impl_Segments.l1]
    refine Ev.neg (by omega) (Ev.to (r := if (L.length : Int) = 0 then (([] : List Int), false) else (L, true)) ?_ (by rw [List.all_nil, if_pos rfl]))
    by_cases c : (L.length : Int) = 0
    · exact Ev.pos c (Ev.tpos c (Ev.now _))
    · exact Ev.neg c (Ev.tneg c (Ev.now _))
  | cons a t ih =>
    intro i ht hi
    obtain ⟨h1, h2, h3⟩ := rd_drop ht
    have wi : wrap64 ((i : Int) + 1) = ((i + 1 : Nat) : Int) := (w64 (by omega) (by omega)).trans (by omega)
    obtain ⟨z, eh⟩ := impl_headOf_ev a (fileAtOf l (segName a)).1
    refine Ev.succ ?_
    simp only [impl_Segments.l1, h1, wi]
    refine Ev.pos (by omega) (Ev.pos (by omega) (Ev.pos (by omega) (Ev.bind0 (impl_SegName_eq a) (Ev.bind0 (impl_FileAt_eq l _) (Ev.bind eh ?_)))))
    cases c : okN l a with
    | true => exact Ev.pos c (Ev.to (ih (i + 1) h3 (by omega)) (by rw [List.all_cons, c, Bool.true_and]))
    | false => exact Ev.neg (by unfold okN at c; rw [c]; exact Bool.false_ne_true) (Ev.ret (by rw [List.all_cons, c, Bool.false_and, if_neg Bool.false_ne_true]))
def stepN (l : List S46) (m n : Int) : Int := if hasN l n = true then (if okN l n = true then (if hN l n > m then hN l n else m) else m) else m
def upTo (l : List S46) : Int → Nat → Nat → Int
  | m, _, 0 => m
  | m, i, d + 1 => upTo l (stepN l m (i : Int)) (i + 1) d
def segsFrom (l : List S46) : Nat → Nat → List Int
  | _, 0 => []
  | i, d + 1 => if hasN l (i : Int) = true then (i : Int) :: segsFrom l (i + 1) d else segsFrom l (i + 1) d
theorem spec_l03At_ev (l : List S46) (hl : l.length ≤ 1048576) (s : ByteArray) : Ev (fun k => spec_l03At.f k l s) (idxFrom (named s) l 0) := by
  unfold spec_l03At.f
  exact spec_l03At_l0 l hl s l 0 rfl (Nat.zero_le _)
/-- What stands at a name that is there. -/
theorem at_text (l : List S46) (s : ByteArray) (h : 0 ≤ idxFrom (named s) l 0) : idxFrom (named s) l 0 < (l.length : Int) ∧ (rd_T46 l (idxFrom (named s) l 0)).f1 = (fileAtOf l s).1 := by
  have := idx_range (named s) l 0
  unfold fileAtOf
  rw [if_neg (by omega)]
  exact ⟨by omega, rfl⟩
theorem spec_Segments_l0 (l : List S46) (hl : l.length ≤ 1048576) {r : List Int × Bool} : ∀ (d i : Nat) (m : Int), i + d = 100 → Ev (fun k => spec_Segments.l1 k [] (upTo l m i d) l) r → Ev (fun k => spec_Segments.l0 k [] m (i : Int) l) r := by
  intro d
  induction d with
  | zero =>
    intro i m hi e
    refine Ev.succ ?_
    simp only [spec_Segments.l0]
    exact Ev.neg (by omega) e
  | succ d ih =>
    intro i m hi e
    rw [upTo] at e
    have wi : wrap64 ((i : Int) + 1) = ((i + 1 : Nat) : Int) := (w64 (by omega) (by omega)).trans (by omega)
    have e1 := ih (i + 1) (stepN l m (i : Int)) (by omega) e
    refine Ev.succ ?_
    simp only [spec_Segments.l0, wi]
    refine Ev.pos (by omega) (Ev.bind (spec_SegName_ev _) (Ev.bind (spec_l03At_ev l hl _) ?_))
    by_cases c : idxFrom (named (segName (i : Int))) l 0 < 0
    · refine Ev.pos c ?_
      have hh : hasN l (i : Int) = false := by unfold hasN; exact decide_eq_false (by omega)
      unfold stepN at e1
      rw [hh, if_neg Bool.false_ne_true] at e1
      exact e1
    · have hh : hasN l (i : Int) = true := by unfold hasN; exact decide_eq_true (by omega)
      obtain ⟨a1, a2⟩ := at_text l (segName (i : Int)) (by omega)
      refine Ev.neg c (Ev.pos (by omega) (Ev.pos a1 ?_))
      rw [a2]
      obtain ⟨out, z, es⟩ := spec_ReadSegment_ev (i : Int) (fileAtOf l (segName (i : Int))).1
      refine Ev.bind es ?_
      unfold stepN at e1
      rw [hh, if_pos rfl] at e1
      by_cases c2 : okN l (i : Int) = true
      · rw [if_pos c2] at e1
        refine Ev.pos c2 ?_
        by_cases c3 : hN l (i : Int) > m
        · rw [if_pos c3] at e1
          exact Ev.pos c3 e1
        · rw [if_neg c3] at e1
          exact Ev.neg c3 e1
      · rw [if_neg c2] at e1
        exact Ev.neg c2 e1
theorem spec_Segments_l1 (l : List S46) (hl : l.length ≤ 1048576) : ∀ (d i : Nat) (acc : List Int), i + d = 100 → acc.length ≤ i →
    Ev (fun k => spec_Segments.l1 k acc (i : Int) l) (if (segsFrom l i d).all (okN l) = true then (acc ++ segsFrom l i d, decide (((acc ++ segsFrom l i d).length : Int) > 0)) else (([] : List Int), false)) := by
  intro d
  induction d with
  | zero =>
    intro i acc hi ha
    refine Ev.succ ?_
    simp only [spec_Segments.l1]
    exact Ev.neg (by omega) (Ev.ret (by rw [segsFrom, List.all_nil, if_pos rfl, List.append_nil]))
  | succ d ih =>
    intro i acc hi ha
    have wi : wrap64 ((i : Int) + 1) = ((i + 1 : Nat) : Int) := (w64 (by omega) (by omega)).trans (by omega)
    refine Ev.succ ?_
    simp only [spec_Segments.l1, wi]
    refine Ev.pos (by omega) (Ev.bind (spec_SegName_ev _) (Ev.bind (spec_l03At_ev l hl _) ?_))
    by_cases c : idxFrom (named (segName (i : Int))) l 0 < 0
    · refine Ev.pos c ?_
      have hh : hasN l (i : Int) = false := by unfold hasN; exact decide_eq_false (by omega)
      rw [segsFrom, hh, if_neg Bool.false_ne_true]
      exact ih (i + 1) acc (by omega) (by omega)
    · have hh : hasN l (i : Int) = true := by unfold hasN; exact decide_eq_true (by omega)
      obtain ⟨a1, a2⟩ := at_text l (segName (i : Int)) (by omega)
      refine Ev.neg c (Ev.pos (by omega) (Ev.pos a1 ?_))
      rw [a2]
      obtain ⟨out, z, es⟩ := spec_ReadSegment_ev (i : Int) (fileAtOf l (segName (i : Int))).1
      refine Ev.bind es ?_
      rw [segsFrom, hh, if_pos rfl, List.all_cons]
      by_cases c2 : okN l (i : Int) = true
      · refine Ev.pos c2 (Ev.pos (by omega) (Ev.to (ih (i + 1) (acc ++ [(i : Int)]) (by omega) (by simp; omega)) ?_))
        rw [c2, Bool.true_and, List.append_assoc]
        rfl
      · refine Ev.neg c2 (Ev.ret ?_)
        rw [Bool.eq_false_iff.2 c2, Bool.false_and, if_neg Bool.false_ne_true]

theorem idxFrom_find {α : Type} (p : α → Bool) : ∀ (l : List α) (i : Nat), (l.find? p = none ∧ idxFrom p l i = -1) ∨ ∃ j x, l.find? p = some x ∧ idxFrom p l i = ((i + j : Nat) : Int) ∧ l[j]? = some x
  | [], i => .inl ⟨rfl, rfl⟩
  | x :: t, i => by
    rw [idxFrom, List.find?_cons]
    cases h : p x with
    | true => exact .inr ⟨0, x, rfl, by rw [if_pos rfl]; rfl, rfl⟩
    | false =>
      rw [if_neg (by decide)]
      rcases idxFrom_find p t (i + 1) with ⟨h1, h2⟩ | ⟨j, y, h1, h2, h3⟩
      · exact .inl ⟨h1, by rw [← h2]; congr 1⟩
      · exact .inr ⟨j + 1, y, h1, by rw [show i + (j + 1) = i + 1 + j by omega, ← h2]; congr 1, by simpa using h3⟩

/-! both loops come to the same -/
theorem same_name : ∀ (l : List S46), l.Pairwise before → ∀ x ∈ l, ∀ y ∈ l, x.f0 = y.f0 → x = y
  | [], _, x, hx, _, _, _ => by cases hx
  | a :: t, h, x, hx, y, hy, e => by
    obtain ⟨h1, h2⟩ := List.pairwise_cons.1 h
    rcases List.mem_cons.1 hx with hx2 | hx2
    · rcases List.mem_cons.1 hy with hy2 | hy2
      · rw [hx2, hy2]
      · exact absurd (by rw [← hx2, e]) (before_ne (h1 y hy2))
    · rcases List.mem_cons.1 hy with hy2 | hy2
      · exact absurd (by rw [← hy2, e]) (before_ne (h1 x hx2))
      · exact same_name t h2 x hx2 y hy2 e
theorem idx_mem {l : List S46} (hp : l.Pairwise before) {f : S46} (hf : f ∈ l) {s : ByteArray} (hs : f.f0 = s) : 0 ≤ idxFrom (named s) l 0 ∧ (fileAtOf l s).1 = f.f1 := by
  rcases idxFrom_find (named s) l 0 with ⟨h1, h2⟩ | ⟨j, x, h1, h2, h3⟩
  · have := List.find?_eq_none.1 h1 f hf
    unfold named at this
    rw [hs] at this
    simp at this
  · have hx : x ∈ l := List.mem_of_getElem? h3
    have hn : x.f0 = s := by
      have := List.find?_some h1
      unfold named at this
      exact toList_iff.1 (of_decide_eq_true this)
    have e : x = f := same_name l hp x hx f hf (by rw [hn, hs])
    subst e
    replace h2 : idxFrom (named s) l 0 = ((0 + j : Nat) : Int) := h2
    refine ⟨by rw [h2]; omega, ?_⟩
    have hj : j < l.length := (List.getElem?_eq_some_iff.1 h3).1
    unfold fileAtOf
    rw [if_neg (by rw [h2]; omega), h2]
    have er : rd_T46 l ((0 + j : Nat) : Int) = l[j] := by rw [Nat.zero_add]; exact rdOf_get (d := z46) hj
    rw [er, (List.getElem?_eq_some_iff.1 h3).2]
theorem hasN_iff {l : List S46} (hp : l.Pairwise before) (n : Int) : hasN l n = true ↔ ∃ f ∈ l, f.f0 = segName n := by
  unfold hasN
  rw [decide_eq_true_eq]
  constructor
  · intro h
    rcases idxFrom_find (named (segName n)) l 0 with ⟨h1, h2⟩ | ⟨j, x, h1, h2, h3⟩
    · replace h2 : idxFrom (named (segName n)) l 0 = -1 := h2
      omega
    · have := List.find?_some h1
      unfold named at this
      exact ⟨x, List.mem_of_getElem? h3, toList_iff.1 (of_decide_eq_true this)⟩
  · rintro ⟨f, hf, hs⟩
    exact (idx_mem hp hf hs).1
/-- A file's number tells its name, and the head. -/
theorem num_file {l : List S46} (hp : l.Pairwise before) (hz : ∀ f ∈ l, f.f0.size ≤ 1048576) {f : S46} (hf : f ∈ l) (h : ¬ segNum f.f0 < 0) : ∃ n : Nat, n ≤ 99 ∧ segNum f.f0 = (n : Int) ∧ f.f0 = segName (n : Int) ∧ hasN l (n : Int) = true ∧ segHead (segNum f.f0) f.f1 = (hN l (n : Int), okN l (n : Int)) := by
  rcases segNum_cases f.f0 (hz f hf) with ⟨n, h1, h2, h3⟩ | ⟨_, h3⟩
  · refine ⟨n, h1, h3, h2, (hasN_iff hp _).2 ⟨f, hf, h2⟩, ?_⟩
    unfold hN okN
    rw [(idx_mem hp hf h2).2, h3]
  · omega
theorem file_num {l : List S46} (hp : l.Pairwise before) (hz : ∀ f ∈ l, f.f0.size ≤ 1048576) {n : Nat} (hn : n ≤ 99) (h : hasN l (n : Int) = true) : ∃ f ∈ l, segNum f.f0 = (n : Int) ∧ segHead (segNum f.f0) f.f1 = (hN l (n : Int), okN l (n : Int)) := by
  obtain ⟨f, hf, hs⟩ := (hasN_iff hp _).1 h
  rcases segNum_cases f.f0 (hz f hf) with ⟨m, h1, h2, h3⟩ | ⟨h2, _⟩
  · have e : m = n := segName_inj h1 hn (by rw [← h2, hs])
    subst e
    refine ⟨f, hf, h3, ?_⟩
    unfold hN okN
    rw [(idx_mem hp hf hs).2, h3]
  · exact absurd hs (h2 n hn)
theorem hN_facts (l : List S46) (n : Int) : 0 ≤ hN l n ∧ (okN l n = false → hN l n = 0) ∧ (0 ≤ n → hN l n ≤ n) := segHead_facts n _
theorem mx_le (a b : Int) : a ≤ mx a b ∧ b ≤ mx a b ∧ (mx a b = a ∨ mx a b = b) := by
  unfold mx
  split <;> omega
theorem leastOf_facts : ∀ (t : List S46) (m : Int), m ≤ leastOf m t ∧ (∀ f ∈ t, ¬ segNum f.f0 < 0 → (segHead (segNum f.f0) f.f1).1 ≤ leastOf m t) ∧ (leastOf m t = m ∨ ∃ f ∈ t, ¬ segNum f.f0 < 0 ∧ (segHead (segNum f.f0) f.f1).1 = leastOf m t)
  | [], m => ⟨Int.le_refl _, fun f hf => (by cases hf), .inl rfl⟩
  | a :: t, m => by
    rw [leastOf]
    by_cases c : segNum a.f0 < 0
    · rw [if_pos c]
      obtain ⟨h1, h2, h3⟩ := leastOf_facts t m
      refine ⟨h1, fun f hf hc => ?_, ?_⟩
      · rcases List.mem_cons.1 hf with rfl | hf
        · exact absurd c hc
        · exact h2 f hf hc
      · rcases h3 with h3 | ⟨f, hf, h3⟩
        · exact .inl h3
        · exact .inr ⟨f, List.mem_cons_of_mem _ hf, h3⟩
    · rw [if_neg c]
      obtain ⟨h1, h2, h3⟩ := leastOf_facts t (mx m (segHead (segNum a.f0) a.f1).1)
      obtain ⟨g1, g2, g3⟩ := mx_le m (segHead (segNum a.f0) a.f1).1
      refine ⟨by omega, fun f hf hc => ?_, ?_⟩
      · rcases List.mem_cons.1 hf with rfl | hf
        · omega
        · exact h2 f hf hc
      · rcases h3 with h3 | ⟨f, hf, h3⟩
        · rcases g3 with g3 | g3
          · exact .inl (by rw [h3, g3])
          · exact .inr ⟨a, List.mem_cons_self, c, by rw [h3, g3]⟩
        · exact .inr ⟨f, List.mem_cons_of_mem _ hf, h3⟩
theorem stepN_facts (l : List S46) (m n : Int) (hm : 0 ≤ m) : m ≤ stepN l m n ∧ (hasN l n = true → hN l n ≤ stepN l m n) ∧ (stepN l m n = m ∨ (hasN l n = true ∧ hN l n = stepN l m n)) := by
  obtain ⟨h1, h2, _⟩ := hN_facts l n
  unfold stepN
  by_cases c : hasN l n = true
  · rw [if_pos c]
    by_cases d : okN l n = true
    · rw [if_pos d]
      by_cases e : hN l n > m
      · rw [if_pos e]; exact ⟨by omega, fun _ => Int.le_refl _, .inr ⟨c, rfl⟩⟩
      · rw [if_neg e]; exact ⟨Int.le_refl _, fun _ => (by omega), .inl rfl⟩
    · rw [if_neg d]
      have := h2 (Bool.eq_false_iff.2 d)
      exact ⟨Int.le_refl _, fun _ => (by omega), .inl rfl⟩
  · rw [if_neg c]; exact ⟨Int.le_refl _, fun h => absurd h c, .inl rfl⟩
theorem upTo_facts (l : List S46) : ∀ (d i : Nat) (m : Int), 0 ≤ m → m ≤ upTo l m i d ∧ (∀ n : Nat, i ≤ n → n < i + d → hasN l (n : Int) = true → hN l (n : Int) ≤ upTo l m i d) ∧ (upTo l m i d = m ∨ ∃ n : Nat, i ≤ n ∧ n < i + d ∧ hasN l (n : Int) = true ∧ hN l (n : Int) = upTo l m i d) := by
  intro d
  induction d with
  | zero => intro i m hm; exact ⟨Int.le_refl _, fun n h1 h2 => (by omega), .inl rfl⟩
  | succ d ih =>
    intro i m hm
    rw [upTo]
    obtain ⟨g1, g2, g3⟩ := stepN_facts l m (i : Int) hm
    obtain ⟨h1, h2, h3⟩ := ih (i + 1) (stepN l m (i : Int)) (by omega)
    refine ⟨by omega, fun n n1 n2 hn => ?_, ?_⟩
    · by_cases e : n = i
      · subst e
        have := g2 hn
        omega
      · exact h2 n (by omega) (by omega) hn
    · rcases h3 with h3 | ⟨n, n1, n2, h3⟩
      · rcases g3 with g3 | ⟨g3, g4⟩
        · exact .inl (by rw [h3, g3])
        · exact .inr ⟨i, Nat.le_refl _, by omega, g3, by rw [h3, g4]⟩
      · exact .inr ⟨n, by omega, by omega, h3⟩
theorem least_same {l : List S46} (hp : l.Pairwise before) (hz : ∀ f ∈ l, f.f0.size ≤ 1048576) : leastOf 0 l = upTo l 0 0 100 ∧ 0 ≤ upTo l 0 0 100 ∧ upTo l 0 0 100 ≤ 99 := by
  obtain ⟨a1, a2, a3⟩ := leastOf_facts l 0
  obtain ⟨b1, b2, b3⟩ := upTo_facts l 100 0 0 (Int.le_refl _)
  have hle : upTo l 0 0 100 ≤ 99 := by
    rcases b3 with b3 | ⟨n, n1, n2, n3, n4⟩
    · omega
    · have := (hN_facts l (n : Int)).2.2 (by omega)
      omega
  refine ⟨Int.le_antisymm ?_ ?_, b1, hle⟩
  · rcases a3 with a3 | ⟨f, hf, c, e⟩
    · omega
    · obtain ⟨n, n1, n2, n3, n4, n5⟩ := num_file hp hz hf c
      have := b2 n (Nat.zero_le _) (by omega) n4
      rw [n5] at e
      have e2 : hN l (n : Int) = leastOf 0 l := e
      omega
  · rcases b3 with b3 | ⟨n, n1, n2, n3, n4⟩
    · omega
    · obtain ⟨f, hf, e1, e2⟩ := file_num hp hz (n := n) (by omega) n3
      have := a2 f hf (by omega)
      rw [e2] at this
      have e3 : hN l (n : Int) ≤ leastOf 0 l := this
      omega
theorem numsOf_mem : ∀ (l : List S46) (x : Int), x ∈ numsOf l ↔ ∃ f ∈ l, ¬ segNum f.f0 < 0 ∧ segNum f.f0 = x
  | [], x => by simp [numsOf]
  | a :: t, x => by
    rw [numsOf]
    by_cases c : segNum a.f0 < 0
    · rw [if_pos c, numsOf_mem t x]
      constructor
      · rintro ⟨f, hf, h⟩; exact ⟨f, List.mem_cons_of_mem _ hf, h⟩
      · rintro ⟨f, hf, h⟩
        rcases List.mem_cons.1 hf with rfl | hf
        · exact absurd c h.1
        · exact ⟨f, hf, h⟩
    · rw [if_neg c, List.mem_cons, numsOf_mem t x]
      constructor
      · rintro (h | ⟨f, hf, h⟩)
        · exact ⟨a, List.mem_cons_self, c, h.symm⟩
        · exact ⟨f, List.mem_cons_of_mem _ hf, h⟩
      · rintro ⟨f, hf, h⟩
        rcases List.mem_cons.1 hf with rfl | hf
        · exact .inl h.2.symm
        · exact .inr ⟨f, hf, h⟩
theorem numsOf_nodup : ∀ (l : List S46), l.Pairwise before → (∀ f ∈ l, f.f0.size ≤ 1048576) → (numsOf l).Nodup
  | [], _, _ => List.nodup_nil
  | a :: t, hp, hz => by
    obtain ⟨h1, h2⟩ := List.pairwise_cons.1 hp
    have ih := numsOf_nodup t h2 (fun f hf => hz f (List.mem_cons_of_mem _ hf))
    rw [numsOf]
    by_cases c : segNum a.f0 < 0
    · rw [if_pos c]; exact ih
    · rw [if_neg c]
      refine List.nodup_cons.2 ⟨fun hm => ?_, ih⟩
      obtain ⟨f, hf, c2, e⟩ := (numsOf_mem t _).1 hm
      rcases segNum_cases a.f0 (hz a List.mem_cons_self) with ⟨n, n1, n2, n3⟩ | ⟨_, n3⟩
      · rcases segNum_cases f.f0 (hz f (List.mem_cons_of_mem _ hf)) with ⟨m, m1, m2, m3⟩ | ⟨_, m3⟩
        · have en : n = m := by omega
          exact before_ne (h1 f hf) (by rw [n2, m2, en])
        · omega
      · omega
theorem segsFrom_mem (l : List S46) : ∀ (d i : Nat) (x : Int), x ∈ segsFrom l i d ↔ ∃ n : Nat, i ≤ n ∧ n < i + d ∧ hasN l (n : Int) = true ∧ x = (n : Int) := by
  intro d
  induction d with
  | zero => intro i x; simp [segsFrom]; intro n h1 h2; omega
  | succ d ih =>
    intro i x
    have key : (∃ n : Nat, i ≤ n ∧ n < i + (d + 1) ∧ hasN l (n : Int) = true ∧ x = (n : Int)) ↔ (hasN l (i : Int) = true ∧ x = (i : Int)) ∨ ∃ n : Nat, i + 1 ≤ n ∧ n < i + 1 + d ∧ hasN l (n : Int) = true ∧ x = (n : Int) := by
      constructor
      · rintro ⟨n, n1, n2, n3, n4⟩
        by_cases e : n = i
        · subst e; exact .inl ⟨n3, n4⟩
        · exact .inr ⟨n, by omega, by omega, n3, n4⟩
      · rintro (⟨h1, h2⟩ | ⟨n, n1, n2, n3, n4⟩)
        · exact ⟨i, Nat.le_refl _, by omega, h1, h2⟩
        · exact ⟨n, by omega, by omega, n3, n4⟩
    rw [key, segsFrom]
    by_cases c : hasN l (i : Int) = true
    · rw [if_pos c, List.mem_cons, ih (i + 1) x]
      simp [c]
    · rw [if_neg c, ih (i + 1) x]
      simp [c]
theorem segsFrom_up (l : List S46) : ∀ (d i : Nat), (segsFrom l i d).Pairwise (fun a b => a < b) := by
  intro d
  induction d with
  | zero => intro i; exact List.Pairwise.nil
  | succ d ih =>
    intro i
    rw [segsFrom]
    split
    · refine List.pairwise_cons.2 ⟨fun x hx => ?_, ih (i + 1)⟩
      obtain ⟨n, n1, _, _, n4⟩ := (segsFrom_mem l d (i + 1) x).1 hx
      omega
    · exact ih (i + 1)
theorem segsFrom_length (l : List S46) : ∀ (d i : Nat), (segsFrom l i d).length ≤ d := by
  intro d
  induction d with
  | zero => intro i; exact Nat.le_refl _
  | succ d ih =>
    intro i
    rw [segsFrom]
    have := ih (i + 1)
    split <;> simp <;> omega
theorem list_same {l : List S46} (hp : l.Pairwise before) (hz : ∀ f ∈ l, f.f0.size ≤ 1048576) (m : Nat) (hm : m ≤ 99) : pickI (numsOf l) (m : Int) = segsFrom l m (100 - m) := by
  have hperm : (sortI (numsOf l)).Perm (numsOf l) := List.mergeSort_perm _ _
  have hsort : (sortI (numsOf l)).Pairwise (fun a b => a ≤ b) :=
    (List.pairwise_mergeSort (le := fun (x y : Int) => decide (x ≤ y)) (fun a b c h1 h2 => by simp only [decide_eq_true_eq] at *; omega) (fun a b => by simp only [Bool.or_eq_true, decide_eq_true_eq]; omega) (numsOf l)).imp (fun h => of_decide_eq_true h)
  have hnd : (pickI (numsOf l) (m : Int)).Nodup := (hperm.nodup_iff.2 (numsOf_nodup l hp hz)).sublist List.filter_sublist
  have hup := segsFrom_up l (100 - m) m
  refine List.Perm.eq_of_pairwise (le := fun (a b : Int) => a ≤ b) (fun a b _ _ h1 h2 => by omega) (hsort.sublist List.filter_sublist) (hup.imp (fun h => Int.le_of_lt h)) ?_
  rw [List.perm_ext_iff_of_nodup hnd (hup.imp (fun h => Int.ne_of_lt h))]
  intro x
  unfold pickI
  rw [List.mem_filter, hperm.mem_iff, numsOf_mem, segsFrom_mem]
  constructor
  · rintro ⟨⟨f, hf, c, rfl⟩, h2⟩
    obtain ⟨n, n1, n2, n3, n4, _⟩ := num_file hp hz hf c
    simp only [Bool.not_eq_true', decide_eq_false_iff_not] at h2
    exact ⟨n, by omega, by omega, n4, n2⟩
  · rintro ⟨n, n1, n2, n3, rfl⟩
    obtain ⟨f, hf, e1, _⟩ := file_num hp hz (n := n) (by omega) n3
    exact ⟨⟨f, hf, by omega, e1⟩, by simp; omega⟩
def segments (l : List S46) : List Int × Bool :=
  if diskOk l = true then (if (segsFrom l (upTo l 0 0 100).toNat (100 - (upTo l 0 0 100).toNat)).all (okN l) = true then (segsFrom l (upTo l 0 0 100).toNat (100 - (upTo l 0 0 100).toNat), decide (((segsFrom l (upTo l 0 0 100).toNat (100 - (upTo l 0 0 100).toNat)).length : Int) > 0)) else (([] : List Int), false)) else (([] : List Int), false)
theorem segments_length (l : List S46) : (segments l).1.length ≤ 100 := by
  unfold segments
  have := segsFrom_length l (100 - (upTo l 0 0 100).toNat) (upTo l 0 0 100).toNat
  split
  · split
    · show (segsFrom l (upTo l 0 0 100).toNat (100 - (upTo l 0 0 100).toNat)).length ≤ 100; omega
    · exact Nat.zero_le _
  · exact Nat.zero_le _
theorem disk_small {l : List S46} (h : diskOk l = true) : l.Pairwise before ∧ l.length ≤ 30 ∧ ∀ f ∈ l, f.f0.size ≤ 1048576 := by
  obtain ⟨h1, h2, h3⟩ := disk_pair h
  refine ⟨h1, h3, fun f hf => ?_⟩
  have := (fileOk_name (h2 f hf)).1
  unfold nameOk at this
  have := of_decide_eq_true this
  omega
theorem spec_Segments_ev (l : List S46) (hl : l.length ≤ 1048576) : Ev (fun k => spec_Segments.f k l) (segments l) := by
  unfold spec_Segments.f segments
  refine Ev.bind0 rfl (Ev.bind (spec_DiskOk_ev l hl) ?_)
  by_cases h : diskOk l = true
  · obtain ⟨hp, hz, hn⟩ := disk_small h
    obtain ⟨_, b1, b2⟩ := least_same hp hn
    refine Ev.pos h (Ev.tpos h (spec_Segments_l0 l hl 100 0 0 rfl ?_))
    have e := spec_Segments_l1 l hl (100 - (upTo l 0 0 100).toNat) (upTo l 0 0 100).toNat [] (by omega) (Nat.zero_le _)
    rw [Int.toNat_of_nonneg b1] at e
    exact e
  · exact Ev.neg h (Ev.tneg h (Ev.now _))
theorem impl_Segments_ev (l : List S46) (hl : l.length ≤ 1048576) : Ev (fun k => impl_Segments.f k l) (segments l) := by
  unfold impl_Segments.f segments
  refine Ev.bind (impl_DiskOk_ev l hl) ?_
  by_cases h : diskOk l = true
  · obtain ⟨hp, hz, hn⟩ := disk_small h
    obtain ⟨b0, b1, b2⟩ := least_same hp hn
    have es := list_same hp hn (upTo l 0 0 100).toNat (by omega)
    rw [Int.toNat_of_nonneg b1] at es
    refine Ev.pos h (Ev.tpos h (impl_Segments_l0 l (by omega) hn l 0 [] 0 rfl (Nat.zero_le _) (Nat.zero_le _) ?_))
    rw [List.nil_append, b0, es]
    have hlen := segsFrom_length l (100 - (upTo l 0 0 100).toNat) (upTo l 0 0 100).toNat
    clear es
    generalize segsFrom l (upTo l 0 0 100).toNat (100 - (upTo l 0 0 100).toNat) = L at hlen ⊢
    refine Ev.to (impl_Segments_l1 L (by omega) l L 0 rfl (Nat.zero_le _)) ?_
    cases hA : L.all (okN l) with
    | true =>
      rw [if_pos rfl, if_pos rfl]
      by_cases c : (L.length : Int) = 0
      · have e0 : L = [] := List.eq_nil_of_length_eq_zero (by omega)
        subst e0
        rfl
      · rw [if_neg c, decide_eq_true (by omega)]
    | false => rw [if_neg Bool.false_ne_true, if_neg Bool.false_ne_true]
  · exact Ev.neg h (Ev.tneg h (Ev.now _))

/-! the law -/
def marksI : Nat → Nat → List Int
  | _, 0 => []
  | a, d + 1 => (a : Int) :: marksI (a + 1) d
theorem laws_markIntS_l0 : ∀ (d i a : Nat) (xs : List Int), xs.length = i + d → xs.length ≤ 1048576 → a + d < 4611686018427387904 → Ev (fun k => laws_markIntS.l0 k xs (a : Int) (i : Int)) (((a + d : Nat) : Int), xs.take i ++ marksI a d) := by
  intro d
  induction d with
  | zero =>
    intro i a xs hx hb hz
    refine Ev.succ ?_
    simp only [laws_markIntS.l0]
    exact Ev.neg (by omega) (Ev.ret (by rw [marksI, List.append_nil, List.take_of_length_le (by omega)]; rfl))
  | succ d ih =>
    intro i a xs hx hb hz
    have e := ih (i + 1) (a + 1) (xs.set i (a : Int)) (by rw [List.length_set]; omega) (by rw [List.length_set]; omega) (by omega)
    rw [show a + 1 + d = a + (d + 1) from by omega, take_set_snoc _ _ _ (by omega), List.append_assoc] at e
    refine Ev.succ ?_
    simp only [laws_markIntS.l0, w64 (n := (i : Int) + 1) (by omega) (by omega), w64 (n := (a : Int) + 1) (by omega) (by omega), Int.toNat_natCast]
    exact Ev.pos (by omega) (Ev.pos (by omega) e)
theorem laws_markIntS_ev (xs : List Int) (hb : xs.length ≤ 1048576) : Ev (fun k => laws_markIntS.f k xs 1) (((1 + xs.length : Nat) : Int), marksI 1 xs.length) :=
  laws_markIntS_l0 xs.length 0 1 xs (by omega) hb (by omega)
theorem marksI_length : ∀ (d a : Nat), (marksI a d).length = d
  | 0, _ => rfl
  | d + 1, a => by rw [marksI, List.length_cons, marksI_length d]
theorem laws_heldIntS_l0 (xs : List Int) (hb : xs.length ≤ 1048576) : ∀ (d i a : Nat), xs.drop i = marksI a d → i ≤ xs.length → a + d < 4611686018427387904 → Ev (fun k => laws_heldIntS.l0 k xs (a : Int) (i : Int)) ((a + d : Nat) : Int) := by
  intro d
  induction d with
  | zero =>
    intro i a hx hi hz
    have := drop_nil_len hx
    refine Ev.succ ?_
    simp only [laws_heldIntS.l0]
    exact Ev.neg (by omega) (Ev.now _)
  | succ d ih =>
    intro i a hx hi hz
    rw [marksI] at hx
    obtain ⟨h1, h2, h3⟩ := rd_drop hx
    have e := ih (i + 1) (a + 1) h3 (by omega) (by omega)
    rw [show a + 1 + d = a + (d + 1) from by omega] at e
    refine Ev.succ ?_
    simp only [laws_heldIntS.l0, h1, w64 (n := (i : Int) + 1) (by omega) (by omega), w64 (n := (a : Int) + 1) (by omega) (by omega)]
    exact Ev.pos (by omega) (Ev.pos (by omega) e)
theorem laws_heldIntS_ev (n : Nat) (hb : n ≤ 1048576) : Ev (fun k => laws_heldIntS.f k (marksI 1 n) 1) ((1 + n : Nat) : Int) :=
  laws_heldIntS_l0 (marksI 1 n) (by rw [marksI_length]; omega) n 0 1 rfl (Nat.zero_le _) (by omega)
theorem FnExactSegments (l : List S59) (o : l.length ≤ maxLen ∧ ∀ x ∈ l, x.f0.size ≤ maxLen ∧ x.f1.size ≤ maxLen ∧ (Lit.int .i64 x.f2).wf = true) : ∃ k, laws_FnExactSegments.f k l = some true := by
  have hl := o.1
  have hf : ∀ x ∈ l, fileFits x := fun x hx => ⟨(o.2 x hx).1, (o.2 x hx).2.1⟩
  refine Ev.rounds (r := true) ?_
  unfold laws_FnExactSegments.f
  obtain ⟨r, e, hr⟩ := laws_szDisk_ev l hl hf 1048576 (by omega) (by omega)
  refine Ev.bind e ?_
  by_cases h0 : r < 0
  · exact Ev.pos h0 (Ev.now _)
  have hb := (hr (by omega)).2.1
  have hm : (l.map toF).length ≤ 1048576 := by rw [List.length_map]; omega
  have hres : (segments (l.map toF)).1.length ≤ 1048576 := Nat.le_trans (segments_length _) (by omega)
  have E1 := laws_toDisk_ev l (by omega)
  have E3 := impl_Segments_ev (l.map toF) hm
  have EQ := laws_eqIntS_ev _ hres
  refine Ev.neg h0 (Ev.bind E1 (Ev.bind (spec_Segments_ev _ hm) (Ev.bind E1 (Ev.bind E3 (Ev.bind EQ (Ev.pos rfl (Ev.succ ?_)))))))
  simp only [laws_FnExactSegments.j0]
  refine Ev.neg (by simp) (Ev.bind E1 (Ev.bind (laws_eqDisk_ev _ hm) (Ev.pos rfl (Ev.bind (laws_markDisk_ev _ hm) (Ev.neg (by omega) (Ev.bind EQ (Ev.pos rfl (Ev.succ ?_))))))))
  simp only [laws_FnExactSegments.j1]
  refine Ev.neg (by simp) (Ev.bind (laws_markIntS_ev _ hres) (Ev.bind (laws_heldIntS_ev _ hres) (Ev.neg (by omega) (Ev.pos rfl (Ev.bind E1 (Ev.bind E3 (Ev.bind EQ (Ev.pos rfl (Ev.succ ?_)))))))))
  simp only [laws_FnExactSegments.j2]
  exact Ev.neg (by simp) (Ev.bind (laws_heldIntS_ev _ hres) (Ev.neg (by omega) (Ev.pos rfl (Ev.now _))))

end Go.Proofs.YtlekhcopddajbaaGreatDoor.Pure
