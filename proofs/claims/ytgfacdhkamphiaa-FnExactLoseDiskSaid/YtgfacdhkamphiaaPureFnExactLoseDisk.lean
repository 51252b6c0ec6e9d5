/- For every disk and list that read as data both programs' LoseDisk come to the same disk and answer, of memory of its own, and the arguments are left as they were. -/
import Derived.Test.YtgfacdhkamphiaaOFnExactLoseDiskx9
import Derived.Test.YtgfacdhkamphiaaBase
import Derived.Test.YtgfacdhkamphiaaBase2
import Derived.Test.YtgfacdhkamphiaaBase3
namespace Go.Proofs.Ytgfacdhkamphiaa.Pure
open Go.RowKit Go.Proofs.Ytgfacdhkamphiaa.PFnExactLoseDisk Go.Proofs.YtgfacdhkamphiaaW.PrintWords Go.Proofs.YtgfacdhkamphiaaW.PrintLast Go.Proofs.Ytgfacdhkamphiaa.Base
set_option linter.unusedVariables false
set_option linter.unusedSimpArgs false

theorem spec_l01In_eq (a b c : Int) : spec_l01In.f a b c = some (decide (b ≤ a ∧ a ≤ c)) := by
  unfold spec_l01In.f
  by_cases h : b ≤ a <;> simp [h]

theorem impl_within_eq (a b c : Int) : impl_within.f a b c = some (decide (b ≤ a ∧ a ≤ c)) := by
  unfold impl_within.f
  by_cases h : b ≤ a <;> simp [h]

theorem laws_szFile_some (x : S134) (h0 : x.f0.size ≤ maxLen) (h1 : x.f1.size ≤ maxLen) (left : Int) (g0 : 0 ≤ left) (g1 : left ≤ 1048576) :
    ∃ r, laws_szFile.f x.f0 x.f1 x.f2 left = some r ∧ (0 ≤ r → r ≤ left ∧ (x.f0.size : Int) ≤ left ∧ (x.f1.size : Int) ≤ left) := by
  unfold maxLen at h0 h1
  unfold laws_szFile.f
  rw [w64 (n := left - (x.f0.size : Int)) (by omega) (by omega)]
  by_cases c1 : left - (x.f0.size : Int) < 0
  · rw [if_pos c1]; exact ⟨_, rfl, fun h => by omega⟩
  rw [if_neg c1, w64 (n := left - (x.f0.size : Int) - (x.f1.size : Int)) (by omega) (by omega)]
  by_cases c2 : left - (x.f0.size : Int) - (x.f1.size : Int) < 0
  · rw [if_pos c2]; exact ⟨_, rfl, fun h => by omega⟩
  rw [if_neg c2]; exact ⟨_, rfl, fun h => by omega⟩
theorem rd_T134_drop {xs : List S134} {i : Nat} {a : S134} {t : List S134} (h : xs.drop i = a :: t) : rd_T134 xs (i : Int) = a ∧ i < xs.length ∧ xs.drop (i + 1) = t := rdOf_drop (d := z134) h
def fileFits (x : S134) : Prop := x.f0.size ≤ maxLen ∧ x.f1.size ≤ maxLen
theorem laws_szFileS_l0 (l : List S134) (hl : l.length ≤ 1048576) (hf : ∀ x ∈ l, fileFits x) : ∀ (t : List S134) (i : Nat) (left : Int), l.drop i = t → i ≤ l.length → 0 ≤ left → left ≤ 1048576 →
    ∃ r, Ev (fun k => laws_szFileS.l0 k l left (i : Int)) r ∧ (0 ≤ r → r ≤ left ∧ ∀ x ∈ t, (x.f0.size : Int) ≤ left ∧ (x.f1.size : Int) ≤ left) := by
  intro t
  induction t with
  | nil =>
    intro i left ht hi g0 g1
    have := drop_nil_len ht
    exact ⟨left, Ev.step (f := fun _ => some left) (fun k => by rw [laws_szFileS.l0, if_neg (by omega)]) (Ev.now _), fun _ => ⟨Int.le_refl _, fun x hx => by cases hx⟩⟩
  | cons a t ih =>
    intro i left ht hi g0 g1
    obtain ⟨h1, h2, h3⟩ := rd_T134_drop ht
    have ha : fileFits a := hf a (List.mem_of_mem_drop (by rw [ht]; exact List.mem_cons_self))
    obtain ⟨r, e, hr⟩ := laws_szFile_some a ha.1 ha.2 left g0 g1
    by_cases hr0 : r < 0
    · refine ⟨-1, Ev.step (f := fun _ => some (-1)) (fun k => ?_) (Ev.now _), fun h => by omega⟩
      rw [laws_szFileS.l0, if_pos (by omega), if_pos (by omega), h1, e, Option.bind_some, if_pos hr0]
    · have hr := hr (by omega)
      obtain ⟨r2, e2, hr2⟩ := ih (i + 1) r h3 (by omega) (by omega) (by omega)
      refine ⟨r2, Ev.step (fun k => ?_) e2, fun h => ⟨by have := (hr2 h).1; omega, fun x hx => ?_⟩⟩
      · rw [laws_szFileS.l0, if_pos (by omega), if_pos (by omega), h1, e, Option.bind_some, if_neg hr0, w64 (by omega) (by omega)]
        rfl
      · rcases List.mem_cons.1 hx with rfl | hx
        · exact hr.2
        · have := (hr2 h).2 x hx
          omega
theorem laws_szFileS_ev (l : List S134) (hl : l.length ≤ maxLen) (hf : ∀ x ∈ l, fileFits x) (left : Int) (g0 : 0 ≤ left) (g1 : left ≤ 1048576) :
    ∃ r, Ev (fun k => laws_szFileS.f k l left) r ∧ (0 ≤ r → r ≤ left ∧ (l.length : Int) ≤ left ∧ ∀ x ∈ l, (x.f0.size : Int) ≤ left ∧ (x.f1.size : Int) ≤ left) := by
  unfold maxLen at hl
  unfold laws_szFileS.f
  rw [w64 (n := left - (l.length : Int)) (by omega) (by omega)]
  by_cases c1 : left - (l.length : Int) < 0
  · exact ⟨-1, Ev.pos c1 (Ev.now _), fun h => by omega⟩
  · obtain ⟨r, e, hr⟩ := laws_szFileS_l0 l (by omega) hf l 0 (left - (l.length : Int)) rfl (Nat.zero_le _) (by omega) (by omega)
    exact ⟨r, Ev.neg c1 e, fun h => ⟨by have := (hr h).1; omega, by omega, fun x hx => by have := (hr h).2 x hx; omega⟩⟩
theorem laws_szDisk_ev (l : List S134) (hl : l.length ≤ maxLen) (hf : ∀ x ∈ l, fileFits x) (left : Int) (g0 : 0 ≤ left) (g1 : left ≤ 1048576) :
    ∃ r, Ev (fun k => laws_szDisk.f k l left) r ∧ (0 ≤ r → r ≤ left ∧ (l.length : Int) ≤ left ∧ ∀ x ∈ l, (x.f0.size : Int) ≤ left ∧ (x.f1.size : Int) ≤ left) := by
  obtain ⟨r, e, hr⟩ := laws_szFileS_ev l hl hf left g0 g1
  unfold laws_szDisk.f
  by_cases hr0 : r < 0
  · exact ⟨-1, Ev.bind e (Ev.pos hr0 (Ev.now _)), fun h => by omega⟩
  · exact ⟨r, Ev.bind e (Ev.neg hr0 (Ev.now _)), hr⟩

def toF (x : S134) : S45 := ⟨x.f0, x.f1, x.f2⟩
theorem laws_toFileS_l0 (l : List S134) (hl : l.length ≤ 1048576) : ∀ (d i : Nat) (xs : List S45), xs.length = l.length → i + d = l.length → xs.take i = (l.take i).map toF → Ev (fun k => laws_toFileS.l0 k l xs (i : Int)) (l.map toF) := by
  intro d
  induction d with
  | zero =>
    intro i xs hx hi ht
    refine Ev.step (f := fun _ => some xs) (fun k => by rw [laws_toFileS.l0, if_neg (by omega)]) (Ev.ret ?_)
    rw [List.take_of_length_le (by omega), List.take_of_length_le (by omega)] at ht
    exact ht
  | succ d ih =>
    intro i xs hx hi ht
    have hr : rd_T134 l (i : Int) = l[i] := rdOf_get (d := z134) (by omega)
    refine Ev.step (fun k => ?_) (ih (i + 1) (xs.set i (toF l[i])) (by rw [List.length_set]; exact hx) (by omega) ?_)
    · rw [laws_toFileS.l0, if_pos (by omega), if_pos (by omega), hr, laws_toFile.f, Option.bind_some, if_pos (by omega), w64 (by omega) (by omega), Int.toNat_natCast]
      rfl
    · rw [take_set_snoc _ _ _ (by omega), ht, List.take_succ_eq_append_getElem (by omega), List.map_append, List.map_singleton]
theorem laws_toFileS_ev (l : List S134) (hl : l.length ≤ 1048576) : Ev (fun k => laws_toFileS.f k l) (l.map toF) := by
  unfold laws_toFileS.f
  exact Ev.pos (by omega) (Ev.pos (by omega) (laws_toFileS_l0 l hl l.length 0 _ (by rw [List.length_replicate]; omega) (by omega) rfl))
theorem laws_toDisk_ev (l : List S134) (hl : l.length ≤ 1048576) : Ev (fun k => laws_toDisk.f k l) (l.map toF) := by
  unfold laws_toDisk.f
  exact Ev.bind (laws_toFileS_ev l hl) (Ev.now _)

theorem rd_T45_drop {xs : List S45} {i : Nat} {a : S45} {t : List S45} (h : xs.drop i = a :: t) : rd_T45 xs (i : Int) = a ∧ i < xs.length ∧ xs.drop (i + 1) = t := rdOf_drop (d := z45) h
theorem laws_eqFile_self (x : S45) : laws_eqFile.f x.f0 x.f1 x.f2 x.f0 x.f1 x.f2 = some true := by
  unfold laws_eqFile.f
  rw [if_pos rfl, if_pos rfl, if_pos rfl]
theorem laws_eqFileS_l0 (l : List S45) (hl : l.length ≤ 1048576) : ∀ (t : List S45) (i : Nat), l.drop i = t → i ≤ l.length → Ev (fun k => laws_eqFileS.l0 k l l (i : Int)) true := by
  intro t
  induction t with
  | nil =>
    intro i ht hi
    have := drop_nil_len ht
    exact Ev.step (f := fun _ => some true) (fun k => by rw [laws_eqFileS.l0, if_neg (by omega)]) (Ev.now _)
  | cons a t ih =>
    intro i ht hi
    obtain ⟨h1, h2, h3⟩ := rd_T45_drop ht
    refine Ev.step (fun k => ?_) (ih (i + 1) h3 (by omega))
    rw [laws_eqFileS.l0, if_pos (by omega), if_pos (by omega), if_pos (by omega), h1, laws_eqFile_self, Option.bind_some, if_pos rfl, w64 (by omega) (by omega)]
    rfl
theorem laws_eqDisk_ev (l : List S45) (hl : l.length ≤ 1048576) : Ev (fun k => laws_eqDisk.f k l l) true := by
  unfold laws_eqDisk.f laws_eqFileS.f
  exact Ev.bind (Ev.pos rfl (laws_eqFileS_l0 l hl l 0 rfl (Nat.zero_le _))) (Ev.pos rfl (Ev.now _))

/-- A file of a right disk, behind the one ahead. -/
def fileOk (x : S45) : Bool := decide (1 ≤ (x.f0.size : Int) ∧ (x.f0.size : Int) ≤ 8) && decide ((x.f1.size : Int) ≤ 20000) && decide (0 ≤ x.f2 ∧ x.f2 ≤ (x.f1.size : Int))
def filesOk : Option S45 → List S45 → Bool
  | _, [] => true
  | none, x :: l => fileOk x && filesOk (some x) l
  | some y, x :: l => fileOk x && Op.bytesLess y.f0.toList x.f0.toList && filesOk (some x) l
def diskOk (l : List S45) : Bool := decide (l.length ≤ 30) && filesOk none l
def ahead (l : List S45) (i : Nat) : Option S45 := if 0 < i then l[i - 1]? else none
theorem ahead_succ {l : List S45} {i : Nat} {a : S45} {t : List S45} (h : l.drop i = a :: t) : ahead l (i + 1) = some a := by
  unfold ahead
  rw [if_pos (by omega), Nat.add_sub_cancel]
  have := congrArg (fun z => z[0]?) h
  simpa using this
theorem rd_ahead {l : List S45} {i : Nat} (h : 0 < i) (hi : i ≤ l.length) : ahead l i = some (rd_T45 l ((i : Int) - 1)) := by
  unfold ahead
  rw [if_pos h]
  obtain ⟨j, rfl⟩ : ∃ j, i = j + 1 := ⟨i - 1, by omega⟩
  rw [Nat.add_sub_cancel, show ((j + 1 : Nat) : Int) - 1 = (j : Int) from by omega]
  have e : rd_T45 l (j : Int) = l[j] := rdOf_get (d := z45) (by omega)
  rw [e, List.getElem?_eq_getElem (by omega)]
theorem spec_l03Name_eq (s : ByteArray) : spec_l03Name.f s = some (decide (1 ≤ (s.size : Int) ∧ (s.size : Int) ≤ 8)) := by
  unfold spec_l03Name.f
  rw [spec_l01In_eq, Option.bind_some]
theorem spec_DiskOk_l0 (l : List S45) (hl : l.length ≤ 1048576) : ∀ (t : List S45) (i : Nat), l.drop i = t → i ≤ l.length → Ev (fun k => spec_DiskOk.l0 k (i : Int) l) (filesOk (ahead l i) t) := by
  intro t
  induction t with
  | nil =>
    intro i ht hi
    have := drop_nil_len ht
    refine Ev.step (f := fun _ => some true) (fun k => by rw [spec_DiskOk.l0, if_neg (by omega)]) (Ev.ret ?_)
    cases ahead l i <;> rfl
  | cons a t ih =>
    intro i ht hi
    obtain ⟨h1, h2, h3⟩ := rd_T45_drop ht
    have e := ih (i + 1) h3 (by omega)
    rw [ahead_succ ht, show ((i + 1 : Nat) : Int) = (i : Int) + 1 from by omega] at e
    refine Ev.succ ?_
    simp only [spec_DiskOk.l0, h1, w64 (n := (i : Int) + 1) (by omega) (by omega), w64 (n := (i : Int) - 1) (by omega) (by omega)]
    refine Ev.pos (by omega) (Ev.pos (by omega) (Ev.bind0 (spec_l03Name_eq _) ?_))
    have hno : fileOk a = false → Ev (fun _ => some false) (filesOk (ahead l i) (a :: t)) := fun h => Ev.ret (by cases ahead l i <;> simp [filesOk, h])
    by_cases c1 : 1 ≤ (a.f0.size : Int) ∧ (a.f0.size : Int) ≤ 8
    · refine Ev.pos (decide_eq_true c1) ?_
      by_cases c2 : (a.f1.size : Int) > 20000
      · exact Ev.pos c2 (hno (by simp only [fileOk]; rw [show decide ((a.f1.size : Int) ≤ 20000) = false from decide_eq_false (by omega)]; simp))
      · refine Ev.neg c2 (Ev.bind0 (spec_l01In_eq _ _ _) ?_)
        by_cases c3 : 0 ≤ a.f2 ∧ a.f2 ≤ (a.f1.size : Int)
        · refine Ev.pos (decide_eq_true c3) ?_
          have hok : fileOk a = true := by
            simp only [fileOk]
            rw [decide_eq_true c1, decide_eq_true c3, show decide ((a.f1.size : Int) ≤ 20000) = true from decide_eq_true (by omega)]
            rfl
          by_cases c4 : 0 < i
          · refine Ev.pos (by omega) (Ev.pos (by omega) (Ev.pos (by omega) ?_))
            rw [rd_ahead c4 hi]
            simp only [filesOk, hok, Bool.true_and]
            cases hb : Op.bytesLess (rd_T45 l ((i : Int) - 1)).f0.toList a.f0.toList with
            | true => exact Ev.pos (by trivial) (by simpa using e)
            | false => exact Ev.neg (by simp) (Ev.ret (by simp))
          · refine Ev.neg (by omega) ?_
            rw [show ahead l i = none from if_neg c4]
            simp only [filesOk, hok, Bool.true_and]
            exact e
        · exact Ev.neg (by simpa using c3) (hno (by simp only [fileOk]; rw [decide_eq_false c3]; simp))
    · exact Ev.neg (by simpa using c1) (hno (by simp only [fileOk]; rw [decide_eq_false c1]; simp))
theorem spec_DiskOk_ev (l : List S45) (hl : l.length ≤ 1048576) : Ev (fun k => spec_DiskOk.f k l) (diskOk l) := by
  unfold spec_DiskOk.f diskOk
  by_cases h : (l.length : Int) > 30
  · exact Ev.pos h (Ev.ret (by rw [decide_eq_false (by omega)]; rfl))
  · refine Ev.neg h ?_
    rw [show decide (l.length ≤ 30) = true from decide_eq_true (by omega), Bool.true_and]
    exact spec_DiskOk_l0 l hl l 0 rfl (Nat.zero_le _)

theorem impl_DiskOk_l0 (l : List S45) (hl : l.length ≤ 1048576) : ∀ (t : List S45) (i : Nat), l.drop i = t → i ≤ l.length → Ev (fun k => impl_DiskOk.l0 k l (l.length : Int) (i : Int) l) (decide (l.length ≤ 30) && filesOk (ahead l i) t) := by
  intro t
  induction t with
  | nil =>
    intro i ht hi
    have := drop_nil_len ht
    refine Ev.step (f := fun _ => some (decide ((l.length : Int) ≤ 30))) (fun k => by rw [impl_DiskOk.l0, if_neg (by omega)]) (Ev.ret ?_)
    have e : filesOk (ahead l i) [] = true := by cases ahead l i <;> rfl
    rw [e, Bool.and_true]
    exact decide_eq_decide.2 (by omega)
  | cons a t ih =>
    intro i ht hi
    obtain ⟨h1, h2, h3⟩ := rd_T45_drop ht
    have e := ih (i + 1) h3 (by omega)
    rw [ahead_succ ht, show ((i + 1 : Nat) : Int) = (i : Int) + 1 from by omega] at e
    refine Ev.succ ?_
    simp only [impl_DiskOk.l0, h1, w64 (n := (i : Int) + 1) (by omega) (by omega), w64 (n := (i : Int) - 1) (by omega) (by omega)]
    refine Ev.pos (by omega) (Ev.pos (by omega) (Ev.pos (by omega) (Ev.bind0 (impl_within_eq _ _ _) ?_)))
    have hno : fileOk a = false → Ev (fun _ => some false) (decide (l.length ≤ 30) && filesOk (ahead l i) (a :: t)) := fun h => Ev.ret (by cases ahead l i <;> simp [filesOk, h])
    by_cases c1 : 1 ≤ (a.f0.size : Int) ∧ (a.f0.size : Int) ≤ 8
    · refine Ev.pos (decide_eq_true c1) ?_
      by_cases c2 : (a.f1.size : Int) > 20000
      · exact Ev.pos c2 (hno (by simp only [fileOk]; rw [show decide ((a.f1.size : Int) ≤ 20000) = false from decide_eq_false (by omega)]; simp))
      · refine Ev.neg c2 (Ev.bind0 (impl_within_eq _ _ _) ?_)
        by_cases c3 : 0 ≤ a.f2 ∧ a.f2 ≤ (a.f1.size : Int)
        · refine Ev.pos (decide_eq_true c3) ?_
          have hok : fileOk a = true := by
            simp only [fileOk]
            rw [decide_eq_true c1, decide_eq_true c3, show decide ((a.f1.size : Int) ≤ 20000) = true from decide_eq_true (by omega)]
            rfl
          by_cases c4 : 0 < i
          · refine Ev.pos (by omega) (Ev.pos (by omega) (Ev.pos (by omega) ?_))
            rw [rd_ahead c4 hi]
            simp only [filesOk, hok, Bool.true_and]
            cases hb : Op.bytesLess (rd_T45 l ((i : Int) - 1)).f0.toList a.f0.toList with
            | true => exact Ev.pos (by trivial) (by simpa using e)
            | false => exact Ev.neg (by simp) (Ev.ret (by simp))
          · refine Ev.neg (by omega) ?_
            rw [show ahead l i = none from if_neg c4]
            simp only [filesOk, hok, Bool.true_and]
            exact e
        · exact Ev.neg (by simpa using c3) (hno (by simp only [fileOk]; rw [decide_eq_false c3]; simp))
    · exact Ev.neg (by simpa using c1) (hno (by simp only [fileOk]; rw [decide_eq_false c1]; simp))
theorem impl_DiskOk_ev (l : List S45) (hl : l.length ≤ 1048576) : Ev (fun k => impl_DiskOk.f k l) (diskOk l) := by
  unfold impl_DiskOk.f diskOk
  exact impl_DiskOk_l0 l hl l 0 rfl (Nat.zero_le _)

theorem files_all : ∀ (l : List S45) (o : Option S45), filesOk o l = true → ∀ x ∈ l, fileOk x = true := by
  intro l
  induction l with
  | nil => intro _ _ x hx; cases hx
  | cons a t ih =>
    intro o h x hx
    have h2 : fileOk a = true ∧ filesOk (some a) t = true := by
      cases o with
      | none => rw [filesOk, Bool.and_eq_true] at h; exact h
      | some y => rw [filesOk, Bool.and_eq_true, Bool.and_eq_true] at h; exact ⟨h.1.1, h.2⟩
    rcases List.mem_cons.1 hx with rfl | hx
    · exact h2.1
    · exact ih _ h2.2 x hx

theorem laws_toIntS_l0 (l : List Int) (hl : l.length ≤ 1048576) : ∀ (d i : Nat) (xs : List Int), xs.length = l.length → i + d = l.length → xs.take i = l.take i → Ev (fun k => laws_toIntS.l0 k l xs (i : Int)) l := by
  intro d
  induction d with
  | zero =>
    intro i xs hx hi ht
    refine Ev.step (f := fun _ => some xs) (fun k => by rw [laws_toIntS.l0, if_neg (by omega)]) (Ev.ret ?_)
    rw [List.take_of_length_le (by omega), List.take_of_length_le (by omega)] at ht
    exact ht
  | succ d ih =>
    intro i xs hx hi ht
    have hr : rd l (i : Int) = l[i] := rd_get (by omega)
    refine Ev.step (fun k => ?_) (ih (i + 1) (xs.set i l[i]) (by rw [List.length_set]; exact hx) (by omega) ?_)
    · rw [laws_toIntS.l0, if_pos (by omega), if_pos (by omega), if_pos (by omega), hr, w64 (by omega) (by omega), Int.toNat_natCast]
      rfl
    · rw [take_set_snoc _ _ _ (by omega), ht, List.take_succ_eq_append_getElem (by omega)]
theorem laws_toIntS_ev (l : List Int) (hl : l.length ≤ 1048576) : Ev (fun k => laws_toIntS.f k l) l := by
  unfold laws_toIntS.f
  exact Ev.pos (by omega) (Ev.pos (by omega) (laws_toIntS_l0 l hl l.length 0 _ (by rw [List.length_replicate]; omega) (by omega) rfl))
theorem laws_eqIntS_l0 (l : List Int) (hl : l.length ≤ 1048576) : ∀ (t : List Int) (i : Nat), l.drop i = t → i ≤ l.length → Ev (fun k => laws_eqIntS.l0 k l l (i : Int)) true := by
  intro t
  induction t with
  | nil =>
    intro i ht hi
    have := List.drop_eq_nil_iff.1 ht
    exact Ev.step (f := fun _ => some true) (fun k => by rw [laws_eqIntS.l0, if_neg (by omega)]) (Ev.now _)
  | cons a t ih =>
    intro i ht hi
    obtain ⟨h1, h2, h3⟩ := rd_drop ht
    refine Ev.step (fun k => ?_) (ih (i + 1) h3 (by omega))
    rw [laws_eqIntS.l0, if_pos (by omega), if_pos (by omega), if_pos (by omega), if_pos rfl, w64 (by omega) (by omega)]
    rfl
theorem laws_eqIntS_ev (l : List Int) (hl : l.length ≤ 1048576) : Ev (fun k => laws_eqIntS.f k l l) true := by
  unfold laws_eqIntS.f
  exact Ev.pos rfl (laws_eqIntS_l0 l hl l 0 rfl (Nat.zero_le _))
theorem laws_markIntS_l0 : ∀ (d i a : Nat) (xs : List Int), xs.length = i + d → xs.length ≤ 1048576 → a + d < 4611686018427387904 → ∃ ys, Ev (fun k => laws_markIntS.l0 k xs (a : Int) (i : Int)) (((a + d : Nat) : Int), ys) := by
  intro d
  induction d with
  | zero =>
    intro i a xs hx hb hz
    exact ⟨xs, Ev.step (f := fun _ => some ((a : Int), xs)) (fun k => by rw [laws_markIntS.l0, if_neg (by omega)]) (Ev.now _)⟩
  | succ d ih =>
    intro i a xs hx hb hz
    obtain ⟨ys, e⟩ := ih (i + 1) (a + 1) (xs.set i (a : Int)) (by rw [List.length_set]; omega) (by rw [List.length_set]; omega) (by omega)
    rw [show a + 1 + d = a + (d + 1) from by omega] at e
    refine ⟨ys, Ev.succ ?_⟩
    simp only [laws_markIntS.l0, w64 (n := (i : Int) + 1) (by omega) (by omega), w64 (n := (a : Int) + 1) (by omega) (by omega), Int.toNat_natCast]
    exact Ev.pos (by omega) (Ev.pos (by omega) e)
theorem laws_markIntS_ev (xs : List Int) (a : Nat) (hb : xs.length ≤ 1048576) (ha : a ≤ 4000000000) : ∃ ys, Ev (fun k => laws_markIntS.f k xs (a : Int)) (((a + xs.length : Nat) : Int), ys) :=
  laws_markIntS_l0 xs.length 0 a xs (by omega) hb (by omega)

theorem laws_markText_l0 : ∀ (n : Nat) (acc : ByteArray), acc.size + n < 4611686018427387904 → Ev (fun k => laws_markText.l0 k (n : Int) acc) (mtl n acc) := by
  intro n
  induction n using Nat.strongRecOn with
  | _ n ih =>
    intro acc h
    by_cases hn : 0 < n
    · rw [mtl_pos hn]
      refine Ev.succ ?_
      simp only [laws_markText.l0]
      rw [tmodp (by omega), tdivp (by omega), w64 (n := 48 + (n : Int) % 10) (by omega) (by omega), w64 (n := (n : Int) / 10) (by omega) (by omega), show (48 + (n : Int) % 10) % 256 = ((48 + n % 10 : Nat) : Int) from by omega, show (n : Int) / 10 = ((n / 10 : Nat) : Int) from by omega]
      refine Ev.pos (by omega) (Ev.bind0 rfl (Ev.pos (by rw [strOfNums_size, List.length_singleton]; omega) ?_))
      exact ih (n / 10) (by omega) _ (by rw [app_size, strOfNums_size, List.length_singleton]; omega)
    · obtain rfl : n = 0 := by omega
      rw [mtl_zero]
      exact Ev.step (f := fun _ => some ((⟨#[109]⟩ : ByteArray) ++ acc)) (fun k => by rw [laws_markText.l0, if_neg (by omega), if_pos (by omega)]) (Ev.now _)
theorem laws_markText_ev {n : Nat} (h : 0 < n) (h' : n < 4611686018427387904) : Ev (fun k => laws_markText.f k (n : Int)) (mt n) := by
  unfold laws_markText.f
  exact Ev.neg (by omega) (laws_markText_l0 n _ (by rw [show (⟨#[]⟩ : ByteArray).size = 0 from rfl]; omega))

def marksF : Nat → Nat → List S45
  | _, 0 => []
  | a, m + 1 => ⟨mt a, mt (a + 1), ((a + 2 : Nat) : Int)⟩ :: marksF (a + 3) m
theorem marksF_length : ∀ (m a : Nat), (marksF a m).length = m := by
  intro m
  induction m with
  | zero => intro a; rfl
  | succ m ih => intro a; rw [marksF, List.length_cons, ih]
theorem rd_set {xs : List S45} {i : Nat} (h : i < xs.length) (v : S45) : rd_T45 (xs.set i v) (i : Int) = v := by
  unfold rd_T45
  rw [Int.toNat_natCast, List.getD_eq_getElem?_getD, List.getElem?_set_self h]
  rfl
theorem laws_markFileS_l0 : ∀ (d i a : Nat) (xs : List S45), xs.length = i + d → xs.length ≤ 1048576 → 0 < a → a + 3 * d < 4611686018427387904 → Ev (fun k => laws_markFileS.l0 k xs (a : Int) (i : Int)) (((a + 3 * d : Nat) : Int), xs.take i ++ marksF a d) := by
  intro d
  induction d with
  | zero =>
    intro i a xs hx hb ha hz
    refine Ev.step (f := fun _ => some ((a : Int), xs)) (fun k => by rw [laws_markFileS.l0, if_neg (by omega)]) (Ev.ret ?_)
    rw [List.take_of_length_le (by omega), marksF, List.append_nil, Nat.mul_zero, Nat.add_zero]
  | succ d ih =>
    intro i a xs hx hb ha hz
    have hi : i < xs.length := by omega
    have e := ih (i + 1) (a + 3) (xs.set i ⟨mt a, mt (a + 1), ((a + 2 : Nat) : Int)⟩) (by rw [List.length_set]; omega) (by rw [List.length_set]; omega) (by omega) (by omega)
    rw [take_set_snoc _ _ _ hi, List.append_assoc, show a + 3 + 3 * d = a + 3 * (d + 1) from by omega, show ((i + 1 : Nat) : Int) = (i : Int) + 1 from by omega, show ((a + 3 : Nat) : Int) = (a : Int) + 1 + 1 + 1 from by omega] at e
    refine Ev.succ ?_
    simp only [laws_markFileS.l0, w64 (n := (i : Int) + 1) (by omega) (by omega), w64 (n := (a : Int) + 1) (by omega) (by omega), w64 (n := (a : Int) + 1 + 1) (by omega) (by omega), w64 (n := (a : Int) + 1 + 1 + 1) (by omega) (by omega), Int.toNat_natCast]
    refine Ev.pos (by omega) (Ev.bind (laws_markText_ev ha (by omega)) (Ev.pos (by omega) (Ev.bind0 rfl ?_)))
    have m1 := laws_markText_ev (n := a + 1) (by omega) (by omega)
    rw [show ((a + 1 : Nat) : Int) = (a : Int) + 1 from by omega] at m1
    refine Ev.bind m1 (Ev.bind0 rfl ?_)
    simp only [List.set_set, rd_set hi]
    rw [show ((a + 2 : Nat) : Int) = (a : Int) + 1 + 1 from by omega] at e
    rw [marksF, show ((a + 2 : Nat) : Int) = (a : Int) + 1 + 1 from by omega]
    exact e
theorem laws_markDisk_ev (xs : List S45) (hb : xs.length ≤ 1048576) : Ev (fun k => laws_markDisk.f k xs 1) (((1 + 3 * xs.length : Nat) : Int), marksF 1 xs.length) := by
  unfold laws_markDisk.f laws_markFileS.f
  exact Ev.bind (laws_markFileS_l0 xs.length 0 1 xs (by omega) hb (by omega) (by omega)) (Ev.now _)
theorem laws_heldFileS_l0 (xs : List S45) (hb : xs.length ≤ 1048576) : ∀ (d i a : Nat), xs.drop i = marksF a d → i ≤ xs.length → 0 < a → a + 3 * d < 4611686018427387904 → Ev (fun k => laws_heldFileS.l0 k xs (a : Int) (i : Int)) ((a + 3 * d : Nat) : Int) := by
  intro d
  induction d with
  | zero =>
    intro i a hx hi ha hz
    have := drop_nil_len hx
    exact Ev.step (f := fun _ => some (a : Int)) (fun k => by rw [laws_heldFileS.l0, if_neg (by omega)]) (Ev.now _)
  | succ d ih =>
    intro i a hx hi ha hz
    obtain ⟨h1, h2, h3⟩ := rd_T45_drop hx
    have e := ih (i + 1) (a + 3) h3 (by omega) (by omega) (by omega)
    rw [show a + 3 + 3 * d = a + 3 * (d + 1) from by omega, show ((i + 1 : Nat) : Int) = (i : Int) + 1 from by omega, show ((a + 3 : Nat) : Int) = (a : Int) + 1 + 1 + 1 from by omega] at e
    refine Ev.succ ?_
    simp only [laws_heldFileS.l0, w64 (n := (i : Int) + 1) (by omega) (by omega), w64 (n := (a : Int) + 1) (by omega) (by omega), w64 (n := (a : Int) + 1 + 1) (by omega) (by omega), w64 (n := (a : Int) + 1 + 1 + 1) (by omega) (by omega), h1]
    have m1 := laws_markText_ev (n := a + 1) (by omega) (by omega)
    rw [show ((a + 1 : Nat) : Int) = (a : Int) + 1 from by omega] at m1
    exact Ev.pos (by omega) (Ev.pos (by omega) (Ev.bind (laws_markText_ev ha (by omega)) (Ev.pos rfl (Ev.bind m1 (Ev.pos rfl (Ev.pos (by omega) e))))))
theorem laws_heldDisk_ev (m : Nat) (hb : m ≤ 1048576) : Ev (fun k => laws_heldDisk.f k (marksF 1 m) 1) ((1 + 3 * m : Nat) : Int) := by
  unfold laws_heldDisk.f laws_heldFileS.f
  exact Ev.bind (laws_heldFileS_l0 (marksF 1 m) (by rw [marksF_length]; exact hb) m 0 1 rfl (Nat.zero_le _) (by omega) (by omega)) (Ev.neg (by omega) (Ev.now _))

def leftAt (left : List Int) (i : Nat) : Int := if (i : Int) < (left.length : Int) then rd left (i : Int) else 0
def loseOne (n : Int) (x : S45) : S45 := ⟨x.f0, x.f1.extract 0 (mx x.f2 (mn n (x.f1.size : Int))).toNat, mx x.f2 (mn n (x.f1.size : Int))⟩
def loseFrom (left : List Int) : Nat → List S45 → List S45
  | _, [] => []
  | i, x :: t => loseOne (leftAt left i) x :: loseFrom left (i + 1) t
theorem loseFrom_length (left : List Int) : ∀ (t : List S45) (i : Nat), (loseFrom left i t).length = t.length := by
  intro t
  induction t with
  | nil => intro i; rfl
  | cons a t ih => intro i; rw [loseFrom, List.length_cons, List.length_cons, ih]
def keptFits (x : S45) : Prop := 0 ≤ x.f2 ∧ x.f2 ≤ (x.f1.size : Int)
theorem mxmn {a n s : Int} (h : 0 ≤ a) (h' : a ≤ s) : 0 ≤ mx a (mn n s) ∧ mx a (mn n s) ≤ s ∧ mx a (mn n s) = if n > s then s else if n < a then a else n := by
  unfold mx mn
  by_cases c1 : s < n
  · rw [if_pos c1, if_pos (c := n > s) c1]
    by_cases c2 : a < s
    · rw [if_pos c2]; omega
    · rw [if_neg c2]; omega
  · rw [if_neg c1, if_neg (c := n > s) c1]
    by_cases c2 : a < n
    · rw [if_pos c2, if_neg (c := n < a) (by omega)]; omega
    · rw [if_neg c2]
      by_cases c3 : n < a
      · rw [if_pos c3]; omega
      · rw [if_neg c3]; omega
theorem disk_fits {l : List S45} (h : diskOk l = true) : l.length ≤ 30 ∧ ∀ x ∈ l, keptFits x := by
  unfold diskOk at h
  rw [Bool.and_eq_true, decide_eq_true_eq] at h
  refine ⟨h.1, fun x hx => ?_⟩
  have := files_all l none h.2 x hx
  unfold fileOk at this
  rw [Bool.and_eq_true, decide_eq_true_eq (p := 0 ≤ x.f2 ∧ x.f2 ≤ (x.f1.size : Int))] at this
  exact this.2
theorem spec_LoseDisk_j1 (left : List Int) (i n : Int) (l acc : List S45) (a : S45) (ha : keptFits a) (hacc : acc.length ≤ 1048576) {r : List S45 × Bool} (e : Ev (fun k => spec_LoseDisk.l0 k left (wrap64 (i + 1)) l (acc ++ [loseOne n a])) r) :
    Ev (fun k => spec_LoseDisk.j1 k left i n l acc a.f0 a.f1 a.f2) r := by
  obtain ⟨h0, h1⟩ := ha
  obtain ⟨m0, m1, m2⟩ := mxmn (n := n) h0 h1
  rw [loseOne, m2] at e
  refine Ev.succ ?_
  simp only [spec_LoseDisk.j1]
  by_cases c1 : n > (a.f1.size : Int)
  · rw [if_pos c1] at e
    exact Ev.pos c1 (Ev.neg (by omega) (Ev.pos (by omega) (Ev.pos (by omega) (Ev.pos (by omega) e))))
  · rw [if_neg c1] at e
    refine Ev.neg c1 ?_
    by_cases c2 : n < a.f2
    · rw [if_pos c2] at e
      exact Ev.pos c2 (Ev.pos (by omega) (Ev.pos (by omega) (Ev.pos (by omega) e)))
    · rw [if_neg c2] at e
      exact Ev.neg c2 (Ev.pos (by omega) (Ev.pos (by omega) (Ev.pos (by omega) e)))
theorem spec_LoseDisk_l0 (left : List Int) (l : List S45) (hl : l.length ≤ 30) (hf : ∀ x ∈ l, keptFits x) : ∀ (t : List S45) (i : Nat) (acc : List S45), l.drop i = t → i ≤ l.length → acc.length = i →
    Ev (fun k => spec_LoseDisk.l0 k left (i : Int) l acc) (acc ++ loseFrom left i t, true) := by
  intro t
  induction t with
  | nil =>
    intro i acc ht hi hz
    have := drop_nil_len ht
    refine Ev.step (f := fun _ => some (acc, true)) (fun k => by rw [spec_LoseDisk.l0, if_neg (by omega)]) (Ev.ret ?_)
    rw [loseFrom, List.append_nil]
  | cons a t ih =>
    intro i acc ht hi hz
    obtain ⟨h1, h2, h3⟩ := rd_T45_drop ht
    have ha := hf a (List.mem_of_mem_drop (by rw [ht]; exact List.mem_cons_self))
    have e := ih (i + 1) (acc ++ [loseOne (leftAt left i) a]) h3 (by omega) (by rw [List.length_append, List.length_singleton]; omega)
    rw [List.append_assoc, show ((i + 1 : Nat) : Int) = wrap64 ((i : Int) + 1) from by rw [w64 (by omega) (by omega)]; omega] at e
    have e2 := spec_LoseDisk_j1 left (i : Int) (leftAt left i) l acc a ha (by omega) e
    refine Ev.succ ?_
    simp only [spec_LoseDisk.l0, h1]
    refine Ev.pos (by omega) (Ev.pos (by omega) ?_)
    rw [loseFrom]
    by_cases c : (i : Int) < (left.length : Int)
    · rw [show leftAt left i = rd left (i : Int) from if_pos c] at e2 ⊢; exact Ev.pos c e2
    · rw [show leftAt left i = 0 from if_neg c] at e2 ⊢; exact Ev.neg c e2
def loseDisk (l : List S45) (left : List Int) : List S45 × Bool := if diskOk l = true then (loseFrom left 0 l, true) else ([], false)
theorem spec_LoseDisk_ev (l : List S45) (left : List Int) (hl : l.length ≤ 1048576) : Ev (fun k => spec_LoseDisk.f k l left) (loseDisk l left) := by
  unfold spec_LoseDisk.f loseDisk
  refine Ev.bind (spec_DiskOk_ev l hl) ?_
  cases h : diskOk l with
  | false => exact Ev.neg (by decide) (Ev.tneg (by decide) (Ev.now _))
  | true =>
    obtain ⟨f1, f2⟩ := disk_fits h
    exact Ev.pos rfl (Ev.tpos rfl (spec_LoseDisk_l0 left l f1 f2 l 0 [] rfl (Nat.zero_le _) rfl))
theorem impl_LoseDisk_l0 (left : List Int) (l : List S45) (hl : l.length ≤ 30) (hf : ∀ x ∈ l, keptFits x) : ∀ (t : List S45) (i : Nat) (xs : List S45), l.drop i = t → xs.drop i = t → i ≤ l.length → xs.length = l.length →
    Ev (fun k => impl_LoseDisk.l0 k left (l.length : Int) (i : Int) xs) (xs.take i ++ loseFrom left i t, true) := by
  intro t
  induction t with
  | nil =>
    intro i xs ht hx hi hz
    have := drop_nil_len ht
    refine Ev.step (f := fun _ => some (xs, true)) (fun k => by rw [impl_LoseDisk.l0, if_neg (by omega)]) (Ev.ret ?_)
    rw [loseFrom, List.append_nil, List.take_of_length_le (by omega)]
  | cons a t ih =>
    intro i xs ht hx hi hz
    obtain ⟨h1, h2, h3⟩ := rd_T45_drop hx
    obtain ⟨_, h4, h5⟩ := rd_T45_drop ht
    have ha := hf a (List.mem_of_mem_drop (by rw [ht]; exact List.mem_cons_self))
    have e := ih (i + 1) (xs.set i (loseOne (leftAt left i) a)) h5 (by rw [List.drop_set_of_lt (by omega)]; exact h3) (by omega) (by rw [List.length_set]; exact hz)
    rw [take_set_snoc _ _ _ h2, List.append_assoc, show ((i + 1 : Nat) : Int) = (i : Int) + 1 from by omega] at e
    rw [loseFrom]
    refine Ev.succ ?_
    simp only [impl_LoseDisk.l0, h1, w64 (n := (i : Int) + 1) (by omega) (by omega), Int.toNat_natCast]
    refine Ev.pos (by omega) (Ev.pos (by omega) (Ev.pos (by omega) ?_))
    by_cases c : (i : Int) < (left.length : Int)
    · obtain ⟨m0, m1, m2⟩ := mxmn (n := rd left (i : Int)) ha.1 ha.2
      rw [show leftAt left i = rd left (i : Int) from if_pos c] at e ⊢
      refine Ev.pos c (Ev.pos m0 (Ev.pos m1 (Ev.bind0 rfl ?_)))
      simp only [List.set_set, rd_set h2]
      exact e
    · obtain ⟨m0, m1, m2⟩ := mxmn (n := 0) ha.1 ha.2
      rw [show leftAt left i = 0 from if_neg c] at e ⊢
      refine Ev.neg c (Ev.pos m0 (Ev.pos m1 (Ev.bind0 rfl ?_)))
      simp only [List.set_set, rd_set h2]
      exact e
theorem impl_LoseDisk_ev (l : List S45) (left : List Int) (hl : l.length ≤ 1048576) : Ev (fun k => impl_LoseDisk.f k l left) (loseDisk l left) := by
  unfold impl_LoseDisk.f loseDisk
  refine Ev.bind (impl_DiskOk_ev l hl) ?_
  cases h : diskOk l with
  | false => exact Ev.neg (by decide) (Ev.tneg (by decide) (Ev.now _))
  | true =>
    obtain ⟨f1, f2⟩ := disk_fits h
    have hc : impl_copyDisk.f l = some l := by
      unfold impl_copyDisk.f
      rw [if_pos (by rw [List.length_nil]; omega), List.nil_append]
    exact Ev.pos rfl (Ev.tpos rfl (Ev.bind0 hc (impl_LoseDisk_l0 left l f1 f2 l 0 l rfl rfl (Nat.zero_le _) rfl)))
theorem loseDisk_length (l : List S45) (left : List Int) : (loseDisk l left).1.length ≤ l.length := by
  unfold loseDisk
  split
  · rw [loseFrom_length]; exact Nat.le_refl _
  · exact Nat.zero_le _

theorem FnExactLoseDisk (l : List S134) (left : List Int) (o : l.length ≤ maxLen ∧ ∀ x ∈ l, x.f0.size ≤ maxLen ∧ x.f1.size ≤ maxLen ∧ (Lit.int .i64 x.f2).wf = true) (w : left.length ≤ maxLen ∧ ∀ y ∈ left, (Lit.int .i64 y).wf = true) : ∃ k, laws_FnExactLoseDisk.f k l left = some true := by
  have hl := o.1
  have hf : ∀ x ∈ l, fileFits x := fun x hx => ⟨(o.2 x hx).1, (o.2 x hx).2.1⟩
  refine Ev.rounds (r := true) ?_
  unfold laws_FnExactLoseDisk.f
  by_cases ha : (left.length : Int) > 1048576
  · exact Ev.pos ha (Ev.now _)
  obtain ⟨r, e, hr⟩ := laws_szDisk_ev l hl hf 1048576 (by omega) (by omega)
  refine Ev.neg ha (Ev.bind e ?_)
  by_cases h0 : r < 0
  · exact Ev.pos h0 (Ev.now _)
  have hb := (hr (by omega)).2.1
  have hm : (l.map toF).length ≤ 1048576 := by rw [List.length_map]; omega
  have ha' : left.length ≤ 1048576 := by omega
  have hres : (loseDisk (l.map toF) left).1.length ≤ 1048576 := Nat.le_trans (loseDisk_length _ _) hm
  have E1 := laws_toDisk_ev l (by omega)
  have E2 := laws_toIntS_ev left ha'
  have E3 := impl_LoseDisk_ev (l.map toF) left hm
  refine Ev.neg h0 (Ev.bind E1 (Ev.bind E2 (Ev.bind (spec_LoseDisk_ev _ left hm) (Ev.bind E1 (Ev.bind E2 (Ev.bind E3 (Ev.bind (laws_eqDisk_ev _ hres) (Ev.pos rfl ?_))))))))
  refine Ev.succ ?_
  simp only [laws_FnExactLoseDisk.j0]
  obtain ⟨ys, em⟩ := laws_markIntS_ev left (1 + 3 * (l.map toF).length) ha' (by omega)
  refine Ev.neg (by simp) (Ev.bind E1 (Ev.bind (laws_eqDisk_ev _ hm) (Ev.pos rfl (Ev.bind E2 (Ev.bind (laws_eqIntS_ev left ha') (Ev.pos rfl (Ev.bind (laws_markDisk_ev _ hm) (Ev.bind em (Ev.neg (by omega) (Ev.bind (laws_eqDisk_ev _ hres) (Ev.pos rfl ?_)))))))))))
  refine Ev.succ ?_
  simp only [laws_FnExactLoseDisk.j1]
  refine Ev.neg (by simp) (Ev.bind (laws_markDisk_ev _ hres) (Ev.bind (laws_heldDisk_ev _ hres) (Ev.neg (by omega) (Ev.pos rfl (Ev.bind E1 (Ev.bind E2 (Ev.bind E3 (Ev.bind (laws_eqDisk_ev _ hres) (Ev.pos rfl ?_)))))))))
  refine Ev.succ ?_
  simp only [laws_FnExactLoseDisk.j2]
  exact Ev.neg (by simp) (Ev.bind (laws_heldDisk_ev _ hres) (Ev.neg (by omega) (Ev.pos rfl (Ev.now _))))

end Go.Proofs.Ytgfacdhkamphiaa.Pure
