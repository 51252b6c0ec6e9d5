/- For every disk, list of acts, number and list that read as data both programs' CutActs come to the same disk and answer, of memory of its own, and the arguments are left as they were. -/
import Derived.Test.YtgfacdhkamphiaaOFnExactCutActsx19
import Derived.Test.YtgfacdhkamphiaaBase
import Derived.Test.YtgfacdhkamphiaaBase2
import Derived.Test.YtgfacdhkamphiaaBase3
namespace Go.Proofs.Ytgfacdhkamphiaa.Pure
open Go.RowKit Go.Proofs.Ytgfacdhkamphiaa.PFnExactCutActs Go.Proofs.YtgfacdhkamphiaaW.PrintWords Go.Proofs.YtgfacdhkamphiaaW.PrintLast Go.Proofs.Ytgfacdhkamphiaa.Base
set_option linter.unusedVariables false
set_option linter.unusedSimpArgs false

theorem spec_l01In_eq (a b c : Int) : spec_l01In.f a b c = some (decide (b ≤ a ∧ a ≤ c)) := by
  unfold spec_l01In.f
  by_cases h : b ≤ a <;> simp [h]

theorem impl_within_eq (a b c : Int) : impl_within.f a b c = some (decide (b ≤ a ∧ a ≤ c)) := by
  unfold impl_within.f
  by_cases h : b ≤ a <;> simp [h]

theorem laws_szFile_some (x : S134) (h0 : x.f0.size ≤ maxLen) (h1 : x.f1.size ≤ maxLen) (left : Int) (g0 : 0 ≤ left) (g1 : left ≤ 1048576) :
    ∃ r, laws_szFile.f x.f0 x.f1 x.f2 left = some r ∧ (0 ≤ r → r ≤ left ∧ (x.f0.size : Int) ≤ left ∧ (x.f1.size : Int) ≤ left) := by
  unfold maxLen at h0 h1
  unfold laws_szFile.f
  rw [w64 (n := left - (x.f0.size : Int)) (by omega) (by omega)]
  by_cases c1 : left - (x.f0.size : Int) < 0
  · rw [if_pos c1]; exact ⟨_, rfl, fun h => by omega⟩
  rw [if_neg c1, w64 (n := left - (x.f0.size : Int) - (x.f1.size : Int)) (by omega) (by omega)]
  by_cases c2 : left - (x.f0.size : Int) - (x.f1.size : Int) < 0
  · rw [if_pos c2]; exact ⟨_, rfl, fun h => by omega⟩
  rw [if_neg c2]; exact ⟨_, rfl, fun h => by omega⟩
theorem rd_T134_drop {xs : List S134} {i : Nat} {a : S134} {t : List S134} (h : xs.drop i = a :: t) : rd_T134 xs (i : Int) = a ∧ i < xs.length ∧ xs.drop (i + 1) = t := rdOf_drop (d := z134) h
def fileFits (x : S134) : Prop := x.f0.size ≤ maxLen ∧ x.f1.size ≤ maxLen
theorem laws_szFileS_l0 (l : List S134) (hl : l.length ≤ 1048576) (hf : ∀ x ∈ l, fileFits x) : ∀ (t : List S134) (i : Nat) (left : Int), l.drop i = t → i ≤ l.length → 0 ≤ left → left ≤ 1048576 →
    ∃ r, Ev (fun k => laws_szFileS.l0 k l left (i : Int)) r ∧ (0 ≤ r → r ≤ left ∧ ∀ x ∈ t, (x.f0.size : Int) ≤ left ∧ (x.f1.size : Int) ≤ left) := by
  intro t
  induction t with
  | nil =>
    intro i left ht hi g0 g1
    have := drop_nil_len ht
    exact ⟨left, Ev.step (f := fun _ => some left) (fun k => by rw [laws_szFileS.l0, if_neg (by omega)]) (Ev.now _), fun _ => ⟨Int.le_refl _, fun x hx => by cases hx⟩⟩
  | cons a t ih =>
    intro i left ht hi g0 g1
    obtain ⟨h1, h2, h3⟩ := rd_T134_drop ht
    have ha : fileFits a := hf a (List.mem_of_mem_drop (by rw [ht]; exact List.mem_cons_self))
    obtain ⟨r, e, hr⟩ := laws_szFile_some a ha.1 ha.2 left g0 g1
    by_cases hr0 : r < 0
    · refine ⟨-1, Ev.step (f := fun _ => some (-1)) (fun k => ?_) (Ev.now _), fun h => by omega⟩
      rw [laws_szFileS.l0, if_pos (by omega), if_pos (by omega), h1, e, Option.bind_some, if_pos hr0]
    · have hr := hr (by omega)
      obtain ⟨r2, e2, hr2⟩ := ih (i + 1) r h3 (by omega) (by omega) (by omega)
      refine ⟨r2, Ev.step (fun k => ?_) e2, fun h => ⟨by have := (hr2 h).1; omega, fun x hx => ?_⟩⟩
      · rw [laws_szFileS.l0, if_pos (by omega), if_pos (by omega), h1, e, Option.bind_some, if_neg hr0, w64 (by omega) (by omega)]
        rfl
      · rcases List.mem_cons.1 hx with rfl | hx
        · exact hr.2
        · have := (hr2 h).2 x hx
          omega
theorem laws_szFileS_ev (l : List S134) (hl : l.length ≤ maxLen) (hf : ∀ x ∈ l, fileFits x) (left : Int) (g0 : 0 ≤ left) (g1 : left ≤ 1048576) :
    ∃ r, Ev (fun k => laws_szFileS.f k l left) r ∧ (0 ≤ r → r ≤ left ∧ (l.length : Int) ≤ left ∧ ∀ x ∈ l, (x.f0.size : Int) ≤ left ∧ (x.f1.size : Int) ≤ left) := by
  unfold maxLen at hl
  unfold laws_szFileS.f
  rw [w64 (n := left - (l.length : Int)) (by omega) (by omega)]
  by_cases c1 : left - (l.length : Int) < 0
  · exact ⟨-1, Ev.pos c1 (Ev.now _), fun h => by omega⟩
  · obtain ⟨r, e, hr⟩ := laws_szFileS_l0 l (by omega) hf l 0 (left - (l.length : Int)) rfl (Nat.zero_le _) (by omega) (by omega)
    exact ⟨r, Ev.neg c1 e, fun h => ⟨by have := (hr h).1; omega, by omega, fun x hx => by have := (hr h).2 x hx; omega⟩⟩
theorem laws_szDisk_ev (l : List S134) (hl : l.length ≤ maxLen) (hf : ∀ x ∈ l, fileFits x) (left : Int) (g0 : 0 ≤ left) (g1 : left ≤ 1048576) :
    ∃ r, Ev (fun k => laws_szDisk.f k l left) r ∧ (0 ≤ r → r ≤ left ∧ (l.length : Int) ≤ left ∧ ∀ x ∈ l, (x.f0.size : Int) ≤ left ∧ (x.f1.size : Int) ≤ left) := by
  obtain ⟨r, e, hr⟩ := laws_szFileS_ev l hl hf left g0 g1
  unfold laws_szDisk.f
  by_cases hr0 : r < 0
  · exact ⟨-1, Ev.bind e (Ev.pos hr0 (Ev.now _)), fun h => by omega⟩
  · exact ⟨r, Ev.bind e (Ev.neg hr0 (Ev.now _)), hr⟩

def toF (x : S134) : S45 := ⟨x.f0, x.f1, x.f2⟩
theorem laws_toFileS_l0 (l : List S134) (hl : l.length ≤ 1048576) : ∀ (d i : Nat) (xs : List S45), xs.length = l.length → i + d = l.length → xs.take i = (l.take i).map toF → Ev (fun k => laws_toFileS.l0 k l xs (i : Int)) (l.map toF) := by
  intro d
  induction d with
  | zero =>
    intro i xs hx hi ht
    refine Ev.step (f := fun _ => some xs) (fun k => by rw [laws_toFileS.l0, if_neg (by omega)]) (Ev.ret ?_)
    rw [List.take_of_length_le (by omega), List.take_of_length_le (by omega)] at ht
    exact ht
  | succ d ih =>
    intro i xs hx hi ht
    have hr : rd_T134 l (i : Int) = l[i] := rdOf_get (d := z134) (by omega)
    refine Ev.step (fun k => ?_) (ih (i + 1) (xs.set i (toF l[i])) (by rw [List.length_set]; exact hx) (by omega) ?_)
    · rw [laws_toFileS.l0, if_pos (by omega), if_pos (by omega), hr, laws_toFile.f, Option.bind_some, if_pos (by omega), w64 (by omega) (by omega), Int.toNat_natCast]
      rfl
    · rw [take_set_snoc _ _ _ (by omega), ht, List.take_succ_eq_append_getElem (by omega), List.map_append, List.map_singleton]
theorem laws_toFileS_ev (l : List S134) (hl : l.length ≤ 1048576) : Ev (fun k => laws_toFileS.f k l) (l.map toF) := by
  unfold laws_toFileS.f
  exact Ev.pos (by omega) (Ev.pos (by omega) (laws_toFileS_l0 l hl l.length 0 _ (by rw [List.length_replicate]; omega) (by omega) rfl))
theorem laws_toDisk_ev (l : List S134) (hl : l.length ≤ 1048576) : Ev (fun k => laws_toDisk.f k l) (l.map toF) := by
  unfold laws_toDisk.f
  exact Ev.bind (laws_toFileS_ev l hl) (Ev.now _)

theorem rd_T45_drop {xs : List S45} {i : Nat} {a : S45} {t : List S45} (h : xs.drop i = a :: t) : rd_T45 xs (i : Int) = a ∧ i < xs.length ∧ xs.drop (i + 1) = t := rdOf_drop (d := z45) h
theorem laws_eqFile_self (x : S45) : laws_eqFile.f x.f0 x.f1 x.f2 x.f0 x.f1 x.f2 = some true := by
  unfold laws_eqFile.f
  rw [if_pos rfl, if_pos rfl, if_pos rfl]
theorem laws_eqFileS_l0 (l : List S45) (hl : l.length ≤ 1048576) : ∀ (t : List S45) (i : Nat), l.drop i = t → i ≤ l.length → Ev (fun k => laws_eqFileS.l0 k l l (i : Int)) true := by
  intro t
  induction t with
  | nil =>
    intro i ht hi
    have := drop_nil_len ht
    exact Ev.step (f := fun _ => some true) (fun k => by rw [laws_eqFileS.l0, if_neg (by omega)]) (Ev.now _)
  | cons a t ih =>
    intro i ht hi
    obtain ⟨h1, h2, h3⟩ := rd_T45_drop ht
    refine Ev.step (fun k => ?_) (ih (i + 1) h3 (by omega))
    rw [laws_eqFileS.l0, if_pos (by omega), if_pos (by omega), if_pos (by omega), h1, laws_eqFile_self, Option.bind_some, if_pos rfl, w64 (by omega) (by omega)]
    rfl
theorem laws_eqDisk_ev (l : List S45) (hl : l.length ≤ 1048576) : Ev (fun k => laws_eqDisk.f k l l) true := by
  unfold laws_eqDisk.f laws_eqFileS.f
  exact Ev.bind (Ev.pos rfl (laws_eqFileS_l0 l hl l 0 rfl (Nat.zero_le _))) (Ev.pos rfl (Ev.now _))

/-- A file of a right disk, behind the one ahead. -/
def fileOk (x : S45) : Bool := decide (1 ≤ (x.f0.size : Int) ∧ (x.f0.size : Int) ≤ 8) && decide ((x.f1.size : Int) ≤ 20000) && decide (0 ≤ x.f2 ∧ x.f2 ≤ (x.f1.size : Int))
def filesOk : Option S45 → List S45 → Bool
  | _, [] => true
  | none, x :: l => fileOk x && filesOk (some x) l
  | some y, x :: l => fileOk x && Op.bytesLess y.f0.toList x.f0.toList && filesOk (some x) l
def diskOk (l : List S45) : Bool := decide (l.length ≤ 30) && filesOk none l
def ahead (l : List S45) (i : Nat) : Option S45 := if 0 < i then l[i - 1]? else none
theorem ahead_succ {l : List S45} {i : Nat} {a : S45} {t : List S45} (h : l.drop i = a :: t) : ahead l (i + 1) = some a := by
  unfold ahead
  rw [if_pos (by omega), Nat.add_sub_cancel]
  have := congrArg (fun z => z[0]?) h
  simpa using this
theorem rd_ahead {l : List S45} {i : Nat} (h : 0 < i) (hi : i ≤ l.length) : ahead l i = some (rd_T45 l ((i : Int) - 1)) := by
  unfold ahead
  rw [if_pos h]
  obtain ⟨j, rfl⟩ : ∃ j, i = j + 1 := ⟨i - 1, by omega⟩
  rw [Nat.add_sub_cancel, show ((j + 1 : Nat) : Int) - 1 = (j : Int) from by omega]
  have e : rd_T45 l (j : Int) = l[j] := rdOf_get (d := z45) (by omega)
  rw [e, List.getElem?_eq_getElem (by omega)]
theorem spec_l03Name_eq (s : ByteArray) : spec_l03Name.f s = some (decide (1 ≤ (s.size : Int) ∧ (s.size : Int) ≤ 8)) := by
  unfold spec_l03Name.f
  rw [spec_l01In_eq, Option.bind_some]
theorem spec_DiskOk_l0 (l : List S45) (hl : l.length ≤ 1048576) : ∀ (t : List S45) (i : Nat), l.drop i = t → i ≤ l.length → Ev (fun k => spec_DiskOk.l0 k (i : Int) l) (filesOk (ahead l i) t) := by
  intro t
  induction t with
  | nil =>
    intro i ht hi
    have := drop_nil_len ht
    refine Ev.step (f := fun _ => some true) (fun k => by rw [spec_DiskOk.l0, if_neg (by omega)]) (Ev.ret ?_)
    cases ahead l i <;> rfl
  | cons a t ih =>
    intro i ht hi
    obtain ⟨h1, h2, h3⟩ := rd_T45_drop ht
    have e := ih (i + 1) h3 (by omega)
    rw [ahead_succ ht, show ((i + 1 : Nat) : Int) = (i : Int) + 1 from by omega] at e
    refine Ev.succ ?_
    simp only [spec_DiskOk.l0, h1, w64 (n := (i : Int) + 1) (by omega) (by omega), w64 (n := (i : Int) - 1) (by omega) (by omega)]
    refine Ev.pos (by omega) (Ev.pos (by omega) (Ev.bind0 (spec_l03Name_eq _) ?_))
    have hno : fileOk a = false → Ev (fun _ => some false) (filesOk (ahead l i) (a :: t)) := fun h => Ev.ret (by cases ahead l i <;> simp [filesOk, h])
    by_cases c1 : 1 ≤ (a.f0.size : Int) ∧ (a.f0.size : Int) ≤ 8
    · refine Ev.pos (decide_eq_true c1) ?_
      by_cases c2 : (a.f1.size : Int) > 20000
      · exact Ev.pos c2 (hno (by simp only [fileOk]; rw [show decide ((a.f1.size : Int) ≤ 20000) = false from decide_eq_false (by omega)]; simp))
      · refine Ev.neg c2 (Ev.bind0 (spec_l01In_eq _ _ _) ?_)
        by_cases c3 : 0 ≤ a.f2 ∧ a.f2 ≤ (a.f1.size : Int)
        · refine Ev.pos (decide_eq_true c3) ?_
          have hok : fileOk a = true := by
            simp only [fileOk]
            rw [decide_eq_true c1, decide_eq_true c3, show decide ((a.f1.size : Int) ≤ 20000) = true from decide_eq_true (by omega)]
            rfl
          by_cases c4 : 0 < i
          · refine Ev.pos (by omega) (Ev.pos (by omega) (Ev.pos (by omega) ?_))
            rw [rd_ahead c4 hi]
            simp only [filesOk, hok, Bool.true_and]
            cases hb : Op.bytesLess (rd_T45 l ((i : Int) - 1)).f0.toList a.f0.toList with
            | true => exact Ev.pos (by trivial) (by simpa using e)
            | false => exact Ev.neg (by simp) (Ev.ret (by simp))
          · refine Ev.neg (by omega) ?_
            rw [show ahead l i = none from if_neg c4]
            simp only [filesOk, hok, Bool.true_and]
            exact e
        · exact Ev.neg (by simpa using c3) (hno (by simp only [fileOk]; rw [decide_eq_false c3]; simp))
    · exact Ev.neg (by simpa using c1) (hno (by simp only [fileOk]; rw [decide_eq_false c1]; simp))
theorem spec_DiskOk_ev (l : List S45) (hl : l.length ≤ 1048576) : Ev (fun k => spec_DiskOk.f k l) (diskOk l) := by
  unfold spec_DiskOk.f diskOk
  by_cases h : (l.length : Int) > 30
  · exact Ev.pos h (Ev.ret (by rw [decide_eq_false (by omega)]; rfl))
  · refine Ev.neg h ?_
    rw [show decide (l.length ≤ 30) = true from decide_eq_true (by omega), Bool.true_and]
    exact spec_DiskOk_l0 l hl l 0 rfl (Nat.zero_le _)

theorem impl_DiskOk_l0 (l : List S45) (hl : l.length ≤ 1048576) : ∀ (t : List S45) (i : Nat), l.drop i = t → i ≤ l.length → Ev (fun k => impl_DiskOk.l0 k l (l.length : Int) (i : Int) l) (decide (l.length ≤ 30) && filesOk (ahead l i) t) := by
  intro t
  induction t with
  | nil =>
    intro i ht hi
    have := drop_nil_len ht
    refine Ev.step (f := fun _ => some (decide ((l.length : Int) ≤ 30))) (fun k => by rw [impl_DiskOk.l0, if_neg (by omega)]) (Ev.ret ?_)
    have e : filesOk (ahead l i) [] = true := by cases ahead l i <;> rfl
    rw [e, Bool.and_true]
    exact decide_eq_decide.2 (by omega)
  | cons a t ih =>
    intro i ht hi
    obtain ⟨h1, h2, h3⟩ := rd_T45_drop ht
    have e := ih (i + 1) h3 (by omega)
    rw [ahead_succ ht, show ((i + 1 : Nat) : Int) = (i : Int) + 1 from by omega] at e
    refine Ev.succ ?_
    simp only [impl_DiskOk.l0, h1, w64 (n := (i : Int) + 1) (by omega) (by omega), w64 (n := (i : Int) - 1) (by omega) (by omega)]
    refine Ev.pos (by omega) (Ev.pos (by omega) (Ev.pos (by omega) (Ev.bind0 (impl_within_eq _ _ _) ?_)))
    have hno : fileOk a = false → Ev (fun _ => some false) (decide (l.length ≤ 30) && filesOk (ahead l i) (a :: t)) := fun h => Ev.ret (by cases ahead l i <;> simp [filesOk, h])
    by_cases c1 : 1 ≤ (a.f0.size : Int) ∧ (a.f0.size : Int) ≤ 8
    · refine Ev.pos (decide_eq_true c1) ?_
      by_cases c2 : (a.f1.size : Int) > 20000
      · exact Ev.pos c2 (hno (by simp only [fileOk]; rw [show decide ((a.f1.size : Int) ≤ 20000) = false from decide_eq_false (by omega)]; simp))
      · refine Ev.neg c2 (Ev.bind0 (impl_within_eq _ _ _) ?_)
        by_cases c3 : 0 ≤ a.f2 ∧ a.f2 ≤ (a.f1.size : Int)
        · refine Ev.pos (decide_eq_true c3) ?_
          have hok : fileOk a = true := by
            simp only [fileOk]
            rw [decide_eq_true c1, decide_eq_true c3, show decide ((a.f1.size : Int) ≤ 20000) = true from decide_eq_true (by omega)]
            rfl
          by_cases c4 : 0 < i
          · refine Ev.pos (by omega) (Ev.pos (by omega) (Ev.pos (by omega) ?_))
            rw [rd_ahead c4 hi]
            simp only [filesOk, hok, Bool.true_and]
            cases hb : Op.bytesLess (rd_T45 l ((i : Int) - 1)).f0.toList a.f0.toList with
            | true => exact Ev.pos (by trivial) (by simpa using e)
            | false => exact Ev.neg (by simp) (Ev.ret (by simp))
          · refine Ev.neg (by omega) ?_
            rw [show ahead l i = none from if_neg c4]
            simp only [filesOk, hok, Bool.true_and]
            exact e
        · exact Ev.neg (by simpa using c3) (hno (by simp only [fileOk]; rw [decide_eq_false c3]; simp))
    · exact Ev.neg (by simpa using c1) (hno (by simp only [fileOk]; rw [decide_eq_false c1]; simp))
theorem impl_DiskOk_ev (l : List S45) (hl : l.length ≤ 1048576) : Ev (fun k => impl_DiskOk.f k l) (diskOk l) := by
  unfold impl_DiskOk.f diskOk
  exact impl_DiskOk_l0 l hl l 0 rfl (Nat.zero_le _)

theorem files_all : ∀ (l : List S45) (o : Option S45), filesOk o l = true → ∀ x ∈ l, fileOk x = true := by
  intro l
  induction l with
  | nil => intro _ _ x hx; cases hx
  | cons a t ih =>
    intro o h x hx
    have h2 : fileOk a = true ∧ filesOk (some a) t = true := by
      cases o with
      | none => rw [filesOk, Bool.and_eq_true] at h; exact h
      | some y => rw [filesOk, Bool.and_eq_true, Bool.and_eq_true] at h; exact ⟨h.1.1, h.2⟩
    rcases List.mem_cons.1 hx with rfl | hx
    · exact h2.1
    · exact ih _ h2.2 x hx

theorem idx_range {α : Type} (p : α → Bool) : ∀ (l : List α) (i : Int), idxFrom p l i = -1 ∨ (i ≤ idxFrom p l i ∧ idxFrom p l i < i + (l.length : Int)) := by
  intro l
  induction l with
  | nil => intro i; exact .inl rfl
  | cons a t ih =>
    intro i
    rw [idxFrom, List.length_cons]
    by_cases h : p a = true
    · rw [if_pos h]; right; omega
    · rw [if_neg h]
      rcases ih (i + 1) with h1 | h1
      · exact .inl h1
      · right; omega
theorem idx_any {α : Type} (p : α → Bool) : ∀ (l : List α) (i : Int), 0 ≤ i → decide (0 ≤ idxFrom p l i) = l.any p := by
  intro l
  induction l with
  | nil => intro i _; rfl
  | cons a t ih =>
    intro i hi
    rw [idxFrom, List.any_cons]
    by_cases h : p a = true
    · rw [if_pos h, h, decide_eq_true hi]; rfl
    · rw [if_neg h, ih (i + 1) (by omega)]
      rw [show p a = false from by simpa using h]; rfl

theorem laws_markText_l0 : ∀ (n : Nat) (acc : ByteArray), acc.size + n < 4611686018427387904 → Ev (fun k => laws_markText.l0 k (n : Int) acc) (mtl n acc) := by
  intro n
  induction n using Nat.strongRecOn with
  | _ n ih =>
    intro acc h
    by_cases hn : 0 < n
    · rw [mtl_pos hn]
      refine Ev.succ ?_
      simp only [laws_markText.l0]
      rw [tmodp (by omega), tdivp (by omega), w64 (n := 48 + (n : Int) % 10) (by omega) (by omega), w64 (n := (n : Int) / 10) (by omega) (by omega), show (48 + (n : Int) % 10) % 256 = ((48 + n % 10 : Nat) : Int) from by omega, show (n : Int) / 10 = ((n / 10 : Nat) : Int) from by omega]
      refine Ev.pos (by omega) (Ev.bind0 rfl (Ev.pos (by rw [strOfNums_size, List.length_singleton]; omega) ?_))
      exact ih (n / 10) (by omega) _ (by rw [app_size, strOfNums_size, List.length_singleton]; omega)
    · obtain rfl : n = 0 := by omega
      rw [mtl_zero]
      exact Ev.step (f := fun _ => some ((⟨#[109]⟩ : ByteArray) ++ acc)) (fun k => by rw [laws_markText.l0, if_neg (by omega), if_pos (by omega)]) (Ev.now _)
theorem laws_markText_ev {n : Nat} (h : 0 < n) (h' : n < 4611686018427387904) : Ev (fun k => laws_markText.f k (n : Int)) (mt n) := by
  unfold laws_markText.f
  exact Ev.neg (by omega) (laws_markText_l0 n _ (by rw [show (⟨#[]⟩ : ByteArray).size = 0 from rfl]; omega))

def marksF : Nat → Nat → List S45
  | _, 0 => []
  | a, m + 1 => ⟨mt a, mt (a + 1), ((a + 2 : Nat) : Int)⟩ :: marksF (a + 3) m
theorem marksF_length : ∀ (m a : Nat), (marksF a m).length = m := by
  intro m
  induction m with
  | zero => intro a; rfl
  | succ m ih => intro a; rw [marksF, List.length_cons, ih]
theorem rd_set {xs : List S45} {i : Nat} (h : i < xs.length) (v : S45) : rd_T45 (xs.set i v) (i : Int) = v := by
  unfold rd_T45
  rw [Int.toNat_natCast, List.getD_eq_getElem?_getD, List.getElem?_set_self h]
  rfl
theorem laws_markFileS_l0 : ∀ (d i a : Nat) (xs : List S45), xs.length = i + d → xs.length ≤ 1048576 → 0 < a → a + 3 * d < 4611686018427387904 → Ev (fun k => laws_markFileS.l0 k xs (a : Int) (i : Int)) (((a + 3 * d : Nat) : Int), xs.take i ++ marksF a d) := by
  intro d
  induction d with
  | zero =>
    intro i a xs hx hb ha hz
    refine Ev.step (f := fun _ => some ((a : Int), xs)) (fun k => by rw [laws_markFileS.l0, if_neg (by omega)]) (Ev.ret ?_)
    rw [List.take_of_length_le (by omega), marksF, List.append_nil, Nat.mul_zero, Nat.add_zero]
  | succ d ih =>
    intro i a xs hx hb ha hz
    have hi : i < xs.length := by omega
    have e := ih (i + 1) (a + 3) (xs.set i ⟨mt a, mt (a + 1), ((a + 2 : Nat) : Int)⟩) (by rw [List.length_set]; omega) (by rw [List.length_set]; omega) (by omega) (by omega)
    rw [take_set_snoc _ _ _ hi, List.append_assoc, show a + 3 + 3 * d = a + 3 * (d + 1) from by omega, show ((i + 1 : Nat) : Int) = (i : Int) + 1 from by omega, show ((a + 3 : Nat) : Int) = (a : Int) + 1 + 1 + 1 from by omega] at e
    refine Ev.succ ?_
    simp only [laws_markFileS.l0, w64 (n := (i : Int) + 1) (by omega) (by omega), w64 (n := (a : Int) + 1) (by omega) (by omega), w64 (n := (a : Int) + 1 + 1) (by omega) (by omega), w64 (n := (a : Int) + 1 + 1 + 1) (by omega) (by omega), Int.toNat_natCast]
    refine Ev.pos (by omega) (Ev.bind (laws_markText_ev ha (by omega)) (Ev.pos (by omega) (Ev.bind0 rfl ?_)))
    have m1 := laws_markText_ev (n := a + 1) (by omega) (by omega)
    rw [show ((a + 1 : Nat) : Int) = (a : Int) + 1 from by omega] at m1
    refine Ev.bind m1 (Ev.bind0 rfl ?_)
    simp only [List.set_set, rd_set hi]
    rw [show ((a + 2 : Nat) : Int) = (a : Int) + 1 + 1 from by omega] at e
    rw [marksF, show ((a + 2 : Nat) : Int) = (a : Int) + 1 + 1 from by omega]
    exact e
theorem laws_markDisk_ev (xs : List S45) (hb : xs.length ≤ 1048576) : Ev (fun k => laws_markDisk.f k xs 1) (((1 + 3 * xs.length : Nat) : Int), marksF 1 xs.length) := by
  unfold laws_markDisk.f laws_markFileS.f
  exact Ev.bind (laws_markFileS_l0 xs.length 0 1 xs (by omega) hb (by omega) (by omega)) (Ev.now _)
theorem laws_heldFileS_l0 (xs : List S45) (hb : xs.length ≤ 1048576) : ∀ (d i a : Nat), xs.drop i = marksF a d → i ≤ xs.length → 0 < a → a + 3 * d < 4611686018427387904 → Ev (fun k => laws_heldFileS.l0 k xs (a : Int) (i : Int)) ((a + 3 * d : Nat) : Int) := by
  intro d
  induction d with
  | zero =>
    intro i a hx hi ha hz
    have := drop_nil_len hx
    exact Ev.step (f := fun _ => some (a : Int)) (fun k => by rw [laws_heldFileS.l0, if_neg (by omega)]) (Ev.now _)
  | succ d ih =>
    intro i a hx hi ha hz
    obtain ⟨h1, h2, h3⟩ := rd_T45_drop hx
    have e := ih (i + 1) (a + 3) h3 (by omega) (by omega) (by omega)
    rw [show a + 3 + 3 * d = a + 3 * (d + 1) from by omega, show ((i + 1 : Nat) : Int) = (i : Int) + 1 from by omega, show ((a + 3 : Nat) : Int) = (a : Int) + 1 + 1 + 1 from by omega] at e
    refine Ev.succ ?_
    simp only [laws_heldFileS.l0, w64 (n := (i : Int) + 1) (by omega) (by omega), w64 (n := (a : Int) + 1) (by omega) (by omega), w64 (n := (a : Int) + 1 + 1) (by omega) (by omega), w64 (n := (a : Int) + 1 + 1 + 1) (by omega) (by omega), h1]
    have m1 := laws_markText_ev (n := a + 1) (by omega) (by omega)
    rw [show ((a + 1 : Nat) : Int) = (a : Int) + 1 from by omega] at m1
    exact Ev.pos (by omega) (Ev.pos (by omega) (Ev.bind (laws_markText_ev ha (by omega)) (Ev.pos rfl (Ev.bind m1 (Ev.pos rfl (Ev.pos (by omega) e))))))
theorem laws_heldDisk_ev (m : Nat) (hb : m ≤ 1048576) : Ev (fun k => laws_heldDisk.f k (marksF 1 m) 1) ((1 + 3 * m : Nat) : Int) := by
  unfold laws_heldDisk.f laws_heldFileS.f
  exact Ev.bind (laws_heldFileS_l0 (marksF 1 m) (by rw [marksF_length]; exact hb) m 0 1 rfl (Nat.zero_le _) (by omega) (by omega)) (Ev.neg (by omega) (Ev.now _))

theorem bytes_gt : ∀ (x y : List UInt8), Op.bytesLess y x = (!Op.bytesLess x y && !(x == y))
  | [], [] => rfl
  | [], _ :: _ => rfl
  | _ :: _, [] => rfl
  | a :: x, b :: y => by
    have ih := bytes_gt x y
    by_cases h : a = b
    · subst h
      simp [Op.bytesLess, ih]
    · have hn : a.toNat ≠ b.toNat := fun e => h (UInt8.toNat_inj.1 e)
      have h1 : (b == a) = false := by simpa using fun e => h e.symm
      have h2 : (a == b) = false := by simpa using h
      by_cases hl : a.toNat < b.toNat
      · have c1 : decide (b < a) = false := decide_eq_false (fun e => by have := UInt8.lt_iff_toNat_lt.1 e; omega)
        have c2 : decide (a < b) = true := decide_eq_true (UInt8.lt_iff_toNat_lt.2 hl)
        simp [Op.bytesLess, h1, h2, c1, c2]
      · have c1 : decide (b < a) = true := decide_eq_true (UInt8.lt_iff_toNat_lt.2 (by omega))
        have c2 : decide (a < b) = false := decide_eq_false (fun e => hl (UInt8.lt_iff_toNat_lt.1 e))
        simp [Op.bytesLess, h1, h2, c1, c2]
def before (x y : S45) : Prop := Op.bytesLess x.f0.toList y.f0.toList = true
theorem less_trans : ∀ (x y z : List UInt8), Op.bytesLess x y = true → Op.bytesLess y z = true → Op.bytesLess x z = true
  | _, _, [], _, h => by simp [Op.bytesLess] at h
  | _, [], _ :: _, h, _ => by simp [Op.bytesLess] at h
  | [], _ :: _, _ :: _, _, _ => rfl
  | a :: x, b :: y, c :: z, h, k => by
    simp only [Op.bytesLess, Bool.or_eq_true, Bool.and_eq_true, decide_eq_true_eq, beq_iff_eq] at h k ⊢
    rcases h with h | ⟨h, h'⟩
    · rcases k with k | ⟨k, k'⟩
      · exact .inl (UInt8.lt_trans h k)
      · exact .inl (k ▸ h)
    · rcases k with k | ⟨k, k'⟩
      · exact .inl (h ▸ k)
      · exact .inr ⟨h.trans k, less_trans x y z h' k'⟩
theorem less_irrefl : ∀ (x : List UInt8), ¬ Op.bytesLess x x = true
  | [] => by simp [Op.bytesLess]
  | a :: x => by
    simp only [Op.bytesLess, Bool.or_eq_true, Bool.and_eq_true, decide_eq_true_eq, beq_iff_eq, not_or, not_and]
    exact ⟨UInt8.lt_irrefl a, fun _ => less_irrefl x⟩
theorem before_trans {x y z : S45} (h : before x y) (k : before y z) : before x z := less_trans _ _ _ h k
theorem pair_files : ∀ (l : List S45) (o : Option S45), (∀ x ∈ l, fileOk x = true) → l.Pairwise before → (∀ y, o = some y → ∀ x ∈ l, before y x) → filesOk o l = true := by
  intro l
  induction l with
  | nil => intro o _ _ _; cases o <;> rfl
  | cons a t ih =>
    intro o h1 h2 h3
    rw [List.pairwise_cons] at h2
    have e := ih (some a) (fun x hx => h1 x (List.mem_cons_of_mem _ hx)) h2.2 (fun y hy x hx => by injection hy with hy; subst hy; exact h2.1 x hx)
    have ha := h1 a List.mem_cons_self
    cases o with
    | none => rw [filesOk, ha, e]; rfl
    | some y =>
      have hb : Op.bytesLess y.f0.toList a.f0.toList = true := h3 y rfl a List.mem_cons_self
      rw [filesOk, ha, hb, e]; rfl
def putOf (l : List S45) (f : S45) : List S45 := l.filter (fun x => Op.bytesLess x.f0.toList f.f0.toList) ++ f :: l.filter (fun x => Op.bytesLess f.f0.toList x.f0.toList)
theorem putOf_pair {l : List S45} (f : S45) (h : l.Pairwise before) : (putOf l f).Pairwise before := by
  unfold putOf
  rw [List.pairwise_append, List.pairwise_cons]
  refine ⟨h.filter _, ⟨fun x hx => (List.mem_filter.1 hx).2, h.filter _⟩, fun x hx y hy => ?_⟩
  have hx2 : before x f := (List.mem_filter.1 hx).2
  rcases List.mem_cons.1 hy with rfl | hy
  · exact hx2
  · exact before_trans hx2 (show before f y from (List.mem_filter.1 hy).2)
theorem putOf_mem {l : List S45} {f x : S45} (h : x ∈ putOf l f) : x = f ∨ x ∈ l := by
  unfold putOf at h
  rcases List.mem_append.1 h with h | h
  · exact .inr (List.mem_filter.1 h).1
  · rcases List.mem_cons.1 h with h | h
    · exact .inl h
    · exact .inr (List.mem_filter.1 h).1
theorem filter_two {l : List S45} (f : S45) : (l.filter (fun x => Op.bytesLess x.f0.toList f.f0.toList)).length + (l.filter (fun x => Op.bytesLess f.f0.toList x.f0.toList)).length ≤ l.length := by
  induction l with
  | nil => simp
  | cons a t ih =>
    have hno : ¬ (Op.bytesLess a.f0.toList f.f0.toList = true ∧ Op.bytesLess f.f0.toList a.f0.toList = true) := fun h => by
      exact less_irrefl _ (less_trans _ _ _ h.1 h.2)
    rw [List.filter_cons, List.filter_cons, List.length_cons]
    by_cases c1 : Op.bytesLess a.f0.toList f.f0.toList = true
    · have c2 : ¬ Op.bytesLess f.f0.toList a.f0.toList = true := fun h => hno ⟨c1, h⟩
      rw [if_pos c1, if_neg c2, List.length_cons]; omega
    · rw [if_neg c1]
      by_cases c2 : Op.bytesLess f.f0.toList a.f0.toList = true
      · rw [if_pos c2, List.length_cons]; omega
      · rw [if_neg c2]; omega
theorem putOf_length (l : List S45) (f : S45) : (putOf l f).length ≤ l.length + 1 := by
  unfold putOf
  rw [List.length_append, List.length_cons]
  have := filter_two (l := l) f
  omega
theorem spec_l03Put_l1 (l : List S45) (hl : l.length ≤ 1048576) (f : S45) : ∀ (t : List S45) (i : Nat) (acc : List S45), l.drop i = t → i ≤ l.length → acc.length ≤ 1048577 + i →
    Ev (fun k => spec_l03Put.l1 k (i : Int) l f.f0 f.f1 f.f2 acc) (acc ++ t.filter (fun x => Op.bytesLess f.f0.toList x.f0.toList)) := by
  intro t
  induction t with
  | nil =>
    intro i acc ht hi hz
    have := drop_nil_len ht
    exact Ev.step (f := fun _ => some acc) (fun k => by rw [spec_l03Put.l1, if_neg (by omega)]) (Ev.ret (by simp))
  | cons a t ih =>
    intro i acc ht hi hz
    obtain ⟨h1, h2, h3⟩ := rd_T45_drop ht
    refine Ev.succ ?_
    simp only [spec_l03Put.l1, h1, w64 (n := (i : Int) + 1) (by omega) (by omega)]
    refine Ev.pos (by omega) (Ev.pos (by omega) ?_)
    rw [List.filter_cons]
    by_cases c : Op.bytesLess f.f0.toList a.f0.toList = true
    · have e := ih (i + 1) (acc ++ [a]) h3 (by omega) (by rw [List.length_append, List.length_singleton]; omega)
      rw [List.append_assoc, show ((i + 1 : Nat) : Int) = (i : Int) + 1 from by omega] at e
      rw [if_pos c]
      exact Ev.pos c (Ev.pos (by omega) e)
    · have e := ih (i + 1) acc h3 (by omega) (by omega)
      rw [show ((i + 1 : Nat) : Int) = (i : Int) + 1 from by omega] at e
      rw [if_neg c]
      exact Ev.neg c e
theorem spec_l03Put_l0 (l : List S45) (hl : l.length ≤ 1048576) (f : S45) : ∀ (t : List S45) (i : Nat) (acc : List S45), l.drop i = t → i ≤ l.length → acc.length ≤ i →
    Ev (fun k => spec_l03Put.l0 k (i : Int) l f.f0 f.f1 f.f2 acc) (acc ++ t.filter (fun x => Op.bytesLess x.f0.toList f.f0.toList) ++ f :: l.filter (fun x => Op.bytesLess f.f0.toList x.f0.toList)) := by
  intro t
  induction t with
  | nil =>
    intro i acc ht hi hz
    have := drop_nil_len ht
    refine Ev.succ ?_
    simp only [spec_l03Put.l0]
    have e := spec_l03Put_l1 l hl f l 0 (acc ++ [f]) rfl (Nat.zero_le _) (by rw [List.length_append, List.length_singleton]; omega)
    rw [List.append_assoc] at e
    refine Ev.neg (by omega) (Ev.pos (by omega) ?_)
    rw [List.filter_nil, List.append_nil]
    exact e
  | cons a t ih =>
    intro i acc ht hi hz
    obtain ⟨h1, h2, h3⟩ := rd_T45_drop ht
    refine Ev.succ ?_
    simp only [spec_l03Put.l0, h1, w64 (n := (i : Int) + 1) (by omega) (by omega)]
    refine Ev.pos (by omega) (Ev.pos (by omega) ?_)
    rw [List.filter_cons]
    by_cases c : Op.bytesLess a.f0.toList f.f0.toList = true
    · have e := ih (i + 1) (acc ++ [a]) h3 (by omega) (by rw [List.length_append, List.length_singleton]; omega)
      rw [List.append_assoc acc, show ((i + 1 : Nat) : Int) = (i : Int) + 1 from by omega] at e
      rw [if_pos c]
      exact Ev.pos c (Ev.pos (by omega) e)
    · have e := ih (i + 1) acc h3 (by omega) (by omega)
      rw [show ((i + 1 : Nat) : Int) = (i : Int) + 1 from by omega] at e
      rw [if_neg c]
      exact Ev.neg c e
theorem spec_l03Put_ev (l : List S45) (hl : l.length ≤ 1048576) (f : S45) : Ev (fun k => spec_l03Put.f k l f.f0 f.f1 f.f2) (putOf l f) := by
  unfold spec_l03Put.f
  exact spec_l03Put_l0 l hl f l 0 [] rfl (Nat.zero_le _) (Nat.le_refl _)
def named (s : ByteArray) (x : S45) : Bool := decide (x.f0.toList = s.toList)
theorem spec_l03At_l0 (l : List S45) (hl : l.length ≤ 1048576) (s : ByteArray) : ∀ (t : List S45) (i : Nat), l.drop i = t → i ≤ l.length → Ev (fun k => spec_l03At.l0 k s (i : Int) l) (idxFrom (named s) t (i : Int)) := by
  intro t
  induction t with
  | nil =>
    intro i ht hi
    have := drop_nil_len ht
    exact Ev.step (f := fun _ => some (-1)) (fun k => by rw [spec_l03At.l0, if_neg (by omega)]) (Ev.now _)
  | cons a t ih =>
    intro i ht hi
    obtain ⟨h1, h2, h3⟩ := rd_T45_drop ht
    have e := ih (i + 1) h3 (by omega)
    rw [show ((i + 1 : Nat) : Int) = (i : Int) + 1 from by omega] at e
    refine Ev.succ ?_
    simp only [spec_l03At.l0, h1, w64 (n := (i : Int) + 1) (by omega) (by omega)]
    refine Ev.pos (by omega) (Ev.pos (by omega) ?_)
    rw [idxFrom, named]
    by_cases h : a.f0.toList = s.toList
    · rw [if_pos (decide_eq_true h)]
      exact Ev.pos h (Ev.now _)
    · rw [if_neg (by simpa using h)]
      exact Ev.neg h e

theorem bytes_ne {x y : S45} (h : ¬ x.f0.toList = y.f0.toList) (h2 : ¬ Op.bytesLess y.f0.toList x.f0.toList = true) : Op.bytesLess x.f0.toList y.f0.toList = true := by
  have := bytes_gt x.f0.toList y.f0.toList
  cases hb : Op.bytesLess x.f0.toList y.f0.toList with
  | true => rfl
  | false =>
    rw [hb] at this
    refine absurd ?_ h2
    rw [this]
    simp only [Bool.not_false, Bool.true_and, Bool.not_eq_true']
    exact beq_eq_false_iff_ne.2 h
theorem before_ne {x y : S45} (h : before x y) : ¬ x.f0.toList = y.f0.toList := fun e => by unfold before at h; rw [e] at h; exact less_irrefl _ h
theorem before_not {x y : S45} (h : before x y) : ¬ before y x := fun k => less_irrefl _ (less_trans _ _ _ h k)
/-- A file put into a sorted disk. -/
def putRec (f : S45) : List S45 → List S45
  | [] => [f]
  | x :: t => if x.f0.toList = f.f0.toList then f :: t else if Op.bytesLess f.f0.toList x.f0.toList = true then f :: x :: t else x :: putRec f t
theorem putOf_rec (f : S45) : ∀ (l : List S45), l.Pairwise before → putOf l f = putRec f l := by
  intro l
  induction l with
  | nil => intro _; rfl
  | cons x t ih =>
    intro h
    rw [List.pairwise_cons] at h
    have ih := ih h.2
    unfold putOf at ih ⊢
    rw [putRec, List.filter_cons, List.filter_cons]
    by_cases c : x.f0.toList = f.f0.toList
    · have hl : ∀ y ∈ t, before f y := fun y hy => by have := h.1 y hy; unfold before at this ⊢; rw [← c]; exact this
      rw [if_pos c, c, if_neg (less_irrefl _), if_neg (less_irrefl _), List.filter_eq_nil_iff.2 (fun y hy => before_not (hl y hy)), List.filter_eq_self.2 hl]
      rfl
    · rw [if_neg c]
      by_cases c2 : Op.bytesLess f.f0.toList x.f0.toList = true
      · have hl : ∀ y ∈ t, before f y := fun y hy => before_trans (show before f x from c2) (h.1 y hy)
        rw [if_pos c2, if_pos c2, if_neg (show ¬ Op.bytesLess x.f0.toList f.f0.toList = true from before_not (show before f x from c2)), List.filter_eq_nil_iff.2 (fun y hy => before_not (hl y hy)), List.filter_eq_self.2 hl]
        rfl
      · rw [if_neg c2, if_neg c2, if_pos (bytes_ne c c2), ← ih]
        rfl
theorem idx_shift {α : Type} (p : α → Bool) : ∀ (l : List α) (i : Int), idxFrom p l i = if idxFrom p l 0 < 0 then -1 else i + idxFrom p l 0
  | [], i => rfl
  | x :: t, i => by
    rw [idxFrom, idxFrom]
    by_cases c : p x = true
    · rw [if_pos c, if_pos c, if_neg (by omega)]; omega
    · rw [if_neg c, if_neg c, idx_shift p t (i + 1), idx_shift p t (0 + 1)]
      by_cases c2 : idxFrom p t 0 < 0
      · rw [if_pos c2, if_pos c2, if_pos (by omega)]
      · rw [if_neg c2, if_neg c2, if_neg (by omega)]; omega
theorem idx_cons {α : Type} (p : α → Bool) (x : α) (t : List α) (h : ¬ p x = true) : idxFrom p (x :: t) 0 = if idxFrom p t 0 < 0 then -1 else 1 + idxFrom p t 0 := by
  rw [idxFrom, if_neg h, idx_shift p t (0 + 1)]
  rfl
theorem idx_none {α : Type} (p : α → Bool) : ∀ (l : List α) (i : Int), (∀ x ∈ l, ¬ p x = true) → idxFrom p l i = -1
  | [], i, _ => rfl
  | x :: t, i, h => by rw [idxFrom, if_neg (h x List.mem_cons_self)]; exact idx_none p t (i + 1) (fun y hy => h y (List.mem_cons_of_mem _ hy))
theorem insAt_succ (x f : S45) (t : List S45) (n : Nat) : insAt (x :: t) (n + 1) f = x :: insAt t n f := rfl
theorem putFileL_rec (f : S45) : ∀ (l : List S45), l.Pairwise before → putFileL l f = putRec f l := by
  intro l
  induction l with
  | nil => intro _; rfl
  | cons x t ih =>
    intro h
    rw [List.pairwise_cons] at h
    have ih := ih h.2
    rw [putRec]
    by_cases c : x.f0.toList = f.f0.toList
    · rw [if_pos c]
      unfold putFileL
      rw [idxFrom, if_pos (decide_eq_true c), if_pos (Int.le_refl _)]
      rfl
    · rw [if_neg c]
      have hx : ¬ (fun x : S45 => decide (x.f0.toList = f.f0.toList)) x = true := by simpa using c
      by_cases c2 : Op.bytesLess f.f0.toList x.f0.toList = true
      · rw [if_pos c2]
        have hn : idxFrom (fun x : S45 => decide (x.f0.toList = f.f0.toList)) (x :: t) 0 = -1 := idx_none _ _ _ (fun y hy => by
          rcases List.mem_cons.1 hy with rfl | hy
          · exact hx
          · have := before_ne (before_trans (show before f x from c2) (h.1 y hy))
            simp only [decide_eq_true_eq]
            exact fun e => this e.symm)
        have hj : idxFrom (fun x : S45 => Op.bytesLess f.f0.toList x.f0.toList) (x :: t) 0 = 0 := by rw [idxFrom, if_pos c2]
        unfold putFileL
        rw [hn, hj, if_neg (by omega), if_neg (by omega)]
        rfl
      · rw [if_neg c2, ← ih]
        have r1 := idx_range (fun x : S45 => decide (x.f0.toList = f.f0.toList)) t 0
        have r2 := idx_range (fun x : S45 => Op.bytesLess f.f0.toList x.f0.toList) t 0
        unfold putFileL
        rw [idx_cons _ x t hx, idx_cons (fun x : S45 => Op.bytesLess f.f0.toList x.f0.toList) x t c2]
        generalize idxFrom (fun x : S45 => decide (x.f0.toList = f.f0.toList)) t 0 = A at r1 ⊢
        generalize idxFrom (fun x : S45 => Op.bytesLess f.f0.toList x.f0.toList) t 0 = B at r2 ⊢
        by_cases d : A < 0
        · rw [if_pos d, if_neg (show ¬ (0 : Int) ≤ -1 by omega), if_neg (show ¬ 0 ≤ A by omega)]
          by_cases d2 : B < 0
          · rw [if_pos d2, if_pos (show (-1 : Int) < 0 by omega), if_pos d2, List.length_cons, insAt_succ]
          · rw [if_neg d2, if_neg (show ¬ 1 + B < 0 by omega), if_neg d2]
            obtain ⟨n, hn⟩ := Int.eq_ofNat_of_zero_le (Int.not_lt.1 d2)
            rw [hn, show (1 + (n : Int)).toNat = n + 1 from by omega, Int.toNat_natCast, insAt_succ]
        · rw [if_neg d, if_pos (show 0 ≤ 1 + A by omega), if_pos (show 0 ≤ A by omega)]
          obtain ⟨n, hn⟩ := Int.eq_ofNat_of_zero_le (Int.not_lt.1 d)
          rw [hn, show (1 + (n : Int)).toNat = n + 1 from by omega, Int.toNat_natCast, List.set_cons_succ]
theorem putRec_mem (f : S45) : ∀ (l : List S45), f ∈ putRec f l
  | [] => List.mem_cons_self
  | x :: t => by
    rw [putRec]
    split
    · exact List.mem_cons_self
    · split
      · exact List.mem_cons_self
      · exact List.mem_cons_of_mem _ (putRec_mem f t)
theorem putFileL_mem (l : List S45) (f : S45) : f ∈ putFileL l f := by
  unfold putFileL
  split
  · rename_i h
    have hr := idx_range (fun x : S45 => decide (x.f0.toList = f.f0.toList)) l 0
    exact List.mem_iff_getElem?.2 ⟨_, List.getElem?_set_self (by omega)⟩
  · split <;> exact List.mem_append_right _ List.mem_cons_self
theorem putFileL_length (l : List S45) (f : S45) : (putFileL l f).length ≤ l.length + 1 := by
  unfold putFileL insAt
  split
  · rw [List.length_set]; omega
  · split <;> simp <;> omega
theorem files_pair : ∀ (l : List S45) (o : Option S45), filesOk o l = true → l.Pairwise before ∧ ∀ y, o = some y → ∀ x ∈ l, before y x := by
  intro l
  induction l with
  | nil => intro o _; exact ⟨List.Pairwise.nil, fun _ _ x hx => by cases hx⟩
  | cons a t ih =>
    intro o h
    have h2 : filesOk (some a) t = true ∧ ∀ y, o = some y → before y a := by
      cases o with
      | none => rw [filesOk, Bool.and_eq_true] at h; exact ⟨h.2, fun y e => by cases e⟩
      | some y => rw [filesOk, Bool.and_eq_true, Bool.and_eq_true] at h; exact ⟨h.2, fun z e => by injection e with e; subst e; exact h.1.2⟩
    obtain ⟨i1, i2⟩ := ih (some a) h2.1
    refine ⟨List.pairwise_cons.2 ⟨i2 a rfl, i1⟩, fun y e x hx => ?_⟩
    rcases List.mem_cons.1 hx with rfl | hx
    · exact h2.2 y e
    · exact before_trans (h2.2 y e) (i2 a rfl x hx)
theorem disk_pair {l : List S45} (h : diskOk l = true) : l.Pairwise before ∧ (∀ x ∈ l, fileOk x = true) ∧ l.length ≤ 30 := by
  unfold diskOk at h
  rw [Bool.and_eq_true, decide_eq_true_eq] at h
  exact ⟨(files_pair l none h.2).1, files_all l none h.2, h.1⟩
theorem disk_bad {l : List S45} {f : S45} (hm : f ∈ l) (h : fileOk f = false) : diskOk l = false := by
  cases hd : diskOk l with
  | false => rfl
  | true =>
    have := (disk_pair hd).2.1 f hm
    rw [h] at this; cases this
def nameOk (s : ByteArray) : Bool := decide (1 ≤ (s.size : Int) ∧ (s.size : Int) ≤ 8)
theorem fileOk_name {x : S45} (h : fileOk x = true) : nameOk x.f0 = true ∧ (x.f1.size : Int) ≤ 20000 ∧ 0 ≤ x.f2 ∧ x.f2 ≤ (x.f1.size : Int) := by
  unfold fileOk at h
  rw [Bool.and_eq_true, Bool.and_eq_true, decide_eq_true_eq (p := (x.f1.size : Int) ≤ 20000), decide_eq_true_eq (p := 0 ≤ x.f2 ∧ x.f2 ≤ (x.f1.size : Int))] at h
  exact ⟨h.1.1, h.1.2, h.2⟩
theorem fileOk_bad {x : S45} (h : nameOk x.f0 = false) : fileOk x = false := by
  unfold nameOk at h
  unfold fileOk
  rw [h]; rfl
def without (l : List S45) (s : ByteArray) : List S45 := l.filter (fun x => !decide (x.f0.toList = s.toList))
theorem spec_l03Without_l0 (l : List S45) (hl : l.length ≤ 1048576) (s : ByteArray) : ∀ (t : List S45) (i : Nat) (acc : List S45), l.drop i = t → i ≤ l.length → acc.length ≤ i → Ev (fun k => spec_l03Without.l0 k s (i : Int) l acc) (acc ++ without t s) := by
  intro t
  induction t with
  | nil =>
    intro i acc ht hi hz
    have := drop_nil_len ht
    exact Ev.step (f := fun _ => some acc) (fun k => by rw [spec_l03Without.l0, if_neg (by omega)]) (Ev.ret (by simp [without]))
  | cons a t ih =>
    intro i acc ht hi hz
    obtain ⟨h1, h2, h3⟩ := rd_T45_drop ht
    refine Ev.succ ?_
    simp only [spec_l03Without.l0, h1, w64 (n := (i : Int) + 1) (by omega) (by omega)]
    refine Ev.pos (by omega) (Ev.pos (by omega) ?_)
    unfold without at ih ⊢
    rw [List.filter_cons]
    by_cases c : a.f0.toList = s.toList
    · have e := ih (i + 1) acc h3 (by omega) (by omega)
      rw [show ((i + 1 : Nat) : Int) = (i : Int) + 1 from by omega] at e
      rw [if_neg (by rw [decide_eq_true c]; decide)]
      exact Ev.pos c e
    · have e := ih (i + 1) (acc ++ [a]) h3 (by omega) (by rw [List.length_append, List.length_singleton]; omega)
      rw [List.append_assoc, show ((i + 1 : Nat) : Int) = (i : Int) + 1 from by omega] at e
      rw [if_pos (by rw [decide_eq_false c]; decide)]
      exact Ev.neg c (Ev.pos (by omega) e)
theorem spec_l03Without_ev (l : List S45) (hl : l.length ≤ 1048576) (s : ByteArray) : Ev (fun k => spec_l03Without.f k l s) (without l s) := by
  unfold spec_l03Without.f
  exact spec_l03Without_l0 l hl s l 0 [] rfl (Nat.zero_le _) (Nat.le_refl _)
theorem without_length (l : List S45) (s : ByteArray) : (without l s).length ≤ l.length := List.length_filter_le ..
/-- The one file of a name, struck. -/
theorem without_erase (s : ByteArray) : ∀ (l : List S45) (n : Nat), l.Pairwise before → idxFrom (named s) l 0 = (n : Int) → l.eraseIdx n = without l s := by
  intro l
  induction l with
  | nil => intro n _ h; rw [idxFrom] at h; omega
  | cons x t ih =>
    intro n h hi
    rw [List.pairwise_cons] at h
    unfold without
    rw [List.filter_cons]
    by_cases c : x.f0.toList = s.toList
    · rw [idxFrom, named, if_pos (decide_eq_true c)] at hi
      obtain rfl : n = 0 := by omega
      rw [if_neg (by rw [decide_eq_true c]; decide), List.eraseIdx_cons_zero, List.filter_eq_self.2]
      intro y hy
      have := before_ne (h.1 y hy)
      rw [c] at this
      simp only [Bool.not_eq_true', decide_eq_false_iff_not]
      exact fun e => this e.symm
    · have hx : ¬ named s x = true := by unfold named; simpa using c
      rw [idx_cons _ x t hx] at hi
      by_cases d : idxFrom (named s) t 0 < 0
      · rw [if_pos d] at hi; omega
      · rw [if_neg d] at hi
        obtain ⟨m, hm⟩ := Int.eq_ofNat_of_zero_le (Int.not_lt.1 d)
        rw [hm] at hi
        obtain rfl : n = m + 1 := by omega
        rw [if_pos (by rw [decide_eq_false c]; decide), List.eraseIdx_cons_succ, ih m h.2 hm]
        rfl
theorem idx_get {α : Type} (p : α → Bool) : ∀ (l : List α) (n : Nat), idxFrom p l 0 = (n : Int) → ∃ (h : n < l.length), p l[n] = true
  | [], n, h => by rw [idxFrom] at h; omega
  | x :: t, n, h => by
    by_cases c : p x = true
    · rw [idxFrom, if_pos c] at h
      obtain rfl : n = 0 := by omega
      exact ⟨by simp, c⟩
    · rw [idx_cons p x t c] at h
      by_cases d : idxFrom p t 0 < 0
      · rw [if_pos d] at h; omega
      · rw [if_neg d] at h
        obtain ⟨m, hm⟩ := Int.eq_ofNat_of_zero_le (Int.not_lt.1 d)
        rw [hm] at h
        obtain rfl : n = m + 1 := by omega
        obtain ⟨h1, h2⟩ := idx_get p t m hm
        exact ⟨by simp; omega, by simpa using h2⟩
def fin (m : List S45) : List S45 × Bool := if diskOk m = true then (m, true) else ([], false)
def goAct (l : List S45) (i a0 : Int) (f : S45) (a1 a2 a3 : ByteArray) : List S45 × Bool :=
  if a0 = 1 then fin (putOf l ⟨f.f0, f.f1 ++ a2, f.f2⟩)
  else if i < 0 then ([], false)
  else if a0 = 2 then fin (putOf l ⟨f.f0, f.f1, (f.f1.size : Int)⟩)
  else if a0 = 3 then (if f.f2 < (f.f1.size : Int) then ([], false) else if a3.toList = a1.toList then ([], false) else if nameOk a3 = true then fin (putOf (without l a1) ⟨a3, f.f1, f.f2⟩) else ([], false))
  else if a0 = 4 then fin (without l a1) else ([], false)
def fileOf (l : List S45) (i : Int) (a1 : ByteArray) : S45 := if 0 ≤ i then rd_T45 l i else ⟨a1, (⟨#[]⟩ : ByteArray), 0⟩
/-- What DoAct leaves. -/
def doAct (l : List S45) (a0 : Int) (a1 a2 a3 : ByteArray) : List S45 × Bool :=
  if diskOk l = true then (if nameOk a1 = true then (if a0 = 3 ∨ a3.toList = [] then (if a0 = 1 ∨ a2.toList = [] then goAct l (idxFrom (named a1) l 0) a0 (fileOf l (idxFrom (named a1) l 0) a1) a1 a2 a3 else ([], false)) else ([], false)) else ([], false)) else ([], false)
theorem fin_ev (m : List S45) (hm : m.length ≤ 1048576) : Ev (fun k => (spec_DiskOk.f k m).bind fun t => if t = true then some (m, true) else some (([] : List S45), false)) (fin m) := by
  refine Ev.bind (spec_DiskOk_ev m hm) ?_
  unfold fin
  cases diskOk m with
  | true => exact Ev.pos rfl (Ev.tpos rfl (Ev.now _))
  | false => exact Ev.neg (by decide) (Ev.tneg (by decide) (Ev.now _))
theorem spec_DoAct_j2 (b : Bool) (l : List S45) (hl : l.length ≤ 1048575) (a0 : Int) (a1 a2 a3 : ByteArray) (f : S45) : Ev (fun k => spec_DoAct.j2 k b l a0 a1 a2 a3 f.f0 f.f1 f.f2) (if b = true then ([], false) else fin (putOf (without l a1) ⟨a3, f.f1, f.f2⟩)) := by
  refine Ev.succ ?_
  simp only [spec_DoAct.j2]
  cases b with
  | true => exact Ev.pos rfl (Ev.tpos rfl (Ev.now _))
  | false =>
    have h1 := without_length l a1
    have h2 := putOf_length (without l a1) ⟨a3, f.f1, f.f2⟩
    exact Ev.neg (by decide) (Ev.tneg (by decide) (Ev.bind (spec_l03Without_ev l (by omega) a1) (Ev.bind (spec_l03Put_ev _ (by omega) ⟨a3, f.f1, f.f2⟩) (fin_ev _ (by omega)))))
theorem spec_DoAct_j1 (l : List S45) (hl : l.length ≤ 1048575) (i a0 : Int) (a1 a2 a3 : ByteArray) (f : S45) (hs : f.f1.size + a2.size ≤ 9223372036854775807) : Ev (fun k => spec_DoAct.j1 k i l a0 a1 a2 a3 f.f0 f.f1 f.f2) (goAct l i a0 f a1 a2 a3) := by
  refine Ev.succ ?_
  simp only [spec_DoAct.j1]
  unfold goAct
  by_cases c1 : a0 = 1
  · have h2 := putOf_length l ⟨f.f0, f.f1 ++ a2, f.f2⟩
    exact Ev.pos c1 (Ev.tpos c1 (Ev.pos hs (Ev.bind (spec_l03Put_ev l (by omega) ⟨f.f0, f.f1 ++ a2, f.f2⟩) (fin_ev _ (by omega)))))
  refine Ev.neg c1 (Ev.tneg c1 ?_)
  by_cases c2 : i < 0
  · exact Ev.pos c2 (Ev.tpos c2 (Ev.now _))
  refine Ev.neg c2 (Ev.tneg c2 ?_)
  by_cases c3 : a0 = 2
  · have h2 := putOf_length l ⟨f.f0, f.f1, (f.f1.size : Int)⟩
    exact Ev.pos c3 (Ev.tpos c3 (Ev.bind (spec_l03Put_ev l (by omega) ⟨f.f0, f.f1, (f.f1.size : Int)⟩) (fin_ev _ (by omega))))
  refine Ev.neg c3 (Ev.tneg c3 ?_)
  by_cases c4 : a0 = 3
  · refine Ev.pos c4 (Ev.tpos c4 ?_)
    by_cases c5 : f.f2 < (f.f1.size : Int)
    · exact Ev.pos c5 (Ev.tpos c5 (Ev.to (spec_DoAct_j2 true l hl a0 a1 a2 a3 f) (if_pos rfl)))
    refine Ev.neg c5 (Ev.tneg c5 ?_)
    by_cases c6 : a3.toList = a1.toList
    · exact Ev.pos c6 (Ev.tpos c6 (Ev.to (spec_DoAct_j2 true l hl a0 a1 a2 a3 f) (if_pos rfl)))
    refine Ev.neg c6 (Ev.tneg c6 (Ev.bind0 (spec_l03Name_eq a3) (Ev.to (spec_DoAct_j2 (!nameOk a3) l hl a0 a1 a2 a3 f) ?_)))
    cases nameOk a3 <;> rfl
  refine Ev.neg c4 (Ev.tneg c4 ?_)
  by_cases c5 : a0 = 4
  · have h1 := without_length l a1
    exact Ev.pos c5 (Ev.tpos c5 (Ev.bind (spec_l03Without_ev l (by omega) a1) (fin_ev _ (by omega))))
  exact Ev.neg c5 (Ev.tneg c5 (Ev.now _))
theorem spec_DoAct_j0 (b : Bool) (l : List S45) (hl : diskOk l = true) (a0 : Int) (a1 a2 a3 : ByteArray) (hs : a2.size ≤ 2097152) : Ev (fun k => spec_DoAct.j0 k b l a0 a1 a2 a3) (if b = true then ([], false) else goAct l (idxFrom (named a1) l 0) a0 (fileOf l (idxFrom (named a1) l 0) a1) a1 a2 a3) := by
  obtain ⟨_, h2, h3⟩ := disk_pair hl
  refine Ev.succ ?_
  simp only [spec_DoAct.j0]
  cases b with
  | true => exact Ev.pos rfl (Ev.tpos rfl (Ev.now _))
  | false =>
    refine Ev.neg (by decide) (Ev.tneg (by decide) ?_)
    have e0 := spec_l03At_l0 l (by omega) a1 l 0 rfl (Nat.zero_le _)
    rw [show ((0 : Nat) : Int) = 0 from rfl] at e0
    have E : Ev (fun k => spec_l03At.f k l a1) (idxFrom (named a1) l 0) := by unfold spec_l03At.f; exact e0
    refine Ev.bind E ?_
    have hr := idx_range (named a1) l 0
    unfold fileOf
    by_cases c : idxFrom (named a1) l 0 ≥ 0
    · have hf : fileOk (rd_T45 l (idxFrom (named a1) l 0)) = true := by
        obtain ⟨n, hn⟩ := Int.eq_ofNat_of_zero_le c
        rw [hn]
        have : rd_T45 l (n : Int) = l[n]'(by omega) := rdOf_get (d := z45) (by omega)
        rw [this]
        exact h2 _ (List.getElem_mem ..)
      have hz := (fileOk_name hf).2.1
      rw [if_pos c]
      exact Ev.pos c (Ev.pos c (Ev.pos (by omega) (spec_DoAct_j1 l (by omega) _ a0 a1 a2 a3 _ (by omega))))
    · rw [if_neg c]
      exact Ev.neg c (spec_DoAct_j1 l (by omega) _ a0 a1 a2 a3 ⟨a1, (⟨#[]⟩ : ByteArray), 0⟩ (by show (⟨#[]⟩ : ByteArray).size + a2.size ≤ _; have : (⟨#[]⟩ : ByteArray).size = 0 := rfl; omega))
theorem spec_DoAct_ev (l : List S45) (hl : l.length ≤ 1048576) (a0 : Int) (a1 a2 a3 : ByteArray) (hs : a2.size ≤ 2097152) : Ev (fun k => spec_DoAct.f k l a0 a1 a2 a3) (doAct l a0 a1 a2 a3) := by
  have jt : ∀ l, Ev (fun k => spec_DoAct.j0 k true l a0 a1 a2 a3) (([] : List S45), false) := fun l => by
    refine Ev.succ ?_
    simp only [spec_DoAct.j0]
    exact Ev.pos (by simp) (Ev.now _)
  unfold spec_DoAct.f doAct
  refine Ev.bind (spec_DiskOk_ev l hl) ?_
  cases hd : diskOk l with
  | false => exact Ev.neg (by decide) (Ev.tneg (by decide) (jt l))
  | true =>
    refine Ev.pos rfl (Ev.tpos rfl (Ev.bind0 (spec_l03Name_eq a1) ?_))
    show Ev _ (if nameOk a1 = true then _ else _)
    cases hn : nameOk a1 with
    | false => exact Ev.neg (by rw [show decide (1 ≤ (a1.size : Int) ∧ (a1.size : Int) ≤ 8) = false from hn]; decide) (Ev.tneg (by decide) (jt l))
    | true =>
      refine Ev.pos hn (Ev.tpos rfl ?_)
      have j0 := spec_DoAct_j0 false l hd a0 a1 a2 a3 hs
      rw [if_neg (by decide)] at j0
      have jx := spec_DoAct_j0 (a2.toList != ([] : List UInt8)) l hd a0 a1 a2 a3 hs
      have hx : (if (a2.toList != ([] : List UInt8)) = true then (([] : List S45), false) else goAct l (idxFrom (named a1) l 0) a0 (fileOf l (idxFrom (named a1) l 0) a1) a1 a2 a3) = (if a2.toList = [] then goAct l (idxFrom (named a1) l 0) a0 (fileOf l (idxFrom (named a1) l 0) a1) a1 a2 a3 else ([], false)) := by
        by_cases c : a2.toList = []
        · rw [if_pos c, if_neg (by rw [bne_eq_false_iff_eq.mpr c]; decide)]
        · rw [if_neg c, if_pos (bne_iff_ne.mpr c)]
      rw [hx] at jx
      have body : Ev (fun k => if a0 = 1 then spec_DoAct.j0 k false l a0 a1 a2 a3 else spec_DoAct.j0 k (a2.toList != ([] : List UInt8)) l a0 a1 a2 a3) (if a0 = 1 ∨ a2.toList = [] then goAct l (idxFrom (named a1) l 0) a0 (fileOf l (idxFrom (named a1) l 0) a1) a1 a2 a3 else ([], false)) := by
        by_cases c : a0 = 1
        · exact Ev.pos c (Ev.tpos (.inl c) j0)
        · refine Ev.neg c ?_
          by_cases c2 : a2.toList = []
          · rw [if_pos c2] at jx; exact Ev.tpos (.inr c2) jx
          · rw [if_neg c2] at jx; exact Ev.tneg (fun h => h.elim (fun h => c h) (fun h => c2 h)) jx
      by_cases c3 : a0 = 3
      · exact Ev.pos c3 (Ev.tpos (.inl c3) body)
      · refine Ev.neg c3 ?_
        by_cases c4 : a3.toList = []
        · exact Ev.pos c4 (Ev.tpos (.inr c4) body)
        · exact Ev.neg c4 (Ev.tneg (fun h => h.elim (fun h => c3 h) (fun h => c4 h)) (jt l))
theorem impl_fin_ev (m : List S45) (hm : m.length ≤ 1048576) : Ev (fun k => impl_DoAct.fin k m) (fin m) := by
  unfold impl_DoAct.fin fin
  refine Ev.bind (impl_DiskOk_ev m hm) ?_
  cases diskOk m with
  | true => exact Ev.pos rfl (Ev.tpos rfl (Ev.now _))
  | false => exact Ev.neg (by decide) (Ev.tneg (by decide) (Ev.now _))
theorem fin_bad {m : List S45} {f : S45} (hm : f ∈ m) (h : nameOk f.f0 = false) : fin m = ([], false) := by
  unfold fin
  rw [disk_bad hm (fileOk_bad h)]; rfl
theorem rd_idx {l : List S45} {s : ByteArray} {n : Nat} (h : idxFrom (named s) l 0 = (n : Int)) : ∃ hn : n < l.length, rd_T45 l (n : Int) = l[n] ∧ (rd_T45 l (n : Int)).f0 = s := by
  obtain ⟨hn, h2⟩ := idx_get _ l n h
  have e : rd_T45 l (n : Int) = l[n] := rdOf_get (d := z45) hn
  unfold named at h2
  rw [decide_eq_true_eq] at h2
  exact ⟨hn, e, by rw [e]; exact toList_inj h2⟩
theorem impl_DoAct_ev (l : List S45) (hl : l.length ≤ 1048576) (a0 : Int) (a1 a2 a3 : ByteArray) (hs : a2.size ≤ 2097152) : Ev (fun k => impl_DoAct.f k l a0 a1 a2 a3) (doAct l a0 a1 a2 a3) := by
  unfold impl_DoAct.f doAct
  refine Ev.bind (impl_DiskOk_ev l (by omega)) ?_
  cases hd : diskOk l with
  | false => exact Ev.neg (by decide) (Ev.tneg (by decide) (Ev.now _))
  | true =>
    obtain ⟨hp, hf, h30⟩ := disk_pair hd
    refine Ev.pos rfl (Ev.tpos rfl ?_)
    show Ev (fun k => if a0 = 3 ∨ a3.toList = [] then (if a0 = 1 ∨ (a2.toList = [] ∧ 0 ≤ idxFrom (named a1) l 0) then (if l.length < 3518437208883 then impl_DoAct.go k l (idxFrom (named a1) l 0) a0 a1 a2 a3 else none) else some ([], false)) else some ([], false)) _
    have hlt : l.length < 3518437208883 := by omega
    have hr := idx_range (named a1) l 0
    cases hn : nameOk a1 with
    | false =>
      -- no file bears that name; a file that did would make the disk a wrong one
      refine Ev.tneg (by decide) ?_
      have hno : idxFrom (named a1) l 0 = -1 := idx_none _ l 0 (fun x hx e => by
        unfold named at e
        rw [decide_eq_true_eq] at e
        have := (fileOk_name (hf x hx)).1
        rw [toList_inj e, hn] at this; cases this)
      rw [hno]
      by_cases c3 : a0 = 3 ∨ a3.toList = []
      · refine Ev.pos c3 ?_
        by_cases c1 : a0 = 1
        · refine Ev.pos (.inl c1) (Ev.pos hlt ?_)
          unfold impl_DoAct.go
          have hp2 := putFileL_length l ⟨a1, (⟨#[]⟩ : ByteArray) ++ a2, 0⟩
          refine Ev.pos c1 (Ev.neg (by omega) (Ev.pos (by omega) (Ev.to (impl_fin_ev _ (by omega)) ?_)))
          exact fin_bad (putFileL_mem l _) hn
        · exact Ev.neg (fun h => h.elim (fun h => c1 h) (fun h => by omega)) (Ev.now _)
      · exact Ev.neg c3 (Ev.now _)
    | true =>
      refine Ev.tpos rfl ?_
      by_cases c3 : a0 = 3 ∨ a3.toList = []
      · refine Ev.pos c3 (Ev.tpos c3 ?_)
        by_cases c1 : a0 = 1
        · refine Ev.pos (.inl c1) (Ev.tpos (.inl c1) (Ev.pos hlt ?_))
          unfold impl_DoAct.go goAct fileOf
          refine Ev.pos c1 (Ev.tpos c1 ?_)
          by_cases ci : 0 ≤ idxFrom (named a1) l 0
          · rw [if_pos ci]
            obtain ⟨n, hi⟩ := Int.eq_ofNat_of_zero_le ci
            rw [hi]
            obtain ⟨h1, h2, h3⟩ := rd_idx hi
            have hz := (fileOk_name (x := rd_T45 l (n : Int)) (by rw [h2]; exact hf _ (List.getElem_mem ..))).2.1
            have hp2 := putFileL_length l ⟨(rd_T45 l (n : Int)).f0, (rd_T45 l (n : Int)).f1 ++ a2, (rd_T45 l (n : Int)).f2⟩
            refine Ev.pos (by omega) (Ev.pos (by omega) (Ev.to (impl_fin_ev _ (by omega)) ?_))
            rw [putFileL_rec _ l hp, putOf_rec _ l hp]
          · rw [if_neg ci]
            have hp2 := putFileL_length l ⟨a1, (⟨#[]⟩ : ByteArray) ++ a2, 0⟩
            refine Ev.neg ci (Ev.pos (by omega) (Ev.to (impl_fin_ev _ (by omega)) ?_))
            rw [putFileL_rec _ l hp, putOf_rec _ l hp]
        · by_cases cx : a2.toList = []
          · refine Ev.tpos (.inr cx) ?_
            unfold goAct
            refine Ev.tneg c1 ?_
            by_cases ci : idxFrom (named a1) l 0 < 0
            · exact Ev.neg (fun h => h.elim (fun h => c1 h) (fun h => by omega)) (Ev.tpos ci (Ev.now _))
            · refine Ev.pos (.inr ⟨cx, by omega⟩) (Ev.tneg ci (Ev.pos hlt ?_))
              obtain ⟨n, hi⟩ := Int.eq_ofNat_of_zero_le (Int.not_lt.1 ci)
              rw [hi]
              obtain ⟨h1, h2, h3⟩ := rd_idx hi
              have hfo := fileOk_name (x := rd_T45 l (n : Int)) (by rw [h2]; exact hf _ (List.getElem_mem ..))
              unfold impl_DoAct.go fileOf
              rw [if_pos (show (0 : Int) ≤ (n : Int) by omega)]
              simp only [Int.toNat_natCast]
              refine Ev.neg c1 ?_
              have er := without_erase a1 l n hp hi
              by_cases c2 : a0 = 2
              · refine Ev.pos c2 (Ev.tpos c2 (Ev.to (impl_fin_ev _ (by rw [List.length_set]; omega)) ?_))
                rw [putOf_rec _ l hp, ← putFileL_rec _ l hp]
                unfold putFileL
                have hi2 : idxFrom (fun x : S45 => decide (x.f0.toList = (rd_T45 l (n : Int)).f0.toList)) l 0 = (n : Int) := by rw [h3]; exact hi
                show fin _ = fin (if 0 ≤ idxFrom (fun x : S45 => decide (x.f0.toList = (rd_T45 l (n : Int)).f0.toList)) l 0 then _ else _)
                rw [if_pos (by rw [hi2]; omega)]
                show fin _ = fin (l.set (idxFrom (fun x : S45 => decide (x.f0.toList = (rd_T45 l (n : Int)).f0.toList)) l 0).toNat _)
                rw [hi2, Int.toNat_natCast]
              refine Ev.neg c2 (Ev.tneg c2 ?_)
              by_cases c4 : a0 = 3
              · refine Ev.pos c4 (Ev.tpos c4 ?_)
                by_cases ck : (rd_T45 l (n : Int)).f2 < ((rd_T45 l (n : Int)).f1.size : Int)
                · refine Ev.tpos ck ?_
                  by_cases ce : a3.toList = a1.toList
                  · exact Ev.pos ce (Ev.now _)
                  · exact Ev.neg ce (Ev.neg (by omega) (Ev.now _))
                · refine Ev.tneg ck ?_
                  by_cases ce : a3.toList = a1.toList
                  · exact Ev.pos ce (Ev.tpos ce (Ev.now _))
                  · have hp2 := putFileL_length (l.eraseIdx n) ⟨a3, (rd_T45 l (n : Int)).f1, (rd_T45 l (n : Int)).f2⟩
                    have hel := List.length_eraseIdx_le l n
                    refine Ev.neg ce (Ev.tneg ce (Ev.pos (by omega) (Ev.to (impl_fin_ev _ (by omega)) ?_)))
                    cases h3n : nameOk a3 with
                    | false => rw [if_neg (by decide)]; exact fin_bad (putFileL_mem _ _) h3n
                    | true =>
                      have hpw : (without l a1).Pairwise before := hp.filter _
                      rw [if_pos rfl, er, putFileL_rec _ _ hpw, putOf_rec _ _ hpw]
              refine Ev.neg c4 (Ev.tneg c4 ?_)
              by_cases c5 : a0 = 4
              · have hel := List.length_eraseIdx_le l n
                exact Ev.pos c5 (Ev.tpos c5 (Ev.to (impl_fin_ev _ (by omega)) (by rw [er])))
              · exact Ev.neg c5 (Ev.tneg c5 (Ev.now _))
          · exact Ev.neg (fun h => h.elim (fun h => c1 h) (fun h => cx h.1)) (Ev.tneg (fun h => h.elim (fun h => c1 h) (fun h => cx h)) (Ev.now _))
      · exact Ev.neg c3 (Ev.tneg c3 (Ev.now _))
theorem fin_length (m : List S45) : (fin m).1.length ≤ 30 := by
  unfold fin
  cases h : diskOk m with
  | true => rw [if_pos rfl]; exact (disk_pair h).2.2
  | false => rw [if_neg (by decide)]; exact Nat.zero_le _
theorem goAct_length (l : List S45) (i a0 : Int) (f : S45) (a1 a2 a3 : ByteArray) : (goAct l i a0 f a1 a2 a3).1.length ≤ 30 := by
  unfold goAct
  repeat' split
  all_goals first | exact fin_length _ | exact Nat.zero_le _
theorem doAct_length (l : List S45) (a0 : Int) (a1 a2 a3 : ByteArray) : (doAct l a0 a1 a2 a3).1.length ≤ 30 := by
  unfold doAct
  repeat' split
  all_goals first | exact goAct_length .. | exact Nat.zero_le _
theorem laws_szAct_some (a0 : Int) (a1 a2 a3 : ByteArray) (h1 : a1.size ≤ maxLen) (h2 : a2.size ≤ maxLen) (h3 : a3.size ≤ maxLen) (left : Int) (g0 : 0 ≤ left) (g1 : left ≤ 1048576) :
    ∃ r, laws_szAct.f a0 a1 a2 a3 left = some r ∧ (0 ≤ r → r ≤ left ∧ (a1.size : Int) ≤ left ∧ (a2.size : Int) ≤ left ∧ (a3.size : Int) ≤ left) := by
  unfold maxLen at h1 h2 h3
  unfold laws_szAct.f
  rw [w64 (n := left - (a1.size : Int)) (by omega) (by omega)]
  by_cases c1 : left - (a1.size : Int) < 0
  · rw [if_pos c1]; exact ⟨_, rfl, fun h => by omega⟩
  rw [if_neg c1, w64 (n := left - (a1.size : Int) - (a2.size : Int)) (by omega) (by omega)]
  by_cases c2 : left - (a1.size : Int) - (a2.size : Int) < 0
  · rw [if_pos c2]; exact ⟨_, rfl, fun h => by omega⟩
  rw [if_neg c2, w64 (n := left - (a1.size : Int) - (a2.size : Int) - (a3.size : Int)) (by omega) (by omega)]
  by_cases c3 : left - (a1.size : Int) - (a2.size : Int) - (a3.size : Int) < 0
  · rw [if_pos c3]; exact ⟨_, rfl, fun h => by omega⟩
  rw [if_neg c3]; exact ⟨_, rfl, fun h => by omega⟩

theorem rd_T52_drop {xs : List S52} {i : Nat} {a : S52} {t : List S52} (h : xs.drop i = a :: t) : rd_T52 xs (i : Int) = a ∧ i < xs.length ∧ xs.drop (i + 1) = t := rdOf_drop (d := z52) h
theorem rd_T55_drop {xs : List S55} {i : Nat} {a : S55} {t : List S55} (h : xs.drop i = a :: t) : rd_T55 xs (i : Int) = a ∧ i < xs.length ∧ xs.drop (i + 1) = t := rdOf_drop (d := z55) h
def actFits (x : S52) : Prop := x.f1.size ≤ maxLen ∧ x.f2.size ≤ maxLen ∧ x.f3.size ≤ maxLen
theorem laws_szActS_l0 (l : List S52) (hl : l.length ≤ 1048576) (hf : ∀ x ∈ l, actFits x) : ∀ (t : List S52) (i : Nat) (left : Int), l.drop i = t → i ≤ l.length → 0 ≤ left → left ≤ 1048576 →
    ∃ r, Ev (fun k => laws_szActS.l0 k l left (i : Int)) r ∧ (0 ≤ r → r ≤ left ∧ ∀ x ∈ t, (x.f2.size : Int) ≤ left) := by
  intro t
  induction t with
  | nil =>
    intro i left ht hi g0 g1
    have := drop_nil_len ht
    exact ⟨left, Ev.step (f := fun _ => some left) (fun k => by rw [laws_szActS.l0, if_neg (by omega)]) (Ev.now _), fun _ => ⟨Int.le_refl _, fun x hx => by cases hx⟩⟩
  | cons a t ih =>
    intro i left ht hi g0 g1
    obtain ⟨h1, h2, h3⟩ := rd_T52_drop ht
    have ha : actFits a := hf a (List.mem_of_mem_drop (by rw [ht]; exact List.mem_cons_self))
    obtain ⟨r, e, hr⟩ := laws_szAct_some a.f0 a.f1 a.f2 a.f3 ha.1 ha.2.1 ha.2.2 left g0 g1
    by_cases hr0 : r < 0
    · refine ⟨-1, Ev.step (f := fun _ => some (-1)) (fun k => ?_) (Ev.now _), fun h => by omega⟩
      rw [laws_szActS.l0, if_pos (by omega), if_pos (by omega), h1, e, Option.bind_some, if_pos hr0]
    · have hr := hr (by omega)
      obtain ⟨r2, e2, hr2⟩ := ih (i + 1) r h3 (by omega) (by omega) (by omega)
      refine ⟨r2, Ev.step (fun k => ?_) e2, fun h => ⟨by have := (hr2 h).1; omega, fun x hx => ?_⟩⟩
      · rw [laws_szActS.l0, if_pos (by omega), if_pos (by omega), h1, e, Option.bind_some, if_neg hr0, w64 (by omega) (by omega)]
        rfl
      · rcases List.mem_cons.1 hx with rfl | hx
        · exact hr.2.2.1
        · have := (hr2 h).2 x hx
          omega
theorem laws_szActS_ev (l : List S52) (hl : l.length ≤ maxLen) (hf : ∀ x ∈ l, actFits x) (left : Int) (g0 : 0 ≤ left) (g1 : left ≤ 1048576) :
    ∃ r, Ev (fun k => laws_szActS.f k l left) r ∧ (0 ≤ r → r ≤ left ∧ (l.length : Int) ≤ left ∧ ∀ x ∈ l, (x.f2.size : Int) ≤ left) := by
  unfold maxLen at hl
  unfold laws_szActS.f
  rw [w64 (n := left - (l.length : Int)) (by omega) (by omega)]
  by_cases c1 : left - (l.length : Int) < 0
  · exact ⟨-1, Ev.pos c1 (Ev.now _), fun h => by omega⟩
  · obtain ⟨r, e, hr⟩ := laws_szActS_l0 l (by omega) hf l 0 (left - (l.length : Int)) rfl (Nat.zero_le _) (by omega) (by omega)
    exact ⟨r, Ev.neg c1 e, fun h => ⟨by have := (hr h).1; omega, by omega, fun x hx => by have := (hr h).2 x hx; omega⟩⟩
def toA (x : S52) : S55 := ⟨x.f0, x.f1, x.f2, x.f3⟩
theorem laws_toActS_l0 (l : List S52) (hl : l.length ≤ 1048576) : ∀ (d i : Nat) (xs : List S55), xs.length = l.length → i + d = l.length → xs.take i = (l.take i).map toA → Ev (fun k => laws_toActS.l0 k l xs (i : Int)) (l.map toA) := by
  intro d
  induction d with
  | zero =>
    intro i xs hx hi ht
    refine Ev.step (f := fun _ => some xs) (fun k => by rw [laws_toActS.l0, if_neg (by omega)]) (Ev.ret ?_)
    rw [List.take_of_length_le (by omega), List.take_of_length_le (by omega)] at ht
    exact ht
  | succ d ih =>
    intro i xs hx hi ht
    have hr : rd_T52 l (i : Int) = l[i] := rdOf_get (d := z52) (by omega)
    refine Ev.step (fun k => ?_) (ih (i + 1) (xs.set i (toA l[i])) (by rw [List.length_set]; exact hx) (by omega) ?_)
    · rw [laws_toActS.l0, if_pos (by omega), if_pos (by omega), hr, laws_toAct.f, Option.bind_some, if_pos (by omega), w64 (by omega) (by omega), Int.toNat_natCast]
      rfl
    · rw [take_set_snoc _ _ _ (by omega), ht, List.take_succ_eq_append_getElem (by omega), List.map_append, List.map_singleton]
theorem laws_toActS_ev (l : List S52) (hl : l.length ≤ 1048576) : Ev (fun k => laws_toActS.f k l) (l.map toA) := by
  unfold laws_toActS.f
  exact Ev.pos (by omega) (Ev.pos (by omega) (laws_toActS_l0 l hl l.length 0 _ (by rw [List.length_replicate]; omega) (by omega) rfl))
theorem laws_eqAct_self (x : S55) : laws_eqAct.f x.f0 x.f1 x.f2 x.f3 x.f0 x.f1 x.f2 x.f3 = some true := by
  unfold laws_eqAct.f
  rw [if_pos rfl, if_pos rfl, if_pos rfl, if_pos rfl]
theorem laws_eqActS_l0 (l : List S55) (hl : l.length ≤ 1048576) : ∀ (t : List S55) (i : Nat), l.drop i = t → i ≤ l.length → Ev (fun k => laws_eqActS.l0 k l l (i : Int)) true := by
  intro t
  induction t with
  | nil =>
    intro i ht hi
    have := drop_nil_len ht
    exact Ev.step (f := fun _ => some true) (fun k => by rw [laws_eqActS.l0, if_neg (by omega)]) (Ev.now _)
  | cons a t ih =>
    intro i ht hi
    obtain ⟨h1, h2, h3⟩ := rd_T55_drop ht
    refine Ev.step (fun k => ?_) (ih (i + 1) h3 (by omega))
    rw [laws_eqActS.l0, if_pos (by omega), if_pos (by omega), if_pos (by omega), h1, laws_eqAct_self, Option.bind_some, if_pos rfl, w64 (by omega) (by omega)]
    rfl
theorem laws_eqActS_ev (l : List S55) (hl : l.length ≤ 1048576) : Ev (fun k => laws_eqActS.f k l l) true := by
  unfold laws_eqActS.f
  exact Ev.pos rfl (laws_eqActS_l0 l hl l 0 rfl (Nat.zero_le _))
def markA (xs : List S55) (i a : Nat) : List S55 :=
  let m1 := xs.set i ⟨(a : Int), (rd_T55 xs (i : Int)).f1, (rd_T55 xs (i : Int)).f2, (rd_T55 xs (i : Int)).f3⟩
  let m2 := m1.set i ⟨(rd_T55 m1 (i : Int)).f0, mt (a + 1), (rd_T55 m1 (i : Int)).f2, (rd_T55 m1 (i : Int)).f3⟩
  let m3 := m2.set i ⟨(rd_T55 m2 (i : Int)).f0, (rd_T55 m2 (i : Int)).f1, mt (a + 2), (rd_T55 m2 (i : Int)).f3⟩
  m3.set i ⟨(rd_T55 m3 (i : Int)).f0, (rd_T55 m3 (i : Int)).f1, (rd_T55 m3 (i : Int)).f2, mt (a + 3)⟩
theorem markA_length (xs : List S55) (i a : Nat) : (markA xs i a).length = xs.length := by
  unfold markA
  simp only [List.length_set]
theorem laws_markActS_l0 : ∀ (d i a : Nat) (xs : List S55), xs.length = i + d → xs.length ≤ 1048576 → 0 < a → a + 4 * d < 4611686018427387904 → ∃ ys, Ev (fun k => laws_markActS.l0 k xs (a : Int) (i : Int)) (((a + 4 * d : Nat) : Int), ys) := by
  intro d
  induction d with
  | zero =>
    intro i a xs hx hb ha hz
    exact ⟨xs, Ev.step (f := fun _ => some ((a : Int), xs)) (fun k => by rw [laws_markActS.l0, if_neg (by omega)]) (Ev.ret (by rw [Nat.mul_zero, Nat.add_zero]))⟩
  | succ d ih =>
    intro i a xs hx hb ha hz
    obtain ⟨ys, e⟩ := ih (i + 1) (a + 4) (markA xs i a) (by rw [markA_length]; omega) (by rw [markA_length]; omega) (by omega) (by omega)
    rw [show a + 4 + 4 * d = a + 4 * (d + 1) from by omega, show ((i + 1 : Nat) : Int) = (i : Int) + 1 from by omega, show ((a + 4 : Nat) : Int) = (a : Int) + 1 + 1 + 1 + 1 from by omega] at e
    refine ⟨ys, Ev.succ ?_⟩
    simp only [laws_markActS.l0, w64 (n := (i : Int) + 1) (by omega) (by omega), w64 (n := (a : Int) + 1) (by omega) (by omega), w64 (n := (a : Int) + 1 + 1) (by omega) (by omega), w64 (n := (a : Int) + 1 + 1 + 1) (by omega) (by omega), w64 (n := (a : Int) + 1 + 1 + 1 + 1) (by omega) (by omega), Int.toNat_natCast]
    have m1 := laws_markText_ev (n := a + 1) (by omega) (by omega)
    have m2 := laws_markText_ev (n := a + 2) (by omega) (by omega)
    have m3 := laws_markText_ev (n := a + 3) (by omega) (by omega)
    rw [show ((a + 1 : Nat) : Int) = (a : Int) + 1 from by omega] at m1
    rw [show ((a + 2 : Nat) : Int) = (a : Int) + 1 + 1 from by omega] at m2
    rw [show ((a + 3 : Nat) : Int) = (a : Int) + 1 + 1 + 1 from by omega] at m3
    exact Ev.pos (by omega) (Ev.pos (by omega) (Ev.bind0 rfl (Ev.bind m1 (Ev.bind0 rfl (Ev.bind m2 (Ev.bind0 rfl (Ev.bind m3 e)))))))
theorem laws_markActS_ev (xs : List S55) (a : Nat) (ha : 0 < a) (hb : xs.length ≤ 1048576) (hz : a ≤ 4000000000) : ∃ ys, Ev (fun k => laws_markActS.f k xs (a : Int)) (((a + 4 * xs.length : Nat) : Int), ys) := by
  unfold laws_markActS.f
  exact laws_markActS_l0 xs.length 0 a xs (by omega) hb ha (by omega)

/-- What DoActs leaves, from the act at i on. -/
def doFrom : List S45 → List S55 → Nat → List S45 × Int
  | l, [], i => (l, (i : Int))
  | l, a :: t, i => if (doAct l a.f0 a.f1 a.f2 a.f3).2 = true then doFrom (doAct l a.f0 a.f1 a.f2 a.f3).1 t (i + 1) else (l, (i : Int))
theorem doFrom_length : ∀ (t : List S55) (l : List S45) (i n : Nat), 30 ≤ n → l.length ≤ n → (doFrom l t i).1.length ≤ n
  | [], l, i, n, _, h => h
  | a :: t, l, i, n, h30, h => by
    rw [doFrom]
    split
    · exact doFrom_length t _ _ n h30 (Nat.le_trans (doAct_length ..) h30)
    · exact h
theorem impl_copyDisk_eq (l : List S45) (hl : l.length ≤ 1048576) : impl_copyDisk.f l = some l := by
  unfold impl_copyDisk.f
  rw [if_pos (by rw [List.length_nil]; omega), List.nil_append]
theorem spec_DoActs_l0 (acts : List S55) (hl : acts.length ≤ 1048576) (hf : ∀ x ∈ acts, x.f2.size ≤ 2097152) : ∀ (t : List S55) (i : Nat) (l : List S45), acts.drop i = t → i ≤ acts.length → l.length ≤ 1048576 → Ev (fun k => spec_DoActs.l0 k acts (i : Int) l) (doFrom l t i) := by
  intro t
  induction t with
  | nil =>
    intro i l ht hi hz
    have := drop_nil_len ht
    refine Ev.step (f := fun _ => some (l, (acts.length : Int))) (fun k => by rw [spec_DoActs.l0, if_neg (by omega)]) (Ev.ret ?_)
    rw [doFrom, show acts.length = i from by omega]
  | cons a t ih =>
    intro i l ht hi hz
    obtain ⟨h1, h2, h3⟩ := rd_T55_drop ht
    have ha : a.f2.size ≤ 2097152 := hf a (List.mem_of_mem_drop (by rw [ht]; exact List.mem_cons_self))
    refine Ev.succ ?_
    simp only [spec_DoActs.l0, h1, w64 (n := (i : Int) + 1) (by omega) (by omega)]
    refine Ev.pos (by omega) (Ev.pos (by omega) (Ev.bind (spec_DoAct_ev l hz a.f0 a.f1 a.f2 a.f3 ha) ?_))
    rw [doFrom]
    by_cases c : (doAct l a.f0 a.f1 a.f2 a.f3).2 = true
    · have e := ih (i + 1) (doAct l a.f0 a.f1 a.f2 a.f3).1 h3 (by omega) (Nat.le_trans (doAct_length ..) (by omega))
      rw [show ((i + 1 : Nat) : Int) = (i : Int) + 1 from by omega] at e
      exact Ev.pos c (Ev.tpos c e)
    · exact Ev.neg c (Ev.tneg c (Ev.now _))
theorem spec_DoActs_ev (l : List S45) (hz : l.length ≤ 1048576) (acts : List S55) (hl : acts.length ≤ 1048576) (hf : ∀ x ∈ acts, x.f2.size ≤ 2097152) : Ev (fun k => spec_DoActs.f k l acts) (doFrom l acts 0) := by
  unfold spec_DoActs.f
  refine Ev.bind0 rfl (Ev.pos (by rw [List.length_nil]; omega) ?_)
  exact spec_DoActs_l0 acts hl hf acts 0 l rfl (Nat.zero_le _) hz
theorem impl_DoActs_l0 (acts : List S55) (hl : acts.length ≤ 1048576) (hf : ∀ x ∈ acts, x.f2.size ≤ 2097152) : ∀ (t : List S55) (i : Nat) (l : List S45), acts.drop i = t → i ≤ acts.length → l.length ≤ 1048576 → Ev (fun k => impl_DoActs.l0 k acts acts (acts.length : Int) (i : Int) l) (doFrom l t i) := by
  intro t
  induction t with
  | nil =>
    intro i l ht hi hz
    have := drop_nil_len ht
    refine Ev.step (f := fun _ => some (l, (acts.length : Int))) (fun k => by rw [impl_DoActs.l0, if_neg (by omega)]) (Ev.ret ?_)
    rw [doFrom, show acts.length = i from by omega]
  | cons a t ih =>
    intro i l ht hi hz
    obtain ⟨h1, h2, h3⟩ := rd_T55_drop ht
    have ha : a.f2.size ≤ 2097152 := hf a (List.mem_of_mem_drop (by rw [ht]; exact List.mem_cons_self))
    refine Ev.succ ?_
    simp only [impl_DoActs.l0, h1, w64 (n := (i : Int) + 1) (by omega) (by omega)]
    refine Ev.pos (by omega) (Ev.pos (by omega) (Ev.pos (by omega) (Ev.bind (impl_DoAct_ev l hz a.f0 a.f1 a.f2 a.f3 ha) ?_)))
    rw [doFrom]
    by_cases c : (doAct l a.f0 a.f1 a.f2 a.f3).2 = true
    · have e := ih (i + 1) (doAct l a.f0 a.f1 a.f2 a.f3).1 h3 (by omega) (Nat.le_trans (doAct_length ..) (by omega))
      rw [show ((i + 1 : Nat) : Int) = (i : Int) + 1 from by omega] at e
      exact Ev.pos c (Ev.tpos c e)
    · exact Ev.neg c (Ev.tneg c (Ev.now _))
theorem impl_DoActs_ev (l : List S45) (hz : l.length ≤ 1048576) (acts : List S55) (hl : acts.length ≤ 1048576) (hf : ∀ x ∈ acts, x.f2.size ≤ 2097152) : Ev (fun k => impl_DoActs.f k l acts) (doFrom l acts 0) := by
  unfold impl_DoActs.f
  exact Ev.bind0 (impl_copyDisk_eq l hz) (impl_DoActs_l0 acts hl hf acts 0 l rfl (Nat.zero_le _) hz)

theorem laws_toIntS_l0 (l : List Int) (hl : l.length ≤ 1048576) : ∀ (d i : Nat) (xs : List Int), xs.length = l.length → i + d = l.length → xs.take i = l.take i → Ev (fun k => laws_toIntS.l0 k l xs (i : Int)) l := by
  intro d
  induction d with
  | zero =>
    intro i xs hx hi ht
    refine Ev.step (f := fun _ => some xs) (fun k => by rw [laws_toIntS.l0, if_neg (by omega)]) (Ev.ret ?_)
    rw [List.take_of_length_le (by omega), List.take_of_length_le (by omega)] at ht
    exact ht
  | succ d ih =>
    intro i xs hx hi ht
    have hr : rd l (i : Int) = l[i] := rd_get (by omega)
    refine Ev.step (fun k => ?_) (ih (i + 1) (xs.set i l[i]) (by rw [List.length_set]; exact hx) (by omega) ?_)
    · rw [laws_toIntS.l0, if_pos (by omega), if_pos (by omega), if_pos (by omega), hr, w64 (by omega) (by omega), Int.toNat_natCast]
      rfl
    · rw [take_set_snoc _ _ _ (by omega), ht, List.take_succ_eq_append_getElem (by omega)]
theorem laws_toIntS_ev (l : List Int) (hl : l.length ≤ 1048576) : Ev (fun k => laws_toIntS.f k l) l := by
  unfold laws_toIntS.f
  exact Ev.pos (by omega) (Ev.pos (by omega) (laws_toIntS_l0 l hl l.length 0 _ (by rw [List.length_replicate]; omega) (by omega) rfl))
theorem laws_eqIntS_l0 (l : List Int) (hl : l.length ≤ 1048576) : ∀ (t : List Int) (i : Nat), l.drop i = t → i ≤ l.length → Ev (fun k => laws_eqIntS.l0 k l l (i : Int)) true := by
  intro t
  induction t with
  | nil =>
    intro i ht hi
    have := List.drop_eq_nil_iff.1 ht
    exact Ev.step (f := fun _ => some true) (fun k => by rw [laws_eqIntS.l0, if_neg (by omega)]) (Ev.now _)
  | cons a t ih =>
    intro i ht hi
    obtain ⟨h1, h2, h3⟩ := rd_drop ht
    refine Ev.step (fun k => ?_) (ih (i + 1) h3 (by omega))
    rw [laws_eqIntS.l0, if_pos (by omega), if_pos (by omega), if_pos (by omega), if_pos rfl, w64 (by omega) (by omega)]
    rfl
theorem laws_eqIntS_ev (l : List Int) (hl : l.length ≤ 1048576) : Ev (fun k => laws_eqIntS.f k l l) true := by
  unfold laws_eqIntS.f
  exact Ev.pos rfl (laws_eqIntS_l0 l hl l 0 rfl (Nat.zero_le _))
theorem laws_markIntS_l0 : ∀ (d i a : Nat) (xs : List Int), xs.length = i + d → xs.length ≤ 1048576 → a + d < 4611686018427387904 → ∃ ys, Ev (fun k => laws_markIntS.l0 k xs (a : Int) (i : Int)) (((a + d : Nat) : Int), ys) := by
  intro d
  induction d with
  | zero =>
    intro i a xs hx hb hz
    exact ⟨xs, Ev.step (f := fun _ => some ((a : Int), xs)) (fun k => by rw [laws_markIntS.l0, if_neg (by omega)]) (Ev.now _)⟩
  | succ d ih =>
    intro i a xs hx hb hz
    obtain ⟨ys, e⟩ := ih (i + 1) (a + 1) (xs.set i (a : Int)) (by rw [List.length_set]; omega) (by rw [List.length_set]; omega) (by omega)
    rw [show a + 1 + d = a + (d + 1) from by omega] at e
    refine ⟨ys, Ev.succ ?_⟩
    simp only [laws_markIntS.l0, w64 (n := (i : Int) + 1) (by omega) (by omega), w64 (n := (a : Int) + 1) (by omega) (by omega), Int.toNat_natCast]
    exact Ev.pos (by omega) (Ev.pos (by omega) e)
theorem laws_markIntS_ev (xs : List Int) (a : Nat) (hb : xs.length ≤ 1048576) (ha : a ≤ 4000000000) : ∃ ys, Ev (fun k => laws_markIntS.f k xs (a : Int)) (((a + xs.length : Nat) : Int), ys) :=
  laws_markIntS_l0 xs.length 0 a xs (by omega) hb (by omega)

def leftAt (left : List Int) (i : Nat) : Int := if (i : Int) < (left.length : Int) then rd left (i : Int) else 0
def loseOne (n : Int) (x : S45) : S45 := ⟨x.f0, x.f1.extract 0 (mx x.f2 (mn n (x.f1.size : Int))).toNat, mx x.f2 (mn n (x.f1.size : Int))⟩
def loseFrom (left : List Int) : Nat → List S45 → List S45
  | _, [] => []
  | i, x :: t => loseOne (leftAt left i) x :: loseFrom left (i + 1) t
theorem loseFrom_length (left : List Int) : ∀ (t : List S45) (i : Nat), (loseFrom left i t).length = t.length := by
  intro t
  induction t with
  | nil => intro i; rfl
  | cons a t ih => intro i; rw [loseFrom, List.length_cons, List.length_cons, ih]
def keptFits (x : S45) : Prop := 0 ≤ x.f2 ∧ x.f2 ≤ (x.f1.size : Int)
theorem mxmn {a n s : Int} (h : 0 ≤ a) (h' : a ≤ s) : 0 ≤ mx a (mn n s) ∧ mx a (mn n s) ≤ s ∧ mx a (mn n s) = if n > s then s else if n < a then a else n := by
  unfold mx mn
  by_cases c1 : s < n
  · rw [if_pos c1, if_pos (c := n > s) c1]
    by_cases c2 : a < s
    · rw [if_pos c2]; omega
    · rw [if_neg c2]; omega
  · rw [if_neg c1, if_neg (c := n > s) c1]
    by_cases c2 : a < n
    · rw [if_pos c2, if_neg (c := n < a) (by omega)]; omega
    · rw [if_neg c2]
      by_cases c3 : n < a
      · rw [if_pos c3]; omega
      · rw [if_neg c3]; omega
theorem disk_fits {l : List S45} (h : diskOk l = true) : l.length ≤ 30 ∧ ∀ x ∈ l, keptFits x := by
  unfold diskOk at h
  rw [Bool.and_eq_true, decide_eq_true_eq] at h
  refine ⟨h.1, fun x hx => ?_⟩
  have := files_all l none h.2 x hx
  unfold fileOk at this
  rw [Bool.and_eq_true, decide_eq_true_eq (p := 0 ≤ x.f2 ∧ x.f2 ≤ (x.f1.size : Int))] at this
  exact this.2
theorem spec_LoseDisk_j1 (left : List Int) (i n : Int) (l acc : List S45) (a : S45) (ha : keptFits a) (hacc : acc.length ≤ 1048576) {r : List S45 × Bool} (e : Ev (fun k => spec_LoseDisk.l0 k left (wrap64 (i + 1)) l (acc ++ [loseOne n a])) r) :
    Ev (fun k => spec_LoseDisk.j1 k left i n l acc a.f0 a.f1 a.f2) r := by
  obtain ⟨h0, h1⟩ := ha
  obtain ⟨m0, m1, m2⟩ := mxmn (n := n) h0 h1
  rw [loseOne, m2] at e
  refine Ev.succ ?_
  simp only [spec_LoseDisk.j1]
  by_cases c1 : n > (a.f1.size : Int)
  · rw [if_pos c1] at e
    exact Ev.pos c1 (Ev.neg (by omega) (Ev.pos (by omega) (Ev.pos (by omega) (Ev.pos (by omega) e))))
  · rw [if_neg c1] at e
    refine Ev.neg c1 ?_
    by_cases c2 : n < a.f2
    · rw [if_pos c2] at e
      exact Ev.pos c2 (Ev.pos (by omega) (Ev.pos (by omega) (Ev.pos (by omega) e)))
    · rw [if_neg c2] at e
      exact Ev.neg c2 (Ev.pos (by omega) (Ev.pos (by omega) (Ev.pos (by omega) e)))
theorem spec_LoseDisk_l0 (left : List Int) (l : List S45) (hl : l.length ≤ 30) (hf : ∀ x ∈ l, keptFits x) : ∀ (t : List S45) (i : Nat) (acc : List S45), l.drop i = t → i ≤ l.length → acc.length = i →
    Ev (fun k => spec_LoseDisk.l0 k left (i : Int) l acc) (acc ++ loseFrom left i t, true) := by
  intro t
  induction t with
  | nil =>
    intro i acc ht hi hz
    have := drop_nil_len ht
    refine Ev.step (f := fun _ => some (acc, true)) (fun k => by rw [spec_LoseDisk.l0, if_neg (by omega)]) (Ev.ret ?_)
    rw [loseFrom, List.append_nil]
  | cons a t ih =>
    intro i acc ht hi hz
    obtain ⟨h1, h2, h3⟩ := rd_T45_drop ht
    have ha := hf a (List.mem_of_mem_drop (by rw [ht]; exact List.mem_cons_self))
    have e := ih (i + 1) (acc ++ [loseOne (leftAt left i) a]) h3 (by omega) (by rw [List.length_append, List.length_singleton]; omega)
    rw [List.append_assoc, show ((i + 1 : Nat) : Int) = wrap64 ((i : Int) + 1) from by rw [w64 (by omega) (by omega)]; omega] at e
    have e2 := spec_LoseDisk_j1 left (i : Int) (leftAt left i) l acc a ha (by omega) e
    refine Ev.succ ?_
    simp only [spec_LoseDisk.l0, h1]
    refine Ev.pos (by omega) (Ev.pos (by omega) ?_)
    rw [loseFrom]
    by_cases c : (i : Int) < (left.length : Int)
    · rw [show leftAt left i = rd left (i : Int) from if_pos c] at e2 ⊢; exact Ev.pos c e2
    · rw [show leftAt left i = 0 from if_neg c] at e2 ⊢; exact Ev.neg c e2
def loseDisk (l : List S45) (left : List Int) : List S45 × Bool := if diskOk l = true then (loseFrom left 0 l, true) else ([], false)
theorem spec_LoseDisk_ev (l : List S45) (left : List Int) (hl : l.length ≤ 1048576) : Ev (fun k => spec_LoseDisk.f k l left) (loseDisk l left) := by
  unfold spec_LoseDisk.f loseDisk
  refine Ev.bind (spec_DiskOk_ev l hl) ?_
  cases h : diskOk l with
  | false => exact Ev.neg (by decide) (Ev.tneg (by decide) (Ev.now _))
  | true =>
    obtain ⟨f1, f2⟩ := disk_fits h
    exact Ev.pos rfl (Ev.tpos rfl (spec_LoseDisk_l0 left l f1 f2 l 0 [] rfl (Nat.zero_le _) rfl))
theorem impl_LoseDisk_l0 (left : List Int) (l : List S45) (hl : l.length ≤ 30) (hf : ∀ x ∈ l, keptFits x) : ∀ (t : List S45) (i : Nat) (xs : List S45), l.drop i = t → xs.drop i = t → i ≤ l.length → xs.length = l.length →
    Ev (fun k => impl_LoseDisk.l0 k left (l.length : Int) (i : Int) xs) (xs.take i ++ loseFrom left i t, true) := by
  intro t
  induction t with
  | nil =>
    intro i xs ht hx hi hz
    have := drop_nil_len ht
    refine Ev.step (f := fun _ => some (xs, true)) (fun k => by rw [impl_LoseDisk.l0, if_neg (by omega)]) (Ev.ret ?_)
    rw [loseFrom, List.append_nil, List.take_of_length_le (by omega)]
  | cons a t ih =>
    intro i xs ht hx hi hz
    obtain ⟨h1, h2, h3⟩ := rd_T45_drop hx
    obtain ⟨_, h4, h5⟩ := rd_T45_drop ht
    have ha := hf a (List.mem_of_mem_drop (by rw [ht]; exact List.mem_cons_self))
    have e := ih (i + 1) (xs.set i (loseOne (leftAt left i) a)) h5 (by rw [List.drop_set_of_lt (by omega)]; exact h3) (by omega) (by rw [List.length_set]; exact hz)
    rw [take_set_snoc _ _ _ h2, List.append_assoc, show ((i + 1 : Nat) : Int) = (i : Int) + 1 from by omega] at e
    rw [loseFrom]
    refine Ev.succ ?_
    simp only [impl_LoseDisk.l0, h1, w64 (n := (i : Int) + 1) (by omega) (by omega), Int.toNat_natCast]
    refine Ev.pos (by omega) (Ev.pos (by omega) (Ev.pos (by omega) ?_))
    by_cases c : (i : Int) < (left.length : Int)
    · obtain ⟨m0, m1, m2⟩ := mxmn (n := rd left (i : Int)) ha.1 ha.2
      rw [show leftAt left i = rd left (i : Int) from if_pos c] at e ⊢
      refine Ev.pos c (Ev.pos m0 (Ev.pos m1 (Ev.bind0 rfl ?_)))
      simp only [List.set_set, rd_set h2]
      exact e
    · obtain ⟨m0, m1, m2⟩ := mxmn (n := 0) ha.1 ha.2
      rw [show leftAt left i = 0 from if_neg c] at e ⊢
      refine Ev.neg c (Ev.pos m0 (Ev.pos m1 (Ev.bind0 rfl ?_)))
      simp only [List.set_set, rd_set h2]
      exact e
theorem impl_LoseDisk_ev (l : List S45) (left : List Int) (hl : l.length ≤ 1048576) : Ev (fun k => impl_LoseDisk.f k l left) (loseDisk l left) := by
  unfold impl_LoseDisk.f loseDisk
  refine Ev.bind (impl_DiskOk_ev l hl) ?_
  cases h : diskOk l with
  | false => exact Ev.neg (by decide) (Ev.tneg (by decide) (Ev.now _))
  | true =>
    obtain ⟨f1, f2⟩ := disk_fits h
    have hc : impl_copyDisk.f l = some l := by
      unfold impl_copyDisk.f
      rw [if_pos (by rw [List.length_nil]; omega), List.nil_append]
    exact Ev.pos rfl (Ev.tpos rfl (Ev.bind0 hc (impl_LoseDisk_l0 left l f1 f2 l 0 l rfl rfl (Nat.zero_le _) rfl)))
theorem loseDisk_length (l : List S45) (left : List Int) : (loseDisk l left).1.length ≤ l.length := by
  unfold loseDisk
  split
  · rw [loseFrom_length]; exact Nat.le_refl _
  · exact Nat.zero_le _

/-- What CutActs leaves. -/
def cutActs (l : List S45) (acts : List S55) (n : Int) (left : List Int) : List S45 × Bool :=
  if 0 ≤ n ∧ n ≤ (acts.length : Int) then (if (doFrom l (acts.take n.toNat) 0).2 < n then ([], false) else loseDisk (doFrom l (acts.take n.toNat) 0).1 left) else ([], false)
theorem cutActs_length (l : List S45) (hl : l.length ≤ 1048576) (acts : List S55) (n : Int) (left : List Int) : (cutActs l acts n left).1.length ≤ 1048576 := by
  unfold cutActs
  split
  · split
    · exact Nat.zero_le _
    · exact Nat.le_trans (loseDisk_length _ _) (doFrom_length _ _ _ _ (by omega) hl)
  · exact Nat.zero_le _
theorem spec_CutActs_ev (l : List S45) (hz : l.length ≤ 1048576) (acts : List S55) (hl : acts.length ≤ 1048576) (hf : ∀ x ∈ acts, x.f2.size ≤ 2097152) (n : Int) (left : List Int) : Ev (fun k => spec_CutActs.f k l acts n left) (cutActs l acts n left) := by
  unfold spec_CutActs.f cutActs
  refine Ev.bind0 (spec_l01In_eq ..) ?_
  by_cases c : 0 ≤ n ∧ n ≤ (acts.length : Int)
  · have ht : (acts.take n.toNat).length ≤ 1048576 := by rw [List.length_take]; omega
    have hft : ∀ x ∈ acts.take n.toNat, x.f2.size ≤ 2097152 := fun x hx => hf x (List.mem_of_mem_take hx)
    refine Ev.pos (decide_eq_true c) (Ev.pos c.1 (Ev.pos c.2 (Ev.tpos c (Ev.bind (spec_DoActs_ev l hz _ ht hft) ?_))))
    by_cases d : (doFrom l (acts.take n.toNat) 0).2 < n
    · exact Ev.pos d (Ev.tpos d (Ev.now _))
    · exact Ev.neg d (Ev.tneg d (Ev.bind (spec_LoseDisk_ev _ left (doFrom_length _ _ _ _ (by omega) hz)) (Ev.now _)))
  · exact Ev.neg (by rw [decide_eq_false c]; decide) (Ev.tneg c (Ev.now _))
theorem impl_CutActs_ev (l : List S45) (hz : l.length ≤ 1048576) (acts : List S55) (hl : acts.length ≤ 1048576) (hf : ∀ x ∈ acts, x.f2.size ≤ 2097152) (n : Int) (left : List Int) : Ev (fun k => impl_CutActs.f k l acts n left) (cutActs l acts n left) := by
  unfold impl_CutActs.f cutActs
  refine Ev.bind0 (impl_within_eq ..) ?_
  by_cases c : 0 ≤ n ∧ n ≤ (acts.length : Int)
  · have ht : (acts.take n.toNat).length ≤ 1048576 := by rw [List.length_take]; omega
    have hft : ∀ x ∈ acts.take n.toNat, x.f2.size ≤ 2097152 := fun x hx => hf x (List.mem_of_mem_take hx)
    refine Ev.pos (decide_eq_true c) (Ev.pos c.1 (Ev.pos c.2 (Ev.tpos c (Ev.bind (impl_DoActs_ev l hz _ ht hft) ?_))))
    by_cases d : (doFrom l (acts.take n.toNat) 0).2 < n
    · exact Ev.pos d (Ev.tpos d (Ev.now _))
    · exact Ev.neg d (Ev.tneg d (Ev.bind (impl_LoseDisk_ev _ left (doFrom_length _ _ _ _ (by omega) hz)) (Ev.now _)))
  · exact Ev.neg (by rw [decide_eq_false c]; decide) (Ev.tneg c (Ev.now _))

theorem FnExactCutActs (l : List S134) (al : List S52) (n : Int) (left : List Int) (o : l.length ≤ maxLen ∧ ∀ x ∈ l, x.f0.size ≤ maxLen ∧ x.f1.size ≤ maxLen ∧ (Lit.int .i64 x.f2).wf = true) (o1 : al.length ≤ maxLen ∧ ∀ x ∈ al, (Lit.int .i64 x.f0).wf = true ∧ x.f1.size ≤ maxLen ∧ x.f2.size ≤ maxLen ∧ x.f3.size ≤ maxLen) (o2 : (Lit.int .i64 n).wf = true) (o3 : left.length ≤ maxLen ∧ ∀ y ∈ left, (Lit.int .i64 y).wf = true) : ∃ k, laws_FnExactCutActs.f k l al n left = some true := by
  have hl := o.1
  have hf : ∀ x ∈ l, fileFits x := fun x hx => ⟨(o.2 x hx).1, (o.2 x hx).2.1⟩
  have hfa : ∀ x ∈ al, actFits x := fun x hx => (o1.2 x hx).2
  refine Ev.rounds (r := true) ?_
  unfold laws_FnExactCutActs.f
  by_cases hla : (left.length : Int) > 1048576
  · exact Ev.pos hla (Ev.now _)
  obtain ⟨r, e, hr⟩ := laws_szDisk_ev l hl hf 1048576 (by omega) (by omega)
  refine Ev.neg hla (Ev.bind e ?_)
  by_cases h0 : r < 0
  · exact Ev.pos h0 (Ev.now _)
  have hb := (hr (by omega)).2.1
  obtain ⟨r2, e2, hr2⟩ := laws_szActS_ev al o1.1 hfa r (by omega) (by have := (hr (by omega)).1; omega)
  refine Ev.neg h0 (Ev.bind e2 ?_)
  by_cases h1 : r2 < 0
  · exact Ev.pos h1 (Ev.now _)
  have hb2 := (hr2 (by omega)).2.1
  have hr0 := (hr (by omega)).1
  have hm : (l.map toF).length ≤ 1048576 := by rw [List.length_map]; omega
  have ha : (al.map toA).length ≤ 1048576 := by rw [List.length_map]; omega
  have hlf : left.length ≤ 1048576 := by omega
  have hs : ∀ x ∈ al.map toA, x.f2.size ≤ 2097152 := fun x hx => by
    obtain ⟨y, hy, rfl⟩ := List.mem_map.1 hx
    have := (hr2 (by omega)).2.2 y hy
    show y.f2.size ≤ _
    omega
  have hres := cutActs_length (l.map toF) hm (al.map toA) n left
  have E1 := laws_toDisk_ev l (by omega)
  have E2 := laws_toActS_ev al (by omega)
  have E2b := laws_toIntS_ev left hlf
  have E3 := impl_CutActs_ev (l.map toF) hm (al.map toA) ha hs n left
  have E4 := spec_CutActs_ev (l.map toF) hm (al.map toA) ha hs n left
  refine Ev.neg h1 (Ev.bind E1 (Ev.bind E2 (Ev.bind E2b (Ev.bind E4 (Ev.bind E1 (Ev.bind E2 (Ev.bind E2b (Ev.bind E3 (Ev.bind (laws_eqDisk_ev _ hres) (Ev.pos rfl ?_))))))))))
  refine Ev.succ ?_
  simp only [laws_FnExactCutActs.j0]
  obtain ⟨ys, E5⟩ := laws_markActS_ev (al.map toA) (1 + 3 * (l.map toF).length) (by omega) ha (by omega)
  obtain ⟨zs, E6⟩ := laws_markIntS_ev left (1 + 3 * (l.map toF).length + 4 * (al.map toA).length) hlf (by omega)
  refine Ev.neg (by simp) (Ev.bind E1 (Ev.bind (laws_eqDisk_ev _ hm) (Ev.pos rfl (Ev.bind E2 (Ev.bind (laws_eqActS_ev _ ha) (Ev.pos rfl (Ev.bind E2b (Ev.bind (laws_eqIntS_ev left hlf) (Ev.pos rfl (Ev.bind (laws_markDisk_ev _ hm) (Ev.bind E5 (Ev.bind E6 (Ev.neg (by simp only []; omega) (Ev.bind (laws_eqDisk_ev _ hres) (Ev.pos rfl ?_)))))))))))))))
  refine Ev.succ ?_
  simp only [laws_FnExactCutActs.j1]
  refine Ev.neg (by simp) (Ev.bind (laws_markDisk_ev _ hres) (Ev.bind (laws_heldDisk_ev _ hres) (Ev.neg (by omega) (Ev.pos rfl (Ev.bind E1 (Ev.bind E2 (Ev.bind E2b (Ev.bind E3 (Ev.bind (laws_eqDisk_ev _ hres) (Ev.pos rfl ?_))))))))))
  refine Ev.succ ?_
  simp only [laws_FnExactCutActs.j2]
  exact Ev.neg (by simp) (Ev.bind (laws_heldDisk_ev _ hres) (Ev.neg (by omega) (Ev.pos rfl (Ev.now _))))

end Go.Proofs.Ytgfacdhkamphiaa.Pure
