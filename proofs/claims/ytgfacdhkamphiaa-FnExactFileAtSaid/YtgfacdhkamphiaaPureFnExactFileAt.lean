/- For every disk and name that read as data both programs' FileAt come to the same text and answer, and the disk is left as it was. -/
import Derived.Test.YtgfacdhkamphiaaOFnExactFileAtx2
import Derived.Test.YtgfacdhkamphiaaBase
import Derived.Test.YtgfacdhkamphiaaBase2
import Derived.Test.YtgfacdhkamphiaaBase3
namespace Go.Proofs.Ytgfacdhkamphiaa.Pure
open Go.RowKit Go.Proofs.Ytgfacdhkamphiaa.PFnExactFileAt Go.Proofs.YtgfacdhkamphiaaW.PrintWords Go.Proofs.YtgfacdhkamphiaaW.PrintLast Go.Proofs.Ytgfacdhkamphiaa.Base
set_option linter.unusedVariables false
set_option linter.unusedSimpArgs false

theorem laws_szFile_some (x : S134) (h0 : x.f0.size ≤ maxLen) (h1 : x.f1.size ≤ maxLen) (left : Int) (g0 : 0 ≤ left) (g1 : left ≤ 1048576) :
    ∃ r, laws_szFile.f x.f0 x.f1 x.f2 left = some r ∧ (0 ≤ r → r ≤ left ∧ (x.f0.size : Int) ≤ left ∧ (x.f1.size : Int) ≤ left) := by
  unfold maxLen at h0 h1
  unfold laws_szFile.f
  rw [w64 (n := left - (x.f0.size : Int)) (by omega) (by omega)]
  by_cases c1 : left - (x.f0.size : Int) < 0
  · rw [if_pos c1]; exact ⟨_, rfl, fun h => by omega⟩
  rw [if_neg c1, w64 (n := left - (x.f0.size : Int) - (x.f1.size : Int)) (by omega) (by omega)]
  by_cases c2 : left - (x.f0.size : Int) - (x.f1.size : Int) < 0
  · rw [if_pos c2]; exact ⟨_, rfl, fun h => by omega⟩
  rw [if_neg c2]; exact ⟨_, rfl, fun h => by omega⟩
theorem rd_T134_drop {xs : List S134} {i : Nat} {a : S134} {t : List S134} (h : xs.drop i = a :: t) : rd_T134 xs (i : Int) = a ∧ i < xs.length ∧ xs.drop (i + 1) = t := rdOf_drop (d := z134) h
def fileFits (x : S134) : Prop := x.f0.size ≤ maxLen ∧ x.f1.size ≤ maxLen
theorem laws_szFileS_l0 (l : List S134) (hl : l.length ≤ 1048576) (hf : ∀ x ∈ l, fileFits x) : ∀ (t : List S134) (i : Nat) (left : Int), l.drop i = t → i ≤ l.length → 0 ≤ left → left ≤ 1048576 →
    ∃ r, Ev (fun k => laws_szFileS.l0 k l left (i : Int)) r ∧ (0 ≤ r → r ≤ left ∧ ∀ x ∈ t, (x.f0.size : Int) ≤ left ∧ (x.f1.size : Int) ≤ left) := by
  intro t
  induction t with
  | nil =>
    intro i left ht hi g0 g1
    have := drop_nil_len ht
    exact ⟨left, Ev.step (f := fun _ => some left) (fun k => by rw [laws_szFileS.l0, if_neg (by omega)]) (Ev.now _), fun _ => ⟨Int.le_refl _, fun x hx => by cases hx⟩⟩
  | cons a t ih =>
    intro i left ht hi g0 g1
    obtain ⟨h1, h2, h3⟩ := rd_T134_drop ht
    have ha : fileFits a := hf a (List.mem_of_mem_drop (by rw [ht]; exact List.mem_cons_self))
    obtain ⟨r, e, hr⟩ := laws_szFile_some a ha.1 ha.2 left g0 g1
    by_cases hr0 : r < 0
    · refine ⟨-1, Ev.step (f := fun _ => some (-1)) (fun k => ?_) (Ev.now _), fun h => by omega⟩
      rw [laws_szFileS.l0, if_pos (by omega), if_pos (by omega), h1, e, Option.bind_some, if_pos hr0]
    · have hr := hr (by omega)
      obtain ⟨r2, e2, hr2⟩ := ih (i + 1) r h3 (by omega) (by omega) (by omega)
      refine ⟨r2, Ev.step (fun k => ?_) e2, fun h => ⟨by have := (hr2 h).1; omega, fun x hx => ?_⟩⟩
      · rw [laws_szFileS.l0, if_pos (by omega), if_pos (by omega), h1, e, Option.bind_some, if_neg hr0, w64 (by omega) (by omega)]
        rfl
      · rcases List.mem_cons.1 hx with rfl | hx
        · exact hr.2
        · have := (hr2 h).2 x hx
          omega
theorem laws_szFileS_ev (l : List S134) (hl : l.length ≤ maxLen) (hf : ∀ x ∈ l, fileFits x) (left : Int) (g0 : 0 ≤ left) (g1 : left ≤ 1048576) :
    ∃ r, Ev (fun k => laws_szFileS.f k l left) r ∧ (0 ≤ r → r ≤ left ∧ (l.length : Int) ≤ left ∧ ∀ x ∈ l, (x.f0.size : Int) ≤ left ∧ (x.f1.size : Int) ≤ left) := by
  unfold maxLen at hl
  unfold laws_szFileS.f
  rw [w64 (n := left - (l.length : Int)) (by omega) (by omega)]
  by_cases c1 : left - (l.length : Int) < 0
  · exact ⟨-1, Ev.pos c1 (Ev.now _), fun h => by omega⟩
  · obtain ⟨r, e, hr⟩ := laws_szFileS_l0 l (by omega) hf l 0 (left - (l.length : Int)) rfl (Nat.zero_le _) (by omega) (by omega)
    exact ⟨r, Ev.neg c1 e, fun h => ⟨by have := (hr h).1; omega, by omega, fun x hx => by have := (hr h).2 x hx; omega⟩⟩
theorem laws_szDisk_ev (l : List S134) (hl : l.length ≤ maxLen) (hf : ∀ x ∈ l, fileFits x) (left : Int) (g0 : 0 ≤ left) (g1 : left ≤ 1048576) :
    ∃ r, Ev (fun k => laws_szDisk.f k l left) r ∧ (0 ≤ r → r ≤ left ∧ (l.length : Int) ≤ left ∧ ∀ x ∈ l, (x.f0.size : Int) ≤ left ∧ (x.f1.size : Int) ≤ left) := by
  obtain ⟨r, e, hr⟩ := laws_szFileS_ev l hl hf left g0 g1
  unfold laws_szDisk.f
  by_cases hr0 : r < 0
  · exact ⟨-1, Ev.bind e (Ev.pos hr0 (Ev.now _)), fun h => by omega⟩
  · exact ⟨r, Ev.bind e (Ev.neg hr0 (Ev.now _)), hr⟩

def toF (x : S134) : S45 := ⟨x.f0, x.f1, x.f2⟩
theorem laws_toFileS_l0 (l : List S134) (hl : l.length ≤ 1048576) : ∀ (d i : Nat) (xs : List S45), xs.length = l.length → i + d = l.length → xs.take i = (l.take i).map toF → Ev (fun k => laws_toFileS.l0 k l xs (i : Int)) (l.map toF) := by
  intro d
  induction d with
  | zero =>
    intro i xs hx hi ht
    refine Ev.step (f := fun _ => some xs) (fun k => by rw [laws_toFileS.l0, if_neg (by omega)]) (Ev.ret ?_)
    rw [List.take_of_length_le (by omega), List.take_of_length_le (by omega)] at ht
    exact ht
  | succ d ih =>
    intro i xs hx hi ht
    have hr : rd_T134 l (i : Int) = l[i] := rdOf_get (d := z134) (by omega)
    refine Ev.step (fun k => ?_) (ih (i + 1) (xs.set i (toF l[i])) (by rw [List.length_set]; exact hx) (by omega) ?_)
    · rw [laws_toFileS.l0, if_pos (by omega), if_pos (by omega), hr, laws_toFile.f, Option.bind_some, if_pos (by omega), w64 (by omega) (by omega), Int.toNat_natCast]
      rfl
    · rw [take_set_snoc _ _ _ (by omega), ht, List.take_succ_eq_append_getElem (by omega), List.map_append, List.map_singleton]
theorem laws_toFileS_ev (l : List S134) (hl : l.length ≤ 1048576) : Ev (fun k => laws_toFileS.f k l) (l.map toF) := by
  unfold laws_toFileS.f
  exact Ev.pos (by omega) (Ev.pos (by omega) (laws_toFileS_l0 l hl l.length 0 _ (by rw [List.length_replicate]; omega) (by omega) rfl))
theorem laws_toDisk_ev (l : List S134) (hl : l.length ≤ 1048576) : Ev (fun k => laws_toDisk.f k l) (l.map toF) := by
  unfold laws_toDisk.f
  exact Ev.bind (laws_toFileS_ev l hl) (Ev.now _)

theorem rd_T45_drop {xs : List S45} {i : Nat} {a : S45} {t : List S45} (h : xs.drop i = a :: t) : rd_T45 xs (i : Int) = a ∧ i < xs.length ∧ xs.drop (i + 1) = t := rdOf_drop (d := z45) h
theorem laws_eqFile_self (x : S45) : laws_eqFile.f x.f0 x.f1 x.f2 x.f0 x.f1 x.f2 = some true := by
  unfold laws_eqFile.f
  rw [if_pos rfl, if_pos rfl, if_pos rfl]
theorem laws_eqFileS_l0 (l : List S45) (hl : l.length ≤ 1048576) : ∀ (t : List S45) (i : Nat), l.drop i = t → i ≤ l.length → Ev (fun k => laws_eqFileS.l0 k l l (i : Int)) true := by
  intro t
  induction t with
  | nil =>
    intro i ht hi
    have := drop_nil_len ht
    exact Ev.step (f := fun _ => some true) (fun k => by rw [laws_eqFileS.l0, if_neg (by omega)]) (Ev.now _)
  | cons a t ih =>
    intro i ht hi
    obtain ⟨h1, h2, h3⟩ := rd_T45_drop ht
    refine Ev.step (fun k => ?_) (ih (i + 1) h3 (by omega))
    rw [laws_eqFileS.l0, if_pos (by omega), if_pos (by omega), if_pos (by omega), h1, laws_eqFile_self, Option.bind_some, if_pos rfl, w64 (by omega) (by omega)]
    rfl
theorem laws_eqDisk_ev (l : List S45) (hl : l.length ≤ 1048576) : Ev (fun k => laws_eqDisk.f k l l) true := by
  unfold laws_eqDisk.f laws_eqFileS.f
  exact Ev.bind (Ev.pos rfl (laws_eqFileS_l0 l hl l 0 rfl (Nat.zero_le _))) (Ev.pos rfl (Ev.now _))

theorem idx_range {α : Type} (p : α → Bool) : ∀ (l : List α) (i : Int), idxFrom p l i = -1 ∨ (i ≤ idxFrom p l i ∧ idxFrom p l i < i + (l.length : Int)) := by
  intro l
  induction l with
  | nil => intro i; exact .inl rfl
  | cons a t ih =>
    intro i
    rw [idxFrom, List.length_cons]
    by_cases h : p a = true
    · rw [if_pos h]; right; omega
    · rw [if_neg h]
      rcases ih (i + 1) with h1 | h1
      · exact .inl h1
      · right; omega
theorem idx_any {α : Type} (p : α → Bool) : ∀ (l : List α) (i : Int), 0 ≤ i → decide (0 ≤ idxFrom p l i) = l.any p := by
  intro l
  induction l with
  | nil => intro i _; rfl
  | cons a t ih =>
    intro i hi
    rw [idxFrom, List.any_cons]
    by_cases h : p a = true
    · rw [if_pos h, h, decide_eq_true hi]; rfl
    · rw [if_neg h, ih (i + 1) (by omega)]
      rw [show p a = false from by simpa using h]; rfl

def named (s : ByteArray) (x : S45) : Bool := decide (x.f0.toList = s.toList)
theorem spec_l03At_l0 (l : List S45) (hl : l.length ≤ 1048576) (s : ByteArray) : ∀ (t : List S45) (i : Nat), l.drop i = t → i ≤ l.length → Ev (fun k => spec_l03At.l0 k s (i : Int) l) (idxFrom (named s) t (i : Int)) := by
  intro t
  induction t with
  | nil =>
    intro i ht hi
    have := drop_nil_len ht
    exact Ev.step (f := fun _ => some (-1)) (fun k => by rw [spec_l03At.l0, if_neg (by omega)]) (Ev.now _)
  | cons a t ih =>
    intro i ht hi
    obtain ⟨h1, h2, h3⟩ := rd_T45_drop ht
    have e := ih (i + 1) h3 (by omega)
    rw [show ((i + 1 : Nat) : Int) = (i : Int) + 1 from by omega] at e
    refine Ev.succ ?_
    simp only [spec_l03At.l0, h1, w64 (n := (i : Int) + 1) (by omega) (by omega)]
    refine Ev.pos (by omega) (Ev.pos (by omega) ?_)
    rw [idxFrom, named]
    by_cases h : a.f0.toList = s.toList
    · rw [if_pos (decide_eq_true h)]
      exact Ev.pos h (Ev.now _)
    · rw [if_neg (by simpa using h)]
      exact Ev.neg h e
def fileAtOf (l : List S45) (s : ByteArray) : ByteArray × Bool := if idxFrom (named s) l 0 < 0 then noText else ((rd_T45 l (idxFrom (named s) l 0)).f1, true)
theorem spec_FileAt_ev (l : List S45) (hl : l.length ≤ 1048576) (s : ByteArray) : Ev (fun k => spec_FileAt.f k l s) (fileAtOf l s) := by
  unfold spec_FileAt.f fileAtOf
  have e0 := spec_l03At_l0 l hl s l 0 rfl (Nat.zero_le _)
  rw [show ((0 : Nat) : Int) = 0 from rfl] at e0
  refine Ev.bind e0 ?_
  have hr := idx_range (named s) l 0
  by_cases h : idxFrom (named s) l 0 < 0
  · exact Ev.tpos h (Ev.pos h (Ev.now _))
  · exact Ev.tneg h (Ev.neg h (Ev.pos (by omega) (Ev.pos (by omega) (Ev.now _))))
theorem impl_FileAt_eq (l : List S45) (s : ByteArray) : impl_FileAt.f l s = some (fileAtOf l s) := by
  unfold impl_FileAt.f impl_fileAt.f fileAtOf
  rw [Option.bind_some]
  show (if idxFrom (named s) l 0 < 0 then _ else (if 0 ≤ idxFrom (named s) l 0 then (if idxFrom (named s) l 0 < (l.length : Int) then (some ((rd_T45 l (idxFrom (named s) l 0)).f1, true)) else none) else none)) = _
  have hr := idx_range (named s) l 0
  by_cases h : idxFrom (named s) l 0 < 0
  · rw [if_pos h, if_pos h]; rfl
  · rw [if_neg h, if_neg h, if_pos (by omega), if_pos (by omega)]
theorem FnExactFileAt (l : List S134) (a1 : ByteArray) (o : l.length ≤ maxLen ∧ ∀ x ∈ l, x.f0.size ≤ maxLen ∧ x.f1.size ≤ maxLen ∧ (Lit.int .i64 x.f2).wf = true) (w : a1.size ≤ 140737488351232) : ∃ k, laws_FnExactFileAt.f k l a1 = some true := by
  have hl := o.1
  have hf : ∀ x ∈ l, fileFits x := fun x hx => ⟨(o.2 x hx).1, (o.2 x hx).2.1⟩
  refine Ev.rounds (r := true) ?_
  unfold laws_FnExactFileAt.f
  by_cases ha : (a1.size : Int) > 1048576
  · exact Ev.pos ha (Ev.now _)
  obtain ⟨r, e, hr⟩ := laws_szDisk_ev l hl hf 1048576 (by omega) (by omega)
  refine Ev.neg ha (Ev.bind e ?_)
  by_cases h0 : r < 0
  · exact Ev.pos h0 (Ev.now _)
  have hb := (hr (by omega)).2.1
  have hm : (l.map toF).length ≤ 1048576 := by rw [List.length_map]; omega
  refine Ev.neg h0 (Ev.bind (laws_toDisk_ev l (by omega)) (Ev.bind (spec_FileAt_ev _ hm a1) (Ev.bind (laws_toDisk_ev l (by omega)) (Ev.bind0 (impl_FileAt_eq _ a1) (Ev.pos rfl ?_)))))
  refine Ev.succ ?_
  simp only [laws_FnExactFileAt.j0]
  exact Ev.neg (by simp) (Ev.bind (laws_toDisk_ev l (by omega)) (Ev.bind (laws_eqDisk_ev _ hm) (Ev.pos rfl (Ev.now _))))

end Go.Proofs.Ytgfacdhkamphiaa.Pure
