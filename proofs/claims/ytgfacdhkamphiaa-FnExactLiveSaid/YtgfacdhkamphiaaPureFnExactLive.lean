/- For every table and time that read as data both programs' Live come to the same table, of memory of its own, and the table that came in is left as it was. -/
import Derived.Test.YtgfacdhkamphiaaOFnExactLivex8
import Derived.Test.YtgfacdhkamphiaaBase
import Derived.Test.YtgfacdhkamphiaaBase2
import Derived.Test.YtgfacdhkamphiaaBase3
namespace Go.Proofs.Ytgfacdhkamphiaa.Pure
open Go.RowKit Go.Proofs.Ytgfacdhkamphiaa.PFnExactLive Go.Proofs.YtgfacdhkamphiaaW.PrintWords Go.Proofs.YtgfacdhkamphiaaW.PrintLast Go.Proofs.Ytgfacdhkamphiaa.Base
set_option linter.unusedVariables false
set_option linter.unusedSimpArgs false

theorem laws_szStringS_l0 (l : List ByteArray) (hl : l.length ≤ 1048576) (hf : ∀ x ∈ l, x.size ≤ maxLen) : ∀ (t : List ByteArray) (i : Nat) (left : Int), l.drop i = t → i ≤ l.length → 0 ≤ left → left ≤ 1048576 →
    ∃ r, Ev (fun k => laws_szStringS.l0 k l left (i : Int)) r ∧ (0 ≤ r → r ≤ left ∧ ∀ x ∈ t, (x.size : Int) ≤ left) := by
  intro t
  induction t with
  | nil =>
    intro i left ht hi g0 g1
    have := drop_nil_len ht
    exact ⟨left, Ev.step (f := fun _ => some left) (fun k => by rw [laws_szStringS.l0, if_neg (by omega)]) (Ev.now _), fun _ => ⟨Int.le_refl _, fun x hx => by cases hx⟩⟩
  | cons a t ih =>
    intro i left ht hi g0 g1
    obtain ⟨h1, h2, h3⟩ := rdOf_drop (d := ByteArray.empty) ht
    have ha := hf a (List.mem_of_mem_drop (by rw [ht]; exact List.mem_cons_self))
    unfold maxLen at ha
    by_cases hr0 : left - (a.size : Int) < 0
    · refine ⟨-1, Ev.step (f := fun _ => some (-1)) (fun k => ?_) (Ev.now _), fun h => by omega⟩
      rw [laws_szStringS.l0, if_pos (by omega), if_pos (by omega), h1, w64 (by omega) (by omega), if_pos hr0]
    · obtain ⟨r2, e2, hr2⟩ := ih (i + 1) (left - (a.size : Int)) h3 (by omega) (by omega) (by omega)
      refine ⟨r2, Ev.step (fun k => ?_) e2, fun h => ⟨by have := (hr2 h).1; omega, fun x hx => ?_⟩⟩
      · rw [laws_szStringS.l0, if_pos (by omega), if_pos (by omega), h1, w64 (n := left - (a.size : Int)) (by omega) (by omega), if_neg hr0, w64 (by omega) (by omega)]
        rfl
      · rcases List.mem_cons.1 hx with rfl | hx
        · omega
        · have := (hr2 h).2 x hx
          omega
theorem laws_szStringS_ev (l : List ByteArray) (hl : l.length ≤ maxLen) (hf : ∀ x ∈ l, x.size ≤ maxLen) (left : Int) (g0 : 0 ≤ left) (g1 : left ≤ 1048576) :
    ∃ r, Ev (fun k => laws_szStringS.f k l left) r ∧ (0 ≤ r → r ≤ left ∧ (l.length : Int) ≤ left ∧ ∀ x ∈ l, (x.size : Int) ≤ left) := by
  unfold maxLen at hl
  unfold laws_szStringS.f
  rw [w64 (n := left - (l.length : Int)) (by omega) (by omega)]
  by_cases c1 : left - (l.length : Int) < 0
  · exact ⟨-1, Ev.pos c1 (Ev.now _), fun h => by omega⟩
  · obtain ⟨r, e, hr⟩ := laws_szStringS_l0 l (by omega) hf l 0 (left - (l.length : Int)) rfl (Nat.zero_le _) (by omega) (by omega)
    exact ⟨r, Ev.neg c1 e, fun h => ⟨by have := (hr h).1; omega, by omega, fun x hx => by have := (hr h).2 x hx; omega⟩⟩
theorem laws_szVal_ev (a b : Int) (s : ByteArray) (l : List ByteArray) (hs : s.size ≤ maxLen) (hl : l.length ≤ maxLen) (hf : ∀ x ∈ l, x.size ≤ maxLen) (left : Int) (g0 : 0 ≤ left) (g1 : left ≤ 1048576) :
    ∃ r, Ev (fun k => laws_szVal.f k a b s l left) r ∧ (0 ≤ r → r ≤ left ∧ (s.size : Int) ≤ left ∧ (l.length : Int) ≤ left ∧ ∀ x ∈ l, (x.size : Int) ≤ left) := by
  unfold maxLen at hs
  unfold laws_szVal.f
  rw [w64 (n := left - (s.size : Int)) (by omega) (by omega)]
  by_cases c1 : left - (s.size : Int) < 0
  · exact ⟨-1, Ev.pos c1 (Ev.now _), fun h => by omega⟩
  · obtain ⟨r, e, hr⟩ := laws_szStringS_ev l hl hf (left - (s.size : Int)) (by omega) (by omega)
    by_cases hr0 : r < 0
    · exact ⟨-1, Ev.neg c1 (Ev.bind e (Ev.pos hr0 (Ev.now _))), fun h => by omega⟩
    · refine ⟨r, Ev.neg c1 (Ev.bind e (Ev.neg hr0 (Ev.now _))), fun h => ?_⟩
      obtain ⟨h1, h2, h3⟩ := hr h
      exact ⟨by omega, by omega, by omega, fun x hx => by have := h3 x hx; omega⟩

theorem laws_toStringS_l0 (l : List ByteArray) (hl : l.length ≤ 1048576) : ∀ (d i : Nat) (xs : List ByteArray), xs.length = l.length → i + d = l.length → xs.take i = l.take i → Ev (fun k => laws_toStringS.l0 k l xs (i : Int)) l := by
  intro d
  induction d with
  | zero =>
    intro i xs hx hi ht
    refine Ev.step (f := fun _ => some xs) (fun k => by rw [laws_toStringS.l0, if_neg (by omega)]) (Ev.ret ?_)
    rw [List.take_of_length_le (by omega), List.take_of_length_le (by omega)] at ht
    exact ht
  | succ d ih =>
    intro i xs hx hi ht
    have hr : rdOf ByteArray.empty l (i : Int) = l[i] := rdOf_get (by omega)
    refine Ev.step (fun k => ?_) (ih (i + 1) (xs.set i l[i]) (by rw [List.length_set]; exact hx) (by omega) ?_)
    · rw [laws_toStringS.l0, if_pos (by omega), if_pos (by omega), hr, if_pos (by omega), w64 (by omega) (by omega), Int.toNat_natCast]
      rfl
    · rw [take_set_snoc _ _ _ (by omega), ht, List.take_succ_eq_append_getElem (by omega)]
theorem laws_toStringS_ev (l : List ByteArray) (hl : l.length ≤ 1048576) : Ev (fun k => laws_toStringS.f k l) l := by
  unfold laws_toStringS.f
  exact Ev.pos (by omega) (Ev.pos (by omega) (laws_toStringS_l0 l hl l.length 0 _ (by rw [List.length_replicate]; omega) (by omega) rfl))
theorem laws_toVal_ev (a b : Int) (s : ByteArray) (l : List ByteArray) (hl : l.length ≤ 1048576) : Ev (fun k => laws_toVal.f k a b s l) (a, b, s, l) := by
  unfold laws_toVal.f
  exact Ev.bind (laws_toStringS_ev l hl) (Ev.now _)

theorem laws_eqStringS_l0 (xs : List ByteArray) (hl : xs.length < 140737488355328) : ∀ (t : List ByteArray) (i : Nat), xs.drop i = t → i ≤ xs.length → Ev (fun k => laws_eqStringS.l0 k xs xs (i : Int)) true := by
  intro t
  induction t with
  | nil =>
    intro i ht hi
    have := drop_nil_len ht
    exact Ev.step (f := fun _ => some true) (fun k => by rw [laws_eqStringS.l0, if_neg (by omega)]) (Ev.now _)
  | cons a t ih =>
    intro i ht hi
    obtain ⟨h1, h2, h3⟩ := rdOf_drop (d := ByteArray.empty) ht
    refine Ev.step (f := fun k => laws_eqStringS.l0 k xs xs ((i + 1 : Nat) : Int)) (fun k => ?_) (ih (i + 1) h3 (by omega))
    rw [laws_eqStringS.l0, if_pos (by omega), if_pos (by omega), if_pos (by omega), if_pos rfl, w64 (by omega) (by omega)]
    rfl
theorem laws_eqStringS_ev (xs : List ByteArray) (hl : xs.length < 140737488355328) : Ev (fun k => laws_eqStringS.f k xs xs) true := by
  unfold laws_eqStringS.f
  exact Ev.pos rfl (laws_eqStringS_l0 xs hl xs 0 rfl (Nat.zero_le _))

theorem laws_eqVal_ev (a b : Int) (s : ByteArray) (l : List ByteArray) (hl : l.length ≤ 1048576) : Ev (fun k => laws_eqVal.f k a b s l a b s l) true := by
  unfold laws_eqVal.f
  exact Ev.pos rfl (Ev.pos rfl (Ev.pos rfl (Ev.bind (laws_eqStringS_ev l (by omega)) (Ev.pos rfl (Ev.now _)))))

theorem rd_T121_drop {xs : List S121} {i : Nat} {a : S121} {t : List S121} (h : xs.drop i = a :: t) : rd_T121 xs (i : Int) = a ∧ i < xs.length ∧ xs.drop (i + 1) = t := rdOf_drop (d := z121) h
def entryFits (x : S121) : Prop := x.f0.size ≤ maxLen ∧ x.f1.f2.size ≤ maxLen ∧ x.f1.f3.length ≤ maxLen ∧ ∀ y ∈ x.f1.f3, y.size ≤ maxLen
def entryIn (x : S121) (left : Int) : Prop := (x.f0.size : Int) ≤ left ∧ (x.f1.f2.size : Int) ≤ left ∧ (x.f1.f3.length : Int) ≤ left ∧ ∀ y ∈ x.f1.f3, (y.size : Int) ≤ left
theorem entryIn.mono {x : S121} {a b : Int} (h : entryIn x a) (hab : a ≤ b) : entryIn x b := ⟨by have := h.1; omega, by have := h.2.1; omega, by have := h.2.2.1; omega, fun y hy => by have := h.2.2.2 y hy; omega⟩
theorem laws_szEntry_ev (x : S121) (hx : entryFits x) (left : Int) (g0 : 0 ≤ left) (g1 : left ≤ 1048576) :
    ∃ r, Ev (fun k => laws_szEntry.f k x.f0 x.f1.f0 x.f1.f1 x.f1.f2 x.f1.f3 left) r ∧ (0 ≤ r → r ≤ left ∧ entryIn x left) := by
  obtain ⟨h0, h1, h2, h3⟩ := hx
  have h0' := h0
  unfold maxLen at h0'
  unfold laws_szEntry.f
  rw [w64 (n := left - (x.f0.size : Int)) (by omega) (by omega)]
  by_cases c1 : left - (x.f0.size : Int) < 0
  · exact ⟨-1, Ev.pos c1 (Ev.now _), fun h => by omega⟩
  · obtain ⟨r, e, hr⟩ := laws_szVal_ev x.f1.f0 x.f1.f1 x.f1.f2 x.f1.f3 h1 h2 h3 (left - (x.f0.size : Int)) (by omega) (by omega)
    by_cases hr0 : r < 0
    · exact ⟨-1, Ev.neg c1 (Ev.bind e (Ev.pos hr0 (Ev.now _))), fun h => by omega⟩
    · refine ⟨r, Ev.neg c1 (Ev.bind e (Ev.neg hr0 (Ev.now _))), fun h => ?_⟩
      obtain ⟨q0, q1, q2, q3⟩ := hr h
      exact ⟨by omega, by omega, by omega, by omega, fun y hy => by have := q3 y hy; omega⟩
theorem laws_szEntryS_l0 (l : List S121) (hl : l.length ≤ 1048576) (hf : ∀ x ∈ l, entryFits x) : ∀ (t : List S121) (i : Nat) (left : Int), l.drop i = t → i ≤ l.length → 0 ≤ left → left ≤ 1048576 →
    ∃ r, Ev (fun k => laws_szEntryS.l0 k l left (i : Int)) r ∧ (0 ≤ r → r ≤ left ∧ ∀ x ∈ t, entryIn x left) := by
  intro t
  induction t with
  | nil =>
    intro i left ht hi g0 g1
    have := drop_nil_len ht
    exact ⟨left, Ev.step (f := fun _ => some left) (fun k => by rw [laws_szEntryS.l0, if_neg (by omega)]) (Ev.now _), fun _ => ⟨Int.le_refl _, fun x hx => by cases hx⟩⟩
  | cons a t ih =>
    intro i left ht hi g0 g1
    obtain ⟨h1, h2, h3⟩ := rd_T121_drop ht
    have ha : entryFits a := hf a (List.mem_of_mem_drop (by rw [ht]; exact List.mem_cons_self))
    obtain ⟨r, e, hr⟩ := laws_szEntry_ev a ha left g0 g1
    by_cases hr0 : r < 0
    · refine ⟨-1, Ev.succ ?_, fun h => by omega⟩
      simp only [laws_szEntryS.l0, h1]
      exact Ev.pos (by omega) (Ev.pos (by omega) (Ev.bind e (Ev.pos hr0 (Ev.now _))))
    · have hr := hr (by omega)
      obtain ⟨r2, e2, hr2⟩ := ih (i + 1) r h3 (by omega) (by omega) (by omega)
      refine ⟨r2, Ev.succ ?_, fun h => ⟨by have := (hr2 h).1; omega, fun x hx => ?_⟩⟩
      · simp only [laws_szEntryS.l0, h1, w64 (n := (i : Int) + 1) (by omega) (by omega)]
        exact Ev.pos (by omega) (Ev.pos (by omega) (Ev.bind e (Ev.neg hr0 e2)))
      · rcases List.mem_cons.1 hx with rfl | hx
        · exact hr.2
        · exact ((hr2 h).2 x hx).mono hr.1
theorem laws_szEntryS_ev (l : List S121) (hl : l.length ≤ maxLen) (hf : ∀ x ∈ l, entryFits x) (left : Int) (g0 : 0 ≤ left) (g1 : left ≤ 1048576) :
    ∃ r, Ev (fun k => laws_szEntryS.f k l left) r ∧ (0 ≤ r → r ≤ left ∧ (l.length : Int) ≤ left ∧ ∀ x ∈ l, entryIn x left) := by
  unfold maxLen at hl
  unfold laws_szEntryS.f
  rw [w64 (n := left - (l.length : Int)) (by omega) (by omega)]
  by_cases c1 : left - (l.length : Int) < 0
  · exact ⟨-1, Ev.pos c1 (Ev.now _), fun h => by omega⟩
  · obtain ⟨r, e, hr⟩ := laws_szEntryS_l0 l (by omega) hf l 0 (left - (l.length : Int)) rfl (Nat.zero_le _) (by omega) (by omega)
    exact ⟨r, Ev.neg c1 e, fun h => ⟨by have := (hr h).1; omega, by omega, fun x hx => ((hr h).2 x hx).mono (by omega)⟩⟩
def toE (x : S121) : S90 := ⟨x.f0, ⟨x.f1.f0, x.f1.f1, x.f1.f2, x.f1.f3⟩⟩
theorem laws_toEntry_ev (x : S121) (h : x.f1.f3.length ≤ 1048576) : Ev (fun k => laws_toEntry.f k x.f0 x.f1.f0 x.f1.f1 x.f1.f2 x.f1.f3) (x.f0, x.f1.f0, x.f1.f1, x.f1.f2, x.f1.f3) := by
  unfold laws_toEntry.f
  exact Ev.bind (laws_toVal_ev _ _ _ _ h) (Ev.now _)
theorem laws_toEntryS_l0 (l : List S121) (hl : l.length ≤ 1048576) (hf : ∀ x ∈ l, x.f1.f3.length ≤ 1048576) : ∀ (d i : Nat) (xs : List S90), xs.length = l.length → i + d = l.length → xs.take i = (l.take i).map toE → Ev (fun k => laws_toEntryS.l0 k l xs (i : Int)) (l.map toE) := by
  intro d
  induction d with
  | zero =>
    intro i xs hx hi ht
    refine Ev.step (f := fun _ => some xs) (fun k => by rw [laws_toEntryS.l0, if_neg (by omega)]) (Ev.ret ?_)
    rw [List.take_of_length_le (by omega), List.take_of_length_le (by omega)] at ht
    exact ht
  | succ d ih =>
    intro i xs hx hi ht
    have hr : rd_T121 l (i : Int) = l[i] := rdOf_get (d := z121) (by omega)
    refine Ev.succ ?_
    simp only [laws_toEntryS.l0, hr, w64 (n := (i : Int) + 1) (by omega) (by omega), Int.toNat_natCast]
    refine Ev.pos (by omega) (Ev.pos (by omega) (Ev.bind (laws_toEntry_ev _ (hf _ (List.getElem_mem _))) (Ev.pos (by omega) ?_)))
    refine ih (i + 1) (xs.set i (toE l[i])) (by rw [List.length_set]; exact hx) (by omega) ?_
    rw [take_set_snoc _ _ _ (by omega), ht, List.take_succ_eq_append_getElem (by omega), List.map_append, List.map_singleton]
theorem laws_toEntryS_ev (l : List S121) (hl : l.length ≤ 1048576) (hf : ∀ x ∈ l, x.f1.f3.length ≤ 1048576) : Ev (fun k => laws_toEntryS.f k l) (l.map toE) := by
  unfold laws_toEntryS.f
  exact Ev.pos (by omega) (Ev.pos (by omega) (laws_toEntryS_l0 l hl hf l.length 0 _ (by rw [List.length_replicate]; omega) (by omega) rfl))
theorem rd_T90_drop {xs : List S90} {i : Nat} {a : S90} {t : List S90} (h : xs.drop i = a :: t) : rd_T90 xs (i : Int) = a ∧ i < xs.length ∧ xs.drop (i + 1) = t := rdOf_drop (d := z90) h
theorem laws_eqEntry_self (x : S90) (h : x.f1.f3.length ≤ 1048576) : Ev (fun k => laws_eqEntry.f k x.f0 x.f1.f0 x.f1.f1 x.f1.f2 x.f1.f3 x.f0 x.f1.f0 x.f1.f1 x.f1.f2 x.f1.f3) true := by
  unfold laws_eqEntry.f
  exact Ev.pos rfl (Ev.bind (laws_eqVal_ev _ _ _ _ h) (Ev.pos rfl (Ev.now _)))
theorem laws_eqEntryS_l0 (l : List S90) (hl : l.length ≤ 1048576) (hf : ∀ x ∈ l, x.f1.f3.length ≤ 1048576) : ∀ (t : List S90) (i : Nat), l.drop i = t → i ≤ l.length → Ev (fun k => laws_eqEntryS.l0 k l l (i : Int)) true := by
  intro t
  induction t with
  | nil =>
    intro i ht hi
    have := drop_nil_len ht
    exact Ev.step (f := fun _ => some true) (fun k => by rw [laws_eqEntryS.l0, if_neg (by omega)]) (Ev.now _)
  | cons a t ih =>
    intro i ht hi
    obtain ⟨h1, h2, h3⟩ := rd_T90_drop ht
    have e := ih (i + 1) h3 (by omega)
    rw [show ((i + 1 : Nat) : Int) = (i : Int) + 1 from by omega] at e
    refine Ev.succ ?_
    simp only [laws_eqEntryS.l0, h1, w64 (n := (i : Int) + 1) (by omega) (by omega)]
    exact Ev.pos (by omega) (Ev.pos (by omega) (Ev.pos (by omega) (Ev.bind (laws_eqEntry_self a (hf a (List.mem_of_mem_drop (by rw [ht]; exact List.mem_cons_self)))) (Ev.pos rfl e))))
theorem laws_eqEntryS_ev (l : List S90) (hl : l.length ≤ 1048576) (hf : ∀ x ∈ l, x.f1.f3.length ≤ 1048576) : Ev (fun k => laws_eqEntryS.f k l l) true := by
  unfold laws_eqEntryS.f
  exact Ev.pos rfl (laws_eqEntryS_l0 l hl hf l 0 rfl (Nat.zero_le _))

theorem laws_markText_l0 : ∀ (n : Nat) (acc : ByteArray), acc.size + n < 4611686018427387904 → Ev (fun k => laws_markText.l0 k (n : Int) acc) (mtl n acc) := by
  intro n
  induction n using Nat.strongRecOn with
  | _ n ih =>
    intro acc h
    by_cases hn : 0 < n
    · rw [mtl_pos hn]
      refine Ev.succ ?_
      simp only [laws_markText.l0]
      rw [tmodp (by omega), tdivp (by omega), w64 (n := 48 + (n : Int) % 10) (by omega) (by omega), w64 (n := (n : Int) / 10) (by omega) (by omega), show (48 + (n : Int) % 10) % 256 = ((48 + n % 10 : Nat) : Int) from by omega, show (n : Int) / 10 = ((n / 10 : Nat) : Int) from by omega]
      refine Ev.pos (by omega) (Ev.bind0 rfl (Ev.pos (by rw [strOfNums_size, List.length_singleton]; omega) ?_))
      exact ih (n / 10) (by omega) _ (by rw [app_size, strOfNums_size, List.length_singleton]; omega)
    · obtain rfl : n = 0 := by omega
      rw [mtl_zero]
      exact Ev.step (f := fun _ => some ((⟨#[109]⟩ : ByteArray) ++ acc)) (fun k => by rw [laws_markText.l0, if_neg (by omega), if_pos (by omega)]) (Ev.now _)
theorem laws_markText_ev {n : Nat} (h : 0 < n) (h' : n < 4611686018427387904) : Ev (fun k => laws_markText.f k (n : Int)) (mt n) := by
  unfold laws_markText.f
  exact Ev.neg (by omega) (laws_markText_l0 n _ (by rw [show (⟨#[]⟩ : ByteArray).size = 0 from rfl]; omega))

theorem laws_markStringS_l0 : ∀ (d i a : Nat) (xs : List ByteArray), xs.length = i + d → xs.length < 140737488355328 → 0 < a → a + d < 4611686018427387904 → Ev (fun k => laws_markStringS.l0 k xs (a : Int) (i : Int)) (((a + d : Nat) : Int), xs.take i ++ marksFrom a d) := by
  intro d
  induction d with
  | zero =>
    intro i a xs hx hb ha hz
    refine Ev.step (f := fun _ => some ((a : Int), xs)) (fun k => by rw [laws_markStringS.l0, if_neg (by omega)]) (Ev.ret ?_)
    rw [List.take_of_length_le (by omega), marksFrom, List.append_nil, Nat.add_zero]
  | succ d ih =>
    intro i a xs hx hb ha hz
    refine Ev.succ ?_
    simp only [laws_markStringS.l0, w64 (n := (i : Int) + 1) (by omega) (by omega), w64 (n := (a : Int) + 1) (by omega) (by omega), Int.toNat_natCast]
    refine Ev.pos (by omega) (Ev.bind (laws_markText_ev ha (by omega)) (Ev.pos (by omega) ?_))
    have e := ih (i + 1) (a + 1) (xs.set i (mt a)) (by rw [List.length_set]; omega) (by rw [List.length_set]; omega) (by omega) (by omega)
    rw [take_set_snoc _ _ _ (by omega), List.append_assoc, show a + 1 + d = a + (d + 1) from by omega] at e
    exact e
theorem laws_markStringS_ev (xs : List ByteArray) (hb : xs.length < 140737488355328) : Ev (fun k => laws_markStringS.f k xs 1) (((1 + xs.length : Nat) : Int), marksFrom 1 xs.length) :=
  laws_markStringS_l0 xs.length 0 1 xs (by omega) hb (by omega) (by omega)
theorem laws_heldStringS_l0 (xs : List ByteArray) (hb : xs.length < 140737488355328) : ∀ (d i a : Nat), xs.drop i = marksFrom a d → i ≤ xs.length → 0 < a → a + d < 4611686018427387904 → Ev (fun k => laws_heldStringS.l0 k xs (a : Int) (i : Int)) ((a + d : Nat) : Int) := by
  intro d
  induction d with
  | zero =>
    intro i a hx hi ha hz
    have := drop_nil_len hx
    exact Ev.step (f := fun _ => some (a : Int)) (fun k => by rw [laws_heldStringS.l0, if_neg (by omega)]) (Ev.now _)
  | succ d ih =>
    intro i a hx hi ha hz
    obtain ⟨h1, h2, h3⟩ := rdOf_drop (d := ByteArray.empty) hx
    refine Ev.succ ?_
    simp only [laws_heldStringS.l0, w64 (n := (i : Int) + 1) (by omega) (by omega), w64 (n := (a : Int) + 1) (by omega) (by omega), h1]
    refine Ev.pos (by omega) (Ev.pos (by omega) (Ev.bind (laws_markText_ev ha (by omega)) (Ev.pos rfl ?_)))
    have e := ih (i + 1) (a + 1) h3 (by omega) (by omega) (by omega)
    rw [show a + 1 + d = a + (d + 1) from by omega] at e
    exact e
theorem laws_heldStringS_ev (m : Nat) (hb : m < 140737488355328) : Ev (fun k => laws_heldStringS.f k (marksFrom 1 m) 1) ((1 + m : Nat) : Int) :=
  laws_heldStringS_l0 (marksFrom 1 m) (by rw [marksFrom_length]; exact hb) m 0 1 rfl (Nat.zero_le _) (by omega) (by omega)

/-- Two that come to an answer come to both with the same rounds. -/
theorem Ev.all2 {α β : Type} {f : Nat → Option α} {g : Nat → Option β} {a : α} {b : β} (h : Ev f a) (k : Ev g b) : Ev (fun n => (f n).bind fun x => (g n).bind fun y => some (x, y)) (a, b) := Ev.bind h (Ev.bind k (Ev.now _))
theorem all2_some {α β : Type} {f : Option α} {g : Option β} {a : α} {b : β} (h : (f.bind fun x => g.bind fun y => some (x, y)) = some (a, b)) : f = some a ∧ g = some b := by
  cases f with
  | none => cases h
  | some x =>
    cases g with
    | none => cases h
    | some y =>
      simp only [Option.bind_some, Option.some.injEq, Prod.mk.injEq] at h
      obtain ⟨rfl, rfl⟩ := h
      exact ⟨rfl, rfl⟩

def markE : List S90 → Nat → List S90
  | [], _ => []
  | x :: t, a => ⟨mt a, ⟨((a + 1 : Nat) : Int), ((a + 2 : Nat) : Int), mt (a + 3), marksFrom (a + 4) x.f1.f3.length⟩⟩ :: markE t (a + 4 + x.f1.f3.length)
def endE : List S90 → Nat → Nat
  | [], a => a
  | x :: t, a => endE t (a + 4 + x.f1.f3.length)
theorem markE_length : ∀ (l : List S90) (a : Nat), (markE l a).length = l.length
  | [], _ => rfl
  | x :: t, a => by rw [markE, List.length_cons, List.length_cons, markE_length t]
theorem endE_le : ∀ (l : List S90) (a : Nat), (∀ x ∈ l, x.f1.f3.length ≤ 1048576) → a ≤ endE l a ∧ endE l a ≤ a + l.length * 1048580
  | [], a, _ => ⟨Nat.le_refl _, Nat.le_add_right _ _⟩
  | x :: t, a, h => by
    obtain ⟨h1, h2⟩ := endE_le t (a + 4 + x.f1.f3.length) (fun y hy => h y (List.mem_cons_of_mem _ hy))
    have := h x List.mem_cons_self
    rw [endE, List.length_cons]
    omega
theorem laws_markStringS_at (xs : List ByteArray) (a : Nat) (h : xs.length ≤ 1048576) (ha : 0 < a) (hz : a < 4611686010000000000) : Ev (fun k => laws_markStringS.f k xs (a : Int)) (((a + xs.length : Nat) : Int), marksFrom a xs.length) :=
  laws_markStringS_l0 xs.length 0 a xs (by omega) (by omega) ha (by omega)
theorem laws_markEntryS_l0 : ∀ (t : List S90) (i a : Nat) (xs : List S90), xs.drop i = t → i ≤ xs.length → xs.length ≤ 1048576 → (∀ x ∈ t, x.f1.f3.length ≤ 1048576) → 0 < a → a + t.length * 1048580 < 4611686000000000000 →
    Ev (fun k => laws_markEntryS.l0 k xs (a : Int) (i : Int)) ((endE t a : Int), xs.take i ++ markE t a) := by
  intro t
  induction t with
  | nil =>
    intro i a xs ht hi hx hf ha hz
    have := drop_nil_len ht
    refine Ev.step (f := fun _ => some ((a : Int), xs)) (fun k => by rw [laws_markEntryS.l0, if_neg (by omega)]) (Ev.ret ?_)
    rw [List.take_of_length_le (by omega), markE, List.append_nil, endE]
  | cons x t ih =>
    intro i a xs ht hi hx hf ha hz
    obtain ⟨h1, h2, h3⟩ := rd_T90_drop ht
    have hfx := hf x List.mem_cons_self
    rw [List.length_cons] at hz
    have e0 : wrap64 ((a : Int) + 1) = ((a + 1 : Nat) : Int) := by rw [w64 (by omega) (by omega)]; omega
    have e1 : wrap64 (((a + 1 : Nat) : Int) + 1) = ((a + 2 : Nat) : Int) := by rw [w64 (by omega) (by omega)]; omega
    have e2 : wrap64 (((a + 2 : Nat) : Int) + 1) = ((a + 3 : Nat) : Int) := by rw [w64 (by omega) (by omega)]; omega
    have e3 : wrap64 (((a + 3 : Nat) : Int) + 1) = ((a + 4 : Nat) : Int) := by rw [w64 (by omega) (by omega)]; omega
    refine Ev.succ ?_
    simp only [laws_markEntryS.l0, h1, e0, e1, e2, e3, w64 (n := (i : Int) + 1) (by omega) (by omega), Int.toNat_natCast]
    refine Ev.pos (by omega) (Ev.pos (by omega) (Ev.bind (laws_markText_ev ha (by omega)) (Ev.bind (laws_markText_ev (n := a + 3) (by omega) (by omega)) (Ev.bind (laws_markStringS_at x.f1.f3 (a + 4) hfx (by omega) (by omega)) ?_))))
    have hl : (xs.set i (⟨mt a, ⟨((a + 1 : Nat) : Int), ((a + 2 : Nat) : Int), mt (a + 3), marksFrom (a + 4) x.f1.f3.length⟩⟩ : S90)).length = xs.length := List.length_set ..
    have e := ih (i + 1) (a + 4 + x.f1.f3.length) (xs.set i (⟨mt a, ⟨((a + 1 : Nat) : Int), ((a + 2 : Nat) : Int), mt (a + 3), marksFrom (a + 4) x.f1.f3.length⟩⟩ : S90)) (by rw [List.drop_set_of_lt (by omega)]; exact h3) (by omega) (by omega) (fun y hy => hf y (List.mem_cons_of_mem _ hy)) (by omega) (by omega)
    rw [take_set_snoc _ _ _ (by omega), List.append_assoc] at e
    exact e
theorem laws_markEntryS_ev (xs : List S90) (hx : xs.length ≤ 1048576) (hf : ∀ x ∈ xs, x.f1.f3.length ≤ 1048576) : Ev (fun k => laws_markEntryS.f k xs 1) ((endE xs 1 : Int), markE xs 1) :=
  laws_markEntryS_l0 xs 0 1 xs rfl (Nat.zero_le _) hx hf (by omega) (by omega)

theorem laws_heldStringS_at (m a : Nat) (h : m ≤ 1048576) (ha : 0 < a) (hz : a < 4611686010000000000) : Ev (fun k => laws_heldStringS.f k (marksFrom a m) (a : Int)) ((a + m : Nat) : Int) :=
  laws_heldStringS_l0 (marksFrom a m) (by rw [marksFrom_length]; omega) m 0 a rfl (Nat.zero_le _) ha (by omega)
theorem laws_heldEntryS_l0 (ys : List S90) (hy : ys.length ≤ 1048576) : ∀ (t : List S90) (i a : Nat), ys.drop i = markE t a → i ≤ ys.length → (∀ x ∈ t, x.f1.f3.length ≤ 1048576) → 0 < a → a + t.length * 1048580 < 4611686000000000000 →
    Ev (fun k => laws_heldEntryS.l0 k ys (a : Int) (i : Int)) (endE t a : Int) := by
  intro t
  induction t with
  | nil =>
    intro i a ht hi hf ha hz
    have := drop_nil_len ht
    exact Ev.step (f := fun _ => some (a : Int)) (fun k => by rw [laws_heldEntryS.l0, if_neg (by omega)]) (Ev.now _)
  | cons x t ih =>
    intro i a ht hi hf ha hz
    rw [markE] at ht
    obtain ⟨h1, h2, h3⟩ := rd_T90_drop ht
    have hfx := hf x List.mem_cons_self
    rw [List.length_cons] at hz
    have e0 : wrap64 ((a : Int) + 1) = ((a + 1 : Nat) : Int) := by rw [w64 (by omega) (by omega)]; omega
    have e1 : wrap64 (((a + 1 : Nat) : Int) + 1) = ((a + 2 : Nat) : Int) := by rw [w64 (by omega) (by omega)]; omega
    have e2 : wrap64 (((a + 2 : Nat) : Int) + 1) = ((a + 3 : Nat) : Int) := by rw [w64 (by omega) (by omega)]; omega
    have e3 : wrap64 (((a + 3 : Nat) : Int) + 1) = ((a + 4 : Nat) : Int) := by rw [w64 (by omega) (by omega)]; omega
    have e := ih (i + 1) (a + 4 + x.f1.f3.length) h3 (by omega) (fun y hy => hf y (List.mem_cons_of_mem _ hy)) (by omega) (by omega)
    refine Ev.succ ?_
    simp only [laws_heldEntryS.l0, h1, e0, e1, e2, e3, w64 (n := (i : Int) + 1) (by omega) (by omega)]
    exact Ev.pos (by omega) (Ev.pos (by omega) (Ev.bind (laws_markText_ev ha (by omega)) (Ev.pos (by first | trivial | rfl) (Ev.pos (by first | trivial | rfl) (Ev.pos (by first | trivial | rfl) (Ev.bind (laws_markText_ev (n := a + 3) (by omega) (by omega)) (Ev.pos (by first | trivial | rfl) (Ev.bind (laws_heldStringS_at x.f1.f3.length (a + 4) hfx (by omega) (by omega)) (Ev.neg (by omega) e)))))))))
theorem laws_heldEntryS_ev (xs : List S90) (hx : xs.length ≤ 1048576) (hf : ∀ x ∈ xs, x.f1.f3.length ≤ 1048576) : Ev (fun k => laws_heldEntryS.f k (markE xs 1) 1) (endE xs 1 : Int) :=
  laws_heldEntryS_l0 (markE xs 1) (by rw [markE_length]; exact hx) xs 0 1 rfl (Nat.zero_le _) hf (by omega) (by omega)

theorem spec_l10Copy_eq (a b : Int) (c : ByteArray) (l : List ByteArray) (h : l.length ≤ 1048576) : spec_l10Copy.f a b c l = some (a, b, c, l) := by
  unfold spec_l10Copy.f
  rw [Option.bind_some, if_pos (by simp; omega)]
  rfl

def liveOk (now : Int) (x : S90) : Bool := decide (x.f1.f1 = 0 ∨ now < x.f1.f1)
def liveE (l : List S90) (now : Int) : List S90 := l.filter (liveOk now)
theorem liveE_items {l : List S90} {now : Int} (hf : ∀ x ∈ l, x.f1.f3.length ≤ 1048576) : ∀ x ∈ liveE l now, x.f1.f3.length ≤ 1048576 := fun x hx => hf x (List.mem_filter.1 hx).1
theorem liveE_length {l : List S90} {now : Int} : (liveE l now).length ≤ l.length := List.length_filter_le _ _
theorem spec_Live_l0 (l : List S90) (now : Int) (hl : l.length ≤ 1048576) (hf : ∀ x ∈ l, x.f1.f3.length ≤ 1048576) : ∀ (t : List S90) (i : Nat) (out : List S90), l.drop i = t → i ≤ l.length → out.length ≤ i → Ev (fun k => spec_Live.l0 k l now out (i : Int)) (out ++ liveE t now) := by
  intro t
  induction t with
  | nil =>
    intro i out ht hi ho
    have := drop_nil_len ht
    refine Ev.step (f := fun _ => some out) (fun k => by rw [spec_Live.l0, if_neg (by omega)]) (Ev.ret ?_)
    rw [liveE, List.filter_nil, List.append_nil]
  | cons a t ih =>
    intro i out ht hi ho
    obtain ⟨h1, h2, h3⟩ := rd_T90_drop ht
    have ha := hf a (List.mem_of_mem_drop (by rw [ht]; exact List.mem_cons_self))
    have keep : (a.f1.f1 = 0 ∨ now < a.f1.f1) → Ev (fun k => spec_Live.l0 k l now (out ++ [(⟨a.f0, ⟨a.f1.f0, a.f1.f1, a.f1.f2, a.f1.f3⟩⟩ : S90)]) ((i : Int) + 1)) (out ++ liveE (a :: t) now) := fun h => by
      have e := ih (i + 1) (out ++ [a]) h3 (by omega) (by rw [List.length_append, List.length_singleton]; omega)
      rw [show out ++ liveE (a :: t) now = out ++ [a] ++ liveE t now from by unfold liveE; rw [List.filter_cons, if_pos (show liveOk now a = true from decide_eq_true h), List.append_assoc]; rfl]
      exact e
    refine Ev.succ ?_
    simp only [spec_Live.l0, h1, w64 (n := (i : Int) + 1) (by omega) (by omega)]
    refine Ev.pos (by omega) (Ev.pos (by omega) ?_)
    by_cases c1 : a.f1.f1 = 0
    · exact Ev.pos c1 (Ev.bind0 (spec_l10Copy_eq _ _ _ _ ha) (Ev.pos (by omega) (keep (.inl c1))))
    refine Ev.neg c1 ?_
    by_cases c2 : a.f1.f1 > now
    · exact Ev.pos c2 (Ev.bind0 (spec_l10Copy_eq _ _ _ _ ha) (Ev.pos (by omega) (keep (.inr c2))))
    refine Ev.neg c2 ?_
    have e := ih (i + 1) out h3 (by omega) (by omega)
    rw [show liveE (a :: t) now = liveE t now from by unfold liveE; rw [List.filter_cons, if_neg (by unfold liveOk; rw [decide_eq_true_eq]; omega)]]
    exact e
theorem spec_Live_ev (l : List S90) (now : Int) (hl : l.length ≤ 1048576) (hf : ∀ x ∈ l, x.f1.f3.length ≤ 1048576) : Ev (fun k => spec_Live.f k l now) (liveE l now) :=
  spec_Live_l0 l now hl hf l 0 [] rfl (Nat.zero_le _) (Nat.le_refl _)
theorem impl_copyVal_eq (a b : Int) (c : ByteArray) (l : List ByteArray) (h : l.length ≤ 1048576) : impl_copyVal.f a b c l = some (a, b, c, l) := by
  unfold impl_copyVal.f
  rw [if_pos (by simp; omega)]
  rfl
theorem impl_copyTable_l0 (l : List S90) (hl : l.length ≤ 1048576) (hf : ∀ x ∈ l, x.f1.f3.length ≤ 1048576) : ∀ (t : List S90) (i : Nat) (out : List S90), l.drop i = t → i ≤ l.length → out.length ≤ i → Ev (fun k => impl_copyTable.l0 k out l (l.length : Int) (i : Int)) (out ++ t) := by
  intro t
  induction t with
  | nil =>
    intro i out ht hi ho
    have := drop_nil_len ht
    refine Ev.step (f := fun _ => some out) (fun k => by rw [impl_copyTable.l0, if_neg (by omega)]) (Ev.ret ?_)
    rw [List.append_nil]
  | cons a t ih =>
    intro i out ht hi ho
    obtain ⟨h1, h2, h3⟩ := rd_T90_drop ht
    have ha := hf a (List.mem_of_mem_drop (by rw [ht]; exact List.mem_cons_self))
    have e := ih (i + 1) (out ++ [a]) h3 (by omega) (by rw [List.length_append, List.length_singleton]; omega)
    rw [List.append_assoc] at e
    refine Ev.succ ?_
    simp only [impl_copyTable.l0, h1, w64 (n := (i : Int) + 1) (by omega) (by omega)]
    exact Ev.pos (by omega) (Ev.pos (by omega) (Ev.pos (by omega) (Ev.bind0 (impl_copyVal_eq _ _ _ _ ha) (Ev.pos (by omega) e))))
theorem impl_copyTable_ev (l : List S90) (hl : l.length ≤ 1048576) (hf : ∀ x ∈ l, x.f1.f3.length ≤ 1048576) : Ev (fun k => impl_copyTable.f k l) l :=
  impl_copyTable_l0 l hl hf l 0 [] rfl (Nat.zero_le _) (Nat.le_refl _)
theorem impl_Live_ev (l : List S90) (now : Int) (hl : l.length ≤ 1048576) (hf : ∀ x ∈ l, x.f1.f3.length ≤ 1048576) : Ev (fun k => impl_Live.f k l now) (liveE l now) := by
  unfold impl_Live.f
  refine Ev.bind (impl_copyTable_ev l hl hf) (Ev.ret ?_)
  unfold liveE
  congr 1
  funext x
  unfold liveOk
  by_cases c1 : x.f1.f1 = 0
  · simp [c1, delE]
  · by_cases c2 : x.f1.f1 ≤ now
    · rw [decide_eq_false (by omega)]; simp [c1, c2, delE]
    · rw [decide_eq_true (by omega)]; simp [c2, delE]

theorem FnExactLive (l : List S121) (now : Int) (o : l.length ≤ maxLen ∧ ∀ x ∈ l, x.f0.size ≤ maxLen ∧ (Lit.int .i64 x.f1.f0).wf = true ∧ (Lit.int .i64 x.f1.f1).wf = true ∧ x.f1.f2.size ≤ maxLen ∧ x.f1.f3.length ≤ maxLen ∧ ∀ y ∈ x.f1.f3, y.size ≤ maxLen) (_ : (Lit.int .i64 now).wf = true) : ∃ k, laws_FnExactLive.f k l now = some true := by
  have hl := o.1
  have hf : ∀ x ∈ l, entryFits x := fun x hx => by
    obtain ⟨h0, _, _, h1, h2, h3⟩ := o.2 x hx
    exact ⟨h0, h1, h2, h3⟩
  have fin : ∀ k, laws_FnExactLive.Ok k l now → ∃ k, laws_FnExactLive.f k l now = some true := fun k h => ⟨k, by unfold laws_FnExactLive.f; exact if_pos h⟩
  obtain ⟨r, e, hr⟩ := laws_szEntryS_ev l hl hf 1048576 (by omega) (by omega)
  by_cases h0 : r < 0
  · obtain ⟨k, hk⟩ := Ev.rounds e
    exact fin k ⟨r, hk, .inl h0⟩
  obtain ⟨_, hbd, hin⟩ := hr (by omega)
  have hf1 : ∀ x ∈ l, x.f1.f3.length ≤ 1048576 := fun x hx => by have := (hin x hx).2.2.1; omega
  have hm : (l.map toE).length ≤ 1048576 := by rw [List.length_map]; omega
  have hf2 : ∀ x ∈ l.map toE, x.f1.f3.length ≤ 1048576 := fun x hx => by
    obtain ⟨y, hy, rfl⟩ := List.mem_map.1 hx
    exact hf1 y hy
  have hvl : (liveE (l.map toE) now).length ≤ 1048576 := Nat.le_trans liveE_length hm
  have hvf := liveE_items (now := now) hf2
  have all := Ev.all2 e (Ev.all2 (laws_toEntryS_ev l (by omega) hf1) (Ev.all2 (spec_Live_ev (l.map toE) now hm hf2) (Ev.all2 (impl_Live_ev (l.map toE) now hm hf2) (Ev.all2 (laws_eqEntryS_ev _ hvl hvf) (Ev.all2 (laws_eqEntryS_ev _ hm hf2) (Ev.all2 (laws_markEntryS_ev _ hm hf2) (Ev.all2 (laws_markEntryS_ev _ hvl hvf) (laws_heldEntryS_ev _ hvl hvf))))))))
  obtain ⟨k, hk⟩ := Ev.rounds all
  obtain ⟨k1, hk⟩ := all2_some hk
  obtain ⟨k2, hk⟩ := all2_some hk
  obtain ⟨k3, hk⟩ := all2_some hk
  obtain ⟨k4, hk⟩ := all2_some hk
  obtain ⟨k5, hk⟩ := all2_some hk
  obtain ⟨k6, hk⟩ := all2_some hk
  obtain ⟨k7, hk⟩ := all2_some hk
  obtain ⟨k8, k9⟩ := all2_some hk
  exact fin k ⟨r, k1, .inr ⟨h0, l.map toE, _, _, _, _, _, k2, k3, k4, k5, k6, k7, by omega, k8, k9, by omega⟩⟩

end Go.Proofs.Ytgfacdhkamphiaa.Pure
