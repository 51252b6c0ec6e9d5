/- For every two tables that read as data both programs' Differ come to the same changes, of memory of their own, and the tables that came in are left as they were. -/
import Derived.Test.YtlekhcopddajbaaOFnExactDifferx17
import Derived.Test.YtlekhcopddajbaaBase
import Derived.Test.YtlekhcopddajbaaBase2
import Derived.Test.YtlekhcopddajbaaBase3
namespace Go.Proofs.Ytlekhcopddajbaa.Pure
open Go.RowKit Go.Proofs.Ytlekhcopddajbaa.PFnExactDiffer Go.Proofs.YtlekhcopddajbaaW.PrintWords Go.Proofs.YtlekhcopddajbaaW.PrintLast Go.Proofs.Ytlekhcopddajbaa.Base
set_option linter.unusedVariables false
set_option linter.unusedSimpArgs false

theorem spec_l01In_eq (a b c : Int) : spec_l01In.f a b c = some (decide (b ≤ a ∧ a ≤ c)) := by
  unfold spec_l01In.f
  by_cases h : b ≤ a <;> simp [h]

theorem impl_within_eq (a b c : Int) : impl_within.f a b c = some (decide (b ≤ a ∧ a ≤ c)) := by
  unfold impl_within.f
  by_cases h : b ≤ a <;> simp [h]

theorem laws_szStringS_l0 (l : List ByteArray) (hl : l.length ≤ 1048576) (hf : ∀ x ∈ l, x.size ≤ maxLen) : ∀ (t : List ByteArray) (i : Nat) (left : Int), l.drop i = t → i ≤ l.length → 0 ≤ left → left ≤ 1048576 →
    ∃ r, Ev (fun k => laws_szStringS.l0 k l left (i : Int)) r ∧ (0 ≤ r → r ≤ left ∧ ∀ x ∈ t, (x.size : Int) ≤ left) := by
  intro t
  induction t with
  | nil =>
    intro i left ht hi g0 g1
    have := drop_nil_len ht
    exact ⟨left, Ev.step (f := fun _ => some left) (fun k => by rw [laws_szStringS.l0, if_neg (by omega)]) (Ev.now _), fun _ => ⟨Int.le_refl _, fun x hx => by cases hx⟩⟩
  | cons a t ih =>
    intro i left ht hi g0 g1
    obtain ⟨h1, h2, h3⟩ := rdOf_drop (d := ByteArray.empty) ht
    have ha := hf a (List.mem_of_mem_drop (by rw [ht]; exact List.mem_cons_self))
    unfold maxLen at ha
    by_cases hr0 : left - (a.size : Int) < 0
    · refine ⟨-1, Ev.step (f := fun _ => some (-1)) (fun k => ?_) (Ev.now _), fun h => by omega⟩
      rw [laws_szStringS.l0, if_pos (by omega), if_pos (by omega), h1, w64 (by omega) (by omega), if_pos hr0]
    · obtain ⟨r2, e2, hr2⟩ := ih (i + 1) (left - (a.size : Int)) h3 (by omega) (by omega) (by omega)
      refine ⟨r2, Ev.step (fun k => ?_) e2, fun h => ⟨by have := (hr2 h).1; omega, fun x hx => ?_⟩⟩
      · rw [laws_szStringS.l0, if_pos (by omega), if_pos (by omega), h1, w64 (n := left - (a.size : Int)) (by omega) (by omega), if_neg hr0, w64 (by omega) (by omega)]
        rfl
      · rcases List.mem_cons.1 hx with rfl | hx
        · omega
        · have := (hr2 h).2 x hx
          omega
theorem laws_szStringS_ev (l : List ByteArray) (hl : l.length ≤ maxLen) (hf : ∀ x ∈ l, x.size ≤ maxLen) (left : Int) (g0 : 0 ≤ left) (g1 : left ≤ 1048576) :
    ∃ r, Ev (fun k => laws_szStringS.f k l left) r ∧ (0 ≤ r → r ≤ left ∧ (l.length : Int) ≤ left ∧ ∀ x ∈ l, (x.size : Int) ≤ left) := by
  unfold maxLen at hl
  unfold laws_szStringS.f
  rw [w64 (n := left - (l.length : Int)) (by omega) (by omega)]
  by_cases c1 : left - (l.length : Int) < 0
  · exact ⟨-1, Ev.pos c1 (Ev.now _), fun h => by omega⟩
  · obtain ⟨r, e, hr⟩ := laws_szStringS_l0 l (by omega) hf l 0 (left - (l.length : Int)) rfl (Nat.zero_le _) (by omega) (by omega)
    exact ⟨r, Ev.neg c1 e, fun h => ⟨by have := (hr h).1; omega, by omega, fun x hx => by have := (hr h).2 x hx; omega⟩⟩
theorem laws_szVal_ev (a b : Int) (s : ByteArray) (l : List ByteArray) (hs : s.size ≤ maxLen) (hl : l.length ≤ maxLen) (hf : ∀ x ∈ l, x.size ≤ maxLen) (left : Int) (g0 : 0 ≤ left) (g1 : left ≤ 1048576) :
    ∃ r, Ev (fun k => laws_szVal.f k a b s l left) r ∧ (0 ≤ r → r ≤ left ∧ (s.size : Int) ≤ left ∧ (l.length : Int) ≤ left ∧ ∀ x ∈ l, (x.size : Int) ≤ left) := by
  unfold maxLen at hs
  unfold laws_szVal.f
  rw [w64 (n := left - (s.size : Int)) (by omega) (by omega)]
  by_cases c1 : left - (s.size : Int) < 0
  · exact ⟨-1, Ev.pos c1 (Ev.now _), fun h => by omega⟩
  · obtain ⟨r, e, hr⟩ := laws_szStringS_ev l hl hf (left - (s.size : Int)) (by omega) (by omega)
    by_cases hr0 : r < 0
    · exact ⟨-1, Ev.neg c1 (Ev.bind e (Ev.pos hr0 (Ev.now _))), fun h => by omega⟩
    · refine ⟨r, Ev.neg c1 (Ev.bind e (Ev.neg hr0 (Ev.now _))), fun h => ?_⟩
      obtain ⟨h1, h2, h3⟩ := hr h
      exact ⟨by omega, by omega, by omega, fun x hx => by have := h3 x hx; omega⟩

theorem laws_toStringS_l0 (l : List ByteArray) (hl : l.length ≤ 1048576) : ∀ (d i : Nat) (xs : List ByteArray), xs.length = l.length → i + d = l.length → xs.take i = l.take i → Ev (fun k => laws_toStringS.l0 k l xs (i : Int)) l := by
  intro d
  induction d with
  | zero =>
    intro i xs hx hi ht
    refine Ev.step (f := fun _ => some xs) (fun k => by rw [laws_toStringS.l0, if_neg (by omega)]) (Ev.ret ?_)
    rw [List.take_of_length_le (by omega), List.take_of_length_le (by omega)] at ht
    exact ht
  | succ d ih =>
    intro i xs hx hi ht
    have hr : rdOf ByteArray.empty l (i : Int) = l[i] := rdOf_get (by omega)
    refine Ev.step (fun k => ?_) (ih (i + 1) (xs.set i l[i]) (by rw [List.length_set]; exact hx) (by omega) ?_)
    · rw [laws_toStringS.l0, if_pos (by omega), if_pos (by omega), hr, if_pos (by omega), w64 (by omega) (by omega), Int.toNat_natCast]
      rfl
    · rw [take_set_snoc _ _ _ (by omega), ht, List.take_succ_eq_append_getElem (by omega)]
theorem laws_toStringS_ev (l : List ByteArray) (hl : l.length ≤ 1048576) : Ev (fun k => laws_toStringS.f k l) l := by
  unfold laws_toStringS.f
  exact Ev.pos (by omega) (Ev.pos (by omega) (laws_toStringS_l0 l hl l.length 0 _ (by rw [List.length_replicate]; omega) (by omega) rfl))
theorem laws_toVal_ev (a b : Int) (s : ByteArray) (l : List ByteArray) (hl : l.length ≤ 1048576) : Ev (fun k => laws_toVal.f k a b s l) (a, b, s, l) := by
  unfold laws_toVal.f
  exact Ev.bind (laws_toStringS_ev l hl) (Ev.now _)

theorem laws_eqStringS_l0 (xs : List ByteArray) (hl : xs.length < 140737488355328) : ∀ (t : List ByteArray) (i : Nat), xs.drop i = t → i ≤ xs.length → Ev (fun k => laws_eqStringS.l0 k xs xs (i : Int)) true := by
  intro t
  induction t with
  | nil =>
    intro i ht hi
    have := drop_nil_len ht
    exact Ev.step (f := fun _ => some true) (fun k => by rw [laws_eqStringS.l0, if_neg (by omega)]) (Ev.now _)
  | cons a t ih =>
    intro i ht hi
    obtain ⟨h1, h2, h3⟩ := rdOf_drop (d := ByteArray.empty) ht
    refine Ev.step (f := fun k => laws_eqStringS.l0 k xs xs ((i + 1 : Nat) : Int)) (fun k => ?_) (ih (i + 1) h3 (by omega))
    rw [laws_eqStringS.l0, if_pos (by omega), if_pos (by omega), if_pos (by omega), if_pos rfl, w64 (by omega) (by omega)]
    rfl
theorem laws_eqStringS_ev (xs : List ByteArray) (hl : xs.length < 140737488355328) : Ev (fun k => laws_eqStringS.f k xs xs) true := by
  unfold laws_eqStringS.f
  exact Ev.pos rfl (laws_eqStringS_l0 xs hl xs 0 rfl (Nat.zero_le _))

theorem laws_eqVal_ev (a b : Int) (s : ByteArray) (l : List ByteArray) (hl : l.length ≤ 1048576) : Ev (fun k => laws_eqVal.f k a b s l a b s l) true := by
  unfold laws_eqVal.f
  exact Ev.pos rfl (Ev.pos rfl (Ev.pos rfl (Ev.bind (laws_eqStringS_ev l (by omega)) (Ev.pos rfl (Ev.now _)))))

/-- An item of a right value, by the step at which items ascend. -/
def itemOk (l : List ByteArray) (step i : Nat) (x : ByteArray) : Bool :=
  decide ((x.size : Int) ≤ 60) && (if 0 < step ∧ i % step = 0 ∧ step ≤ i then Op.bytesLess (rdOf ByteArray.empty l ((i : Int) - (step : Int))).toList x.toList else true)
def itemsOkFrom (l : List ByteArray) (step : Nat) : Nat → List ByteArray → Bool
  | _, [] => true
  | i, x :: t => itemOk l step i x && itemsOkFrom l step (i + 1) t
def valOk (kind until' : Int) (s : ByteArray) (l : List ByteArray) : Bool :=
  decide (1 ≤ kind ∧ kind ≤ 4) && decide (0 ≤ until' ∧ until' ≤ 100000) &&
    (if kind = 1 then decide ((s.size : Int) ≤ 60) && decide (l.length = 0)
     else decide (s.toList = []) && decide (1 ≤ (l.length : Int) ∧ (l.length : Int) ≤ 24) && !(decide (kind = 3) && decide ((l.length : Int) % 2 = 1)) && itemsOkFrom l (if kind = 2 then 0 else if kind = 3 then 2 else 1) 0 l)
theorem item_big {l : List ByteArray} {step i : Nat} {x : ByteArray} (h : (x.size : Int) > 60) : itemOk l step i x = false := by
  unfold itemOk; rw [decide_eq_false (by omega)]; rfl
theorem item_plain {l : List ByteArray} {step i : Nat} {x : ByteArray} (h : ¬ (x.size : Int) > 60) (hs : ¬ (0 < step ∧ i % step = 0 ∧ step ≤ i)) : itemOk l step i x = true := by
  unfold itemOk; rw [decide_eq_true (by omega), if_neg hs]; rfl
theorem item_less {l : List ByteArray} {step i : Nat} {x : ByteArray} (h : ¬ (x.size : Int) > 60) (hs : 0 < step ∧ i % step = 0 ∧ step ≤ i) : itemOk l step i x = Op.bytesLess (rdOf ByteArray.empty l ((i : Int) - (step : Int))).toList x.toList := by
  unfold itemOk; rw [decide_eq_true (by omega), if_pos hs]; rfl

theorem spec_ValOk_l0 (kind until' : Int) (s : ByteArray) (l : List ByteArray) (hl : l.length ≤ 1048576) (hk : kind = 2 ∨ kind = 3 ∨ kind = 4) : ∀ (t : List ByteArray) (i : Nat), l.drop i = t → i ≤ l.length →
    Ev (fun k => spec_ValOk.l0 k (i : Int) kind until' s l) (itemsOkFrom l (if kind = 2 then 0 else if kind = 3 then 2 else 1) i t) := by
  intro t
  induction t with
  | nil =>
    intro i ht hi
    have := drop_nil_len ht
    exact Ev.step (f := fun _ => some true) (fun k => by rw [spec_ValOk.l0, if_neg (by omega)]) (Ev.now _)
  | cons a t ih =>
    intro i ht hi
    obtain ⟨h1, h2, h3⟩ := rdOf_drop (d := ByteArray.empty) ht
    have e := ih (i + 1) h3 (by omega)
    rw [show ((i + 1 : Nat) : Int) = (i : Int) + 1 from by omega] at e
    refine Ev.succ ?_
    simp only [spec_ValOk.l0, h1, w64 (n := (i : Int) + 1) (by omega) (by omega), w64 (n := (i : Int) - 1) (by omega) (by omega), w64 (n := (i : Int) - 2) (by omega) (by omega), itemsOkFrom]
    refine Ev.pos (by omega) (Ev.pos (by omega) ?_)
    by_cases hz : (a.size : Int) > 60
    · exact Ev.pos hz (Ev.ret (by rw [item_big hz]; rfl))
    refine Ev.neg hz ?_
    rcases hk with rfl | rfl | rfl
    · rw [show (if (2 : Int) = 2 then 0 else if (2 : Int) = 3 then 2 else 1 : Nat) = 0 from rfl] at e ⊢
      rw [item_plain hz (by omega), Bool.true_and]
      exact Ev.neg (by decide) (Ev.neg (by decide) e)
    · rw [show (if (3 : Int) = 2 then 0 else if (3 : Int) = 3 then 2 else 1 : Nat) = 2 from rfl] at e ⊢
      refine Ev.neg (by decide) (Ev.pos rfl ?_)
      by_cases hi1 : (i : Int) > 1
      · refine Ev.pos hi1 ?_
        rw [tmodp (by omega)]
        by_cases hev : (i : Int) % 2 = 0
        · rw [item_less hz ⟨by omega, by omega, by omega⟩]
          refine Ev.pos hev (Ev.pos (by omega) (Ev.pos (by omega) ?_))
          rw [show ((2 : Nat) : Int) = 2 from rfl]
          cases hb : Op.bytesLess (rdOf ByteArray.empty l ((i : Int) - 2)).toList a.toList with
          | true => exact Ev.pos (by trivial) (by simpa using e)
          | false => exact Ev.neg (by simp) (Ev.ret (by simp))
        · rw [item_plain hz (by omega), Bool.true_and]
          exact Ev.neg hev e
      · rw [item_plain hz (by omega), Bool.true_and]
        exact Ev.neg hi1 e
    · rw [show (if (4 : Int) = 2 then 0 else if (4 : Int) = 3 then 2 else 1 : Nat) = 1 from rfl] at e ⊢
      refine Ev.pos rfl ?_
      by_cases hi1 : (i : Int) > 0
      · rw [item_less hz ⟨by omega, by omega, by omega⟩]
        refine Ev.pos hi1 (Ev.pos (by omega) (Ev.pos (by omega) ?_))
        rw [show ((1 : Nat) : Int) = 1 from rfl]
        cases hb : Op.bytesLess (rdOf ByteArray.empty l ((i : Int) - 1)).toList a.toList with
        | true => exact Ev.pos (by trivial) (Ev.neg (by decide) (by simpa using e))
        | false => exact Ev.neg (by simp) (Ev.ret (by simp))
      · rw [item_plain hz (by omega), Bool.true_and]
        exact Ev.neg hi1 (Ev.neg (by decide) e)
theorem spec_ValOk_j1 (kind until' : Int) (s : ByteArray) (l : List ByteArray) (r : Bool) (hr : r = false) : Ev (fun k => spec_ValOk.j1 k true kind until' s l) r := by
  subst hr
  exact Ev.step (f := fun _ => some false) (fun k => by rw [spec_ValOk.j1, if_pos rfl]) (Ev.now _)
theorem spec_ValOk_ev (kind until' : Int) (s : ByteArray) (l : List ByteArray) (hl : l.length ≤ 1048576) : Ev (fun k => spec_ValOk.f k kind until' s l) (valOk kind until' s l) := by
  have hno : ∀ r : Bool, r = false → Ev (fun k => spec_ValOk.j0 k true kind until' s l) r := fun r hr => by
    subst hr
    exact Ev.step (f := fun _ => some false) (fun k => by rw [spec_ValOk.j0, if_pos rfl]) (Ev.now _)
  unfold spec_ValOk.f valOk
  refine Ev.bind0 (spec_l01In_eq _ _ _) ?_
  by_cases c1 : 1 ≤ kind ∧ kind ≤ 4
  · refine Ev.pos (decide_eq_true c1) (Ev.bind0 (spec_l01In_eq _ _ _) ?_)
    rw [decide_eq_true c1, Bool.true_and]
    by_cases c2 : 0 ≤ until' ∧ until' ≤ 100000
    · rw [decide_eq_true c2, Bool.true_and]
      refine Ev.succ ?_
      simp only [spec_ValOk.j0]
      refine Ev.neg (by decide) ?_
      by_cases c3 : kind = 1
      · refine Ev.tpos c3 (Ev.pos c3 ?_)
        by_cases c4 : (s.size : Int) ≤ 60
        · refine Ev.pos c4 (Ev.ret ?_)
          rw [decide_eq_true c4, Bool.true_and, int_beq]
          exact decide_eq_decide.2 (by omega)
        · exact Ev.neg c4 (Ev.ret (by rw [decide_eq_false c4]; rfl))
      · refine Ev.tneg c3 (Ev.neg c3 ?_)
        by_cases c4 : s.toList = []
        · rw [decide_eq_true c4, Bool.true_and]
          refine Ev.pos c4 (Ev.bind0 (spec_l01In_eq _ _ _) ?_)
          by_cases c5 : 1 ≤ (l.length : Int) ∧ (l.length : Int) ≤ 24
          · rw [decide_eq_true c5, Bool.true_and]
            refine Ev.pos rfl ?_
            have hgo : Ev (fun k => spec_ValOk.j1 k false kind until' s l) (itemsOkFrom l (if kind = 2 then 0 else if kind = 3 then 2 else 1) 0 l) :=
              Ev.step (fun k => by rw [spec_ValOk.j1, if_neg (by decide)]; rfl) (spec_ValOk_l0 kind until' s l hl (by omega) l 0 rfl (Nat.zero_le _))
            by_cases c6 : kind = 3
            · refine Ev.pos c6 ?_
              rw [int_beq]
              by_cases c7 : (l.length : Int) % 2 = 1
              · rw [decide_eq_true c7]
                exact spec_ValOk_j1 _ _ _ _ _ (by rw [decide_eq_true c6]; rfl)
              · rw [decide_eq_false c7, Bool.and_false, Bool.not_false, Bool.true_and]
                exact hgo
            · refine Ev.neg c6 ?_
              rw [decide_eq_false c6, Bool.false_and, Bool.not_false, Bool.true_and]
              exact hgo
          · rw [decide_eq_false c5, Bool.false_and, Bool.false_and]
            exact Ev.neg (by decide) (spec_ValOk_j1 _ _ _ _ _ rfl)
        · rw [decide_eq_false c4, Bool.false_and, Bool.false_and, Bool.false_and]
          exact Ev.neg c4 (spec_ValOk_j1 _ _ _ _ _ rfl)
    · rw [decide_eq_false c2]
      exact hno _ rfl
  · exact Ev.neg (by simpa using c1) (hno _ (by rw [decide_eq_false c1]; rfl))

theorem impl_itemsOk_l0 (l : List ByteArray) (step : Nat) (hl : l.length ≤ 1048576) (hst : step ≤ 2) : ∀ (t : List ByteArray) (i : Nat), l.drop i = t → i ≤ l.length →
    Ev (fun k => impl_itemsOk.l0 k l (step : Int) l (l.length : Int) (i : Int)) (decide (1 ≤ (l.length : Int) ∧ (l.length : Int) ≤ 24) && itemsOkFrom l step i t) := by
  intro t
  induction t with
  | nil =>
    intro i ht hi
    have := drop_nil_len ht
    refine Ev.succ ?_
    simp only [impl_itemsOk.l0]
    exact Ev.neg (by omega) (Ev.bind0 (impl_within_eq _ _ _) (Ev.ret (by rw [itemsOkFrom, Bool.and_true])))
  | cons a t ih =>
    intro i ht hi
    obtain ⟨h1, h2, h3⟩ := rdOf_drop (d := ByteArray.empty) ht
    have e := ih (i + 1) h3 (by omega)
    rw [show ((i + 1 : Nat) : Int) = (i : Int) + 1 from by omega] at e
    refine Ev.succ ?_
    simp only [impl_itemsOk.l0, h1, w64 (n := (i : Int) + 1) (by omega) (by omega), w64 (n := (i : Int) - (step : Int)) (by omega) (by omega), itemsOkFrom]
    refine Ev.pos (by omega) (Ev.pos (by omega) (Ev.pos (by omega) ?_))
    by_cases hz : (a.size : Int) > 60
    · exact Ev.pos hz (Ev.ret (by rw [item_big hz]; simp))
    refine Ev.neg hz ?_
    by_cases hs : (step : Int) > 0
    · refine Ev.pos hs (Ev.neg (by omega) ?_)
      rw [tmodp (by omega), show (i : Int) % (step : Int) = ((i % step : Nat) : Int) from by rw [Int.natCast_emod]]
      by_cases hev : ((i % step : Nat) : Int) = 0
      · refine Ev.pos hev ?_
        by_cases hge : (i : Int) ≥ (step : Int)
        · rw [item_less hz ⟨by omega, by omega, by omega⟩]
          refine Ev.pos hge (Ev.pos (by omega) (Ev.pos (by omega) ?_))
          cases hb : Op.bytesLess (rdOf ByteArray.empty l ((i : Int) - (step : Int))).toList a.toList with
          | true => exact Ev.pos (by trivial) (by simpa using e)
          | false => exact Ev.neg (by simp) (Ev.ret (by simp))
        · rw [item_plain hz (by omega), Bool.true_and]
          exact Ev.neg hge e
      · rw [item_plain hz (by omega), Bool.true_and]
        exact Ev.neg hev e
    · rw [item_plain hz (by omega), Bool.true_and]
      exact Ev.neg hs e
theorem impl_itemsOk_j0 (l : List ByteArray) (step : Nat) (hl : l.length ≤ 1048576) (hst : step ≤ 2) : Ev (fun k => impl_itemsOk.j0 k l (step : Int)) (decide (1 ≤ (l.length : Int) ∧ (l.length : Int) ≤ 24) && itemsOkFrom l step 0 l) :=
  Ev.step (fun k => by rw [impl_itemsOk.j0]; rfl) (impl_itemsOk_l0 l step hl hst l 0 rfl (Nat.zero_le _))
theorem impl_itemsOk_ev (kind : Int) (l : List ByteArray) (hl : l.length ≤ 1048576) (hk : kind = 2 ∨ kind = 3 ∨ kind = 4) :
    Ev (fun k => impl_itemsOk.f k kind l) (decide (1 ≤ (l.length : Int) ∧ (l.length : Int) ≤ 24) && !(decide (kind = 3) && decide ((l.length : Int) % 2 = 1)) && itemsOkFrom l (if kind = 2 then 0 else if kind = 3 then 2 else 1) 0 l) := by
  unfold impl_itemsOk.f
  rcases hk with rfl | rfl | rfl
  · refine Ev.pos rfl ?_
    simpa using impl_itemsOk_j0 l 0 hl (by omega)
  · refine Ev.neg (by decide) (Ev.pos rfl ?_)
    by_cases c7 : (l.length : Int) % 2 = 0
    · refine Ev.pos c7 ?_
      have c8 : ¬ (l.length : Int) % 2 = 1 := by omega
      rw [decide_eq_false c8, Bool.and_false, Bool.not_false, Bool.and_true]
      exact impl_itemsOk_j0 l 2 hl (by omega)
    · have c8 : (l.length : Int) % 2 = 1 := by omega
      exact Ev.neg c7 (Ev.ret (by rw [decide_eq_true c8]; simp))
  · refine Ev.neg (by decide) (Ev.neg (by decide) ?_)
    simpa using impl_itemsOk_j0 l 1 hl (by omega)
theorem impl_ValOk_ev (kind until' : Int) (s : ByteArray) (l : List ByteArray) (hl : l.length ≤ 1048576) : Ev (fun k => impl_ValOk.f k kind until' s l) (valOk kind until' s l) := by
  unfold impl_ValOk.f valOk
  refine Ev.bind0 (impl_within_eq _ _ _) ?_
  by_cases c2 : 0 ≤ until' ∧ until' ≤ 100000
  · refine Ev.pos (decide_eq_true c2) ?_
    rw [decide_eq_true c2, Bool.and_true]
    have each : (kind = 2 ∨ kind = 3 ∨ kind = 4) → Ev (fun k => if s.toList = ([] : List UInt8) then ((impl_itemsOk.f k kind l).bind fun t133 => (some t133)) else (some false))
        (decide (1 ≤ kind ∧ kind ≤ 4) && (if kind = 1 then decide ((s.size : Int) ≤ 60) && decide (l.length = 0) else decide (s.toList = []) && decide (1 ≤ (l.length : Int) ∧ (l.length : Int) ≤ 24) && !(decide (kind = 3) && decide ((l.length : Int) % 2 = 1)) && itemsOkFrom l (if kind = 2 then 0 else if kind = 3 then 2 else 1) 0 l)) := fun hk => by
      rw [show decide (1 ≤ kind ∧ kind ≤ 4) = true from decide_eq_true (by omega), Bool.true_and, if_neg (show ¬ kind = 1 from by omega)]
      by_cases c4 : s.toList = []
      · rw [decide_eq_true c4, Bool.true_and]
        exact Ev.pos c4 (Ev.bind (impl_itemsOk_ev kind l hl hk) (Ev.now _))
      · rw [decide_eq_false c4, Bool.false_and, Bool.false_and, Bool.false_and]
        exact Ev.neg c4 (Ev.now _)
    by_cases c3 : kind = 1
    · rw [show decide (1 ≤ kind ∧ kind ≤ 4) = true from decide_eq_true (by omega), Bool.true_and]
      refine Ev.tpos c3 (Ev.pos c3 ?_)
      by_cases c4 : (s.size : Int) ≤ 60
      · refine Ev.pos c4 (Ev.ret ?_)
        rw [decide_eq_true c4, Bool.true_and, int_beq]
        exact decide_eq_decide.2 (by omega)
      · exact Ev.neg c4 (Ev.ret (by rw [decide_eq_false c4]; rfl))
    · refine Ev.neg c3 ?_
      by_cases d2 : kind = 2
      · exact Ev.pos d2 (each (.inl d2))
      refine Ev.neg d2 ?_
      by_cases d3 : kind = 3
      · exact Ev.pos d3 (each (.inr (.inl d3)))
      refine Ev.neg d3 ?_
      by_cases d4 : kind = 4
      · exact Ev.pos d4 (each (.inr (.inr d4)))
      · refine Ev.neg d4 (Ev.ret ?_)
        rw [show decide (1 ≤ kind ∧ kind ≤ 4) = false from decide_eq_false (by omega)]
        rfl
  · exact Ev.neg (by simpa using c2) (Ev.ret (by rw [decide_eq_false c2, Bool.and_false]; rfl))

theorem rd_T38_drop {xs : List S38} {i : Nat} {a : S38} {t : List S38} (h : xs.drop i = a :: t) : rd_T38 xs (i : Int) = a ∧ i < xs.length ∧ xs.drop (i + 1) = t := rdOf_drop (d := z38) h
def entryFits (x : S38) : Prop := x.f0.size ≤ maxLen ∧ x.f1.f2.size ≤ maxLen ∧ x.f1.f3.length ≤ maxLen ∧ ∀ y ∈ x.f1.f3, y.size ≤ maxLen
def entryIn (x : S38) (left : Int) : Prop := (x.f0.size : Int) ≤ left ∧ (x.f1.f2.size : Int) ≤ left ∧ (x.f1.f3.length : Int) ≤ left ∧ ∀ y ∈ x.f1.f3, (y.size : Int) ≤ left
theorem entryIn.mono {x : S38} {a b : Int} (h : entryIn x a) (hab : a ≤ b) : entryIn x b := ⟨by have := h.1; omega, by have := h.2.1; omega, by have := h.2.2.1; omega, fun y hy => by have := h.2.2.2 y hy; omega⟩
theorem laws_szEntry_ev (x : S38) (hx : entryFits x) (left : Int) (g0 : 0 ≤ left) (g1 : left ≤ 1048576) :
    ∃ r, Ev (fun k => laws_szEntry.f k x.f0 x.f1.f0 x.f1.f1 x.f1.f2 x.f1.f3 left) r ∧ (0 ≤ r → r ≤ left ∧ entryIn x left) := by
  obtain ⟨h0, h1, h2, h3⟩ := hx
  have h0' := h0
  unfold maxLen at h0'
  unfold laws_szEntry.f
  rw [w64 (n := left - (x.f0.size : Int)) (by omega) (by omega)]
  by_cases c1 : left - (x.f0.size : Int) < 0
  · exact ⟨-1, Ev.pos c1 (Ev.now _), fun h => by omega⟩
  · obtain ⟨r, e, hr⟩ := laws_szVal_ev x.f1.f0 x.f1.f1 x.f1.f2 x.f1.f3 h1 h2 h3 (left - (x.f0.size : Int)) (by omega) (by omega)
    by_cases hr0 : r < 0
    · exact ⟨-1, Ev.neg c1 (Ev.bind e (Ev.pos hr0 (Ev.now _))), fun h => by omega⟩
    · refine ⟨r, Ev.neg c1 (Ev.bind e (Ev.neg hr0 (Ev.now _))), fun h => ?_⟩
      obtain ⟨q0, q1, q2, q3⟩ := hr h
      exact ⟨by omega, by omega, by omega, by omega, fun y hy => by have := q3 y hy; omega⟩
theorem laws_szEntryS_l0 (l : List S38) (hl : l.length ≤ 1048576) (hf : ∀ x ∈ l, entryFits x) : ∀ (t : List S38) (i : Nat) (left : Int), l.drop i = t → i ≤ l.length → 0 ≤ left → left ≤ 1048576 →
    ∃ r, Ev (fun k => laws_szEntryS.l0 k l left (i : Int)) r ∧ (0 ≤ r → r ≤ left ∧ ∀ x ∈ t, entryIn x left) := by
  intro t
  induction t with
  | nil =>
    intro i left ht hi g0 g1
    have := drop_nil_len ht
    exact ⟨left, Ev.step (f := fun _ => some left) (fun k => by rw [laws_szEntryS.l0, if_neg (by omega)]) (Ev.now _), fun _ => ⟨Int.le_refl _, fun x hx => by cases hx⟩⟩
  | cons a t ih =>
    intro i left ht hi g0 g1
    obtain ⟨h1, h2, h3⟩ := rd_T38_drop ht
    have ha : entryFits a := hf a (List.mem_of_mem_drop (by rw [ht]; exact List.mem_cons_self))
    obtain ⟨r, e, hr⟩ := laws_szEntry_ev a ha left g0 g1
    by_cases hr0 : r < 0
    · refine ⟨-1, Ev.succ ?_, fun h => by omega⟩
      simp only [laws_szEntryS.l0, h1]
      exact Ev.pos (by omega) (Ev.pos (by omega) (Ev.bind e (Ev.pos hr0 (Ev.now _))))
    · have hr := hr (by omega)
      obtain ⟨r2, e2, hr2⟩ := ih (i + 1) r h3 (by omega) (by omega) (by omega)
      refine ⟨r2, Ev.succ ?_, fun h => ⟨by have := (hr2 h).1; omega, fun x hx => ?_⟩⟩
      · simp only [laws_szEntryS.l0, h1, w64 (n := (i : Int) + 1) (by omega) (by omega)]
        exact Ev.pos (by omega) (Ev.pos (by omega) (Ev.bind e (Ev.neg hr0 e2)))
      · rcases List.mem_cons.1 hx with rfl | hx
        · exact hr.2
        · exact ((hr2 h).2 x hx).mono hr.1
theorem laws_szEntryS_ev (l : List S38) (hl : l.length ≤ maxLen) (hf : ∀ x ∈ l, entryFits x) (left : Int) (g0 : 0 ≤ left) (g1 : left ≤ 1048576) :
    ∃ r, Ev (fun k => laws_szEntryS.f k l left) r ∧ (0 ≤ r → r ≤ left ∧ (l.length : Int) ≤ left ∧ ∀ x ∈ l, entryIn x left) := by
  unfold maxLen at hl
  unfold laws_szEntryS.f
  rw [w64 (n := left - (l.length : Int)) (by omega) (by omega)]
  by_cases c1 : left - (l.length : Int) < 0
  · exact ⟨-1, Ev.pos c1 (Ev.now _), fun h => by omega⟩
  · obtain ⟨r, e, hr⟩ := laws_szEntryS_l0 l (by omega) hf l 0 (left - (l.length : Int)) rfl (Nat.zero_le _) (by omega) (by omega)
    exact ⟨r, Ev.neg c1 e, fun h => ⟨by have := (hr h).1; omega, by omega, fun x hx => ((hr h).2 x hx).mono (by omega)⟩⟩
def toE (x : S38) : S42 := ⟨x.f0, ⟨x.f1.f0, x.f1.f1, x.f1.f2, x.f1.f3⟩⟩
theorem laws_toEntry_ev (x : S38) (h : x.f1.f3.length ≤ 1048576) : Ev (fun k => laws_toEntry.f k x.f0 x.f1.f0 x.f1.f1 x.f1.f2 x.f1.f3) (x.f0, x.f1.f0, x.f1.f1, x.f1.f2, x.f1.f3) := by
  unfold laws_toEntry.f
  exact Ev.bind (laws_toVal_ev _ _ _ _ h) (Ev.now _)
theorem laws_toEntryS_l0 (l : List S38) (hl : l.length ≤ 1048576) (hf : ∀ x ∈ l, x.f1.f3.length ≤ 1048576) : ∀ (d i : Nat) (xs : List S42), xs.length = l.length → i + d = l.length → xs.take i = (l.take i).map toE → Ev (fun k => laws_toEntryS.l0 k l xs (i : Int)) (l.map toE) := by
  intro d
  induction d with
  | zero =>
    intro i xs hx hi ht
    refine Ev.step (f := fun _ => some xs) (fun k => by rw [laws_toEntryS.l0, if_neg (by omega)]) (Ev.ret ?_)
    rw [List.take_of_length_le (by omega), List.take_of_length_le (by omega)] at ht
    exact ht
  | succ d ih =>
    intro i xs hx hi ht
    have hr : rd_T38 l (i : Int) = l[i] := rdOf_get (d := z38) (by omega)
    refine Ev.succ ?_
    simp only [laws_toEntryS.l0, hr, w64 (n := (i : Int) + 1) (by omega) (by omega), Int.toNat_natCast]
    refine Ev.pos (by omega) (Ev.pos (by omega) (Ev.bind (laws_toEntry_ev _ (hf _ (List.getElem_mem _))) (Ev.pos (by omega) ?_)))
    refine ih (i + 1) (xs.set i (toE l[i])) (by rw [List.length_set]; exact hx) (by omega) ?_
    rw [take_set_snoc _ _ _ (by omega), ht, List.take_succ_eq_append_getElem (by omega), List.map_append, List.map_singleton]
theorem laws_toEntryS_ev (l : List S38) (hl : l.length ≤ 1048576) (hf : ∀ x ∈ l, x.f1.f3.length ≤ 1048576) : Ev (fun k => laws_toEntryS.f k l) (l.map toE) := by
  unfold laws_toEntryS.f
  exact Ev.pos (by omega) (Ev.pos (by omega) (laws_toEntryS_l0 l hl hf l.length 0 _ (by rw [List.length_replicate]; omega) (by omega) rfl))
theorem rd_T42_drop {xs : List S42} {i : Nat} {a : S42} {t : List S42} (h : xs.drop i = a :: t) : rd_T42 xs (i : Int) = a ∧ i < xs.length ∧ xs.drop (i + 1) = t := rdOf_drop (d := z42) h
theorem laws_eqEntry_self (x : S42) (h : x.f1.f3.length ≤ 1048576) : Ev (fun k => laws_eqEntry.f k x.f0 x.f1.f0 x.f1.f1 x.f1.f2 x.f1.f3 x.f0 x.f1.f0 x.f1.f1 x.f1.f2 x.f1.f3) true := by
  unfold laws_eqEntry.f
  exact Ev.pos rfl (Ev.bind (laws_eqVal_ev _ _ _ _ h) (Ev.pos rfl (Ev.now _)))
theorem laws_eqEntryS_l0 (l : List S42) (hl : l.length ≤ 1048576) (hf : ∀ x ∈ l, x.f1.f3.length ≤ 1048576) : ∀ (t : List S42) (i : Nat), l.drop i = t → i ≤ l.length → Ev (fun k => laws_eqEntryS.l0 k l l (i : Int)) true := by
  intro t
  induction t with
  | nil =>
    intro i ht hi
    have := drop_nil_len ht
    exact Ev.step (f := fun _ => some true) (fun k => by rw [laws_eqEntryS.l0, if_neg (by omega)]) (Ev.now _)
  | cons a t ih =>
    intro i ht hi
    obtain ⟨h1, h2, h3⟩ := rd_T42_drop ht
    have e := ih (i + 1) h3 (by omega)
    rw [show ((i + 1 : Nat) : Int) = (i : Int) + 1 from by omega] at e
    refine Ev.succ ?_
    simp only [laws_eqEntryS.l0, h1, w64 (n := (i : Int) + 1) (by omega) (by omega)]
    exact Ev.pos (by omega) (Ev.pos (by omega) (Ev.pos (by omega) (Ev.bind (laws_eqEntry_self a (hf a (List.mem_of_mem_drop (by rw [ht]; exact List.mem_cons_self)))) (Ev.pos rfl e))))
theorem laws_eqEntryS_ev (l : List S42) (hl : l.length ≤ 1048576) (hf : ∀ x ∈ l, x.f1.f3.length ≤ 1048576) : Ev (fun k => laws_eqEntryS.f k l l) true := by
  unfold laws_eqEntryS.f
  exact Ev.pos rfl (laws_eqEntryS_l0 l hl hf l 0 rfl (Nat.zero_le _))

/-- An entry of a right table, by itself; a table's entries behind the one ahead. -/
def entryOk (x : S42) : Bool := decide (1 ≤ (x.f0.size : Int) ∧ (x.f0.size : Int) ≤ 20) && valOk x.f1.f0 x.f1.f1 x.f1.f2 x.f1.f3
def entriesOk : Option S42 → List S42 → Bool
  | _, [] => true
  | none, x :: l => entryOk x && entriesOk (some x) l
  | some y, x :: l => entryOk x && Op.bytesLess y.f0.toList x.f0.toList && entriesOk (some x) l
def tableOk (l : List S42) : Bool := decide (l.length ≤ 20) && entriesOk none l
def ahead (l : List S42) (i : Nat) : Option S42 := if 0 < i then l[i - 1]? else none
theorem ahead_succ {l : List S42} {i : Nat} {a : S42} {t : List S42} (h : l.drop i = a :: t) : ahead l (i + 1) = some a := by
  unfold ahead
  rw [if_pos (by omega), Nat.add_sub_cancel]
  have := congrArg (fun z => z[0]?) h
  simpa using this
theorem rd_ahead {l : List S42} {i : Nat} (h : 0 < i) (hi : i ≤ l.length) : ahead l i = some (rd_T42 l ((i : Int) - 1)) := by
  unfold ahead
  rw [if_pos h]
  obtain ⟨j, rfl⟩ : ∃ j, i = j + 1 := ⟨i - 1, by omega⟩
  rw [Nat.add_sub_cancel, show ((j + 1 : Nat) : Int) - 1 = (j : Int) from by omega]
  have e : rd_T42 l (j : Int) = l[j] := rdOf_get (d := z42) (by omega)
  rw [e, List.getElem?_eq_getElem (by omega)]
theorem entries_bad {o : Option S42} {a : S42} {t : List S42} (h : entryOk a = false) : entriesOk o (a :: t) = false := by cases o <;> simp [entriesOk, h]
theorem spec_TableOk_l0 (l : List S42) (hl : l.length ≤ 1048576) (hf : ∀ x ∈ l, x.f1.f3.length ≤ 1048576) : ∀ (t : List S42) (i : Nat), l.drop i = t → i ≤ l.length → Ev (fun k => spec_TableOk.l0 k l (i : Int)) (entriesOk (ahead l i) t) := by
  intro t
  induction t with
  | nil =>
    intro i ht hi
    have := drop_nil_len ht
    refine Ev.step (f := fun _ => some true) (fun k => by rw [spec_TableOk.l0, if_neg (by omega)]) (Ev.ret ?_)
    cases ahead l i <;> rfl
  | cons a t ih =>
    intro i ht hi
    obtain ⟨h1, h2, h3⟩ := rd_T42_drop ht
    have hfa := hf a (List.mem_of_mem_drop (by rw [ht]; exact List.mem_cons_self))
    have e := ih (i + 1) h3 (by omega)
    rw [ahead_succ ht, show ((i + 1 : Nat) : Int) = (i : Int) + 1 from by omega] at e
    refine Ev.succ ?_
    simp only [spec_TableOk.l0, h1, w64 (n := (i : Int) + 1) (by omega) (by omega), w64 (n := (i : Int) - 1) (by omega) (by omega)]
    refine Ev.pos (by omega) (Ev.pos (by omega) (Ev.bind0 (spec_l01In_eq _ _ _) ?_))
    by_cases c1 : 1 ≤ (a.f0.size : Int) ∧ (a.f0.size : Int) ≤ 20
    · refine Ev.pos (decide_eq_true c1) ?_
      have eok : entryOk a = valOk a.f1.f0 a.f1.f1 a.f1.f2 a.f1.f3 := by unfold entryOk; rw [decide_eq_true c1, Bool.true_and]
      have hv : ∀ r : Bool, (valOk a.f1.f0 a.f1.f1 a.f1.f2 a.f1.f3 = true → r = entriesOk (some a) t) → (valOk a.f1.f0 a.f1.f1 a.f1.f2 a.f1.f3 = false → r = false) →
          Ev (fun k => (spec_ValOk.f k a.f1.f0 a.f1.f1 a.f1.f2 a.f1.f3).bind fun t126 => (if t126 = true then (spec_TableOk.l0 k l ((i : Int) + 1)) else (some false))) r := fun r r1 r2 => by
        refine Ev.bind (spec_ValOk_ev _ _ _ _ hfa) ?_
        cases hb : valOk a.f1.f0 a.f1.f1 a.f1.f2 a.f1.f3 with
        | true => rw [r1 hb]; exact Ev.pos rfl e
        | false => rw [r2 hb]; exact Ev.neg (by decide) (Ev.now _)
      by_cases c4 : 0 < i
      · refine Ev.pos (by omega) (Ev.pos (by omega) (Ev.pos (by omega) ?_))
        rw [rd_ahead c4 hi]
        simp only [entriesOk, eok]
        cases hb : Op.bytesLess (rd_T42 l ((i : Int) - 1)).f0.toList a.f0.toList with
        | true => exact Ev.pos (by trivial) (hv _ (fun h => by rw [h]; rfl) (fun h => by rw [h]; rfl))
        | false => exact Ev.neg (by simp) (Ev.ret (by simp))
      · refine Ev.neg (by omega) ?_
        rw [show ahead l i = none from if_neg c4]
        simp only [entriesOk, eok]
        exact hv _ (fun h => by rw [h]; rfl) (fun h => by rw [h]; rfl)
    · exact Ev.neg (by simpa using c1) (Ev.ret (entries_bad (by unfold entryOk; rw [decide_eq_false c1]; rfl)).symm)
theorem spec_TableOk_ev (l : List S42) (hl : l.length ≤ 1048576) (hf : ∀ x ∈ l, x.f1.f3.length ≤ 1048576) : Ev (fun k => spec_TableOk.f k l) (tableOk l) := by
  unfold spec_TableOk.f tableOk
  by_cases h : (l.length : Int) > 20
  · exact Ev.pos h (Ev.ret (by rw [decide_eq_false (by omega)]; rfl))
  · refine Ev.neg h ?_
    rw [show decide (l.length ≤ 20) = true from decide_eq_true (by omega), Bool.true_and]
    exact spec_TableOk_l0 l hl hf l 0 rfl (Nat.zero_le _)

theorem impl_keyOk_eq (s : ByteArray) : impl_keyOk.f s = some (decide (1 ≤ (s.size : Int) ∧ (s.size : Int) ≤ 20)) := by
  unfold impl_keyOk.f
  rw [impl_within_eq, Option.bind_some]
theorem impl_TableOk_l0 (l : List S42) (hl : l.length ≤ 1048576) (hf : ∀ x ∈ l, x.f1.f3.length ≤ 1048576) : ∀ (t : List S42) (i : Nat), l.drop i = t → i ≤ l.length → Ev (fun k => impl_TableOk.l0 k l l (l.length : Int) (i : Int)) (decide (l.length ≤ 20) && entriesOk (ahead l i) t) := by
  intro t
  induction t with
  | nil =>
    intro i ht hi
    have := drop_nil_len ht
    refine Ev.step (f := fun _ => some (decide ((l.length : Int) ≤ 20))) (fun k => by rw [impl_TableOk.l0, if_neg (by omega)]) (Ev.ret ?_)
    have e : entriesOk (ahead l i) [] = true := by cases ahead l i <;> rfl
    rw [e, Bool.and_true]
    exact decide_eq_decide.2 (by omega)
  | cons a t ih =>
    intro i ht hi
    obtain ⟨h1, h2, h3⟩ := rd_T42_drop ht
    have hfa := hf a (List.mem_of_mem_drop (by rw [ht]; exact List.mem_cons_self))
    have e := ih (i + 1) h3 (by omega)
    rw [ahead_succ ht, show ((i + 1 : Nat) : Int) = (i : Int) + 1 from by omega] at e
    refine Ev.succ ?_
    simp only [impl_TableOk.l0, h1, w64 (n := (i : Int) + 1) (by omega) (by omega), w64 (n := (i : Int) - 1) (by omega) (by omega)]
    refine Ev.pos (by omega) (Ev.pos (by omega) (Ev.pos (by omega) (Ev.bind0 (impl_keyOk_eq _) ?_)))
    by_cases c1 : 1 ≤ (a.f0.size : Int) ∧ (a.f0.size : Int) ≤ 20
    · refine Ev.pos (decide_eq_true c1) (Ev.bind (impl_ValOk_ev _ _ _ _ hfa) ?_)
      have eok : entryOk a = valOk a.f1.f0 a.f1.f1 a.f1.f2 a.f1.f3 := by unfold entryOk; rw [decide_eq_true c1, Bool.true_and]
      cases hv : valOk a.f1.f0 a.f1.f1 a.f1.f2 a.f1.f3 with
      | false => exact Ev.neg (by decide) (Ev.ret (by rw [entries_bad (eok.trans hv), Bool.and_false]))
      | true =>
        refine Ev.pos (by trivial) ?_
        by_cases c4 : 0 < i
        · refine Ev.pos (by omega) (Ev.pos (by omega) (Ev.pos (by omega) ?_))
          rw [rd_ahead c4 hi]
          simp only [entriesOk, eok, hv, Bool.true_and]
          cases hb : Op.bytesLess (rd_T42 l ((i : Int) - 1)).f0.toList a.f0.toList with
          | true => exact Ev.pos (by trivial) (by simpa using e)
          | false => exact Ev.neg (by simp) (Ev.ret (by simp))
        · refine Ev.neg (by omega) ?_
          rw [show ahead l i = none from if_neg c4]
          simp only [entriesOk, eok, hv, Bool.true_and]
          exact e
    · exact Ev.neg (by simpa using c1) (Ev.ret (by rw [entries_bad (show entryOk a = false from by unfold entryOk; rw [decide_eq_false c1]; rfl), Bool.and_false]))
theorem impl_TableOk_ev (l : List S42) (hl : l.length ≤ 1048576) (hf : ∀ x ∈ l, x.f1.f3.length ≤ 1048576) : Ev (fun k => impl_TableOk.f k l) (tableOk l) := by
  unfold impl_TableOk.f tableOk
  exact impl_TableOk_l0 l hl hf l 0 rfl (Nat.zero_le _)

theorem spec_l01Var_l0 : ∀ (n : Nat) (acc : List Int), acc.length + n < 140737488355327 → Ev (fun k => spec_l01Var.l0 k (n : Int) acc) (strOfNums (acc ++ vl n)) := by
  intro n
  induction n using Nat.strongRecOn with
  | _ n ih =>
    intro acc h
    by_cases hn : n > 127
    · refine Ev.step (f := fun k => spec_l01Var.l0 k ((n / 128 : Nat) : Int) (acc ++ [((n % 128 + 128 : Nat) : Int)])) (fun k => ?_) ?_
      · rw [spec_l01Var.l0, if_pos (by omega), if_pos (by omega), quo128 (by omega), rem128]
      · have e := ih (n / 128) (by omega) (acc ++ [((n % 128 + 128 : Nat) : Int)]) (by rw [List.length_append, List.length_singleton]; omega)
        rw [vl_big hn]
        rwa [List.append_assoc] at e
    · refine Ev.step (f := fun _ => some (strOfNums (acc ++ vl n))) (fun k => ?_) (Ev.now _)
      rw [spec_l01Var.l0, if_neg (by omega), if_pos (by omega), vl_small hn, show (n : Int) % 256 = (n : Int) from by omega]
theorem spec_l01Var_ev {a : Int} (h : 0 ≤ a) (h' : a < 140737488355327) : Ev (fun k => spec_l01Var.f k a) (strOfNums (vl a.toNat)) := by
  obtain ⟨n, rfl⟩ := Int.eq_ofNat_of_zero_le h
  exact spec_l01Var_l0 n [] (by simp; omega)

theorem impl_VarText_l0 : ∀ (n : Nat) (acc : List Int), acc.length + n < 140737488355327 → Ev (fun k => impl_VarText.l0 k (n : Int) acc) (strOfNums (acc ++ vl n), true) := by
  intro n
  induction n using Nat.strongRecOn with
  | _ n ih =>
    intro acc h
    by_cases hn : n > 127
    · refine Ev.step (f := fun k => impl_VarText.l0 k ((n / 128 : Nat) : Int) (acc ++ [((n % 128 + 128 : Nat) : Int)])) (fun k => ?_) ?_
      · rw [impl_VarText.l0, if_pos (by omega), if_pos (by omega), quo128 (by omega), rem128]
      · have e := ih (n / 128) (by omega) (acc ++ [((n % 128 + 128 : Nat) : Int)]) (by rw [List.length_append, List.length_singleton]; omega)
        rw [vl_big hn]
        rwa [List.append_assoc] at e
    · refine Ev.step (f := fun _ => some (strOfNums (acc ++ vl n), true)) (fun k => ?_) (Ev.now _)
      rw [impl_VarText.l0, if_neg (by omega), if_pos (by omega), vl_small hn, show (n : Int) % 256 = (n : Int) from by omega]
theorem impl_VarText_ev (a : Int) : Ev (fun k => impl_VarText.f k a) (varText a) := by
  unfold impl_VarText.f
  refine Ev.bind0 (impl_within_eq _ _ _) ?_
  by_cases h : 0 ≤ a ∧ a ≤ 1000000000
  · refine Ev.pos (by simpa using h) ?_
    rw [varText_yes h.1 h.2]
    obtain ⟨n, rfl⟩ := Int.eq_ofNat_of_zero_le h.1
    exact impl_VarText_l0 n [] (by simp; omega)
  · refine Ev.neg (by simpa using h) (Ev.ret (varText_no h).symm)

theorem impl_ShortText_ev (s : ByteArray) : Ev (fun k => impl_ShortText.f k s) (shortText s) := by
  unfold impl_ShortText.f shortText
  by_cases h : s.size > 20000
  · rw [if_pos h]
    exact Ev.pos (by omega) (Ev.now _)
  · rw [if_neg h]
    have hv := vl_len 3 s.size (by omega) (by omega)
    refine Ev.neg (by omega) (Ev.bind (impl_VarText_ev _) ?_)
    rw [varText_yes (by omega) (by omega), Int.toNat_natCast]
    exact Ev.pos (by rw [strOfNums_size]; omega) (Ev.now _)

def shortB (s : ByteArray) : ByteArray := strOfNums (vl s.size) ++ s
theorem shortB_size (s : ByteArray) : (shortB s).size = (vl s.size).length + s.size := by rw [shortB, app_size, strOfNums_size]
theorem short_len {s : ByteArray} (h : s.size ≤ 1048576) : (vl s.size).length ≤ 3 := vl_len 3 s.size (by omega) (by omega)
theorem spec_l05Short_ev (s : ByteArray) (h : s.size ≤ 1048576) : Ev (fun k => spec_l05Short.f k s) (shortB s) := by
  unfold spec_l05Short.f
  refine Ev.bind (spec_l01Var_ev (by omega) (by omega)) ?_
  rw [Int.toNat_natCast]
  have := short_len h
  exact Ev.pos (by rw [strOfNums_size]; omega) (Ev.now _)
theorem impl_short_ev (s : ByteArray) (h : s.size ≤ 20000) : Ev (fun k => impl_short.f k s) (shortB s) := by
  unfold impl_short.f
  refine Ev.bind (impl_ShortText_ev s) (Ev.ret ?_)
  rw [shortText, if_neg (by omega)]
  rfl

def addShorts (acc : ByteArray) (l : List ByteArray) : ByteArray := l.foldl (fun a x => a ++ shortB x) acc
def valHead (kind until' : Int) (s : ByteArray) (l : List ByteArray) : ByteArray := strOfNums [kind % 256] ++ strOfNums (vl until'.toNat) ++ shortB s ++ strOfNums (vl l.length)
def valText (kind until' : Int) (s : ByteArray) (l : List ByteArray) : ByteArray × Bool := if valOk kind until' s l = true then (addShorts (valHead kind until' s l) l, true) else noText
theorem items_small (l : List ByteArray) (step : Nat) : ∀ (t : List ByteArray) (i : Nat), itemsOkFrom l step i t = true → ∀ x ∈ t, x.size ≤ 60 := by
  intro t
  induction t with
  | nil => intro i _ x hx; cases hx
  | cons a t ih =>
    intro i h x hx
    rw [itemsOkFrom, Bool.and_eq_true] at h
    rcases List.mem_cons.1 hx with rfl | hx
    · apply Classical.byContradiction
      intro hn
      rw [item_big (by omega)] at h
      exact absurd h.1 (by decide)
    · exact ih (i + 1) h.2 x hx
theorem valOk_facts {kind until' : Int} {s : ByteArray} {l : List ByteArray} (h : valOk kind until' s l = true) : 1 ≤ kind ∧ kind ≤ 4 ∧ 0 ≤ until' ∧ until' ≤ 100000 ∧ s.size ≤ 60 ∧ l.length ≤ 24 ∧ ∀ x ∈ l, x.size ≤ 60 := by
  unfold valOk at h
  rw [Bool.and_eq_true, Bool.and_eq_true, decide_eq_true_eq, decide_eq_true_eq] at h
  obtain ⟨⟨h1, h2⟩, h3⟩ := h
  by_cases hk : kind = 1
  · rw [if_pos hk, Bool.and_eq_true, decide_eq_true_eq, decide_eq_true_eq] at h3
    have hl : l = [] := List.length_eq_zero_iff.1 h3.2
    exact ⟨h1.1, h1.2, h2.1, h2.2, by omega, by omega, fun x hx => by rw [hl] at hx; cases hx⟩
  · rw [if_neg hk, Bool.and_eq_true, Bool.and_eq_true, Bool.and_eq_true, decide_eq_true_eq, decide_eq_true_eq] at h3
    obtain ⟨⟨⟨h4, h5⟩, _⟩, h6⟩ := h3
    have hs : s.size = 0 := by rw [← size_len, ← Lib.toList_data, h4]; rfl
    exact ⟨h1.1, h1.2, h2.1, h2.2, by omega, by omega, items_small l _ l 0 h6⟩

theorem spec_ValText_l0 (a b : Int) (s : ByteArray) (l : List ByteArray) (hl : l.length ≤ 24) (hf : ∀ x ∈ l, x.size ≤ 60) : ∀ (t : List ByteArray) (i : Nat) (acc : ByteArray), l.drop i = t → i ≤ l.length → acc.size ≤ 1000 + 64 * i →
    Ev (fun k => spec_ValText.l0 k acc (i : Int) a b s l) (addShorts acc t, true) := by
  intro t
  induction t with
  | nil =>
    intro i acc ht hi hz
    have := drop_nil_len ht
    exact Ev.step (f := fun _ => some (acc, true)) (fun k => by rw [spec_ValText.l0, if_neg (by omega)]) (Ev.now _)
  | cons x t ih =>
    intro i acc ht hi hz
    obtain ⟨h1, h2, h3⟩ := rdOf_drop (d := ByteArray.empty) ht
    have hx := hf x (List.mem_of_mem_drop (by rw [ht]; exact List.mem_cons_self))
    have hv := vl_len 1 x.size (by omega) (by omega)
    have e := ih (i + 1) (acc ++ shortB x) h3 (by omega) (by rw [app_size, shortB_size]; omega)
    rw [show ((i + 1 : Nat) : Int) = (i : Int) + 1 from by omega] at e
    refine Ev.succ ?_
    simp only [spec_ValText.l0, h1, w64 (n := (i : Int) + 1) (by omega) (by omega)]
    exact Ev.pos (by omega) (Ev.pos (by omega) (Ev.bind (spec_l05Short_ev x (by omega)) (Ev.pos (by rw [shortB_size]; omega) e)))
theorem spec_ValText_ev (kind until' : Int) (s : ByteArray) (l : List ByteArray) (hl : l.length ≤ 1048576) : Ev (fun k => spec_ValText.f k kind until' s l) (valText kind until' s l) := by
  unfold spec_ValText.f valText
  refine Ev.bind (spec_ValOk_ev kind until' s l hl) ?_
  cases hv : valOk kind until' s l with
  | false => exact Ev.neg (by decide) (Ev.tneg (by decide) (Ev.now _))
  | true =>
    obtain ⟨f1, f2, f3, f4, f5, f6, f7⟩ := valOk_facts hv
    have v1 := vl_len 3 until'.toNat (by omega) (by omega)
    have v2 := vl_len 1 s.size (by omega) (by omega)
    have v3 := vl_len 1 l.length (by omega) (by omega)
    refine Ev.pos (by trivial) (Ev.tpos (by trivial) (Ev.bind0 rfl (Ev.bind (spec_l01Var_ev f3 (by omega)) ?_)))
    refine Ev.pos (by rw [strOfNums_size, strOfNums_size, List.length_singleton]; omega) (Ev.bind (spec_l05Short_ev s (by omega)) ?_)
    refine Ev.pos (by rw [app_size, shortB_size, strOfNums_size, strOfNums_size, List.length_singleton]; omega) (Ev.bind (spec_l01Var_ev (by omega) (by omega)) ?_)
    rw [Int.toNat_natCast]
    refine Ev.pos (by rw [app_size, app_size, shortB_size, strOfNums_size, strOfNums_size, strOfNums_size, List.length_singleton]; omega) ?_
    exact spec_ValText_l0 kind until' s l f6 f7 l 0 _ rfl (Nat.zero_le _) (by rw [app_size, app_size, app_size, shortB_size, strOfNums_size, strOfNums_size, strOfNums_size, List.length_singleton]; omega)

theorem impl_ValText_l0 (l : List ByteArray) (hl : l.length ≤ 24) (hf : ∀ x ∈ l, x.size ≤ 60) : ∀ (t : List ByteArray) (i : Nat) (acc : ByteArray), l.drop i = t → i ≤ l.length → acc.size ≤ 1000 + 64 * i →
    Ev (fun k => impl_ValText.l0 k acc l (l.length : Int) (i : Int)) (addShorts acc t, true) := by
  intro t
  induction t with
  | nil =>
    intro i acc ht hi hz
    have := drop_nil_len ht
    exact Ev.step (f := fun _ => some (acc, true)) (fun k => by rw [impl_ValText.l0, if_neg (by omega)]) (Ev.now _)
  | cons x t ih =>
    intro i acc ht hi hz
    obtain ⟨h1, h2, h3⟩ := rdOf_drop (d := ByteArray.empty) ht
    have hx := hf x (List.mem_of_mem_drop (by rw [ht]; exact List.mem_cons_self))
    have hv := vl_len 1 x.size (by omega) (by omega)
    have e := ih (i + 1) (acc ++ shortB x) h3 (by omega) (by rw [app_size, shortB_size]; omega)
    rw [show ((i + 1 : Nat) : Int) = (i : Int) + 1 from by omega] at e
    refine Ev.succ ?_
    simp only [impl_ValText.l0, h1, w64 (n := (i : Int) + 1) (by omega) (by omega)]
    exact Ev.pos (by omega) (Ev.pos (by omega) (Ev.pos (by omega) (Ev.bind (impl_short_ev x (by omega)) (Ev.pos (by rw [shortB_size]; omega) e))))
theorem impl_ValText_ev (kind until' : Int) (s : ByteArray) (l : List ByteArray) (hl : l.length ≤ 1048576) : Ev (fun k => impl_ValText.f k kind until' s l) (valText kind until' s l) := by
  unfold impl_ValText.f valText
  refine Ev.bind (impl_ValOk_ev kind until' s l hl) ?_
  cases hv : valOk kind until' s l with
  | false => exact Ev.neg (by decide) (Ev.tneg (by decide) (Ev.now _))
  | true =>
    obtain ⟨f1, f2, f3, f4, f5, f6, f7⟩ := valOk_facts hv
    have v1 := vl_len 3 until'.toNat (by omega) (by omega)
    have v2 := vl_len 1 s.size (by omega) (by omega)
    have v3 := vl_len 1 l.length (by omega) (by omega)
    refine Ev.pos (by trivial) (Ev.tpos (by trivial) (Ev.bind (impl_VarText_ev _) (Ev.bind (impl_VarText_ev _) (Ev.bind0 rfl ?_))))
    rw [varText_yes f3 (by omega), varText_yes (by omega) (by omega), Int.toNat_natCast]
    refine Ev.pos (by rw [strOfNums_size, strOfNums_size, List.length_singleton]; omega) (Ev.bind (impl_short_ev s (by omega)) ?_)
    refine Ev.pos (by rw [app_size, shortB_size, strOfNums_size, strOfNums_size, List.length_singleton]; omega) ?_
    refine Ev.pos (by rw [app_size, app_size, shortB_size, strOfNums_size, strOfNums_size, strOfNums_size, List.length_singleton]; omega) ?_
    exact impl_ValText_l0 l f6 f7 l 0 _ rfl (Nat.zero_le _) (by rw [app_size, app_size, app_size, shortB_size, strOfNums_size, strOfNums_size, strOfNums_size, List.length_singleton]; omega)

theorem laws_markText_l0 : ∀ (n : Nat) (acc : ByteArray), acc.size + n < 4611686018427387904 → Ev (fun k => laws_markText.l0 k (n : Int) acc) (mtl n acc) := by
  intro n
  induction n using Nat.strongRecOn with
  | _ n ih =>
    intro acc h
    by_cases hn : 0 < n
    · rw [mtl_pos hn]
      refine Ev.succ ?_
      simp only [laws_markText.l0]
      rw [tmodp (by omega), tdivp (by omega), w64 (n := 48 + (n : Int) % 10) (by omega) (by omega), w64 (n := (n : Int) / 10) (by omega) (by omega), show (48 + (n : Int) % 10) % 256 = ((48 + n % 10 : Nat) : Int) from by omega, show (n : Int) / 10 = ((n / 10 : Nat) : Int) from by omega]
      refine Ev.pos (by omega) (Ev.bind0 rfl (Ev.pos (by rw [strOfNums_size, List.length_singleton]; omega) ?_))
      exact ih (n / 10) (by omega) _ (by rw [app_size, strOfNums_size, List.length_singleton]; omega)
    · obtain rfl : n = 0 := by omega
      rw [mtl_zero]
      exact Ev.step (f := fun _ => some ((⟨#[109]⟩ : ByteArray) ++ acc)) (fun k => by rw [laws_markText.l0, if_neg (by omega), if_pos (by omega)]) (Ev.now _)
theorem laws_markText_ev {n : Nat} (h : 0 < n) (h' : n < 4611686018427387904) : Ev (fun k => laws_markText.f k (n : Int)) (mt n) := by
  unfold laws_markText.f
  exact Ev.neg (by omega) (laws_markText_l0 n _ (by rw [show (⟨#[]⟩ : ByteArray).size = 0 from rfl]; omega))

theorem laws_markStringS_l0 : ∀ (d i a : Nat) (xs : List ByteArray), xs.length = i + d → xs.length < 140737488355328 → 0 < a → a + d < 4611686018427387904 → Ev (fun k => laws_markStringS.l0 k xs (a : Int) (i : Int)) (((a + d : Nat) : Int), xs.take i ++ marksFrom a d) := by
  intro d
  induction d with
  | zero =>
    intro i a xs hx hb ha hz
    refine Ev.step (f := fun _ => some ((a : Int), xs)) (fun k => by rw [laws_markStringS.l0, if_neg (by omega)]) (Ev.ret ?_)
    rw [List.take_of_length_le (by omega), marksFrom, List.append_nil, Nat.add_zero]
  | succ d ih =>
    intro i a xs hx hb ha hz
    refine Ev.succ ?_
    simp only [laws_markStringS.l0, w64 (n := (i : Int) + 1) (by omega) (by omega), w64 (n := (a : Int) + 1) (by omega) (by omega), Int.toNat_natCast]
    refine Ev.pos (by omega) (Ev.bind (laws_markText_ev ha (by omega)) (Ev.pos (by omega) ?_))
    have e := ih (i + 1) (a + 1) (xs.set i (mt a)) (by rw [List.length_set]; omega) (by rw [List.length_set]; omega) (by omega) (by omega)
    rw [take_set_snoc _ _ _ (by omega), List.append_assoc, show a + 1 + d = a + (d + 1) from by omega] at e
    exact e
theorem laws_markStringS_ev (xs : List ByteArray) (hb : xs.length < 140737488355328) : Ev (fun k => laws_markStringS.f k xs 1) (((1 + xs.length : Nat) : Int), marksFrom 1 xs.length) :=
  laws_markStringS_l0 xs.length 0 1 xs (by omega) hb (by omega) (by omega)

/-- Two that come to an answer come to both with the same rounds. -/
theorem Ev.all2 {α β : Type} {f : Nat → Option α} {g : Nat → Option β} {a : α} {b : β} (h : Ev f a) (k : Ev g b) : Ev (fun n => (f n).bind fun x => (g n).bind fun y => some (x, y)) (a, b) := Ev.bind h (Ev.bind k (Ev.now _))
theorem all2_some {α β : Type} {f : Option α} {g : Option β} {a : α} {b : β} (h : (f.bind fun x => g.bind fun y => some (x, y)) = some (a, b)) : f = some a ∧ g = some b := by
  cases f with
  | none => cases h
  | some x =>
    cases g with
    | none => cases h
    | some y =>
      simp only [Option.bind_some, Option.some.injEq, Prod.mk.injEq] at h
      obtain ⟨rfl, rfl⟩ := h
      exact ⟨rfl, rfl⟩

def markE : List S42 → Nat → List S42
  | [], _ => []
  | x :: t, a => ⟨mt a, ⟨((a + 1 : Nat) : Int), ((a + 2 : Nat) : Int), mt (a + 3), marksFrom (a + 4) x.f1.f3.length⟩⟩ :: markE t (a + 4 + x.f1.f3.length)
def endE : List S42 → Nat → Nat
  | [], a => a
  | x :: t, a => endE t (a + 4 + x.f1.f3.length)
theorem markE_length : ∀ (l : List S42) (a : Nat), (markE l a).length = l.length
  | [], _ => rfl
  | x :: t, a => by rw [markE, List.length_cons, List.length_cons, markE_length t]
theorem endE_le : ∀ (l : List S42) (a : Nat), (∀ x ∈ l, x.f1.f3.length ≤ 1048576) → a ≤ endE l a ∧ endE l a ≤ a + l.length * 1048580
  | [], a, _ => ⟨Nat.le_refl _, Nat.le_add_right _ _⟩
  | x :: t, a, h => by
    obtain ⟨h1, h2⟩ := endE_le t (a + 4 + x.f1.f3.length) (fun y hy => h y (List.mem_cons_of_mem _ hy))
    have := h x List.mem_cons_self
    rw [endE, List.length_cons]
    omega
theorem laws_markStringS_at (xs : List ByteArray) (a : Nat) (h : xs.length ≤ 1048576) (ha : 0 < a) (hz : a < 4611686010000000000) : Ev (fun k => laws_markStringS.f k xs (a : Int)) (((a + xs.length : Nat) : Int), marksFrom a xs.length) :=
  laws_markStringS_l0 xs.length 0 a xs (by omega) (by omega) ha (by omega)
theorem laws_markEntryS_l0 : ∀ (t : List S42) (i a : Nat) (xs : List S42), xs.drop i = t → i ≤ xs.length → xs.length ≤ 1048576 → (∀ x ∈ t, x.f1.f3.length ≤ 1048576) → 0 < a → a + t.length * 1048580 < 4611686000000000000 →
    Ev (fun k => laws_markEntryS.l0 k xs (a : Int) (i : Int)) ((endE t a : Int), xs.take i ++ markE t a) := by
  intro t
  induction t with
  | nil =>
    intro i a xs ht hi hx hf ha hz
    have := drop_nil_len ht
    refine Ev.step (f := fun _ => some ((a : Int), xs)) (fun k => by rw [laws_markEntryS.l0, if_neg (by omega)]) (Ev.ret ?_)
    rw [List.take_of_length_le (by omega), markE, List.append_nil, endE]
  | cons x t ih =>
    intro i a xs ht hi hx hf ha hz
    obtain ⟨h1, h2, h3⟩ := rd_T42_drop ht
    have hfx := hf x List.mem_cons_self
    rw [List.length_cons] at hz
    have e0 : wrap64 ((a : Int) + 1) = ((a + 1 : Nat) : Int) := by rw [w64 (by omega) (by omega)]; omega
    have e1 : wrap64 (((a + 1 : Nat) : Int) + 1) = ((a + 2 : Nat) : Int) := by rw [w64 (by omega) (by omega)]; omega
    have e2 : wrap64 (((a + 2 : Nat) : Int) + 1) = ((a + 3 : Nat) : Int) := by rw [w64 (by omega) (by omega)]; omega
    have e3 : wrap64 (((a + 3 : Nat) : Int) + 1) = ((a + 4 : Nat) : Int) := by rw [w64 (by omega) (by omega)]; omega
    refine Ev.succ ?_
    simp only [laws_markEntryS.l0, h1, e0, e1, e2, e3, w64 (n := (i : Int) + 1) (by omega) (by omega), Int.toNat_natCast]
    refine Ev.pos (by omega) (Ev.pos (by omega) (Ev.bind (laws_markText_ev ha (by omega)) (Ev.bind (laws_markText_ev (n := a + 3) (by omega) (by omega)) (Ev.bind (laws_markStringS_at x.f1.f3 (a + 4) hfx (by omega) (by omega)) ?_))))
    have hl : (xs.set i (⟨mt a, ⟨((a + 1 : Nat) : Int), ((a + 2 : Nat) : Int), mt (a + 3), marksFrom (a + 4) x.f1.f3.length⟩⟩ : S42)).length = xs.length := List.length_set ..
    have e := ih (i + 1) (a + 4 + x.f1.f3.length) (xs.set i (⟨mt a, ⟨((a + 1 : Nat) : Int), ((a + 2 : Nat) : Int), mt (a + 3), marksFrom (a + 4) x.f1.f3.length⟩⟩ : S42)) (by rw [List.drop_set_of_lt (by omega)]; exact h3) (by omega) (by omega) (fun y hy => hf y (List.mem_cons_of_mem _ hy)) (by omega) (by omega)
    rw [take_set_snoc _ _ _ (by omega), List.append_assoc] at e
    exact e
theorem laws_markEntryS_ev (xs : List S42) (hx : xs.length ≤ 1048576) (hf : ∀ x ∈ xs, x.f1.f3.length ≤ 1048576) : Ev (fun k => laws_markEntryS.f k xs 1) ((endE xs 1 : Int), markE xs 1) :=
  laws_markEntryS_l0 xs 0 1 xs rfl (Nat.zero_le _) hx hf (by omega) (by omega)

def findE (l : List S42) (key : ByteArray) : Option S42 := l.find? (fun x => decide (x.f0.toList = key.toList))
def findVal (l : List S42) (key : ByteArray) : Int × Int × ByteArray × List ByteArray × Bool :=
  match findE l key with
  | some x => (x.f1.f0, x.f1.f1, x.f1.f2, x.f1.f3, true)
  | none => (0, 0, (⟨#[]⟩ : ByteArray), [], false)
theorem findVal_items {l : List S42} {key : ByteArray} (hf : ∀ x ∈ l, x.f1.f3.length ≤ 1048576) : (findVal l key).2.2.2.1.length ≤ 1048576 := by
  unfold findVal
  cases h : findE l key with
  | some x => exact hf x (List.mem_of_find?_eq_some h)
  | none => exact Nat.zero_le _

theorem idxFrom_find {α : Type} (p : α → Bool) : ∀ (l : List α) (i : Nat), (l.find? p = none ∧ idxFrom p l i = -1) ∨ ∃ j x, l.find? p = some x ∧ idxFrom p l i = ((i + j : Nat) : Int) ∧ l[j]? = some x
  | [], i => .inl ⟨rfl, rfl⟩
  | x :: t, i => by
    rw [idxFrom, List.find?_cons]
    cases h : p x with
    | true => exact .inr ⟨0, x, rfl, by rw [if_pos rfl]; rfl, rfl⟩
    | false =>
      rw [if_neg (by decide)]
      rcases idxFrom_find p t (i + 1) with ⟨h1, h2⟩ | ⟨j, y, h1, h2, h3⟩
      · exact .inl ⟨h1, by rw [← h2]; congr 1⟩
      · exact .inr ⟨j + 1, y, h1, by rw [show i + (j + 1) = i + 1 + j by omega, ← h2]; congr 1, by simpa using h3⟩
theorem impl_Find_eq (l : List S42) (key : ByteArray) (hf : ∀ x ∈ l, x.f1.f3.length ≤ 1048576) : impl_Find.f l key = some (findVal l key) := by
  unfold impl_Find.f findVal findE
  rcases idxFrom_find (fun x : S42 => decide (x.f0.toList = key.toList)) l 0 with ⟨h1, h2⟩ | ⟨j, x, h1, h2, h3⟩
  · rw [show ((0 : Nat) : Int) = (0 : Int) from rfl] at h2
    rw [h1, h2, if_pos (by omega)]
  · rw [show ((0 : Nat) : Int) = (0 : Int) from rfl, Nat.zero_add] at h2
    have hx := hf x (List.mem_of_getElem? h3)
    have hr : rd_T42 l (j : Int) = x := by
      obtain ⟨hj, e⟩ := List.getElem?_eq_some_iff.1 h3
      exact (rdOf_get (d := z42) hj).trans e
    rw [h1, h2, if_neg (by omega), hr]
    unfold impl_copyVal.f
    rw [if_pos (by simp; omega)]
    rfl

theorem less_trans : ∀ (x y z : List UInt8), Op.bytesLess x y = true → Op.bytesLess y z = true → Op.bytesLess x z = true
  | _, _, [], _, h => by simp [Op.bytesLess] at h
  | _, [], _ :: _, h, _ => by simp [Op.bytesLess] at h
  | [], _ :: _, _ :: _, _, _ => rfl
  | a :: x, b :: y, c :: z, h, k => by
    simp only [Op.bytesLess, Bool.or_eq_true, Bool.and_eq_true, decide_eq_true_eq, beq_iff_eq] at h k ⊢
    rcases h with h | ⟨h, h'⟩
    · rcases k with k | ⟨k, k'⟩
      · exact .inl (UInt8.lt_trans h k)
      · exact .inl (k ▸ h)
    · rcases k with k | ⟨k, k'⟩
      · exact .inl (h ▸ k)
      · exact .inr ⟨h.trans k, less_trans x y z h' k'⟩
theorem less_irrefl : ∀ (x : List UInt8), ¬ Op.bytesLess x x = true
  | [] => by simp [Op.bytesLess]
  | a :: x => by
    simp only [Op.bytesLess, Bool.or_eq_true, Bool.and_eq_true, decide_eq_true_eq, beq_iff_eq, not_or, not_and]
    exact ⟨UInt8.lt_irrefl a, fun _ => less_irrefl x⟩
/-- Names that ascend. -/
def upN : Option ByteArray → List ByteArray → Bool
  | _, [] => true
  | none, n :: t => upN (some n) t
  | some y, n :: t => Op.bytesLess y.data.toList n.data.toList && upN (some n) t
def lessN (a b : ByteArray) : Prop := Op.bytesLess a.data.toList b.data.toList = true
theorem upN_pair : ∀ (l : List ByteArray) (o : Option ByteArray), upN o l = true → l.Pairwise lessN ∧ ∀ y, o = some y → ∀ x ∈ l, lessN y x
  | [], _, _ => ⟨List.Pairwise.nil, fun _ _ x hx => by cases hx⟩
  | n :: t, none, h => by
    obtain ⟨h1, h2⟩ := upN_pair t (some n) h
    exact ⟨List.pairwise_cons.2 ⟨h2 n rfl, h1⟩, fun y hy => by cases hy⟩
  | n :: t, some y, h => by
    simp only [upN, Bool.and_eq_true] at h
    obtain ⟨h1, h2⟩ := upN_pair t (some n) h.2
    refine ⟨List.pairwise_cons.2 ⟨h2 n rfl, h1⟩, fun z hz x hx => ?_⟩
    cases hz
    rcases List.mem_cons.1 hx with rfl | hx
    · exact h.1
    · exact less_trans _ _ _ h.1 (h2 n rfl x hx)
theorem pair_upN : ∀ (l : List ByteArray) (o : Option ByteArray), l.Pairwise lessN → (∀ y, o = some y → ∀ x ∈ l, lessN y x) → upN o l = true
  | [], _, _, _ => rfl
  | n :: t, none, h, _ => by
    obtain ⟨h1, h2⟩ := List.pairwise_cons.1 h
    exact pair_upN t (some n) h2 (fun y hy => by cases hy; exact h1)
  | n :: t, some y, h, k => by
    obtain ⟨h1, h2⟩ := List.pairwise_cons.1 h
    simp only [upN, Bool.and_eq_true]
    exact ⟨k y rfl n List.mem_cons_self, pair_upN t (some n) h2 (fun y hy => by cases hy; exact h1)⟩
theorem lessN_ne {a b : ByteArray} (h : lessN a b) : a ≠ b := by
  rintro rfl
  exact less_irrefl _ h

/-! #### tables whose keys ascend -/
theorem entries_up : ∀ (l : List S42) (o : Option S42), (∀ x ∈ l, entryOk x = true) → entriesOk o l = upN (o.map (·.f0)) (l.map (·.f0))
  | [], o, _ => by cases o <;> rfl
  | x :: t, none, h => by
    have ih := entries_up t (some x) (fun y hy => h y (List.mem_cons_of_mem _ hy))
    simp only [entriesOk, h x List.mem_cons_self, Bool.true_and, ih]
    rfl
  | x :: t, some y, h => by
    have ih := entries_up t (some x) (fun y hy => h y (List.mem_cons_of_mem _ hy))
    simp only [entriesOk, h x List.mem_cons_self, Bool.true_and, ih, Lib.toList_data]
    rfl
/-- A right table, told by its keys. -/
def goodT (t : List S42) : Prop := t.length ≤ 20 ∧ (∀ x ∈ t, entryOk x = true) ∧ (t.map (·.f0)).Pairwise lessN
theorem goodT_ok {t : List S42} (h : goodT t) : tableOk t = true := by
  unfold tableOk
  rw [decide_eq_true h.1, Bool.true_and, entries_up t none h.2.1]
  exact pair_upN _ _ h.2.2 (fun y hy => by cases hy)
theorem goodT_filter {t : List S42} (h : goodT t) (p : S42 → Bool) : goodT (t.filter p) :=
  ⟨Nat.le_trans (List.length_filter_le _ _) h.1, fun x hx => h.2.1 x (List.mem_filter.1 hx).1, h.2.2.sublist (List.Sublist.map _ List.filter_sublist)⟩
/-- Two entries of a right table with one key are one. -/
theorem one_key {t : List S42} (h : (t.map (·.f0)).Pairwise lessN) : ∀ x ∈ t, ∀ y ∈ t, x.f0 = y.f0 → x = y := by
  induction t with
  | nil => intro x hx; cases hx
  | cons a t ih =>
    rw [List.map_cons, List.pairwise_cons] at h
    intro x hx y hy e
    rcases List.mem_cons.1 hx with hxa | hx'
    · rcases List.mem_cons.1 hy with hya | hy'
      · rw [hxa, hya]
      · exact absurd e (lessN_ne (hxa ▸ h.1 y.f0 (List.mem_map.2 ⟨y, hy', rfl⟩)))
    · rcases List.mem_cons.1 hy with hya | hy'
      · exact absurd e.symm (lessN_ne (hya ▸ h.1 x.f0 (List.mem_map.2 ⟨x, hx', rfl⟩)))
      · exact ih h.2 x hx' y hy' e
theorem findE_mem {t : List S42} (h : (t.map (·.f0)).Pairwise lessN) {x : S42} (hx : x ∈ t) : findE t x.f0 = some x := by
  unfold findE
  cases hq : t.find? (fun y => decide (y.f0.toList = x.f0.toList)) with
  | none =>
    have := List.find?_eq_none.1 hq x hx
    simp at this
  | some y =>
    have h1 := List.find?_some hq
    have h2 := List.mem_of_find?_eq_some hq
    have e : y.f0 = x.f0 := toList_inj (of_decide_eq_true h1)
    rw [one_key h y h2 x hx e]
theorem findE_none {t : List S42} {key : ByteArray} (h : ∀ x ∈ t, x.f0 ≠ key) : findE t key = none := by
  unfold findE
  rw [List.find?_eq_none]
  intro x hx
  simp only [decide_eq_true_eq]
  exact fun e => h x hx (toList_inj e)
theorem findE_filter {t : List S42} (h : (t.map (·.f0)).Pairwise lessN) (p : S42 → Bool) {x : S42} (hx : x ∈ t) : findE (t.filter p) x.f0 = if p x = true then some x else none := by
  by_cases c : p x = true
  · rw [if_pos c]
    exact findE_mem (h.sublist (List.Sublist.map _ List.filter_sublist)) (List.mem_filter.2 ⟨hx, c⟩)
  · rw [if_neg c]
    refine findE_none fun y hy e => c ?_
    obtain ⟨hy1, hy2⟩ := List.mem_filter.1 hy
    rw [← one_key h y hy1 x hx e]
    exact hy2

/-- Two values that are one. -/
def sameV (a b : Int) (s : ByteArray) (l : List ByteArray) (a' b' : Int) (s' : ByteArray) (l' : List ByteArray) : Bool := decide (a = a') && (decide (b = b') && (decide (s = s') && decide (l = l')))
theorem slices_Equal_l0 (l m : List ByteArray) (hl : l.length ≤ 1048576) (hm : l.length = m.length) : ∀ (s t : List ByteArray) (i : Nat), l.drop i = s → m.drop i = t → i ≤ l.length → Ev (fun k => slices_Equal_string_string.l0 k l m (l.length : Int) (i : Int)) (decide (s = t)) := by
  intro s
  induction s with
  | nil =>
    intro t i hs ht hi
    have := drop_nil_len hs
    have e : t = [] := by rw [← ht]; exact List.drop_eq_nil_iff.2 (by omega)
    subst e
    exact Ev.step (f := fun _ => some true) (fun k => by rw [slices_Equal_string_string.l0, if_neg (by omega)]) (Ev.ret (by simp))
  | cons x s ih =>
    intro t i hs ht hi
    obtain ⟨h1, h2, h3⟩ := rdOf_drop (d := ByteArray.empty) hs
    cases t with
    | nil => have := drop_nil_len ht; omega
    | cons y t =>
      obtain ⟨g1, g2, g3⟩ := rdOf_drop (d := ByteArray.empty) ht
      refine Ev.succ ?_
      simp only [slices_Equal_string_string.l0, h1, g1, w64 (n := (i : Int) + 1) (by omega) (by omega)]
      refine Ev.pos (by omega) (Ev.pos (by omega) (Ev.pos (by omega) (Ev.pos (by omega) ?_)))
      by_cases c : x = y
      · exact Ev.pos (by rw [c]) (Ev.to (ih t (i + 1) h3 g3 (by omega)) (by simp [c]))
      · exact Ev.neg (fun e => c (toList_inj e)) (Ev.ret (by simp [c]))
theorem slices_Equal_ev (l m : List ByteArray) (hl : l.length ≤ 1048576) : Ev (fun k => slices_Equal_string_string.f k l m) (decide (l = m)) := by
  unfold slices_Equal_string_string.f
  by_cases c : l.length = m.length
  · exact Ev.pos (by omega) (slices_Equal_l0 l m hl c l m 0 rfl rfl (Nat.zero_le _))
  · exact Ev.neg (by omega) (Ev.ret (by rw [decide_eq_false]; intro e; exact c (congrArg _ e)))
theorem impl_sameVal_ev (a b : Int) (s : ByteArray) (l : List ByteArray) (a' b' : Int) (s' : ByteArray) (l' : List ByteArray) (hl : l.length ≤ 1048576) : Ev (fun k => impl_sameVal.f k a b s l a' b' s' l') (sameV a b s l a' b' s' l') := by
  unfold impl_sameVal.f sameV
  by_cases c1 : a = a'
  · refine Ev.pos c1 ?_
    by_cases c2 : b = b'
    · refine Ev.pos c2 ?_
      by_cases c3 : s = s'
      · exact Ev.pos (by rw [c3]) (Ev.bind (slices_Equal_ev l l' hl) (Ev.ret (by simp [c1, c2, c3])))
      · exact Ev.neg (fun e => c3 (toList_inj e)) (Ev.ret (by simp [c3]))
    · exact Ev.neg c2 (Ev.ret (by simp [c2]))
  · exact Ev.neg c1 (Ev.ret (by simp [c1]))
theorem spec_l10Same_l0 (a b : Int) (p : ByteArray) (l : List ByteArray) (a' b' : Int) (p' : ByteArray) (m : List ByteArray) (hl : l.length ≤ 1048576) (hm : l.length = m.length) : ∀ (s t : List ByteArray) (i : Nat), l.drop i = s → m.drop i = t → i ≤ l.length → Ev (fun k => spec_l10Same.l0 k (i : Int) a b p l a' b' p' m) (decide (s = t)) := by
  intro s
  induction s with
  | nil =>
    intro t i hs ht hi
    have := drop_nil_len hs
    have e : t = [] := by rw [← ht]; exact List.drop_eq_nil_iff.2 (by omega)
    subst e
    exact Ev.step (f := fun _ => some true) (fun k => by rw [spec_l10Same.l0, if_neg (by omega)]) (Ev.ret (by simp))
  | cons x s ih =>
    intro t i hs ht hi
    obtain ⟨h1, h2, h3⟩ := rdOf_drop (d := ByteArray.empty) hs
    cases t with
    | nil => have := drop_nil_len ht; omega
    | cons y t =>
      obtain ⟨g1, g2, g3⟩ := rdOf_drop (d := ByteArray.empty) ht
      refine Ev.succ ?_
      simp only [spec_l10Same.l0, h1, g1, w64 (n := (i : Int) + 1) (by omega) (by omega)]
      refine Ev.pos (by omega) (Ev.pos (by omega) (Ev.pos (by omega) ?_))
      by_cases c : x = y
      · exact Ev.pos (by rw [c]) (Ev.to (ih t (i + 1) h3 g3 (by omega)) (by simp [c]))
      · exact Ev.neg (fun e => c (toList_inj e)) (Ev.ret (by simp [c]))
theorem spec_l10Same_ev (a b : Int) (s : ByteArray) (l : List ByteArray) (a' b' : Int) (s' : ByteArray) (l' : List ByteArray) (hl : l.length ≤ 1048576) : Ev (fun k => spec_l10Same.f k a b s l a' b' s' l') (sameV a b s l a' b' s' l') := by
  have no : Ev (fun k => spec_l10Same.j0 k true a b s l a' b' s' l') false := by
    refine Ev.succ ?_
    simp only [spec_l10Same.j0]
    exact Ev.pos (by trivial) (Ev.now _)
  unfold spec_l10Same.f sameV
  by_cases c1 : a = a'
  · refine Ev.pos c1 ?_
    by_cases c2 : b = b'
    · refine Ev.pos c2 ?_
      by_cases c3 : s = s'
      · refine Ev.pos (by rw [c3]) ?_
        by_cases c4 : l.length = l'.length
        · rw [show ((l.length : Int) != (l'.length : Int)) = false from by simp [c4]]
          refine Ev.succ ?_
          simp only [spec_l10Same.j0]
          exact Ev.neg (by decide) (Ev.to (spec_l10Same_l0 a b s l a' b' s' l' hl c4 l l' 0 rfl rfl (Nat.zero_le _)) (by simp [c1, c2, c3]))
        · rw [show ((l.length : Int) != (l'.length : Int)) = true from bne_iff_ne.2 (by omega)]
          have c5 : l ≠ l' := fun e => c4 (congrArg _ e)
          exact Ev.to no (by simp [c5])
      · exact Ev.neg (fun e => c3 (toList_inj e)) (Ev.to no (by simp [c3]))
    · exact Ev.neg c2 (Ev.to no (by simp [c2]))
  · exact Ev.neg c1 (Ev.to no (by simp [c1]))

theorem rd_T44_drop {xs : List S44} {i : Nat} {a : S44} {t : List S44} (h : xs.drop i = a :: t) : rd_T44 xs (i : Int) = a ∧ i < xs.length ∧ xs.drop (i + 1) = t := rdOf_drop (d := z44) h
theorem rd_T44_set (xs : List S44) (i : Nat) (v : S44) (h : i < xs.length) : rd_T44 (xs.set i v) (i : Int) = v :=
  (rdOf_get (d := z44) (by rw [List.length_set]; exact h)).trans (List.getElem_set_self ..)
theorem laws_eqChange_self (x : S44) : laws_eqChange.f x.f0 x.f1 x.f2 x.f0 x.f1 x.f2 = some true := by
  unfold laws_eqChange.f
  simp
theorem laws_eqChangeS_l0 (l : List S44) (hl : l.length ≤ 1048576) : ∀ (t : List S44) (i : Nat), l.drop i = t → i ≤ l.length → Ev (fun k => laws_eqChangeS.l0 k l l (i : Int)) true := by
  intro t
  induction t with
  | nil =>
    intro i ht hi
    have := drop_nil_len ht
    exact Ev.step (f := fun _ => some true) (fun k => by rw [laws_eqChangeS.l0, if_neg (by omega)]) (Ev.now _)
  | cons a t ih =>
    intro i ht hi
    obtain ⟨h1, h2, h3⟩ := rd_T44_drop ht
    refine Ev.succ ?_
    simp only [laws_eqChangeS.l0, h1, w64 (n := (i : Int) + 1) (by omega) (by omega)]
    exact Ev.pos (by omega) (Ev.pos (by omega) (Ev.pos (by omega) (Ev.bind0 (laws_eqChange_self a) (Ev.pos rfl (ih (i + 1) h3 (by omega))))))
theorem laws_eqChangeS_ev (l : List S44) (hl : l.length ≤ 1048576) : Ev (fun k => laws_eqChangeS.f k l l) true := by
  unfold laws_eqChangeS.f
  exact Ev.pos rfl (laws_eqChangeS_l0 l hl l 0 rfl (Nat.zero_le _))
def markC : Nat → Nat → List S44
  | 0, _ => []
  | n + 1, a => ⟨mt a, mt (a + 1), (Int.tmod ((a + 2 : Nat) : Int) 3 == 0)⟩ :: markC n (a + 3)
theorem markC_length : ∀ (n a : Nat), (markC n a).length = n
  | 0, _ => rfl
  | n + 1, a => by rw [markC, List.length_cons, markC_length n]
theorem laws_markChangeS_l0 : ∀ (d i a : Nat) (xs : List S44), i + d = xs.length → xs.length ≤ 1048576 → 0 < a → a + d * 3 < 4611686000000000000 →
    Ev (fun k => laws_markChangeS.l0 k xs (a : Int) (i : Int)) (((a + d * 3 : Nat) : Int), xs.take i ++ markC d a) := by
  intro d
  induction d with
  | zero =>
    intro i a xs hi hx ha hz
    refine Ev.step (f := fun _ => some ((a : Int), xs)) (fun k => by rw [laws_markChangeS.l0, if_neg (by omega)]) (Ev.ret ?_)
    rw [List.take_of_length_le (by omega), markC, List.append_nil]
    rfl
  | succ d ih =>
    intro i a xs hi hx ha hz
    have e0 : wrap64 ((a : Int) + 1) = ((a + 1 : Nat) : Int) := by rw [w64 (by omega) (by omega)]; omega
    have e1 : wrap64 (((a + 1 : Nat) : Int) + 1) = ((a + 2 : Nat) : Int) := by rw [w64 (by omega) (by omega)]; omega
    have e2 : wrap64 (((a + 2 : Nat) : Int) + 1) = ((a + 3 : Nat) : Int) := by rw [w64 (by omega) (by omega)]; omega
    refine Ev.succ ?_
    simp only [laws_markChangeS.l0, e0, e1, e2, w64 (n := (i : Int) + 1) (by omega) (by omega), Int.toNat_natCast, Option.bind_some]
    refine Ev.pos (by omega) (Ev.bind (laws_markText_ev ha (by omega)) (Ev.pos (by omega) (Ev.bind (laws_markText_ev (n := a + 1) (by omega) (by omega)) ?_)))
    simp only [rd_T44_set _ _ _ (show i < xs.length from by omega), List.set_set]
    refine Ev.to (ih (i + 1) (a + 3) _ (by rw [List.length_set]; omega) (by rw [List.length_set]; exact hx) (by omega) (by omega)) ?_
    rw [take_set_snoc _ _ _ (by omega), markC, List.append_assoc]
    rw [show a + 3 + d * 3 = a + (d + 1) * 3 from by omega]
    rfl
theorem laws_markChangeS_ev (xs : List S44) (hx : xs.length ≤ 1048576) : Ev (fun k => laws_markChangeS.f k xs 1) (((1 + xs.length * 3 : Nat) : Int), markC xs.length 1) :=
  Ev.to (laws_markChangeS_l0 xs.length 0 1 xs (by omega) hx (by omega) (by omega)) (by rw [List.take_zero, List.nil_append])
theorem laws_heldChangeS_l0 (ys : List S44) (hy : ys.length ≤ 1048576) : ∀ (d i a : Nat), ys.drop i = markC d a → i ≤ ys.length → 0 < a → a + d * 3 < 4611686000000000000 →
    Ev (fun k => laws_heldChangeS.l0 k ys (a : Int) (i : Int)) ((a + d * 3 : Nat) : Int) := by
  intro d
  induction d with
  | zero =>
    intro i a ht hi ha hz
    have := drop_nil_len ht
    exact Ev.step (f := fun _ => some (a : Int)) (fun k => by rw [laws_heldChangeS.l0, if_neg (by omega)]) (Ev.ret (by omega))
  | succ d ih =>
    intro i a ht hi ha hz
    rw [markC] at ht
    obtain ⟨h1, h2, h3⟩ := rd_T44_drop ht
    have e0 : wrap64 ((a : Int) + 1) = ((a + 1 : Nat) : Int) := by rw [w64 (by omega) (by omega)]; omega
    have e1 : wrap64 (((a + 1 : Nat) : Int) + 1) = ((a + 2 : Nat) : Int) := by rw [w64 (by omega) (by omega)]; omega
    have e2 : wrap64 (((a + 2 : Nat) : Int) + 1) = ((a + 3 : Nat) : Int) := by rw [w64 (by omega) (by omega)]; omega
    have e := ih (i + 1) (a + 3) h3 (by omega) (by omega) (by omega)
    rw [show a + 3 + d * 3 = a + (d + 1) * 3 from by omega] at e
    refine Ev.succ ?_
    simp only [laws_heldChangeS.l0, h1, e0, e1, e2, w64 (n := (i : Int) + 1) (by omega) (by omega)]
    exact Ev.pos (by omega) (Ev.pos (by omega) (Ev.bind (laws_markText_ev ha (by omega)) (Ev.pos (by first | trivial | rfl) (Ev.bind (laws_markText_ev (n := a + 1) (by omega) (by omega)) (Ev.pos (by first | trivial | rfl) (Ev.neg (by simp) e))))))
theorem laws_heldChangeS_ev (n : Nat) (hx : n ≤ 1048576) : Ev (fun k => laws_heldChangeS.f k (markC n 1) 1) ((1 + n * 3 : Nat) : Int) :=
  laws_heldChangeS_l0 (markC n 1) (by rw [markC_length]; exact hx) n 0 1 rfl (Nat.zero_le _) (by omega) (by omega)

/-! #### what one table must become another by -/
def putC (y : S42) : S44 := ⟨y.f0, (valText y.f1.f0 y.f1.f1 y.f1.f2 y.f1.f3).1, false⟩
def goneC (x : S42) : S44 := ⟨x.f0, (⟨#[]⟩ : ByteArray), true⟩
def sameE (x y : S42) : Bool := sameV x.f1.f0 x.f1.f1 x.f1.f2 x.f1.f3 y.f1.f0 y.f1.f1 y.f1.f2 y.f1.f3
/-- The merge of two tables, keys ascending. -/
def mergeN : Nat → List S42 → List S42 → List S44
  | _, [], b => b.map putC
  | _, a, [] => a.map goneC
  | 0, _, _ => []
  | n + 1, x :: s, y :: t =>
    if Op.bytesLess x.f0.toList y.f0.toList = true then goneC x :: mergeN n s (y :: t)
    else if Op.bytesLess y.f0.toList x.f0.toList = true then putC y :: mergeN n (x :: s) t
    else if sameE x y = true then mergeN n s t else putC y :: mergeN n s t
theorem mergeN_nil (n : Nat) (b : List S42) : mergeN n [] b = b.map putC := by cases n <;> rfl
theorem mergeN_end (n : Nat) (a : List S42) : mergeN n a [] = a.map goneC := by cases a <;> cases n <;> rfl
theorem mergeN_more : ∀ (n m : Nat) (a b : List S42), a.length + b.length ≤ n → a.length + b.length ≤ m → mergeN n a b = mergeN m a b
  | n, m, [], b, _, _ => by rw [mergeN_nil, mergeN_nil]
  | n, m, x :: s, [], _, _ => by rw [mergeN_end, mergeN_end]
  | 0, m, x :: s, y :: t, h, _ => by simp at h
  | n + 1, 0, x :: s, y :: t, _, h => by simp at h
  | n + 1, m + 1, x :: s, y :: t, h, k => by
    simp only [List.length_cons] at h k
    rw [mergeN, mergeN, mergeN_more n m s (y :: t) (by simp only [List.length_cons]; omega) (by simp only [List.length_cons]; omega), mergeN_more n m (x :: s) t (by simp only [List.length_cons]; omega) (by simp only [List.length_cons]; omega), mergeN_more n m s t (by omega) (by omega)]
def mergeD (a b : List S42) : List S44 := mergeN (a.length + b.length) a b
theorem mergeD_nil (b : List S42) : mergeD [] b = b.map putC := mergeN_nil _ _
theorem mergeD_end (a : List S42) : mergeD a [] = a.map goneC := mergeN_end _ _
theorem mergeD_cons (x y : S42) (s t : List S42) : mergeD (x :: s) (y :: t) =
    if Op.bytesLess x.f0.toList y.f0.toList = true then goneC x :: mergeD s (y :: t)
    else if Op.bytesLess y.f0.toList x.f0.toList = true then putC y :: mergeD (x :: s) t
    else if sameE x y = true then mergeD s t else putC y :: mergeD s t := by
  unfold mergeD
  rw [show (x :: s).length + (y :: t).length = (s.length + t.length + 1) + 1 from by simp only [List.length_cons]; omega, mergeN,
    mergeN_more _ (s.length + (y :: t).length) s (y :: t) (by simp only [List.length_cons]; omega) (Nat.le_refl _), mergeN_more _ ((x :: s).length + t.length) (x :: s) t (by simp only [List.length_cons]; omega) (Nat.le_refl _), mergeN_more _ (s.length + t.length) s t (by omega) (Nat.le_refl _)]
theorem mergeD_length : ∀ (n : Nat) (a b : List S42), a.length + b.length ≤ n → (mergeD a b).length ≤ a.length + b.length
  | n, [], b, _ => by rw [mergeD_nil, List.length_map]; simp
  | n, x :: s, [], _ => by rw [mergeD_end, List.length_map]; simp
  | 0, x :: s, y :: t, h => by simp at h
  | n + 1, x :: s, y :: t, h => by
    simp only [List.length_cons] at h ⊢
    have h1 := mergeD_length n s (y :: t) (by simp only [List.length_cons]; omega)
    have h2 := mergeD_length n (x :: s) t (by simp only [List.length_cons]; omega)
    have h3 := mergeD_length n s t (by omega)
    simp only [List.length_cons] at h1 h2 h3
    rw [mergeD_cons]
    split
    · rw [List.length_cons]; omega
    · split
      · rw [List.length_cons]; omega
      · split
        · omega
        · rw [List.length_cons]; omega
def upT (t : List S42) : Prop := t.Pairwise (fun x y => Op.bytesLess x.f0.toList y.f0.toList = true)
def upC (t : List S44) : Prop := t.Pairwise (fun x y => Op.bytesLess x.f0.toList y.f0.toList = true)
theorem less_ne {x y : ByteArray} (h : Op.bytesLess x.toList y.toList = true) : x ≠ y := by
  rintro rfl
  exact less_irrefl _ h
theorem less_both {x y : ByteArray} (h : ¬ Op.bytesLess x.toList y.toList = true) (k : ¬ Op.bytesLess y.toList x.toList = true) : x = y :=
  toList_inj (lessB_two _ _ (by simpa using h) (by simpa using k))
/-- What the merge holds. -/
theorem mem_mergeD : ∀ (n : Nat) (a b : List S42), a.length + b.length ≤ n → upT a → upT b → ∀ c, c ∈ mergeD a b ↔
    (∃ x ∈ a, (∀ y ∈ b, y.f0 ≠ x.f0) ∧ c = goneC x) ∨ (∃ y ∈ b, (∀ x ∈ a, x.f0 = y.f0 → sameE x y = false) ∧ c = putC y)
  | n, [], b, _, _, _, c => by
    rw [mergeD_nil, List.mem_map]
    constructor
    · rintro ⟨y, hy, rfl⟩
      exact .inr ⟨y, hy, fun x hx => (by cases hx), rfl⟩
    · rintro (⟨x, hx, _⟩ | ⟨y, hy, _, rfl⟩)
      · cases hx
      · exact ⟨y, hy, rfl⟩
  | n, x :: s, [], _, _, _, c => by
    rw [mergeD_end, List.mem_map]
    constructor
    · rintro ⟨y, hy, rfl⟩
      exact .inl ⟨y, hy, fun x hx => (by cases hx), rfl⟩
    · rintro (⟨x, hx, _, rfl⟩ | ⟨y, hy, _⟩)
      · exact ⟨x, hx, rfl⟩
      · cases hy
  | 0, x :: s, y :: t, h, _, _, _ => by simp at h
  | n + 1, x :: s, y :: t, h, ha, hb, c => by
    simp only [List.length_cons] at h
    obtain ⟨ha1, ha2⟩ := List.pairwise_cons.1 ha
    obtain ⟨hb1, hb2⟩ := List.pairwise_cons.1 hb
    rw [mergeD_cons]
    split
    · rename_i c1
      have hne : ∀ z ∈ y :: t, z.f0 ≠ x.f0 := fun z hz e => by
        rcases List.mem_cons.1 hz with rfl | hz
        · exact less_ne c1 e.symm
        · exact less_ne (less_trans _ _ _ c1 (hb1 z hz)) e.symm
      rw [List.mem_cons, mem_mergeD n s (y :: t) (by simp only [List.length_cons]; omega) ha2 hb c]
      constructor
      · rintro (rfl | ⟨z, hz, k, rfl⟩ | ⟨z, hz, k, rfl⟩)
        · exact .inl ⟨x, List.mem_cons_self, hne, rfl⟩
        · exact .inl ⟨z, List.mem_cons_of_mem _ hz, k, rfl⟩
        · refine .inr ⟨z, hz, fun q hq e => ?_, rfl⟩
          rcases List.mem_cons.1 hq with rfl | hq
          · exact absurd e.symm (hne z hz)
          · exact k q hq e
      · rintro (⟨z, hz, k, rfl⟩ | ⟨z, hz, k, rfl⟩)
        · rcases List.mem_cons.1 hz with rfl | hz
          · exact .inl rfl
          · exact .inr (.inl ⟨z, hz, k, rfl⟩)
        · exact .inr (.inr ⟨z, hz, fun q hq e => k q (List.mem_cons_of_mem _ hq) e, rfl⟩)
    · rename_i c1
      split
      · rename_i c2
        have hne : ∀ z ∈ x :: s, z.f0 ≠ y.f0 := fun z hz e => by
          rcases List.mem_cons.1 hz with rfl | hz
          · exact less_ne c2 e.symm
          · exact less_ne (less_trans _ _ _ c2 (ha1 z hz)) e.symm
        rw [List.mem_cons, mem_mergeD n (x :: s) t (by simp only [List.length_cons]; omega) ha hb2 c]
        constructor
        · rintro (rfl | ⟨z, hz, k, rfl⟩ | ⟨z, hz, k, rfl⟩)
          · exact .inr ⟨y, List.mem_cons_self, fun q hq e => absurd e (hne q hq), rfl⟩
          · refine .inl ⟨z, hz, fun q hq => ?_, rfl⟩
            rcases List.mem_cons.1 hq with rfl | hq
            · exact fun e => hne z hz e.symm
            · exact k q hq
          · exact .inr ⟨z, List.mem_cons_of_mem _ hz, k, rfl⟩
        · rintro (⟨z, hz, k, rfl⟩ | ⟨z, hz, k, rfl⟩)
          · exact .inr (.inl ⟨z, hz, fun q hq => k q (List.mem_cons_of_mem _ hq), rfl⟩)
          · rcases List.mem_cons.1 hz with rfl | hz
            · exact .inl rfl
            · exact .inr (.inr ⟨z, hz, k, rfl⟩)
      · rename_i c2
        have e0 : x.f0 = y.f0 := less_both c1 c2
        have hs : ∀ z ∈ s, z.f0 ≠ y.f0 := fun z hz e => less_ne (ha1 z hz) (by rw [e0, e])
        have ht : ∀ z ∈ t, z.f0 ≠ x.f0 := fun z hz e => less_ne (hb1 z hz) (by rw [← e0, e])
        have ih := mem_mergeD n s t (by omega) ha2 hb2 c
        have into : c ∈ mergeD s t → (∃ x' ∈ x :: s, (∀ y' ∈ y :: t, y'.f0 ≠ x'.f0) ∧ c = goneC x') ∨ (∃ y' ∈ y :: t, (∀ x' ∈ x :: s, x'.f0 = y'.f0 → sameE x' y' = false) ∧ c = putC y') := fun hc => by
          rcases ih.1 hc with ⟨z, hz, k, rfl⟩ | ⟨z, hz, k, rfl⟩
          · refine .inl ⟨z, List.mem_cons_of_mem _ hz, fun q hq => ?_, rfl⟩
            rcases List.mem_cons.1 hq with rfl | hq
            · exact fun e => hs z hz e.symm
            · exact k q hq
          · refine .inr ⟨z, List.mem_cons_of_mem _ hz, fun q hq e => ?_, rfl⟩
            rcases List.mem_cons.1 hq with rfl | hq
            · exact absurd e.symm (ht z hz)
            · exact k q hq e
        have back : ((∃ x' ∈ x :: s, (∀ y' ∈ y :: t, y'.f0 ≠ x'.f0) ∧ c = goneC x') ∨ (∃ y' ∈ y :: t, (∀ x' ∈ x :: s, x'.f0 = y'.f0 → sameE x' y' = false) ∧ c = putC y')) → (sameE x y = false ∧ c = putC y) ∨ c ∈ mergeD s t := fun hc => by
          rcases hc with ⟨z, hz, k, rfl⟩ | ⟨z, hz, k, rfl⟩
          · rcases List.mem_cons.1 hz with rfl | hz
            · exact absurd e0.symm (k y List.mem_cons_self)
            · exact .inr (ih.2 (.inl ⟨z, hz, fun q hq => k q (List.mem_cons_of_mem _ hq), rfl⟩))
          · rcases List.mem_cons.1 hz with rfl | hz
            · exact .inl ⟨k x List.mem_cons_self e0, rfl⟩
            · exact .inr (ih.2 (.inr ⟨z, hz, fun q hq e => k q (List.mem_cons_of_mem _ hq) e, rfl⟩))
        split
        · rename_i c3
          constructor
          · exact into
          · intro hc
            rcases back hc with ⟨k, _⟩ | k
            · rw [c3] at k; cases k
            · exact k
        · rename_i c3
          rw [List.mem_cons]
          constructor
          · rintro (rfl | hc)
            · refine .inr ⟨y, List.mem_cons_self, fun q hq e => ?_, rfl⟩
              rcases List.mem_cons.1 hq with rfl | hq
              · simpa using c3
              · exact absurd e (hs q hq)
            · exact into hc
          · intro hc
            rcases back hc with ⟨_, k⟩ | k
            · exact .inl k
            · exact .inr k
theorem key_mergeD {a b : List S42} (ha : upT a) (hb : upT b) {c : S44} (h : c ∈ mergeD a b) : (∃ x ∈ a, c.f0 = x.f0) ∨ ∃ y ∈ b, c.f0 = y.f0 := by
  rcases (mem_mergeD _ a b (Nat.le_refl _) ha hb c).1 h with ⟨x, hx, _, rfl⟩ | ⟨x, hx, _, rfl⟩
  · exact .inl ⟨x, hx, rfl⟩
  · exact .inr ⟨x, hx, rfl⟩
theorem up_map (f : S42 → S44) (hf : ∀ x, (f x).f0 = x.f0) {t : List S42} (h : upT t) : upC (t.map f) := by
  refine List.pairwise_map.2 (List.Pairwise.imp ?_ h)
  intro x y hxy
  rw [hf, hf]
  exact hxy
theorem up_mergeD : ∀ (n : Nat) (a b : List S42), a.length + b.length ≤ n → upT a → upT b → upC (mergeD a b)
  | n, [], b, _, _, hb => by rw [mergeD_nil]; exact up_map putC (fun _ => rfl) hb
  | n, x :: s, [], _, ha, _ => by rw [mergeD_end]; exact up_map goneC (fun _ => rfl) ha
  | 0, x :: s, y :: t, h, _, _ => by simp at h
  | n + 1, x :: s, y :: t, h, ha, hb => by
    simp only [List.length_cons] at h
    obtain ⟨ha1, ha2⟩ := List.pairwise_cons.1 ha
    obtain ⟨hb1, hb2⟩ := List.pairwise_cons.1 hb
    rw [mergeD_cons]
    split
    · rename_i c1
      refine List.pairwise_cons.2 ⟨fun c hc => ?_, up_mergeD n s (y :: t) (by simp only [List.length_cons]; omega) ha2 hb⟩
      rcases key_mergeD ha2 hb hc with ⟨z, hz, e⟩ | ⟨z, hz, e⟩
      · rw [e]; exact ha1 z hz
      · rw [e]
        rcases List.mem_cons.1 hz with rfl | hz
        · exact c1
        · exact less_trans _ _ _ c1 (hb1 z hz)
    · rename_i c1
      split
      · rename_i c2
        refine List.pairwise_cons.2 ⟨fun c hc => ?_, up_mergeD n (x :: s) t (by simp only [List.length_cons]; omega) ha hb2⟩
        rcases key_mergeD ha hb2 hc with ⟨z, hz, e⟩ | ⟨z, hz, e⟩
        · rw [e]
          rcases List.mem_cons.1 hz with rfl | hz
          · exact c2
          · exact less_trans _ _ _ c2 (ha1 z hz)
        · rw [e]; exact hb1 z hz
      · rename_i c2
        have e0 : x.f0 = y.f0 := less_both c1 c2
        split
        · exact up_mergeD n s t (by omega) ha2 hb2
        · refine List.pairwise_cons.2 ⟨fun c hc => ?_, up_mergeD n s t (by omega) ha2 hb2⟩
          rcases key_mergeD ha2 hb2 hc with ⟨z, hz, e⟩ | ⟨z, hz, e⟩
          · rw [e]
            show Op.bytesLess y.f0.toList z.f0.toList = true
            rw [← e0]; exact ha1 z hz
          · rw [e]; exact hb1 z hz
theorem upC_ext : ∀ (r m : List S44), upC r → upC m → (∀ c, c ∈ r ↔ c ∈ m) → r = m
  | [], [], _, _, _ => rfl
  | [], y :: t, _, _, h => by have := (h y).2 List.mem_cons_self; cases this
  | x :: s, [], _, _, h => by have := (h x).1 List.mem_cons_self; cases this
  | x :: s, y :: t, hr, hm, h => by
    obtain ⟨r1, r2⟩ := List.pairwise_cons.1 hr
    obtain ⟨m1, m2⟩ := List.pairwise_cons.1 hm
    have e : x = y := by
      rcases List.mem_cons.1 ((h x).1 List.mem_cons_self) with e | hx
      · exact e
      rcases List.mem_cons.1 ((h y).2 List.mem_cons_self) with e | hy
      · exact e.symm
      exact absurd (less_trans _ _ _ (r1 y hy) (m1 x hx)) (less_irrefl _)
    subst e
    rw [upC_ext s t r2 m2 (fun c => ⟨fun hc => ?_, fun hc => ?_⟩)]
    · rcases List.mem_cons.1 ((h c).1 (List.mem_cons_of_mem _ hc)) with e | hc'
      · rw [e] at hc; exact absurd (r1 x hc) (less_irrefl _)
      · exact hc'
    · rcases List.mem_cons.1 ((h c).2 (List.mem_cons_of_mem _ hc)) with e | hc'
      · rw [e] at hc; exact absurd (m1 x hc) (less_irrefl _)
      · exact hc'
/-- What the sort makes of changes whose keys differ. -/
theorem sortC_law (l : List S44) (hl : l.length < 4611686018427387904) (hd : (l.map (·.f0)).Nodup) : ∃ r, slices_SortFunc_c.f l = some r ∧ upC r ∧ ∀ c, c ∈ r ↔ c ∈ l := by
  unfold slices_SortFunc_c.f
  rw [if_pos hl]
  obtain ⟨⟨hs, _, hp⟩, ho⟩ := Sort.pdq_sorts (Go.Proofs.ltOf cmpC) swoC l.toArray 0 l.toArray.size (Lib.bitLen l.toArray.size) true true (Nat.zero_le _) (Nat.le_refl _) (Or.inl rfl)
  generalize Sort.pdq (Go.Proofs.ltOf cmpC) l.toArray 0 l.toArray.size (Lib.bitLen l.toArray.size) true true = d at hs hp ho
  have hq : d.toList.Perm l := by
    have e1 : d.extract 0 l.toArray.size = d := by rw [← hs]; simp
    have e2 : l.toArray.extract 0 l.toArray.size = l.toArray := by simp
    rw [e1, e2] at hp
    exact hp
  refine ⟨_, rfl, ?_, fun c => hq.mem_iff⟩
  have hn : (d.toList.map (·.f0)).Nodup := (hq.map (·.f0)).nodup_iff.2 hd
  refine List.pairwise_iff_getElem.2 fun i j hi hj hij => ?_
  have hjs : j < d.size := by rwa [Array.length_toList] at hj
  have his : i < d.size := by rwa [Array.length_toList] at hi
  have h1 := ho i j (Nat.zero_le _) hij (by rw [← hs]; exact hjs)
  rw [ltC, getElem!_pos d j hjs, getElem!_pos d i his] at h1
  rw [Array.getElem_toList, Array.getElem_toList, Lib.toList_data, Lib.toList_data]
  rcases h2 : Op.bytesLess d[i].f0.data.toList d[j].f0.data.toList with _ | _
  · exfalso
    have e := ba_ext (lessB_two _ _ h2 h1)
    have := List.pairwise_iff_getElem.1 hn i j (by rw [List.length_map]; exact hi) (by rw [List.length_map]; exact hj) hij
    rw [List.getElem_map, List.getElem_map, Array.getElem_toList, Array.getElem_toList] at this
    exact this e
  · rfl
/-! #### what impl.Differ gathers -/
def gones (a b : List S42) : List S44 := (a.filter (fun x => (findE b x.f0).isNone)).map goneC
def keepE (a : List S42) (y : S42) : Bool := match findE a y.f0 with | some x => !sameE x y | none => true
def putsE (a b : List S42) : List S44 := (b.filter (keepE a)).map putC
theorem up_keys {t : List S42} (h : upT t) : (t.map (·.f0)).Pairwise lessN := by
  refine List.pairwise_map.2 (List.Pairwise.imp ?_ h)
  intro x y hxy
  unfold lessN
  rw [← Lib.toList_data, ← Lib.toList_data]
  exact hxy
theorem findE_isNone {b : List S42} {key : ByteArray} : (findE b key).isNone = true ↔ ∀ y ∈ b, y.f0 ≠ key := by
  constructor
  · intro h y hy e
    rw [Option.isNone_iff_eq_none] at h
    unfold findE at h
    exact absurd (List.find?_eq_none.1 h y hy) (by simp [e])
  · intro h
    rw [findE_none h]
    rfl
theorem keepE_iff {a : List S42} (ha : upT a) (y : S42) : keepE a y = true ↔ ∀ x ∈ a, x.f0 = y.f0 → sameE x y = false := by
  unfold keepE
  cases h : findE a y.f0 with
  | none =>
    refine ⟨fun _ x hx e => ?_, fun _ => rfl⟩
    have := (findE_isNone (b := a) (key := y.f0)).1 (by rw [h]; rfl) x hx
    exact absurd e this
  | some z =>
    have hz := List.mem_of_find?_eq_some h
    have h' : a.find? (fun x => decide (x.f0.toList = y.f0.toList)) = some z := h
    have ez : z.f0 = y.f0 := toList_inj (by simpa using List.find?_some h')
    constructor
    · intro k x hx e
      rw [one_key (up_keys ha) x hx z hz (e.trans ez.symm)]
      simpa using k
    · intro k
      have := k z hz ez
      simp [this]
theorem gathered {a b : List S42} (ha : upT a) (hb : upT b) (hl : a.length + b.length ≤ 1048576) : slices_SortFunc_c.f (gones a b ++ putsE a b) = some (mergeD a b) := by
  have hk : ∀ t : List S42, upT t → (t.map (·.f0)).Nodup := fun t ht => List.Pairwise.imp (fun h => lessN_ne h) (up_keys ht)
  have h1 : ((gones a b).map (·.f0)) = (a.filter (fun x => (findE b x.f0).isNone)).map (·.f0) := by unfold gones; rw [List.map_map]; rfl
  have h2 : ((putsE a b).map (·.f0)) = (b.filter (keepE a)).map (·.f0) := by unfold putsE; rw [List.map_map]; rfl
  have hd : ((gones a b ++ putsE a b).map (·.f0)).Nodup := by
    rw [List.map_append, h1, h2, List.nodup_append]
    refine ⟨hk _ (ha.sublist List.filter_sublist), hk _ (hb.sublist List.filter_sublist), ?_⟩
    intro p hp q hq e
    obtain ⟨x, hx, rfl⟩ := List.mem_map.1 hp
    obtain ⟨y, hy, rfl⟩ := List.mem_map.1 hq
    obtain ⟨_, hx2⟩ := List.mem_filter.1 hx
    obtain ⟨hy1, _⟩ := List.mem_filter.1 hy
    exact findE_isNone.1 hx2 y hy1 e.symm
  have hlen : (gones a b ++ putsE a b).length < 4611686018427387904 := by
    unfold gones putsE
    rw [List.length_append, List.length_map, List.length_map]
    have := List.length_filter_le (fun x : S42 => (findE b x.f0).isNone) a
    have := List.length_filter_le (keepE a) b
    omega
  obtain ⟨r, e, hr, hm⟩ := sortC_law _ hlen hd
  rw [e]
  congr 1
  refine upC_ext _ _ hr (up_mergeD _ a b (Nat.le_refl _) ha hb) fun c => ?_
  rw [hm, List.mem_append, mem_mergeD _ a b (Nat.le_refl _) ha hb c]
  unfold gones putsE
  rw [List.mem_map, List.mem_map]
  constructor
  · rintro (⟨x, hx, rfl⟩ | ⟨x, hx, rfl⟩)
    · obtain ⟨hx1, hx2⟩ := List.mem_filter.1 hx
      exact .inl ⟨x, hx1, findE_isNone.1 hx2, rfl⟩
    · obtain ⟨hx1, hx2⟩ := List.mem_filter.1 hx
      exact .inr ⟨x, hx1, (keepE_iff ha x).1 hx2, rfl⟩
  · rintro (⟨x, hx, k, rfl⟩ | ⟨x, hx, k, rfl⟩)
    · exact .inl ⟨x, List.mem_filter.2 ⟨hx, findE_isNone.2 k⟩, rfl⟩
    · exact .inr ⟨x, List.mem_filter.2 ⟨hx, (keepE_iff ha x).2 k⟩, rfl⟩
/-- A table that is right ascends. -/
theorem entries_all : ∀ (l : List S42) (o : Option S42), entriesOk o l = true → ∀ x ∈ l, entryOk x = true
  | [], _, _, x, hx => (by cases hx)
  | a :: t, none, h, x, hx => by
    simp only [entriesOk, Bool.and_eq_true] at h
    rcases List.mem_cons.1 hx with rfl | hx
    · exact h.1
    · exact entries_all t (some a) h.2 x hx
  | a :: t, some y, h, x, hx => by
    simp only [entriesOk, Bool.and_eq_true] at h
    rcases List.mem_cons.1 hx with rfl | hx
    · exact h.1.1
    · exact entries_all t (some a) h.2 x hx
theorem table_up {t : List S42} (h : tableOk t = true) : t.length ≤ 20 ∧ upT t := by
  unfold tableOk at h
  rw [Bool.and_eq_true] at h
  refine ⟨of_decide_eq_true h.1, ?_⟩
  have h2 := entries_up t none (entries_all t none h.2)
  rw [h.2] at h2
  have h3 := (upN_pair _ _ h2.symm).1
  refine List.Pairwise.imp ?_ (List.pairwise_map.1 h3)
  intro x y hxy
  rw [Lib.toList_data, Lib.toList_data]
  exact hxy
def differ (a b : List S42) : List S44 := if tableOk a = true ∧ tableOk b = true then mergeD a b else []
theorem differ_length {a b : List S42} : (differ a b).length ≤ 40 := by
  unfold differ
  split
  · rename_i h
    have := mergeD_length _ a b (Nat.le_refl _)
    have := (table_up h.1).1
    have := (table_up h.2).1
    omega
  · exact Nat.zero_le _

theorem impl_Differ_l1 (a b : List S42) (hfa : ∀ x ∈ a, x.f1.f3.length ≤ 1048576) (hfb : ∀ x ∈ b, x.f1.f3.length ≤ 1048576) (hb : b.length ≤ 1048576) (r : List S44) : ∀ (t : List S42) (j : Nat) (acc : List S44), b.drop j = t → j ≤ b.length → acc.length + t.length ≤ 1048576 →
    slices_SortFunc_c.f (acc ++ putsE a t) = some r → Ev (fun k => impl_Differ.l1 k a acc b (b.length : Int) (j : Int)) r := by
  intro t
  induction t with
  | nil =>
    intro j acc ht hj hc hr
    have := drop_nil_len ht
    refine Ev.succ ?_
    simp only [impl_Differ.l1]
    refine Ev.neg (by omega) (Ev.bind0 (x := r) ?_ (Ev.now _))
    rw [← hr]
    unfold putsE
    simp
  | cons y t ih =>
    intro j acc ht hj hc hr
    obtain ⟨h1, h2, h3⟩ := rd_T42_drop ht
    have hy := hfb y (List.mem_of_mem_drop (by rw [ht]; exact List.mem_cons_self))
    rw [List.length_cons] at hc
    refine Ev.succ ?_
    simp only [impl_Differ.l1, h1, w64 (n := (j : Int) + 1) (by omega) (by omega)]
    refine Ev.pos (by omega) (Ev.pos (by omega) (Ev.pos (by omega) (Ev.bind0 (impl_Find_eq a y.f0 hfa) ?_)))
    have put : slices_SortFunc_c.f ((acc ++ [putC y]) ++ putsE a t) = some r → Ev (fun k => (impl_ValText.f k y.f1.f0 y.f1.f1 y.f1.f2 y.f1.f3).bind fun bt => (if acc.length < 3518437208883 then (impl_Differ.l1 k a (acc ++ [(⟨y.f0, bt.1, false⟩ : S44)]) b (b.length : Int) ((j : Int) + 1)) else none)) r := fun e =>
      Ev.bind (impl_ValText_ev _ _ _ _ hy) (Ev.pos (by omega) (ih (j + 1) (acc ++ [putC y]) h3 (by omega) (by rw [List.length_append, List.length_singleton]; omega) e))
    unfold findVal
    cases hf : findE a y.f0 with
    | none =>
      have hk : keepE a y = true := by unfold keepE; rw [hf]
      refine Ev.neg (by decide) (put ?_)
      rw [← hr]
      unfold putsE
      rw [List.filter_cons, if_pos hk, List.map_cons, List.append_assoc]
      rfl
    | some x =>
      refine Ev.pos (by trivial) (Ev.bind (impl_sameVal_ev _ _ _ _ _ _ _ _ (hfa x (List.mem_of_find?_eq_some hf))) ?_)
      by_cases c : sameE x y = true
      · have hk : ¬ keepE a y = true := by unfold keepE; rw [hf]; simp [c]
        refine Ev.pos c (ih (j + 1) acc h3 (by omega) (by omega) ?_)
        rw [← hr]
        unfold putsE
        rw [List.filter_cons, if_neg hk]
      · have hk : keepE a y = true := by unfold keepE; rw [hf]; simpa using c
        refine Ev.neg c (put ?_)
        rw [← hr]
        unfold putsE
        rw [List.filter_cons, if_pos hk, List.map_cons, List.append_assoc]
        rfl
theorem impl_Differ_l0 (a b : List S42) (hfa : ∀ x ∈ a, x.f1.f3.length ≤ 1048576) (hfb : ∀ x ∈ b, x.f1.f3.length ≤ 1048576) (hab : a.length + b.length ≤ 1048576) (r : List S44) : ∀ (s : List S42) (i : Nat) (acc : List S44), a.drop i = s → i ≤ a.length → acc.length + s.length + b.length ≤ 1048576 →
    slices_SortFunc_c.f ((acc ++ gones s b) ++ putsE a b) = some r → Ev (fun k => impl_Differ.l0 k a b acc a (a.length : Int) (i : Int)) r := by
  intro s
  induction s with
  | nil =>
    intro i acc hs hi hc hr
    have := drop_nil_len hs
    refine Ev.succ ?_
    simp only [impl_Differ.l0]
    refine Ev.neg (by omega) (impl_Differ_l1 a b hfa hfb (by omega) r b 0 acc rfl (Nat.zero_le _) (by simp at hc; omega) ?_)
    rw [← hr]
    unfold gones
    simp
  | cons x s ih =>
    intro i acc hs hi hc hr
    obtain ⟨h1, h2, h3⟩ := rd_T42_drop hs
    rw [List.length_cons] at hc
    refine Ev.succ ?_
    simp only [impl_Differ.l0, h1, w64 (n := (i : Int) + 1) (by omega) (by omega)]
    refine Ev.pos (by omega) (Ev.pos (by omega) (Ev.pos (by omega) (Ev.bind0 (impl_Find_eq b x.f0 hfb) ?_)))
    unfold findVal
    cases hf : findE b x.f0 with
    | none =>
      refine Ev.neg (by decide) (Ev.pos (by omega) (ih (i + 1) (acc ++ [goneC x]) h3 (by omega) (by rw [List.length_append, List.length_singleton]; omega) ?_))
      rw [← hr]
      unfold gones
      rw [List.filter_cons, if_pos (by rw [hf]; rfl), List.map_cons, List.append_assoc acc]
      rfl
    | some y =>
      refine Ev.pos (by trivial) (ih (i + 1) acc h3 (by omega) (by omega) ?_)
      rw [← hr]
      unfold gones
      rw [List.filter_cons, if_neg (by rw [hf]; simp)]
theorem impl_Differ_ev (a b : List S42) (ha : a.length ≤ 1048576) (hb : b.length ≤ 1048576) (hfa : ∀ x ∈ a, x.f1.f3.length ≤ 1048576) (hfb : ∀ x ∈ b, x.f1.f3.length ≤ 1048576) : Ev (fun k => impl_Differ.f k a b) (differ a b) := by
  have no : ¬ (tableOk a = true ∧ tableOk b = true) → Ev (fun k => impl_Differ.j0 k a b true) (differ a b) := fun c => by
    unfold differ
    rw [if_neg c]
    refine Ev.succ ?_
    simp only [impl_Differ.j0]
    exact Ev.pos (by trivial) (Ev.now _)
  unfold impl_Differ.f
  refine Ev.bind (impl_TableOk_ev a ha hfa) ?_
  by_cases c1 : tableOk a = true
  · refine Ev.pos c1 (Ev.bind (impl_TableOk_ev b hb hfb) ?_)
    by_cases c2 : tableOk b = true
    · obtain ⟨la, ua⟩ := table_up c1
      obtain ⟨lb, ub⟩ := table_up c2
      rw [c2]
      refine Ev.succ ?_
      simp only [impl_Differ.j0]
      refine Ev.neg (by decide) (impl_Differ_l0 a b hfa hfb (by omega) _ a 0 [] rfl (Nat.zero_le _) (by simp; omega) ?_)
      unfold differ
      rw [if_pos ⟨c1, c2⟩, List.nil_append]
      exact gathered ua ub (by omega)
    · rw [show tableOk b = false from by simpa using c2]
      exact no (fun h => c2 h.2)
  · exact Ev.neg c1 (no (fun h => c1 h.1))
theorem spec_Differ_l0 (a b : List S42) (hfa : ∀ x ∈ a, x.f1.f3.length ≤ 1048576) (hfb : ∀ x ∈ b, x.f1.f3.length ≤ 1048576) (hla : a.length ≤ 1048576) (hlb : b.length ≤ 1048576) : ∀ (n : Nat) (s t : List S42) (i j : Nat) (acc : List S44), s.length + t.length ≤ n → a.drop i = s → b.drop j = t → i ≤ a.length → j ≤ b.length → acc.length + n ≤ 4194304 →
    Ev (fun k => spec_Differ.l0 k a b acc (i : Int) (j : Int)) (acc ++ mergeD s t) := by
  intro n
  induction n with
  | zero =>
    intro s t i j acc hn hs ht hi hj hc
    have e1 : s = [] := List.eq_nil_of_length_eq_zero (by omega)
    have e2 : t = [] := List.eq_nil_of_length_eq_zero (by omega)
    subst e1 e2
    have := drop_nil_len hs
    have := drop_nil_len ht
    refine Ev.succ ?_
    simp only [spec_Differ.l0]
    rw [decide_eq_false (by omega)]
    refine Ev.neg (by omega) (Ev.succ ?_)
    simp only [spec_Differ.j2]
    exact Ev.neg (by decide) (Ev.ret (by rw [mergeD_nil]; simp))
  | succ n ih =>
    intro s t i j acc hn hs ht hi hj hc
    have wi : wrap64 ((i : Int) + 1) = (i : Int) + 1 := w64 (by omega) (by omega)
    have wj : wrap64 ((j : Int) + 1) = (j : Int) + 1 := w64 (by omega) (by omega)
    have goneS : ∀ x s', a.drop i = x :: s' → s'.length + t.length ≤ n → Ev (fun k => spec_Differ.j3 k a b acc (i : Int) (j : Int) true) (acc ++ goneC x :: mergeD s' t) := fun x s' h hl => by
      obtain ⟨h1, h2, h3⟩ := rd_T42_drop h
      refine Ev.succ ?_
      simp only [spec_Differ.j3, h1, wi]
      refine Ev.pos (by trivial) (Ev.pos (by omega) (Ev.pos (by omega) (Ev.pos (by omega) (Ev.to (ih s' t (i + 1) j (acc ++ [goneC x]) hl h3 ht (by omega) hj (by rw [List.length_append, List.length_singleton]; omega)) ?_))))
      rw [List.append_assoc]
      rfl
    have putS : ∀ y t', b.drop j = y :: t' → s.length + t'.length ≤ n → Ev (fun k => spec_Differ.j4 k a b acc (i : Int) (j : Int) true) (acc ++ putC y :: mergeD s t') := fun y t' h hl => by
      obtain ⟨h1, h2, h3⟩ := rd_T42_drop h
      have hy := hfb y (List.mem_of_mem_drop (by rw [h]; exact List.mem_cons_self))
      refine Ev.succ ?_
      simp only [spec_Differ.j4, h1, wj]
      refine Ev.pos (by trivial) (Ev.pos (by omega) (Ev.pos (by omega) (Ev.bind (spec_ValText_ev _ _ _ _ hy) (Ev.pos (by omega) (Ev.to (ih s t' i (j + 1) (acc ++ [putC y]) hl hs h3 hi (by omega) (by rw [List.length_append, List.length_singleton]; omega)) ?_)))))
      rw [List.append_assoc]
      rfl
    cases s with
    | nil =>
      have i0 := drop_nil_len hs
      cases t with
      | nil =>
        have := drop_nil_len ht
        refine Ev.succ ?_
        simp only [spec_Differ.l0]
        rw [decide_eq_false (by omega)]
        refine Ev.neg (by omega) (Ev.succ ?_)
        simp only [spec_Differ.j2]
        exact Ev.neg (by decide) (Ev.ret (by rw [mergeD_nil]; simp))
      | cons y t =>
        obtain ⟨h1, h2, h3⟩ := rd_T42_drop ht
        refine Ev.succ ?_
        simp only [spec_Differ.l0]
        rw [decide_eq_true (by omega)]
        refine Ev.neg (by omega) (Ev.succ ?_)
        simp only [spec_Differ.j2]
        refine Ev.pos (by trivial) (Ev.neg (by omega) (Ev.neg (by omega) (Ev.succ ?_)))
        simp only [spec_Differ.j3]
        refine Ev.neg (by decide) (Ev.pos (by omega) (Ev.to (putS y t ht (by simp only [List.length_cons, List.length_nil] at hn ⊢; omega)) ?_))
        rw [mergeD_nil, mergeD_nil]
        rfl
    | cons x s =>
      obtain ⟨h1, h2, h3⟩ := rd_T42_drop hs
      refine Ev.succ ?_
      simp only [spec_Differ.l0]
      refine Ev.pos (by omega) (Ev.succ ?_)
      simp only [spec_Differ.j2]
      refine Ev.pos (by trivial) ?_
      cases t with
      | nil =>
        have := drop_nil_len ht
        refine Ev.pos (by omega) (Ev.to (goneS x s hs (by simp only [List.length_cons, List.length_nil] at hn ⊢; omega)) ?_)
        rw [mergeD_end, mergeD_end]
        rfl
      | cons y t =>
        obtain ⟨g1, g2, g3⟩ := rd_T42_drop ht
        simp only [List.length_cons] at hn
        refine Ev.neg (by omega) (Ev.pos (by omega) (Ev.pos (by omega) (Ev.pos (by omega) (Ev.pos (by omega) ?_))))
        simp only [h1, g1]
        rw [mergeD_cons]
        rcases c1 : Op.bytesLess x.f0.toList y.f0.toList with _ | _
        · rw [if_neg (by decide)]
          refine Ev.succ ?_
          simp only [spec_Differ.j3, h1, g1]
          refine Ev.neg (by decide) (Ev.neg (by omega) (Ev.pos (by omega) (Ev.pos (by omega) (Ev.pos (by omega) (Ev.pos (by omega) ?_)))))
          rcases c2 : Op.bytesLess y.f0.toList x.f0.toList with _ | _
          · rw [if_neg (by decide)]
            have hx := hfa x (List.mem_of_mem_drop (by rw [hs]; exact List.mem_cons_self))
            have hy := hfb y (List.mem_of_mem_drop (by rw [ht]; exact List.mem_cons_self))
            refine Ev.succ ?_
            simp only [spec_Differ.j4, h1, g1, wi, wj]
            refine Ev.neg (by decide) (Ev.pos (by omega) (Ev.pos (by omega) (Ev.pos (by omega) (Ev.pos (by omega) (Ev.bind (spec_l10Same_ev _ _ _ _ _ _ _ _ hx) ?_)))))
            by_cases c3 : sameE x y = true
            · rw [if_pos c3]
              exact Ev.pos c3 (ih s t (i + 1) (j + 1) acc (by omega) h3 g3 (by omega) (by omega) (by omega))
            · rw [if_neg c3]
              refine Ev.neg c3 (Ev.bind (spec_ValText_ev _ _ _ _ hy) (Ev.pos (by omega) (Ev.to (ih s t (i + 1) (j + 1) (acc ++ [putC y]) (by omega) h3 g3 (by omega) (by omega) (by rw [List.length_append, List.length_singleton]; omega)) ?_)))
              rw [List.append_assoc]
              rfl
          · rw [if_pos rfl]
            exact putS y t ht (by simp only [List.length_cons]; omega)
        · rw [if_pos rfl]
          exact goneS x s hs (by simp only [List.length_cons]; omega)
theorem spec_Differ_ev (a b : List S42) (ha : a.length ≤ 1048576) (hb : b.length ≤ 1048576) (hfa : ∀ x ∈ a, x.f1.f3.length ≤ 1048576) (hfb : ∀ x ∈ b, x.f1.f3.length ≤ 1048576) : Ev (fun k => spec_Differ.f k a b) (differ a b) := by
  have no : ¬ (tableOk a = true ∧ tableOk b = true) → Ev (fun k => spec_Differ.j0 k a b [] true) (differ a b) := fun c => by
    unfold differ
    rw [if_neg c]
    refine Ev.succ ?_
    simp only [spec_Differ.j0]
    exact Ev.pos (by trivial) (Ev.now _)
  unfold spec_Differ.f
  simp only [Option.bind_some]
  refine Ev.bind (spec_TableOk_ev a ha hfa) ?_
  by_cases c1 : tableOk a = true
  · refine Ev.pos c1 (Ev.bind (spec_TableOk_ev b hb hfb) ?_)
    by_cases c2 : tableOk b = true
    · rw [c2]
      refine Ev.succ ?_
      simp only [spec_Differ.j0]
      refine Ev.neg (by decide) (Ev.to (spec_Differ_l0 a b hfa hfb ha hb (a.length + b.length) a b 0 0 [] (Nat.le_refl _) rfl rfl (Nat.zero_le _) (Nat.zero_le _) (by simp; omega)) ?_)
      unfold differ
      rw [if_pos ⟨c1, c2⟩, List.nil_append]
    · rw [show tableOk b = false from by simpa using c2]
      exact no (fun h => c2 h.2)
  · exact Ev.neg c1 (no (fun h => c1 h.1))

theorem laws_markEntryS_from (xs : List S42) (hx : xs.length ≤ 1048576) (hf : ∀ x ∈ xs, x.f1.f3.length ≤ 1048576) (a : Nat) (ha : 0 < a) (hz : a + xs.length * 1048580 < 4611686000000000000) : Ev (fun k => laws_markEntryS.f k xs (a : Int)) ((endE xs a : Int), markE xs a) :=
  Ev.to (laws_markEntryS_l0 xs 0 a xs rfl (Nat.zero_le _) hx hf ha hz) (by rw [List.take_zero, List.nil_append])
theorem FnExactDiffer (l0 l1 : List S38) (o : l0.length ≤ maxLen ∧ ∀ x ∈ l0, x.f0.size ≤ maxLen ∧ (Lit.int .i64 x.f1.f0).wf = true ∧ (Lit.int .i64 x.f1.f1).wf = true ∧ x.f1.f2.size ≤ maxLen ∧ x.f1.f3.length ≤ maxLen ∧ ∀ y ∈ x.f1.f3, y.size ≤ maxLen) (p : l1.length ≤ maxLen ∧ ∀ x ∈ l1, x.f0.size ≤ maxLen ∧ (Lit.int .i64 x.f1.f0).wf = true ∧ (Lit.int .i64 x.f1.f1).wf = true ∧ x.f1.f2.size ≤ maxLen ∧ x.f1.f3.length ≤ maxLen ∧ ∀ y ∈ x.f1.f3, y.size ≤ maxLen) : ∃ k, laws_FnExactDiffer.f k l0 l1 = some true := by
  have fits : ∀ l : List S38, (∀ x ∈ l, x.f0.size ≤ maxLen ∧ (Lit.int .i64 x.f1.f0).wf = true ∧ (Lit.int .i64 x.f1.f1).wf = true ∧ x.f1.f2.size ≤ maxLen ∧ x.f1.f3.length ≤ maxLen ∧ ∀ y ∈ x.f1.f3, y.size ≤ maxLen) → ∀ x ∈ l, entryFits x := fun l h x hx => by
    obtain ⟨h0, _, _, h1, h2, h3⟩ := h x hx
    exact ⟨h0, h1, h2, h3⟩
  have fin : ∀ k, laws_FnExactDiffer.Ok k l0 l1 → ∃ k, laws_FnExactDiffer.f k l0 l1 = some true := fun k h => ⟨k, by unfold laws_FnExactDiffer.f; exact if_pos h⟩
  obtain ⟨r, e, hr⟩ := laws_szEntryS_ev l0 o.1 (fits l0 o.2) 1048576 (by omega) (by omega)
  by_cases c0 : r < 0
  · obtain ⟨k, hk⟩ := Ev.rounds e
    exact fin k ⟨r, hk, .inl c0⟩
  obtain ⟨hb0, hl0, hi0⟩ := hr (by omega)
  obtain ⟨r2, e2, hr2⟩ := laws_szEntryS_ev l1 p.1 (fits l1 p.2) r (by omega) (by omega)
  by_cases c1 : r2 < 0
  · obtain ⟨k, hk⟩ := Ev.rounds (Ev.all2 e e2)
    obtain ⟨k1, k2⟩ := all2_some hk
    exact fin k ⟨r, k1, .inr ⟨c0, r2, k2, .inl c1⟩⟩
  obtain ⟨hb1, hl1, hi1⟩ := hr2 (by omega)
  have f0 : ∀ x ∈ l0, x.f1.f3.length ≤ 1048576 := fun x hx => by have := (hi0 x hx).2.2.1; omega
  have f1 : ∀ x ∈ l1, x.f1.f3.length ≤ 1048576 := fun x hx => by have := (hi1 x hx).2.2.1; omega
  have m0 : (l0.map toE).length ≤ 1048576 := by rw [List.length_map]; omega
  have m1 : (l1.map toE).length ≤ 1048576 := by rw [List.length_map]; omega
  have g0 : ∀ x ∈ l0.map toE, x.f1.f3.length ≤ 1048576 := fun x hx => by
    obtain ⟨y, hy, rfl⟩ := List.mem_map.1 hx
    exact f0 y hy
  have g1 : ∀ x ∈ l1.map toE, x.f1.f3.length ≤ 1048576 := fun x hx => by
    obtain ⟨y, hy, rfl⟩ := List.mem_map.1 hx
    exact f1 y hy
  have hd : (differ (l0.map toE) (l1.map toE)).length ≤ 40 := differ_length
  obtain ⟨z0, z1⟩ := endE_le (l0.map toE) 1 g0
  obtain ⟨z2, z3⟩ := endE_le (l1.map toE) (endE (l0.map toE) 1) g1
  have all := Ev.all2 e (Ev.all2 e2 (Ev.all2 (laws_toEntryS_ev l0 (by omega) f0) (Ev.all2 (laws_toEntryS_ev l1 (by omega) f1) (Ev.all2 (spec_Differ_ev _ _ m0 m1 g0 g1) (Ev.all2 (impl_Differ_ev _ _ m0 m1 g0 g1) (Ev.all2 (laws_eqChangeS_ev _ (show (differ (l0.map toE) (l1.map toE)).length ≤ 1048576 by omega)) (Ev.all2 (laws_eqEntryS_ev _ m0 g0) (Ev.all2 (laws_eqEntryS_ev _ m1 g1) (Ev.all2 (laws_markEntryS_from _ m0 g0 1 (by omega) (by omega)) (Ev.all2 (laws_markEntryS_from _ m1 g1 (endE (l0.map toE) 1) (by omega) (by omega)) (Ev.all2 (laws_markChangeS_ev _ (show (differ (l0.map toE) (l1.map toE)).length ≤ 1048576 by omega)) (laws_heldChangeS_ev (differ (l0.map toE) (l1.map toE)).length (by omega)))))))))))))
  obtain ⟨k, hk⟩ := Ev.rounds all
  obtain ⟨k1, hk⟩ := all2_some hk
  obtain ⟨k2, hk⟩ := all2_some hk
  obtain ⟨k3, hk⟩ := all2_some hk
  obtain ⟨k4, hk⟩ := all2_some hk
  obtain ⟨k5, hk⟩ := all2_some hk
  obtain ⟨k6, hk⟩ := all2_some hk
  obtain ⟨k7, hk⟩ := all2_some hk
  obtain ⟨k8, hk⟩ := all2_some hk
  obtain ⟨k9, hk⟩ := all2_some hk
  obtain ⟨k10, hk⟩ := all2_some hk
  obtain ⟨k11, hk⟩ := all2_some hk
  obtain ⟨k12, k13⟩ := all2_some hk
  exact fin k ⟨r, k1, .inr ⟨c0, r2, k2, .inr ⟨c1, _, _, _, _, _, _, _, _, _, k3, k4, k5, k6, k7, k8, k9, k10, k11, by omega, k12, k13, by omega⟩⟩⟩

end Go.Proofs.Ytlekhcopddajbaa.Pure
