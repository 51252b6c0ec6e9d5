/- For every value that reads as data both programs' ValText come to the same text and answer, and the value is left as it was. -/
import Derived.Test.YtliemdoegicbhaaOFnExactValTextx7
import Derived.Test.YtliemdoegicbhaaBase
import Derived.Test.YtliemdoegicbhaaBase2
import Derived.Test.YtliemdoegicbhaaBase3
namespace Go.Proofs.Ytliemdoegicbhaa.Pure
open Go.RowKit Go.Proofs.Ytliemdoegicbhaa.PFnExactValText Go.Proofs.YtliemdoegicbhaaW.PrintWords Go.Proofs.YtliemdoegicbhaaW.PrintLast Go.Proofs.Ytliemdoegicbhaa.Base
set_option linter.unusedVariables false
set_option linter.unusedSimpArgs false

theorem spec_l01In_eq (a b c : Int) : spec_l01In.f a b c = some (decide (b ≤ a ∧ a ≤ c)) := by
  unfold spec_l01In.f
  by_cases h : b ≤ a <;> simp [h]

theorem impl_within_eq (a b c : Int) : impl_within.f a b c = some (decide (b ≤ a ∧ a ≤ c)) := by
  unfold impl_within.f
  by_cases h : b ≤ a <;> simp [h]

theorem laws_szStringS_l0 (l : List ByteArray) (hl : l.length ≤ 1048576) (hf : ∀ x ∈ l, x.size ≤ maxLen) : ∀ (t : List ByteArray) (i : Nat) (left : Int), l.drop i = t → i ≤ l.length → 0 ≤ left → left ≤ 1048576 →
    ∃ r, Ev (fun k => laws_szStringS.l0 k l left (i : Int)) r ∧ (0 ≤ r → r ≤ left ∧ ∀ x ∈ t, (x.size : Int) ≤ left) := by
  intro t
  induction t with
  | nil =>
    intro i left ht hi g0 g1
    have := drop_nil_len ht
    exact ⟨left, Ev.step (f := fun _ => some left) (fun k => by rw [laws_szStringS.l0, if_neg (by omega)]) (Ev.now _), fun _ => ⟨Int.le_refl _, fun x hx => by cases hx⟩⟩
  | cons a t ih =>
    intro i left ht hi g0 g1
    obtain ⟨h1, h2, h3⟩ := rdOf_drop (d := ByteArray.empty) ht
    have ha := hf a (List.mem_of_mem_drop (by rw [ht]; exact List.mem_cons_self))
    unfold maxLen at ha
    by_cases hr0 : left - (a.size : Int) < 0
    · refine ⟨-1, Ev.step (f := fun _ => some (-1)) (fun k => ?_) (Ev.now _), fun h => by omega⟩
      rw [laws_szStringS.l0, if_pos (by omega), if_pos (by omega), h1, w64 (by omega) (by omega), if_pos hr0]
    · obtain ⟨r2, e2, hr2⟩ := ih (i + 1) (left - (a.size : Int)) h3 (by omega) (by omega) (by omega)
      refine ⟨r2, Ev.step (fun k => ?_) e2, fun h => ⟨by have := (hr2 h).1; omega, fun x hx => ?_⟩⟩
      · rw [laws_szStringS.l0, if_pos (by omega), if_pos (by omega), h1, w64 (n := left - (a.size : Int)) (by omega) (by omega), if_neg hr0, w64 (by omega) (by omega)]
        rfl
      · rcases List.mem_cons.1 hx with rfl | hx
        · omega
        · have := (hr2 h).2 x hx
          omega
theorem laws_szStringS_ev (l : List ByteArray) (hl : l.length ≤ maxLen) (hf : ∀ x ∈ l, x.size ≤ maxLen) (left : Int) (g0 : 0 ≤ left) (g1 : left ≤ 1048576) :
    ∃ r, Ev (fun k => laws_szStringS.f k l left) r ∧ (0 ≤ r → r ≤ left ∧ (l.length : Int) ≤ left ∧ ∀ x ∈ l, (x.size : Int) ≤ left) := by
  unfold maxLen at hl
  unfold laws_szStringS.f
  rw [w64 (n := left - (l.length : Int)) (by omega) (by omega)]
  by_cases c1 : left - (l.length : Int) < 0
  · exact ⟨-1, Ev.pos c1 (Ev.now _), fun h => by omega⟩
  · obtain ⟨r, e, hr⟩ := laws_szStringS_l0 l (by omega) hf l 0 (left - (l.length : Int)) rfl (Nat.zero_le _) (by omega) (by omega)
    exact ⟨r, Ev.neg c1 e, fun h => ⟨by have := (hr h).1; omega, by omega, fun x hx => by have := (hr h).2 x hx; omega⟩⟩
theorem laws_szVal_ev (a b : Int) (s : ByteArray) (l : List ByteArray) (hs : s.size ≤ maxLen) (hl : l.length ≤ maxLen) (hf : ∀ x ∈ l, x.size ≤ maxLen) (left : Int) (g0 : 0 ≤ left) (g1 : left ≤ 1048576) :
    ∃ r, Ev (fun k => laws_szVal.f k a b s l left) r ∧ (0 ≤ r → r ≤ left ∧ (s.size : Int) ≤ left ∧ (l.length : Int) ≤ left ∧ ∀ x ∈ l, (x.size : Int) ≤ left) := by
  unfold maxLen at hs
  unfold laws_szVal.f
  rw [w64 (n := left - (s.size : Int)) (by omega) (by omega)]
  by_cases c1 : left - (s.size : Int) < 0
  · exact ⟨-1, Ev.pos c1 (Ev.now _), fun h => by omega⟩
  · obtain ⟨r, e, hr⟩ := laws_szStringS_ev l hl hf (left - (s.size : Int)) (by omega) (by omega)
    by_cases hr0 : r < 0
    · exact ⟨-1, Ev.neg c1 (Ev.bind e (Ev.pos hr0 (Ev.now _))), fun h => by omega⟩
    · refine ⟨r, Ev.neg c1 (Ev.bind e (Ev.neg hr0 (Ev.now _))), fun h => ?_⟩
      obtain ⟨h1, h2, h3⟩ := hr h
      exact ⟨by omega, by omega, by omega, fun x hx => by have := h3 x hx; omega⟩

theorem laws_toStringS_l0 (l : List ByteArray) (hl : l.length ≤ 1048576) : ∀ (d i : Nat) (xs : List ByteArray), xs.length = l.length → i + d = l.length → xs.take i = l.take i → Ev (fun k => laws_toStringS.l0 k l xs (i : Int)) l := by
  intro d
  induction d with
  | zero =>
    intro i xs hx hi ht
    refine Ev.step (f := fun _ => some xs) (fun k => by rw [laws_toStringS.l0, if_neg (by omega)]) (Ev.ret ?_)
    rw [List.take_of_length_le (by omega), List.take_of_length_le (by omega)] at ht
    exact ht
  | succ d ih =>
    intro i xs hx hi ht
    have hr : rdOf ByteArray.empty l (i : Int) = l[i] := rdOf_get (by omega)
    refine Ev.step (fun k => ?_) (ih (i + 1) (xs.set i l[i]) (by rw [List.length_set]; exact hx) (by omega) ?_)
    · rw [laws_toStringS.l0, if_pos (by omega), if_pos (by omega), hr, if_pos (by omega), w64 (by omega) (by omega), Int.toNat_natCast]
      rfl
    · rw [take_set_snoc _ _ _ (by omega), ht, List.take_succ_eq_append_getElem (by omega)]
theorem laws_toStringS_ev (l : List ByteArray) (hl : l.length ≤ 1048576) : Ev (fun k => laws_toStringS.f k l) l := by
  unfold laws_toStringS.f
  exact Ev.pos (by omega) (Ev.pos (by omega) (laws_toStringS_l0 l hl l.length 0 _ (by rw [List.length_replicate]; omega) (by omega) rfl))
theorem laws_toVal_ev (a b : Int) (s : ByteArray) (l : List ByteArray) (hl : l.length ≤ 1048576) : Ev (fun k => laws_toVal.f k a b s l) (a, b, s, l) := by
  unfold laws_toVal.f
  exact Ev.bind (laws_toStringS_ev l hl) (Ev.now _)

theorem laws_eqStringS_l0 (xs : List ByteArray) (hl : xs.length < 140737488355328) : ∀ (t : List ByteArray) (i : Nat), xs.drop i = t → i ≤ xs.length → Ev (fun k => laws_eqStringS.l0 k xs xs (i : Int)) true := by
  intro t
  induction t with
  | nil =>
    intro i ht hi
    have := drop_nil_len ht
    exact Ev.step (f := fun _ => some true) (fun k => by rw [laws_eqStringS.l0, if_neg (by omega)]) (Ev.now _)
  | cons a t ih =>
    intro i ht hi
    obtain ⟨h1, h2, h3⟩ := rdOf_drop (d := ByteArray.empty) ht
    refine Ev.step (f := fun k => laws_eqStringS.l0 k xs xs ((i + 1 : Nat) : Int)) (fun k => ?_) (ih (i + 1) h3 (by omega))
    rw [laws_eqStringS.l0, if_pos (by omega), if_pos (by omega), if_pos (by omega), if_pos rfl, w64 (by omega) (by omega)]
    rfl
theorem laws_eqStringS_ev (xs : List ByteArray) (hl : xs.length < 140737488355328) : Ev (fun k => laws_eqStringS.f k xs xs) true := by
  unfold laws_eqStringS.f
  exact Ev.pos rfl (laws_eqStringS_l0 xs hl xs 0 rfl (Nat.zero_le _))

theorem laws_eqVal_ev (a b : Int) (s : ByteArray) (l : List ByteArray) (hl : l.length ≤ 1048576) : Ev (fun k => laws_eqVal.f k a b s l a b s l) true := by
  unfold laws_eqVal.f
  exact Ev.pos rfl (Ev.pos rfl (Ev.pos rfl (Ev.bind (laws_eqStringS_ev l (by omega)) (Ev.pos rfl (Ev.now _)))))

/-- An item of a right value, by the step at which items ascend. -/
def itemOk (l : List ByteArray) (step i : Nat) (x : ByteArray) : Bool :=
  decide ((x.size : Int) ≤ 60) && (if 0 < step ∧ i % step = 0 ∧ step ≤ i then Op.bytesLess (rdOf ByteArray.empty l ((i : Int) - (step : Int))).toList x.toList else true)
def itemsOkFrom (l : List ByteArray) (step : Nat) : Nat → List ByteArray → Bool
  | _, [] => true
  | i, x :: t => itemOk l step i x && itemsOkFrom l step (i + 1) t
def valOk (kind until' : Int) (s : ByteArray) (l : List ByteArray) : Bool :=
  decide (1 ≤ kind ∧ kind ≤ 4) && decide (0 ≤ until' ∧ until' ≤ 100000) &&
    (if kind = 1 then decide ((s.size : Int) ≤ 60) && decide (l.length = 0)
     else decide (s.toList = []) && decide (1 ≤ (l.length : Int) ∧ (l.length : Int) ≤ 24) && !(decide (kind = 3) && decide ((l.length : Int) % 2 = 1)) && itemsOkFrom l (if kind = 2 then 0 else if kind = 3 then 2 else 1) 0 l)
theorem item_big {l : List ByteArray} {step i : Nat} {x : ByteArray} (h : (x.size : Int) > 60) : itemOk l step i x = false := by
  unfold itemOk; rw [decide_eq_false (by omega)]; rfl
theorem item_plain {l : List ByteArray} {step i : Nat} {x : ByteArray} (h : ¬ (x.size : Int) > 60) (hs : ¬ (0 < step ∧ i % step = 0 ∧ step ≤ i)) : itemOk l step i x = true := by
  unfold itemOk; rw [decide_eq_true (by omega), if_neg hs]; rfl
theorem item_less {l : List ByteArray} {step i : Nat} {x : ByteArray} (h : ¬ (x.size : Int) > 60) (hs : 0 < step ∧ i % step = 0 ∧ step ≤ i) : itemOk l step i x = Op.bytesLess (rdOf ByteArray.empty l ((i : Int) - (step : Int))).toList x.toList := by
  unfold itemOk; rw [decide_eq_true (by omega), if_pos hs]; rfl

theorem spec_ValOk_l0 (kind until' : Int) (s : ByteArray) (l : List ByteArray) (hl : l.length ≤ 1048576) (hk : kind = 2 ∨ kind = 3 ∨ kind = 4) : ∀ (t : List ByteArray) (i : Nat), l.drop i = t → i ≤ l.length →
    Ev (fun k => spec_ValOk.l0 k (i : Int) kind until' s l) (itemsOkFrom l (if kind = 2 then 0 else if kind = 3 then 2 else 1) i t) := by
  intro t
  induction t with
  | nil =>
    intro i ht hi
    have := drop_nil_len ht
    exact Ev.step (f := fun _ => some true) (fun k => by rw [spec_ValOk.l0, if_neg (by omega)]) (Ev.now _)
  | cons a t ih =>
    intro i ht hi
    obtain ⟨h1, h2, h3⟩ := rdOf_drop (d := ByteArray.empty) ht
    have e := ih (i + 1) h3 (by omega)
    rw [show ((i + 1 : Nat) : Int) = (i : Int) + 1 from by omega] at e
    refine Ev.succ ?_
    simp only [spec_ValOk.l0, h1, w64 (n := (i : Int) + 1) (by omega) (by omega), w64 (n := (i : Int) - 1) (by omega) (by omega), w64 (n := (i : Int) - 2) (by omega) (by omega), itemsOkFrom]
    refine Ev.pos (by omega) (Ev.pos (by omega) ?_)
    by_cases hz : (a.size : Int) > 60
    · exact Ev.pos hz (Ev.ret (by rw [item_big hz]; rfl))
    refine Ev.neg hz ?_
    rcases hk with rfl | rfl | rfl
    · rw [show (if (2 : Int) = 2 then 0 else if (2 : Int) = 3 then 2 else 1 : Nat) = 0 from rfl] at e ⊢
      rw [item_plain hz (by omega), Bool.true_and]
      exact Ev.neg (by decide) (Ev.neg (by decide) e)
    · rw [show (if (3 : Int) = 2 then 0 else if (3 : Int) = 3 then 2 else 1 : Nat) = 2 from rfl] at e ⊢
      refine Ev.neg (by decide) (Ev.pos rfl ?_)
      by_cases hi1 : (i : Int) > 1
      · refine Ev.pos hi1 ?_
        rw [tmodp (by omega)]
        by_cases hev : (i : Int) % 2 = 0
        · rw [item_less hz ⟨by omega, by omega, by omega⟩]
          refine Ev.pos hev (Ev.pos (by omega) (Ev.pos (by omega) ?_))
          rw [show ((2 : Nat) : Int) = 2 from rfl]
          cases hb : Op.bytesLess (rdOf ByteArray.empty l ((i : Int) - 2)).toList a.toList with
          | true => exact Ev.pos (by trivial) (by simpa using e)
          | false => exact Ev.neg (by simp) (Ev.ret (by simp))
        · rw [item_plain hz (by omega), Bool.true_and]
          exact Ev.neg hev e
      · rw [item_plain hz (by omega), Bool.true_and]
        exact Ev.neg hi1 e
    · rw [show (if (4 : Int) = 2 then 0 else if (4 : Int) = 3 then 2 else 1 : Nat) = 1 from rfl] at e ⊢
      refine Ev.pos rfl ?_
      by_cases hi1 : (i : Int) > 0
      · rw [item_less hz ⟨by omega, by omega, by omega⟩]
        refine Ev.pos hi1 (Ev.pos (by omega) (Ev.pos (by omega) ?_))
        rw [show ((1 : Nat) : Int) = 1 from rfl]
        cases hb : Op.bytesLess (rdOf ByteArray.empty l ((i : Int) - 1)).toList a.toList with
        | true => exact Ev.pos (by trivial) (Ev.neg (by decide) (by simpa using e))
        | false => exact Ev.neg (by simp) (Ev.ret (by simp))
      · rw [item_plain hz (by omega), Bool.true_and]
        exact Ev.neg hi1 (Ev.neg (by decide) e)
theorem spec_ValOk_j1 (kind until' : Int) (s : ByteArray) (l : List ByteArray) (r : Bool) (hr : r = false) : Ev (fun k => spec_ValOk.j1 k true kind until' s l) r := by
  subst hr
  exact Ev.step (f := fun _ => some false) (fun k => by rw [spec_ValOk.j1, if_pos rfl]) (Ev.now _)
theorem spec_ValOk_ev (kind until' : Int) (s : ByteArray) (l : List ByteArray) (hl : l.length ≤ 1048576) : Ev (fun k => spec_ValOk.f k kind until' s l) (valOk kind until' s l) := by
  have hno : ∀ r : Bool, r = false → Ev (fun k => spec_ValOk.j0 k true kind until' s l) r := fun r hr => by
    subst hr
    exact Ev.step (f := fun _ => some false) (fun k => by rw [spec_ValOk.j0, if_pos rfl]) (Ev.now _)
  unfold spec_ValOk.f valOk
  refine Ev.bind0 (spec_l01In_eq _ _ _) ?_
  by_cases c1 : 1 ≤ kind ∧ kind ≤ 4
  · refine Ev.pos (decide_eq_true c1) (Ev.bind0 (spec_l01In_eq _ _ _) ?_)
    rw [decide_eq_true c1, Bool.true_and]
    by_cases c2 : 0 ≤ until' ∧ until' ≤ 100000
    · rw [decide_eq_true c2, Bool.true_and]
      refine Ev.succ ?_
      simp only [spec_ValOk.j0]
      refine Ev.neg (by decide) ?_
      by_cases c3 : kind = 1
      · refine Ev.tpos c3 (Ev.pos c3 ?_)
        by_cases c4 : (s.size : Int) ≤ 60
        · refine Ev.pos c4 (Ev.ret ?_)
          rw [decide_eq_true c4, Bool.true_and, int_beq]
          exact decide_eq_decide.2 (by omega)
        · exact Ev.neg c4 (Ev.ret (by rw [decide_eq_false c4]; rfl))
      · refine Ev.tneg c3 (Ev.neg c3 ?_)
        by_cases c4 : s.toList = []
        · rw [decide_eq_true c4, Bool.true_and]
          refine Ev.pos c4 (Ev.bind0 (spec_l01In_eq _ _ _) ?_)
          by_cases c5 : 1 ≤ (l.length : Int) ∧ (l.length : Int) ≤ 24
          · rw [decide_eq_true c5, Bool.true_and]
            refine Ev.pos rfl ?_
            have hgo : Ev (fun k => spec_ValOk.j1 k false kind until' s l) (itemsOkFrom l (if kind = 2 then 0 else if kind = 3 then 2 else 1) 0 l) :=
              Ev.step (fun k => by rw [spec_ValOk.j1, if_neg (by decide)]; rfl) (spec_ValOk_l0 kind until' s l hl (by omega) l 0 rfl (Nat.zero_le _))
            by_cases c6 : kind = 3
            · refine Ev.pos c6 ?_
              rw [int_beq]
              by_cases c7 : (l.length : Int) % 2 = 1
              · rw [decide_eq_true c7]
                exact spec_ValOk_j1 _ _ _ _ _ (by rw [decide_eq_true c6]; rfl)
              · rw [decide_eq_false c7, Bool.and_false, Bool.not_false, Bool.true_and]
                exact hgo
            · refine Ev.neg c6 ?_
              rw [decide_eq_false c6, Bool.false_and, Bool.not_false, Bool.true_and]
              exact hgo
          · rw [decide_eq_false c5, Bool.false_and, Bool.false_and]
            exact Ev.neg (by decide) (spec_ValOk_j1 _ _ _ _ _ rfl)
        · rw [decide_eq_false c4, Bool.false_and, Bool.false_and, Bool.false_and]
          exact Ev.neg c4 (spec_ValOk_j1 _ _ _ _ _ rfl)
    · rw [decide_eq_false c2]
      exact hno _ rfl
  · exact Ev.neg (by simpa using c1) (hno _ (by rw [decide_eq_false c1]; rfl))

theorem impl_itemsOk_l0 (l : List ByteArray) (step : Nat) (hl : l.length ≤ 1048576) (hst : step ≤ 2) : ∀ (t : List ByteArray) (i : Nat), l.drop i = t → i ≤ l.length →
    Ev (fun k => impl_itemsOk.l0 k l (step : Int) l (l.length : Int) (i : Int)) (decide (1 ≤ (l.length : Int) ∧ (l.length : Int) ≤ 24) && itemsOkFrom l step i t) := by
  intro t
  induction t with
  | nil =>
    intro i ht hi
    have := drop_nil_len ht
    refine Ev.succ ?_
    simp only [impl_itemsOk.l0]
    exact Ev.neg (by omega) (Ev.bind0 (impl_within_eq _ _ _) (Ev.ret (by rw [itemsOkFrom, Bool.and_true])))
  | cons a t ih =>
    intro i ht hi
    obtain ⟨h1, h2, h3⟩ := rdOf_drop (d := ByteArray.empty) ht
    have e := ih (i + 1) h3 (by omega)
    rw [show ((i + 1 : Nat) : Int) = (i : Int) + 1 from by omega] at e
    refine Ev.succ ?_
    simp only [impl_itemsOk.l0, h1, w64 (n := (i : Int) + 1) (by omega) (by omega), w64 (n := (i : Int) - (step : Int)) (by omega) (by omega), itemsOkFrom]
    refine Ev.pos (by omega) (Ev.pos (by omega) (Ev.pos (by omega) ?_))
    by_cases hz : (a.size : Int) > 60
    · exact Ev.pos hz (Ev.ret (by rw [item_big hz]; simp))
    refine Ev.neg hz ?_
    by_cases hs : (step : Int) > 0
    · refine Ev.pos hs (Ev.neg (by omega) ?_)
      rw [tmodp (by omega), show (i : Int) % (step : Int) = ((i % step : Nat) : Int) from by rw [Int.natCast_emod]]
      by_cases hev : ((i % step : Nat) : Int) = 0
      · refine Ev.pos hev ?_
        by_cases hge : (i : Int) ≥ (step : Int)
        · rw [item_less hz ⟨by omega, by omega, by omega⟩]
          refine Ev.pos hge (Ev.pos (by omega) (Ev.pos (by omega) ?_))
          cases hb : Op.bytesLess (rdOf ByteArray.empty l ((i : Int) - (step : Int))).toList a.toList with
          | true => exact Ev.pos (by trivial) (by simpa using e)
          | false => exact Ev.neg (by simp) (Ev.ret (by simp))
        · rw [item_plain hz (by omega), Bool.true_and]
          exact Ev.neg hge e
      · rw [item_plain hz (by omega), Bool.true_and]
        exact Ev.neg hev e
    · rw [item_plain hz (by omega), Bool.true_and]
      exact Ev.neg hs e
theorem impl_itemsOk_j0 (l : List ByteArray) (step : Nat) (hl : l.length ≤ 1048576) (hst : step ≤ 2) : Ev (fun k => impl_itemsOk.j0 k l (step : Int)) (decide (1 ≤ (l.length : Int) ∧ (l.length : Int) ≤ 24) && itemsOkFrom l step 0 l) :=
  Ev.step (fun k => by rw [impl_itemsOk.j0]; rfl) (impl_itemsOk_l0 l step hl hst l 0 rfl (Nat.zero_le _))
theorem impl_itemsOk_ev (kind : Int) (l : List ByteArray) (hl : l.length ≤ 1048576) (hk : kind = 2 ∨ kind = 3 ∨ kind = 4) :
    Ev (fun k => impl_itemsOk.f k kind l) (decide (1 ≤ (l.length : Int) ∧ (l.length : Int) ≤ 24) && !(decide (kind = 3) && decide ((l.length : Int) % 2 = 1)) && itemsOkFrom l (if kind = 2 then 0 else if kind = 3 then 2 else 1) 0 l) := by
  unfold impl_itemsOk.f
  rcases hk with rfl | rfl | rfl
  · refine Ev.pos rfl ?_
    simpa using impl_itemsOk_j0 l 0 hl (by omega)
  · refine Ev.neg (by decide) (Ev.pos rfl ?_)
    by_cases c7 : (l.length : Int) % 2 = 0
    · refine Ev.pos c7 ?_
      have c8 : ¬ (l.length : Int) % 2 = 1 := by omega
      rw [decide_eq_false c8, Bool.and_false, Bool.not_false, Bool.and_true]
      exact impl_itemsOk_j0 l 2 hl (by omega)
    · have c8 : (l.length : Int) % 2 = 1 := by omega
      exact Ev.neg c7 (Ev.ret (by rw [decide_eq_true c8]; simp))
  · refine Ev.neg (by decide) (Ev.neg (by decide) ?_)
    simpa using impl_itemsOk_j0 l 1 hl (by omega)
theorem impl_ValOk_ev (kind until' : Int) (s : ByteArray) (l : List ByteArray) (hl : l.length ≤ 1048576) : Ev (fun k => impl_ValOk.f k kind until' s l) (valOk kind until' s l) := by
  unfold impl_ValOk.f valOk
  refine Ev.bind0 (impl_within_eq _ _ _) ?_
  by_cases c2 : 0 ≤ until' ∧ until' ≤ 100000
  · refine Ev.pos (decide_eq_true c2) ?_
    rw [decide_eq_true c2, Bool.and_true]
    have each : (kind = 2 ∨ kind = 3 ∨ kind = 4) → Ev (fun k => if s.toList = ([] : List UInt8) then ((impl_itemsOk.f k kind l).bind fun t133 => (some t133)) else (some false))
        (decide (1 ≤ kind ∧ kind ≤ 4) && (if kind = 1 then decide ((s.size : Int) ≤ 60) && decide (l.length = 0) else decide (s.toList = []) && decide (1 ≤ (l.length : Int) ∧ (l.length : Int) ≤ 24) && !(decide (kind = 3) && decide ((l.length : Int) % 2 = 1)) && itemsOkFrom l (if kind = 2 then 0 else if kind = 3 then 2 else 1) 0 l)) := fun hk => by
      rw [show decide (1 ≤ kind ∧ kind ≤ 4) = true from decide_eq_true (by omega), Bool.true_and, if_neg (show ¬ kind = 1 from by omega)]
      by_cases c4 : s.toList = []
      · rw [decide_eq_true c4, Bool.true_and]
        exact Ev.pos c4 (Ev.bind (impl_itemsOk_ev kind l hl hk) (Ev.now _))
      · rw [decide_eq_false c4, Bool.false_and, Bool.false_and, Bool.false_and]
        exact Ev.neg c4 (Ev.now _)
    by_cases c3 : kind = 1
    · rw [show decide (1 ≤ kind ∧ kind ≤ 4) = true from decide_eq_true (by omega), Bool.true_and]
      refine Ev.tpos c3 (Ev.pos c3 ?_)
      by_cases c4 : (s.size : Int) ≤ 60
      · refine Ev.pos c4 (Ev.ret ?_)
        rw [decide_eq_true c4, Bool.true_and, int_beq]
        exact decide_eq_decide.2 (by omega)
      · exact Ev.neg c4 (Ev.ret (by rw [decide_eq_false c4]; rfl))
    · refine Ev.neg c3 ?_
      by_cases d2 : kind = 2
      · exact Ev.pos d2 (each (.inl d2))
      refine Ev.neg d2 ?_
      by_cases d3 : kind = 3
      · exact Ev.pos d3 (each (.inr (.inl d3)))
      refine Ev.neg d3 ?_
      by_cases d4 : kind = 4
      · exact Ev.pos d4 (each (.inr (.inr d4)))
      · refine Ev.neg d4 (Ev.ret ?_)
        rw [show decide (1 ≤ kind ∧ kind ≤ 4) = false from decide_eq_false (by omega)]
        rfl
  · exact Ev.neg (by simpa using c2) (Ev.ret (by rw [decide_eq_false c2, Bool.and_false]; rfl))

theorem spec_l01Var_l0 : ∀ (n : Nat) (acc : List Int), acc.length + n < 140737488355327 → Ev (fun k => spec_l01Var.l0 k (n : Int) acc) (strOfNums (acc ++ vl n)) := by
  intro n
  induction n using Nat.strongRecOn with
  | _ n ih =>
    intro acc h
    by_cases hn : n > 127
    · refine Ev.step (f := fun k => spec_l01Var.l0 k ((n / 128 : Nat) : Int) (acc ++ [((n % 128 + 128 : Nat) : Int)])) (fun k => ?_) ?_
      · rw [spec_l01Var.l0, if_pos (by omega), if_pos (by omega), quo128 (by omega), rem128]
      · have e := ih (n / 128) (by omega) (acc ++ [((n % 128 + 128 : Nat) : Int)]) (by rw [List.length_append, List.length_singleton]; omega)
        rw [vl_big hn]
        rwa [List.append_assoc] at e
    · refine Ev.step (f := fun _ => some (strOfNums (acc ++ vl n))) (fun k => ?_) (Ev.now _)
      rw [spec_l01Var.l0, if_neg (by omega), if_pos (by omega), vl_small hn, show (n : Int) % 256 = (n : Int) from by omega]
theorem spec_l01Var_ev {a : Int} (h : 0 ≤ a) (h' : a < 140737488355327) : Ev (fun k => spec_l01Var.f k a) (strOfNums (vl a.toNat)) := by
  obtain ⟨n, rfl⟩ := Int.eq_ofNat_of_zero_le h
  exact spec_l01Var_l0 n [] (by simp; omega)

theorem impl_VarText_l0 : ∀ (n : Nat) (acc : List Int), acc.length + n < 140737488355327 → Ev (fun k => impl_VarText.l0 k (n : Int) acc) (strOfNums (acc ++ vl n), true) := by
  intro n
  induction n using Nat.strongRecOn with
  | _ n ih =>
    intro acc h
    by_cases hn : n > 127
    · refine Ev.step (f := fun k => impl_VarText.l0 k ((n / 128 : Nat) : Int) (acc ++ [((n % 128 + 128 : Nat) : Int)])) (fun k => ?_) ?_
      · rw [impl_VarText.l0, if_pos (by omega), if_pos (by omega), quo128 (by omega), rem128]
      · have e := ih (n / 128) (by omega) (acc ++ [((n % 128 + 128 : Nat) : Int)]) (by rw [List.length_append, List.length_singleton]; omega)
        rw [vl_big hn]
        rwa [List.append_assoc] at e
    · refine Ev.step (f := fun _ => some (strOfNums (acc ++ vl n), true)) (fun k => ?_) (Ev.now _)
      rw [impl_VarText.l0, if_neg (by omega), if_pos (by omega), vl_small hn, show (n : Int) % 256 = (n : Int) from by omega]
theorem impl_VarText_ev (a : Int) : Ev (fun k => impl_VarText.f k a) (varText a) := by
  unfold impl_VarText.f
  refine Ev.bind0 (impl_within_eq _ _ _) ?_
  by_cases h : 0 ≤ a ∧ a ≤ 1000000000
  · refine Ev.pos (by simpa using h) ?_
    rw [varText_yes h.1 h.2]
    obtain ⟨n, rfl⟩ := Int.eq_ofNat_of_zero_le h.1
    exact impl_VarText_l0 n [] (by simp; omega)
  · refine Ev.neg (by simpa using h) (Ev.ret (varText_no h).symm)

theorem impl_ShortText_ev (s : ByteArray) : Ev (fun k => impl_ShortText.f k s) (shortText s) := by
  unfold impl_ShortText.f shortText
  by_cases h : s.size > 20000
  · rw [if_pos h]
    exact Ev.pos (by omega) (Ev.now _)
  · rw [if_neg h]
    have hv := vl_len 3 s.size (by omega) (by omega)
    refine Ev.neg (by omega) (Ev.bind (impl_VarText_ev _) ?_)
    rw [varText_yes (by omega) (by omega), Int.toNat_natCast]
    exact Ev.pos (by rw [strOfNums_size]; omega) (Ev.now _)

def shortB (s : ByteArray) : ByteArray := strOfNums (vl s.size) ++ s
theorem shortB_size (s : ByteArray) : (shortB s).size = (vl s.size).length + s.size := by rw [shortB, app_size, strOfNums_size]
theorem short_len {s : ByteArray} (h : s.size ≤ 1048576) : (vl s.size).length ≤ 3 := vl_len 3 s.size (by omega) (by omega)
def addShorts (acc : ByteArray) (l : List ByteArray) : ByteArray := l.foldl (fun a x => a ++ shortB x) acc
def valHead (kind until' : Int) (s : ByteArray) (l : List ByteArray) : ByteArray := strOfNums [kind % 256] ++ strOfNums (vl until'.toNat) ++ shortB s ++ strOfNums (vl l.length)
def valText (kind until' : Int) (s : ByteArray) (l : List ByteArray) : ByteArray × Bool := if valOk kind until' s l = true then (addShorts (valHead kind until' s l) l, true) else noText
theorem items_small (l : List ByteArray) (step : Nat) : ∀ (t : List ByteArray) (i : Nat), itemsOkFrom l step i t = true → ∀ x ∈ t, x.size ≤ 60 := by
  intro t
  induction t with
  | nil => intro i _ x hx; cases hx
  | cons a t ih =>
    intro i h x hx
    rw [itemsOkFrom, Bool.and_eq_true] at h
    rcases List.mem_cons.1 hx with rfl | hx
    · apply Classical.byContradiction
      intro hn
      rw [item_big (by omega)] at h
      exact absurd h.1 (by decide)
    · exact ih (i + 1) h.2 x hx
theorem valOk_facts {kind until' : Int} {s : ByteArray} {l : List ByteArray} (h : valOk kind until' s l = true) : 1 ≤ kind ∧ kind ≤ 4 ∧ 0 ≤ until' ∧ until' ≤ 100000 ∧ s.size ≤ 60 ∧ l.length ≤ 24 ∧ ∀ x ∈ l, x.size ≤ 60 := by
  unfold valOk at h
  rw [Bool.and_eq_true, Bool.and_eq_true, decide_eq_true_eq, decide_eq_true_eq] at h
  obtain ⟨⟨h1, h2⟩, h3⟩ := h
  by_cases hk : kind = 1
  · rw [if_pos hk, Bool.and_eq_true, decide_eq_true_eq, decide_eq_true_eq] at h3
    have hl : l = [] := List.length_eq_zero_iff.1 h3.2
    exact ⟨h1.1, h1.2, h2.1, h2.2, by omega, by omega, fun x hx => by rw [hl] at hx; cases hx⟩
  · rw [if_neg hk, Bool.and_eq_true, Bool.and_eq_true, Bool.and_eq_true, decide_eq_true_eq, decide_eq_true_eq] at h3
    obtain ⟨⟨⟨h4, h5⟩, _⟩, h6⟩ := h3
    have hs : s.size = 0 := by rw [← size_len, ← Lib.toList_data, h4]; rfl
    exact ⟨h1.1, h1.2, h2.1, h2.2, by omega, by omega, items_small l _ l 0 h6⟩
theorem spec_l05Short_ev (s : ByteArray) (h : s.size ≤ 1048576) : Ev (fun k => spec_l05Short.f k s) (shortB s) := by
  unfold spec_l05Short.f
  refine Ev.bind (spec_l01Var_ev (by omega) (by omega)) ?_
  rw [Int.toNat_natCast]
  have := short_len h
  exact Ev.pos (by rw [strOfNums_size]; omega) (Ev.now _)
theorem impl_short_ev (s : ByteArray) (h : s.size ≤ 20000) : Ev (fun k => impl_short.f k s) (shortB s) := by
  unfold impl_short.f
  refine Ev.bind (impl_ShortText_ev s) (Ev.ret ?_)
  rw [shortText, if_neg (by omega)]
  rfl

theorem spec_ValText_l0 (a b : Int) (s : ByteArray) (l : List ByteArray) (hl : l.length ≤ 24) (hf : ∀ x ∈ l, x.size ≤ 60) : ∀ (t : List ByteArray) (i : Nat) (acc : ByteArray), l.drop i = t → i ≤ l.length → acc.size ≤ 1000 + 64 * i →
    Ev (fun k => spec_ValText.l0 k acc (i : Int) a b s l) (addShorts acc t, true) := by
  intro t
  induction t with
  | nil =>
    intro i acc ht hi hz
    have := drop_nil_len ht
    exact Ev.step (f := fun _ => some (acc, true)) (fun k => by rw [spec_ValText.l0, if_neg (by omega)]) (Ev.now _)
  | cons x t ih =>
    intro i acc ht hi hz
    obtain ⟨h1, h2, h3⟩ := rdOf_drop (d := ByteArray.empty) ht
    have hx := hf x (List.mem_of_mem_drop (by rw [ht]; exact List.mem_cons_self))
    have hv := vl_len 1 x.size (by omega) (by omega)
    have e := ih (i + 1) (acc ++ shortB x) h3 (by omega) (by rw [app_size, shortB_size]; omega)
    rw [show ((i + 1 : Nat) : Int) = (i : Int) + 1 from by omega] at e
    refine Ev.succ ?_
    simp only [spec_ValText.l0, h1, w64 (n := (i : Int) + 1) (by omega) (by omega)]
    exact Ev.pos (by omega) (Ev.pos (by omega) (Ev.bind (spec_l05Short_ev x (by omega)) (Ev.pos (by rw [shortB_size]; omega) e)))
theorem spec_ValText_ev (kind until' : Int) (s : ByteArray) (l : List ByteArray) (hl : l.length ≤ 1048576) : Ev (fun k => spec_ValText.f k kind until' s l) (valText kind until' s l) := by
  unfold spec_ValText.f valText
  refine Ev.bind (spec_ValOk_ev kind until' s l hl) ?_
  cases hv : valOk kind until' s l with
  | false => exact Ev.neg (by decide) (Ev.tneg (by decide) (Ev.now _))
  | true =>
    obtain ⟨f1, f2, f3, f4, f5, f6, f7⟩ := valOk_facts hv
    have v1 := vl_len 3 until'.toNat (by omega) (by omega)
    have v2 := vl_len 1 s.size (by omega) (by omega)
    have v3 := vl_len 1 l.length (by omega) (by omega)
    refine Ev.pos (by trivial) (Ev.tpos (by trivial) (Ev.bind0 rfl (Ev.bind (spec_l01Var_ev f3 (by omega)) ?_)))
    refine Ev.pos (by rw [strOfNums_size, strOfNums_size, List.length_singleton]; omega) (Ev.bind (spec_l05Short_ev s (by omega)) ?_)
    refine Ev.pos (by rw [app_size, shortB_size, strOfNums_size, strOfNums_size, List.length_singleton]; omega) (Ev.bind (spec_l01Var_ev (by omega) (by omega)) ?_)
    rw [Int.toNat_natCast]
    refine Ev.pos (by rw [app_size, app_size, shortB_size, strOfNums_size, strOfNums_size, strOfNums_size, List.length_singleton]; omega) ?_
    exact spec_ValText_l0 kind until' s l f6 f7 l 0 _ rfl (Nat.zero_le _) (by rw [app_size, app_size, app_size, shortB_size, strOfNums_size, strOfNums_size, strOfNums_size, List.length_singleton]; omega)

theorem impl_ValText_l0 (l : List ByteArray) (hl : l.length ≤ 24) (hf : ∀ x ∈ l, x.size ≤ 60) : ∀ (t : List ByteArray) (i : Nat) (acc : ByteArray), l.drop i = t → i ≤ l.length → acc.size ≤ 1000 + 64 * i →
    Ev (fun k => impl_ValText.l0 k acc l (l.length : Int) (i : Int)) (addShorts acc t, true) := by
  intro t
  induction t with
  | nil =>
    intro i acc ht hi hz
    have := drop_nil_len ht
    exact Ev.step (f := fun _ => some (acc, true)) (fun k => by rw [impl_ValText.l0, if_neg (by omega)]) (Ev.now _)
  | cons x t ih =>
    intro i acc ht hi hz
    obtain ⟨h1, h2, h3⟩ := rdOf_drop (d := ByteArray.empty) ht
    have hx := hf x (List.mem_of_mem_drop (by rw [ht]; exact List.mem_cons_self))
    have hv := vl_len 1 x.size (by omega) (by omega)
    have e := ih (i + 1) (acc ++ shortB x) h3 (by omega) (by rw [app_size, shortB_size]; omega)
    rw [show ((i + 1 : Nat) : Int) = (i : Int) + 1 from by omega] at e
    refine Ev.succ ?_
    simp only [impl_ValText.l0, h1, w64 (n := (i : Int) + 1) (by omega) (by omega)]
    exact Ev.pos (by omega) (Ev.pos (by omega) (Ev.pos (by omega) (Ev.bind (impl_short_ev x (by omega)) (Ev.pos (by rw [shortB_size]; omega) e))))
theorem impl_ValText_ev (kind until' : Int) (s : ByteArray) (l : List ByteArray) (hl : l.length ≤ 1048576) : Ev (fun k => impl_ValText.f k kind until' s l) (valText kind until' s l) := by
  unfold impl_ValText.f valText
  refine Ev.bind (impl_ValOk_ev kind until' s l hl) ?_
  cases hv : valOk kind until' s l with
  | false => exact Ev.neg (by decide) (Ev.tneg (by decide) (Ev.now _))
  | true =>
    obtain ⟨f1, f2, f3, f4, f5, f6, f7⟩ := valOk_facts hv
    have v1 := vl_len 3 until'.toNat (by omega) (by omega)
    have v2 := vl_len 1 s.size (by omega) (by omega)
    have v3 := vl_len 1 l.length (by omega) (by omega)
    refine Ev.pos (by trivial) (Ev.tpos (by trivial) (Ev.bind (impl_VarText_ev _) (Ev.bind (impl_VarText_ev _) (Ev.bind0 rfl ?_))))
    rw [varText_yes f3 (by omega), varText_yes (by omega) (by omega), Int.toNat_natCast]
    refine Ev.pos (by rw [strOfNums_size, strOfNums_size, List.length_singleton]; omega) (Ev.bind (impl_short_ev s (by omega)) ?_)
    refine Ev.pos (by rw [app_size, shortB_size, strOfNums_size, strOfNums_size, List.length_singleton]; omega) ?_
    refine Ev.pos (by rw [app_size, app_size, shortB_size, strOfNums_size, strOfNums_size, strOfNums_size, List.length_singleton]; omega) ?_
    exact impl_ValText_l0 l f6 f7 l 0 _ rfl (Nat.zero_le _) (by rw [app_size, app_size, app_size, shortB_size, strOfNums_size, strOfNums_size, strOfNums_size, List.length_singleton]; omega)

theorem FnExactValText (a b : Int) (s : ByteArray) (l : List ByteArray) (o : (Lit.int .i64 a).wf = true ∧ (Lit.int .i64 b).wf = true ∧ s.size ≤ maxLen ∧ l.length ≤ maxLen ∧ ∀ x ∈ l, x.size ≤ maxLen) : ∃ k, laws_FnExactValText.f k a b s l = some true := by
  refine Ev.rounds (r := true) ?_
  unfold laws_FnExactValText.f
  obtain ⟨r, e, hr⟩ := laws_szVal_ev a b s l o.2.2.1 o.2.2.2.1 o.2.2.2.2 1048576 (by omega) (by omega)
  refine Ev.bind e ?_
  by_cases h0 : r < 0
  · exact Ev.pos h0 (Ev.now _)
  have hb := (hr (by omega)).2.2.1
  have hl : l.length ≤ 1048576 := by omega
  refine Ev.neg h0 (Ev.bind (laws_toVal_ev a b s l hl) (Ev.bind (spec_ValText_ev a b s l hl) (Ev.bind (laws_toVal_ev a b s l hl) (Ev.bind (impl_ValText_ev a b s l hl) (Ev.pos rfl ?_)))))
  refine Ev.succ ?_
  simp only [laws_FnExactValText.j0]
  exact Ev.neg (by simp) (Ev.bind (laws_toVal_ev a b s l hl) (Ev.bind (laws_eqVal_ev a b s l hl) (Ev.pos rfl (Ev.now _))))

end Go.Proofs.Ytliemdoegicbhaa.Pure
