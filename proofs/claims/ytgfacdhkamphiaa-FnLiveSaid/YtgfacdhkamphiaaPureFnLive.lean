/- For every draw, of the drawn table what is past its time is left out and nothing else, and what is found is what stands there. -/
import Derived.Test.YtgfacdhkamphiaaOFnLivex8
import Derived.Test.YtgfacdhkamphiaaBase
import Derived.Test.YtgfacdhkamphiaaBase2
import Derived.Test.YtgfacdhkamphiaaBase3
namespace Go.Proofs.Ytgfacdhkamphiaa.Pure
open Go.RowKit Go.Proofs.Ytgfacdhkamphiaa.PFnLive Go.Proofs.YtgfacdhkamphiaaW.PrintWords Go.Proofs.YtgfacdhkamphiaaW.PrintLast Go.Proofs.Ytgfacdhkamphiaa.Base
set_option linter.unusedVariables false
set_option linter.unusedSimpArgs false

theorem rd_T90_drop {xs : List S90} {i : Nat} {a : S90} {t : List S90} (h : xs.drop i = a :: t) : rd_T90 xs (i : Int) = a ∧ i < xs.length ∧ xs.drop (i + 1) = t := rdOf_drop (d := z90) h

theorem laws_big_eq (l : List Int) : laws_big.f l = some (decide ((l.length : Int) > 1048576)) := rfl
theorem spec_l01New_l0 (l : List Int) (hl : l.length ≤ 1048576) : ∀ (d : Nat) (x i : Int), 0 ≤ i → (l.length : Int) - i ≤ d → ∃ h, Ev (fun k => spec_l01New.l0 k l x i) (l, 0, h) := by
  intro d
  induction d with
  | zero =>
    intro x i h0 hd
    exact ⟨x, Ev.step (f := fun _ => some (l, 0, x)) (fun k => by rw [spec_l01New.l0, if_neg (by omega)]) (Ev.now _)⟩
  | succ d ih =>
    intro x i h0 hd
    by_cases h1 : i < (l.length : Int)
    · by_cases h2 : i < 4000
      · obtain ⟨h, e⟩ := ih (Go.bits .and .i64 (wrap64 ((wrap64 ((wrap64 (x * 131)) + (wrap64 (rd l i)))) + 7)) 1073741823) (i + 1) (by omega) (by omega)
        refine ⟨h, Ev.step (fun k => ?_) e⟩
        rw [spec_l01New.l0, if_pos h1, if_pos h2, if_pos h0, w64 (n := i + 1) (by omega) (by omega)]
      · exact ⟨x, Ev.step (f := fun _ => some (l, 0, x)) (fun k => by rw [spec_l01New.l0, if_pos h1, if_neg h2]) (Ev.now _)⟩
    · exact ⟨x, Ev.step (f := fun _ => some (l, 0, x)) (fun k => by rw [spec_l01New.l0, if_neg h1]) (Ev.now _)⟩
theorem spec_l01New_ev (l : List Int) (hl : l.length ≤ 1048576) : ∃ h, Ev (fun k => spec_l01New.f k l) (l, 0, h) := by
  obtain ⟨h, e⟩ := spec_l01New_l0 l hl l.length (wrap64 (12701 + (l.length : Int))) 0 (by omega) (by omega)
  exact ⟨h, e⟩
/-- The cursor stands within the draw. -/
def cur (l : List Int) (i : Int) : Prop := 0 ≤ i ∧ i ≤ l.length ∧ l.length ≤ 1048576
theorem spec_l01Byte_some {l : List Int} {i : Int} (h : Int) (hc : cur l i) : ∃ b i' h', spec_l01Byte.f l i h = some (b, i', h') ∧ 0 ≤ b ∧ b ≤ 255 ∧ cur l i' := by
  obtain ⟨h0, h1, h2⟩ := hc
  unfold spec_l01Byte.f
  by_cases hlt : i < (l.length : Int)
  · rw [if_pos hlt, if_pos h0]
    exact ⟨_, _, _, rfl, (and255 _).1, (and255 _).2, by rw [w64 (by omega) (by omega)]; omega, by rw [w64 (by omega) (by omega)]; omega, h2⟩
  · rw [if_neg hlt]
    exact ⟨_, _, _, rfl, (and255 _).1, (and255 _).2, h0, h1, h2⟩
theorem spec_l01Below_some {l : List Int} {i : Int} (h n : Int) (hn : n ≤ 9223372036854775807) (hc : cur l i) : ∃ x i' h', spec_l01Below.f l i h n = some (x, i', h') ∧ cur l i' ∧ (n ≤ 0 → x = 0) ∧ (0 < n → 0 ≤ x ∧ x < n) := by
  unfold spec_l01Below.f
  by_cases h1 : n ≤ 0
  · rw [if_pos h1]
    exact ⟨_, _, _, rfl, hc, fun _ => rfl, fun _ => by omega⟩
  rw [if_neg h1]
  by_cases h2 : n ≤ 256
  · rw [if_pos h2]
    obtain ⟨b, i', h', e, b0, b1, c'⟩ := spec_l01Byte_some h hc
    rw [e, Option.bind_some, if_neg (by omega)]
    exact ⟨_, _, _, rfl, c', fun _ => by omega, fun _ => by rw [tmodp b0]; exact ⟨Int.emod_nonneg _ (by omega), Int.emod_lt_of_pos _ (by omega)⟩⟩
  · rw [if_neg h2]
    obtain ⟨b, i1, h1', e1, b0, b1, c1⟩ := spec_l01Byte_some h hc
    obtain ⟨b2, i2, h2', e2, b20, b21, c2⟩ := spec_l01Byte_some h1' c1
    obtain ⟨b3, i3, h3', e3, b30, b31, c3⟩ := spec_l01Byte_some h2' c2
    obtain ⟨b4, i4, h4', e4, b40, b41, c4⟩ := spec_l01Byte_some h3' c3
    rw [e1, Option.bind_some, e2, Option.bind_some, e3, Option.bind_some, e4, Option.bind_some, if_neg (by omega)]
    have hw : 0 ≤ wrap64 (wrap64 (wrap64 (wrap64 (b * 16777216) + wrap64 (b2 * 65536)) + wrap64 (b3 * 256)) + b4) := by unfold wrap64; omega
    exact ⟨_, _, _, rfl, c4, fun _ => by omega, fun _ => by rw [tmodp hw]; exact ⟨Int.emod_nonneg _ (by omega), Int.emod_lt_of_pos _ (by omega)⟩⟩

theorem spec_DrawPlaces_l0 (l : List Int) : ∀ (d : Nat) (j : Int) (acc : List Int) (i h : Int), cur l i → j + d = 12 → 0 ≤ j → (acc.length : Int) = j → (∀ x ∈ acc, 0 ≤ x ∧ x < 10000) →
    ∃ p, Ev (fun k => spec_DrawPlaces.l0 k acc j l i h) p ∧ p.length = 12 ∧ ∀ x ∈ p, 0 ≤ x ∧ x < 10000 := by
  intro d
  induction d with
  | zero =>
    intro j acc i h hc hj h0 ha hr
    exact ⟨acc, Ev.step (f := fun _ => some acc) (fun k => by rw [spec_DrawPlaces.l0, if_neg (by omega)]) (Ev.now _), by omega, hr⟩
  | succ d ih =>
    intro j acc i h hc hj h0 ha hr
    obtain ⟨x, i', h', e, c', _, hx⟩ := spec_l01Below_some h 10000 (by omega) hc
    obtain ⟨p, ep, h1, h2⟩ := ih (j + 1) (acc ++ [x]) i' h' c' (by omega) (by omega) (by rw [List.length_append, List.length_singleton]; omega) (by
      intro y hy
      rw [List.mem_append, List.mem_singleton] at hy
      rcases hy with hy | rfl
      · exact hr y hy
      · exact hx (by omega))
    refine ⟨p, Ev.step (fun k => ?_) ep, h1, h2⟩
    rw [spec_DrawPlaces.l0, if_pos (by omega), e, Option.bind_some, if_pos (by omega), w64 (by omega) (by omega)]
theorem spec_DrawPlaces_ev (l : List Int) (hl : l.length ≤ 1048576) : ∃ p, Ev (fun k => spec_DrawPlaces.f k l) p ∧ p.length = 12 ∧ ∀ x ∈ p, 0 ≤ x ∧ x < 10000 := by
  obtain ⟨h, e⟩ := spec_l01New_ev l hl
  obtain ⟨b, i', h', e2, _, _, c'⟩ := spec_l01Byte_some (l := l) (i := 0) h ⟨by omega, by omega, hl⟩
  obtain ⟨p, ep, h1, h2⟩ := spec_DrawPlaces_l0 l 12 0 [] i' h' c' (by omega) (by omega) (by simp) (by simp)
  refine ⟨p, ?_, h1, h2⟩
  unfold spec_DrawPlaces.f
  exact Ev.bind e (Ev.bind0 e2 ep)

theorem spec_l01In_eq (a b c : Int) : spec_l01In.f a b c = some (decide (b ≤ a ∧ a ≤ c)) := by
  unfold spec_l01In.f
  by_cases h : b ≤ a <;> simp [h]

theorem spec_l01Once_some {l : List Int} {i : Int} (h n : Int) (hn : n ≤ 9223372036854775807) (hc : cur l i) : ∃ b i' h', spec_l01Once.f l i h n = some (b, i', h') ∧ cur l i' := by
  obtain ⟨x, i', h', e, c', _⟩ := spec_l01Below_some h n hn hc
  exact ⟨_, i', h', by unfold spec_l01Once.f; rw [e, Option.bind_some], c'⟩

/-- An item of a right value, by the step at which items ascend. -/
def itemOk (l : List ByteArray) (step i : Nat) (x : ByteArray) : Bool :=
  decide ((x.size : Int) ≤ 60) && (if 0 < step ∧ i % step = 0 ∧ step ≤ i then Op.bytesLess (rdOf ByteArray.empty l ((i : Int) - (step : Int))).toList x.toList else true)
def itemsOkFrom (l : List ByteArray) (step : Nat) : Nat → List ByteArray → Bool
  | _, [] => true
  | i, x :: t => itemOk l step i x && itemsOkFrom l step (i + 1) t
def valOk (kind until' : Int) (s : ByteArray) (l : List ByteArray) : Bool :=
  decide (1 ≤ kind ∧ kind ≤ 4) && decide (0 ≤ until' ∧ until' ≤ 100000) &&
    (if kind = 1 then decide ((s.size : Int) ≤ 60) && decide (l.length = 0)
     else decide (s.toList = []) && decide (1 ≤ (l.length : Int) ∧ (l.length : Int) ≤ 24) && !(decide (kind = 3) && decide ((l.length : Int) % 2 = 1)) && itemsOkFrom l (if kind = 2 then 0 else if kind = 3 then 2 else 1) 0 l)
theorem item_big {l : List ByteArray} {step i : Nat} {x : ByteArray} (h : (x.size : Int) > 60) : itemOk l step i x = false := by
  unfold itemOk; rw [decide_eq_false (by omega)]; rfl
theorem item_plain {l : List ByteArray} {step i : Nat} {x : ByteArray} (h : ¬ (x.size : Int) > 60) (hs : ¬ (0 < step ∧ i % step = 0 ∧ step ≤ i)) : itemOk l step i x = true := by
  unfold itemOk; rw [decide_eq_true (by omega), if_neg hs]; rfl
theorem item_less {l : List ByteArray} {step i : Nat} {x : ByteArray} (h : ¬ (x.size : Int) > 60) (hs : 0 < step ∧ i % step = 0 ∧ step ≤ i) : itemOk l step i x = Op.bytesLess (rdOf ByteArray.empty l ((i : Int) - (step : Int))).toList x.toList := by
  unfold itemOk; rw [decide_eq_true (by omega), if_pos hs]; rfl

theorem spec_ValOk_l0 (kind until' : Int) (s : ByteArray) (l : List ByteArray) (hl : l.length ≤ 1048576) (hk : kind = 2 ∨ kind = 3 ∨ kind = 4) : ∀ (t : List ByteArray) (i : Nat), l.drop i = t → i ≤ l.length →
    Ev (fun k => spec_ValOk.l0 k (i : Int) kind until' s l) (itemsOkFrom l (if kind = 2 then 0 else if kind = 3 then 2 else 1) i t) := by
  intro t
  induction t with
  | nil =>
    intro i ht hi
    have := drop_nil_len ht
    exact Ev.step (f := fun _ => some true) (fun k => by rw [spec_ValOk.l0, if_neg (by omega)]) (Ev.now _)
  | cons a t ih =>
    intro i ht hi
    obtain ⟨h1, h2, h3⟩ := rdOf_drop (d := ByteArray.empty) ht
    have e := ih (i + 1) h3 (by omega)
    rw [show ((i + 1 : Nat) : Int) = (i : Int) + 1 from by omega] at e
    refine Ev.succ ?_
    simp only [spec_ValOk.l0, h1, w64 (n := (i : Int) + 1) (by omega) (by omega), w64 (n := (i : Int) - 1) (by omega) (by omega), w64 (n := (i : Int) - 2) (by omega) (by omega), itemsOkFrom]
    refine Ev.pos (by omega) (Ev.pos (by omega) ?_)
    by_cases hz : (a.size : Int) > 60
    · exact Ev.pos hz (Ev.ret (by rw [item_big hz]; rfl))
    refine Ev.neg hz ?_
    rcases hk with rfl | rfl | rfl
    · rw [show (if (2 : Int) = 2 then 0 else if (2 : Int) = 3 then 2 else 1 : Nat) = 0 from rfl] at e ⊢
      rw [item_plain hz (by omega), Bool.true_and]
      exact Ev.neg (by decide) (Ev.neg (by decide) e)
    · rw [show (if (3 : Int) = 2 then 0 else if (3 : Int) = 3 then 2 else 1 : Nat) = 2 from rfl] at e ⊢
      refine Ev.neg (by decide) (Ev.pos rfl ?_)
      by_cases hi1 : (i : Int) > 1
      · refine Ev.pos hi1 ?_
        rw [tmodp (by omega)]
        by_cases hev : (i : Int) % 2 = 0
        · rw [item_less hz ⟨by omega, by omega, by omega⟩]
          refine Ev.pos hev (Ev.pos (by omega) (Ev.pos (by omega) ?_))
          rw [show ((2 : Nat) : Int) = 2 from rfl]
          cases hb : Op.bytesLess (rdOf ByteArray.empty l ((i : Int) - 2)).toList a.toList with
          | true => exact Ev.pos (by trivial) (by simpa using e)
          | false => exact Ev.neg (by simp) (Ev.ret (by simp))
        · rw [item_plain hz (by omega), Bool.true_and]
          exact Ev.neg hev e
      · rw [item_plain hz (by omega), Bool.true_and]
        exact Ev.neg hi1 e
    · rw [show (if (4 : Int) = 2 then 0 else if (4 : Int) = 3 then 2 else 1 : Nat) = 1 from rfl] at e ⊢
      refine Ev.pos rfl ?_
      by_cases hi1 : (i : Int) > 0
      · rw [item_less hz ⟨by omega, by omega, by omega⟩]
        refine Ev.pos hi1 (Ev.pos (by omega) (Ev.pos (by omega) ?_))
        rw [show ((1 : Nat) : Int) = 1 from rfl]
        cases hb : Op.bytesLess (rdOf ByteArray.empty l ((i : Int) - 1)).toList a.toList with
        | true => exact Ev.pos (by trivial) (Ev.neg (by decide) (by simpa using e))
        | false => exact Ev.neg (by simp) (Ev.ret (by simp))
      · rw [item_plain hz (by omega), Bool.true_and]
        exact Ev.neg hi1 (Ev.neg (by decide) e)
theorem spec_ValOk_j1 (kind until' : Int) (s : ByteArray) (l : List ByteArray) (r : Bool) (hr : r = false) : Ev (fun k => spec_ValOk.j1 k true kind until' s l) r := by
  subst hr
  exact Ev.step (f := fun _ => some false) (fun k => by rw [spec_ValOk.j1, if_pos rfl]) (Ev.now _)
theorem spec_ValOk_ev (kind until' : Int) (s : ByteArray) (l : List ByteArray) (hl : l.length ≤ 1048576) : Ev (fun k => spec_ValOk.f k kind until' s l) (valOk kind until' s l) := by
  have hno : ∀ r : Bool, r = false → Ev (fun k => spec_ValOk.j0 k true kind until' s l) r := fun r hr => by
    subst hr
    exact Ev.step (f := fun _ => some false) (fun k => by rw [spec_ValOk.j0, if_pos rfl]) (Ev.now _)
  unfold spec_ValOk.f valOk
  refine Ev.bind0 (spec_l01In_eq _ _ _) ?_
  by_cases c1 : 1 ≤ kind ∧ kind ≤ 4
  · refine Ev.pos (decide_eq_true c1) (Ev.bind0 (spec_l01In_eq _ _ _) ?_)
    rw [decide_eq_true c1, Bool.true_and]
    by_cases c2 : 0 ≤ until' ∧ until' ≤ 100000
    · rw [decide_eq_true c2, Bool.true_and]
      refine Ev.succ ?_
      simp only [spec_ValOk.j0]
      refine Ev.neg (by decide) ?_
      by_cases c3 : kind = 1
      · refine Ev.tpos c3 (Ev.pos c3 ?_)
        by_cases c4 : (s.size : Int) ≤ 60
        · refine Ev.pos c4 (Ev.ret ?_)
          rw [decide_eq_true c4, Bool.true_and, int_beq]
          exact decide_eq_decide.2 (by omega)
        · exact Ev.neg c4 (Ev.ret (by rw [decide_eq_false c4]; rfl))
      · refine Ev.tneg c3 (Ev.neg c3 ?_)
        by_cases c4 : s.toList = []
        · rw [decide_eq_true c4, Bool.true_and]
          refine Ev.pos c4 (Ev.bind0 (spec_l01In_eq _ _ _) ?_)
          by_cases c5 : 1 ≤ (l.length : Int) ∧ (l.length : Int) ≤ 24
          · rw [decide_eq_true c5, Bool.true_and]
            refine Ev.pos rfl ?_
            have hgo : Ev (fun k => spec_ValOk.j1 k false kind until' s l) (itemsOkFrom l (if kind = 2 then 0 else if kind = 3 then 2 else 1) 0 l) :=
              Ev.step (fun k => by rw [spec_ValOk.j1, if_neg (by decide)]; rfl) (spec_ValOk_l0 kind until' s l hl (by omega) l 0 rfl (Nat.zero_le _))
            by_cases c6 : kind = 3
            · refine Ev.pos c6 ?_
              rw [int_beq]
              by_cases c7 : (l.length : Int) % 2 = 1
              · rw [decide_eq_true c7]
                exact spec_ValOk_j1 _ _ _ _ _ (by rw [decide_eq_true c6]; rfl)
              · rw [decide_eq_false c7, Bool.and_false, Bool.not_false, Bool.true_and]
                exact hgo
            · refine Ev.neg c6 ?_
              rw [decide_eq_false c6, Bool.false_and, Bool.not_false, Bool.true_and]
              exact hgo
          · rw [decide_eq_false c5, Bool.false_and, Bool.false_and]
            exact Ev.neg (by decide) (spec_ValOk_j1 _ _ _ _ _ rfl)
        · rw [decide_eq_false c4, Bool.false_and, Bool.false_and, Bool.false_and]
          exact Ev.neg c4 (spec_ValOk_j1 _ _ _ _ _ rfl)
    · rw [decide_eq_false c2]
      exact hno _ rfl
  · exact Ev.neg (by simpa using c1) (hno _ (by rw [decide_eq_false c1]; rfl))

/-- An entry of a right table, by itself; a table's entries behind the one ahead. -/
def entryOk (x : S90) : Bool := decide (1 ≤ (x.f0.size : Int) ∧ (x.f0.size : Int) ≤ 20) && valOk x.f1.f0 x.f1.f1 x.f1.f2 x.f1.f3
def entriesOk : Option S90 → List S90 → Bool
  | _, [] => true
  | none, x :: l => entryOk x && entriesOk (some x) l
  | some y, x :: l => entryOk x && Op.bytesLess y.f0.toList x.f0.toList && entriesOk (some x) l
def tableOk (l : List S90) : Bool := decide (l.length ≤ 20) && entriesOk none l
def ahead (l : List S90) (i : Nat) : Option S90 := if 0 < i then l[i - 1]? else none
theorem ahead_succ {l : List S90} {i : Nat} {a : S90} {t : List S90} (h : l.drop i = a :: t) : ahead l (i + 1) = some a := by
  unfold ahead
  rw [if_pos (by omega), Nat.add_sub_cancel]
  have := congrArg (fun z => z[0]?) h
  simpa using this
theorem rd_ahead {l : List S90} {i : Nat} (h : 0 < i) (hi : i ≤ l.length) : ahead l i = some (rd_T90 l ((i : Int) - 1)) := by
  unfold ahead
  rw [if_pos h]
  obtain ⟨j, rfl⟩ : ∃ j, i = j + 1 := ⟨i - 1, by omega⟩
  rw [Nat.add_sub_cancel, show ((j + 1 : Nat) : Int) - 1 = (j : Int) from by omega]
  have e : rd_T90 l (j : Int) = l[j] := rdOf_get (d := z90) (by omega)
  rw [e, List.getElem?_eq_getElem (by omega)]
theorem entries_bad {o : Option S90} {a : S90} {t : List S90} (h : entryOk a = false) : entriesOk o (a :: t) = false := by cases o <;> simp [entriesOk, h]
theorem spec_TableOk_l0 (l : List S90) (hl : l.length ≤ 1048576) (hf : ∀ x ∈ l, x.f1.f3.length ≤ 1048576) : ∀ (t : List S90) (i : Nat), l.drop i = t → i ≤ l.length → Ev (fun k => spec_TableOk.l0 k l (i : Int)) (entriesOk (ahead l i) t) := by
  intro t
  induction t with
  | nil =>
    intro i ht hi
    have := drop_nil_len ht
    refine Ev.step (f := fun _ => some true) (fun k => by rw [spec_TableOk.l0, if_neg (by omega)]) (Ev.ret ?_)
    cases ahead l i <;> rfl
  | cons a t ih =>
    intro i ht hi
    obtain ⟨h1, h2, h3⟩ := rd_T90_drop ht
    have hfa := hf a (List.mem_of_mem_drop (by rw [ht]; exact List.mem_cons_self))
    have e := ih (i + 1) h3 (by omega)
    rw [ahead_succ ht, show ((i + 1 : Nat) : Int) = (i : Int) + 1 from by omega] at e
    refine Ev.succ ?_
    simp only [spec_TableOk.l0, h1, w64 (n := (i : Int) + 1) (by omega) (by omega), w64 (n := (i : Int) - 1) (by omega) (by omega)]
    refine Ev.pos (by omega) (Ev.pos (by omega) (Ev.bind0 (spec_l01In_eq _ _ _) ?_))
    by_cases c1 : 1 ≤ (a.f0.size : Int) ∧ (a.f0.size : Int) ≤ 20
    · refine Ev.pos (decide_eq_true c1) ?_
      have eok : entryOk a = valOk a.f1.f0 a.f1.f1 a.f1.f2 a.f1.f3 := by unfold entryOk; rw [decide_eq_true c1, Bool.true_and]
      have hv : ∀ r : Bool, (valOk a.f1.f0 a.f1.f1 a.f1.f2 a.f1.f3 = true → r = entriesOk (some a) t) → (valOk a.f1.f0 a.f1.f1 a.f1.f2 a.f1.f3 = false → r = false) →
          Ev (fun k => (spec_ValOk.f k a.f1.f0 a.f1.f1 a.f1.f2 a.f1.f3).bind fun t126 => (if t126 = true then (spec_TableOk.l0 k l ((i : Int) + 1)) else (some false))) r := fun r r1 r2 => by
        refine Ev.bind (spec_ValOk_ev _ _ _ _ hfa) ?_
        cases hb : valOk a.f1.f0 a.f1.f1 a.f1.f2 a.f1.f3 with
        | true => rw [r1 hb]; exact Ev.pos rfl e
        | false => rw [r2 hb]; exact Ev.neg (by decide) (Ev.now _)
      by_cases c4 : 0 < i
      · refine Ev.pos (by omega) (Ev.pos (by omega) (Ev.pos (by omega) ?_))
        rw [rd_ahead c4 hi]
        simp only [entriesOk, eok]
        cases hb : Op.bytesLess (rd_T90 l ((i : Int) - 1)).f0.toList a.f0.toList with
        | true => exact Ev.pos (by trivial) (hv _ (fun h => by rw [h]; rfl) (fun h => by rw [h]; rfl))
        | false => exact Ev.neg (by simp) (Ev.ret (by simp))
      · refine Ev.neg (by omega) ?_
        rw [show ahead l i = none from if_neg c4]
        simp only [entriesOk, eok]
        exact hv _ (fun h => by rw [h]; rfl) (fun h => by rw [h]; rfl)
    · exact Ev.neg (by simpa using c1) (Ev.ret (entries_bad (by unfold entryOk; rw [decide_eq_false c1]; rfl)).symm)
theorem spec_TableOk_ev (l : List S90) (hl : l.length ≤ 1048576) (hf : ∀ x ∈ l, x.f1.f3.length ≤ 1048576) : Ev (fun k => spec_TableOk.f k l) (tableOk l) := by
  unfold spec_TableOk.f tableOk
  by_cases h : (l.length : Int) > 20
  · exact Ev.pos h (Ev.ret (by rw [decide_eq_false (by omega)]; rfl))
  · refine Ev.neg h ?_
    rw [show decide (l.length ≤ 20) = true from decide_eq_true (by omega), Bool.true_and]
    exact spec_TableOk_l0 l hl hf l 0 rfl (Nat.zero_le _)

def findE (l : List S90) (key : ByteArray) : Option S90 := l.find? (fun x => decide (x.f0.toList = key.toList))
def findVal (l : List S90) (key : ByteArray) : Int × Int × ByteArray × List ByteArray × Bool :=
  match findE l key with
  | some x => (x.f1.f0, x.f1.f1, x.f1.f2, x.f1.f3, true)
  | none => (0, 0, (⟨#[]⟩ : ByteArray), [], false)
theorem findVal_items {l : List S90} {key : ByteArray} (hf : ∀ x ∈ l, x.f1.f3.length ≤ 1048576) : (findVal l key).2.2.2.1.length ≤ 1048576 := by
  unfold findVal
  cases h : findE l key with
  | some x => exact hf x (List.mem_of_find?_eq_some h)
  | none => exact Nat.zero_le _

theorem idxFrom_find {α : Type} (p : α → Bool) : ∀ (l : List α) (i : Nat), (l.find? p = none ∧ idxFrom p l i = -1) ∨ ∃ j x, l.find? p = some x ∧ idxFrom p l i = ((i + j : Nat) : Int) ∧ l[j]? = some x
  | [], i => .inl ⟨rfl, rfl⟩
  | x :: t, i => by
    rw [idxFrom, List.find?_cons]
    cases h : p x with
    | true => exact .inr ⟨0, x, rfl, by rw [if_pos rfl]; rfl, rfl⟩
    | false =>
      rw [if_neg (by decide)]
      rcases idxFrom_find p t (i + 1) with ⟨h1, h2⟩ | ⟨j, y, h1, h2, h3⟩
      · exact .inl ⟨h1, by rw [← h2]; congr 1⟩
      · exact .inr ⟨j + 1, y, h1, by rw [show i + (j + 1) = i + 1 + j by omega, ← h2]; congr 1, by simpa using h3⟩
theorem impl_Find_eq (l : List S90) (key : ByteArray) (hf : ∀ x ∈ l, x.f1.f3.length ≤ 1048576) : impl_Find.f l key = some (findVal l key) := by
  unfold impl_Find.f findVal findE
  rcases idxFrom_find (fun x : S90 => decide (x.f0.toList = key.toList)) l 0 with ⟨h1, h2⟩ | ⟨j, x, h1, h2, h3⟩
  · rw [show ((0 : Nat) : Int) = (0 : Int) from rfl] at h2
    rw [h1, h2, if_pos (by omega)]
  · rw [show ((0 : Nat) : Int) = (0 : Int) from rfl, Nat.zero_add] at h2
    have hx := hf x (List.mem_of_getElem? h3)
    have hr : rd_T90 l (j : Int) = x := by
      obtain ⟨hj, e⟩ := List.getElem?_eq_some_iff.1 h3
      exact (rdOf_get (d := z90) hj).trans e
    rw [h1, h2, if_neg (by omega), hr]
    unfold impl_copyVal.f
    rw [if_pos (by simp; omega)]
    rfl

def liveOk (now : Int) (x : S90) : Bool := decide (x.f1.f1 = 0 ∨ now < x.f1.f1)
def liveE (l : List S90) (now : Int) : List S90 := l.filter (liveOk now)
theorem liveE_items {l : List S90} {now : Int} (hf : ∀ x ∈ l, x.f1.f3.length ≤ 1048576) : ∀ x ∈ liveE l now, x.f1.f3.length ≤ 1048576 := fun x hx => hf x (List.mem_filter.1 hx).1
theorem liveE_length {l : List S90} {now : Int} : (liveE l now).length ≤ l.length := List.length_filter_le _ _

theorem impl_copyVal_eq (a b : Int) (c : ByteArray) (l : List ByteArray) (h : l.length ≤ 1048576) : impl_copyVal.f a b c l = some (a, b, c, l) := by
  unfold impl_copyVal.f
  rw [if_pos (by simp; omega)]
  rfl
theorem impl_copyTable_l0 (l : List S90) (hl : l.length ≤ 1048576) (hf : ∀ x ∈ l, x.f1.f3.length ≤ 1048576) : ∀ (t : List S90) (i : Nat) (out : List S90), l.drop i = t → i ≤ l.length → out.length ≤ i → Ev (fun k => impl_copyTable.l0 k out l (l.length : Int) (i : Int)) (out ++ t) := by
  intro t
  induction t with
  | nil =>
    intro i out ht hi ho
    have := drop_nil_len ht
    refine Ev.step (f := fun _ => some out) (fun k => by rw [impl_copyTable.l0, if_neg (by omega)]) (Ev.ret ?_)
    rw [List.append_nil]
  | cons a t ih =>
    intro i out ht hi ho
    obtain ⟨h1, h2, h3⟩ := rd_T90_drop ht
    have ha := hf a (List.mem_of_mem_drop (by rw [ht]; exact List.mem_cons_self))
    have e := ih (i + 1) (out ++ [a]) h3 (by omega) (by rw [List.length_append, List.length_singleton]; omega)
    rw [List.append_assoc] at e
    refine Ev.succ ?_
    simp only [impl_copyTable.l0, h1, w64 (n := (i : Int) + 1) (by omega) (by omega)]
    exact Ev.pos (by omega) (Ev.pos (by omega) (Ev.pos (by omega) (Ev.bind0 (impl_copyVal_eq _ _ _ _ ha) (Ev.pos (by omega) e))))
theorem impl_copyTable_ev (l : List S90) (hl : l.length ≤ 1048576) (hf : ∀ x ∈ l, x.f1.f3.length ≤ 1048576) : Ev (fun k => impl_copyTable.f k l) l :=
  impl_copyTable_l0 l hl hf l 0 [] rfl (Nat.zero_le _) (Nat.le_refl _)
theorem impl_Live_ev (l : List S90) (now : Int) (hl : l.length ≤ 1048576) (hf : ∀ x ∈ l, x.f1.f3.length ≤ 1048576) : Ev (fun k => impl_Live.f k l now) (liveE l now) := by
  unfold impl_Live.f
  refine Ev.bind (impl_copyTable_ev l hl hf) (Ev.ret ?_)
  unfold liveE
  congr 1
  funext x
  unfold liveOk
  by_cases c1 : x.f1.f1 = 0
  · simp [c1, delE]
  · by_cases c2 : x.f1.f1 ≤ now
    · rw [decide_eq_false (by omega)]; simp [c1, c2, delE]
    · rw [decide_eq_true (by omega)]; simp [c2, delE]

theorem laws_sameTexts_l0 (xs : List ByteArray) (hl : xs.length < 140737488355328) : ∀ (t : List ByteArray) (i : Nat), xs.drop i = t → i ≤ xs.length → Ev (fun k => laws_sameTexts.l0 k xs xs (i : Int)) true := by
  intro t
  induction t with
  | nil =>
    intro i ht hi
    have := drop_nil_len ht
    exact Ev.step (f := fun _ => some true) (fun k => by rw [laws_sameTexts.l0, if_neg (by omega)]) (Ev.now _)
  | cons a t ih =>
    intro i ht hi
    obtain ⟨h1, h2, h3⟩ := rdOf_drop (d := ByteArray.empty) ht
    refine Ev.step (f := fun k => laws_sameTexts.l0 k xs xs ((i + 1 : Nat) : Int)) (fun k => ?_) (ih (i + 1) h3 (by omega))
    rw [laws_sameTexts.l0, if_pos (by omega), if_pos (by omega), if_pos (by omega), if_pos rfl, w64 (by omega) (by omega)]
    rfl
theorem laws_sameTexts_ev (xs : List ByteArray) (hl : xs.length < 140737488355328) : Ev (fun k => laws_sameTexts.f k xs xs) true := by
  unfold laws_sameTexts.f
  exact Ev.pos rfl (laws_sameTexts_l0 xs hl xs 0 rfl (Nat.zero_le _))

theorem laws_sameVal_ev (a b : Int) (s : ByteArray) (l : List ByteArray) (hl : l.length ≤ 1048576) : Ev (fun k => laws_sameVal.f k a b s l a b s l) true := by
  unfold laws_sameVal.f
  exact Ev.pos rfl (Ev.pos rfl (Ev.pos rfl (Ev.bind (laws_sameTexts_ev l (by omega)) (Ev.now _))))

theorem less_trans : ∀ (x y z : List UInt8), Op.bytesLess x y = true → Op.bytesLess y z = true → Op.bytesLess x z = true
  | _, _, [], _, h => by simp [Op.bytesLess] at h
  | _, [], _ :: _, h, _ => by simp [Op.bytesLess] at h
  | [], _ :: _, _ :: _, _, _ => rfl
  | a :: x, b :: y, c :: z, h, k => by
    simp only [Op.bytesLess, Bool.or_eq_true, Bool.and_eq_true, decide_eq_true_eq, beq_iff_eq] at h k ⊢
    rcases h with h | ⟨h, h'⟩
    · rcases k with k | ⟨k, k'⟩
      · exact .inl (UInt8.lt_trans h k)
      · exact .inl (k ▸ h)
    · rcases k with k | ⟨k, k'⟩
      · exact .inl (h ▸ k)
      · exact .inr ⟨h.trans k, less_trans x y z h' k'⟩
theorem less_irrefl : ∀ (x : List UInt8), ¬ Op.bytesLess x x = true
  | [] => by simp [Op.bytesLess]
  | a :: x => by
    simp only [Op.bytesLess, Bool.or_eq_true, Bool.and_eq_true, decide_eq_true_eq, beq_iff_eq, not_or, not_and]
    exact ⟨UInt8.lt_irrefl a, fun _ => less_irrefl x⟩
/-- Names that ascend. -/
def upN : Option ByteArray → List ByteArray → Bool
  | _, [] => true
  | none, n :: t => upN (some n) t
  | some y, n :: t => Op.bytesLess y.data.toList n.data.toList && upN (some n) t
def lessN (a b : ByteArray) : Prop := Op.bytesLess a.data.toList b.data.toList = true
theorem upN_pair : ∀ (l : List ByteArray) (o : Option ByteArray), upN o l = true → l.Pairwise lessN ∧ ∀ y, o = some y → ∀ x ∈ l, lessN y x
  | [], _, _ => ⟨List.Pairwise.nil, fun _ _ x hx => by cases hx⟩
  | n :: t, none, h => by
    obtain ⟨h1, h2⟩ := upN_pair t (some n) h
    exact ⟨List.pairwise_cons.2 ⟨h2 n rfl, h1⟩, fun y hy => by cases hy⟩
  | n :: t, some y, h => by
    simp only [upN, Bool.and_eq_true] at h
    obtain ⟨h1, h2⟩ := upN_pair t (some n) h.2
    refine ⟨List.pairwise_cons.2 ⟨h2 n rfl, h1⟩, fun z hz x hx => ?_⟩
    cases hz
    rcases List.mem_cons.1 hx with rfl | hx
    · exact h.1
    · exact less_trans _ _ _ h.1 (h2 n rfl x hx)
theorem pair_upN : ∀ (l : List ByteArray) (o : Option ByteArray), l.Pairwise lessN → (∀ y, o = some y → ∀ x ∈ l, lessN y x) → upN o l = true
  | [], _, _, _ => rfl
  | n :: t, none, h, _ => by
    obtain ⟨h1, h2⟩ := List.pairwise_cons.1 h
    exact pair_upN t (some n) h2 (fun y hy => by cases hy; exact h1)
  | n :: t, some y, h, k => by
    obtain ⟨h1, h2⟩ := List.pairwise_cons.1 h
    simp only [upN, Bool.and_eq_true]
    exact ⟨k y rfl n List.mem_cons_self, pair_upN t (some n) h2 (fun y hy => by cases hy; exact h1)⟩
theorem lessN_ne {a b : ByteArray} (h : lessN a b) : a ≠ b := by
  rintro rfl
  exact less_irrefl _ h

/-! #### tables whose keys ascend -/
theorem entries_up : ∀ (l : List S90) (o : Option S90), (∀ x ∈ l, entryOk x = true) → entriesOk o l = upN (o.map (·.f0)) (l.map (·.f0))
  | [], o, _ => by cases o <;> rfl
  | x :: t, none, h => by
    have ih := entries_up t (some x) (fun y hy => h y (List.mem_cons_of_mem _ hy))
    simp only [entriesOk, h x List.mem_cons_self, Bool.true_and, ih]
    rfl
  | x :: t, some y, h => by
    have ih := entries_up t (some x) (fun y hy => h y (List.mem_cons_of_mem _ hy))
    simp only [entriesOk, h x List.mem_cons_self, Bool.true_and, ih, Lib.toList_data]
    rfl
/-- A right table, told by its keys. -/
def goodT (t : List S90) : Prop := t.length ≤ 20 ∧ (∀ x ∈ t, entryOk x = true) ∧ (t.map (·.f0)).Pairwise lessN
theorem goodT_ok {t : List S90} (h : goodT t) : tableOk t = true := by
  unfold tableOk
  rw [decide_eq_true h.1, Bool.true_and, entries_up t none h.2.1]
  exact pair_upN _ _ h.2.2 (fun y hy => by cases hy)
theorem goodT_filter {t : List S90} (h : goodT t) (p : S90 → Bool) : goodT (t.filter p) :=
  ⟨Nat.le_trans (List.length_filter_le _ _) h.1, fun x hx => h.2.1 x (List.mem_filter.1 hx).1, h.2.2.sublist (List.Sublist.map _ List.filter_sublist)⟩
/-- Two entries of a right table with one key are one. -/
theorem one_key {t : List S90} (h : (t.map (·.f0)).Pairwise lessN) : ∀ x ∈ t, ∀ y ∈ t, x.f0 = y.f0 → x = y := by
  induction t with
  | nil => intro x hx; cases hx
  | cons a t ih =>
    rw [List.map_cons, List.pairwise_cons] at h
    intro x hx y hy e
    rcases List.mem_cons.1 hx with hxa | hx'
    · rcases List.mem_cons.1 hy with hya | hy'
      · rw [hxa, hya]
      · exact absurd e (lessN_ne (hxa ▸ h.1 y.f0 (List.mem_map.2 ⟨y, hy', rfl⟩)))
    · rcases List.mem_cons.1 hy with hya | hy'
      · exact absurd e.symm (lessN_ne (hya ▸ h.1 x.f0 (List.mem_map.2 ⟨x, hx', rfl⟩)))
      · exact ih h.2 x hx' y hy' e
theorem findE_mem {t : List S90} (h : (t.map (·.f0)).Pairwise lessN) {x : S90} (hx : x ∈ t) : findE t x.f0 = some x := by
  unfold findE
  cases hq : t.find? (fun y => decide (y.f0.toList = x.f0.toList)) with
  | none =>
    have := List.find?_eq_none.1 hq x hx
    simp at this
  | some y =>
    have h1 := List.find?_some hq
    have h2 := List.mem_of_find?_eq_some hq
    have e : y.f0 = x.f0 := toList_inj (of_decide_eq_true h1)
    rw [one_key h y h2 x hx e]
theorem findE_none {t : List S90} {key : ByteArray} (h : ∀ x ∈ t, x.f0 ≠ key) : findE t key = none := by
  unfold findE
  rw [List.find?_eq_none]
  intro x hx
  simp only [decide_eq_true_eq]
  exact fun e => h x hx (toList_inj e)
theorem findE_filter {t : List S90} (h : (t.map (·.f0)).Pairwise lessN) (p : S90 → Bool) {x : S90} (hx : x ∈ t) : findE (t.filter p) x.f0 = if p x = true then some x else none := by
  by_cases c : p x = true
  · rw [if_pos c]
    exact findE_mem (h.sublist (List.Sublist.map _ List.filter_sublist)) (List.mem_filter.2 ⟨hx, c⟩)
  · rw [if_neg c]
    refine findE_none fun y hy e => c ?_
    obtain ⟨hy1, hy2⟩ := List.mem_filter.1 hy
    rw [← one_key h y hy1 x hx e]
    exact hy2

theorem digit_text (n : Nat) (h : n < 10) : strOfNums [((48 + n : Nat) : Int)] = ⟨#[UInt8.ofNat (48 + n)]⟩ := by
  apply ba_ext
  rw [strOfNums_data]
  show [UInt8.ofNat (((48 + n : Nat) : Int)).toNat] = _
  rw [Int.toNat_natCast]
theorem spec_l01Figure_eq (n : Nat) (h : n < 10) : spec_l01Figure.f (n : Int) = some ((48 + n : Nat) : Int) := by
  unfold spec_l01Figure.f
  rw [if_pos (by omega), w64 (by omega) (by omega)]
  congr 1
  omega
/-- A number of two figures. -/
def decTwo (n : Nat) : ByteArray := ⟨#[UInt8.ofNat (48 + n / 10), UInt8.ofNat (48 + n % 10)]⟩
theorem spec_Decimal_two (n : Nat) (h : 10 ≤ n) (h2 : n < 100) : Ev (fun k => spec_Decimal.f k (n : Int)) (decTwo n) := by
  have hz : ∀ m : Nat, (strOfNums [((48 + m : Nat) : Int)]).size = 1 := fun m => by rw [strOfNums_size, List.length_singleton]
  have he : (⟨#[]⟩ : ByteArray).size = 0 := rfl
  unfold spec_Decimal.f
  refine Ev.neg (by omega) ?_
  rw [show decide ((n : Int) < 0) = false from decide_eq_false (by omega)]
  refine Ev.succ ?_
  simp only [spec_Decimal.l0]
  rw [tmodp (by omega), tdivp (by omega), w64 (n := (n : Int) / 10) (by omega) (by omega), show (n : Int) % 10 = ((n % 10 : Nat) : Int) from by omega, show (n : Int) / 10 = ((n / 10 : Nat) : Int) from by omega]
  refine Ev.neg (by omega) (Ev.neg (by omega) (Ev.bind0 (spec_l01Figure_eq (n % 10) (by omega)) (Ev.bind0 rfl (Ev.pos (by rw [hz, he]; omega) (Ev.succ ?_)))))
  simp only [spec_Decimal.l0]
  rw [tmodp (by omega), tdivp (by omega), w64 (n := ((n / 10 : Nat) : Int) / 10) (by omega) (by omega), show ((n / 10 : Nat) : Int) % 10 = ((n / 10 : Nat) : Int) from by omega, show ((n / 10 : Nat) : Int) / 10 = 0 from by omega]
  refine Ev.neg (by omega) (Ev.neg (by omega) (Ev.bind0 (spec_l01Figure_eq (n / 10) (by omega)) (Ev.bind0 rfl (Ev.pos (by rw [app_size, hz, hz, he]; omega) (Ev.succ ?_)))))
  simp only [spec_Decimal.l0]
  refine Ev.pos (by trivial) (Ev.neg (by decide) (Ev.ret ?_))
  rw [digit_text _ (by omega), digit_text _ (by omega)]
  apply ba_ext
  rw [app_data, app_data]
  rfl

/-! #### drawn values and tables -/
def words8 : List ByteArray := [(⟨#[]⟩ : ByteArray), (⟨#[49]⟩ : ByteArray), (⟨#[45, 55]⟩ : ByteArray), (⟨#[120]⟩ : ByteArray), (⟨#[121, 121]⟩ : ByteArray), (⟨#[104, 101, 108, 108, 111]⟩ : ByteArray), (⟨#[49, 50]⟩ : ByteArray), (⟨#[97, 32, 98]⟩ : ByteArray)]
def names4 : List ByteArray := [(⟨#[102]⟩ : ByteArray), (⟨#[103]⟩ : ByteArray), (⟨#[104]⟩ : ByteArray), (⟨#[105]⟩ : ByteArray)]
def keys6 : List ByteArray := [(⟨#[97]⟩ : ByteArray), (⟨#[98]⟩ : ByteArray), (⟨#[99]⟩ : ByteArray), (⟨#[100]⟩ : ByteArray), (⟨#[107, 101, 121]⟩ : ByteArray), (⟨#[107, 107]⟩ : ByteArray)]
theorem words8_small : ∀ n : Fin 8, (rdOf ByteArray.empty words8 ((n.val : Nat) : Int)).size ≤ 60 := by decide
theorem spec_l10Word_some {l : List Int} {i : Int} (h : Int) (hc : cur l i) : ∃ s i' h', spec_l10Word.f l i h = some (s, i', h') ∧ cur l i' ∧ s.size ≤ 60 := by
  obtain ⟨x, i', h', e, c', _, hx⟩ := spec_l01Below_some h 8 (by omega) hc
  obtain ⟨x0, x1⟩ := hx (by omega)
  obtain ⟨n, rfl⟩ := Int.eq_ofNat_of_zero_le x0
  refine ⟨rdOf ByteArray.empty words8 (n : Int), i', h', ?_, c', words8_small ⟨n, by omega⟩⟩
  have q : spec_l01Pick.f l i h words8 = some (rdOf ByteArray.empty words8 (n : Int), i', h') := by
    unfold spec_l01Pick.f
    rw [show ((words8.length : Nat) : Int) = 8 from rfl, e, Option.bind_some, if_pos (by omega), if_pos (by omega)]
  unfold spec_l10Word.f
  show (spec_l01Pick.f l i h words8).bind _ = _
  rw [q, Option.bind_some]
/-- The choices out of the first j names: the first is always among them. -/
def sets : Nat → List (List ByteArray)
  | 0 => [[]]
  | 1 => [[rdOf ByteArray.empty names4 0]]
  | j + 2 => sets (j + 1) ++ (sets (j + 1)).map (· ++ [rdOf ByteArray.empty names4 ((j + 1 : Nat) : Int)])
theorem sets_skip {j : Nat} {ns : List ByteArray} (h : ns ∈ sets j) (hj : 0 < j) : ns ∈ sets (j + 1) := by
  obtain ⟨m, rfl⟩ : ∃ m, j = m + 1 := ⟨j - 1, by omega⟩
  exact List.mem_append_left _ h
theorem sets_take {j : Nat} {ns : List ByteArray} (h : ns ∈ sets j) : ns ++ [rdOf ByteArray.empty names4 (j : Int)] ∈ sets (j + 1) := by
  cases j with
  | zero =>
    obtain rfl : ns = [] := by simpa [sets] using h
    exact List.mem_cons_self
  | succ m => exact List.mem_append_right _ (List.mem_map.2 ⟨ns, h, rfl⟩)
theorem sets_len : ∀ j : Fin 5, ∀ ns ∈ sets j.val, ns.length ≤ 4 := by decide
theorem sets_end : ∀ ns ∈ sets 4, upN none ns = true ∧ 1 ≤ ns.length ∧ ns.length ≤ 4 ∧ ∀ n ∈ ns, n.size ≤ 60 := by decide
def flatP (ps : List (ByteArray × ByteArray)) : List ByteArray := ps.flatMap fun p => [p.1, p.2]
theorem flatP_length (ps : List (ByteArray × ByteArray)) : (flatP ps).length = 2 * ps.length := by
  induction ps with
  | nil => rfl
  | cons p t ih => rw [show flatP (p :: t) = p.1 :: p.2 :: flatP t from rfl, List.length_cons, List.length_cons, List.length_cons, ih]; omega
theorem flatP_append (a b : List (ByteArray × ByteArray)) : flatP (a ++ b) = flatP a ++ flatP b := by simp [flatP]
/-- Items of a set: they ascend. -/
theorem items_set : ∀ (t : List ByteArray) (a l : List ByteArray) (o : Option ByteArray), l = a ++ t → (o = a.getLast?) → upN o t = true → (∀ n ∈ t, n.size ≤ 60) → itemsOkFrom l 1 a.length t = true
  | [], _, _, _, _, _, _, _ => rfl
  | n :: t, a, l, o, hl, ho, hu, hs => by
    have hn := hs n List.mem_cons_self
    have hrest : itemsOkFrom l 1 (a.length + 1) t = true := by
      have := items_set t (a ++ [n]) l (some n) (by rw [hl, List.append_assoc]; rfl) (by simp) (by cases o <;> simp [upN] at hu <;> first | exact hu | exact hu.2) (fun m hm => hs m (List.mem_cons_of_mem _ hm))
      rwa [List.length_append, List.length_singleton] at this
    rw [itemsOkFrom, hrest, Bool.and_true]
    cases hlast : a.getLast? with
    | none =>
      obtain rfl : a = [] := List.getLast?_eq_none_iff.1 hlast
      exact item_plain (by omega) (by simp)
    | some y =>
      obtain ⟨b, rfl⟩ : ∃ b, a = b ++ [y] := List.getLast?_eq_some_iff.1 hlast
      rw [ho, hlast] at hu
      simp only [upN, Bool.and_eq_true] at hu
      rw [item_less (by omega) ⟨by omega, Nat.mod_one _, by rw [List.length_append, List.length_singleton]; omega⟩]
      have e : rdOf ByteArray.empty l (((b ++ [y]).length : Int) - ((1 : Nat) : Int)) = y := by
        rw [show (((b ++ [y]).length : Int) - ((1 : Nat) : Int)) = (b.length : Int) from by rw [List.length_append, List.length_singleton]; omega, hl]
        rw [rdOf_get (by rw [List.length_append, List.length_append, List.length_singleton]; omega)]
        simp
      rw [e, Lib.toList_data, Lib.toList_data]
      exact hu.1
/-- Items of fields: the names ascend. -/
theorem items_fields : ∀ (t : List (ByteArray × ByteArray)) (a : List (ByteArray × ByteArray)) (l : List ByteArray) (o : Option ByteArray), l = flatP (a ++ t) → (o = a.getLast?.map (·.1)) → upN o (t.map (·.1)) = true → (∀ p ∈ t, p.1.size ≤ 60 ∧ p.2.size ≤ 60) → itemsOkFrom l 2 (2 * a.length) (flatP t) = true
  | [], _, _, _, _, _, _, _ => rfl
  | p :: t, a, l, o, hl, ho, hu, hs => by
    obtain ⟨hn, hw⟩ := hs p List.mem_cons_self
    have hrest : itemsOkFrom l 2 (2 * a.length + 1 + 1) (flatP t) = true := by
      have := items_fields t (a ++ [p]) l (some p.1) (by rw [hl, List.append_assoc]; rfl) (by simp) (by cases o <;> simp [upN] at hu <;> first | exact hu | exact hu.2) (fun m hm => hs m (List.mem_cons_of_mem _ hm))
      rw [List.length_append, List.length_singleton] at this
      rwa [show 2 * a.length + 1 + 1 = 2 * (a.length + 1) from by omega]
    rw [show flatP (p :: t) = p.1 :: p.2 :: flatP t from rfl, itemsOkFrom, itemsOkFrom, hrest, Bool.and_true, item_plain (x := p.2) (by omega) (by rw [show (2 * a.length + 1) % 2 = 1 from by omega]; simp), Bool.and_true]
    cases hlast : a.getLast? with
    | none =>
      obtain rfl : a = [] := List.getLast?_eq_none_iff.1 hlast
      exact item_plain (by omega) (by simp)
    | some y =>
      obtain ⟨b, rfl⟩ : ∃ b, a = b ++ [y] := List.getLast?_eq_some_iff.1 hlast
      rw [ho, hlast] at hu
      simp only [Option.map_some, List.map_cons, upN, Bool.and_eq_true] at hu
      rw [item_less (by omega) ⟨by omega, by omega, by rw [List.length_append, List.length_singleton]; omega⟩]
      have e : rdOf ByteArray.empty l (((2 * (b ++ [y]).length : Nat) : Int) - ((2 : Nat) : Int)) = y.1 := by
        rw [show (((2 * (b ++ [y]).length : Nat) : Int) - ((2 : Nat) : Int)) = ((2 * b.length : Nat) : Int) from by rw [List.length_append, List.length_singleton]; omega, hl, List.append_assoc, flatP_append]
        rw [rdOf_get (by rw [List.length_append, flatP_length, flatP_length]; first | (simp; done) | (simp; omega))]
        rw [List.getElem_append_right (by rw [flatP_length]; exact Nat.le_refl _)]
        simp [flatP_length]
        rfl
      rw [e, Lib.toList_data, Lib.toList_data]
      exact hu.1
/-- What has been drawn of the items behind j names. -/
def drawnItems (kind : Int) (j : Nat) (its : List ByteArray) : Prop :=
  if kind = 3 then ∃ ps, its = flatP ps ∧ ps.map (·.1) ∈ sets j ∧ ∀ p ∈ ps, p.2.size ≤ 60 else its ∈ sets j
theorem drawn_len {kind : Int} {j : Nat} {its : List ByteArray} (hj : j ≤ 4) (h : drawnItems kind j its) : its.length ≤ 8 := by
  unfold drawnItems at h
  split at h
  · obtain ⟨ps, rfl, h1, _⟩ := h
    have := sets_len ⟨j, by omega⟩ _ h1
    rw [List.length_map] at this
    rw [flatP_length]
    omega
  · have := sets_len ⟨j, by omega⟩ _ h
    omega
theorem spec_l10Val_l1 (l : List Int) (kind until' : Int) (s : ByteArray) : ∀ (d j : Nat) (its : List ByteArray) (i h : Int), j + d = 4 → cur l i → drawnItems kind j its →
    ∃ r i' h', Ev (fun k => spec_l10Val.l1 k names4 (j : Int) l i h kind until' s its) (kind, until', s, r, i', h') ∧ cur l i' ∧ drawnItems kind 4 r := by
  intro d
  induction d with
  | zero =>
    intro j its i h hj hc hI
    obtain rfl : j = 4 := by omega
    exact ⟨its, i, h, Ev.step (f := fun _ => some (kind, until', s, its, i, h)) (fun k => by rw [spec_l10Val.l1, if_neg (by rw [show ((names4.length : Nat) : Int) = 4 from rfl]; omega)]) (Ev.now _), hc, hI⟩
  | succ d ih =>
    intro j its i h hj hc hI
    have hlen := drawn_len (by omega) hI
    have n4 : ((names4.length : Nat) : Int) = 4 := rfl
    -- with the name taken
    have yes : ∀ (i h : Int), cur l i → ∃ r i' h', Ev (fun k => spec_l10Val.j3 k names4 (j : Int) true l i h kind until' s its) (kind, until', s, r, i', h') ∧ cur l i' ∧ drawnItems kind 4 r := by
      intro i h hc
      by_cases c3 : kind = 3
      · obtain ⟨w, i1, h1, ew, cw, hw⟩ := spec_l10Word_some h hc
        have hI' : drawnItems kind (j + 1) (its ++ [rdOf ByteArray.empty names4 (j : Int)] ++ [w]) := by
          unfold drawnItems at hI ⊢
          rw [if_pos c3] at hI ⊢
          obtain ⟨ps, rfl, h1, h2⟩ := hI
          refine ⟨ps ++ [(rdOf ByteArray.empty names4 (j : Int), w)], by rw [flatP_append, List.append_assoc]; rfl, by rw [List.map_append]; exact sets_take h1, fun p hp => ?_⟩
          rcases List.mem_append.1 hp with hp | hp
          · exact h2 p hp
          · rw [List.mem_singleton.1 hp]; exact hw
        obtain ⟨r, i2, h2, e2, c2, I2⟩ := ih (j + 1) _ i1 h1 (by omega) cw hI'
        refine ⟨r, i2, h2, Ev.succ ?_, c2, I2⟩
        simp only [spec_l10Val.j3, n4, w64 (n := (j : Int) + 1) (by omega) (by omega)]
        refine Ev.pos (by trivial) (Ev.pos (by omega) (Ev.pos (by omega) (Ev.pos (by omega) (Ev.bind0 rfl (Ev.pos c3 (Ev.bind0 ew (Ev.pos (by rw [List.length_append, List.length_singleton]; omega) ?_)))))))
        exact e2
      · have hI' : drawnItems kind (j + 1) (its ++ [rdOf ByteArray.empty names4 (j : Int)]) := by
          unfold drawnItems at hI ⊢
          rw [if_neg c3] at hI ⊢
          exact sets_take hI
        obtain ⟨r, i2, h2, e2, c2, I2⟩ := ih (j + 1) _ i h (by omega) hc hI'
        refine ⟨r, i2, h2, Ev.succ ?_, c2, I2⟩
        simp only [spec_l10Val.j3, n4, w64 (n := (j : Int) + 1) (by omega) (by omega)]
        exact Ev.pos (by trivial) (Ev.pos (by omega) (Ev.pos (by omega) (Ev.pos (by omega) (Ev.bind0 rfl (Ev.neg c3 e2)))))
    by_cases c0 : j = 0
    · obtain ⟨r, i2, h2, e2, c2, I2⟩ := yes i h hc
      refine ⟨r, i2, h2, Ev.succ ?_, c2, I2⟩
      simp only [spec_l10Val.l1, n4]
      exact Ev.pos (by omega) (Ev.pos (by omega) e2)
    · obtain ⟨b, i1, h1, eb, cb⟩ := spec_l01Once_some h 2 (by omega) hc
      cases b with
      | true =>
        obtain ⟨r, i2, h2, e2, c2, I2⟩ := yes i1 h1 cb
        refine ⟨r, i2, h2, Ev.succ ?_, c2, I2⟩
        simp only [spec_l10Val.l1, n4]
        exact Ev.pos (by omega) (Ev.neg (by omega) (Ev.bind0 eb e2))
      | false =>
        have hI' : drawnItems kind (j + 1) its := by
          unfold drawnItems at hI ⊢
          split at hI
          · rename_i c3
            rw [if_pos c3]
            obtain ⟨ps, h0, h1, h2⟩ := hI
            exact ⟨ps, h0, sets_skip h1 (by omega), h2⟩
          · rename_i c3
            rw [if_neg c3]
            exact sets_skip hI (by omega)
        obtain ⟨r, i2, h2, e2, c2, I2⟩ := ih (j + 1) its i1 h1 (by omega) cb hI'
        refine ⟨r, i2, h2, Ev.succ ?_, c2, I2⟩
        simp only [spec_l10Val.l1, n4]
        refine Ev.pos (by omega) (Ev.neg (by omega) (Ev.bind0 eb (Ev.succ ?_)))
        simp only [spec_l10Val.j3, w64 (n := (j : Int) + 1) (by omega) (by omega)]
        exact Ev.neg (by decide) e2
theorem spec_l10Val_l0 (l : List Int) (kind until' : Int) (s : ByteArray) : ∀ (d j : Nat) (its : List ByteArray) (i h : Int), j + d = 4 → cur l i → its.length = j → (∀ y ∈ its, y.size ≤ 60) →
    ∃ r i' h', Ev (fun k => spec_l10Val.l0 k (j : Int) l i h kind until' s its) (kind, until', s, r, i', h') ∧ cur l i' ∧ 1 ≤ r.length ∧ r.length ≤ 4 ∧ ∀ y ∈ r, y.size ≤ 60 := by
  intro d
  induction d with
  | zero =>
    intro j its i h hj hc hl hs
    obtain ⟨x, i1, h1, e, c1, _, hx⟩ := spec_l01Below_some h 4 (by omega) hc
    obtain ⟨x0, x1⟩ := hx (by omega)
    refine ⟨its, i1, h1, Ev.succ ?_, c1, by omega, by omega, hs⟩
    simp only [spec_l10Val.l0]
    refine Ev.bind0 e ?_
    simp only [w64 (n := 1 + x) (by omega) (by omega)]
    exact Ev.neg (by omega) (Ev.now _)
  | succ d ih =>
    intro j its i h hj hc hl hs
    obtain ⟨x, i1, h1, e, c1, _, hx⟩ := spec_l01Below_some h 4 (by omega) hc
    obtain ⟨x0, x1⟩ := hx (by omega)
    by_cases hgo : (j : Int) < 1 + x
    · obtain ⟨w, i2, h2, ew, cw, hw⟩ := spec_l10Word_some h1 c1
      obtain ⟨r, i3, h3, e3, c3, r1, r2, r3⟩ := ih (j + 1) (its ++ [w]) i2 h2 (by omega) cw (by rw [List.length_append, List.length_singleton]; omega) (fun y hy => by
        rcases List.mem_append.1 hy with hy | hy
        · exact hs y hy
        · rw [List.mem_singleton.1 hy]; exact hw)
      refine ⟨r, i3, h3, Ev.succ ?_, c3, r1, r2, r3⟩
      simp only [spec_l10Val.l0, w64 (n := (j : Int) + 1) (by omega) (by omega)]
      refine Ev.bind0 e ?_
      simp only [w64 (n := 1 + x) (by omega) (by omega)]
      exact Ev.pos hgo (Ev.bind0 ew (Ev.pos (by omega) e3))
    · refine ⟨its, i1, h1, Ev.succ ?_, c1, by omega, by omega, hs⟩
      simp only [spec_l10Val.l0]
      refine Ev.bind0 e ?_
      simp only [w64 (n := 1 + x) (by omega) (by omega)]
      exact Ev.neg hgo (Ev.now _)
theorem items_list : ∀ (t l : List ByteArray) (i : Nat), (∀ y ∈ t, y.size ≤ 60) → itemsOkFrom l 0 i t = true
  | [], _, _, _ => rfl
  | y :: t, l, i, h => by
    rw [itemsOkFrom, items_list t l (i + 1) (fun z hz => h z (List.mem_cons_of_mem _ hz)), Bool.and_true]
    exact item_plain (by have := h y List.mem_cons_self; omega) (by simp)
theorem valOk_other {kind until' : Int} {its : List ByteArray} {step : Nat} (hk : 2 ≤ kind ∧ kind ≤ 4) (hu : 0 ≤ until' ∧ until' ≤ 100000) (hl : 1 ≤ its.length ∧ its.length ≤ 24) (h3 : kind = 3 → its.length % 2 = 0) (hst : step = if kind = 2 then 0 else if kind = 3 then 2 else 1) (hi : itemsOkFrom its step 0 its = true) :
    valOk kind until' (⟨#[]⟩ : ByteArray) its = true := by
  unfold valOk
  rw [decide_eq_true (by omega), decide_eq_true hu, if_neg (by omega), ← hst, hi, decide_eq_true (show (⟨#[]⟩ : ByteArray).toList = [] from by rw [Lib.toList_data]), decide_eq_true (show 1 ≤ (its.length : Int) ∧ (its.length : Int) ≤ 24 from by omega)]
  by_cases c : kind = 3
  · rw [decide_eq_true c, decide_eq_false (by have := h3 c; omega)]; rfl
  · rw [decide_eq_false c]; rfl
theorem spec_l10Val_j0 (l : List Int) (kind until' : Int) (hk : 1 ≤ kind ∧ kind ≤ 4) (hu : 0 ≤ until' ∧ until' ≤ 100000) (i h : Int) (hc : cur l i) :
    ∃ s its i' h', Ev (fun k => spec_l10Val.j0 k l i h kind until' (⟨#[]⟩ : ByteArray)) (kind, until', s, its, i', h') ∧ cur l i' ∧ valOk kind until' s its = true ∧ its.length ≤ 24 := by
  by_cases c1 : kind = 1
  · obtain ⟨w, i1, h1, ew, cw, hw⟩ := spec_l10Word_some h hc
    refine ⟨w, [], i1, h1, Ev.succ ?_, cw, ?_, Nat.zero_le _⟩
    · simp only [spec_l10Val.j0]
      exact Ev.pos c1 (Ev.bind0 ew (Ev.now _))
    · unfold valOk
      rw [decide_eq_true hk, decide_eq_true hu, if_pos c1, decide_eq_true (by omega)]
      rfl
  by_cases c2 : kind = 2
  · obtain ⟨r, i1, h1, e, c', r1, r2, r3⟩ := spec_l10Val_l0 l kind until' (⟨#[]⟩ : ByteArray) 4 0 [] i h (by omega) hc rfl (fun y hy => by cases hy)
    refine ⟨(⟨#[]⟩ : ByteArray), r, i1, h1, Ev.succ ?_, c', valOk_other (step := 0) (by omega) hu (by omega) (by omega) (by rw [if_pos c2]) (items_list r r 0 r3), by omega⟩
    simp only [spec_l10Val.j0]
    exact Ev.neg c1 (Ev.pos c2 e)
  · obtain ⟨r, i1, h1, e, c', hI⟩ := spec_l10Val_l1 l kind until' (⟨#[]⟩ : ByteArray) 4 0 [] i h (by omega) hc (by
      unfold drawnItems
      split
      · exact ⟨[], rfl, List.mem_cons_self, fun p hp => by cases hp⟩
      · exact List.mem_cons_self)
    have hev : Ev (fun k => spec_l10Val.j0 k l i h kind until' (⟨#[]⟩ : ByteArray)) (kind, until', (⟨#[]⟩ : ByteArray), r, i1, h1) := by
      refine Ev.succ ?_
      simp only [spec_l10Val.j0]
      exact Ev.neg c1 (Ev.neg c2 e)
    unfold drawnItems at hI
    by_cases c3 : kind = 3
    · rw [if_pos c3] at hI
      obtain ⟨ps, rfl, h1', h2'⟩ := hI
      obtain ⟨u1, u2, u3, u4⟩ := sets_end _ h1'
      rw [List.length_map] at u2 u3
      refine ⟨_, _, i1, h1, hev, c', valOk_other (step := 2) (by omega) hu (by rw [flatP_length]; omega) (fun _ => by rw [flatP_length]; omega) (by rw [if_neg c2, if_pos c3]) ?_, by rw [flatP_length]; omega⟩
      exact items_fields ps [] _ none rfl rfl u1 (fun p hp => ⟨u4 p.1 (List.mem_map.2 ⟨p, hp, rfl⟩), h2' p hp⟩)
    · rw [if_neg c3] at hI
      obtain ⟨u1, u2, u3, u4⟩ := sets_end _ hI
      exact ⟨_, _, i1, h1, hev, c', valOk_other (step := 1) (by omega) hu (by omega) (fun h => absurd h c3) (by rw [if_neg c2, if_neg c3]) (items_set r [] r none rfl rfl u1 u4), by omega⟩
theorem spec_l10Val_ev (l : List Int) (i h : Int) (hc : cur l i) : ∃ a b s its i' h', Ev (fun k => spec_l10Val.f k l i h) (a, b, s, its, i', h') ∧ cur l i' ∧ valOk a b s its = true ∧ its.length ≤ 24 := by
  obtain ⟨x, i1, h1, e1, c1, _, hx⟩ := spec_l01Below_some h 4 (by omega) hc
  obtain ⟨x0, x1⟩ := hx (by omega)
  obtain ⟨b, i2, h2, e2, c2⟩ := spec_l01Once_some h1 4 (by omega) c1
  unfold spec_l10Val.f
  cases b with
  | true =>
    obtain ⟨y, i3, h3, e3, c3, _, hy⟩ := spec_l01Below_some h2 40 (by omega) c2
    obtain ⟨y0, y1⟩ := hy (by omega)
    obtain ⟨s, its, i4, h4, e4, c4, hv, hl⟩ := spec_l10Val_j0 l (1 + x) (1 + y) (by omega) (by omega) i3 h3 c3
    refine ⟨1 + x, 1 + y, s, its, i4, h4, Ev.bind0 e1 (Ev.bind0 e2 (Ev.pos rfl (Ev.bind0 e3 ?_))), c4, hv, hl⟩
    simp only [w64 (n := 1 + x) (by omega) (by omega), w64 (n := 1 + y) (by omega) (by omega)]
    exact e4
  | false =>
    obtain ⟨s, its, i4, h4, e4, c4, hv, hl⟩ := spec_l10Val_j0 l (1 + x) 0 (by omega) (by omega) i2 h2 c2
    refine ⟨1 + x, 0, s, its, i4, h4, Ev.bind0 e1 (Ev.bind0 e2 (Ev.neg (by simp) ?_)), c4, hv, hl⟩
    simp only [w64 (n := 1 + x) (by omega) (by omega)]
    exact e4

/-! #### the drawn table -/
def never : ByteArray := ⟨#[110, 101, 118, 101, 114, 32, 116, 104, 101, 114, 101]⟩
def goodNames (ns : List ByteArray) : Bool := upN none ns && ns.all (fun n => decide (1 ≤ n.size ∧ n.size ≤ 20) && decide (n.data.toList ≠ never.data.toList)) && decide (ns.length ≤ 20)
def keySets : Nat → List (List ByteArray)
  | 0 => [[]]
  | j + 1 => keySets j ++ (keySets j).map (· ++ [rdOf ByteArray.empty keys6 (j : Int)])
set_option maxRecDepth 100000 in
theorem keySets_good : ∀ ns ∈ keySets 6, goodNames ns = true := by decide
theorem keySets_len : ∀ (j : Nat), ∀ ns ∈ keySets j, ns.length ≤ j
  | 0, ns, h => by
    obtain rfl : ns = [] := by simpa [keySets] using h
    exact Nat.le_refl _
  | j + 1, ns, h => by
    rcases List.mem_append.1 h with h | h
    · have := keySets_len j ns h; omega
    · obtain ⟨m, hm, rfl⟩ := List.mem_map.1 h
      have := keySets_len j m hm
      rw [List.length_append, List.length_singleton]
      omega
def kname (j : Nat) : ByteArray := ⟨#[107, UInt8.ofNat (48 + (10 + j) / 10), UInt8.ofNat (48 + (10 + j) % 10)]⟩
def knames (m : Nat) : List ByteArray := (List.range m).map kname
set_option maxRecDepth 100000 in
theorem knames_good : ∀ m : Fin 21, goodNames (knames m.val) = true := by decide
theorem kname_eq (j : Nat) (h : j < 20) : (⟨#[107]⟩ : ByteArray) ++ decTwo (10 + j) = kname j := by
  apply ba_ext
  rw [app_data]
  rfl
/-- A drawn table: its keys are some that are good, its values right. -/
def drawnT (t : List S90) (ns : List ByteArray) : Prop := t.map (·.f0) = ns ∧ ∀ x ∈ t, valOk x.f1.f0 x.f1.f1 x.f1.f2 x.f1.f3 = true ∧ x.f1.f3.length ≤ 24
theorem drawnT_good {t : List S90} {ns : List ByteArray} (h : drawnT t ns) (hg : goodNames ns = true) : goodT t ∧ (∀ x ∈ t, x.f1.f3.length ≤ 24) ∧ ∀ x ∈ t, x.f0 ≠ never := by
  obtain ⟨h1, h2⟩ := h
  unfold goodNames at hg
  simp only [Bool.and_eq_true, List.all_eq_true, decide_eq_true_eq] at hg
  obtain ⟨⟨g1, g2⟩, g3⟩ := hg
  have hk : ∀ x ∈ t, x.f0 ∈ ns := fun x hx => by rw [← h1]; exact List.mem_map.2 ⟨x, hx, rfl⟩
  refine ⟨⟨by rw [← h1, List.length_map] at g3; exact g3, fun x hx => ?_, by rw [h1]; exact (upN_pair ns none g1).1⟩, fun x hx => (h2 x hx).2, fun x hx e => (g2 x.f0 (hk x hx)).2 (by rw [e])⟩
  unfold entryOk
  obtain ⟨s1, _⟩ := g2 x.f0 (hk x hx)
  rw [decide_eq_true (by omega), (h2 x hx).1]
  rfl
theorem drawnT_snoc {t : List S90} {ns : List ByteArray} (h : drawnT t ns) {n : ByteArray} {a b : Int} {s : ByteArray} {its : List ByteArray} (hv : valOk a b s its = true) (hl : its.length ≤ 24) : drawnT (t ++ [(⟨n, ⟨a, b, s, its⟩⟩ : S90)]) (ns ++ [n]) := by
  refine ⟨by rw [List.map_append, h.1]; rfl, fun x hx => ?_⟩
  rcases List.mem_append.1 hx with hx | hx
  · exact h.2 x hx
  · rw [List.mem_singleton.1 hx]; exact ⟨hv, hl⟩
theorem spec_l10Table_l1 (l : List Int) : ∀ (d j : Nat) (t : List S90) (i h : Int), j + d = 20 → cur l i → drawnT t (knames j) →
    ∃ r i' h' ns, Ev (fun k => spec_l10Table.l1 k t (j : Int) l i h) (r, i', h') ∧ cur l i' ∧ drawnT r ns ∧ goodNames ns = true := by
  intro d
  induction d with
  | zero =>
    intro j t i h hj hc hI
    obtain ⟨x, i1, h1, e, c1, _, hx⟩ := spec_l01Below_some h 2 (by omega) hc
    obtain ⟨x0, x1⟩ := hx (by omega)
    refine ⟨t, i1, h1, _, Ev.succ ?_, c1, hI, knames_good ⟨j, by omega⟩⟩
    simp only [spec_l10Table.l1]
    refine Ev.bind0 e ?_
    simp only [w64 (n := 20 - x) (by omega) (by omega)]
    exact Ev.neg (by omega) (Ev.now _)
  | succ d ih =>
    intro j t i h hj hc hI
    obtain ⟨x, i1, h1, e, c1, _, hx⟩ := spec_l01Below_some h 2 (by omega) hc
    obtain ⟨x0, x1⟩ := hx (by omega)
    have hlen : t.length = j := by
      have := congrArg List.length hI.1
      rw [List.length_map] at this
      rw [this]; simp [knames]
    by_cases hgo : (j : Int) < 20 - x
    · obtain ⟨a, b, s, its, i2, h2, ev, cv, hv, hl⟩ := spec_l10Val_ev l i1 h1 c1
      have hk := kname_eq j (by omega)
      have hk3 : ((⟨#[107]⟩ : ByteArray) ++ decTwo (10 + j)).size = 3 := by rw [hk]; rfl
      have hI' : drawnT (t ++ [(⟨(⟨#[107]⟩ : ByteArray) ++ decTwo (10 + j), ⟨a, b, s, its⟩⟩ : S90)]) (knames (j + 1)) := by
        have q := drawnT_snoc hI (n := (⟨#[107]⟩ : ByteArray) ++ decTwo (10 + j)) hv hl
        rw [hk] at q ⊢
        rw [show knames (j + 1) = knames j ++ [kname j] from by unfold knames; rw [List.range_succ, List.map_append]; rfl]
        exact q
      obtain ⟨r, i3, h3, ns, e3, c3, r1, r2⟩ := ih (j + 1) _ i2 h2 (by omega) cv hI'
      refine ⟨r, i3, h3, ns, Ev.succ ?_, c3, r1, r2⟩
      simp only [spec_l10Table.l1, w64 (n := (j : Int) + 1) (by omega) (by omega)]
      refine Ev.bind0 e ?_
      simp only [w64 (n := 20 - x) (by omega) (by omega)]
      refine Ev.pos hgo (Ev.bind (a := decTwo (10 + j)) ?_ (Ev.pos ?_ (Ev.bind ev (Ev.pos (by omega) e3))))
      · rw [w64 (n := 10 + (j : Int)) (by omega) (by omega)]
        exact spec_Decimal_two (10 + j) (by omega) (by omega)
      · have := app_size (⟨#[107]⟩ : ByteArray) (decTwo (10 + j))
        rw [hk3, show (⟨#[107]⟩ : ByteArray).size = 1 from rfl] at this
        omega
    · refine ⟨t, i1, h1, _, Ev.succ ?_, c1, hI, knames_good ⟨j, by omega⟩⟩
      simp only [spec_l10Table.l1]
      refine Ev.bind0 e ?_
      simp only [w64 (n := 20 - x) (by omega) (by omega)]
      exact Ev.neg hgo (Ev.now _)
theorem spec_l10Table_l0 (l : List Int) : ∀ (d j : Nat) (t : List S90) (ns : List ByteArray) (i h : Int), j + d = 6 → cur l i → drawnT t ns → ns ∈ keySets j →
    ∃ r i' h' ns', Ev (fun k => spec_l10Table.l0 k t keys6 (j : Int) l i h) (r, i', h') ∧ cur l i' ∧ drawnT r ns' ∧ goodNames ns' = true := by
  intro d
  induction d with
  | zero =>
    intro j t ns i h hj hc hI hns
    obtain rfl : j = 6 := by omega
    obtain ⟨b, i1, h1, eb, cb⟩ := spec_l01Once_some h 20 (by omega) hc
    cases b with
    | true =>
      obtain ⟨r, i2, h2, ns', e2, c2, r1, r2⟩ := spec_l10Table_l1 l 20 0 [] i1 h1 rfl cb ⟨rfl, fun x hx => by cases hx⟩
      refine ⟨r, i2, h2, ns', Ev.succ ?_, c2, r1, r2⟩
      simp only [spec_l10Table.l0, show ((keys6.length : Nat) : Int) = 6 from rfl]
      exact Ev.neg (by omega) (Ev.bind0 eb (Ev.pos rfl e2))
    | false =>
      refine ⟨t, i1, h1, ns, Ev.succ ?_, cb, hI, keySets_good ns hns⟩
      simp only [spec_l10Table.l0, show ((keys6.length : Nat) : Int) = 6 from rfl]
      exact Ev.neg (by omega) (Ev.bind0 eb (Ev.neg (by simp) (Ev.now _)))
  | succ d ih =>
    intro j t ns i h hj hc hI hns
    have hlen : t.length ≤ 6 := by
      have h1 := congrArg List.length hI.1
      rw [List.length_map] at h1
      have := keySets_len j ns hns
      omega
    obtain ⟨b, i1, h1, eb, cb⟩ := spec_l01Once_some h 3 (by omega) hc
    cases b with
    | true =>
      obtain ⟨r, i2, h2, ns', e2, c2, r1, r2⟩ := ih (j + 1) t ns i1 h1 (by omega) cb hI (List.mem_append_left _ hns)
      refine ⟨r, i2, h2, ns', Ev.succ ?_, c2, r1, r2⟩
      simp only [spec_l10Table.l0, show ((keys6.length : Nat) : Int) = 6 from rfl, w64 (n := (j : Int) + 1) (by omega) (by omega)]
      exact Ev.pos (by omega) (Ev.bind0 eb (Ev.pos rfl e2))
    | false =>
      obtain ⟨a, b, s, its, i2, h2, ev, cv, hv, hl⟩ := spec_l10Val_ev l i1 h1 cb
      obtain ⟨r, i3, h3, ns', e3, c3, r1, r2⟩ := ih (j + 1) _ _ i2 h2 (by omega) cv (drawnT_snoc hI (n := rdOf ByteArray.empty keys6 (j : Int)) hv hl) (List.mem_append_right _ (List.mem_map.2 ⟨ns, hns, rfl⟩))
      refine ⟨r, i3, h3, ns', Ev.succ ?_, c3, r1, r2⟩
      simp only [spec_l10Table.l0, show ((keys6.length : Nat) : Int) = 6 from rfl, w64 (n := (j : Int) + 1) (by omega) (by omega)]
      exact Ev.pos (by omega) (Ev.bind0 eb (Ev.neg (by simp) (Ev.pos (by omega) (Ev.bind ev (Ev.pos (by omega) e3)))))
theorem spec_l10Table_ev (l : List Int) (i h : Int) (hc : cur l i) : ∃ r i' h' ns, Ev (fun k => spec_l10Table.f k l i h) (r, i', h') ∧ cur l i' ∧ drawnT r ns ∧ goodNames ns = true :=
  spec_l10Table_l0 l 6 0 [] [] i h rfl hc ⟨rfl, fun x hx => by cases hx⟩ List.mem_cons_self
theorem spec_DrawTables_ev (l : List Int) (hl : l.length ≤ 1048576) : ∃ t t2, Ev (fun k => spec_DrawTables.f k l) (t, t2) ∧ goodT t ∧ (∀ x ∈ t, x.f1.f3.length ≤ 24) ∧ ∀ x ∈ t, x.f0 ≠ never := by
  obtain ⟨h, e⟩ := spec_l01New_ev l hl
  obtain ⟨t, i1, h1, ns, e1, c1, d1, g1⟩ := spec_l10Table_ev l 0 h ⟨by omega, by omega, hl⟩
  obtain ⟨t2, i2, h2, _, e2, _, _, _⟩ := spec_l10Table_ev l i1 h1 c1
  refine ⟨t, t2, ?_, drawnT_good d1 g1⟩
  unfold spec_DrawTables.f
  exact Ev.bind e (Ev.bind e1 (Ev.bind e2 (Ev.now _)))

theorem until_ok {x : S90} (h : entryOk x = true) : 0 ≤ x.f1.f1 := by
  unfold entryOk valOk at h
  simp only [Bool.and_eq_true, decide_eq_true_eq] at h
  exact h.2.1.2.1
theorem laws_FnLive_l0 (t : List S90) (now : Int) (hg : goodT t) (hf : ∀ x ∈ t, x.f1.f3.length ≤ 24) (hn : ∀ x ∈ t, x.f0 ≠ never) : ∀ (s : List S90) (i n : Nat), t.drop i = s → i ≤ t.length → n + (liveE s now).length = (liveE t now).length →
    Ev (fun k => laws_FnLive.l0 k t now (liveE t now) (n : Int) (i : Int)) true := by
  have hf2 : ∀ x ∈ t, x.f1.f3.length ≤ 1048576 := fun x hx => by have := hf x hx; omega
  have hl := hg.1
  have hgl : goodT (liveE t now) := goodT_filter hg _
  intro s
  induction s with
  | nil =>
    intro i n hs hi hc
    have := drop_nil_len hs
    have hv : impl_Find.f t never = some (0, 0, (⟨#[]⟩ : ByteArray), [], false) := by
      rw [impl_Find_eq t never hf2]
      unfold findVal
      rw [findE_none hn]
    have hll : (liveE t now).length ≤ 20 := hgl.1
    refine Ev.succ ?_
    simp only [laws_FnLive.l0]
    refine Ev.neg (by omega) (Ev.bind0 hv (Ev.pos ?_ (Ev.neg (by decide) (Ev.bind (spec_TableOk_ev (liveE t now) (by omega) (liveE_items hf2)) (Ev.ret (goodT_ok hgl))))))
    rw [show (liveE ([] : List S90) now).length = 0 from rfl] at hc
    omega
  | cons x s ih =>
    intro i n hs hi hc
    obtain ⟨h1, h2, h3⟩ := rd_T90_drop hs
    have hx : x ∈ t := List.mem_of_mem_drop (by rw [hs]; exact List.mem_cons_self)
    have hu := until_ok (hg.2.1 x hx)
    have hit := hf2 x hx
    have hll : (liveE t now).length ≤ 20 := hgl.1
    have hF : impl_Find.f t x.f0 = some (x.f1.f0, x.f1.f1, x.f1.f2, x.f1.f3, true) := by
      rw [impl_Find_eq t x.f0 hf2]
      unfold findVal
      rw [findE_mem hg.2.2 hx]
    refine Ev.succ ?_
    simp only [laws_FnLive.l0, h1]
    by_cases c : liveOk now x = true
    · have hL : impl_Find.f (liveE t now) x.f0 = some (x.f1.f0, x.f1.f1, x.f1.f2, x.f1.f3, true) := by
        rw [impl_Find_eq _ x.f0 (liveE_items hf2)]
        unfold findVal liveE
        rw [findE_filter hg.2.2 _ hx, if_pos c]
      have e := ih (i + 1) (n + 1) h3 (by omega) (by rw [show liveE (x :: s) now = x :: liveE s now from by unfold liveE; rw [List.filter_cons, if_pos c], List.length_cons] at hc; omega)
      have hlive := of_decide_eq_true c
      have go : Ev (fun k => laws_FnLive.j1 k t now (liveE t now) (n : Int) (i : Int) true true false x.f1.f0 x.f1.f1 x.f1.f2 x.f1.f3 x.f1.f0 x.f1.f1 x.f1.f2 x.f1.f3) true := by
        refine Ev.succ ?_
        simp only [laws_FnLive.j1, h1]
        refine Ev.neg (by decide) (Ev.pos (by trivial) (Ev.pos (by omega) (Ev.pos (by omega) (Ev.bind (laws_sameVal_ev _ _ _ _ hit) (Ev.pos rfl (Ev.pos (by trivial) (Ev.bind (laws_sameVal_ev _ _ _ _ hit) (Ev.succ ?_))))))))
        simp only [laws_FnLive.j2, w64 (n := (i : Int) + 1) (by omega) (by omega), w64 (n := (n : Int) + 1) (by omega) (by omega)]
        exact Ev.neg (by decide) (Ev.pos (by trivial) e)
      refine Ev.pos (by omega) (Ev.pos (by omega) (Ev.bind0 hL (Ev.bind0 hF ?_)))
      by_cases c0 : x.f1.f1 > 0
      · refine Ev.pos c0 ?_
        rw [decide_eq_false (by omega)]
        exact go
      · exact Ev.neg c0 go
    · have hL : impl_Find.f (liveE t now) x.f0 = some (0, 0, (⟨#[]⟩ : ByteArray), [], false) := by
        rw [impl_Find_eq _ x.f0 (liveE_items hf2)]
        unfold findVal liveE
        rw [findE_filter hg.2.2 _ hx, if_neg c]
      have e := ih (i + 1) n h3 (by omega) (by rw [show liveE (x :: s) now = liveE s now from by unfold liveE; rw [List.filter_cons, if_neg c]] at hc; omega)
      have hdead : ¬ (x.f1.f1 = 0 ∨ now < x.f1.f1) := fun h => c (decide_eq_true h)
      refine Ev.pos (by omega) (Ev.pos (by omega) (Ev.bind0 hL (Ev.bind0 hF (Ev.pos (by omega) ?_))))
      rw [decide_eq_true (by omega)]
      refine Ev.succ ?_
      simp only [laws_FnLive.j1, h1]
      refine Ev.neg (by decide) (Ev.pos (by trivial) (Ev.pos (by omega) (Ev.pos (by omega) (Ev.bind (laws_sameVal_ev _ _ _ _ hit) (Ev.pos rfl (Ev.neg (by decide) (Ev.succ ?_)))))))
      simp only [laws_FnLive.j2, w64 (n := (i : Int) + 1) (by omega) (by omega)]
      exact Ev.neg (by decide) (Ev.neg (by decide) e)
theorem FnLive : laws_FnLive.Pure := by
  intro l h0 h1 h2
  refine Ev.rounds (r := true) ?_
  unfold laws_FnLive.f
  refine Ev.bind0 (laws_big_eq l) ?_
  by_cases hb : (l.length : Int) > 1048576
  · exact Ev.pos (decide_eq_true hb) (Ev.now _)
  refine Ev.neg (by rw [decide_eq_false hb]; decide) ?_
  obtain ⟨t, t2, e, hg, hf, hn⟩ := spec_DrawTables_ev l (by omega)
  obtain ⟨p, ep, p1, _⟩ := spec_DrawPlaces_ev l (by omega)
  have hf2 : ∀ x ∈ t, x.f1.f3.length ≤ 1048576 := fun x hx => by have := hf x hx; omega
  have hl := hg.1
  exact Ev.bind e (Ev.bind ep (Ev.pos (by omega) (Ev.bind (impl_Live_ev t _ (by omega) hf2) (laws_FnLive_l0 t _ hg hf hn t 0 0 rfl (Nat.zero_le _) (by omega)))))

end Go.Proofs.Ytgfacdhkamphiaa.Pure
