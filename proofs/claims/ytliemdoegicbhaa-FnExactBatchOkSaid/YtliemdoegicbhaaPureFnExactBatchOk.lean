/- For every batch that reads as data both programs' BatchOk come to the same answer, and the batch is left as it was. -/
import Derived.Test.YtliemdoegicbhaaOFnExactBatchOkx5
import Derived.Test.YtliemdoegicbhaaBase
import Derived.Test.YtliemdoegicbhaaBase2
import Derived.Test.YtliemdoegicbhaaBase3
namespace Go.Proofs.Ytliemdoegicbhaa.Pure
open Go.RowKit Go.Proofs.Ytliemdoegicbhaa.PFnExactBatchOk Go.Proofs.YtliemdoegicbhaaW.PrintWords Go.Proofs.YtliemdoegicbhaaW.PrintLast Go.Proofs.Ytliemdoegicbhaa.Base
set_option linter.unusedVariables false
set_option linter.unusedSimpArgs false

theorem spec_l01In_eq (a b c : Int) : spec_l01In.f a b c = some (decide (b ≤ a ∧ a ≤ c)) := by
  unfold spec_l01In.f
  by_cases h : b ≤ a <;> simp [h]

theorem impl_within_eq (a b c : Int) : impl_within.f a b c = some (decide (b ≤ a ∧ a ≤ c)) := by
  unfold impl_within.f
  by_cases h : b ≤ a <;> simp [h]

theorem rd_T112_drop {xs : List S112} {i : Nat} {a : S112} {t : List S112} (h : xs.drop i = a :: t) : rd_T112 xs (i : Int) = a ∧ i < xs.length ∧ xs.drop (i + 1) = t := rdOf_drop (d := z112) h
theorem rd_T86_drop {xs : List S86} {i : Nat} {a : S86} {t : List S86} (h : xs.drop i = a :: t) : rd_T86 xs (i : Int) = a ∧ i < xs.length ∧ xs.drop (i + 1) = t := rdOf_drop (d := z86) h
theorem laws_szChange_some (x : S112) (h0 : x.f0.size ≤ maxLen) (h1 : x.f1.size ≤ maxLen) (left : Int) (g0 : 0 ≤ left) (g1 : left ≤ 1048576) :
    ∃ r, laws_szChange.f x.f0 x.f1 x.f2 left = some r ∧ (0 ≤ r → r ≤ left ∧ (x.f0.size : Int) ≤ left ∧ (x.f1.size : Int) ≤ left) := by
  unfold maxLen at h0 h1
  unfold laws_szChange.f
  rw [w64 (n := left - (x.f0.size : Int)) (by omega) (by omega)]
  by_cases c1 : left - (x.f0.size : Int) < 0
  · rw [if_pos c1]; exact ⟨_, rfl, fun h => by omega⟩
  rw [if_neg c1, w64 (n := left - (x.f0.size : Int) - (x.f1.size : Int)) (by omega) (by omega)]
  by_cases c2 : left - (x.f0.size : Int) - (x.f1.size : Int) < 0
  · rw [if_pos c2]; exact ⟨_, rfl, fun h => by omega⟩
  rw [if_neg c2]; exact ⟨_, rfl, fun h => by omega⟩
def changeFits (x : S112) : Prop := x.f0.size ≤ maxLen ∧ x.f1.size ≤ maxLen
theorem laws_szChangeS_l0 (l : List S112) (hl : l.length ≤ 1048576) (hf : ∀ x ∈ l, changeFits x) : ∀ (t : List S112) (i : Nat) (left : Int), l.drop i = t → i ≤ l.length → 0 ≤ left → left ≤ 1048576 →
    ∃ r, Ev (fun k => laws_szChangeS.l0 k l left (i : Int)) r ∧ (0 ≤ r → r ≤ left ∧ ∀ x ∈ t, (x.f0.size : Int) ≤ left ∧ (x.f1.size : Int) ≤ left) := by
  intro t
  induction t with
  | nil =>
    intro i left ht hi g0 g1
    have := drop_nil_len ht
    exact ⟨left, Ev.step (f := fun _ => some left) (fun k => by rw [laws_szChangeS.l0, if_neg (by omega)]) (Ev.now _), fun _ => ⟨Int.le_refl _, fun x hx => by cases hx⟩⟩
  | cons a t ih =>
    intro i left ht hi g0 g1
    obtain ⟨h1, h2, h3⟩ := rd_T112_drop ht
    have ha : changeFits a := hf a (List.mem_of_mem_drop (by rw [ht]; exact List.mem_cons_self))
    obtain ⟨r, e, hr⟩ := laws_szChange_some a ha.1 ha.2 left g0 g1
    by_cases hr0 : r < 0
    · refine ⟨-1, Ev.step (f := fun _ => some (-1)) (fun k => ?_) (Ev.now _), fun h => by omega⟩
      rw [laws_szChangeS.l0, if_pos (by omega), if_pos (by omega), h1, e, Option.bind_some, if_pos hr0]
    · have hr := hr (by omega)
      obtain ⟨r2, e2, hr2⟩ := ih (i + 1) r h3 (by omega) (by omega) (by omega)
      refine ⟨r2, Ev.step (fun k => ?_) e2, fun h => ⟨by have := (hr2 h).1; omega, fun x hx => ?_⟩⟩
      · rw [laws_szChangeS.l0, if_pos (by omega), if_pos (by omega), h1, e, Option.bind_some, if_neg hr0, w64 (by omega) (by omega)]
        rfl
      · rcases List.mem_cons.1 hx with rfl | hx
        · exact hr.2
        · have := (hr2 h).2 x hx
          omega
theorem laws_szBatch_ev (n : Int) (l : List S112) (hl : l.length ≤ maxLen) (hf : ∀ x ∈ l, changeFits x) (left : Int) (g0 : 0 ≤ left) (g1 : left ≤ 1048576) :
    ∃ r, Ev (fun k => laws_szBatch.f k n l left) r ∧ (0 ≤ r → r ≤ left ∧ (l.length : Int) ≤ left ∧ ∀ x ∈ l, (x.f0.size : Int) ≤ left ∧ (x.f1.size : Int) ≤ left) := by
  unfold maxLen at hl
  unfold laws_szBatch.f laws_szChangeS.f
  rw [w64 (n := left - (l.length : Int)) (by omega) (by omega)]
  by_cases c1 : left - (l.length : Int) < 0
  · exact ⟨-1, Ev.bind (Ev.pos c1 (Ev.now _)) (Ev.pos (by omega) (Ev.now _)), fun h => by omega⟩
  · obtain ⟨r, e, hr⟩ := laws_szChangeS_l0 l (by omega) hf l 0 (left - (l.length : Int)) rfl (Nat.zero_le _) (by omega) (by omega)
    by_cases hr0 : r < 0
    · exact ⟨-1, Ev.bind (Ev.neg c1 e) (Ev.pos hr0 (Ev.now _)), fun h => by omega⟩
    · exact ⟨r, Ev.bind (Ev.neg c1 e) (Ev.neg hr0 (Ev.now _)), fun h => ⟨by have := (hr h).1; omega, by omega, fun x hx => by have := (hr h).2 x hx; omega⟩⟩
def toC (x : S112) : S86 := ⟨x.f0, x.f1, x.f2⟩
theorem laws_toChangeS_l0 (l : List S112) (hl : l.length ≤ 1048576) : ∀ (d i : Nat) (xs : List S86), xs.length = l.length → i + d = l.length → xs.take i = (l.take i).map toC → Ev (fun k => laws_toChangeS.l0 k l xs (i : Int)) (l.map toC) := by
  intro d
  induction d with
  | zero =>
    intro i xs hx hi ht
    refine Ev.step (f := fun _ => some xs) (fun k => by rw [laws_toChangeS.l0, if_neg (by omega)]) (Ev.ret ?_)
    rw [List.take_of_length_le (by omega), List.take_of_length_le (by omega)] at ht
    exact ht
  | succ d ih =>
    intro i xs hx hi ht
    have hr : rd_T112 l (i : Int) = l[i] := rdOf_get (d := z112) (by omega)
    refine Ev.step (fun k => ?_) (ih (i + 1) (xs.set i (toC l[i])) (by rw [List.length_set]; exact hx) (by omega) ?_)
    · rw [laws_toChangeS.l0, if_pos (by omega), if_pos (by omega), hr, laws_toChange.f, Option.bind_some, if_pos (by omega), w64 (by omega) (by omega), Int.toNat_natCast]
      rfl
    · rw [take_set_snoc _ _ _ (by omega), ht, List.take_succ_eq_append_getElem (by omega), List.map_append, List.map_singleton]
theorem laws_toBatch_ev (n : Int) (l : List S112) (hl : l.length ≤ 1048576) : Ev (fun k => laws_toBatch.f k n l) (n, l.map toC) := by
  unfold laws_toBatch.f laws_toChangeS.f
  exact Ev.bind (Ev.pos (by omega) (Ev.pos (by omega) (laws_toChangeS_l0 l hl l.length 0 _ (by rw [List.length_replicate]; omega) (by omega) rfl))) (Ev.now _)
theorem laws_eqChange_self (x : S86) : laws_eqChange.f x.f0 x.f1 x.f2 x.f0 x.f1 x.f2 = some true := by
  unfold laws_eqChange.f
  rw [if_pos rfl, if_pos rfl, if_neg (by simp)]
theorem laws_eqChangeS_l0 (l : List S86) (hl : l.length ≤ 1048576) : ∀ (t : List S86) (i : Nat), l.drop i = t → i ≤ l.length → Ev (fun k => laws_eqChangeS.l0 k l l (i : Int)) true := by
  intro t
  induction t with
  | nil =>
    intro i ht hi
    have := drop_nil_len ht
    exact Ev.step (f := fun _ => some true) (fun k => by rw [laws_eqChangeS.l0, if_neg (by omega)]) (Ev.now _)
  | cons a t ih =>
    intro i ht hi
    obtain ⟨h1, h2, h3⟩ := rd_T86_drop ht
    refine Ev.step (fun k => ?_) (ih (i + 1) h3 (by omega))
    rw [laws_eqChangeS.l0, if_pos (by omega), if_pos (by omega), if_pos (by omega), h1, laws_eqChange_self, Option.bind_some, if_pos rfl, w64 (by omega) (by omega)]
    rfl
theorem laws_eqBatch_ev (n : Int) (l : List S86) (hl : l.length ≤ 1048576) : Ev (fun k => laws_eqBatch.f k n l n l) true := by
  unfold laws_eqBatch.f laws_eqChangeS.f
  exact Ev.pos rfl (Ev.bind (Ev.pos rfl (laws_eqChangeS_l0 l hl l 0 rfl (Nat.zero_le _))) (Ev.pos rfl (Ev.now _)))
def elemOk (a : S86) : Bool := decide (1 ≤ (a.f0.size : Int) ∧ (a.f0.size : Int) ≤ 20) && (!decide ((a.f1.size : Int) > 2000) && (!a.f2 || decide (a.f1.toList = [])))
theorem Ev.gone {b : Bool} {c : Prop} [Decidable c] {f : Nat → Option Bool} {r : Bool} (e : Ev f r) : Ev (fun k => if b = true then (if c then f k else some false) else f k) ((!b || decide c) && r) := by
  cases b with
  | true => exact Ev.to (Ev.pos rfl (Ev.ifb e)) (by simp)
  | false => exact Ev.to (Ev.neg (by decide) e) (by simp)

/-- Elements, each right by itself, their keys ascending. -/
def chainOk : Option S86 → List S86 → Bool
  | _, [] => true
  | none, x :: l => elemOk x && chainOk (some x) l
  | some y, x :: l => elemOk x && Op.bytesLess y.f0.toList x.f0.toList && chainOk (some x) l
theorem chain_nil (o : Option S86) : chainOk o [] = true := by cases o <;> rfl
def ahead (l : List S86) (i : Nat) : Option S86 := if 0 < i then l[i - 1]? else none
theorem ahead_succ {l : List S86} {i : Nat} {a : S86} {t : List S86} (h : l.drop i = a :: t) : ahead l (i + 1) = some a := by
  unfold ahead
  rw [if_pos (by omega), Nat.add_sub_cancel]
  have := congrArg (fun z => z[0]?) h
  simpa using this
theorem rd_ahead {l : List S86} {i : Nat} (h : 0 < i) (hi : i ≤ l.length) : ahead l i = some (rd_T86 l ((i : Int) - 1)) := by
  unfold ahead
  rw [if_pos h]
  obtain ⟨j, rfl⟩ : ∃ j, i = j + 1 := ⟨i - 1, by omega⟩
  rw [Nat.add_sub_cancel, show ((j + 1 : Nat) : Int) - 1 = (j : Int) from by omega]
  have e : rd_T86 l (j : Int) = l[j] := rdOf_get (d := z86) (by omega)
  rw [e, List.getElem?_eq_getElem (by omega)]
theorem ahead_zero {l : List S86} {i : Nat} (h : ¬ 0 < i) : ahead l i = none := if_neg h

def batchOk (n : Int) (l : List S86) : Bool := decide (0 ≤ n ∧ n ≤ 1000000000) && decide (1 ≤ (l.length : Int) ∧ (l.length : Int) ≤ 40) && chainOk none l
theorem spec_BatchOk_l0 (n : Int) (l : List S86) (hl : l.length ≤ 1048576) : ∀ (t : List S86) (i : Nat), l.drop i = t → i ≤ l.length → Ev (fun k => spec_BatchOk.l0 k (i : Int) n l) (chainOk (ahead l i) t) := by
  intro t
  induction t with
  | nil =>
    intro i ht hi
    have := drop_nil_len ht
    exact Ev.step (f := fun _ => some true) (fun k => by rw [spec_BatchOk.l0, if_neg (by omega)]) (Ev.ret (chain_nil _).symm)
  | cons a t ih =>
    intro i ht hi
    obtain ⟨h1, h2, h3⟩ := rd_T86_drop ht
    have e := ih (i + 1) h3 (by omega)
    rw [ahead_succ ht, show ((i + 1 : Nat) : Int) = (i : Int) + 1 from by omega] at e
    refine Ev.succ ?_
    simp only [spec_BatchOk.l0, h1, w64 (n := (i : Int) + 1) (by omega) (by omega), w64 (n := (i : Int) - 1) (by omega) (by omega)]
    refine Ev.pos (by omega) (Ev.pos (by omega) ?_)
    by_cases c4 : 0 < i
    · refine Ev.to (Ev.bool (spec_l01In_eq _ _ _) (Ev.pos (by omega) (Ev.pos (by omega) (Ev.pos (by omega) (Ev.ifbb (Ev.ifn (Ev.gone e))))))) ?_
      rw [rd_ahead c4 hi, chainOk, elemOk]
      ac_rfl
    · refine Ev.to (Ev.bool (spec_l01In_eq _ _ _) (Ev.neg (by omega) (Ev.ifn (Ev.gone e)))) ?_
      rw [ahead_zero c4, chainOk, elemOk]
      ac_rfl
theorem spec_BatchOk_ev (n : Int) (l : List S86) (hl : l.length ≤ 1048576) : Ev (fun k => spec_BatchOk.f k n l) (batchOk n l) := by
  have hno : ∀ r : Bool, r = false → Ev (fun k => spec_BatchOk.j0 k true n l) r := fun r hr => by
    subst hr
    exact Ev.step (f := fun _ => some false) (fun k => by rw [spec_BatchOk.j0, if_pos rfl]) (Ev.now _)
  unfold spec_BatchOk.f batchOk
  refine Ev.bind0 (spec_l01In_eq _ _ _) ?_
  by_cases c1 : 0 ≤ n ∧ n ≤ 1000000000
  · refine Ev.pos (decide_eq_true c1) (Ev.bind0 (spec_l01In_eq _ _ _) ?_)
    rw [decide_eq_true c1, Bool.true_and]
    by_cases c2 : 1 ≤ (l.length : Int) ∧ (l.length : Int) ≤ 40
    · rw [decide_eq_true c2, Bool.true_and]
      exact Ev.step (fun k => by rw [Bool.not_true, spec_BatchOk.j0, if_neg (by decide)]; rfl) (spec_BatchOk_l0 n l hl l 0 rfl (Nat.zero_le _))
    · rw [decide_eq_false c2]
      exact hno _ rfl
  · exact Ev.neg (by simpa using c1) (hno _ (by rw [decide_eq_false c1]; rfl))

theorem impl_keyOk_eq (s : ByteArray) : impl_keyOk.f s = some (decide (1 ≤ (s.size : Int) ∧ (s.size : Int) ≤ 20)) := by
  unfold impl_keyOk.f
  rw [impl_within_eq, Option.bind_some]

theorem impl_BatchOk_l0 (n : Int) (l : List S86) (hl : l.length ≤ 1048576) : ∀ (t : List S86) (i : Nat), l.drop i = t → i ≤ l.length → Ev (fun k => impl_BatchOk.l0 k l (l.length : Int) (i : Int) n l) (decide (0 ≤ n ∧ n ≤ 1000000000) && decide (1 ≤ (l.length : Int) ∧ (l.length : Int) ≤ 40) && chainOk (ahead l i) t) := by
  intro t
  induction t with
  | nil =>
    intro i ht hi
    have := drop_nil_len ht
    refine Ev.succ ?_
    simp only [impl_BatchOk.l0]
    refine Ev.neg (by omega) (Ev.to (Ev.bool (impl_within_eq _ _ _) (Ev.bind0 (impl_within_eq _ _ _) (Ev.now _))) ?_)
    rw [chain_nil, Bool.and_true]
  | cons a t ih =>
    intro i ht hi
    obtain ⟨h1, h2, h3⟩ := rd_T86_drop ht
    have e := ih (i + 1) h3 (by omega)
    rw [ahead_succ ht, show ((i + 1 : Nat) : Int) = (i : Int) + 1 from by omega] at e
    refine Ev.succ ?_
    simp only [impl_BatchOk.l0, h1, w64 (n := (i : Int) + 1) (by omega) (by omega), w64 (n := (i : Int) - 1) (by omega) (by omega)]
    refine Ev.pos (by omega) (Ev.pos (by omega) (Ev.pos (by omega) ?_))
    by_cases c4 : 0 < i
    · refine Ev.to (Ev.bool (impl_keyOk_eq _) (Ev.ifn (Ev.gone (Ev.pos (by omega) (Ev.pos (by omega) (Ev.pos (by omega) (Ev.ifbb e))))))) ?_
      rw [rd_ahead c4 hi, chainOk, elemOk]
      ac_rfl
    · refine Ev.to (Ev.bool (impl_keyOk_eq _) (Ev.ifn (Ev.gone (Ev.neg (by omega) e)))) ?_
      rw [ahead_zero c4, chainOk, elemOk]
      ac_rfl
theorem impl_BatchOk_ev (n : Int) (l : List S86) (hl : l.length ≤ 1048576) : Ev (fun k => impl_BatchOk.f k n l) (batchOk n l) := by
  unfold impl_BatchOk.f batchOk
  exact impl_BatchOk_l0 n l hl l 0 rfl (Nat.zero_le _)

theorem FnExactBatchOk (n : Int) (l : List S112) (o : (Lit.int .i64 n).wf = true ∧ l.length ≤ maxLen ∧ ∀ x ∈ l, x.f0.size ≤ maxLen ∧ x.f1.size ≤ maxLen ∧ True) : ∃ k, laws_FnExactBatchOk.f k n l = some true := by
  refine Ev.rounds (r := true) ?_
  unfold laws_FnExactBatchOk.f
  obtain ⟨r, e, hr⟩ := laws_szBatch_ev n l o.2.1 (fun x hx => ⟨(o.2.2 x hx).1, (o.2.2 x hx).2.1⟩) 1048576 (by omega) (by omega)
  refine Ev.bind e ?_
  by_cases h0 : r < 0
  · exact Ev.pos h0 (Ev.now _)
  have hb := (hr (by omega)).2.1
  have hm : (l.map toC).length ≤ 1048576 := by rw [List.length_map]; omega
  refine Ev.neg h0 (Ev.bind (laws_toBatch_ev n l (by omega)) (Ev.bind (spec_BatchOk_ev n _ hm) (Ev.bind (laws_toBatch_ev n l (by omega)) (Ev.bind (impl_BatchOk_ev n _ hm) ?_))))
  exact Ev.neg (by simp) (Ev.bind (laws_toBatch_ev n l (by omega)) (Ev.bind (laws_eqBatch_ev n _ hm) (Ev.pos rfl (Ev.now _))))

end Go.Proofs.Ytliemdoegicbhaa.Pure
