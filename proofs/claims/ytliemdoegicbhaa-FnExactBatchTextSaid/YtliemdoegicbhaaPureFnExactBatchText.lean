/- For every batch that reads as data both programs' BatchText come to the same text and answer, and the batch is left as it was. -/
import Derived.Test.YtliemdoegicbhaaOFnExactBatchTextx7
import Derived.Test.YtliemdoegicbhaaBase
import Derived.Test.YtliemdoegicbhaaBase2
import Derived.Test.YtliemdoegicbhaaBase3
namespace Go.Proofs.Ytliemdoegicbhaa.Pure
open Go.RowKit Go.Proofs.Ytliemdoegicbhaa.PFnExactBatchText Go.Proofs.YtliemdoegicbhaaW.PrintWords Go.Proofs.YtliemdoegicbhaaW.PrintLast Go.Proofs.Ytliemdoegicbhaa.Base
set_option linter.unusedVariables false
set_option linter.unusedSimpArgs false

theorem spec_l01In_eq (a b c : Int) : spec_l01In.f a b c = some (decide (b ≤ a ∧ a ≤ c)) := by
  unfold spec_l01In.f
  by_cases h : b ≤ a <;> simp [h]

theorem impl_within_eq (a b c : Int) : impl_within.f a b c = some (decide (b ≤ a ∧ a ≤ c)) := by
  unfold impl_within.f
  by_cases h : b ≤ a <;> simp [h]

theorem rd_T112_drop {xs : List S112} {i : Nat} {a : S112} {t : List S112} (h : xs.drop i = a :: t) : rd_T112 xs (i : Int) = a ∧ i < xs.length ∧ xs.drop (i + 1) = t := rdOf_drop (d := z112) h
theorem rd_T86_drop {xs : List S86} {i : Nat} {a : S86} {t : List S86} (h : xs.drop i = a :: t) : rd_T86 xs (i : Int) = a ∧ i < xs.length ∧ xs.drop (i + 1) = t := rdOf_drop (d := z86) h
theorem laws_szChange_some (x : S112) (h0 : x.f0.size ≤ maxLen) (h1 : x.f1.size ≤ maxLen) (left : Int) (g0 : 0 ≤ left) (g1 : left ≤ 1048576) :
    ∃ r, laws_szChange.f x.f0 x.f1 x.f2 left = some r ∧ (0 ≤ r → r ≤ left ∧ (x.f0.size : Int) ≤ left ∧ (x.f1.size : Int) ≤ left) := by
  unfold maxLen at h0 h1
  unfold laws_szChange.f
  rw [w64 (n := left - (x.f0.size : Int)) (by omega) (by omega)]
  by_cases c1 : left - (x.f0.size : Int) < 0
  · rw [if_pos c1]; exact ⟨_, rfl, fun h => by omega⟩
  rw [if_neg c1, w64 (n := left - (x.f0.size : Int) - (x.f1.size : Int)) (by omega) (by omega)]
  by_cases c2 : left - (x.f0.size : Int) - (x.f1.size : Int) < 0
  · rw [if_pos c2]; exact ⟨_, rfl, fun h => by omega⟩
  rw [if_neg c2]; exact ⟨_, rfl, fun h => by omega⟩
def changeFits (x : S112) : Prop := x.f0.size ≤ maxLen ∧ x.f1.size ≤ maxLen
theorem laws_szChangeS_l0 (l : List S112) (hl : l.length ≤ 1048576) (hf : ∀ x ∈ l, changeFits x) : ∀ (t : List S112) (i : Nat) (left : Int), l.drop i = t → i ≤ l.length → 0 ≤ left → left ≤ 1048576 →
    ∃ r, Ev (fun k => laws_szChangeS.l0 k l left (i : Int)) r ∧ (0 ≤ r → r ≤ left ∧ ∀ x ∈ t, (x.f0.size : Int) ≤ left ∧ (x.f1.size : Int) ≤ left) := by
  intro t
  induction t with
  | nil =>
    intro i left ht hi g0 g1
    have := drop_nil_len ht
    exact ⟨left, Ev.step (f := fun _ => some left) (fun k => by rw [laws_szChangeS.l0, if_neg (by omega)]) (Ev.now _), fun _ => ⟨Int.le_refl _, fun x hx => by cases hx⟩⟩
  | cons a t ih =>
    intro i left ht hi g0 g1
    obtain ⟨h1, h2, h3⟩ := rd_T112_drop ht
    have ha : changeFits a := hf a (List.mem_of_mem_drop (by rw [ht]; exact List.mem_cons_self))
    obtain ⟨r, e, hr⟩ := laws_szChange_some a ha.1 ha.2 left g0 g1
    by_cases hr0 : r < 0
    · refine ⟨-1, Ev.step (f := fun _ => some (-1)) (fun k => ?_) (Ev.now _), fun h => by omega⟩
      rw [laws_szChangeS.l0, if_pos (by omega), if_pos (by omega), h1, e, Option.bind_some, if_pos hr0]
    · have hr := hr (by omega)
      obtain ⟨r2, e2, hr2⟩ := ih (i + 1) r h3 (by omega) (by omega) (by omega)
      refine ⟨r2, Ev.step (fun k => ?_) e2, fun h => ⟨by have := (hr2 h).1; omega, fun x hx => ?_⟩⟩
      · rw [laws_szChangeS.l0, if_pos (by omega), if_pos (by omega), h1, e, Option.bind_some, if_neg hr0, w64 (by omega) (by omega)]
        rfl
      · rcases List.mem_cons.1 hx with rfl | hx
        · exact hr.2
        · have := (hr2 h).2 x hx
          omega
theorem laws_szBatch_ev (n : Int) (l : List S112) (hl : l.length ≤ maxLen) (hf : ∀ x ∈ l, changeFits x) (left : Int) (g0 : 0 ≤ left) (g1 : left ≤ 1048576) :
    ∃ r, Ev (fun k => laws_szBatch.f k n l left) r ∧ (0 ≤ r → r ≤ left ∧ (l.length : Int) ≤ left ∧ ∀ x ∈ l, (x.f0.size : Int) ≤ left ∧ (x.f1.size : Int) ≤ left) := by
  unfold maxLen at hl
  unfold laws_szBatch.f laws_szChangeS.f
  rw [w64 (n := left - (l.length : Int)) (by omega) (by omega)]
  by_cases c1 : left - (l.length : Int) < 0
  · exact ⟨-1, Ev.bind (Ev.pos c1 (Ev.now _)) (Ev.pos (by omega) (Ev.now _)), fun h => by omega⟩
  · obtain ⟨r, e, hr⟩ := laws_szChangeS_l0 l (by omega) hf l 0 (left - (l.length : Int)) rfl (Nat.zero_le _) (by omega) (by omega)
    by_cases hr0 : r < 0
    · exact ⟨-1, Ev.bind (Ev.neg c1 e) (Ev.pos hr0 (Ev.now _)), fun h => by omega⟩
    · exact ⟨r, Ev.bind (Ev.neg c1 e) (Ev.neg hr0 (Ev.now _)), fun h => ⟨by have := (hr h).1; omega, by omega, fun x hx => by have := (hr h).2 x hx; omega⟩⟩
def toC (x : S112) : S86 := ⟨x.f0, x.f1, x.f2⟩
theorem laws_toChangeS_l0 (l : List S112) (hl : l.length ≤ 1048576) : ∀ (d i : Nat) (xs : List S86), xs.length = l.length → i + d = l.length → xs.take i = (l.take i).map toC → Ev (fun k => laws_toChangeS.l0 k l xs (i : Int)) (l.map toC) := by
  intro d
  induction d with
  | zero =>
    intro i xs hx hi ht
    refine Ev.step (f := fun _ => some xs) (fun k => by rw [laws_toChangeS.l0, if_neg (by omega)]) (Ev.ret ?_)
    rw [List.take_of_length_le (by omega), List.take_of_length_le (by omega)] at ht
    exact ht
  | succ d ih =>
    intro i xs hx hi ht
    have hr : rd_T112 l (i : Int) = l[i] := rdOf_get (d := z112) (by omega)
    refine Ev.step (fun k => ?_) (ih (i + 1) (xs.set i (toC l[i])) (by rw [List.length_set]; exact hx) (by omega) ?_)
    · rw [laws_toChangeS.l0, if_pos (by omega), if_pos (by omega), hr, laws_toChange.f, Option.bind_some, if_pos (by omega), w64 (by omega) (by omega), Int.toNat_natCast]
      rfl
    · rw [take_set_snoc _ _ _ (by omega), ht, List.take_succ_eq_append_getElem (by omega), List.map_append, List.map_singleton]
theorem laws_toBatch_ev (n : Int) (l : List S112) (hl : l.length ≤ 1048576) : Ev (fun k => laws_toBatch.f k n l) (n, l.map toC) := by
  unfold laws_toBatch.f laws_toChangeS.f
  exact Ev.bind (Ev.pos (by omega) (Ev.pos (by omega) (laws_toChangeS_l0 l hl l.length 0 _ (by rw [List.length_replicate]; omega) (by omega) rfl))) (Ev.now _)
theorem laws_eqChange_self (x : S86) : laws_eqChange.f x.f0 x.f1 x.f2 x.f0 x.f1 x.f2 = some true := by
  unfold laws_eqChange.f
  rw [if_pos rfl, if_pos rfl, if_neg (by simp)]
theorem laws_eqChangeS_l0 (l : List S86) (hl : l.length ≤ 1048576) : ∀ (t : List S86) (i : Nat), l.drop i = t → i ≤ l.length → Ev (fun k => laws_eqChangeS.l0 k l l (i : Int)) true := by
  intro t
  induction t with
  | nil =>
    intro i ht hi
    have := drop_nil_len ht
    exact Ev.step (f := fun _ => some true) (fun k => by rw [laws_eqChangeS.l0, if_neg (by omega)]) (Ev.now _)
  | cons a t ih =>
    intro i ht hi
    obtain ⟨h1, h2, h3⟩ := rd_T86_drop ht
    refine Ev.step (fun k => ?_) (ih (i + 1) h3 (by omega))
    rw [laws_eqChangeS.l0, if_pos (by omega), if_pos (by omega), if_pos (by omega), h1, laws_eqChange_self, Option.bind_some, if_pos rfl, w64 (by omega) (by omega)]
    rfl
theorem laws_eqBatch_ev (n : Int) (l : List S86) (hl : l.length ≤ 1048576) : Ev (fun k => laws_eqBatch.f k n l n l) true := by
  unfold laws_eqBatch.f laws_eqChangeS.f
  exact Ev.pos rfl (Ev.bind (Ev.pos rfl (laws_eqChangeS_l0 l hl l 0 rfl (Nat.zero_le _))) (Ev.pos rfl (Ev.now _)))
def elemOk (a : S86) : Bool := decide (1 ≤ (a.f0.size : Int) ∧ (a.f0.size : Int) ≤ 20) && (!decide ((a.f1.size : Int) > 2000) && (!a.f2 || decide (a.f1.toList = [])))
theorem Ev.gone {b : Bool} {c : Prop} [Decidable c] {f : Nat → Option Bool} {r : Bool} (e : Ev f r) : Ev (fun k => if b = true then (if c then f k else some false) else f k) ((!b || decide c) && r) := by
  cases b with
  | true => exact Ev.to (Ev.pos rfl (Ev.ifb e)) (by simp)
  | false => exact Ev.to (Ev.neg (by decide) e) (by simp)

/-- Elements, each right by itself, their keys ascending. -/
def chainOk : Option S86 → List S86 → Bool
  | _, [] => true
  | none, x :: l => elemOk x && chainOk (some x) l
  | some y, x :: l => elemOk x && Op.bytesLess y.f0.toList x.f0.toList && chainOk (some x) l
theorem chain_nil (o : Option S86) : chainOk o [] = true := by cases o <;> rfl
def ahead (l : List S86) (i : Nat) : Option S86 := if 0 < i then l[i - 1]? else none
theorem ahead_succ {l : List S86} {i : Nat} {a : S86} {t : List S86} (h : l.drop i = a :: t) : ahead l (i + 1) = some a := by
  unfold ahead
  rw [if_pos (by omega), Nat.add_sub_cancel]
  have := congrArg (fun z => z[0]?) h
  simpa using this
theorem rd_ahead {l : List S86} {i : Nat} (h : 0 < i) (hi : i ≤ l.length) : ahead l i = some (rd_T86 l ((i : Int) - 1)) := by
  unfold ahead
  rw [if_pos h]
  obtain ⟨j, rfl⟩ : ∃ j, i = j + 1 := ⟨i - 1, by omega⟩
  rw [Nat.add_sub_cancel, show ((j + 1 : Nat) : Int) - 1 = (j : Int) from by omega]
  have e : rd_T86 l (j : Int) = l[j] := rdOf_get (d := z86) (by omega)
  rw [e, List.getElem?_eq_getElem (by omega)]
theorem ahead_zero {l : List S86} {i : Nat} (h : ¬ 0 < i) : ahead l i = none := if_neg h

def batchOk (n : Int) (l : List S86) : Bool := decide (0 ≤ n ∧ n ≤ 1000000000) && decide (1 ≤ (l.length : Int) ∧ (l.length : Int) ≤ 40) && chainOk none l
theorem spec_BatchOk_l0 (n : Int) (l : List S86) (hl : l.length ≤ 1048576) : ∀ (t : List S86) (i : Nat), l.drop i = t → i ≤ l.length → Ev (fun k => spec_BatchOk.l0 k (i : Int) n l) (chainOk (ahead l i) t) := by
  intro t
  induction t with
  | nil =>
    intro i ht hi
    have := drop_nil_len ht
    exact Ev.step (f := fun _ => some true) (fun k => by rw [spec_BatchOk.l0, if_neg (by omega)]) (Ev.ret (chain_nil _).symm)
  | cons a t ih =>
    intro i ht hi
    obtain ⟨h1, h2, h3⟩ := rd_T86_drop ht
    have e := ih (i + 1) h3 (by omega)
    rw [ahead_succ ht, show ((i + 1 : Nat) : Int) = (i : Int) + 1 from by omega] at e
    refine Ev.succ ?_
    simp only [spec_BatchOk.l0, h1, w64 (n := (i : Int) + 1) (by omega) (by omega), w64 (n := (i : Int) - 1) (by omega) (by omega)]
    refine Ev.pos (by omega) (Ev.pos (by omega) ?_)
    by_cases c4 : 0 < i
    · refine Ev.to (Ev.bool (spec_l01In_eq _ _ _) (Ev.pos (by omega) (Ev.pos (by omega) (Ev.pos (by omega) (Ev.ifbb (Ev.ifn (Ev.gone e))))))) ?_
      rw [rd_ahead c4 hi, chainOk, elemOk]
      ac_rfl
    · refine Ev.to (Ev.bool (spec_l01In_eq _ _ _) (Ev.neg (by omega) (Ev.ifn (Ev.gone e)))) ?_
      rw [ahead_zero c4, chainOk, elemOk]
      ac_rfl
theorem spec_BatchOk_ev (n : Int) (l : List S86) (hl : l.length ≤ 1048576) : Ev (fun k => spec_BatchOk.f k n l) (batchOk n l) := by
  have hno : ∀ r : Bool, r = false → Ev (fun k => spec_BatchOk.j0 k true n l) r := fun r hr => by
    subst hr
    exact Ev.step (f := fun _ => some false) (fun k => by rw [spec_BatchOk.j0, if_pos rfl]) (Ev.now _)
  unfold spec_BatchOk.f batchOk
  refine Ev.bind0 (spec_l01In_eq _ _ _) ?_
  by_cases c1 : 0 ≤ n ∧ n ≤ 1000000000
  · refine Ev.pos (decide_eq_true c1) (Ev.bind0 (spec_l01In_eq _ _ _) ?_)
    rw [decide_eq_true c1, Bool.true_and]
    by_cases c2 : 1 ≤ (l.length : Int) ∧ (l.length : Int) ≤ 40
    · rw [decide_eq_true c2, Bool.true_and]
      exact Ev.step (fun k => by rw [Bool.not_true, spec_BatchOk.j0, if_neg (by decide)]; rfl) (spec_BatchOk_l0 n l hl l 0 rfl (Nat.zero_le _))
    · rw [decide_eq_false c2]
      exact hno _ rfl
  · exact Ev.neg (by simpa using c1) (hno _ (by rw [decide_eq_false c1]; rfl))

theorem impl_keyOk_eq (s : ByteArray) : impl_keyOk.f s = some (decide (1 ≤ (s.size : Int) ∧ (s.size : Int) ≤ 20)) := by
  unfold impl_keyOk.f
  rw [impl_within_eq, Option.bind_some]

theorem impl_BatchOk_l0 (n : Int) (l : List S86) (hl : l.length ≤ 1048576) : ∀ (t : List S86) (i : Nat), l.drop i = t → i ≤ l.length → Ev (fun k => impl_BatchOk.l0 k l (l.length : Int) (i : Int) n l) (decide (0 ≤ n ∧ n ≤ 1000000000) && decide (1 ≤ (l.length : Int) ∧ (l.length : Int) ≤ 40) && chainOk (ahead l i) t) := by
  intro t
  induction t with
  | nil =>
    intro i ht hi
    have := drop_nil_len ht
    refine Ev.succ ?_
    simp only [impl_BatchOk.l0]
    refine Ev.neg (by omega) (Ev.to (Ev.bool (impl_within_eq _ _ _) (Ev.bind0 (impl_within_eq _ _ _) (Ev.now _))) ?_)
    rw [chain_nil, Bool.and_true]
  | cons a t ih =>
    intro i ht hi
    obtain ⟨h1, h2, h3⟩ := rd_T86_drop ht
    have e := ih (i + 1) h3 (by omega)
    rw [ahead_succ ht, show ((i + 1 : Nat) : Int) = (i : Int) + 1 from by omega] at e
    refine Ev.succ ?_
    simp only [impl_BatchOk.l0, h1, w64 (n := (i : Int) + 1) (by omega) (by omega), w64 (n := (i : Int) - 1) (by omega) (by omega)]
    refine Ev.pos (by omega) (Ev.pos (by omega) (Ev.pos (by omega) ?_))
    by_cases c4 : 0 < i
    · refine Ev.to (Ev.bool (impl_keyOk_eq _) (Ev.ifn (Ev.gone (Ev.pos (by omega) (Ev.pos (by omega) (Ev.pos (by omega) (Ev.ifbb e))))))) ?_
      rw [rd_ahead c4 hi, chainOk, elemOk]
      ac_rfl
    · refine Ev.to (Ev.bool (impl_keyOk_eq _) (Ev.ifn (Ev.gone (Ev.neg (by omega) e)))) ?_
      rw [ahead_zero c4, chainOk, elemOk]
      ac_rfl
theorem impl_BatchOk_ev (n : Int) (l : List S86) (hl : l.length ≤ 1048576) : Ev (fun k => impl_BatchOk.f k n l) (batchOk n l) := by
  unfold impl_BatchOk.f batchOk
  exact impl_BatchOk_l0 n l hl l 0 rfl (Nat.zero_le _)

theorem spec_l01Var_l0 : ∀ (n : Nat) (acc : List Int), acc.length + n < 140737488355327 → Ev (fun k => spec_l01Var.l0 k (n : Int) acc) (strOfNums (acc ++ vl n)) := by
  intro n
  induction n using Nat.strongRecOn with
  | _ n ih =>
    intro acc h
    by_cases hn : n > 127
    · refine Ev.step (f := fun k => spec_l01Var.l0 k ((n / 128 : Nat) : Int) (acc ++ [((n % 128 + 128 : Nat) : Int)])) (fun k => ?_) ?_
      · rw [spec_l01Var.l0, if_pos (by omega), if_pos (by omega), quo128 (by omega), rem128]
      · have e := ih (n / 128) (by omega) (acc ++ [((n % 128 + 128 : Nat) : Int)]) (by rw [List.length_append, List.length_singleton]; omega)
        rw [vl_big hn]
        rwa [List.append_assoc] at e
    · refine Ev.step (f := fun _ => some (strOfNums (acc ++ vl n))) (fun k => ?_) (Ev.now _)
      rw [spec_l01Var.l0, if_neg (by omega), if_pos (by omega), vl_small hn, show (n : Int) % 256 = (n : Int) from by omega]
theorem spec_l01Var_ev {a : Int} (h : 0 ≤ a) (h' : a < 140737488355327) : Ev (fun k => spec_l01Var.f k a) (strOfNums (vl a.toNat)) := by
  obtain ⟨n, rfl⟩ := Int.eq_ofNat_of_zero_le h
  exact spec_l01Var_l0 n [] (by simp; omega)

theorem impl_VarText_l0 : ∀ (n : Nat) (acc : List Int), acc.length + n < 140737488355327 → Ev (fun k => impl_VarText.l0 k (n : Int) acc) (strOfNums (acc ++ vl n), true) := by
  intro n
  induction n using Nat.strongRecOn with
  | _ n ih =>
    intro acc h
    by_cases hn : n > 127
    · refine Ev.step (f := fun k => impl_VarText.l0 k ((n / 128 : Nat) : Int) (acc ++ [((n % 128 + 128 : Nat) : Int)])) (fun k => ?_) ?_
      · rw [impl_VarText.l0, if_pos (by omega), if_pos (by omega), quo128 (by omega), rem128]
      · have e := ih (n / 128) (by omega) (acc ++ [((n % 128 + 128 : Nat) : Int)]) (by rw [List.length_append, List.length_singleton]; omega)
        rw [vl_big hn]
        rwa [List.append_assoc] at e
    · refine Ev.step (f := fun _ => some (strOfNums (acc ++ vl n), true)) (fun k => ?_) (Ev.now _)
      rw [impl_VarText.l0, if_neg (by omega), if_pos (by omega), vl_small hn, show (n : Int) % 256 = (n : Int) from by omega]
theorem impl_VarText_ev (a : Int) : Ev (fun k => impl_VarText.f k a) (varText a) := by
  unfold impl_VarText.f
  refine Ev.bind0 (impl_within_eq _ _ _) ?_
  by_cases h : 0 ≤ a ∧ a ≤ 1000000000
  · refine Ev.pos (by simpa using h) ?_
    rw [varText_yes h.1 h.2]
    obtain ⟨n, rfl⟩ := Int.eq_ofNat_of_zero_le h.1
    exact impl_VarText_l0 n [] (by simp; omega)
  · refine Ev.neg (by simpa using h) (Ev.ret (varText_no h).symm)

theorem impl_ShortText_ev (s : ByteArray) : Ev (fun k => impl_ShortText.f k s) (shortText s) := by
  unfold impl_ShortText.f shortText
  by_cases h : s.size > 20000
  · rw [if_pos h]
    exact Ev.pos (by omega) (Ev.now _)
  · rw [if_neg h]
    have hv := vl_len 3 s.size (by omega) (by omega)
    refine Ev.neg (by omega) (Ev.bind (impl_VarText_ev _) ?_)
    rw [varText_yes (by omega) (by omega), Int.toNat_natCast]
    exact Ev.pos (by rw [strOfNums_size]; omega) (Ev.now _)

theorem impl_vars_l0 (l : List Int) (hr : ∀ a ∈ l, 0 ≤ a ∧ a ≤ 1000000000) (hl : l.length ≤ 1000) : ∀ (t : List Int) (i : Nat) (acc : List Int), l.drop i = t → i ≤ l.length → acc.length ≤ 5 * i →
    Ev (fun k => impl_vars.l0 k acc l (l.length : Int) (i : Int)) (strOfNums (acc ++ vlAll t), true) := by
  intro t
  induction t with
  | nil =>
    intro i acc ht hi ha
    have := List.drop_eq_nil_iff.1 ht
    rw [vlAll_nil, List.append_nil]
    refine Ev.step (f := fun _ => some (strOfNums acc, true)) (fun k => ?_) (Ev.now _)
    rw [impl_vars.l0, if_neg (by omega)]
  | cons a t ih =>
    intro i acc ht hi ha
    obtain ⟨h1, h2, h3⟩ := rd_drop ht
    have hin : 0 ≤ a ∧ a ≤ 1000000000 := hr a (List.mem_of_mem_drop (by rw [ht]; exact List.mem_cons_self))
    have hv := vl_len 5 a.toNat (by omega) (by omega)
    refine Ev.succ ?_
    simp only [impl_vars.l0, h1, w64 (n := (i : Int) + 1) (by omega) (by omega)]
    refine Ev.pos (by omega) (Ev.pos (by omega) (Ev.pos (by omega) (Ev.bind (impl_VarText_ev a) ?_)))
    rw [varText_yes hin.1 hin.2]
    refine Ev.pos rfl (Ev.pos (by rw [strOfNums_size]; omega) ?_)
    rw [bytesOf_nums _ (vl_range 5 a.toNat (by omega) (by omega)), vlAll_cons, ← List.append_assoc]
    exact ih (i + 1) (acc ++ vl a.toNat) h3 (by omega) (by rw [List.length_append]; omega)
theorem impl_vars_ev (l : List Int) (hr : ∀ a ∈ l, 0 ≤ a ∧ a ≤ 1000000000) (hl : l.length ≤ 1000) : Ev (fun k => impl_vars.f k l) (strOfNums (vlAll l), true) :=
  impl_vars_l0 l hr hl l 0 [] rfl (Nat.zero_le _) (Nat.le_refl _)

def shortB (s : ByteArray) : ByteArray := strOfNums (vl s.size) ++ s
theorem shortB_size (s : ByteArray) : (shortB s).size = (vl s.size).length + s.size := by rw [shortB, app_size, strOfNums_size]
theorem short_len {s : ByteArray} (h : s.size ≤ 1048576) : (vl s.size).length ≤ 3 := vl_len 3 s.size (by omega) (by omega)
theorem spec_l05Short_ev (s : ByteArray) (h : s.size ≤ 1048576) : Ev (fun k => spec_l05Short.f k s) (shortB s) := by
  unfold spec_l05Short.f
  refine Ev.bind (spec_l01Var_ev (by omega) (by omega)) ?_
  rw [Int.toNat_natCast]
  have := short_len h
  exact Ev.pos (by rw [strOfNums_size]; omega) (Ev.now _)
theorem impl_short_ev (s : ByteArray) (h : s.size ≤ 20000) : Ev (fun k => impl_short.f k s) (shortB s) := by
  unfold impl_short.f
  refine Ev.bind (impl_ShortText_ev s) (Ev.ret ?_)
  rw [shortText, if_neg (by omega)]
  rfl

theorem chain_all : ∀ (l : List S86) (o : Option S86), chainOk o l = true → ∀ x ∈ l, elemOk x = true := by
  intro l
  induction l with
  | nil => intro _ _ x hx; cases hx
  | cons a t ih =>
    intro o h x hx
    have h2 : elemOk a = true ∧ chainOk (some a) t = true := by
      cases o with
      | none => rw [chainOk, Bool.and_eq_true] at h; exact h
      | some y => rw [chainOk, Bool.and_eq_true, Bool.and_eq_true] at h; exact ⟨h.1.1, h.2⟩
    rcases List.mem_cons.1 hx with rfl | hx
    · exact h2.1
    · exact ih _ h2.2 x hx
theorem bytesOf_app (a b : ByteArray) : bytesOf (a ++ b) = bytesOf a ++ bytesOf b := by
  unfold bytesOf
  rw [app_data, List.map_append]
theorem str_bytes (s : ByteArray) : strOfNums (bytesOf s) = s := strOfNums_eq rfl

def flagB (b : Bool) : ByteArray := if b = true then (⟨#[1]⟩ : ByteArray) else (⟨#[0]⟩ : ByteArray)
theorem flagB_size (b : Bool) : (flagB b).size = 1 := by cases b <;> rfl
theorem spec_l05Flag_eq (b : Bool) : spec_l05Flag.f b = some (flagB b) := by cases b <;> rfl
theorem impl_flag_eq (b : Bool) : impl_flag.f b = some (flagB b) := by cases b <;> rfl
def changeB (x : S86) : ByteArray := (shortB x.f0 ++ flagB x.f2) ++ shortB x.f1
theorem changeB_size (x : S86) : (changeB x).size = (vl x.f0.size).length + x.f0.size + 1 + ((vl x.f1.size).length + x.f1.size) := by
  rw [changeB, app_size, app_size, shortB_size, shortB_size, flagB_size]
def addChanges (acc : ByteArray) (l : List S86) : ByteArray := l.foldl (fun a x => a ++ changeB x) acc
def batchHead (n : Int) (c : Nat) : ByteArray := (⟨#[66]⟩ : ByteArray) ++ (strOfNums (vl n.toNat) ++ strOfNums (vl c))
theorem one_size : (⟨#[66]⟩ : ByteArray).size = 1 := rfl
theorem batchHead_size (n : Int) (c : Nat) : (batchHead n c).size = 1 + ((vl n.toNat).length + (vl c).length) := by
  rw [batchHead, app_size, app_size, strOfNums_size, strOfNums_size, one_size]
def cutText (s : ByteArray) : ByteArray × Bool := if (s.size : Int) > 9000 then noText else (s, true)
def batchText (n : Int) (l : List S86) : ByteArray × Bool := if batchOk n l = true then cutText (addChanges (batchHead n l.length) l) else noText
theorem batchOk_facts {n : Int} {l : List S86} (h : batchOk n l = true) : 0 ≤ n ∧ n ≤ 1000000000 ∧ l.length ≤ 40 ∧ ∀ x ∈ l, x.f0.size ≤ 20 ∧ x.f1.size ≤ 2000 := by
  unfold batchOk at h
  rw [Bool.and_eq_true, Bool.and_eq_true, decide_eq_true_eq, decide_eq_true_eq] at h
  obtain ⟨⟨h1, h2⟩, h3⟩ := h
  refine ⟨h1.1, h1.2, by omega, fun x hx => ?_⟩
  have he := chain_all l none h3 x hx
  unfold elemOk at he
  rw [Bool.and_eq_true, Bool.and_eq_true, decide_eq_true_eq, Bool.not_eq_true', decide_eq_false_iff_not] at he
  exact ⟨by omega, by omega⟩
theorem spec_BatchText_l0 (n : Int) (l : List S86) (hl : l.length ≤ 40) (hf : ∀ x ∈ l, x.f0.size ≤ 20 ∧ x.f1.size ≤ 2000) : ∀ (t : List S86) (i : Nat) (acc : ByteArray), l.drop i = t → i ≤ l.length → acc.size ≤ 1000 + 2100 * i →
    Ev (fun k => spec_BatchText.l0 k (bytesOf acc) (i : Int) n l) (cutText (addChanges acc t)) := by
  intro t
  induction t with
  | nil =>
    intro i acc ht hi hz
    have := drop_nil_len ht
    refine Ev.step (f := fun _ => some (cutText acc)) (fun k => ?_) (Ev.now _)
    rw [spec_BatchText.l0, if_neg (by omega), bytesOf_length, str_bytes, cutText]
    by_cases h : (acc.size : Int) > 9000
    · rw [if_pos h, if_pos h]; rfl
    · rw [if_neg h, if_neg h]
  | cons x t ih =>
    intro i acc ht hi hz
    obtain ⟨h1, h2, h3⟩ := rd_T86_drop ht
    have hx := hf x (List.mem_of_mem_drop (by rw [ht]; exact List.mem_cons_self))
    have hv := vl_len 1 x.f0.size (by omega) (by omega)
    have hv2 := vl_len 2 x.f1.size (by omega) (by omega)
    have hc := changeB_size x
    have e := ih (i + 1) (acc ++ changeB x) h3 (by omega) (by rw [app_size]; omega)
    rw [show ((i + 1 : Nat) : Int) = (i : Int) + 1 from by omega, bytesOf_app] at e
    refine Ev.succ ?_
    simp only [spec_BatchText.l0, h1, w64 (n := (i : Int) + 1) (by omega) (by omega)]
    refine Ev.pos (by omega) (Ev.pos (by omega) (Ev.bind (spec_l05Short_ev x.f0 (by omega)) (Ev.bind0 (spec_l05Flag_eq _) (Ev.pos (by rw [shortB_size, flagB_size]; omega) (Ev.bind (spec_l05Short_ev x.f1 (by omega)) ?_)))))
    refine Ev.pos (by rw [app_size, shortB_size, shortB_size, flagB_size]; omega) (Ev.pos (by show (changeB x).size < _; omega) (Ev.bind0 rfl (Ev.pos ?_ e)))
    rw [bytesOf_length]
    show _ + (bytesOf (changeB x)).length < _
    rw [bytesOf_length]
    omega
theorem spec_BatchText_ev (n : Int) (l : List S86) (hl : l.length ≤ 1048576) : Ev (fun k => spec_BatchText.f k n l) (batchText n l) := by
  unfold spec_BatchText.f batchText
  refine Ev.bind (spec_BatchOk_ev n l hl) ?_
  cases hv : batchOk n l with
  | false => exact Ev.neg (by decide) (Ev.tneg (by decide) (Ev.now _))
  | true =>
    obtain ⟨f1, f2, f3, f4⟩ := batchOk_facts hv
    have v1 := vl_len 5 n.toNat (by omega) (by omega)
    have v2 := vl_len 1 l.length (by omega) (by omega)
    have hh := batchHead_size n l.length
    have e := spec_BatchText_l0 n l f3 f4 l 0 (batchHead n l.length) rfl (Nat.zero_le _) (by omega)
    refine Ev.pos (by trivial) (Ev.tpos (by trivial) (Ev.bind (spec_l01Var_ev f1 (by omega)) ?_))
    refine Ev.pos (by rw [strOfNums_size]; omega) (Ev.bind (spec_l01Var_ev (by omega) (by omega)) ?_)
    rw [Int.toNat_natCast]
    refine Ev.pos (by rw [app_size, strOfNums_size, strOfNums_size, one_size]; omega) ?_
    refine Ev.pos (by rw [app_size, app_size, strOfNums_size, strOfNums_size, one_size]; omega) ?_
    rw [show (((⟨#[66]⟩ : ByteArray) ++ strOfNums (vl n.toNat)) ++ strOfNums (vl l.length)) = batchHead n l.length from ByteArray.append_assoc]
    exact e
theorem impl_BatchText_l0 (l : List S86) (hl : l.length ≤ 40) (hf : ∀ x ∈ l, x.f0.size ≤ 20 ∧ x.f1.size ≤ 2000) : ∀ (t : List S86) (i : Nat) (acc : ByteArray), l.drop i = t → i ≤ l.length → acc.size ≤ 1000 + 2100 * i →
    Ev (fun k => impl_BatchText.l0 k acc l (l.length : Int) (i : Int)) (cutText (addChanges acc t)) := by
  intro t
  induction t with
  | nil =>
    intro i acc ht hi hz
    have := drop_nil_len ht
    refine Ev.step (f := fun _ => some (cutText acc)) (fun k => ?_) (Ev.now _)
    rw [impl_BatchText.l0, if_neg (by omega), cutText]
    by_cases h : (acc.size : Int) > 9000
    · rw [if_pos h, if_pos h]; rfl
    · rw [if_neg h, if_neg h]
  | cons x t ih =>
    intro i acc ht hi hz
    obtain ⟨h1, h2, h3⟩ := rd_T86_drop ht
    have hx := hf x (List.mem_of_mem_drop (by rw [ht]; exact List.mem_cons_self))
    have hv := vl_len 1 x.f0.size (by omega) (by omega)
    have hv2 := vl_len 2 x.f1.size (by omega) (by omega)
    have hc := changeB_size x
    have e := ih (i + 1) (acc ++ changeB x) h3 (by omega) (by rw [app_size]; omega)
    rw [show ((i + 1 : Nat) : Int) = (i : Int) + 1 from by omega] at e
    refine Ev.succ ?_
    simp only [impl_BatchText.l0, h1, w64 (n := (i : Int) + 1) (by omega) (by omega)]
    refine Ev.pos (by omega) (Ev.pos (by omega) (Ev.pos (by omega) (Ev.bind (impl_short_ev x.f0 (by omega)) (Ev.bind0 (impl_flag_eq _) (Ev.pos (by rw [shortB_size, flagB_size]; omega) (Ev.bind (impl_short_ev x.f1 (by omega)) ?_))))))
    exact Ev.pos (by rw [app_size, shortB_size, shortB_size, flagB_size]; omega) (Ev.pos (by show _ + (changeB x).size ≤ _; omega) e)
theorem impl_BatchText_ev (n : Int) (l : List S86) (hl : l.length ≤ 1048576) : Ev (fun k => impl_BatchText.f k n l) (batchText n l) := by
  unfold impl_BatchText.f batchText
  refine Ev.bind (impl_BatchOk_ev n l hl) ?_
  cases hv : batchOk n l with
  | false => exact Ev.neg (by decide) (Ev.tneg (by decide) (Ev.now _))
  | true =>
    obtain ⟨f1, f2, f3, f4⟩ := batchOk_facts hv
    have v1 := vl_len 5 n.toNat (by omega) (by omega)
    have v2 := vl_len 1 l.length (by omega) (by omega)
    have hh := batchHead_size n l.length
    have e := impl_BatchText_l0 l f3 f4 l 0 (batchHead n l.length) rfl (Nat.zero_le _) (by omega)
    have hvars := impl_vars_ev [n, (l.length : Int)] (fun a ha => by
      rcases List.mem_cons.1 ha with rfl | ha
      · omega
      · rw [List.mem_singleton.1 ha]; omega) (by simp)
    have hva : strOfNums (vlAll [n, (l.length : Int)]) = strOfNums (vl n.toNat) ++ strOfNums (vl l.length) := by
      rw [vlAll_cons, vlAll_cons, vlAll_nil, List.append_nil, strOfNums_append, Int.toNat_natCast]
    rw [hva] at hvars
    refine Ev.pos (by trivial) (Ev.tpos (by trivial) (Ev.bind hvars (Ev.pos ?_ e)))
    show 1 + (strOfNums (vl n.toNat) ++ strOfNums (vl l.length)).size ≤ _
    rw [app_size, strOfNums_size, strOfNums_size]
    omega

theorem FnExactBatchText (n : Int) (l : List S112) (o : (Lit.int .i64 n).wf = true ∧ l.length ≤ maxLen ∧ ∀ x ∈ l, x.f0.size ≤ maxLen ∧ x.f1.size ≤ maxLen ∧ True) : ∃ k, laws_FnExactBatchText.f k n l = some true := by
  refine Ev.rounds (r := true) ?_
  unfold laws_FnExactBatchText.f
  obtain ⟨r, e, hr⟩ := laws_szBatch_ev n l o.2.1 (fun x hx => ⟨(o.2.2 x hx).1, (o.2.2 x hx).2.1⟩) 1048576 (by omega) (by omega)
  refine Ev.bind e ?_
  by_cases h0 : r < 0
  · exact Ev.pos h0 (Ev.now _)
  have hb := (hr (by omega)).2.1
  have hm : (l.map toC).length ≤ 1048576 := by rw [List.length_map]; omega
  refine Ev.neg h0 (Ev.bind (laws_toBatch_ev n l (by omega)) (Ev.bind (spec_BatchText_ev n _ hm) (Ev.bind (laws_toBatch_ev n l (by omega)) (Ev.bind (impl_BatchText_ev n _ hm) (Ev.pos rfl ?_)))))
  refine Ev.succ ?_
  simp only [laws_FnExactBatchText.j0]
  exact Ev.neg (by simp) (Ev.bind (laws_toBatch_ev n l (by omega)) (Ev.bind (laws_eqBatch_ev n _ hm) (Ev.pos rfl (Ev.now _))))

end Go.Proofs.Ytliemdoegicbhaa.Pure
