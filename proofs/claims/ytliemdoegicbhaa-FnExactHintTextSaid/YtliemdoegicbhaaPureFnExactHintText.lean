/- For every directory that reads as data both programs' HintText come to the same text and answer, and the directory is left as it was. -/
import Derived.Test.YtliemdoegicbhaaOFnExactHintTextx7
import Derived.Test.YtliemdoegicbhaaBase
import Derived.Test.YtliemdoegicbhaaBase2
import Derived.Test.YtliemdoegicbhaaBase3
namespace Go.Proofs.Ytliemdoegicbhaa.Pure
open Go.RowKit Go.Proofs.Ytliemdoegicbhaa.PFnExactHintText Go.Proofs.YtliemdoegicbhaaW.PrintWords Go.Proofs.YtliemdoegicbhaaW.PrintLast Go.Proofs.Ytliemdoegicbhaa.Base
set_option linter.unusedVariables false
set_option linter.unusedSimpArgs false

theorem spec_l01In_eq (a b c : Int) : spec_l01In.f a b c = some (decide (b ≤ a ∧ a ≤ c)) := by
  unfold spec_l01In.f
  by_cases h : b ≤ a <;> simp [h]

theorem impl_within_eq (a b c : Int) : impl_within.f a b c = some (decide (b ≤ a ∧ a ≤ c)) := by
  unfold impl_within.f
  by_cases h : b ≤ a <;> simp [h]

theorem rd_T73_drop {xs : List S73} {i : Nat} {a : S73} {t : List S73} (h : xs.drop i = a :: t) : rd_T73 xs (i : Int) = a ∧ i < xs.length ∧ xs.drop (i + 1) = t := rdOf_drop (d := z73) h
theorem rd_T74_drop {xs : List S74} {i : Nat} {a : S74} {t : List S74} (h : xs.drop i = a :: t) : rd_T74 xs (i : Int) = a ∧ i < xs.length ∧ xs.drop (i + 1) = t := rdOf_drop (d := z74) h
theorem laws_szSpotS_l0 (l : List S73) (hl : l.length ≤ 1048576) (hf : ∀ x ∈ l, x.f0.size ≤ maxLen) : ∀ (t : List S73) (i : Nat) (left : Int), l.drop i = t → i ≤ l.length → 0 ≤ left → left ≤ 1048576 →
    ∃ r, Ev (fun k => laws_szSpotS.l0 k l left (i : Int)) r ∧ (0 ≤ r → r ≤ left ∧ ∀ x ∈ t, (x.f0.size : Int) ≤ left) := by
  intro t
  induction t with
  | nil =>
    intro i left ht hi g0 g1
    have := drop_nil_len ht
    exact ⟨left, Ev.step (f := fun _ => some left) (fun k => by rw [laws_szSpotS.l0, if_neg (by omega)]) (Ev.now _), fun _ => ⟨Int.le_refl _, fun x hx => by cases hx⟩⟩
  | cons a t ih =>
    intro i left ht hi g0 g1
    obtain ⟨h1, h2, h3⟩ := rd_T73_drop ht
    have ha := hf a (List.mem_of_mem_drop (by rw [ht]; exact List.mem_cons_self))
    unfold maxLen at ha
    by_cases hr0 : left - (a.f0.size : Int) < 0
    · refine ⟨-1, Ev.step (f := fun _ => some (-1)) (fun k => ?_) (Ev.now _), fun h => by omega⟩
      rw [laws_szSpotS.l0, if_pos (by omega), if_pos (by omega), h1, laws_szSpot.f, w64 (by omega) (by omega), if_pos hr0, Option.bind_some, if_pos (by omega)]
    · obtain ⟨r2, e2, hr2⟩ := ih (i + 1) (left - (a.f0.size : Int)) h3 (by omega) (by omega) (by omega)
      refine ⟨r2, Ev.step (fun k => ?_) e2, fun h => ⟨by have := (hr2 h).1; omega, fun x hx => ?_⟩⟩
      · rw [laws_szSpotS.l0, if_pos (by omega), if_pos (by omega), h1, laws_szSpot.f, w64 (n := left - (a.f0.size : Int)) (by omega) (by omega), if_neg hr0, Option.bind_some, if_neg hr0, w64 (by omega) (by omega)]
        rfl
      · rcases List.mem_cons.1 hx with rfl | hx
        · omega
        · have := (hr2 h).2 x hx
          omega
theorem laws_szSpotS_ev (l : List S73) (hl : l.length ≤ maxLen) (hf : ∀ x ∈ l, x.f0.size ≤ maxLen) (left : Int) (g0 : 0 ≤ left) (g1 : left ≤ 1048576) :
    ∃ r, Ev (fun k => laws_szSpotS.f k l left) r ∧ (0 ≤ r → r ≤ left ∧ (l.length : Int) ≤ left ∧ ∀ x ∈ l, (x.f0.size : Int) ≤ left) := by
  unfold maxLen at hl
  unfold laws_szSpotS.f
  rw [w64 (n := left - (l.length : Int)) (by omega) (by omega)]
  by_cases c1 : left - (l.length : Int) < 0
  · exact ⟨-1, Ev.pos c1 (Ev.now _), fun h => by omega⟩
  · obtain ⟨r, e, hr⟩ := laws_szSpotS_l0 l (by omega) hf l 0 (left - (l.length : Int)) rfl (Nat.zero_le _) (by omega) (by omega)
    exact ⟨r, Ev.neg c1 e, fun h => ⟨by have := (hr h).1; omega, by omega, fun x hx => by have := (hr h).2 x hx; omega⟩⟩
def toS (x : S73) : S74 := ⟨x.f0, x.f1, x.f2, x.f3⟩
theorem laws_toSpotS_l0 (l : List S73) (hl : l.length ≤ 1048576) : ∀ (d i : Nat) (xs : List S74), xs.length = l.length → i + d = l.length → xs.take i = (l.take i).map toS → Ev (fun k => laws_toSpotS.l0 k l xs (i : Int)) (l.map toS) := by
  intro d
  induction d with
  | zero =>
    intro i xs hx hi ht
    refine Ev.step (f := fun _ => some xs) (fun k => by rw [laws_toSpotS.l0, if_neg (by omega)]) (Ev.ret ?_)
    rw [List.take_of_length_le (by omega), List.take_of_length_le (by omega)] at ht
    exact ht
  | succ d ih =>
    intro i xs hx hi ht
    have hr : rd_T73 l (i : Int) = l[i] := rdOf_get (d := z73) (by omega)
    refine Ev.step (fun k => ?_) (ih (i + 1) (xs.set i (toS l[i])) (by rw [List.length_set]; exact hx) (by omega) ?_)
    · rw [laws_toSpotS.l0, if_pos (by omega), if_pos (by omega), hr, laws_toSpot.f, Option.bind_some, if_pos (by omega), w64 (by omega) (by omega), Int.toNat_natCast]
      rfl
    · rw [take_set_snoc _ _ _ (by omega), ht, List.take_succ_eq_append_getElem (by omega), List.map_append, List.map_singleton]
theorem laws_toSpotS_ev (l : List S73) (hl : l.length ≤ 1048576) : Ev (fun k => laws_toSpotS.f k l) (l.map toS) := by
  unfold laws_toSpotS.f
  exact Ev.pos (by omega) (Ev.pos (by omega) (laws_toSpotS_l0 l hl l.length 0 _ (by rw [List.length_replicate]; omega) (by omega) rfl))
theorem laws_eqSpot_self (x : S74) : laws_eqSpot.f x.f0 x.f1 x.f2 x.f3 x.f0 x.f1 x.f2 x.f3 = some true := by
  unfold laws_eqSpot.f
  rw [if_pos rfl, if_pos rfl, if_pos rfl, if_pos rfl]
theorem laws_eqSpotS_l0 (l : List S74) (hl : l.length ≤ 1048576) : ∀ (t : List S74) (i : Nat), l.drop i = t → i ≤ l.length → Ev (fun k => laws_eqSpotS.l0 k l l (i : Int)) true := by
  intro t
  induction t with
  | nil =>
    intro i ht hi
    have := drop_nil_len ht
    exact Ev.step (f := fun _ => some true) (fun k => by rw [laws_eqSpotS.l0, if_neg (by omega)]) (Ev.now _)
  | cons a t ih =>
    intro i ht hi
    obtain ⟨h1, h2, h3⟩ := rd_T74_drop ht
    refine Ev.step (fun k => ?_) (ih (i + 1) h3 (by omega))
    rw [laws_eqSpotS.l0, if_pos (by omega), if_pos (by omega), if_pos (by omega), h1, laws_eqSpot_self, Option.bind_some, if_pos rfl, w64 (by omega) (by omega)]
    rfl
theorem laws_eqSpotS_ev (l : List S74) (hl : l.length ≤ 1048576) : Ev (fun k => laws_eqSpotS.f k l l) true := by
  unfold laws_eqSpotS.f
  exact Ev.pos rfl (laws_eqSpotS_l0 l hl l 0 rfl (Nat.zero_le _))
def elemOk (a : S74) : Bool := decide (1 ≤ (a.f0.size : Int) ∧ (a.f0.size : Int) ≤ 20) && (decide (0 ≤ a.f1 ∧ a.f1 ≤ 99) && (decide (0 ≤ a.f2 ∧ a.f2 ≤ 20000) && decide (0 ≤ a.f3 ∧ a.f3 ≤ 1000000000)))

/-- Elements, each right by itself, their keys ascending. -/
def chainOk : Option S74 → List S74 → Bool
  | _, [] => true
  | none, x :: l => elemOk x && chainOk (some x) l
  | some y, x :: l => elemOk x && Op.bytesLess y.f0.toList x.f0.toList && chainOk (some x) l
theorem chain_nil (o : Option S74) : chainOk o [] = true := by cases o <;> rfl
def ahead (l : List S74) (i : Nat) : Option S74 := if 0 < i then l[i - 1]? else none
theorem ahead_succ {l : List S74} {i : Nat} {a : S74} {t : List S74} (h : l.drop i = a :: t) : ahead l (i + 1) = some a := by
  unfold ahead
  rw [if_pos (by omega), Nat.add_sub_cancel]
  have := congrArg (fun z => z[0]?) h
  simpa using this
theorem rd_ahead {l : List S74} {i : Nat} (h : 0 < i) (hi : i ≤ l.length) : ahead l i = some (rd_T74 l ((i : Int) - 1)) := by
  unfold ahead
  rw [if_pos h]
  obtain ⟨j, rfl⟩ : ∃ j, i = j + 1 := ⟨i - 1, by omega⟩
  rw [Nat.add_sub_cancel, show ((j + 1 : Nat) : Int) - 1 = (j : Int) from by omega]
  have e : rd_T74 l (j : Int) = l[j] := rdOf_get (d := z74) (by omega)
  rw [e, List.getElem?_eq_getElem (by omega)]
theorem ahead_zero {l : List S74} {i : Nat} (h : ¬ 0 < i) : ahead l i = none := if_neg h

def dirOk (l : List S74) : Bool := decide (l.length ≤ 200) && chainOk none l
theorem spec_DirOk_l0 (l : List S74) (hl : l.length ≤ 1048576) : ∀ (t : List S74) (i : Nat), l.drop i = t → i ≤ l.length → Ev (fun k => spec_DirOk.l0 k l (i : Int)) (chainOk (ahead l i) t) := by
  intro t
  induction t with
  | nil =>
    intro i ht hi
    have := drop_nil_len ht
    exact Ev.step (f := fun _ => some true) (fun k => by rw [spec_DirOk.l0, if_neg (by omega)]) (Ev.ret (chain_nil _).symm)
  | cons a t ih =>
    intro i ht hi
    obtain ⟨h1, h2, h3⟩ := rd_T74_drop ht
    have e := ih (i + 1) h3 (by omega)
    rw [ahead_succ ht, show ((i + 1 : Nat) : Int) = (i : Int) + 1 from by omega] at e
    refine Ev.succ ?_
    simp only [spec_DirOk.l0, h1, w64 (n := (i : Int) + 1) (by omega) (by omega), w64 (n := (i : Int) - 1) (by omega) (by omega)]
    refine Ev.pos (by omega) (Ev.pos (by omega) ?_)
    by_cases c4 : 0 < i
    · refine Ev.to (Ev.bool (spec_l01In_eq _ _ _) (Ev.pos (by omega) (Ev.pos (by omega) (Ev.pos (by omega) (Ev.ifbb (Ev.bool (spec_l01In_eq _ _ _) (Ev.bool (spec_l01In_eq _ _ _) (Ev.bool (spec_l01In_eq _ _ _) e)))))))) ?_
      rw [rd_ahead c4 hi, chainOk, elemOk]
      ac_rfl
    · refine Ev.to (Ev.bool (spec_l01In_eq _ _ _) (Ev.neg (by omega) (Ev.bool (spec_l01In_eq _ _ _) (Ev.bool (spec_l01In_eq _ _ _) (Ev.bool (spec_l01In_eq _ _ _) e))))) ?_
      rw [ahead_zero c4, chainOk, elemOk]
      ac_rfl
theorem spec_DirOk_ev (l : List S74) (hl : l.length ≤ 1048576) : Ev (fun k => spec_DirOk.f k l) (dirOk l) := by
  unfold spec_DirOk.f dirOk
  refine Ev.to (Ev.ifn (spec_DirOk_l0 l hl l 0 rfl (Nat.zero_le _))) ?_
  rw [show (!decide ((l.length : Int) > 200)) = decide (l.length ≤ 200) from by rw [← decide_not]; exact decide_eq_decide.2 (by omega)]
  rfl

theorem impl_keyOk_eq (s : ByteArray) : impl_keyOk.f s = some (decide (1 ≤ (s.size : Int) ∧ (s.size : Int) ≤ 20)) := by
  unfold impl_keyOk.f
  rw [impl_within_eq, Option.bind_some]

theorem impl_DirOk_l0 (l : List S74) (hl : l.length ≤ 1048576) : ∀ (t : List S74) (i : Nat), l.drop i = t → i ≤ l.length → Ev (fun k => impl_DirOk.l0 k l l (l.length : Int) (i : Int)) (decide (l.length ≤ 200) && chainOk (ahead l i) t) := by
  intro t
  induction t with
  | nil =>
    intro i ht hi
    have := drop_nil_len ht
    refine Ev.step (f := fun _ => some (decide ((l.length : Int) ≤ 200))) (fun k => by rw [impl_DirOk.l0, if_neg (by omega)]) (Ev.ret ?_)
    rw [chain_nil, Bool.and_true]
    exact decide_eq_decide.2 (by omega)
  | cons a t ih =>
    intro i ht hi
    obtain ⟨h1, h2, h3⟩ := rd_T74_drop ht
    have e := ih (i + 1) h3 (by omega)
    rw [ahead_succ ht, show ((i + 1 : Nat) : Int) = (i : Int) + 1 from by omega] at e
    refine Ev.succ ?_
    simp only [impl_DirOk.l0, h1, w64 (n := (i : Int) + 1) (by omega) (by omega), w64 (n := (i : Int) - 1) (by omega) (by omega)]
    refine Ev.pos (by omega) (Ev.pos (by omega) (Ev.pos (by omega) ?_))
    by_cases c4 : 0 < i
    · refine Ev.to (Ev.bool (impl_keyOk_eq _) (Ev.bool (impl_within_eq _ _ _) (Ev.bool (impl_within_eq _ _ _) (Ev.bool (impl_within_eq _ _ _) (Ev.pos (by omega) (Ev.pos (by omega) (Ev.pos (by omega) (Ev.ifbb e)))))))) ?_
      rw [rd_ahead c4 hi, chainOk, elemOk]
      ac_rfl
    · refine Ev.to (Ev.bool (impl_keyOk_eq _) (Ev.bool (impl_within_eq _ _ _) (Ev.bool (impl_within_eq _ _ _) (Ev.bool (impl_within_eq _ _ _) (Ev.neg (by omega) e))))) ?_
      rw [ahead_zero c4, chainOk, elemOk]
      ac_rfl
theorem impl_DirOk_ev (l : List S74) (hl : l.length ≤ 1048576) : Ev (fun k => impl_DirOk.f k l) (dirOk l) := by
  unfold impl_DirOk.f dirOk
  exact impl_DirOk_l0 l hl l 0 rfl (Nat.zero_le _)

theorem spec_l01Var_l0 : ∀ (n : Nat) (acc : List Int), acc.length + n < 140737488355327 → Ev (fun k => spec_l01Var.l0 k (n : Int) acc) (strOfNums (acc ++ vl n)) := by
  intro n
  induction n using Nat.strongRecOn with
  | _ n ih =>
    intro acc h
    by_cases hn : n > 127
    · refine Ev.step (f := fun k => spec_l01Var.l0 k ((n / 128 : Nat) : Int) (acc ++ [((n % 128 + 128 : Nat) : Int)])) (fun k => ?_) ?_
      · rw [spec_l01Var.l0, if_pos (by omega), if_pos (by omega), quo128 (by omega), rem128]
      · have e := ih (n / 128) (by omega) (acc ++ [((n % 128 + 128 : Nat) : Int)]) (by rw [List.length_append, List.length_singleton]; omega)
        rw [vl_big hn]
        rwa [List.append_assoc] at e
    · refine Ev.step (f := fun _ => some (strOfNums (acc ++ vl n))) (fun k => ?_) (Ev.now _)
      rw [spec_l01Var.l0, if_neg (by omega), if_pos (by omega), vl_small hn, show (n : Int) % 256 = (n : Int) from by omega]
theorem spec_l01Var_ev {a : Int} (h : 0 ≤ a) (h' : a < 140737488355327) : Ev (fun k => spec_l01Var.f k a) (strOfNums (vl a.toNat)) := by
  obtain ⟨n, rfl⟩ := Int.eq_ofNat_of_zero_le h
  exact spec_l01Var_l0 n [] (by simp; omega)

theorem impl_VarText_l0 : ∀ (n : Nat) (acc : List Int), acc.length + n < 140737488355327 → Ev (fun k => impl_VarText.l0 k (n : Int) acc) (strOfNums (acc ++ vl n), true) := by
  intro n
  induction n using Nat.strongRecOn with
  | _ n ih =>
    intro acc h
    by_cases hn : n > 127
    · refine Ev.step (f := fun k => impl_VarText.l0 k ((n / 128 : Nat) : Int) (acc ++ [((n % 128 + 128 : Nat) : Int)])) (fun k => ?_) ?_
      · rw [impl_VarText.l0, if_pos (by omega), if_pos (by omega), quo128 (by omega), rem128]
      · have e := ih (n / 128) (by omega) (acc ++ [((n % 128 + 128 : Nat) : Int)]) (by rw [List.length_append, List.length_singleton]; omega)
        rw [vl_big hn]
        rwa [List.append_assoc] at e
    · refine Ev.step (f := fun _ => some (strOfNums (acc ++ vl n), true)) (fun k => ?_) (Ev.now _)
      rw [impl_VarText.l0, if_neg (by omega), if_pos (by omega), vl_small hn, show (n : Int) % 256 = (n : Int) from by omega]
theorem impl_VarText_ev (a : Int) : Ev (fun k => impl_VarText.f k a) (varText a) := by
  unfold impl_VarText.f
  refine Ev.bind0 (impl_within_eq _ _ _) ?_
  by_cases h : 0 ≤ a ∧ a ≤ 1000000000
  · refine Ev.pos (by simpa using h) ?_
    rw [varText_yes h.1 h.2]
    obtain ⟨n, rfl⟩ := Int.eq_ofNat_of_zero_le h.1
    exact impl_VarText_l0 n [] (by simp; omega)
  · refine Ev.neg (by simpa using h) (Ev.ret (varText_no h).symm)

theorem impl_ShortText_ev (s : ByteArray) : Ev (fun k => impl_ShortText.f k s) (shortText s) := by
  unfold impl_ShortText.f shortText
  by_cases h : s.size > 20000
  · rw [if_pos h]
    exact Ev.pos (by omega) (Ev.now _)
  · rw [if_neg h]
    have hv := vl_len 3 s.size (by omega) (by omega)
    refine Ev.neg (by omega) (Ev.bind (impl_VarText_ev _) ?_)
    rw [varText_yes (by omega) (by omega), Int.toNat_natCast]
    exact Ev.pos (by rw [strOfNums_size]; omega) (Ev.now _)

theorem impl_vars_l0 (l : List Int) (hr : ∀ a ∈ l, 0 ≤ a ∧ a ≤ 1000000000) (hl : l.length ≤ 1000) : ∀ (t : List Int) (i : Nat) (acc : List Int), l.drop i = t → i ≤ l.length → acc.length ≤ 5 * i →
    Ev (fun k => impl_vars.l0 k acc l (l.length : Int) (i : Int)) (strOfNums (acc ++ vlAll t), true) := by
  intro t
  induction t with
  | nil =>
    intro i acc ht hi ha
    have := List.drop_eq_nil_iff.1 ht
    rw [vlAll_nil, List.append_nil]
    refine Ev.step (f := fun _ => some (strOfNums acc, true)) (fun k => ?_) (Ev.now _)
    rw [impl_vars.l0, if_neg (by omega)]
  | cons a t ih =>
    intro i acc ht hi ha
    obtain ⟨h1, h2, h3⟩ := rd_drop ht
    have hin : 0 ≤ a ∧ a ≤ 1000000000 := hr a (List.mem_of_mem_drop (by rw [ht]; exact List.mem_cons_self))
    have hv := vl_len 5 a.toNat (by omega) (by omega)
    refine Ev.succ ?_
    simp only [impl_vars.l0, h1, w64 (n := (i : Int) + 1) (by omega) (by omega)]
    refine Ev.pos (by omega) (Ev.pos (by omega) (Ev.pos (by omega) (Ev.bind (impl_VarText_ev a) ?_)))
    rw [varText_yes hin.1 hin.2]
    refine Ev.pos rfl (Ev.pos (by rw [strOfNums_size]; omega) ?_)
    rw [bytesOf_nums _ (vl_range 5 a.toNat (by omega) (by omega)), vlAll_cons, ← List.append_assoc]
    exact ih (i + 1) (acc ++ vl a.toNat) h3 (by omega) (by rw [List.length_append]; omega)
theorem impl_vars_ev (l : List Int) (hr : ∀ a ∈ l, 0 ≤ a ∧ a ≤ 1000000000) (hl : l.length ≤ 1000) : Ev (fun k => impl_vars.f k l) (strOfNums (vlAll l), true) :=
  impl_vars_l0 l hr hl l 0 [] rfl (Nat.zero_le _) (Nat.le_refl _)

def shortB (s : ByteArray) : ByteArray := strOfNums (vl s.size) ++ s
theorem shortB_size (s : ByteArray) : (shortB s).size = (vl s.size).length + s.size := by rw [shortB, app_size, strOfNums_size]
theorem short_len {s : ByteArray} (h : s.size ≤ 1048576) : (vl s.size).length ≤ 3 := vl_len 3 s.size (by omega) (by omega)
theorem spec_l05Short_ev (s : ByteArray) (h : s.size ≤ 1048576) : Ev (fun k => spec_l05Short.f k s) (shortB s) := by
  unfold spec_l05Short.f
  refine Ev.bind (spec_l01Var_ev (by omega) (by omega)) ?_
  rw [Int.toNat_natCast]
  have := short_len h
  exact Ev.pos (by rw [strOfNums_size]; omega) (Ev.now _)
theorem impl_short_ev (s : ByteArray) (h : s.size ≤ 20000) : Ev (fun k => impl_short.f k s) (shortB s) := by
  unfold impl_short.f
  refine Ev.bind (impl_ShortText_ev s) (Ev.ret ?_)
  rw [shortText, if_neg (by omega)]
  rfl

theorem spec_SumMore_l1 (s : ByteArray) (i : Int) (h0 : 0 ≤ i) (h1 : i < 140737488355328) (r : Int) : ∀ (d : Nat) (j x : Int), j + d = 8 → 0 ≤ j → Ev (fun k => spec_SumMore.l0 k (sumN d x) s (i + 1)) r → Ev (fun k => spec_SumMore.l1 k x s i j) r := by
  intro d
  induction d with
  | zero =>
    intro j x hj hj0 h
    refine Ev.step (f := fun k => spec_SumMore.l0 k x s (i + 1)) (fun k => ?_) h
    rw [spec_SumMore.l1, if_neg (by omega), w64 (by omega) (by omega)]
  | succ d ih =>
    intro j x hj hj0 h
    refine Ev.step (f := fun k => spec_SumMore.l1 k (sum1 x) s i (j + 1)) (fun k => ?_) (ih (j + 1) (sum1 x) (by omega) (by omega) h)
    rw [spec_SumMore.l1, if_pos (by omega), w64 (by omega) (by omega), sum1]
    split <;> rfl
theorem spec_SumMore_l0 (s : ByteArray) (hs : s.size ≤ 140737488351232) : ∀ (l : List UInt8) (i : Nat) (x : Int), s.data.toList.drop i = l → i ≤ s.size → Ev (fun k => spec_SumMore.l0 k x s i) (sumMore x l) := by
  intro l
  induction l with
  | nil =>
    intro i x hl hi
    have := drop_none hl
    rw [sumMore_nil]
    refine Ev.step (f := fun _ => some x) (fun k => ?_) (Ev.now _)
    rw [spec_SumMore.l0, if_neg (by omega)]
  | cons c l ih =>
    intro i x hl hi
    obtain ⟨hb, hlt, hd⟩ := bt_drop hl
    refine Ev.step (f := fun k => spec_SumMore.l1 k (Go.bits .xor .u32 x ((c.toNat : Int) % 4294967296)) s i 0) (fun k => ?_) ?_
    · rw [spec_SumMore.l0, if_pos (by omega), if_pos (by omega), hb]
    · rw [sumMore_cons, feed]
      exact spec_SumMore_l1 s i (by omega) (by omega) _ 8 0 _ (by omega) (by omega) (ih (i + 1) _ hd (by omega))
theorem spec_SumMore_ev (x : Int) (s : ByteArray) (hs : s.size ≤ 140737488351232) : Ev (fun k => spec_SumMore.f k x s) (sumMore x s.data.toList) :=
  spec_SumMore_l0 s hs s.data.toList 0 x rfl (Nat.zero_le _)

theorem spec_SumOf_ev (s : ByteArray) (hs : s.size ≤ 140737488351232) : Ev (fun k => spec_SumOf.f k s) (sumOf s) := by
  unfold spec_SumOf.f
  exact Ev.bind (spec_SumMore_ev _ s hs) (Ev.now _)

theorem spec_Sealed_ev (s : ByteArray) (hs : s.size ≤ 140737488351232) : Ev (fun k => spec_Sealed.f k s) (sealedOf s) := by
  unfold spec_Sealed.f sealedOf
  by_cases h : s.size > 20000
  · rw [if_pos h]
    exact Ev.pos (by omega) (Ev.now _)
  · rw [if_neg h]
    refine Ev.neg (by omega) (Ev.bind (spec_SumOf_ev s hs) (Ev.bind0 (x := four (sumOf s)) rfl ?_))
    exact Ev.pos (by rw [four_size]; omega) (Ev.now _)

theorem impl_SumMore_l1 (s : ByteArray) (i : Int) (h0 : 0 ≤ i) (h1 : i < 140737488355328) (r : Int) : ∀ (d : Nat) (j x : Int), j + d = 8 → 0 ≤ j → Ev (fun k => impl_SumMore.l0 k (sumN d x) s (i + 1)) r → Ev (fun k => impl_SumMore.l1 k x s i j) r := by
  intro d
  induction d with
  | zero =>
    intro j x hj hj0 h
    refine Ev.step (f := fun k => impl_SumMore.l0 k x s (i + 1)) (fun k => ?_) h
    rw [impl_SumMore.l1, if_neg (by omega), w64 (by omega) (by omega)]
  | succ d ih =>
    intro j x hj hj0 h
    refine Ev.step (f := fun k => impl_SumMore.l1 k (sum1 x) s i (j + 1)) (fun k => ?_) (ih (j + 1) (sum1 x) (by omega) (by omega) h)
    rw [impl_SumMore.l1, if_pos (by omega), w64 (by omega) (by omega), sum1]
    split <;> rfl
theorem impl_SumMore_l0 (s : ByteArray) (hs : s.size ≤ 140737488351232) : ∀ (l : List UInt8) (i : Nat) (x : Int), s.data.toList.drop i = l → i ≤ s.size → Ev (fun k => impl_SumMore.l0 k x s i) (sumMore x l) := by
  intro l
  induction l with
  | nil =>
    intro i x hl hi
    have := drop_none hl
    rw [sumMore_nil]
    refine Ev.step (f := fun _ => some x) (fun k => ?_) (Ev.now _)
    rw [impl_SumMore.l0, if_neg (by omega)]
  | cons c l ih =>
    intro i x hl hi
    obtain ⟨hb, hlt, hd⟩ := bt_drop hl
    refine Ev.step (f := fun k => impl_SumMore.l1 k (Go.bits .xor .u32 x ((c.toNat : Int) % 4294967296)) s i 0) (fun k => ?_) ?_
    · rw [impl_SumMore.l0, if_pos (by omega), if_pos (by omega), hb]
    · rw [sumMore_cons, feed]
      exact impl_SumMore_l1 s i (by omega) (by omega) _ 8 0 _ (by omega) (by omega) (ih (i + 1) _ hd (by omega))
theorem impl_SumMore_ev (x : Int) (s : ByteArray) (hs : s.size ≤ 140737488351232) : Ev (fun k => impl_SumMore.f k x s) (sumMore x s.data.toList) :=
  impl_SumMore_l0 s hs s.data.toList 0 x rfl (Nat.zero_le _)

theorem impl_SumOf_ev (s : ByteArray) (hs : s.size ≤ 140737488351232) : Ev (fun k => impl_SumOf.f k s) (sumOf s) := by
  unfold impl_SumOf.f
  exact Ev.bind (impl_SumMore_ev _ s hs) (Ev.now _)

theorem impl_Sealed_ev (s : ByteArray) (hs : s.size ≤ 140737488351232) : Ev (fun k => impl_Sealed.f k s) (sealedOf s) := by
  unfold impl_Sealed.f sealedOf
  by_cases h : s.size > 20000
  · rw [if_pos h]
    exact Ev.pos (by omega) (Ev.now _)
  · rw [if_neg h]
    refine Ev.neg (by omega) (Ev.bind (impl_SumOf_ev s hs) (Ev.bind0 rfl ?_))
    exact Ev.pos (by rw [strOfNums_size, List.length_cons, List.length_cons, List.length_cons, List.length_singleton]; omega) (Ev.now _)

theorem chain_all : ∀ (l : List S74) (o : Option S74), chainOk o l = true → ∀ x ∈ l, elemOk x = true := by
  intro l
  induction l with
  | nil => intro _ _ x hx; cases hx
  | cons a t ih =>
    intro o h x hx
    have h2 : elemOk a = true ∧ chainOk (some a) t = true := by
      cases o with
      | none => rw [chainOk, Bool.and_eq_true] at h; exact h
      | some y => rw [chainOk, Bool.and_eq_true, Bool.and_eq_true] at h; exact ⟨h.1.1, h.2⟩
    rcases List.mem_cons.1 hx with rfl | hx
    · exact h2.1
    · exact ih _ h2.2 x hx
theorem bytesOf_app (a b : ByteArray) : bytesOf (a ++ b) = bytesOf a ++ bytesOf b := by
  unfold bytesOf
  rw [app_data, List.map_append]
theorem str_bytes (s : ByteArray) : strOfNums (bytesOf s) = s := strOfNums_eq rfl

def spotB (x : S74) : ByteArray := ((shortB x.f0 ++ strOfNums (vl x.f1.toNat)) ++ strOfNums (vl x.f2.toNat)) ++ strOfNums (vl x.f3.toNat)
theorem spotB_size (x : S74) : (spotB x).size = (vl x.f0.size).length + x.f0.size + (vl x.f1.toNat).length + (vl x.f2.toNat).length + (vl x.f3.toNat).length := by
  rw [spotB, app_size, app_size, app_size, shortB_size, strOfNums_size, strOfNums_size, strOfNums_size]
def addSpots (acc : ByteArray) (l : List S74) : ByteArray := l.foldl (fun a x => a ++ spotB x) acc
def hintText (l : List S74) : ByteArray × Bool := if dirOk l = true then sealedOf (addSpots (strOfNums (vl l.length)) l) else noText
def spotFits (x : S74) : Prop := x.f0.size ≤ 20 ∧ (0 ≤ x.f1 ∧ x.f1 ≤ 99) ∧ (0 ≤ x.f2 ∧ x.f2 ≤ 20000) ∧ (0 ≤ x.f3 ∧ x.f3 ≤ 1000000000)
theorem dirOk_facts {l : List S74} (h : dirOk l = true) : l.length ≤ 200 ∧ ∀ x ∈ l, spotFits x := by
  unfold dirOk at h
  rw [Bool.and_eq_true, decide_eq_true_eq] at h
  refine ⟨h.1, fun x hx => ?_⟩
  have he := chain_all l none h.2 x hx
  unfold elemOk at he
  rw [Bool.and_eq_true, Bool.and_eq_true, Bool.and_eq_true, decide_eq_true_eq, decide_eq_true_eq, decide_eq_true_eq, decide_eq_true_eq] at he
  exact ⟨by omega, he.2.1, he.2.2.1, he.2.2.2⟩
theorem spotB_small {x : S74} (h : spotFits x) : (vl x.f0.size).length ≤ 1 ∧ (vl x.f1.toNat).length ≤ 1 ∧ (vl x.f2.toNat).length ≤ 3 ∧ (vl x.f3.toNat).length ≤ 5 := by
  obtain ⟨h1, h2, h3, h4⟩ := h
  exact ⟨vl_len 1 _ (by omega) (by omega), vl_len 1 _ (by omega) (by omega), vl_len 3 _ (by omega) (by omega), vl_len 5 _ (by omega) (by omega)⟩
theorem sealed_yes {s : ByteArray} (h : s.size ≤ 20000) : sealedOf s = ((sealedOf s).1, true) ∧ (sealedOf s).1.size = s.size + 4 := by
  unfold sealedOf
  rw [if_neg (by omega)]
  exact ⟨rfl, by rw [app_size, four_size]⟩
theorem spec_HintText_l0 (l : List S74) (hl : l.length ≤ 200) (hf : ∀ x ∈ l, spotFits x) : ∀ (t : List S74) (i : Nat) (acc : ByteArray), l.drop i = t → i ≤ l.length → acc.size ≤ 100 + 45 * i →
    Ev (fun k => spec_HintText.l0 k l (bytesOf acc) (i : Int)) (sealedOf (addSpots acc t)) := by
  intro t
  induction t with
  | nil =>
    intro i acc ht hi hz
    have := drop_nil_len ht
    refine Ev.succ ?_
    simp only [spec_HintText.l0, str_bytes]
    exact Ev.neg (by omega) (Ev.bind (spec_Sealed_ev acc (by omega)) (Ev.now _))
  | cons x t ih =>
    intro i acc ht hi hz
    obtain ⟨h1, h2, h3⟩ := rd_T74_drop ht
    have hx := hf x (List.mem_of_mem_drop (by rw [ht]; exact List.mem_cons_self))
    obtain ⟨v1, v2, v3, v4⟩ := spotB_small hx
    have hc := spotB_size x
    obtain ⟨x1, x2, x3, x4⟩ := hx
    have e := ih (i + 1) (acc ++ spotB x) h3 (by omega) (by rw [app_size]; omega)
    rw [show ((i + 1 : Nat) : Int) = (i : Int) + 1 from by omega, bytesOf_app] at e
    refine Ev.succ ?_
    simp only [spec_HintText.l0, h1, w64 (n := (i : Int) + 1) (by omega) (by omega)]
    refine Ev.pos (by omega) (Ev.pos (by omega) (Ev.bind (spec_l05Short_ev x.f0 (by omega)) (Ev.bind (spec_l01Var_ev x2.1 (by omega)) (Ev.pos (by rw [shortB_size, strOfNums_size]; omega) (Ev.bind (spec_l01Var_ev x3.1 (by omega)) ?_)))))
    refine Ev.pos (by rw [app_size, shortB_size, strOfNums_size, strOfNums_size]; omega) (Ev.bind (spec_l01Var_ev x4.1 (by omega)) (Ev.pos (by rw [app_size, app_size, shortB_size, strOfNums_size, strOfNums_size, strOfNums_size]; omega) (Ev.pos (by show (spotB x).size < _; omega) (Ev.bind0 rfl (Ev.pos ?_ e)))))
    rw [bytesOf_length]
    show _ + (bytesOf (spotB x)).length < _
    rw [bytesOf_length]
    omega
theorem spec_HintText_ev (l : List S74) (hl : l.length ≤ 1048576) : Ev (fun k => spec_HintText.f k l) (hintText l) := by
  unfold spec_HintText.f hintText
  refine Ev.bind (spec_DirOk_ev l hl) ?_
  cases hv : dirOk l with
  | false => exact Ev.neg (by decide) (Ev.tneg (by decide) (Ev.now _))
  | true =>
    obtain ⟨f1, f2⟩ := dirOk_facts hv
    have v2 := vl_len 2 l.length (by omega) (by omega)
    have e := spec_HintText_l0 l f1 f2 l 0 (strOfNums (vl l.length)) rfl (Nat.zero_le _) (by rw [strOfNums_size]; omega)
    refine Ev.pos (by trivial) (Ev.tpos (by trivial) (Ev.bind (spec_l01Var_ev (by omega) (by omega)) ?_))
    rw [Int.toNat_natCast]
    exact Ev.pos (by rw [strOfNums_size]; omega) e
theorem impl_HintText_l0 (l : List S74) (hl : l.length ≤ 200) (hf : ∀ x ∈ l, spotFits x) : ∀ (t : List S74) (i : Nat) (acc : ByteArray), l.drop i = t → i ≤ l.length → acc.size ≤ 100 + 45 * i →
    Ev (fun k => impl_HintText.l0 k acc l (l.length : Int) (i : Int)) (sealedOf (addSpots acc t)) := by
  intro t
  induction t with
  | nil =>
    intro i acc ht hi hz
    have := drop_nil_len ht
    obtain ⟨s1, s2⟩ := sealed_yes (s := acc) (by omega)
    show Ev _ (sealedOf acc)
    refine Ev.succ ?_
    simp only [impl_HintText.l0]
    refine Ev.neg (by omega) (Ev.bind (impl_Sealed_ev acc (by omega)) ?_)
    rw [s1]
    by_cases hbig : ((sealedOf acc).1.size : Int) > 20000
    · omega
    · exact Ev.pos rfl (Ev.neg hbig (Ev.now _))
  | cons x t ih =>
    intro i acc ht hi hz
    obtain ⟨h1, h2, h3⟩ := rd_T74_drop ht
    have hx := hf x (List.mem_of_mem_drop (by rw [ht]; exact List.mem_cons_self))
    obtain ⟨v1, v2, v3, v4⟩ := spotB_small hx
    have hc := spotB_size x
    obtain ⟨x1, x2, x3, x4⟩ := hx
    have e := ih (i + 1) (acc ++ spotB x) h3 (by omega) (by rw [app_size]; omega)
    rw [show ((i + 1 : Nat) : Int) = (i : Int) + 1 from by omega] at e
    have hvars := impl_vars_ev [x.f1, x.f2, x.f3] (fun a ha => by
      rcases List.mem_cons.1 ha with rfl | ha
      · omega
      · rcases List.mem_cons.1 ha with rfl | ha
        · omega
        · rw [List.mem_singleton.1 ha]; omega) (by simp)
    have hva : shortB x.f0 ++ strOfNums (vlAll [x.f1, x.f2, x.f3]) = spotB x := by
      rw [vlAll_cons, vlAll_cons, vlAll_cons, vlAll_nil, List.append_nil, strOfNums_append, strOfNums_append, spotB, ByteArray.append_assoc, ByteArray.append_assoc]
    refine Ev.succ ?_
    simp only [impl_HintText.l0, h1, w64 (n := (i : Int) + 1) (by omega) (by omega)]
    refine Ev.pos (by omega) (Ev.pos (by omega) (Ev.pos (by omega) (Ev.bind hvars (Ev.bind (impl_short_ev x.f0 (by omega)) ?_))))
    have hs := congrArg ByteArray.size hva
    rw [app_size] at hs
    refine Ev.pos (by show _ + (strOfNums (vlAll [x.f1, x.f2, x.f3])).size ≤ _; omega) ?_
    rw [hva]
    exact Ev.pos (by omega) e
theorem impl_HintText_ev (l : List S74) (hl : l.length ≤ 1048576) : Ev (fun k => impl_HintText.f k l) (hintText l) := by
  unfold impl_HintText.f hintText
  refine Ev.bind (impl_DirOk_ev l hl) ?_
  cases hv : dirOk l with
  | false => exact Ev.neg (by decide) (Ev.tneg (by decide) (Ev.now _))
  | true =>
    obtain ⟨f1, f2⟩ := dirOk_facts hv
    have v2 := vl_len 2 l.length (by omega) (by omega)
    have e := impl_HintText_l0 l f1 f2 l 0 (strOfNums (vl l.length)) rfl (Nat.zero_le _) (by rw [strOfNums_size]; omega)
    have hvars := impl_vars_ev [(l.length : Int)] (fun a ha => by rw [List.mem_singleton.1 ha]; omega) (by simp)
    have hva : strOfNums (vlAll [(l.length : Int)]) = strOfNums (vl l.length) := by rw [vlAll_cons, vlAll_nil, List.append_nil, Int.toNat_natCast]
    rw [hva] at hvars
    exact Ev.pos (by trivial) (Ev.tpos (by trivial) (Ev.bind hvars e))

theorem FnExactHintText (l : List S73) (o : l.length ≤ maxLen ∧ ∀ x ∈ l, x.f0.size ≤ maxLen ∧ (Lit.int .i64 x.f1).wf = true ∧ (Lit.int .i64 x.f2).wf = true ∧ (Lit.int .i64 x.f3).wf = true) : ∃ k, laws_FnExactHintText.f k l = some true := by
  refine Ev.rounds (r := true) ?_
  unfold laws_FnExactHintText.f
  obtain ⟨r, e, hr⟩ := laws_szSpotS_ev l o.1 (fun x hx => (o.2 x hx).1) 1048576 (by omega) (by omega)
  refine Ev.bind e ?_
  by_cases h0 : r < 0
  · exact Ev.pos h0 (Ev.now _)
  have hb := (hr (by omega)).2.1
  have hm : (l.map toS).length ≤ 1048576 := by rw [List.length_map]; omega
  refine Ev.neg h0 (Ev.bind (laws_toSpotS_ev l (by omega)) (Ev.bind (spec_HintText_ev _ hm) (Ev.bind (laws_toSpotS_ev l (by omega)) (Ev.bind (impl_HintText_ev _ hm) (Ev.pos rfl ?_)))))
  refine Ev.succ ?_
  simp only [laws_FnExactHintText.j0]
  exact Ev.neg (by simp) (Ev.bind (laws_toSpotS_ev l (by omega)) (Ev.bind (laws_eqSpotS_ev _ hm) (Ev.pos rfl (Ev.now _))))

end Go.Proofs.Ytliemdoegicbhaa.Pure
