/- For every directory that reads as data both programs' DirOk come to the same answer, and the directory is left as it was. -/
import Derived.Test.YtliemdoegicbhaaOFnExactDirOkx5
import Derived.Test.YtliemdoegicbhaaBase
import Derived.Test.YtliemdoegicbhaaBase2
import Derived.Test.YtliemdoegicbhaaBase3
namespace Go.Proofs.Ytliemdoegicbhaa.Pure
open Go.RowKit Go.Proofs.Ytliemdoegicbhaa.PFnExactDirOk Go.Proofs.YtliemdoegicbhaaW.PrintWords Go.Proofs.YtliemdoegicbhaaW.PrintLast Go.Proofs.Ytliemdoegicbhaa.Base
set_option linter.unusedVariables false
set_option linter.unusedSimpArgs false

theorem spec_l01In_eq (a b c : Int) : spec_l01In.f a b c = some (decide (b ≤ a ∧ a ≤ c)) := by
  unfold spec_l01In.f
  by_cases h : b ≤ a <;> simp [h]

theorem impl_within_eq (a b c : Int) : impl_within.f a b c = some (decide (b ≤ a ∧ a ≤ c)) := by
  unfold impl_within.f
  by_cases h : b ≤ a <;> simp [h]

theorem rd_T73_drop {xs : List S73} {i : Nat} {a : S73} {t : List S73} (h : xs.drop i = a :: t) : rd_T73 xs (i : Int) = a ∧ i < xs.length ∧ xs.drop (i + 1) = t := rdOf_drop (d := z73) h
theorem rd_T74_drop {xs : List S74} {i : Nat} {a : S74} {t : List S74} (h : xs.drop i = a :: t) : rd_T74 xs (i : Int) = a ∧ i < xs.length ∧ xs.drop (i + 1) = t := rdOf_drop (d := z74) h
theorem laws_szSpotS_l0 (l : List S73) (hl : l.length ≤ 1048576) (hf : ∀ x ∈ l, x.f0.size ≤ maxLen) : ∀ (t : List S73) (i : Nat) (left : Int), l.drop i = t → i ≤ l.length → 0 ≤ left → left ≤ 1048576 →
    ∃ r, Ev (fun k => laws_szSpotS.l0 k l left (i : Int)) r ∧ (0 ≤ r → r ≤ left ∧ ∀ x ∈ t, (x.f0.size : Int) ≤ left) := by
  intro t
  induction t with
  | nil =>
    intro i left ht hi g0 g1
    have := drop_nil_len ht
    exact ⟨left, Ev.step (f := fun _ => some left) (fun k => by rw [laws_szSpotS.l0, if_neg (by omega)]) (Ev.now _), fun _ => ⟨Int.le_refl _, fun x hx => by cases hx⟩⟩
  | cons a t ih =>
    intro i left ht hi g0 g1
    obtain ⟨h1, h2, h3⟩ := rd_T73_drop ht
    have ha := hf a (List.mem_of_mem_drop (by rw [ht]; exact List.mem_cons_self))
    unfold maxLen at ha
    by_cases hr0 : left - (a.f0.size : Int) < 0
    · refine ⟨-1, Ev.step (f := fun _ => some (-1)) (fun k => ?_) (Ev.now _), fun h => by omega⟩
      rw [laws_szSpotS.l0, if_pos (by omega), if_pos (by omega), h1, laws_szSpot.f, w64 (by omega) (by omega), if_pos hr0, Option.bind_some, if_pos (by omega)]
    · obtain ⟨r2, e2, hr2⟩ := ih (i + 1) (left - (a.f0.size : Int)) h3 (by omega) (by omega) (by omega)
      refine ⟨r2, Ev.step (fun k => ?_) e2, fun h => ⟨by have := (hr2 h).1; omega, fun x hx => ?_⟩⟩
      · rw [laws_szSpotS.l0, if_pos (by omega), if_pos (by omega), h1, laws_szSpot.f, w64 (n := left - (a.f0.size : Int)) (by omega) (by omega), if_neg hr0, Option.bind_some, if_neg hr0, w64 (by omega) (by omega)]
        rfl
      · rcases List.mem_cons.1 hx with rfl | hx
        · omega
        · have := (hr2 h).2 x hx
          omega
theorem laws_szSpotS_ev (l : List S73) (hl : l.length ≤ maxLen) (hf : ∀ x ∈ l, x.f0.size ≤ maxLen) (left : Int) (g0 : 0 ≤ left) (g1 : left ≤ 1048576) :
    ∃ r, Ev (fun k => laws_szSpotS.f k l left) r ∧ (0 ≤ r → r ≤ left ∧ (l.length : Int) ≤ left ∧ ∀ x ∈ l, (x.f0.size : Int) ≤ left) := by
  unfold maxLen at hl
  unfold laws_szSpotS.f
  rw [w64 (n := left - (l.length : Int)) (by omega) (by omega)]
  by_cases c1 : left - (l.length : Int) < 0
  · exact ⟨-1, Ev.pos c1 (Ev.now _), fun h => by omega⟩
  · obtain ⟨r, e, hr⟩ := laws_szSpotS_l0 l (by omega) hf l 0 (left - (l.length : Int)) rfl (Nat.zero_le _) (by omega) (by omega)
    exact ⟨r, Ev.neg c1 e, fun h => ⟨by have := (hr h).1; omega, by omega, fun x hx => by have := (hr h).2 x hx; omega⟩⟩
def toS (x : S73) : S74 := ⟨x.f0, x.f1, x.f2, x.f3⟩
theorem laws_toSpotS_l0 (l : List S73) (hl : l.length ≤ 1048576) : ∀ (d i : Nat) (xs : List S74), xs.length = l.length → i + d = l.length → xs.take i = (l.take i).map toS → Ev (fun k => laws_toSpotS.l0 k l xs (i : Int)) (l.map toS) := by
  intro d
  induction d with
  | zero =>
    intro i xs hx hi ht
    refine Ev.step (f := fun _ => some xs) (fun k => by rw [laws_toSpotS.l0, if_neg (by omega)]) (Ev.ret ?_)
    rw [List.take_of_length_le (by omega), List.take_of_length_le (by omega)] at ht
    exact ht
  | succ d ih =>
    intro i xs hx hi ht
    have hr : rd_T73 l (i : Int) = l[i] := rdOf_get (d := z73) (by omega)
    refine Ev.step (fun k => ?_) (ih (i + 1) (xs.set i (toS l[i])) (by rw [List.length_set]; exact hx) (by omega) ?_)
    · rw [laws_toSpotS.l0, if_pos (by omega), if_pos (by omega), hr, laws_toSpot.f, Option.bind_some, if_pos (by omega), w64 (by omega) (by omega), Int.toNat_natCast]
      rfl
    · rw [take_set_snoc _ _ _ (by omega), ht, List.take_succ_eq_append_getElem (by omega), List.map_append, List.map_singleton]
theorem laws_toSpotS_ev (l : List S73) (hl : l.length ≤ 1048576) : Ev (fun k => laws_toSpotS.f k l) (l.map toS) := by
  unfold laws_toSpotS.f
  exact Ev.pos (by omega) (Ev.pos (by omega) (laws_toSpotS_l0 l hl l.length 0 _ (by rw [List.length_replicate]; omega) (by omega) rfl))
theorem laws_eqSpot_self (x : S74) : laws_eqSpot.f x.f0 x.f1 x.f2 x.f3 x.f0 x.f1 x.f2 x.f3 = some true := by
  unfold laws_eqSpot.f
  rw [if_pos rfl, if_pos rfl, if_pos rfl, if_pos rfl]
theorem laws_eqSpotS_l0 (l : List S74) (hl : l.length ≤ 1048576) : ∀ (t : List S74) (i : Nat), l.drop i = t → i ≤ l.length → Ev (fun k => laws_eqSpotS.l0 k l l (i : Int)) true := by
  intro t
  induction t with
  | nil =>
    intro i ht hi
    have := drop_nil_len ht
    exact Ev.step (f := fun _ => some true) (fun k => by rw [laws_eqSpotS.l0, if_neg (by omega)]) (Ev.now _)
  | cons a t ih =>
    intro i ht hi
    obtain ⟨h1, h2, h3⟩ := rd_T74_drop ht
    refine Ev.step (fun k => ?_) (ih (i + 1) h3 (by omega))
    rw [laws_eqSpotS.l0, if_pos (by omega), if_pos (by omega), if_pos (by omega), h1, laws_eqSpot_self, Option.bind_some, if_pos rfl, w64 (by omega) (by omega)]
    rfl
theorem laws_eqSpotS_ev (l : List S74) (hl : l.length ≤ 1048576) : Ev (fun k => laws_eqSpotS.f k l l) true := by
  unfold laws_eqSpotS.f
  exact Ev.pos rfl (laws_eqSpotS_l0 l hl l 0 rfl (Nat.zero_le _))
def elemOk (a : S74) : Bool := decide (1 ≤ (a.f0.size : Int) ∧ (a.f0.size : Int) ≤ 20) && (decide (0 ≤ a.f1 ∧ a.f1 ≤ 99) && (decide (0 ≤ a.f2 ∧ a.f2 ≤ 20000) && decide (0 ≤ a.f3 ∧ a.f3 ≤ 1000000000)))

/-- Elements, each right by itself, their keys ascending. -/
def chainOk : Option S74 → List S74 → Bool
  | _, [] => true
  | none, x :: l => elemOk x && chainOk (some x) l
  | some y, x :: l => elemOk x && Op.bytesLess y.f0.toList x.f0.toList && chainOk (some x) l
theorem chain_nil (o : Option S74) : chainOk o [] = true := by cases o <;> rfl
def ahead (l : List S74) (i : Nat) : Option S74 := if 0 < i then l[i - 1]? else none
theorem ahead_succ {l : List S74} {i : Nat} {a : S74} {t : List S74} (h : l.drop i = a :: t) : ahead l (i + 1) = some a := by
  unfold ahead
  rw [if_pos (by omega), Nat.add_sub_cancel]
  have := congrArg (fun z => z[0]?) h
  simpa using this
theorem rd_ahead {l : List S74} {i : Nat} (h : 0 < i) (hi : i ≤ l.length) : ahead l i = some (rd_T74 l ((i : Int) - 1)) := by
  unfold ahead
  rw [if_pos h]
  obtain ⟨j, rfl⟩ : ∃ j, i = j + 1 := ⟨i - 1, by omega⟩
  rw [Nat.add_sub_cancel, show ((j + 1 : Nat) : Int) - 1 = (j : Int) from by omega]
  have e : rd_T74 l (j : Int) = l[j] := rdOf_get (d := z74) (by omega)
  rw [e, List.getElem?_eq_getElem (by omega)]
theorem ahead_zero {l : List S74} {i : Nat} (h : ¬ 0 < i) : ahead l i = none := if_neg h

def dirOk (l : List S74) : Bool := decide (l.length ≤ 200) && chainOk none l
theorem spec_DirOk_l0 (l : List S74) (hl : l.length ≤ 1048576) : ∀ (t : List S74) (i : Nat), l.drop i = t → i ≤ l.length → Ev (fun k => spec_DirOk.l0 k l (i : Int)) (chainOk (ahead l i) t) := by
  intro t
  induction t with
  | nil =>
    intro i ht hi
    have := drop_nil_len ht
    exact Ev.step (f := fun _ => some true) (fun k => by rw [spec_DirOk.l0, if_neg (by omega)]) (Ev.ret (chain_nil _).symm)
  | cons a t ih =>
    intro i ht hi
    obtain ⟨h1, h2, h3⟩ := rd_T74_drop ht
    have e := ih (i + 1) h3 (by omega)
    rw [ahead_succ ht, show ((i + 1 : Nat) : Int) = (i : Int) + 1 from by omega] at e
    refine Ev.succ ?_
    simp only [spec_DirOk.l0, h1, w64 (n := (i : Int) + 1) (by omega) (by omega), w64 (n := (i : Int) - 1) (by omega) (by omega)]
    refine Ev.pos (by omega) (Ev.pos (by omega) ?_)
    by_cases c4 : 0 < i
    · refine Ev.to (Ev.bool (spec_l01In_eq _ _ _) (Ev.pos (by omega) (Ev.pos (by omega) (Ev.pos (by omega) (Ev.ifbb (Ev.bool (spec_l01In_eq _ _ _) (Ev.bool (spec_l01In_eq _ _ _) (Ev.bool (spec_l01In_eq _ _ _) e)))))))) ?_
      rw [rd_ahead c4 hi, chainOk, elemOk]
      ac_rfl
    · refine Ev.to (Ev.bool (spec_l01In_eq _ _ _) (Ev.neg (by omega) (Ev.bool (spec_l01In_eq _ _ _) (Ev.bool (spec_l01In_eq _ _ _) (Ev.bool (spec_l01In_eq _ _ _) e))))) ?_
      rw [ahead_zero c4, chainOk, elemOk]
      ac_rfl
theorem spec_DirOk_ev (l : List S74) (hl : l.length ≤ 1048576) : Ev (fun k => spec_DirOk.f k l) (dirOk l) := by
  unfold spec_DirOk.f dirOk
  refine Ev.to (Ev.ifn (spec_DirOk_l0 l hl l 0 rfl (Nat.zero_le _))) ?_
  rw [show (!decide ((l.length : Int) > 200)) = decide (l.length ≤ 200) from by rw [← decide_not]; exact decide_eq_decide.2 (by omega)]
  rfl

theorem impl_keyOk_eq (s : ByteArray) : impl_keyOk.f s = some (decide (1 ≤ (s.size : Int) ∧ (s.size : Int) ≤ 20)) := by
  unfold impl_keyOk.f
  rw [impl_within_eq, Option.bind_some]

theorem impl_DirOk_l0 (l : List S74) (hl : l.length ≤ 1048576) : ∀ (t : List S74) (i : Nat), l.drop i = t → i ≤ l.length → Ev (fun k => impl_DirOk.l0 k l l (l.length : Int) (i : Int)) (decide (l.length ≤ 200) && chainOk (ahead l i) t) := by
  intro t
  induction t with
  | nil =>
    intro i ht hi
    have := drop_nil_len ht
    refine Ev.step (f := fun _ => some (decide ((l.length : Int) ≤ 200))) (fun k => by rw [impl_DirOk.l0, if_neg (by omega)]) (Ev.ret ?_)
    rw [chain_nil, Bool.and_true]
    exact decide_eq_decide.2 (by omega)
  | cons a t ih =>
    intro i ht hi
    obtain ⟨h1, h2, h3⟩ := rd_T74_drop ht
    have e := ih (i + 1) h3 (by omega)
    rw [ahead_succ ht, show ((i + 1 : Nat) : Int) = (i : Int) + 1 from by omega] at e
    refine Ev.succ ?_
    simp only [impl_DirOk.l0, h1, w64 (n := (i : Int) + 1) (by omega) (by omega), w64 (n := (i : Int) - 1) (by omega) (by omega)]
    refine Ev.pos (by omega) (Ev.pos (by omega) (Ev.pos (by omega) ?_))
    by_cases c4 : 0 < i
    · refine Ev.to (Ev.bool (impl_keyOk_eq _) (Ev.bool (impl_within_eq _ _ _) (Ev.bool (impl_within_eq _ _ _) (Ev.bool (impl_within_eq _ _ _) (Ev.pos (by omega) (Ev.pos (by omega) (Ev.pos (by omega) (Ev.ifbb e)))))))) ?_
      rw [rd_ahead c4 hi, chainOk, elemOk]
      ac_rfl
    · refine Ev.to (Ev.bool (impl_keyOk_eq _) (Ev.bool (impl_within_eq _ _ _) (Ev.bool (impl_within_eq _ _ _) (Ev.bool (impl_within_eq _ _ _) (Ev.neg (by omega) e))))) ?_
      rw [ahead_zero c4, chainOk, elemOk]
      ac_rfl
theorem impl_DirOk_ev (l : List S74) (hl : l.length ≤ 1048576) : Ev (fun k => impl_DirOk.f k l) (dirOk l) := by
  unfold impl_DirOk.f dirOk
  exact impl_DirOk_l0 l hl l 0 rfl (Nat.zero_le _)

theorem FnExactDirOk (l : List S73) (o : l.length ≤ maxLen ∧ ∀ x ∈ l, x.f0.size ≤ maxLen ∧ (Lit.int .i64 x.f1).wf = true ∧ (Lit.int .i64 x.f2).wf = true ∧ (Lit.int .i64 x.f3).wf = true) : ∃ k, laws_FnExactDirOk.f k l = some true := by
  refine Ev.rounds (r := true) ?_
  unfold laws_FnExactDirOk.f
  obtain ⟨r, e, hr⟩ := laws_szSpotS_ev l o.1 (fun x hx => (o.2 x hx).1) 1048576 (by omega) (by omega)
  refine Ev.bind e ?_
  by_cases h0 : r < 0
  · exact Ev.pos h0 (Ev.now _)
  have hb := (hr (by omega)).2.1
  have hm : (l.map toS).length ≤ 1048576 := by rw [List.length_map]; omega
  refine Ev.neg h0 (Ev.bind (laws_toSpotS_ev l (by omega)) (Ev.bind (spec_DirOk_ev _ hm) (Ev.bind (laws_toSpotS_ev l (by omega)) (Ev.bind (impl_DirOk_ev _ hm) ?_))))
  exact Ev.neg (by simp) (Ev.bind (laws_toSpotS_ev l (by omega)) (Ev.bind (laws_eqSpotS_ev _ hm) (Ev.pos rfl (Ev.now _))))

end Go.Proofs.Ytliemdoegicbhaa.Pure
