/- For every text both programs' PartsOf come to the same parts and answer, and the parts handed back are held by nobody else. -/
import Derived.Test.YtmfjnmkkhfpboaaDoorOFnExactPartsOfx2
import Derived.Test.YtmfjnmkkhfpboaaDoorBase
import Derived.Test.YtmfjnmkkhfpboaaDoorBase2
import Derived.Test.YtmfjnmkkhfpboaaDoorBase3
namespace Go.Proofs.YtmfjnmkkhfpboaaDoor.Pure
open Go.RowKit Go.Proofs.YtmfjnmkkhfpboaaDoor.PFnExactPartsOf Go.Proofs.YtmfjnmkkhfpboaaDoorW.PrintWords Go.Proofs.YtmfjnmkkhfpboaaDoorW.PrintLast Go.Proofs.YtmfjnmkkhfpboaaDoor.Base
set_option linter.unusedVariables false
set_option linter.unusedSimpArgs false

theorem impl_within_eq (a b c : Int) : impl_within.f a b c = some (decide (b ≤ a ∧ a ≤ c)) := by
  unfold impl_within.f
  by_cases h : b ≤ a <;> simp [h]

def okBytes (l : List UInt8) : Bool := l.all fun b => decide (32 ≤ b.toNat ∧ b.toNat ≤ 126)
def mks (l : List (List UInt8)) : List ByteArray := l.map fun x => (⟨x.toArray⟩ : ByteArray)
def cutParts (f : List ByteArray) : List ByteArray × Bool := if f.length ≤ 10 then (f, true) else ([], false)
def partsOf (s : ByteArray) : List ByteArray × Bool := if s.size ≤ 600 then (if okBytes s.data.toList = true then cutParts (mks (Lib.fields s.data.toList)) else ([], false)) else ([], false)
theorem partsOf_length (s : ByteArray) : (partsOf s).1.length ≤ 10 := by
  unfold partsOf cutParts
  split
  · split
    · split
      · assumption
      · exact Nat.zero_le _
    · exact Nat.zero_le _
  · exact Nat.zero_le _
set_option maxRecDepth 100000 in
theorem isSp_fin : ∀ x : Fin 256, 32 ≤ x.val → Lib.isSp (UInt8.ofNat x.val) = decide (x.val = 32) := by decide
theorem isSp_ok {b : UInt8} (h : 32 ≤ b.toNat) : Lib.isSp b = decide (b.toNat = 32) := by
  have := isSp_fin ⟨b.toNat, b.toNat_lt⟩ h
  simpa using this
theorem okBytes_cons (c : UInt8) (t : List UInt8) : okBytes (c :: t) = (decide (32 ≤ c.toNat ∧ c.toNat ≤ 126) && okBytes t) := by simp [okBytes]
theorem mks_cons (x : List UInt8) (l : List (List UInt8)) : mks (x :: l) = (⟨x.toArray⟩ : ByteArray) :: mks l := rfl
theorem extract_mk (s : ByteArray) (b i : Nat) : s.extract b i = (⟨((s.data.toList.drop b).take (i - b)).toArray⟩ : ByteArray) := ba_ext (by rw [ext_data])
def flushed (s : ByteArray) (out : List ByteArray) (b i : Nat) : List ByteArray := if b < i then out ++ [s.extract b i] else out
theorem spec_PartsOf_j2 (s : ByteArray) (hs : s.size ≤ 600) {out : List ByteArray} {b i : Nat} {r : List ByteArray × Bool} (hb : b ≤ i) (hi : i ≤ s.size) (ho : out.length ≤ i)
    (e : Ev (fun k => spec_PartsOf.l0 k s (flushed s out b i) ((i + 1 : Nat) : Int) ((i + 1 : Nat) : Int)) r) : Ev (fun k => spec_PartsOf.j2 k s out (b : Int) (i : Int) false) r := by
  rw [show ((i + 1 : Nat) : Int) = (i : Int) + 1 from by omega] at e
  refine Ev.succ ?_
  simp only [spec_PartsOf.j2, w64 (n := (i : Int) + 1) (by omega) (by omega), Int.toNat_natCast]
  refine Ev.neg (by decide) ?_
  by_cases c : b < i
  · rw [flushed, if_pos c] at e
    exact Ev.pos (by omega) (Ev.pos (by omega) (Ev.pos (by omega) (Ev.pos (by omega) (Ev.pos (by omega) e))))
  · rw [flushed, if_neg c] at e
    exact Ev.neg (by omega) e
theorem spec_PartsOf_l0 (s : ByteArray) (hs : s.size ≤ 600) : ∀ (t : List UInt8) (i b : Nat) (out : List ByteArray), s.data.toList.drop i = t → b ≤ i → i ≤ s.size → out.length ≤ i →
    Ev (fun k => spec_PartsOf.l0 k s out (b : Int) (i : Int)) (if okBytes t = true then cutParts (out ++ mks (Lib.fieldsGo ((s.data.toList.drop b).take (i - b)) t)) else ([], false)) := by
  intro t
  induction t with
  | nil =>
    intro i b out ht hb hi ho
    have hz := drop_none ht
    rw [if_pos (show okBytes [] = true from rfl)]
    refine Ev.succ ?_
    simp only [spec_PartsOf.l0]
    refine Ev.pos (by omega) (Ev.neg (by omega) (Ev.succ ?_))
    simp only [spec_PartsOf.j1]
    refine Ev.neg (by decide) (Ev.neg (by omega) (spec_PartsOf_j2 s hs hb hi ho (Ev.succ ?_)))
    simp only [spec_PartsOf.l0]
    refine Ev.neg (by omega) ?_
    have e : out ++ mks (Lib.fieldsGo ((s.data.toList.drop b).take (i - b)) []) = flushed s out b i := by
      unfold flushed
      by_cases c : b < i
      · rw [if_pos c]
        have hne : (s.data.toList.drop b).take (i - b) ≠ [] := Lib.piece_ne c (by rw [size_len]; omega)
        rw [Lib.fieldsGo, if_neg (by simpa using hne), extract_mk]
        rfl
      · obtain rfl : b = i := by omega
        rw [if_neg c, Lib.piece_nil]
        simp [Lib.fieldsGo, mks]
    rw [e]
    unfold cutParts
    by_cases c : (flushed s out b i).length ≤ 10
    · rw [if_pos c]; exact Ev.neg (by omega) (Ev.now _)
    · rw [if_neg c]; exact Ev.pos (by omega) (Ev.now _)
  | cons c t ih =>
    intro i b out ht hb hi ho
    obtain ⟨h1, h2, h3⟩ := bt_drop ht
    have hc := c.toNat_lt
    have hget : s.data.toList[i]? = some c := by
      have := congrArg (fun z => z[0]?) ht
      simpa using this
    refine Ev.succ ?_
    simp only [spec_PartsOf.l0, h1]
    refine Ev.pos (by omega) (Ev.pos (by omega) (Ev.pos (by omega) ?_))
    have hno : ¬ (32 ≤ c.toNat ∧ c.toNat ≤ 126) → (if okBytes (c :: t) = true then cutParts (out ++ mks (Lib.fieldsGo ((s.data.toList.drop b).take (i - b)) (c :: t))) else ([], false)) = (([], false) : List ByteArray × Bool) := fun h => by
      rw [okBytes_cons, decide_eq_false h, Bool.false_and, if_neg (by decide)]
    by_cases c1 : c.toNat < 32
    · rw [hno (by omega)]
      refine Ev.pos (by omega) (Ev.succ ?_)
      simp only [spec_PartsOf.j1]
      exact Ev.pos (by trivial) (Ev.now _)
    refine Ev.neg (by omega) ?_
    by_cases c2 : 126 < c.toNat
    · rw [hno (by omega)]
      refine Ev.succ ?_
      simp only [spec_PartsOf.j1]
      exact Ev.pos (decide_eq_true (by omega)) (Ev.now _)
    have hok : okBytes (c :: t) = okBytes t := by rw [okBytes_cons, decide_eq_true (by omega), Bool.true_and]
    rw [hok, decide_eq_false (show ¬ (c.toNat : Int) > 126 by omega)]
    refine Ev.succ ?_
    simp only [spec_PartsOf.j1, h1]
    refine Ev.neg (by decide) (Ev.pos (by omega) (Ev.pos (by omega) ?_))
    by_cases c3 : c.toNat = 32
    · have hsp : Lib.isSp c = true := by rw [isSp_ok (by omega)]; exact decide_eq_true c3
      rw [show ((c.toNat : Int) != 32) = false from by rw [bne_eq_false_iff_eq]; omega]
      refine spec_PartsOf_j2 s hs hb hi ho ?_
      have e := ih (i + 1) (i + 1) (flushed s out b i) h3 (Nat.le_refl _) (by omega) (by unfold flushed; split; (rw [List.length_append, List.length_singleton]; omega); omega)
      rw [Lib.piece_nil] at e
      have q : flushed s out b i ++ mks (Lib.fieldsGo [] t) = out ++ mks (Lib.fieldsGo ((s.data.toList.drop b).take (i - b)) (c :: t)) := by
        unfold flushed
        by_cases c4 : b < i
        · have hne : (s.data.toList.drop b).take (i - b) ≠ [] := Lib.piece_ne c4 (by rw [size_len]; omega)
          rw [if_pos c4, Lib.fieldsGo_end _ _ _ hsp hne, mks_cons, extract_mk, List.append_assoc]
          rfl
        · obtain rfl : b = i := by omega
          rw [if_neg c4, Lib.piece_nil, Lib.fieldsGo_sp _ _ hsp]
      rw [← q]
      exact e
    · have hsp : Lib.isSp c = false := by rw [isSp_ok (by omega)]; exact decide_eq_false c3
      rw [show ((c.toNat : Int) != 32) = true from by rw [bne_iff_ne]; omega]
      refine Ev.succ ?_
      simp only [spec_PartsOf.j2, w64 (n := (i : Int) + 1) (by omega) (by omega)]
      refine Ev.pos (by trivial) ?_
      have e := ih (i + 1) b out h3 (by omega) (by omega) (by omega)
      rw [Lib.piece_more hb hget, ← Lib.fieldsGo_more _ _ _ hsp] at e
      exact e
theorem spec_PartsOf_ev (s : ByteArray) : Ev (fun k => spec_PartsOf.f k s) (partsOf s) := by
  unfold spec_PartsOf.f partsOf
  refine Ev.bind0 rfl ?_
  by_cases h : s.size ≤ 600
  · rw [if_pos h]
    refine Ev.neg (by omega) ?_
    have e := spec_PartsOf_l0 s h s.data.toList 0 0 [] rfl (Nat.le_refl _) (Nat.zero_le _) (Nat.le_refl _)
    simpa [Lib.fields] using e
  · rw [if_neg h]
    exact Ev.pos (by omega) (Ev.now _)
theorem okBytes_small {l : List UInt8} (h : okBytes l = true) : (l.all fun b => decide (b.toNat < 128)) = true := by
  rw [List.all_eq_true]
  intro b hb
  have := of_decide_eq_true (List.all_eq_true.1 h b hb)
  exact decide_eq_true (by omega)
theorem impl_PartsOf_l0 (s : ByteArray) (hs : s.size ≤ 600) : ∀ (t : List UInt8) (i : Nat), s.data.toList.drop i = t → i ≤ s.size → okBytes (s.data.toList.take i) = true →
    Ev (fun k => impl_PartsOf.l0 k s (i : Int)) (if okBytes t = true then cutParts (mks (Lib.fields s.data.toList)) else ([], false)) := by
  intro t
  induction t with
  | nil =>
    intro i ht hi ho
    have hz := drop_none ht
    rw [List.take_of_length_le (by rw [size_len]; omega)] at ho
    rw [if_pos (show okBytes [] = true from rfl)]
    refine Ev.succ ?_
    simp only [impl_PartsOf.l0]
    refine Ev.neg (by omega) (Ev.bind0 (x := mks (Lib.fields s.data.toList)) (by unfold strings_Fields.f; rw [if_pos ⟨by omega, okBytes_small ho⟩]; rfl) ?_)
    unfold cutParts
    by_cases c : (mks (Lib.fields s.data.toList)).length ≤ 10
    · rw [if_pos c]; exact Ev.neg (by omega) (Ev.now _)
    · rw [if_neg c]; exact Ev.pos (by omega) (Ev.now _)
  | cons c t ih =>
    intro i ht hi ho
    obtain ⟨h1, h2, h3⟩ := bt_drop ht
    have hc := c.toNat_lt
    have hget : s.data.toList[i]? = some c := by
      have := congrArg (fun z => z[0]?) ht
      simpa using this
    refine Ev.succ ?_
    simp only [impl_PartsOf.l0, h1, w64 (n := (c.toNat : Int)) (by omega) (by omega), w64 (n := (i : Int) + 1) (by omega) (by omega)]
    refine Ev.pos (by omega) (Ev.pos (by omega) (Ev.bind0 (impl_within_eq _ _ _) ?_))
    rw [okBytes_cons]
    by_cases c1 : 32 ≤ c.toNat ∧ c.toNat ≤ 126
    · rw [decide_eq_true c1, Bool.true_and, show decide (32 ≤ (c.toNat : Int) ∧ (c.toNat : Int) ≤ 126) = true from decide_eq_true (by omega)]
      refine Ev.pos rfl ?_
      have e := ih (i + 1) h3 (by omega) (by
        rw [List.take_add_one, hget]
        unfold okBytes at ho ⊢
        rw [List.all_append, ho]
        simpa using c1)
      exact e
    · rw [decide_eq_false c1, Bool.false_and, if_neg (by decide), show decide (32 ≤ (c.toNat : Int) ∧ (c.toNat : Int) ≤ 126) = false from decide_eq_false (by omega)]
      exact Ev.neg (by decide) (Ev.now _)
theorem impl_PartsOf_ev (s : ByteArray) : Ev (fun k => impl_PartsOf.f k s) (partsOf s) := by
  unfold impl_PartsOf.f partsOf
  by_cases h : s.size ≤ 600
  · rw [if_pos h]
    exact Ev.neg (by omega) (impl_PartsOf_l0 s h s.data.toList 0 rfl (Nat.zero_le _) rfl)
  · rw [if_neg h]
    exact Ev.pos (by omega) (Ev.now _)

theorem laws_eqStringS_l0 (xs : List ByteArray) (hl : xs.length < 140737488355328) : ∀ (t : List ByteArray) (i : Nat), xs.drop i = t → i ≤ xs.length → Ev (fun k => laws_eqStringS.l0 k xs xs (i : Int)) true := by
  intro t
  induction t with
  | nil =>
    intro i ht hi
    have := drop_nil_len ht
    exact Ev.step (f := fun _ => some true) (fun k => by rw [laws_eqStringS.l0, if_neg (by omega)]) (Ev.now _)
  | cons a t ih =>
    intro i ht hi
    obtain ⟨h1, h2, h3⟩ := rdOf_drop (d := ByteArray.empty) ht
    refine Ev.step (f := fun k => laws_eqStringS.l0 k xs xs ((i + 1 : Nat) : Int)) (fun k => ?_) (ih (i + 1) h3 (by omega))
    rw [laws_eqStringS.l0, if_pos (by omega), if_pos (by omega), if_pos (by omega), if_pos rfl, w64 (by omega) (by omega)]
    rfl
theorem laws_eqStringS_ev (xs : List ByteArray) (hl : xs.length < 140737488355328) : Ev (fun k => laws_eqStringS.f k xs xs) true := by
  unfold laws_eqStringS.f
  exact Ev.pos rfl (laws_eqStringS_l0 xs hl xs 0 rfl (Nat.zero_le _))

theorem laws_markText_l0 : ∀ (n : Nat) (acc : ByteArray), acc.size + n < 4611686018427387904 → Ev (fun k => laws_markText.l0 k (n : Int) acc) (mtl n acc) := by
  intro n
  induction n using Nat.strongRecOn with
  | _ n ih =>
    intro acc h
    by_cases hn : 0 < n
    · rw [mtl_pos hn]
      refine Ev.succ ?_
      simp only [laws_markText.l0]
      rw [tmodp (by omega), tdivp (by omega), w64 (n := 48 + (n : Int) % 10) (by omega) (by omega), w64 (n := (n : Int) / 10) (by omega) (by omega), show (48 + (n : Int) % 10) % 256 = ((48 + n % 10 : Nat) : Int) from by omega, show (n : Int) / 10 = ((n / 10 : Nat) : Int) from by omega]
      refine Ev.pos (by omega) (Ev.bind0 rfl (Ev.pos (by rw [strOfNums_size, List.length_singleton]; omega) ?_))
      exact ih (n / 10) (by omega) _ (by rw [app_size, strOfNums_size, List.length_singleton]; omega)
    · obtain rfl : n = 0 := by omega
      rw [mtl_zero]
      exact Ev.step (f := fun _ => some ((⟨#[109]⟩ : ByteArray) ++ acc)) (fun k => by rw [laws_markText.l0, if_neg (by omega), if_pos (by omega)]) (Ev.now _)
theorem laws_markText_ev {n : Nat} (h : 0 < n) (h' : n < 4611686018427387904) : Ev (fun k => laws_markText.f k (n : Int)) (mt n) := by
  unfold laws_markText.f
  exact Ev.neg (by omega) (laws_markText_l0 n _ (by rw [show (⟨#[]⟩ : ByteArray).size = 0 from rfl]; omega))

theorem laws_markStringS_l0 : ∀ (d i a : Nat) (xs : List ByteArray), xs.length = i + d → xs.length < 140737488355328 → 0 < a → a + d < 4611686018427387904 → Ev (fun k => laws_markStringS.l0 k xs (a : Int) (i : Int)) (((a + d : Nat) : Int), xs.take i ++ marksFrom a d) := by
  intro d
  induction d with
  | zero =>
    intro i a xs hx hb ha hz
    refine Ev.step (f := fun _ => some ((a : Int), xs)) (fun k => by rw [laws_markStringS.l0, if_neg (by omega)]) (Ev.ret ?_)
    rw [List.take_of_length_le (by omega), marksFrom, List.append_nil, Nat.add_zero]
  | succ d ih =>
    intro i a xs hx hb ha hz
    refine Ev.succ ?_
    simp only [laws_markStringS.l0, w64 (n := (i : Int) + 1) (by omega) (by omega), w64 (n := (a : Int) + 1) (by omega) (by omega), Int.toNat_natCast]
    refine Ev.pos (by omega) (Ev.bind (laws_markText_ev ha (by omega)) (Ev.pos (by omega) ?_))
    have e := ih (i + 1) (a + 1) (xs.set i (mt a)) (by rw [List.length_set]; omega) (by rw [List.length_set]; omega) (by omega) (by omega)
    rw [take_set_snoc _ _ _ (by omega), List.append_assoc, show a + 1 + d = a + (d + 1) from by omega] at e
    exact e
theorem laws_markStringS_ev (xs : List ByteArray) (hb : xs.length < 140737488355328) : Ev (fun k => laws_markStringS.f k xs 1) (((1 + xs.length : Nat) : Int), marksFrom 1 xs.length) :=
  laws_markStringS_l0 xs.length 0 1 xs (by omega) hb (by omega) (by omega)
theorem laws_heldStringS_l0 (xs : List ByteArray) (hb : xs.length < 140737488355328) : ∀ (d i a : Nat), xs.drop i = marksFrom a d → i ≤ xs.length → 0 < a → a + d < 4611686018427387904 → Ev (fun k => laws_heldStringS.l0 k xs (a : Int) (i : Int)) ((a + d : Nat) : Int) := by
  intro d
  induction d with
  | zero =>
    intro i a hx hi ha hz
    have := drop_nil_len hx
    exact Ev.step (f := fun _ => some (a : Int)) (fun k => by rw [laws_heldStringS.l0, if_neg (by omega)]) (Ev.now _)
  | succ d ih =>
    intro i a hx hi ha hz
    obtain ⟨h1, h2, h3⟩ := rdOf_drop (d := ByteArray.empty) hx
    refine Ev.succ ?_
    simp only [laws_heldStringS.l0, w64 (n := (i : Int) + 1) (by omega) (by omega), w64 (n := (a : Int) + 1) (by omega) (by omega), h1]
    refine Ev.pos (by omega) (Ev.pos (by omega) (Ev.bind (laws_markText_ev ha (by omega)) (Ev.pos rfl ?_)))
    have e := ih (i + 1) (a + 1) h3 (by omega) (by omega) (by omega)
    rw [show a + 1 + d = a + (d + 1) from by omega] at e
    exact e
theorem laws_heldStringS_ev (m : Nat) (hb : m < 140737488355328) : Ev (fun k => laws_heldStringS.f k (marksFrom 1 m) 1) ((1 + m : Nat) : Int) :=
  laws_heldStringS_l0 (marksFrom 1 m) (by rw [marksFrom_length]; exact hb) m 0 1 rfl (Nat.zero_le _) (by omega) (by omega)

theorem FnExactPartsOf : laws_FnExactPartsOf.Pure := by
  intro a0 h0
  refine Ev.rounds (r := true) ?_
  unfold laws_FnExactPartsOf.f
  by_cases hb : (a0.size : Int) > 1048576
  · exact Ev.pos hb (Ev.now _)
  have hl := partsOf_length a0
  refine Ev.neg hb (Ev.bind (spec_PartsOf_ev a0) (Ev.bind (impl_PartsOf_ev a0) (Ev.bind (laws_eqStringS_ev _ (by omega)) (Ev.pos rfl ?_))))
  refine Ev.succ ?_
  simp only [laws_FnExactPartsOf.j0]
  refine Ev.neg (by simp) (Ev.bind (laws_markStringS_ev (partsOf a0).1 (by omega)) (Ev.bind (laws_heldStringS_ev (partsOf a0).1.length (by omega)) (Ev.neg (by omega) (Ev.pos rfl ?_))))
  refine Ev.bind (impl_PartsOf_ev a0) (Ev.bind (laws_eqStringS_ev _ (by omega)) (Ev.pos rfl ?_))
  refine Ev.succ ?_
  simp only [laws_FnExactPartsOf.j1]
  exact Ev.neg (by simp) (Ev.bind (laws_heldStringS_ev (partsOf a0).1.length (by omega)) (Ev.neg (by omega) (Ev.pos rfl (Ev.now _))))

end Go.Proofs.YtmfjnmkkhfpboaaDoor.Pure
