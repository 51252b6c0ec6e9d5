/- For every file both programs' Unframe come to the same records and the same place, and the records handed back are held by nobody else. -/
import Derived.Test.YtmfjnmkkhfpboaaPFnExactUnframex5
import Derived.Test.YtmfjnmkkhfpboaaBase
import Derived.Test.YtmfjnmkkhfpboaaBase2
namespace Go.Proofs.Ytmfjnmkkhfpboaa.Pure
open Go.RowKit Go.Proofs.Ytmfjnmkkhfpboaa.PFnExactUnframe Go.Proofs.YtmfjnmkkhfpboaaW.PrintWords Go.Proofs.YtmfjnmkkhfpboaaW.PrintLast Go.Proofs.Ytmfjnmkkhfpboaa.Base
set_option linter.unusedVariables false
set_option linter.unusedSimpArgs false

theorem spec_l01In_eq (a b c : Int) : spec_l01In.f a b c = some (decide (b ≤ a ∧ a ≤ c)) := by
  unfold spec_l01In.f
  by_cases h : b ≤ a <;> simp [h]

theorem spec_l01Var_l0 : ∀ (n : Nat) (acc : List Int), acc.length + n < 140737488355327 → Ev (fun k => spec_l01Var.l0 k (n : Int) acc) (strOfNums (acc ++ vl n)) := by
  intro n
  induction n using Nat.strongRecOn with
  | _ n ih =>
    intro acc h
    by_cases hn : n > 127
    · refine Ev.step (f := fun k => spec_l01Var.l0 k ((n / 128 : Nat) : Int) (acc ++ [((n % 128 + 128 : Nat) : Int)])) (fun k => ?_) ?_
      · rw [spec_l01Var.l0, if_pos (by omega), if_pos (by omega), quo128 (by omega), rem128]
      · have e := ih (n / 128) (by omega) (acc ++ [((n % 128 + 128 : Nat) : Int)]) (by rw [List.length_append, List.length_singleton]; omega)
        rw [vl_big hn]
        rwa [List.append_assoc] at e
    · refine Ev.step (f := fun _ => some (strOfNums (acc ++ vl n))) (fun k => ?_) (Ev.now _)
      rw [spec_l01Var.l0, if_neg (by omega), if_pos (by omega), vl_small hn, show (n : Int) % 256 = (n : Int) from by omega]
theorem spec_l01Var_ev {a : Int} (h : 0 ≤ a) (h' : a < 140737488355327) : Ev (fun k => spec_l01Var.f k a) (strOfNums (vl a.toNat)) := by
  obtain ⟨n, rfl⟩ := Int.eq_ofNat_of_zero_le h
  exact spec_l01Var_l0 n [] (by simp; omega)

theorem spec_ReadVar_l0 (s : ByteArray) (p : Nat) (hs : s.size ≤ 140737488351232) : ∀ (f j sc n : Nat), f + j = 5 → sc * 128 ^ f = 34359738368 → n < sc → p + j ≤ s.size →
    Ev (fun k => spec_ReadVar.l0 k s (p : Int) (n : Int) (sc : Int) ((p + j : Nat) : Int)) (rvS s p n sc (p + j) (dig f (s.data.toList.drop (p + j)))) := by
  intro f
  induction f with
  | zero =>
    intro j sc n hf hsc hn hj
    by_cases hlt : p + j < s.size
    · refine Ev.step (f := fun k => spec_ReadVar.j1 k s (p : Int) (n : Int) (sc : Int) ((p + j : Nat) : Int) false) (fun k => ?_) ?_
      · rw [spec_ReadVar.l0, if_pos (by omega), w64 (by omega) (by omega), show decide (((p + j : Nat) : Int) < (p : Int) + 5) = false from decide_eq_false (by omega)]
      · exact Ev.step (f := fun _ => some noVar) (fun k => by rw [spec_ReadVar.j1, if_neg (by decide)]; rfl) (Ev.now _)
    · refine Ev.step (f := fun k => spec_ReadVar.j1 k s (p : Int) (n : Int) (sc : Int) ((p + j : Nat) : Int) false) (fun k => ?_) ?_
      · rw [spec_ReadVar.l0, if_neg (by omega)]
      · exact Ev.step (f := fun _ => some noVar) (fun k => by rw [spec_ReadVar.j1, if_neg (by decide)]; rfl) (Ev.now _)
  | succ f ih =>
    intro j sc n hf hsc hn hj
    obtain ⟨hsc1, hsc2⟩ := rv_sc hsc
    cases hl : s.data.toList.drop (p + j) with
    | nil =>
      have hz := drop_none hl
      refine Ev.step (f := fun k => spec_ReadVar.j1 k s (p : Int) (n : Int) (sc : Int) ((p + j : Nat) : Int) false) (fun k => ?_) ?_
      · rw [spec_ReadVar.l0, if_neg (by omega)]
      · exact Ev.step (f := fun _ => some noVar) (fun k => by rw [spec_ReadVar.j1, if_neg (by decide)]; rfl) (Ev.now _)
    | cons c l =>
      obtain ⟨hb, hlt, hd⟩ := bt_drop hl
      have hc : c.toNat < 256 := c.toNat_lt
      refine Ev.step (f := fun k => spec_ReadVar.j1 k s (p : Int) (n : Int) (sc : Int) ((p + j : Nat) : Int) true) (fun k => ?_) ?_
      · rw [spec_ReadVar.l0, if_pos (by omega), w64 (by omega) (by omega), show decide (((p + j : Nat) : Int) < (p : Int) + 5) = true from decide_eq_true (by omega)]
      refine Ev.succ ?_
      simp only [spec_ReadVar.j1, hb, rv_term hc hsc1 hn, w64 (n := ((p + j : Nat) : Int) + 1) (by omega) (by omega), w64 (n := (sc : Int) * 128) (by omega) (by omega)]
      refine Ev.pos (by trivial) (Ev.pos (by omega) (Ev.pos (by omega) ?_))
      have hsum := rv_lt (c := c.toNat) hn
      by_cases hc1 : c.toNat < 128
      · rw [dig_small hc1]
        have e0 : c.toNat % 128 * sc = sc * c.toNat := by rw [Nat.mod_eq_of_lt hc1, Nat.mul_comm]
        rw [e0] at hsum ⊢
        simp only [rvS]
        refine Ev.pos (by omega) ?_
        by_cases hmax : n + sc * c.toNat ≤ 1000000000
        · refine Ev.neg (by omega) (Ev.bind (spec_l01Var_ev (by omega) (by omega)) ?_)
          refine Ev.pos (by omega) (Ev.pos (by omega) (Ev.pos (by omega) ?_))
          rw [Int.toNat_natCast, Int.toNat_natCast, show (((p + j : Nat) : Int) + 1).toNat = p + j + 1 from by omega]
          by_cases he : strOfNums (vl (n + sc * c.toNat)) = s.extract p (p + j + 1)
          · exact Ev.tpos ⟨hmax, he⟩ (Ev.pos (toList_iff.2 he) (Ev.ret (by rw [Int.natCast_add (p + j) 1]; rfl)))
          · exact Ev.tneg (fun h => he h.2) (Ev.neg (fun h => he (toList_inj h)) (Ev.now _))
        · exact Ev.tneg (fun h => hmax h.1) (Ev.pos (by omega) (Ev.now _))
      · rw [dig_big hc1, rvS_next]
        refine Ev.neg (by omega) ?_
        have e := ih (j + 1) (sc * 128) (n + c.toNat % 128 * sc) (by omega) hsc2 hsum (by omega)
        rw [← Nat.add_assoc, hd, show ((p + j + 1 : Nat) : Int) = ((p + j : Nat) : Int) + 1 from by omega, show ((sc * 128 : Nat) : Int) = (sc : Int) * 128 from by omega] at e
        exact e
theorem spec_ReadVar_ev (s : ByteArray) (p : Int) (hs : s.size ≤ 140737488351232) : Ev (fun k => spec_ReadVar.f k s p) (readVar s p) := by
  unfold spec_ReadVar.f
  refine Ev.bind0 (spec_l01In_eq _ _ _) ?_
  by_cases h : 0 ≤ p ∧ p ≤ s.size
  · refine Ev.pos (by simpa using h) ?_
    obtain ⟨p, rfl⟩ := Int.eq_ofNat_of_zero_le h.1
    rw [← rvS_top s p (by omega)]
    exact spec_ReadVar_l0 s p hs 5 0 1 0 (by omega) (by decide) (by omega) (by omega)
  · refine Ev.neg (by simpa using h) ?_
    rw [readVar, if_neg h]
    exact Ev.now _

theorem spec_SumMore_l1 (s : ByteArray) (i : Int) (h0 : 0 ≤ i) (h1 : i < 140737488355328) (r : Int) : ∀ (d : Nat) (j x : Int), j + d = 8 → 0 ≤ j → Ev (fun k => spec_SumMore.l0 k (sumN d x) s (i + 1)) r → Ev (fun k => spec_SumMore.l1 k x s i j) r := by
  intro d
  induction d with
  | zero =>
    intro j x hj hj0 h
    refine Ev.step (f := fun k => spec_SumMore.l0 k x s (i + 1)) (fun k => ?_) h
    rw [spec_SumMore.l1, if_neg (by omega), w64 (by omega) (by omega)]
  | succ d ih =>
    intro j x hj hj0 h
    refine Ev.step (f := fun k => spec_SumMore.l1 k (sum1 x) s i (j + 1)) (fun k => ?_) (ih (j + 1) (sum1 x) (by omega) (by omega) h)
    rw [spec_SumMore.l1, if_pos (by omega), w64 (by omega) (by omega), sum1]
    split <;> rfl
theorem spec_SumMore_l0 (s : ByteArray) (hs : s.size ≤ 140737488351232) : ∀ (l : List UInt8) (i : Nat) (x : Int), s.data.toList.drop i = l → i ≤ s.size → Ev (fun k => spec_SumMore.l0 k x s i) (sumMore x l) := by
  intro l
  induction l with
  | nil =>
    intro i x hl hi
    have := drop_none hl
    rw [sumMore_nil]
    refine Ev.step (f := fun _ => some x) (fun k => ?_) (Ev.now _)
    rw [spec_SumMore.l0, if_neg (by omega)]
  | cons c l ih =>
    intro i x hl hi
    obtain ⟨hb, hlt, hd⟩ := bt_drop hl
    refine Ev.step (f := fun k => spec_SumMore.l1 k (Go.bits .xor .u32 x ((c.toNat : Int) % 4294967296)) s i 0) (fun k => ?_) ?_
    · rw [spec_SumMore.l0, if_pos (by omega), if_pos (by omega), hb]
    · rw [sumMore_cons, feed]
      exact spec_SumMore_l1 s i (by omega) (by omega) _ 8 0 _ (by omega) (by omega) (ih (i + 1) _ hd (by omega))
theorem spec_SumMore_ev (x : Int) (s : ByteArray) (hs : s.size ≤ 140737488351232) : Ev (fun k => spec_SumMore.f k x s) (sumMore x s.data.toList) :=
  spec_SumMore_l0 s hs s.data.toList 0 x rfl (Nat.zero_le _)

theorem spec_SumOf_ev (s : ByteArray) (hs : s.size ≤ 140737488351232) : Ev (fun k => spec_SumOf.f k s) (sumOf s) := by
  unfold spec_SumOf.f
  exact Ev.bind (spec_SumMore_ev _ s hs) (Ev.now _)

theorem spec_Frame_ev (s : ByteArray) (hs : s.size ≤ 140737488351232) : Ev (fun k => spec_Frame.f k s) (frameOf s) := by
  unfold spec_Frame.f frameOf
  refine Ev.bind0 (spec_l01In_eq _ _ _) ?_
  by_cases h : 1 ≤ s.size ∧ s.size ≤ 9000
  · rw [if_pos h]
    refine Ev.pos (by rw [decide_eq_true_eq]; omega) ?_
    have hv := vl_len 2 s.size (by omega) (by omega)
    refine Ev.bind (spec_l01Var_ev (by omega) (by omega)) (Ev.bind (spec_SumOf_ev s hs) (Ev.bind0 (x := four (sumOf s)) rfl ?_))
    rw [Int.toNat_natCast]
    refine Ev.pos (by rw [four_size, strOfNums_size]; omega) (Ev.pos (by rw [app_size, four_size, strOfNums_size]; omega) (Ev.now _))
  · rw [if_neg h]
    exact Ev.neg (by rw [decide_eq_true_eq]; omega) (Ev.now _)

theorem spec_Unframe_j1t (s : ByteArray) (acc : List ByteArray) (p n q : Int) : Ev (fun k => spec_Unframe.j1 k s acc p n q true) (acc, p) :=
  Ev.step (f := fun _ => some (acc, p)) (fun k => by rw [spec_Unframe.j1, if_pos rfl]) (Ev.now _)
theorem spec_Unframe_l0 (s : ByteArray) (hs : s.size ≤ 20000) : ∀ (f : Nat) (acc : List ByteArray) (p : Int), 0 ≤ p → p ≤ s.size → (s.size : Int) - p < f → (acc.length : Int) ≤ p →
    Ev (fun k => spec_Unframe.l0 k s acc p) (unfr f s acc p) := by
  intro f
  induction f with
  | zero => intro acc p h0 h1 h2 h3; omega
  | succ f ih =>
    intro acc p h0 h1 h2 h3
    unfold unfr
    refine Ev.succ ?_
    simp only [spec_Unframe.l0]
    by_cases hlt : p < (s.size : Int)
    case neg =>
      refine Ev.neg hlt ?_
      have hr : readVar s p = (0, 0, false) := by
        rcases readVar_cases s p with hr | ⟨n, m, hr, hn, hm, hp, hz, hl, hx⟩
        · exact hr
        · omega
      rw [hr]
      exact Ev.tneg (fun h => absurd h.1 (by decide)) (Ev.now _)
    refine Ev.pos hlt ?_
    refine Ev.bind (spec_ReadVar_ev s p (by omega)) ?_
    rcases readVar_cases s p with hr | ⟨n, m, hr, hn, hm, hp, hz, hl, hx⟩
    · rw [hr]
      exact Ev.tneg (fun h => absurd h.1 (by decide)) (Ev.neg (by decide) (spec_Unframe_j1t s acc p _ _))
    · rw [hr]
      dsimp only
      rw [w64 (n := (s.size : Int) - (p + (m : Int))) (by omega) (by omega), w64 (n := (s.size : Int) - (p + (m : Int)) - 4) (by omega) (by omega)]
      refine Ev.pos rfl ?_
      by_cases hc : (n : Int) ≤ (s.size : Int) - (p + (m : Int)) - 4
      · rw [show decide ((n : Int) > (s.size : Int) - (p + (m : Int)) - 4) = false from decide_eq_false (by omega)]
        refine Ev.succ ?_
        simp only [spec_Unframe.j1, w64 (n := p + (m : Int) + 4) (by omega) (by omega), w64 (n := p + (m : Int) + 4 + (n : Int)) (by omega) (by omega)]
        refine Ev.neg (by decide) (Ev.pos (by omega) (Ev.pos (by omega) (Ev.pos (by omega) (Ev.bind (spec_Frame_ev _ (by rw [ext_size _ _ _ (by omega)]; omega)) ?_))))
        by_cases hf : frameOf (s.extract (p + (m : Int) + 4).toNat (p + (m : Int) + 4 + (n : Int)).toNat) = (s.extract p.toNat (p + (m : Int) + 4 + (n : Int)).toNat, true)
        · refine Ev.tpos ⟨by trivial, hc, hf⟩ ?_
          rw [hf]
          refine Ev.pos rfl (Ev.pos (by omega) (Ev.pos (by omega) (Ev.pos rfl (Ev.pos (by omega) ?_))))
          exact ih _ _ (by omega) (by omega) (by omega) (by rw [List.length_append, List.length_singleton]; omega)
        · refine Ev.tneg (fun h => hf h.2.2) ?_
          by_cases h2 : (frameOf (s.extract (p + (m : Int) + 4).toNat (p + (m : Int) + 4 + (n : Int)).toNat)).2 = true
          · refine Ev.pos h2 (Ev.pos (by omega) (Ev.pos (by omega) (Ev.neg (fun he => hf ?_) (Ev.now _))))
            exact Prod.ext (toList_inj he) h2
          · exact Ev.neg h2 (Ev.now _)
      · rw [show decide ((n : Int) > (s.size : Int) - (p + (m : Int)) - 4) = true from decide_eq_true (by omega)]
        exact Ev.tneg (fun h => hc h.2.1) (spec_Unframe_j1t s acc p _ _)
theorem spec_Unframe_ev (s : ByteArray) : Ev (fun k => spec_Unframe.f k s) (unframe s) := by
  unfold spec_Unframe.f unframe
  refine Ev.bind0 rfl ?_
  by_cases h : s.size > 20000
  · rw [if_pos h]
    exact Ev.pos (by omega) (Ev.now _)
  · rw [if_neg h]
    exact Ev.neg (by omega) (spec_Unframe_l0 s (by omega) _ [] 0 (by omega) (by omega) (by omega) (by simp))

theorem impl_within_eq (a b c : Int) : impl_within.f a b c = some (decide (b ≤ a ∧ a ≤ c)) := by
  unfold impl_within.f
  by_cases h : b ≤ a <;> simp [h]

theorem impl_VarText_l0 : ∀ (n : Nat) (acc : List Int), acc.length + n < 140737488355327 → Ev (fun k => impl_VarText.l0 k (n : Int) acc) (strOfNums (acc ++ vl n), true) := by
  intro n
  induction n using Nat.strongRecOn with
  | _ n ih =>
    intro acc h
    by_cases hn : n > 127
    · refine Ev.step (f := fun k => impl_VarText.l0 k ((n / 128 : Nat) : Int) (acc ++ [((n % 128 + 128 : Nat) : Int)])) (fun k => ?_) ?_
      · rw [impl_VarText.l0, if_pos (by omega), if_pos (by omega), quo128 (by omega), rem128]
      · have e := ih (n / 128) (by omega) (acc ++ [((n % 128 + 128 : Nat) : Int)]) (by rw [List.length_append, List.length_singleton]; omega)
        rw [vl_big hn]
        rwa [List.append_assoc] at e
    · refine Ev.step (f := fun _ => some (strOfNums (acc ++ vl n), true)) (fun k => ?_) (Ev.now _)
      rw [impl_VarText.l0, if_neg (by omega), if_pos (by omega), vl_small hn, show (n : Int) % 256 = (n : Int) from by omega]
theorem impl_VarText_ev (a : Int) : Ev (fun k => impl_VarText.f k a) (varText a) := by
  unfold impl_VarText.f
  refine Ev.bind0 (impl_within_eq _ _ _) ?_
  by_cases h : 0 ≤ a ∧ a ≤ 1000000000
  · refine Ev.pos (by simpa using h) ?_
    rw [varText_yes h.1 h.2]
    obtain ⟨n, rfl⟩ := Int.eq_ofNat_of_zero_le h.1
    exact impl_VarText_l0 n [] (by simp; omega)
  · refine Ev.neg (by simpa using h) (Ev.ret (varText_no h).symm)

theorem impl_ReadVar_l0 (s : ByteArray) (p : Nat) (hs : s.size ≤ 140737488351232) (hp : p ≤ s.size) : ∀ (f j n : Nat), f + j = 5 → n < 128 ^ j →
    Ev (fun k => impl_ReadVar.l0 k s (p : Int) (n : Int) (j : Int)) (rvI p n (128 ^ j) j (dig f (s.data.toList.drop (p + j)))) := by
  intro f
  induction f with
  | zero =>
    intro j n hf hn
    refine Ev.step (f := fun k => impl_ReadVar.j1 k s (p : Int) (n : Int) (j : Int) false) (fun k => ?_) ?_
    · rw [impl_ReadVar.l0, if_neg (by omega)]
    · exact Ev.step (f := fun _ => some noVar) (fun k => by rw [impl_ReadVar.j1, if_neg (by decide)]; rfl) (Ev.now _)
  | succ f ih =>
    intro j n hf hn
    have hsc1 : 128 ^ j * 128 ≤ 34359738368 := by
      have h5 : 128 ^ (j + 1) ≤ 128 ^ 5 := Nat.pow_le_pow_right (by decide) (by omega)
      rw [← Nat.pow_succ]
      exact Nat.le_trans h5 (by decide)
    cases hl : s.data.toList.drop (p + j) with
    | nil =>
      have hz := drop_none hl
      refine Ev.step (f := fun k => impl_ReadVar.j1 k s (p : Int) (n : Int) (j : Int) false) (fun k => ?_) ?_
      · rw [impl_ReadVar.l0, if_pos (by omega), w64 (by omega) (by omega), show decide ((p : Int) + (j : Int) < (s.size : Int)) = false from decide_eq_false (by omega)]
      · exact Ev.step (f := fun _ => some noVar) (fun k => by rw [impl_ReadVar.j1, if_neg (by decide)]; rfl) (Ev.now _)
    | cons c l =>
      obtain ⟨hb, hlt, hd⟩ := bt_drop hl
      have hc : c.toNat < 256 := c.toNat_lt
      refine Ev.step (f := fun k => impl_ReadVar.j1 k s (p : Int) (n : Int) (j : Int) true) (fun k => ?_) ?_
      · rw [impl_ReadVar.l0, if_pos (by omega), w64 (by omega) (by omega), show decide ((p : Int) + (j : Int) < (s.size : Int)) = true from decide_eq_true (by omega)]
      refine Ev.succ ?_
      have hsum := rv_lt (c := c.toNat) hn
      rw [Int.natCast_add] at hb
      have et : wrap64 ((n : Int) + ((c.toNat % 128 * 128 ^ j : Nat) : Int)) = ((n + c.toNat % 128 * 128 ^ j : Nat) : Int) := by
        generalize c.toNat % 128 * 128 ^ j = t at *
        rw [w64 (by omega) (by omega), Int.natCast_add]
      have hs7 := shl7 (c := c.toNat) (j := j) hc (by omega)
      simp only [impl_ReadVar.j1, w64 (n := (p : Int) + (j : Int)) (by omega) (by omega), hb, hs7, et, w64 (n := (p : Int) + (j : Int) + 1) (by omega) (by omega), w64 (n := (j : Int) + 1) (by omega) (by omega), w64 (n := 7 * (j : Int)) (by omega) (by omega), w64 (n := (c.toNat : Int)) (by omega) (by omega)]
      refine Ev.pos (by trivial) (Ev.pos (by omega) (Ev.pos (by omega) (Ev.pos (by omega) ?_)))
      by_cases hc1 : c.toNat < 128
      · rw [dig_small hc1]
        have e0 : c.toNat % 128 * 128 ^ j = 128 ^ j * c.toNat := by rw [Nat.mod_eq_of_lt hc1, Nat.mul_comm]
        rw [e0] at hsum ⊢
        simp only [rvI]
        generalize n + 128 ^ j * c.toNat = t at *
        refine Ev.pos (by omega) (Ev.bind (impl_VarText_ev _) ?_)
        by_cases hmax : t ≤ 1000000000
        · rw [varText_yes (by omega) (by omega), Int.toNat_natCast]
          refine Ev.pos (by trivial) ?_
          rw [strOfNums_size]
          by_cases he : (vl t).length = j + 1
          · refine Ev.tpos ⟨hmax, he⟩ (Ev.pos (by omega) (Ev.ret ?_))
            rw [Int.natCast_add, Int.natCast_add]; rfl
          · exact Ev.tneg (fun h => he h.2) (Ev.neg (by omega) (Ev.now _))
        · rw [varText_no (by omega)]
          exact Ev.tneg (fun h => hmax h.1) (Ev.neg (by simp) (Ev.now _))
      · rw [dig_big hc1, rvI_next]
        refine Ev.neg (by omega) ?_
        have e := ih (j + 1) (n + c.toNat % 128 * 128 ^ j) (by omega) (by rw [Nat.pow_succ]; exact hsum)
        rw [← Nat.add_assoc, hd, Nat.pow_succ, show ((j + 1 : Nat) : Int) = (j : Int) + 1 from by omega] at e
        exact e
theorem impl_ReadVar_ev (s : ByteArray) (p : Int) (hs : s.size ≤ 140737488351232) : Ev (fun k => impl_ReadVar.f k s p) (readVar s p) := by
  unfold impl_ReadVar.f
  refine Ev.bind0 (impl_within_eq _ _ _) ?_
  by_cases h : 0 ≤ p ∧ p ≤ s.size
  · refine Ev.pos (by simpa using h) ?_
    obtain ⟨p, rfl⟩ := Int.eq_ofNat_of_zero_le h.1
    rw [← rvI_top s p (by omega)]
    exact impl_ReadVar_l0 s p hs (by omega) 5 0 0 (by omega) (by decide)
  · refine Ev.neg (by simpa using h) ?_
    rw [readVar, if_neg h]
    exact Ev.now _

theorem impl_SumMore_l1 (s : ByteArray) (i : Int) (h0 : 0 ≤ i) (h1 : i < 140737488355328) (r : Int) : ∀ (d : Nat) (j x : Int), j + d = 8 → 0 ≤ j → Ev (fun k => impl_SumMore.l0 k (sumN d x) s (i + 1)) r → Ev (fun k => impl_SumMore.l1 k x s i j) r := by
  intro d
  induction d with
  | zero =>
    intro j x hj hj0 h
    refine Ev.step (f := fun k => impl_SumMore.l0 k x s (i + 1)) (fun k => ?_) h
    rw [impl_SumMore.l1, if_neg (by omega), w64 (by omega) (by omega)]
  | succ d ih =>
    intro j x hj hj0 h
    refine Ev.step (f := fun k => impl_SumMore.l1 k (sum1 x) s i (j + 1)) (fun k => ?_) (ih (j + 1) (sum1 x) (by omega) (by omega) h)
    rw [impl_SumMore.l1, if_pos (by omega), w64 (by omega) (by omega), sum1]
    split <;> rfl
theorem impl_SumMore_l0 (s : ByteArray) (hs : s.size ≤ 140737488351232) : ∀ (l : List UInt8) (i : Nat) (x : Int), s.data.toList.drop i = l → i ≤ s.size → Ev (fun k => impl_SumMore.l0 k x s i) (sumMore x l) := by
  intro l
  induction l with
  | nil =>
    intro i x hl hi
    have := drop_none hl
    rw [sumMore_nil]
    refine Ev.step (f := fun _ => some x) (fun k => ?_) (Ev.now _)
    rw [impl_SumMore.l0, if_neg (by omega)]
  | cons c l ih =>
    intro i x hl hi
    obtain ⟨hb, hlt, hd⟩ := bt_drop hl
    refine Ev.step (f := fun k => impl_SumMore.l1 k (Go.bits .xor .u32 x ((c.toNat : Int) % 4294967296)) s i 0) (fun k => ?_) ?_
    · rw [impl_SumMore.l0, if_pos (by omega), if_pos (by omega), hb]
    · rw [sumMore_cons, feed]
      exact impl_SumMore_l1 s i (by omega) (by omega) _ 8 0 _ (by omega) (by omega) (ih (i + 1) _ hd (by omega))
theorem impl_SumMore_ev (x : Int) (s : ByteArray) (hs : s.size ≤ 140737488351232) : Ev (fun k => impl_SumMore.f k x s) (sumMore x s.data.toList) :=
  impl_SumMore_l0 s hs s.data.toList 0 x rfl (Nat.zero_le _)

theorem impl_SumOf_ev (s : ByteArray) (hs : s.size ≤ 140737488351232) : Ev (fun k => impl_SumOf.f k s) (sumOf s) := by
  unfold impl_SumOf.f
  exact Ev.bind (impl_SumMore_ev _ s hs) (Ev.now _)

theorem impl_Frame_ev (s : ByteArray) (hs : s.size ≤ 140737488351232) : Ev (fun k => impl_Frame.f k s) (frameOf s) := by
  unfold impl_Frame.f frameOf
  refine Ev.bind0 (impl_within_eq _ _ _) ?_
  by_cases h : 1 ≤ s.size ∧ s.size ≤ 9000
  · rw [if_pos h]
    refine Ev.pos (by rw [decide_eq_true_eq]; omega) ?_
    have hv := vl_len 2 s.size (by omega) (by omega)
    refine Ev.bind (impl_VarText_ev _) (Ev.bind (impl_SumOf_ev s hs) (Ev.bind0 (x := [(sumOf s / 16777216) % 256, (sumOf s / 65536) % 256, (sumOf s / 256) % 256, (sumOf s) % 256]) rfl ?_))
    rw [varText_yes (by omega) (by omega), Int.toNat_natCast]
    have e : strOfNums [(sumOf s / 16777216) % 256, (sumOf s / 65536) % 256, (sumOf s / 256) % 256, (sumOf s) % 256] = four (sumOf s) := rfl
    rw [e]
    refine Ev.pos (by rw [four_size, strOfNums_size]; omega) (Ev.pos (by rw [app_size, four_size, strOfNums_size]; omega) (Ev.now _))
  · rw [if_neg h]
    exact Ev.neg (by rw [decide_eq_true_eq]; omega) (Ev.now _)

theorem impl_Unframe_j1t (s : ByteArray) (acc : List ByteArray) (p n q : Int) : Ev (fun k => impl_Unframe.j1 k s acc p n q true) (acc, p) :=
  Ev.step (f := fun _ => some (acc, p)) (fun k => by rw [impl_Unframe.j1, if_pos rfl]) (Ev.now _)
theorem impl_Unframe_l0 (s : ByteArray) (hs : s.size ≤ 20000) : ∀ (f : Nat) (acc : List ByteArray) (p : Int), 0 ≤ p → p ≤ s.size → (s.size : Int) - p < f → (acc.length : Int) ≤ p →
    Ev (fun k => impl_Unframe.l0 k s acc p) (unfr f s acc p) := by
  intro f
  induction f with
  | zero => intro acc p h0 h1 h2 h3; omega
  | succ f ih =>
    intro acc p h0 h1 h2 h3
    unfold unfr
    refine Ev.succ ?_
    simp only [impl_Unframe.l0]
    refine Ev.bind (impl_ReadVar_ev s p (by omega)) ?_
    rcases readVar_cases s p with hr | ⟨n, m, hr, hn, hm, hp, hz, hl, hx⟩
    · rw [hr]
      exact Ev.tneg (fun h => absurd h.1 (by decide)) (Ev.neg (by decide) (impl_Unframe_j1t s acc p _ _))
    · rw [hr]
      dsimp only
      rw [w64 (n := (s.size : Int) - (p + (m : Int))) (by omega) (by omega), w64 (n := (s.size : Int) - (p + (m : Int)) - 4) (by omega) (by omega)]
      refine Ev.pos rfl ?_
      by_cases hc : (n : Int) ≤ (s.size : Int) - (p + (m : Int)) - 4
      · rw [show decide ((n : Int) > (s.size : Int) - (p + (m : Int)) - 4) = false from decide_eq_false (by omega)]
        refine Ev.succ ?_
        simp only [impl_Unframe.j1, w64 (n := p + (m : Int) + 4) (by omega) (by omega), w64 (n := p + (m : Int) + 4 + (n : Int)) (by omega) (by omega)]
        refine Ev.neg (by decide) (Ev.pos (by omega) (Ev.pos (by omega) (Ev.pos (by omega) (Ev.bind (impl_Frame_ev _ (by rw [ext_size _ _ _ (by omega)]; omega)) ?_))))
        by_cases hf : frameOf (s.extract (p + (m : Int) + 4).toNat (p + (m : Int) + 4 + (n : Int)).toNat) = (s.extract p.toNat (p + (m : Int) + 4 + (n : Int)).toNat, true)
        · refine Ev.tpos ⟨by trivial, hc, hf⟩ ?_
          rw [hf]
          refine Ev.pos rfl (Ev.pos (by omega) (Ev.pos (by omega) (Ev.pos rfl (Ev.pos (by omega) ?_))))
          exact ih _ _ (by omega) (by omega) (by omega) (by rw [List.length_append, List.length_singleton]; omega)
        · refine Ev.tneg (fun h => hf h.2.2) ?_
          by_cases h2 : (frameOf (s.extract (p + (m : Int) + 4).toNat (p + (m : Int) + 4 + (n : Int)).toNat)).2 = true
          · refine Ev.pos h2 (Ev.pos (by omega) (Ev.pos (by omega) (Ev.neg (fun he => hf ?_) (Ev.now _))))
            exact Prod.ext (toList_inj he) h2
          · exact Ev.neg h2 (Ev.now _)
      · rw [show decide ((n : Int) > (s.size : Int) - (p + (m : Int)) - 4) = true from decide_eq_true (by omega)]
        exact Ev.tneg (fun h => hc h.2.1) (impl_Unframe_j1t s acc p _ _)
theorem impl_Unframe_ev (s : ByteArray) : Ev (fun k => impl_Unframe.f k s) (unframe s) := by
  unfold impl_Unframe.f unframe
  by_cases h : s.size > 20000
  · rw [if_pos h]
    exact Ev.pos (by omega) (Ev.now _)
  · rw [if_neg h]
    exact Ev.neg (by omega) (impl_Unframe_l0 s (by omega) _ [] 0 (by omega) (by omega) (by omega) (by simp))

theorem laws_eqStringS_l0 (xs : List ByteArray) (hl : xs.length < 140737488355328) : ∀ (t : List ByteArray) (i : Nat), xs.drop i = t → i ≤ xs.length → Ev (fun k => laws_eqStringS.l0 k xs xs (i : Int)) true := by
  intro t
  induction t with
  | nil =>
    intro i ht hi
    have := drop_nil_len ht
    exact Ev.step (f := fun _ => some true) (fun k => by rw [laws_eqStringS.l0, if_neg (by omega)]) (Ev.now _)
  | cons a t ih =>
    intro i ht hi
    obtain ⟨h1, h2, h3⟩ := rdOf_drop (d := ByteArray.empty) ht
    refine Ev.step (f := fun k => laws_eqStringS.l0 k xs xs ((i + 1 : Nat) : Int)) (fun k => ?_) (ih (i + 1) h3 (by omega))
    rw [laws_eqStringS.l0, if_pos (by omega), if_pos (by omega), if_pos (by omega), if_pos rfl, w64 (by omega) (by omega)]
    rfl
theorem laws_eqStringS_ev (xs : List ByteArray) (hl : xs.length < 140737488355328) : Ev (fun k => laws_eqStringS.f k xs xs) true := by
  unfold laws_eqStringS.f
  exact Ev.pos rfl (laws_eqStringS_l0 xs hl xs 0 rfl (Nat.zero_le _))

theorem laws_markText_l0 : ∀ (n : Nat) (acc : ByteArray), acc.size + n < 4611686018427387904 → Ev (fun k => laws_markText.l0 k (n : Int) acc) (mtl n acc) := by
  intro n
  induction n using Nat.strongRecOn with
  | _ n ih =>
    intro acc h
    by_cases hn : 0 < n
    · rw [mtl_pos hn]
      refine Ev.succ ?_
      simp only [laws_markText.l0]
      rw [tmodp (by omega), tdivp (by omega), w64 (n := 48 + (n : Int) % 10) (by omega) (by omega), w64 (n := (n : Int) / 10) (by omega) (by omega), show (48 + (n : Int) % 10) % 256 = ((48 + n % 10 : Nat) : Int) from by omega, show (n : Int) / 10 = ((n / 10 : Nat) : Int) from by omega]
      refine Ev.pos (by omega) (Ev.bind0 rfl (Ev.pos (by rw [strOfNums_size, List.length_singleton]; omega) ?_))
      exact ih (n / 10) (by omega) _ (by rw [app_size, strOfNums_size, List.length_singleton]; omega)
    · obtain rfl : n = 0 := by omega
      rw [mtl_zero]
      exact Ev.step (f := fun _ => some ((⟨#[109]⟩ : ByteArray) ++ acc)) (fun k => by rw [laws_markText.l0, if_neg (by omega), if_pos (by omega)]) (Ev.now _)
theorem laws_markText_ev {n : Nat} (h : 0 < n) (h' : n < 4611686018427387904) : Ev (fun k => laws_markText.f k (n : Int)) (mt n) := by
  unfold laws_markText.f
  exact Ev.neg (by omega) (laws_markText_l0 n _ (by rw [show (⟨#[]⟩ : ByteArray).size = 0 from rfl]; omega))

theorem laws_markStringS_l0 : ∀ (d i a : Nat) (xs : List ByteArray), xs.length = i + d → xs.length < 140737488355328 → 0 < a → a + d < 4611686018427387904 → Ev (fun k => laws_markStringS.l0 k xs (a : Int) (i : Int)) (((a + d : Nat) : Int), xs.take i ++ marksFrom a d) := by
  intro d
  induction d with
  | zero =>
    intro i a xs hx hb ha hz
    refine Ev.step (f := fun _ => some ((a : Int), xs)) (fun k => by rw [laws_markStringS.l0, if_neg (by omega)]) (Ev.ret ?_)
    rw [List.take_of_length_le (by omega), marksFrom, List.append_nil, Nat.add_zero]
  | succ d ih =>
    intro i a xs hx hb ha hz
    refine Ev.succ ?_
    simp only [laws_markStringS.l0, w64 (n := (i : Int) + 1) (by omega) (by omega), w64 (n := (a : Int) + 1) (by omega) (by omega), Int.toNat_natCast]
    refine Ev.pos (by omega) (Ev.bind (laws_markText_ev ha (by omega)) (Ev.pos (by omega) ?_))
    have e := ih (i + 1) (a + 1) (xs.set i (mt a)) (by rw [List.length_set]; omega) (by rw [List.length_set]; omega) (by omega) (by omega)
    rw [take_set_snoc _ _ _ (by omega), List.append_assoc, show a + 1 + d = a + (d + 1) from by omega] at e
    exact e
theorem laws_markStringS_ev (xs : List ByteArray) (hb : xs.length < 140737488355328) : Ev (fun k => laws_markStringS.f k xs 1) (((1 + xs.length : Nat) : Int), marksFrom 1 xs.length) :=
  laws_markStringS_l0 xs.length 0 1 xs (by omega) hb (by omega) (by omega)
theorem laws_heldStringS_l0 (xs : List ByteArray) (hb : xs.length < 140737488355328) : ∀ (d i a : Nat), xs.drop i = marksFrom a d → i ≤ xs.length → 0 < a → a + d < 4611686018427387904 → Ev (fun k => laws_heldStringS.l0 k xs (a : Int) (i : Int)) ((a + d : Nat) : Int) := by
  intro d
  induction d with
  | zero =>
    intro i a hx hi ha hz
    have := drop_nil_len hx
    exact Ev.step (f := fun _ => some (a : Int)) (fun k => by rw [laws_heldStringS.l0, if_neg (by omega)]) (Ev.now _)
  | succ d ih =>
    intro i a hx hi ha hz
    obtain ⟨h1, h2, h3⟩ := rdOf_drop (d := ByteArray.empty) hx
    refine Ev.succ ?_
    simp only [laws_heldStringS.l0, w64 (n := (i : Int) + 1) (by omega) (by omega), w64 (n := (a : Int) + 1) (by omega) (by omega), h1]
    refine Ev.pos (by omega) (Ev.pos (by omega) (Ev.bind (laws_markText_ev ha (by omega)) (Ev.pos rfl ?_)))
    have e := ih (i + 1) (a + 1) h3 (by omega) (by omega) (by omega)
    rw [show a + 1 + d = a + (d + 1) from by omega] at e
    exact e
theorem laws_heldStringS_ev (m : Nat) (hb : m < 140737488355328) : Ev (fun k => laws_heldStringS.f k (marksFrom 1 m) 1) ((1 + m : Nat) : Int) :=
  laws_heldStringS_l0 (marksFrom 1 m) (by rw [marksFrom_length]; exact hb) m 0 1 rfl (Nat.zero_le _) (by omega) (by omega)

theorem unfr_length (s : ByteArray) : ∀ (f : Nat) (acc : List ByteArray) (p : Int), (unfr f s acc p).1.length ≤ acc.length + f := by
  intro f
  induction f with
  | zero => intro acc p; exact Nat.le_refl _
  | succ f ih =>
    intro acc p
    unfold unfr
    split
    · have := ih (acc ++ [s.extract ((readVar s p).2.1 + 4).toNat ((readVar s p).2.1 + 4 + (readVar s p).1).toNat]) ((readVar s p).2.1 + 4 + (readVar s p).1)
      rw [List.length_append, List.length_singleton] at this
      omega
    · show acc.length ≤ _
      omega
theorem unframe_length (s : ByteArray) : (unframe s).1.length ≤ 20001 := by
  unfold unframe
  split
  · exact Nat.zero_le _
  · have := unfr_length s (s.size + 1) [] 0
    simp at this
    omega
theorem FnExactUnframe : laws_FnExactUnframe.Pure := by
  intro a0 h0
  refine Ev.rounds (r := true) ?_
  unfold laws_FnExactUnframe.f
  by_cases hb : (a0.size : Int) > 1048576
  · exact Ev.pos hb (Ev.now _)
  have hl := unframe_length a0
  refine Ev.neg hb (Ev.bind (spec_Unframe_ev a0) (Ev.bind (impl_Unframe_ev a0) (Ev.bind (laws_eqStringS_ev _ (by omega)) (Ev.pos rfl ?_))))
  refine Ev.succ ?_
  simp only [laws_FnExactUnframe.j0]
  refine Ev.neg (by simp) (Ev.bind (laws_markStringS_ev (unframe a0).1 (by omega)) (Ev.bind (laws_heldStringS_ev (unframe a0).1.length (by omega)) (Ev.neg (by omega) (Ev.pos rfl ?_))))
  refine Ev.bind (impl_Unframe_ev a0) (Ev.bind (laws_eqStringS_ev _ (by omega)) (Ev.pos rfl ?_))
  refine Ev.succ ?_
  simp only [laws_FnExactUnframe.j1]
  exact Ev.neg (by simp) (Ev.bind (laws_heldStringS_ev (unframe a0).1.length (by omega)) (Ev.neg (by omega) (Ev.pos rfl (Ev.now _))))

end Go.Proofs.Ytmfjnmkkhfpboaa.Pure
