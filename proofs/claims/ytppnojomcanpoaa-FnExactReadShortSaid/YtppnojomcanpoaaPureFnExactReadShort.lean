/- For every text and place both programs' ReadShort come to the same text, place and answer. -/
import Derived.Test.YtppnojomcanpoaaPFnExactReadShortx2
import Derived.Test.YtppnojomcanpoaaBase
namespace Go.Proofs.Ytppnojomcanpoaa.Pure
open Go.RowKit Go.Proofs.Ytppnojomcanpoaa.PFnExactReadShort Go.Proofs.YtppnojomcanpoaaW.PrintWords Go.Proofs.YtppnojomcanpoaaW.PrintLast Go.Proofs.Ytppnojomcanpoaa.Base
set_option linter.unusedVariables false
set_option linter.unusedSimpArgs false

theorem spec_l01In_eq (a b c : Int) : spec_l01In.f a b c = some (decide (b ≤ a ∧ a ≤ c)) := by
  unfold spec_l01In.f
  by_cases h : b ≤ a <;> simp [h]

theorem spec_l01Var_l0 : ∀ (n : Nat) (acc : List Int), acc.length + n < 140737488355327 → Ev (fun k => spec_l01Var.l0 k (n : Int) acc) (strOfNums (acc ++ vl n)) := by
  intro n
  induction n using Nat.strongRecOn with
  | _ n ih =>
    intro acc h
    by_cases hn : n > 127
    · refine Ev.step (f := fun k => spec_l01Var.l0 k ((n / 128 : Nat) : Int) (acc ++ [((n % 128 + 128 : Nat) : Int)])) (fun k => ?_) ?_
      · rw [spec_l01Var.l0, if_pos (by omega), if_pos (by omega), quo128 (by omega), rem128]
      · have e := ih (n / 128) (by omega) (acc ++ [((n % 128 + 128 : Nat) : Int)]) (by rw [List.length_append, List.length_singleton]; omega)
        rw [vl_big hn]
        rwa [List.append_assoc] at e
    · refine Ev.step (f := fun _ => some (strOfNums (acc ++ vl n))) (fun k => ?_) (Ev.now _)
      rw [spec_l01Var.l0, if_neg (by omega), if_pos (by omega), vl_small hn, show (n : Int) % 256 = (n : Int) from by omega]
theorem spec_l01Var_ev {a : Int} (h : 0 ≤ a) (h' : a < 140737488355327) : Ev (fun k => spec_l01Var.f k a) (strOfNums (vl a.toNat)) := by
  obtain ⟨n, rfl⟩ := Int.eq_ofNat_of_zero_le h
  exact spec_l01Var_l0 n [] (by simp; omega)

theorem spec_ReadVar_l0 (s : ByteArray) (p : Nat) (hs : s.size ≤ 140737488351232) : ∀ (f j sc n : Nat), f + j = 5 → sc * 128 ^ f = 34359738368 → n < sc → p + j ≤ s.size →
    Ev (fun k => spec_ReadVar.l0 k s (p : Int) (n : Int) (sc : Int) ((p + j : Nat) : Int)) (rvS s p n sc (p + j) (dig f (s.data.toList.drop (p + j)))) := by
  intro f
  induction f with
  | zero =>
    intro j sc n hf hsc hn hj
    by_cases hlt : p + j < s.size
    · refine Ev.step (f := fun k => spec_ReadVar.j1 k s (p : Int) (n : Int) (sc : Int) ((p + j : Nat) : Int) false) (fun k => ?_) ?_
      · rw [spec_ReadVar.l0, if_pos (by omega), w64 (by omega) (by omega), show decide (((p + j : Nat) : Int) < (p : Int) + 5) = false from decide_eq_false (by omega)]
      · exact Ev.step (f := fun _ => some noVar) (fun k => by rw [spec_ReadVar.j1, if_neg (by decide)]; rfl) (Ev.now _)
    · refine Ev.step (f := fun k => spec_ReadVar.j1 k s (p : Int) (n : Int) (sc : Int) ((p + j : Nat) : Int) false) (fun k => ?_) ?_
      · rw [spec_ReadVar.l0, if_neg (by omega)]
      · exact Ev.step (f := fun _ => some noVar) (fun k => by rw [spec_ReadVar.j1, if_neg (by decide)]; rfl) (Ev.now _)
  | succ f ih =>
    intro j sc n hf hsc hn hj
    obtain ⟨hsc1, hsc2⟩ := rv_sc hsc
    cases hl : s.data.toList.drop (p + j) with
    | nil =>
      have hz := drop_none hl
      refine Ev.step (f := fun k => spec_ReadVar.j1 k s (p : Int) (n : Int) (sc : Int) ((p + j : Nat) : Int) false) (fun k => ?_) ?_
      · rw [spec_ReadVar.l0, if_neg (by omega)]
      · exact Ev.step (f := fun _ => some noVar) (fun k => by rw [spec_ReadVar.j1, if_neg (by decide)]; rfl) (Ev.now _)
    | cons c l =>
      obtain ⟨hb, hlt, hd⟩ := bt_drop hl
      have hc : c.toNat < 256 := c.toNat_lt
      refine Ev.step (f := fun k => spec_ReadVar.j1 k s (p : Int) (n : Int) (sc : Int) ((p + j : Nat) : Int) true) (fun k => ?_) ?_
      · rw [spec_ReadVar.l0, if_pos (by omega), w64 (by omega) (by omega), show decide (((p + j : Nat) : Int) < (p : Int) + 5) = true from decide_eq_true (by omega)]
      refine Ev.succ ?_
      simp only [spec_ReadVar.j1, hb, rv_term hc hsc1 hn, w64 (n := ((p + j : Nat) : Int) + 1) (by omega) (by omega), w64 (n := (sc : Int) * 128) (by omega) (by omega)]
      refine Ev.pos (by trivial) (Ev.pos (by omega) (Ev.pos (by omega) ?_))
      have hsum := rv_lt (c := c.toNat) hn
      by_cases hc1 : c.toNat < 128
      · rw [dig_small hc1]
        have e0 : c.toNat % 128 * sc = sc * c.toNat := by rw [Nat.mod_eq_of_lt hc1, Nat.mul_comm]
        rw [e0] at hsum ⊢
        simp only [rvS]
        refine Ev.pos (by omega) ?_
        by_cases hmax : n + sc * c.toNat ≤ 1000000000
        · refine Ev.neg (by omega) (Ev.bind (spec_l01Var_ev (by omega) (by omega)) ?_)
          refine Ev.pos (by omega) (Ev.pos (by omega) (Ev.pos (by omega) ?_))
          rw [Int.toNat_natCast, Int.toNat_natCast, show (((p + j : Nat) : Int) + 1).toNat = p + j + 1 from by omega]
          by_cases he : strOfNums (vl (n + sc * c.toNat)) = s.extract p (p + j + 1)
          · exact Ev.tpos ⟨hmax, he⟩ (Ev.pos (toList_iff.2 he) (Ev.ret (by rw [Int.natCast_add (p + j) 1]; rfl)))
          · exact Ev.tneg (fun h => he h.2) (Ev.neg (fun h => he (toList_inj h)) (Ev.now _))
        · exact Ev.tneg (fun h => hmax h.1) (Ev.pos (by omega) (Ev.now _))
      · rw [dig_big hc1, rvS_next]
        refine Ev.neg (by omega) ?_
        have e := ih (j + 1) (sc * 128) (n + c.toNat % 128 * sc) (by omega) hsc2 hsum (by omega)
        rw [← Nat.add_assoc, hd, show ((p + j + 1 : Nat) : Int) = ((p + j : Nat) : Int) + 1 from by omega, show ((sc * 128 : Nat) : Int) = (sc : Int) * 128 from by omega] at e
        exact e
theorem spec_ReadVar_ev (s : ByteArray) (p : Int) (hs : s.size ≤ 140737488351232) : Ev (fun k => spec_ReadVar.f k s p) (readVar s p) := by
  unfold spec_ReadVar.f
  refine Ev.bind0 (spec_l01In_eq _ _ _) ?_
  by_cases h : 0 ≤ p ∧ p ≤ s.size
  · refine Ev.pos (by simpa using h) ?_
    obtain ⟨p, rfl⟩ := Int.eq_ofNat_of_zero_le h.1
    rw [← rvS_top s p (by omega)]
    exact spec_ReadVar_l0 s p hs 5 0 1 0 (by omega) (by decide) (by omega) (by omega)
  · refine Ev.neg (by simpa using h) ?_
    rw [readVar, if_neg h]
    exact Ev.now _

theorem spec_ReadShort_ev (s : ByteArray) (p : Int) (hs : s.size ≤ 140737488351232) : Ev (fun k => spec_ReadShort.f k s p) (readShort s p) := by
  unfold spec_ReadShort.f readShort
  refine Ev.bind (spec_ReadVar_ev s p hs) ?_
  rcases readVar_cases s p with h | ⟨n, m, h, hn, hm, hp, hz, hl, hx⟩
  · rw [h]
    exact Ev.neg (by simp) (Ev.now _)
  · rw [h]
    refine Ev.pos (by trivial) (Ev.tpos (by trivial) ?_)
    dsimp only
    rw [w64 (n := (s.size : Int) - (p + (m : Int))) (by omega) (by omega)]
    by_cases h1 : (n : Int) > 20000
    · exact Ev.tpos (.inl h1) (Ev.pos h1 (Ev.now _))
    by_cases h2 : (n : Int) > (s.size : Int) - (p + (m : Int))
    · exact Ev.tpos (.inr h2) (Ev.neg h1 (Ev.pos h2 (Ev.now _)))
    refine Ev.tneg (fun h => h.elim h1 h2) (Ev.neg h1 (Ev.neg h2 ?_))
    rw [w64 (n := p + (m : Int) + (n : Int)) (by omega) (by omega)]
    exact Ev.pos (by omega) (Ev.pos (by omega) (Ev.pos (by omega) (Ev.now _)))

theorem impl_within_eq (a b c : Int) : impl_within.f a b c = some (decide (b ≤ a ∧ a ≤ c)) := by
  unfold impl_within.f
  by_cases h : b ≤ a <;> simp [h]

theorem impl_VarText_l0 : ∀ (n : Nat) (acc : List Int), acc.length + n < 140737488355327 → Ev (fun k => impl_VarText.l0 k (n : Int) acc) (strOfNums (acc ++ vl n), true) := by
  intro n
  induction n using Nat.strongRecOn with
  | _ n ih =>
    intro acc h
    by_cases hn : n > 127
    · refine Ev.step (f := fun k => impl_VarText.l0 k ((n / 128 : Nat) : Int) (acc ++ [((n % 128 + 128 : Nat) : Int)])) (fun k => ?_) ?_
      · rw [impl_VarText.l0, if_pos (by omega), if_pos (by omega), quo128 (by omega), rem128]
      · have e := ih (n / 128) (by omega) (acc ++ [((n % 128 + 128 : Nat) : Int)]) (by rw [List.length_append, List.length_singleton]; omega)
        rw [vl_big hn]
        rwa [List.append_assoc] at e
    · refine Ev.step (f := fun _ => some (strOfNums (acc ++ vl n), true)) (fun k => ?_) (Ev.now _)
      rw [impl_VarText.l0, if_neg (by omega), if_pos (by omega), vl_small hn, show (n : Int) % 256 = (n : Int) from by omega]
theorem impl_VarText_ev (a : Int) : Ev (fun k => impl_VarText.f k a) (varText a) := by
  unfold impl_VarText.f
  refine Ev.bind0 (impl_within_eq _ _ _) ?_
  by_cases h : 0 ≤ a ∧ a ≤ 1000000000
  · refine Ev.pos (by simpa using h) ?_
    rw [varText_yes h.1 h.2]
    obtain ⟨n, rfl⟩ := Int.eq_ofNat_of_zero_le h.1
    exact impl_VarText_l0 n [] (by simp; omega)
  · refine Ev.neg (by simpa using h) (Ev.ret (varText_no h).symm)

theorem impl_ReadVar_l0 (s : ByteArray) (p : Nat) (hs : s.size ≤ 140737488351232) (hp : p ≤ s.size) : ∀ (f j n : Nat), f + j = 5 → n < 128 ^ j →
    Ev (fun k => impl_ReadVar.l0 k s (p : Int) (n : Int) (j : Int)) (rvI p n (128 ^ j) j (dig f (s.data.toList.drop (p + j)))) := by
  intro f
  induction f with
  | zero =>
    intro j n hf hn
    refine Ev.step (f := fun k => impl_ReadVar.j1 k s (p : Int) (n : Int) (j : Int) false) (fun k => ?_) ?_
    · rw [impl_ReadVar.l0, if_neg (by omega)]
    · exact Ev.step (f := fun _ => some noVar) (fun k => by rw [impl_ReadVar.j1, if_neg (by decide)]; rfl) (Ev.now _)
  | succ f ih =>
    intro j n hf hn
    have hsc1 : 128 ^ j * 128 ≤ 34359738368 := by
      have h5 : 128 ^ (j + 1) ≤ 128 ^ 5 := Nat.pow_le_pow_right (by decide) (by omega)
      rw [← Nat.pow_succ]
      exact Nat.le_trans h5 (by decide)
    cases hl : s.data.toList.drop (p + j) with
    | nil =>
      have hz := drop_none hl
      refine Ev.step (f := fun k => impl_ReadVar.j1 k s (p : Int) (n : Int) (j : Int) false) (fun k => ?_) ?_
      · rw [impl_ReadVar.l0, if_pos (by omega), w64 (by omega) (by omega), show decide ((p : Int) + (j : Int) < (s.size : Int)) = false from decide_eq_false (by omega)]
      · exact Ev.step (f := fun _ => some noVar) (fun k => by rw [impl_ReadVar.j1, if_neg (by decide)]; rfl) (Ev.now _)
    | cons c l =>
      obtain ⟨hb, hlt, hd⟩ := bt_drop hl
      have hc : c.toNat < 256 := c.toNat_lt
      refine Ev.step (f := fun k => impl_ReadVar.j1 k s (p : Int) (n : Int) (j : Int) true) (fun k => ?_) ?_
      · rw [impl_ReadVar.l0, if_pos (by omega), w64 (by omega) (by omega), show decide ((p : Int) + (j : Int) < (s.size : Int)) = true from decide_eq_true (by omega)]
      refine Ev.succ ?_
      have hsum := rv_lt (c := c.toNat) hn
      rw [Int.natCast_add] at hb
      have et : wrap64 ((n : Int) + ((c.toNat % 128 * 128 ^ j : Nat) : Int)) = ((n + c.toNat % 128 * 128 ^ j : Nat) : Int) := by
        generalize c.toNat % 128 * 128 ^ j = t at *
        rw [w64 (by omega) (by omega), Int.natCast_add]
      have hs7 := shl7 (c := c.toNat) (j := j) hc (by omega)
      simp only [impl_ReadVar.j1, w64 (n := (p : Int) + (j : Int)) (by omega) (by omega), hb, hs7, et, w64 (n := (p : Int) + (j : Int) + 1) (by omega) (by omega), w64 (n := (j : Int) + 1) (by omega) (by omega), w64 (n := 7 * (j : Int)) (by omega) (by omega), w64 (n := (c.toNat : Int)) (by omega) (by omega)]
      refine Ev.pos (by trivial) (Ev.pos (by omega) (Ev.pos (by omega) (Ev.pos (by omega) ?_)))
      by_cases hc1 : c.toNat < 128
      · rw [dig_small hc1]
        have e0 : c.toNat % 128 * 128 ^ j = 128 ^ j * c.toNat := by rw [Nat.mod_eq_of_lt hc1, Nat.mul_comm]
        rw [e0] at hsum ⊢
        simp only [rvI]
        generalize n + 128 ^ j * c.toNat = t at *
        refine Ev.pos (by omega) (Ev.bind (impl_VarText_ev _) ?_)
        by_cases hmax : t ≤ 1000000000
        · rw [varText_yes (by omega) (by omega), Int.toNat_natCast]
          refine Ev.pos (by trivial) ?_
          rw [strOfNums_size]
          by_cases he : (vl t).length = j + 1
          · refine Ev.tpos ⟨hmax, he⟩ (Ev.pos (by omega) (Ev.ret ?_))
            rw [Int.natCast_add, Int.natCast_add]; rfl
          · exact Ev.tneg (fun h => he h.2) (Ev.neg (by omega) (Ev.now _))
        · rw [varText_no (by omega)]
          exact Ev.tneg (fun h => hmax h.1) (Ev.neg (by simp) (Ev.now _))
      · rw [dig_big hc1, rvI_next]
        refine Ev.neg (by omega) ?_
        have e := ih (j + 1) (n + c.toNat % 128 * 128 ^ j) (by omega) (by rw [Nat.pow_succ]; exact hsum)
        rw [← Nat.add_assoc, hd, Nat.pow_succ, show ((j + 1 : Nat) : Int) = (j : Int) + 1 from by omega] at e
        exact e
theorem impl_ReadVar_ev (s : ByteArray) (p : Int) (hs : s.size ≤ 140737488351232) : Ev (fun k => impl_ReadVar.f k s p) (readVar s p) := by
  unfold impl_ReadVar.f
  refine Ev.bind0 (impl_within_eq _ _ _) ?_
  by_cases h : 0 ≤ p ∧ p ≤ s.size
  · refine Ev.pos (by simpa using h) ?_
    obtain ⟨p, rfl⟩ := Int.eq_ofNat_of_zero_le h.1
    rw [← rvI_top s p (by omega)]
    exact impl_ReadVar_l0 s p hs (by omega) 5 0 0 (by omega) (by decide)
  · refine Ev.neg (by simpa using h) ?_
    rw [readVar, if_neg h]
    exact Ev.now _

theorem impl_ReadShort_ev (s : ByteArray) (p : Int) (hs : s.size ≤ 140737488351232) : Ev (fun k => impl_ReadShort.f k s p) (readShort s p) := by
  unfold impl_ReadShort.f readShort
  refine Ev.bind (impl_ReadVar_ev s p hs) ?_
  rcases readVar_cases s p with h | ⟨n, m, h, hn, hm, hp, hz, hl, hx⟩
  · rw [h]
    exact Ev.neg (by simp) (Ev.now _)
  · rw [h]
    refine Ev.pos (by trivial) (Ev.tpos (by trivial) ?_)
    dsimp only
    rw [w64 (n := (s.size : Int) - (p + (m : Int))) (by omega) (by omega)]
    by_cases h1 : (n : Int) > 20000
    · exact Ev.tpos (.inl h1) (Ev.pos h1 (Ev.now _))
    by_cases h2 : (n : Int) > (s.size : Int) - (p + (m : Int))
    · exact Ev.tpos (.inr h2) (Ev.neg h1 (Ev.pos h2 (Ev.now _)))
    refine Ev.tneg (fun h => h.elim h1 h2) (Ev.neg h1 (Ev.neg h2 ?_))
    rw [w64 (n := p + (m : Int) + (n : Int)) (by omega) (by omega)]
    exact Ev.pos (by omega) (Ev.pos (by omega) (Ev.pos (by omega) (Ev.now _)))

theorem FnExactReadShort : laws_FnExactReadShort.Pure := by
  intro a0 a1 h0 h1
  refine Ev.rounds (r := true) ?_
  unfold laws_FnExactReadShort.f
  by_cases hb : (a0.size : Int) > 1048576
  · exact Ev.pos hb (Ev.now _)
  refine Ev.neg hb (Ev.bind (spec_ReadShort_ev a0 a1 h0) (Ev.bind (impl_ReadShort_ev a0 a1 h0) (Ev.pos rfl (Ev.pos rfl ?_))))
  simpa using Ev.now true

end Go.Proofs.Ytppnojomcanpoaa.Pure
