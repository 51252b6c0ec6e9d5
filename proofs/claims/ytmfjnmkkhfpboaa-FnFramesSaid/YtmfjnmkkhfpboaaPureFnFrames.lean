/- For every draw the records come back from their frames, and of frames cut at the drawn place just the whole ones do. -/
import Derived.Test.YtmfjnmkkhfpboaaOFnFramesx4
import Derived.Test.YtmfjnmkkhfpboaaBase
import Derived.Test.YtmfjnmkkhfpboaaBase2
import Derived.Test.YtmfjnmkkhfpboaaBase3
namespace Go.Proofs.Ytmfjnmkkhfpboaa.Pure
open Go.RowKit Go.Proofs.Ytmfjnmkkhfpboaa.PFnFrames Go.Proofs.YtmfjnmkkhfpboaaW.PrintWords Go.Proofs.YtmfjnmkkhfpboaaW.PrintLast Go.Proofs.Ytmfjnmkkhfpboaa.Base
set_option linter.unusedVariables false
set_option linter.unusedSimpArgs false

theorem laws_big_eq (l : List Int) : laws_big.f l = some (decide ((l.length : Int) > 1048576)) := rfl
theorem spec_l01New_l0 (l : List Int) (hl : l.length ≤ 1048576) : ∀ (d : Nat) (x i : Int), 0 ≤ i → (l.length : Int) - i ≤ d → ∃ h, Ev (fun k => spec_l01New.l0 k l x i) (l, 0, h) := by
  intro d
  induction d with
  | zero =>
    intro x i h0 hd
    exact ⟨x, Ev.step (f := fun _ => some (l, 0, x)) (fun k => by rw [spec_l01New.l0, if_neg (by omega)]) (Ev.now _)⟩
  | succ d ih =>
    intro x i h0 hd
    by_cases h1 : i < (l.length : Int)
    · by_cases h2 : i < 4000
      · obtain ⟨h, e⟩ := ih (Go.bits .and .i64 (wrap64 ((wrap64 ((wrap64 (x * 131)) + (wrap64 (rd l i)))) + 7)) 1073741823) (i + 1) (by omega) (by omega)
        refine ⟨h, Ev.step (fun k => ?_) e⟩
        rw [spec_l01New.l0, if_pos h1, if_pos h2, if_pos h0, w64 (n := i + 1) (by omega) (by omega)]
      · exact ⟨x, Ev.step (f := fun _ => some (l, 0, x)) (fun k => by rw [spec_l01New.l0, if_pos h1, if_neg h2]) (Ev.now _)⟩
    · exact ⟨x, Ev.step (f := fun _ => some (l, 0, x)) (fun k => by rw [spec_l01New.l0, if_neg h1]) (Ev.now _)⟩
theorem spec_l01New_ev (l : List Int) (hl : l.length ≤ 1048576) : ∃ h, Ev (fun k => spec_l01New.f k l) (l, 0, h) := by
  obtain ⟨h, e⟩ := spec_l01New_l0 l hl l.length (wrap64 (12701 + (l.length : Int))) 0 (by omega) (by omega)
  exact ⟨h, e⟩
/-- The cursor stands within the draw. -/
def cur (l : List Int) (i : Int) : Prop := 0 ≤ i ∧ i ≤ l.length ∧ l.length ≤ 1048576
theorem spec_l01Byte_some {l : List Int} {i : Int} (h : Int) (hc : cur l i) : ∃ b i' h', spec_l01Byte.f l i h = some (b, i', h') ∧ 0 ≤ b ∧ b ≤ 255 ∧ cur l i' := by
  obtain ⟨h0, h1, h2⟩ := hc
  unfold spec_l01Byte.f
  by_cases hlt : i < (l.length : Int)
  · rw [if_pos hlt, if_pos h0]
    exact ⟨_, _, _, rfl, (and255 _).1, (and255 _).2, by rw [w64 (by omega) (by omega)]; omega, by rw [w64 (by omega) (by omega)]; omega, h2⟩
  · rw [if_neg hlt]
    exact ⟨_, _, _, rfl, (and255 _).1, (and255 _).2, h0, h1, h2⟩
theorem spec_l01Below_some {l : List Int} {i : Int} (h n : Int) (hn : n ≤ 9223372036854775807) (hc : cur l i) : ∃ x i' h', spec_l01Below.f l i h n = some (x, i', h') ∧ cur l i' ∧ (n ≤ 0 → x = 0) ∧ (0 < n → 0 ≤ x ∧ x < n) := by
  unfold spec_l01Below.f
  by_cases h1 : n ≤ 0
  · rw [if_pos h1]
    exact ⟨_, _, _, rfl, hc, fun _ => rfl, fun _ => by omega⟩
  rw [if_neg h1]
  by_cases h2 : n ≤ 256
  · rw [if_pos h2]
    obtain ⟨b, i', h', e, b0, b1, c'⟩ := spec_l01Byte_some h hc
    rw [e, Option.bind_some, if_neg (by omega)]
    exact ⟨_, _, _, rfl, c', fun _ => by omega, fun _ => by rw [tmodp b0]; exact ⟨Int.emod_nonneg _ (by omega), Int.emod_lt_of_pos _ (by omega)⟩⟩
  · rw [if_neg h2]
    obtain ⟨b, i1, h1', e1, b0, b1, c1⟩ := spec_l01Byte_some h hc
    obtain ⟨b2, i2, h2', e2, b20, b21, c2⟩ := spec_l01Byte_some h1' c1
    obtain ⟨b3, i3, h3', e3, b30, b31, c3⟩ := spec_l01Byte_some h2' c2
    obtain ⟨b4, i4, h4', e4, b40, b41, c4⟩ := spec_l01Byte_some h3' c3
    rw [e1, Option.bind_some, e2, Option.bind_some, e3, Option.bind_some, e4, Option.bind_some, if_neg (by omega)]
    have hw : 0 ≤ wrap64 (wrap64 (wrap64 (wrap64 (b * 16777216) + wrap64 (b2 * 65536)) + wrap64 (b3 * 256)) + b4) := by unfold wrap64; omega
    exact ⟨_, _, _, rfl, c4, fun _ => by omega, fun _ => by rw [tmodp hw]; exact ⟨Int.emod_nonneg _ (by omega), Int.emod_lt_of_pos _ (by omega)⟩⟩

theorem spec_DrawPlaces_l0 (l : List Int) : ∀ (d : Nat) (j : Int) (acc : List Int) (i h : Int), cur l i → j + d = 12 → 0 ≤ j → (acc.length : Int) = j → (∀ x ∈ acc, 0 ≤ x ∧ x < 10000) →
    ∃ p, Ev (fun k => spec_DrawPlaces.l0 k acc j l i h) p ∧ p.length = 12 ∧ ∀ x ∈ p, 0 ≤ x ∧ x < 10000 := by
  intro d
  induction d with
  | zero =>
    intro j acc i h hc hj h0 ha hr
    exact ⟨acc, Ev.step (f := fun _ => some acc) (fun k => by rw [spec_DrawPlaces.l0, if_neg (by omega)]) (Ev.now _), by omega, hr⟩
  | succ d ih =>
    intro j acc i h hc hj h0 ha hr
    obtain ⟨x, i', h', e, c', _, hx⟩ := spec_l01Below_some h 10000 (by omega) hc
    obtain ⟨p, ep, h1, h2⟩ := ih (j + 1) (acc ++ [x]) i' h' c' (by omega) (by omega) (by rw [List.length_append, List.length_singleton]; omega) (by
      intro y hy
      rw [List.mem_append, List.mem_singleton] at hy
      rcases hy with hy | rfl
      · exact hr y hy
      · exact hx (by omega))
    refine ⟨p, Ev.step (fun k => ?_) ep, h1, h2⟩
    rw [spec_DrawPlaces.l0, if_pos (by omega), e, Option.bind_some, if_pos (by omega), w64 (by omega) (by omega)]
theorem spec_DrawPlaces_ev (l : List Int) (hl : l.length ≤ 1048576) : ∃ p, Ev (fun k => spec_DrawPlaces.f k l) p ∧ p.length = 12 ∧ ∀ x ∈ p, 0 ≤ x ∧ x < 10000 := by
  obtain ⟨h, e⟩ := spec_l01New_ev l hl
  obtain ⟨b, i', h', e2, _, _, c'⟩ := spec_l01Byte_some (l := l) (i := 0) h ⟨by omega, by omega, hl⟩
  obtain ⟨p, ep, h1, h2⟩ := spec_DrawPlaces_l0 l 12 0 [] i' h' c' (by omega) (by omega) (by simp) (by simp)
  refine ⟨p, ?_, h1, h2⟩
  unfold spec_DrawPlaces.f
  exact Ev.bind e (Ev.bind0 e2 ep)

theorem spec_l01Text_l0 (l : List Int) (n : Int) (hn : n ≤ 5000) : ∀ (d : Nat) (j : Int) (acc : List Int) (i h : Int), cur l i → n - j ≤ d → 0 ≤ j → (acc.length : Int) = j → (j ≤ n ∨ j = 0) →
    ∃ t i' h', Ev (fun k => spec_l01Text.l0 k n acc j l i h) (t, i', h') ∧ cur l i' ∧ (t.size : Int) = max 0 n := by
  intro d
  induction d with
  | zero =>
    intro j acc i h hc hj h0 ha hr
    exact ⟨_, i, h, Ev.step (f := fun _ => some (strOfNums acc, i, h)) (fun k => by rw [spec_l01Text.l0, if_neg (by omega)]) (Ev.now _), hc, by rw [strOfNums_size]; omega⟩
  | succ d ih =>
    intro j acc i h hc hj h0 ha hr
    by_cases hlt : j < n
    · obtain ⟨b, i', h', e, b0, b1, c'⟩ := spec_l01Byte_some h hc
      obtain ⟨t, i2, h2, ep, h3, h4⟩ := ih (j + 1) (acc ++ [b % 256]) i' h' c' (by omega) (by omega) (by rw [List.length_append, List.length_singleton]; omega) (by omega)
      refine ⟨t, i2, h2, Ev.step (fun k => ?_) ep, h3, h4⟩
      rw [spec_l01Text.l0, if_pos hlt, e, Option.bind_some, if_pos (by omega), w64 (by omega) (by omega)]
    · exact ⟨_, i, h, Ev.step (f := fun _ => some (strOfNums acc, i, h)) (fun k => by rw [spec_l01Text.l0, if_neg hlt]) (Ev.now _), hc, by rw [strOfNums_size]; omega⟩
theorem spec_l01Text_ev {l : List Int} {i : Int} (h n : Int) (hc : cur l i) : ∃ t i' h', Ev (fun k => spec_l01Text.f k l i h n) (t, i', h') ∧ cur l i' ∧ (t.size : Int) = max 0 (min n 5000) := by
  unfold spec_l01Text.f
  by_cases h1 : n > 5000
  · obtain ⟨t, i2, h2, ep, h3, h4⟩ := spec_l01Text_l0 l 5000 (by omega) 5000 0 [] i h hc (by omega) (by omega) (by simp) (by omega)
    exact ⟨t, i2, h2, Ev.pos h1 (Ev.step (fun k => by rw [spec_l01Text.j0]) ep), h3, by omega⟩
  · obtain ⟨t, i2, h2, ep, h3, h4⟩ := spec_l01Text_l0 l n (by omega) 5000 0 [] i h hc (by omega) (by omega) (by simp) (by omega)
    exact ⟨t, i2, h2, Ev.neg h1 (Ev.step (fun k => by rw [spec_l01Text.j0]) ep), h3, by omega⟩

theorem spec_l01Once_some {l : List Int} {i : Int} (h n : Int) (hn : n ≤ 9223372036854775807) (hc : cur l i) : ∃ b i' h', spec_l01Once.f l i h n = some (b, i', h') ∧ cur l i' := by
  obtain ⟨x, i', h', e, c', _⟩ := spec_l01Below_some h n hn hc
  exact ⟨_, i', h', by unfold spec_l01Once.f; rw [e, Option.bind_some], c'⟩

theorem spec_l01Long_l0 (n x : Int) (hn : n ≤ 100000) : ∀ (d : Nat) (xs : List Int) (j : Int), (xs.length : Int) = n → 0 ≤ j → n - j ≤ d → ∃ t, Ev (fun k => spec_l01Long.l0 k n x xs j) t ∧ (t.size : Int) = n := by
  intro d
  induction d with
  | zero =>
    intro xs j hx h0 hd
    exact ⟨_, Ev.step (f := fun _ => some (strOfNums xs)) (fun k => by rw [spec_l01Long.l0, if_neg (by omega)]) (Ev.now _), by rw [strOfNums_size]; exact hx⟩
  | succ d ih =>
    intro xs j hx h0 hd
    by_cases hlt : j < n
    · obtain ⟨t, e, ht⟩ := ih (xs.set j.toNat x) (j + 1) (by rw [List.length_set]; exact hx) (by omega) (by omega)
      refine ⟨t, Ev.step (fun k => ?_) e, ht⟩
      rw [spec_l01Long.l0, if_pos hlt, if_pos h0, if_pos (by omega), w64 (by omega) (by omega)]
    · exact ⟨_, Ev.step (f := fun _ => some (strOfNums xs)) (fun k => by rw [spec_l01Long.l0, if_neg hlt]) (Ev.now _), by rw [strOfNums_size]; exact hx⟩
theorem spec_l01Long_ev (n x : Int) (h0 : 0 ≤ n) (hn : n ≤ 100000) : ∃ t, Ev (fun k => spec_l01Long.f k n x) t ∧ (t.size : Int) = n := by
  obtain ⟨t, e, ht⟩ := spec_l01Long_l0 n x hn n.toNat (List.replicate n.toNat 0) 0 (by rw [List.length_replicate]; omega) (by omega) (by omega)
  refine ⟨t, ?_, ht⟩
  unfold spec_l01Long.f
  exact Ev.pos h0 (Ev.pos (by omega) e)

theorem spec_DrawHex_ev (l : List Int) (hl : l.length ≤ 1048576) : ∃ t, Ev (fun k => spec_DrawHex.f k l) t ∧ t.size ≤ 20002 := by
  obtain ⟨h, e⟩ := spec_l01New_ev l hl
  obtain ⟨b, i1, h1, e1, c1⟩ := spec_l01Once_some (l := l) (i := 0) h 60 (by omega) ⟨by omega, by omega, hl⟩
  unfold spec_DrawHex.f
  cases b with
  | true =>
    obtain ⟨x, i2, h2, e2, c2, _, hx⟩ := spec_l01Below_some h1 2 (by omega) c1
    have hx := hx (by omega)
    obtain ⟨t, et, ht⟩ := spec_l01Long_ev (20000 + x) 200 (by omega) (by omega)
    refine ⟨t, Ev.bind e (Ev.bind0 e1 (Ev.pos rfl (Ev.bind0 e2 ?_))), by omega⟩
    dsimp only
    rw [w64 (by omega) (by omega)]
    exact Ev.bind et (Ev.now _)
  | false =>
    obtain ⟨x, i2, h2, e2, c2, _, hx⟩ := spec_l01Below_some h1 30 (by omega) c1
    obtain ⟨t, i3, h3, et, c3, ht⟩ := spec_l01Text_ev (l := l) (i := i2) h2 x c2
    exact ⟨t, Ev.bind e (Ev.bind0 e1 (Ev.neg (by simp) (Ev.bind0 e2 (Ev.bind et (Ev.now _))))), by omega⟩

theorem impl_within_eq (a b c : Int) : impl_within.f a b c = some (decide (b ≤ a ∧ a ≤ c)) := by
  unfold impl_within.f
  by_cases h : b ≤ a <;> simp [h]

theorem impl_VarText_l0 : ∀ (n : Nat) (acc : List Int), acc.length + n < 140737488355327 → Ev (fun k => impl_VarText.l0 k (n : Int) acc) (strOfNums (acc ++ vl n), true) := by
  intro n
  induction n using Nat.strongRecOn with
  | _ n ih =>
    intro acc h
    by_cases hn : n > 127
    · refine Ev.step (f := fun k => impl_VarText.l0 k ((n / 128 : Nat) : Int) (acc ++ [((n % 128 + 128 : Nat) : Int)])) (fun k => ?_) ?_
      · rw [impl_VarText.l0, if_pos (by omega), if_pos (by omega), quo128 (by omega), rem128]
      · have e := ih (n / 128) (by omega) (acc ++ [((n % 128 + 128 : Nat) : Int)]) (by rw [List.length_append, List.length_singleton]; omega)
        rw [vl_big hn]
        rwa [List.append_assoc] at e
    · refine Ev.step (f := fun _ => some (strOfNums (acc ++ vl n), true)) (fun k => ?_) (Ev.now _)
      rw [impl_VarText.l0, if_neg (by omega), if_pos (by omega), vl_small hn, show (n : Int) % 256 = (n : Int) from by omega]
theorem impl_VarText_ev (a : Int) : Ev (fun k => impl_VarText.f k a) (varText a) := by
  unfold impl_VarText.f
  refine Ev.bind0 (impl_within_eq _ _ _) ?_
  by_cases h : 0 ≤ a ∧ a ≤ 1000000000
  · refine Ev.pos (by simpa using h) ?_
    rw [varText_yes h.1 h.2]
    obtain ⟨n, rfl⟩ := Int.eq_ofNat_of_zero_le h.1
    exact impl_VarText_l0 n [] (by simp; omega)
  · refine Ev.neg (by simpa using h) (Ev.ret (varText_no h).symm)

theorem impl_ReadVar_l0 (s : ByteArray) (p : Nat) (hs : s.size ≤ 140737488351232) (hp : p ≤ s.size) : ∀ (f j n : Nat), f + j = 5 → n < 128 ^ j →
    Ev (fun k => impl_ReadVar.l0 k s (p : Int) (n : Int) (j : Int)) (rvI p n (128 ^ j) j (dig f (s.data.toList.drop (p + j)))) := by
  intro f
  induction f with
  | zero =>
    intro j n hf hn
    refine Ev.step (f := fun k => impl_ReadVar.j1 k s (p : Int) (n : Int) (j : Int) false) (fun k => ?_) ?_
    · rw [impl_ReadVar.l0, if_neg (by omega)]
    · exact Ev.step (f := fun _ => some noVar) (fun k => by rw [impl_ReadVar.j1, if_neg (by decide)]; rfl) (Ev.now _)
  | succ f ih =>
    intro j n hf hn
    have hsc1 : 128 ^ j * 128 ≤ 34359738368 := by
      have h5 : 128 ^ (j + 1) ≤ 128 ^ 5 := Nat.pow_le_pow_right (by decide) (by omega)
      rw [← Nat.pow_succ]
      exact Nat.le_trans h5 (by decide)
    cases hl : s.data.toList.drop (p + j) with
    | nil =>
      have hz := drop_none hl
      refine Ev.step (f := fun k => impl_ReadVar.j1 k s (p : Int) (n : Int) (j : Int) false) (fun k => ?_) ?_
      · rw [impl_ReadVar.l0, if_pos (by omega), w64 (by omega) (by omega), show decide ((p : Int) + (j : Int) < (s.size : Int)) = false from decide_eq_false (by omega)]
      · exact Ev.step (f := fun _ => some noVar) (fun k => by rw [impl_ReadVar.j1, if_neg (by decide)]; rfl) (Ev.now _)
    | cons c l =>
      obtain ⟨hb, hlt, hd⟩ := bt_drop hl
      have hc : c.toNat < 256 := c.toNat_lt
      refine Ev.step (f := fun k => impl_ReadVar.j1 k s (p : Int) (n : Int) (j : Int) true) (fun k => ?_) ?_
      · rw [impl_ReadVar.l0, if_pos (by omega), w64 (by omega) (by omega), show decide ((p : Int) + (j : Int) < (s.size : Int)) = true from decide_eq_true (by omega)]
      refine Ev.succ ?_
      have hsum := rv_lt (c := c.toNat) hn
      rw [Int.natCast_add] at hb
      have et : wrap64 ((n : Int) + ((c.toNat % 128 * 128 ^ j : Nat) : Int)) = ((n + c.toNat % 128 * 128 ^ j : Nat) : Int) := by
        generalize c.toNat % 128 * 128 ^ j = t at *
        rw [w64 (by omega) (by omega), Int.natCast_add]
      have hs7 := shl7 (c := c.toNat) (j := j) hc (by omega)
      simp only [impl_ReadVar.j1, w64 (n := (p : Int) + (j : Int)) (by omega) (by omega), hb, hs7, et, w64 (n := (p : Int) + (j : Int) + 1) (by omega) (by omega), w64 (n := (j : Int) + 1) (by omega) (by omega), w64 (n := 7 * (j : Int)) (by omega) (by omega), w64 (n := (c.toNat : Int)) (by omega) (by omega)]
      refine Ev.pos (by trivial) (Ev.pos (by omega) (Ev.pos (by omega) (Ev.pos (by omega) ?_)))
      by_cases hc1 : c.toNat < 128
      · rw [dig_small hc1]
        have e0 : c.toNat % 128 * 128 ^ j = 128 ^ j * c.toNat := by rw [Nat.mod_eq_of_lt hc1, Nat.mul_comm]
        rw [e0] at hsum ⊢
        simp only [rvI]
        generalize n + 128 ^ j * c.toNat = t at *
        refine Ev.pos (by omega) (Ev.bind (impl_VarText_ev _) ?_)
        by_cases hmax : t ≤ 1000000000
        · rw [varText_yes (by omega) (by omega), Int.toNat_natCast]
          refine Ev.pos (by trivial) ?_
          rw [strOfNums_size]
          by_cases he : (vl t).length = j + 1
          · refine Ev.tpos ⟨hmax, he⟩ (Ev.pos (by omega) (Ev.ret ?_))
            rw [Int.natCast_add, Int.natCast_add]; rfl
          · exact Ev.tneg (fun h => he h.2) (Ev.neg (by omega) (Ev.now _))
        · rw [varText_no (by omega)]
          exact Ev.tneg (fun h => hmax h.1) (Ev.neg (by simp) (Ev.now _))
      · rw [dig_big hc1, rvI_next]
        refine Ev.neg (by omega) ?_
        have e := ih (j + 1) (n + c.toNat % 128 * 128 ^ j) (by omega) (by rw [Nat.pow_succ]; exact hsum)
        rw [← Nat.add_assoc, hd, Nat.pow_succ, show ((j + 1 : Nat) : Int) = (j : Int) + 1 from by omega] at e
        exact e
theorem impl_ReadVar_ev (s : ByteArray) (p : Int) (hs : s.size ≤ 140737488351232) : Ev (fun k => impl_ReadVar.f k s p) (readVar s p) := by
  unfold impl_ReadVar.f
  refine Ev.bind0 (impl_within_eq _ _ _) ?_
  by_cases h : 0 ≤ p ∧ p ≤ s.size
  · refine Ev.pos (by simpa using h) ?_
    obtain ⟨p, rfl⟩ := Int.eq_ofNat_of_zero_le h.1
    rw [← rvI_top s p (by omega)]
    exact impl_ReadVar_l0 s p hs (by omega) 5 0 0 (by omega) (by decide)
  · refine Ev.neg (by simpa using h) ?_
    rw [readVar, if_neg h]
    exact Ev.now _

theorem impl_SumMore_l1 (s : ByteArray) (i : Int) (h0 : 0 ≤ i) (h1 : i < 140737488355328) (r : Int) : ∀ (d : Nat) (j x : Int), j + d = 8 → 0 ≤ j → Ev (fun k => impl_SumMore.l0 k (sumN d x) s (i + 1)) r → Ev (fun k => impl_SumMore.l1 k x s i j) r := by
  intro d
  induction d with
  | zero =>
    intro j x hj hj0 h
    refine Ev.step (f := fun k => impl_SumMore.l0 k x s (i + 1)) (fun k => ?_) h
    rw [impl_SumMore.l1, if_neg (by omega), w64 (by omega) (by omega)]
  | succ d ih =>
    intro j x hj hj0 h
    refine Ev.step (f := fun k => impl_SumMore.l1 k (sum1 x) s i (j + 1)) (fun k => ?_) (ih (j + 1) (sum1 x) (by omega) (by omega) h)
    rw [impl_SumMore.l1, if_pos (by omega), w64 (by omega) (by omega), sum1]
    split <;> rfl
theorem impl_SumMore_l0 (s : ByteArray) (hs : s.size ≤ 140737488351232) : ∀ (l : List UInt8) (i : Nat) (x : Int), s.data.toList.drop i = l → i ≤ s.size → Ev (fun k => impl_SumMore.l0 k x s i) (sumMore x l) := by
  intro l
  induction l with
  | nil =>
    intro i x hl hi
    have := drop_none hl
    rw [sumMore_nil]
    refine Ev.step (f := fun _ => some x) (fun k => ?_) (Ev.now _)
    rw [impl_SumMore.l0, if_neg (by omega)]
  | cons c l ih =>
    intro i x hl hi
    obtain ⟨hb, hlt, hd⟩ := bt_drop hl
    refine Ev.step (f := fun k => impl_SumMore.l1 k (Go.bits .xor .u32 x ((c.toNat : Int) % 4294967296)) s i 0) (fun k => ?_) ?_
    · rw [impl_SumMore.l0, if_pos (by omega), if_pos (by omega), hb]
    · rw [sumMore_cons, feed]
      exact impl_SumMore_l1 s i (by omega) (by omega) _ 8 0 _ (by omega) (by omega) (ih (i + 1) _ hd (by omega))
theorem impl_SumMore_ev (x : Int) (s : ByteArray) (hs : s.size ≤ 140737488351232) : Ev (fun k => impl_SumMore.f k x s) (sumMore x s.data.toList) :=
  impl_SumMore_l0 s hs s.data.toList 0 x rfl (Nat.zero_le _)

theorem impl_SumOf_ev (s : ByteArray) (hs : s.size ≤ 140737488351232) : Ev (fun k => impl_SumOf.f k s) (sumOf s) := by
  unfold impl_SumOf.f
  exact Ev.bind (impl_SumMore_ev _ s hs) (Ev.now _)

theorem impl_Frame_ev (s : ByteArray) (hs : s.size ≤ 140737488351232) : Ev (fun k => impl_Frame.f k s) (frameOf s) := by
  unfold impl_Frame.f frameOf
  refine Ev.bind0 (impl_within_eq _ _ _) ?_
  by_cases h : 1 ≤ s.size ∧ s.size ≤ 9000
  · rw [if_pos h]
    refine Ev.pos (by rw [decide_eq_true_eq]; omega) ?_
    have hv := vl_len 2 s.size (by omega) (by omega)
    refine Ev.bind (impl_VarText_ev _) (Ev.bind (impl_SumOf_ev s hs) (Ev.bind0 (x := [(sumOf s / 16777216) % 256, (sumOf s / 65536) % 256, (sumOf s / 256) % 256, (sumOf s) % 256]) rfl ?_))
    rw [varText_yes (by omega) (by omega), Int.toNat_natCast]
    have e : strOfNums [(sumOf s / 16777216) % 256, (sumOf s / 65536) % 256, (sumOf s / 256) % 256, (sumOf s) % 256] = four (sumOf s) := rfl
    rw [e]
    refine Ev.pos (by rw [four_size, strOfNums_size]; omega) (Ev.pos (by rw [app_size, four_size, strOfNums_size]; omega) (Ev.now _))
  · rw [if_neg h]
    exact Ev.neg (by rw [decide_eq_true_eq]; omega) (Ev.now _)

theorem impl_Unframe_j1t (s : ByteArray) (acc : List ByteArray) (p n q : Int) : Ev (fun k => impl_Unframe.j1 k s acc p n q true) (acc, p) :=
  Ev.step (f := fun _ => some (acc, p)) (fun k => by rw [impl_Unframe.j1, if_pos rfl]) (Ev.now _)
theorem impl_Unframe_l0 (s : ByteArray) (hs : s.size ≤ 20000) : ∀ (f : Nat) (acc : List ByteArray) (p : Int), 0 ≤ p → p ≤ s.size → (s.size : Int) - p < f → (acc.length : Int) ≤ p →
    Ev (fun k => impl_Unframe.l0 k s acc p) (unfr f s acc p) := by
  intro f
  induction f with
  | zero => intro acc p h0 h1 h2 h3; omega
  | succ f ih =>
    intro acc p h0 h1 h2 h3
    unfold unfr
    refine Ev.succ ?_
    simp only [impl_Unframe.l0]
    refine Ev.bind (impl_ReadVar_ev s p (by omega)) ?_
    rcases readVar_cases s p with hr | ⟨n, m, hr, hn, hm, hp, hz, hl, hx⟩
    · rw [hr]
      exact Ev.tneg (fun h => absurd h.1 (by decide)) (Ev.neg (by decide) (impl_Unframe_j1t s acc p _ _))
    · rw [hr]
      dsimp only
      rw [w64 (n := (s.size : Int) - (p + (m : Int))) (by omega) (by omega), w64 (n := (s.size : Int) - (p + (m : Int)) - 4) (by omega) (by omega)]
      refine Ev.pos rfl ?_
      by_cases hc : (n : Int) ≤ (s.size : Int) - (p + (m : Int)) - 4
      · rw [show decide ((n : Int) > (s.size : Int) - (p + (m : Int)) - 4) = false from decide_eq_false (by omega)]
        refine Ev.succ ?_
        simp only [impl_Unframe.j1, w64 (n := p + (m : Int) + 4) (by omega) (by omega), w64 (n := p + (m : Int) + 4 + (n : Int)) (by omega) (by omega)]
        refine Ev.neg (by decide) (Ev.pos (by omega) (Ev.pos (by omega) (Ev.pos (by omega) (Ev.bind (impl_Frame_ev _ (by rw [ext_size _ _ _ (by omega)]; omega)) ?_))))
        by_cases hf : frameOf (s.extract (p + (m : Int) + 4).toNat (p + (m : Int) + 4 + (n : Int)).toNat) = (s.extract p.toNat (p + (m : Int) + 4 + (n : Int)).toNat, true)
        · refine Ev.tpos ⟨by trivial, hc, hf⟩ ?_
          rw [hf]
          refine Ev.pos rfl (Ev.pos (by omega) (Ev.pos (by omega) (Ev.pos rfl (Ev.pos (by omega) ?_))))
          exact ih _ _ (by omega) (by omega) (by omega) (by rw [List.length_append, List.length_singleton]; omega)
        · refine Ev.tneg (fun h => hf h.2.2) ?_
          by_cases h2 : (frameOf (s.extract (p + (m : Int) + 4).toNat (p + (m : Int) + 4 + (n : Int)).toNat)).2 = true
          · refine Ev.pos h2 (Ev.pos (by omega) (Ev.pos (by omega) (Ev.neg (fun he => hf ?_) (Ev.now _))))
            exact Prod.ext (toList_inj he) h2
          · exact Ev.neg h2 (Ev.now _)
      · rw [show decide ((n : Int) > (s.size : Int) - (p + (m : Int)) - 4) = true from decide_eq_true (by omega)]
        exact Ev.tneg (fun h => hc h.2.1) (impl_Unframe_j1t s acc p _ _)
theorem impl_Unframe_ev (s : ByteArray) : Ev (fun k => impl_Unframe.f k s) (unframe s) := by
  unfold impl_Unframe.f unframe
  by_cases h : s.size > 20000
  · rw [if_pos h]
    exact Ev.pos (by omega) (Ev.now _)
  · rw [if_neg h]
    exact Ev.neg (by omega) (impl_Unframe_l0 s (by omega) _ [] 0 (by omega) (by omega) (by omega) (by simp))

theorem laws_sameTexts_l0 (xs : List ByteArray) (hl : xs.length < 140737488355328) : ∀ (t : List ByteArray) (i : Nat), xs.drop i = t → i ≤ xs.length → Ev (fun k => laws_sameTexts.l0 k xs xs (i : Int)) true := by
  intro t
  induction t with
  | nil =>
    intro i ht hi
    have := drop_nil_len ht
    exact Ev.step (f := fun _ => some true) (fun k => by rw [laws_sameTexts.l0, if_neg (by omega)]) (Ev.now _)
  | cons a t ih =>
    intro i ht hi
    obtain ⟨h1, h2, h3⟩ := rdOf_drop (d := ByteArray.empty) ht
    refine Ev.step (f := fun k => laws_sameTexts.l0 k xs xs ((i + 1 : Nat) : Int)) (fun k => ?_) (ih (i + 1) h3 (by omega))
    rw [laws_sameTexts.l0, if_pos (by omega), if_pos (by omega), if_pos (by omega), if_pos rfl, w64 (by omega) (by omega)]
    rfl
theorem laws_sameTexts_ev (xs : List ByteArray) (hl : xs.length < 140737488355328) : Ev (fun k => laws_sameTexts.f k xs xs) true := by
  unfold laws_sameTexts.f
  exact Ev.pos rfl (laws_sameTexts_l0 xs hl xs 0 rfl (Nat.zero_le _))

theorem flat_take_le (rs : List ByteArray) (m : Nat) : ((rs.take m).flatMap frb).length ≤ (rs.flatMap frb).length := by
  conv => rhs; rw [← List.take_append_drop m rs, List.flatMap_append, List.length_append]
  omega
theorem unframe_cut (s : ByteArray) (rs : List ByteArray) (k : Nat) (hok : ∀ r ∈ rs, recOk r) (hk : k ≤ (rs.flatMap frb).length) (hs : s.data.toList = (rs.flatMap frb).take k) (hz : s.size ≤ 20000) :
    ∃ m, m ≤ rs.length ∧ unframe s = (rs.take m, (((rs.take m).flatMap frb).length : Int)) ∧ ((rs.take m).flatMap frb).length ≤ k ∧ (m = rs.length ∨ k < ((rs.take (m + 1)).flatMap frb).length) := by
  obtain ⟨m, h1, h2, h3, h4⟩ := unfr_cut s rs [] k (s.size + 1) [] hok hk hs (by simp)
  refine ⟨m, h1, ?_, h3, h4⟩
  unfold unframe
  rw [if_neg (by omega)]
  simpa using h2
theorem frames_last (p : List Int) (hp : p.length = 12) (hp2 : ∀ x ∈ p, 0 ≤ x ∧ x < 10000) (r two three s : ByteArray) (ends : List Int) (h1 : recOk r) (h2 : recOk two) (h3 : recOk three)
    (hs : s.data.toList = [r, two, three].flatMap frb) (hz : s.size ≤ 20000) (he : ends = [0, ((frb r).length : Int), (((frb r).length + (frb two).length : Nat) : Int), (((frb r).length + ((frb two).length + (frb three).length) : Nat) : Int)]) :
    Ev (fun k => laws_FnFrames.l0 k p [r, two, three] s ends 3) true := by
  have hok : ∀ x ∈ [r, two, three], recOk x := by
    intro x hx
    simp only [List.mem_cons, List.not_mem_nil, or_false] at hx
    rcases hx with rfl | rfl | rfl
    · exact h1
    · exact h2
    · exact h3
  have hsz : s.size = ([r, two, three].flatMap frb).length := by rw [← size_len, hs]
  refine Ev.succ ?_
  simp only [laws_FnFrames.l0]
  refine Ev.neg (by simp) (Ev.bind (impl_Unframe_ev s) ?_)
  obtain ⟨m, m1, m2, m3, m4⟩ := unframe_cut s [r, two, three] ([r, two, three].flatMap frb).length hok (Nat.le_refl _) (by rw [List.take_length]; exact hs) hz
  have hm : m = 3 := by
    rcases m4 with m4 | m4
    · simpa using m4
    · have := flat_take_le [r, two, three] (m + 1)
      omega
  subst hm
  rw [show List.take 3 [r, two, three] = [r, two, three] from rfl] at m2
  rw [m2]
  refine Ev.pos (by rw [hsz]) (Ev.bind (laws_sameTexts_ev _ (by simp)) ?_)
  refine Ev.succ ?_
  simp only [laws_FnFrames.j3]
  have hr0 : 0 ≤ rd p 0 ∧ rd p 0 < 10000 := by
    have e := rd_get (xs := p) (i := 0) (by omega)
    rw [show ((0 : Nat) : Int) = 0 from rfl] at e
    rw [e]
    exact hp2 _ (List.getElem_mem _)
  rw [w64 (n := (s.size : Int) + 1) (by omega) (by omega), tmodp hr0.1]
  have hq0 : 0 ≤ rd p 0 % ((s.size : Int) + 1) := Int.emod_nonneg _ (by omega)
  have hq1 : rd p 0 % ((s.size : Int) + 1) < (s.size : Int) + 1 := Int.emod_lt_of_pos _ (by omega)
  generalize rd p 0 % ((s.size : Int) + 1) = q at hq0 hq1
  refine Ev.neg (by decide) (Ev.pos (by omega) (Ev.neg (by omega) (Ev.pos hq0 (Ev.pos (by omega) (Ev.bind (impl_Unframe_ev _) ?_)))))
  obtain ⟨m, n1, n2, n3, n4⟩ := unframe_cut (s.extract 0 q.toNat) [r, two, three] q.toNat hok (by omega) (by rw [ext_data, List.drop_zero, Nat.sub_zero, hs]) (by rw [ext_size _ _ _ (by omega)]; omega)
  rw [n2]
  have hl : (List.take m [r, two, three]).length = m := by rw [List.length_take]; exact Nat.min_eq_left n1
  dsimp only
  rw [hl]
  have hm3 : m ≤ 3 := by simpa using n1
  have hend : rd ends (m : Int) = (((List.take m [r, two, three]).flatMap frb).length : Int) := by
    rw [he]
    match m, hm3 with
    | 0, _ => rfl
    | 1, _ => simp [rd]
    | 2, _ => simp [rd]
    | 3, _ => simp [rd]
    | m + 4, h => omega
  have hel : ends.length = 4 := by rw [he]; rfl
  refine Ev.pos (by omega) (Ev.pos (by omega) (Ev.pos (by omega) (Ev.pos hend.symm (Ev.pos (by omega) (Ev.pos (by simp; omega) ?_)))))
  rw [Int.toNat_natCast]
  refine Ev.bind (laws_sameTexts_ev _ (by rw [hl]; omega)) (Ev.pos rfl ?_)
  by_cases h3 : m = 3
  · exact Ev.pos (by omega) (Ev.now _)
  · refine Ev.neg (by omega) ?_
    rw [w64 (n := (m : Int) + 1) (by omega) (by omega)]
    refine Ev.pos (by omega) (Ev.pos (by omega) (Ev.ret ?_))
    have hend2 : rd ends ((m : Int) + 1) = (((List.take (m + 1) [r, two, three]).flatMap frb).length : Int) := by
      rw [he]
      match m, hm3 with
      | 0, _ => simp [rd]
      | 1, _ => simp [rd]
      | 2, _ => simp [rd]
      | 3, _ => exact absurd rfl h3
      | m + 4, h => omega
    rw [hend2, decide_eq_true_eq]
    rcases n4 with n4 | n4
    · exact absurd n4 h3
    · omega
theorem frames_main (p : List Int) (hp : p.length = 12) (hp2 : ∀ x ∈ p, 0 ≤ x ∧ x < 10000) (r two three : ByteArray) (h1 : 1 ≤ r.size ∧ r.size ≤ 900) (h2 : 1 ≤ two.size ∧ two.size ≤ 900) (h3 : 1 ≤ three.size ∧ three.size ≤ 900) :
    Ev (fun k => laws_FnFrames.j1 k p [r, two, three]) true := by
  have ok1 : recOk r := ⟨h1.1, by omega⟩
  have ok2 : recOk two := ⟨h2.1, by omega⟩
  have ok3 : recOk three := ⟨h3.1, by omega⟩
  have l1 := frb_length r
  have l2 := frb_length two
  have l3 := frb_length three
  have v1 := vl_len 2 r.size (by omega) (by omega)
  have v2 := vl_len 2 two.size (by omega) (by omega)
  have v3 := vl_len 2 three.size (by omega) (by omega)
  have z : ∀ x : ByteArray, (strOfNums (vl x.size) ++ four (sumOf x) ++ x).size = (frb x).length := fun x => by rw [frb, size_len]
  refine Ev.step (f := fun k => laws_FnFrames.l0 k p [r, two, three] (⟨#[]⟩ : ByteArray) [0] 0) (fun k => by rw [laws_FnFrames.j1]) ?_
  refine Ev.succ ?_
  simp only [laws_FnFrames.l0]
  refine Ev.pos (by simp) (Ev.pos (by decide) (Ev.bind (impl_Frame_ev _ (by simp [rdOf]; omega)) ?_))
  rw [show rdOf ByteArray.empty [r, two, three] 0 = r from rfl, frame_yes ok1]
  refine Ev.pos rfl (Ev.pos (by dsimp only; rw [z, show (⟨#[]⟩ : ByteArray).size = 0 from rfl]; omega) (Ev.pos (by simp) ?_))
  rw [w64 (n := 0 + 1) (by omega) (by omega)]
  refine Ev.succ ?_
  simp only [laws_FnFrames.l0]
  refine Ev.pos (by simp) (Ev.pos (by decide) (Ev.bind (impl_Frame_ev _ (by simp [rdOf]; omega)) ?_))
  rw [show rdOf ByteArray.empty [r, two, three] (0 + 1) = two from rfl, frame_yes ok2]
  refine Ev.pos rfl (Ev.pos (by dsimp only; rw [app_size, z, z, show (⟨#[]⟩ : ByteArray).size = 0 from rfl]; omega) (Ev.pos (by simp) ?_))
  rw [w64 (n := 0 + 1 + 1) (by omega) (by omega)]
  refine Ev.succ ?_
  simp only [laws_FnFrames.l0]
  refine Ev.pos (by simp) (Ev.pos (by decide) (Ev.bind (impl_Frame_ev _ (by simp [rdOf]; omega)) ?_))
  rw [show rdOf ByteArray.empty [r, two, three] (0 + 1 + 1) = three from rfl, frame_yes ok3]
  refine Ev.pos rfl (Ev.pos (by dsimp only; rw [app_size, app_size, z, z, z, show (⟨#[]⟩ : ByteArray).size = 0 from rfl]; omega) (Ev.pos (by simp) ?_))
  rw [w64 (n := 0 + 1 + 1 + 1) (by omega) (by omega)]
  dsimp only
  have z0 : (⟨#[]⟩ : ByteArray).size = 0 := rfl
  refine frames_last p hp hp2 r two three _ _ ok1 ok2 ok3 ?_ ?_ ?_
  · simp only [app_data _ three, app_data _ two, app_data _ r, app_data, List.flatMap_cons, List.flatMap_nil, List.append_nil, frb, List.append_assoc]
    rfl
  · rw [app_size, app_size, app_size, z, z, z, z0]; omega
  · simp only [app_size _ (strOfNums (vl three.size) ++ four (sumOf three) ++ three), app_size _ (strOfNums (vl two.size) ++ four (sumOf two) ++ two), app_size _ (strOfNums (vl r.size) ++ four (sumOf r) ++ r), z, z0, Nat.zero_add, Nat.add_assoc]
    rfl
theorem FnFrames : laws_FnFrames.Pure := by
  intro l0 h0 h1 h2
  refine Ev.rounds (r := true) ?_
  unfold laws_FnFrames.f
  refine Ev.bind0 (laws_big_eq l0) ?_
  by_cases hb : (l0.length : Int) > 1048576
  · exact Ev.pos (by simpa using hb) (Ev.now _)
  refine Ev.neg (by simpa using hb) ?_
  obtain ⟨p, ep, hp1, hp2⟩ := spec_DrawPlaces_ev l0 (by omega)
  obtain ⟨t, et, ht⟩ := spec_DrawHex_ev l0 (by omega)
  refine Ev.bind ep (Ev.bind et (Ev.bind0 rfl (Ev.pos (by simp) ?_)))
  rw [show rdOf ByteArray.empty [t, (⟨#[116, 119, 111]⟩ : ByteArray), (⟨#[116, 104, 114, 101, 101, 32, 97, 110, 100, 32, 109, 111, 114, 101]⟩ : ByteArray)] 0 = t from rfl]
  have z2 : (⟨#[116, 119, 111]⟩ : ByteArray).size = 3 := rfl
  have z3 : (⟨#[116, 104, 114, 101, 101, 32, 97, 110, 100, 32, 109, 111, 114, 101]⟩ : ByteArray).size = 14 := rfl
  have z1 : (⟨#[111, 110, 101]⟩ : ByteArray).size = 3 := rfl
  have one : Ev (fun k => laws_FnFrames.j0 k p [t, (⟨#[116, 119, 111]⟩ : ByteArray), (⟨#[116, 104, 114, 101, 101, 32, 97, 110, 100, 32, 109, 111, 114, 101]⟩ : ByteArray)] true) true := by
    refine Ev.succ ?_
    simp only [laws_FnFrames.j0]
    exact Ev.pos (by trivial) (Ev.pos (by simp) (frames_main p hp1 hp2 (⟨#[111, 110, 101]⟩ : ByteArray) _ _ (by omega) (by omega) (by omega)))
  by_cases ht0 : (t.size : Int) = 0
  · exact Ev.pos ht0 one
  · refine Ev.neg ht0 ?_
    by_cases ht9 : (t.size : Int) > 900
    · rw [decide_eq_true ht9]
      exact one
    · rw [decide_eq_false ht9]
      refine Ev.succ ?_
      simp only [laws_FnFrames.j0]
      exact Ev.neg (by decide) (frames_main p hp1 hp2 t _ _ (by omega) (by omega) (by omega))

end Go.Proofs.Ytmfjnmkkhfpboaa.Pure
