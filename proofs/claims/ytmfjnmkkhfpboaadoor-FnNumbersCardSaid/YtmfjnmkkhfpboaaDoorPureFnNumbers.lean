/- For every row of bytes the drawn number comes back from VarText and from Decimal, the drawn text from ShortText and Hex. -/
import Derived.Test.YtmfjnmkkhfpboaaDoorOFnNumbersx4
import Derived.Test.YtmfjnmkkhfpboaaDoorBase
import Derived.Test.YtmfjnmkkhfpboaaDoorBase2
import Derived.Test.YtmfjnmkkhfpboaaDoorBase3
namespace Go.Proofs.YtmfjnmkkhfpboaaDoor.Pure
open Go.RowKit Go.Proofs.YtmfjnmkkhfpboaaDoor.PFnNumbers Go.Proofs.YtmfjnmkkhfpboaaDoorW.PrintWords Go.Proofs.YtmfjnmkkhfpboaaDoorW.PrintLast Go.Proofs.YtmfjnmkkhfpboaaDoor.Base
set_option linter.unusedVariables false
set_option linter.unusedSimpArgs false

theorem impl_within_eq (a b c : Int) : impl_within.f a b c = some (decide (b ≤ a ∧ a ≤ c)) := by
  unfold impl_within.f
  by_cases h : b ≤ a <;> simp [h]

theorem impl_VarText_l0 : ∀ (n : Nat) (acc : List Int), acc.length + n < 140737488355327 → Ev (fun k => impl_VarText.l0 k (n : Int) acc) (strOfNums (acc ++ vl n), true) := by
  intro n
  induction n using Nat.strongRecOn with
  | _ n ih =>
    intro acc h
    by_cases hn : n > 127
    · refine Ev.step (f := fun k => impl_VarText.l0 k ((n / 128 : Nat) : Int) (acc ++ [((n % 128 + 128 : Nat) : Int)])) (fun k => ?_) ?_
      · rw [impl_VarText.l0, if_pos (by omega), if_pos (by omega), quo128 (by omega), rem128]
      · have e := ih (n / 128) (by omega) (acc ++ [((n % 128 + 128 : Nat) : Int)]) (by rw [List.length_append, List.length_singleton]; omega)
        rw [vl_big hn]
        rwa [List.append_assoc] at e
    · refine Ev.step (f := fun _ => some (strOfNums (acc ++ vl n), true)) (fun k => ?_) (Ev.now _)
      rw [impl_VarText.l0, if_neg (by omega), if_pos (by omega), vl_small hn, show (n : Int) % 256 = (n : Int) from by omega]
theorem impl_VarText_ev (a : Int) : Ev (fun k => impl_VarText.f k a) (varText a) := by
  unfold impl_VarText.f
  refine Ev.bind0 (impl_within_eq _ _ _) ?_
  by_cases h : 0 ≤ a ∧ a ≤ 1000000000
  · refine Ev.pos (by simpa using h) ?_
    rw [varText_yes h.1 h.2]
    obtain ⟨n, rfl⟩ := Int.eq_ofNat_of_zero_le h.1
    exact impl_VarText_l0 n [] (by simp; omega)
  · refine Ev.neg (by simpa using h) (Ev.ret (varText_no h).symm)

theorem impl_ReadVar_l0 (s : ByteArray) (p : Nat) (hs : s.size ≤ 140737488351232) (hp : p ≤ s.size) : ∀ (f j n : Nat), f + j = 5 → n < 128 ^ j →
    Ev (fun k => impl_ReadVar.l0 k s (p : Int) (n : Int) (j : Int)) (rvI p n (128 ^ j) j (dig f (s.data.toList.drop (p + j)))) := by
  intro f
  induction f with
  | zero =>
    intro j n hf hn
    refine Ev.step (f := fun k => impl_ReadVar.j1 k s (p : Int) (n : Int) (j : Int) false) (fun k => ?_) ?_
    · rw [impl_ReadVar.l0, if_neg (by omega)]
    · exact Ev.step (f := fun _ => some noVar) (fun k => by rw [impl_ReadVar.j1, if_neg (by decide)]; rfl) (Ev.now _)
  | succ f ih =>
    intro j n hf hn
    have hsc1 : 128 ^ j * 128 ≤ 34359738368 := by
      have h5 : 128 ^ (j + 1) ≤ 128 ^ 5 := Nat.pow_le_pow_right (by decide) (by omega)
      rw [← Nat.pow_succ]
      exact Nat.le_trans h5 (by decide)
    cases hl : s.data.toList.drop (p + j) with
    | nil =>
      have hz := drop_none hl
      refine Ev.step (f := fun k => impl_ReadVar.j1 k s (p : Int) (n : Int) (j : Int) false) (fun k => ?_) ?_
      · rw [impl_ReadVar.l0, if_pos (by omega), w64 (by omega) (by omega), show decide ((p : Int) + (j : Int) < (s.size : Int)) = false from decide_eq_false (by omega)]
      · exact Ev.step (f := fun _ => some noVar) (fun k => by rw [impl_ReadVar.j1, if_neg (by decide)]; rfl) (Ev.now _)
    | cons c l =>
      obtain ⟨hb, hlt, hd⟩ := bt_drop hl
      have hc : c.toNat < 256 := c.toNat_lt
      refine Ev.step (f := fun k => impl_ReadVar.j1 k s (p : Int) (n : Int) (j : Int) true) (fun k => ?_) ?_
      · rw [impl_ReadVar.l0, if_pos (by omega), w64 (by omega) (by omega), show decide ((p : Int) + (j : Int) < (s.size : Int)) = true from decide_eq_true (by omega)]
      refine Ev.succ ?_
      have hsum := rv_lt (c := c.toNat) hn
      rw [Int.natCast_add] at hb
      have et : wrap64 ((n : Int) + ((c.toNat % 128 * 128 ^ j : Nat) : Int)) = ((n + c.toNat % 128 * 128 ^ j : Nat) : Int) := by
        generalize c.toNat % 128 * 128 ^ j = t at *
        rw [w64 (by omega) (by omega), Int.natCast_add]
      have hs7 := shl7 (c := c.toNat) (j := j) hc (by omega)
      simp only [impl_ReadVar.j1, w64 (n := (p : Int) + (j : Int)) (by omega) (by omega), hb, hs7, et, w64 (n := (p : Int) + (j : Int) + 1) (by omega) (by omega), w64 (n := (j : Int) + 1) (by omega) (by omega), w64 (n := 7 * (j : Int)) (by omega) (by omega), w64 (n := (c.toNat : Int)) (by omega) (by omega)]
      refine Ev.pos (by trivial) (Ev.pos (by omega) (Ev.pos (by omega) (Ev.pos (by omega) ?_)))
      by_cases hc1 : c.toNat < 128
      · rw [dig_small hc1]
        have e0 : c.toNat % 128 * 128 ^ j = 128 ^ j * c.toNat := by rw [Nat.mod_eq_of_lt hc1, Nat.mul_comm]
        rw [e0] at hsum ⊢
        simp only [rvI]
        generalize n + 128 ^ j * c.toNat = t at *
        refine Ev.pos (by omega) (Ev.bind (impl_VarText_ev _) ?_)
        by_cases hmax : t ≤ 1000000000
        · rw [varText_yes (by omega) (by omega), Int.toNat_natCast]
          refine Ev.pos (by trivial) ?_
          rw [strOfNums_size]
          by_cases he : (vl t).length = j + 1
          · refine Ev.tpos ⟨hmax, he⟩ (Ev.pos (by omega) (Ev.ret ?_))
            rw [Int.natCast_add, Int.natCast_add]; rfl
          · exact Ev.tneg (fun h => he h.2) (Ev.neg (by omega) (Ev.now _))
        · rw [varText_no (by omega)]
          exact Ev.tneg (fun h => hmax h.1) (Ev.neg (by simp) (Ev.now _))
      · rw [dig_big hc1, rvI_next]
        refine Ev.neg (by omega) ?_
        have e := ih (j + 1) (n + c.toNat % 128 * 128 ^ j) (by omega) (by rw [Nat.pow_succ]; exact hsum)
        rw [← Nat.add_assoc, hd, Nat.pow_succ, show ((j + 1 : Nat) : Int) = (j : Int) + 1 from by omega] at e
        exact e
theorem impl_ReadVar_ev (s : ByteArray) (p : Int) (hs : s.size ≤ 140737488351232) : Ev (fun k => impl_ReadVar.f k s p) (readVar s p) := by
  unfold impl_ReadVar.f
  refine Ev.bind0 (impl_within_eq _ _ _) ?_
  by_cases h : 0 ≤ p ∧ p ≤ s.size
  · refine Ev.pos (by simpa using h) ?_
    obtain ⟨p, rfl⟩ := Int.eq_ofNat_of_zero_le h.1
    rw [← rvI_top s p (by omega)]
    exact impl_ReadVar_l0 s p hs (by omega) 5 0 0 (by omega) (by decide)
  · refine Ev.neg (by simpa using h) ?_
    rw [readVar, if_neg h]
    exact Ev.now _

theorem impl_ReadShort_ev (s : ByteArray) (p : Int) (hs : s.size ≤ 140737488351232) : Ev (fun k => impl_ReadShort.f k s p) (readShort s p) := by
  unfold impl_ReadShort.f readShort
  refine Ev.bind (impl_ReadVar_ev s p hs) ?_
  rcases readVar_cases s p with h | ⟨n, m, h, hn, hm, hp, hz, hl, hx⟩
  · rw [h]
    exact Ev.neg (by simp) (Ev.now _)
  · rw [h]
    refine Ev.pos (by trivial) (Ev.tpos (by trivial) ?_)
    dsimp only
    rw [w64 (n := (s.size : Int) - (p + (m : Int))) (by omega) (by omega)]
    by_cases h1 : (n : Int) > 20000
    · exact Ev.tpos (.inl h1) (Ev.pos h1 (Ev.now _))
    by_cases h2 : (n : Int) > (s.size : Int) - (p + (m : Int))
    · exact Ev.tpos (.inr h2) (Ev.neg h1 (Ev.pos h2 (Ev.now _)))
    refine Ev.tneg (fun h => h.elim h1 h2) (Ev.neg h1 (Ev.neg h2 ?_))
    rw [w64 (n := p + (m : Int) + (n : Int)) (by omega) (by omega)]
    exact Ev.pos (by omega) (Ev.pos (by omega) (Ev.pos (by omega) (Ev.now _)))

theorem impl_ShortText_ev (s : ByteArray) : Ev (fun k => impl_ShortText.f k s) (shortText s) := by
  unfold impl_ShortText.f shortText
  by_cases h : s.size > 20000
  · rw [if_pos h]
    exact Ev.pos (by omega) (Ev.now _)
  · rw [if_neg h]
    have hv := vl_len 3 s.size (by omega) (by omega)
    refine Ev.neg (by omega) (Ev.bind (impl_VarText_ev _) ?_)
    rw [varText_yes (by omega) (by omega), Int.toNat_natCast]
    exact Ev.pos (by rw [strOfNums_size]; omega) (Ev.now _)

theorem impl_Hex_l0 (s : ByteArray) (hs : s.size ≤ 20000) : ∀ (l : List UInt8) (i : Nat) (acc : List Int), s.data.toList.drop i = l → acc.length = 2 * i → Ev (fun k => impl_Hex.l0 k s acc (i : Int)) (strOfNums (acc ++ hexl l), true) := by
  intro l
  induction l with
  | nil =>
    intro i acc hl ha
    have := drop_none hl
    refine Ev.step (f := fun _ => some (strOfNums (acc ++ hexl []), true)) (fun k => ?_) (Ev.now _)
    rw [impl_Hex.l0, if_neg (by omega), hexl, List.append_nil]
  | cons c l ih =>
    intro i acc hl ha
    obtain ⟨hb, hlt, hd⟩ := bt_drop hl
    have hc : c.toNat < 256 := c.toNat_lt
    refine Ev.succ ?_
    simp only [impl_Hex.l0, hb]
    rw [tdivp (by omega), tmodp (by omega), show (c.toNat : Int) / 16 % 256 = ((c.toNat / 16 : Nat) : Int) from by omega, show (c.toNat : Int) % 16 = ((c.toNat % 16 : Nat) : Int) from by omega, w64 (n := (i : Int) + 1) (by omega) (by omega)]
    refine Ev.pos (by omega) (Ev.pos (by omega) (Ev.pos (by omega) (Ev.pos (by omega) (Ev.pos (by omega) (Ev.pos (by omega) (Ev.bind0 rfl (Ev.pos (by simp; omega) ?_)))))))
    have e := ih (i + 1) (acc ++ [fig (c.toNat / 16), fig (c.toNat % 16)]) hd (by simp; omega)
    rw [List.append_assoc] at e
    rw [← hexTab_bt (x := c.toNat / 16) (by omega), ← hexTab_bt (x := c.toNat % 16) (by omega)] at e
    rw [hexl, ← hexTab_bt (x := c.toNat / 16) (by omega), ← hexTab_bt (x := c.toNat % 16) (by omega)]
    exact e
theorem impl_Hex_ev (s : ByteArray) : Ev (fun k => impl_Hex.f k s) (hexOf s) := by
  unfold impl_Hex.f hexOf
  by_cases h : s.size > 20000
  · rw [if_pos h]
    exact Ev.pos (by omega) (Ev.now _)
  · rw [if_neg h]
    exact Ev.neg (by omega) (impl_Hex_l0 s (by omega) _ 0 [] rfl rfl)

def hv (c : UInt8) : Int := if 48 ≤ c.toNat ∧ c.toNat ≤ 57 then (c.toNat : Int) - 48 else if 97 ≤ c.toNat ∧ c.toNat ≤ 102 then (c.toNat : Int) - 87 else -1
theorem hv_range (c : UInt8) : -1 ≤ hv c ∧ hv c ≤ 15 := by unfold hv; split <;> (try split) <;> omega
def unhexL : List UInt8 → Option (List Int)
  | x :: y :: t => if hv x < 0 ∨ hv y < 0 then none else (unhexL t).map fun r => (16 * hv x + hv y) :: r
  | _ => some []
def unhexEnd (acc : List Int) : Option (List Int) → ByteArray × Bool
  | none => noText
  | some r => (strOfNums (acc ++ r), true)
theorem unhex_bad {x y : UInt8} {t : List UInt8} (acc : List Int) (h : hv x < 0 ∨ hv y < 0) : unhexEnd acc (unhexL (x :: y :: t)) = noText := by rw [unhexL, if_pos h]; rfl
theorem unhex_good {x y : UInt8} {t : List UInt8} (acc : List Int) (h : ¬ (hv x < 0 ∨ hv y < 0)) : unhexEnd acc (unhexL (x :: y :: t)) = unhexEnd (acc ++ [16 * hv x + hv y]) (unhexL t) := by
  rw [unhexL, if_neg h]
  cases unhexL t with
  | none => rfl
  | some r => simp [unhexEnd]
def unhexOf (s : ByteArray) : ByteArray × Bool := if s.size > 40000 ∨ s.size % 2 = 1 then noText else unhexEnd [] (unhexL s.data.toList)
theorem hex_index : ∀ c : Fin 256, Lib.indexByte hexTab.data.toList (UInt8.ofNat c.val) = hv (UInt8.ofNat c.val) := by decide +kernel
theorem strings_IndexByte_hex (c : UInt8) : strings_IndexByte.f hexTab (c.toNat : Int) = some (hv c) := by
  unfold strings_IndexByte.f
  have e := hex_index ⟨c.toNat, c.toNat_lt⟩
  have h : (((c.toNat : Int)).toNat.toUInt8) = c := by rw [Int.toNat_natCast]; exact UInt8.ofNat_toNat
  rw [h]
  have h2 : UInt8.ofNat c.toNat = c := UInt8.ofNat_toNat
  simp only [h2] at e
  rw [e]
theorem impl_Unhex_l0 (s : ByteArray) (hs : s.size ≤ 40000) : ∀ (n : Nat) (l : List UInt8) (i : Nat) (acc : List Int) (h0 : Int), l.length = 2 * n → s.data.toList.drop i = l → acc.length ≤ i → i % 2 = 0 → Ev (fun k => impl_Unhex.l0 k s acc h0 (i : Int)) (unhexEnd acc (unhexL l)) := by
  intro n
  induction n with
  | zero =>
    intro l i acc h0 hl hd ha hi
    have hz : l = [] := List.length_eq_zero_iff.1 (by omega)
    subst hz
    have := drop_none hd
    refine Ev.step (f := fun _ => some (strOfNums acc, true)) (fun k => by rw [impl_Unhex.l0, if_neg (by omega)]) (Ev.ret ?_)
    rw [unhexL, unhexEnd, List.append_nil]
    intro x y t h; cases h
  | succ n ih =>
    intro l i acc h0 hl hd ha hi
    match l, hl with
    | [], hl => simp at hl
    | [x], hl => simp at hl; omega
    | x :: y :: t, hl =>
      obtain ⟨b1, l1, d1⟩ := bt_drop hd
      obtain ⟨b2, l2, d2⟩ := bt_drop d1
      have rx := hv_range x
      have ry := hv_range y
      have ex := strings_IndexByte_hex x
      have ey := strings_IndexByte_hex y
      unfold hexTab at ex ey
      refine Ev.succ ?_
      simp only [impl_Unhex.l0, w64 (n := (i : Int) + 1) (by omega) (by omega), b1]
      refine Ev.pos (by omega) (Ev.pos (by omega) (Ev.bind0 ex ?_))
      by_cases h1 : hv x < 0
      · exact Ev.pos h1 (Ev.ret (unhex_bad acc (.inl h1)).symm)
      rw [tmodp (by omega)]
      refine Ev.neg h1 (Ev.neg (by omega) (Ev.succ ?_))
      rw [show ((i : Int) + 1) = ((i + 1 : Nat) : Int) from by omega]
      simp only [impl_Unhex.l0, w64 (n := ((i + 1 : Nat) : Int) + 1) (by omega) (by omega), b2]
      refine Ev.pos (by omega) (Ev.pos (by omega) (Ev.bind0 ey ?_))
      by_cases h2 : hv y < 0
      · exact Ev.pos h2 (Ev.ret (unhex_bad acc (.inr h2)).symm)
      rw [unhex_good acc (by omega), tmodp (by omega)]
      refine Ev.neg h2 (Ev.pos (by omega) (Ev.pos (by omega) ?_))
      rw [w64 (n := 16 * hv x) (by omega) (by omega), w64 (n := 16 * hv x + hv y) (by omega) (by omega), show (16 * hv x + hv y) % 256 = 16 * hv x + hv y from by omega]
      have e := ih t (i + 2) (acc ++ [16 * hv x + hv y]) (hv y) (by simp at hl; omega) (by rw [← d2]) (by rw [List.length_append, List.length_singleton]; omega) (by omega)
      exact e
theorem impl_Unhex_ev (s : ByteArray) : Ev (fun k => impl_Unhex.f k s) (unhexOf s) := by
  have hno : Ev (fun k => impl_Unhex.j0 k s true) noText := Ev.step (f := fun _ => some noText) (fun k => by rw [impl_Unhex.j0, if_pos rfl]; rfl) (Ev.now _)
  unfold impl_Unhex.f unhexOf
  by_cases h2 : s.size % 2 = 1
  · rw [if_pos (.inr h2)]
    exact Ev.pos (by omega) hno
  refine Ev.neg (by omega) ?_
  by_cases h1 : s.size > 40000
  · rw [if_pos (.inl h1), decide_eq_true (by omega)]
    exact hno
  · rw [if_neg (by omega), decide_eq_false (by omega)]
    exact Ev.step (fun k => by rw [impl_Unhex.j0, if_neg (by decide)]; rfl) (impl_Unhex_l0 s (by omega) (s.size / 2) s.data.toList 0 [] 0 (by rw [size_len]; omega) rfl (Nat.le_refl _) rfl)

theorem laws_big_eq (l : List Int) : laws_big.f l = some (decide ((l.length : Int) > 1048576)) := rfl
theorem spec_l01New_l0 (l : List Int) (hl : l.length ≤ 1048576) : ∀ (d : Nat) (x i : Int), 0 ≤ i → (l.length : Int) - i ≤ d → ∃ h, Ev (fun k => spec_l01New.l0 k l x i) (l, 0, h) := by
  intro d
  induction d with
  | zero =>
    intro x i h0 hd
    exact ⟨x, Ev.step (f := fun _ => some (l, 0, x)) (fun k => by rw [spec_l01New.l0, if_neg (by omega)]) (Ev.now _)⟩
  | succ d ih =>
    intro x i h0 hd
    by_cases h1 : i < (l.length : Int)
    · by_cases h2 : i < 4000
      · obtain ⟨h, e⟩ := ih (Go.bits .and .i64 (wrap64 ((wrap64 ((wrap64 (x * 131)) + (wrap64 (rd l i)))) + 7)) 1073741823) (i + 1) (by omega) (by omega)
        refine ⟨h, Ev.step (fun k => ?_) e⟩
        rw [spec_l01New.l0, if_pos h1, if_pos h2, if_pos h0, w64 (n := i + 1) (by omega) (by omega)]
      · exact ⟨x, Ev.step (f := fun _ => some (l, 0, x)) (fun k => by rw [spec_l01New.l0, if_pos h1, if_neg h2]) (Ev.now _)⟩
    · exact ⟨x, Ev.step (f := fun _ => some (l, 0, x)) (fun k => by rw [spec_l01New.l0, if_neg h1]) (Ev.now _)⟩
theorem spec_l01New_ev (l : List Int) (hl : l.length ≤ 1048576) : ∃ h, Ev (fun k => spec_l01New.f k l) (l, 0, h) := by
  obtain ⟨h, e⟩ := spec_l01New_l0 l hl l.length (wrap64 (12701 + (l.length : Int))) 0 (by omega) (by omega)
  exact ⟨h, e⟩
/-- The cursor stands within the draw. -/
def cur (l : List Int) (i : Int) : Prop := 0 ≤ i ∧ i ≤ l.length ∧ l.length ≤ 1048576
theorem spec_l01Byte_some {l : List Int} {i : Int} (h : Int) (hc : cur l i) : ∃ b i' h', spec_l01Byte.f l i h = some (b, i', h') ∧ 0 ≤ b ∧ b ≤ 255 ∧ cur l i' := by
  obtain ⟨h0, h1, h2⟩ := hc
  unfold spec_l01Byte.f
  by_cases hlt : i < (l.length : Int)
  · rw [if_pos hlt, if_pos h0]
    exact ⟨_, _, _, rfl, (and255 _).1, (and255 _).2, by rw [w64 (by omega) (by omega)]; omega, by rw [w64 (by omega) (by omega)]; omega, h2⟩
  · rw [if_neg hlt]
    exact ⟨_, _, _, rfl, (and255 _).1, (and255 _).2, h0, h1, h2⟩
theorem spec_l01Below_some {l : List Int} {i : Int} (h n : Int) (hn : n ≤ 9223372036854775807) (hc : cur l i) : ∃ x i' h', spec_l01Below.f l i h n = some (x, i', h') ∧ cur l i' ∧ (n ≤ 0 → x = 0) ∧ (0 < n → 0 ≤ x ∧ x < n) := by
  unfold spec_l01Below.f
  by_cases h1 : n ≤ 0
  · rw [if_pos h1]
    exact ⟨_, _, _, rfl, hc, fun _ => rfl, fun _ => by omega⟩
  rw [if_neg h1]
  by_cases h2 : n ≤ 256
  · rw [if_pos h2]
    obtain ⟨b, i', h', e, b0, b1, c'⟩ := spec_l01Byte_some h hc
    rw [e, Option.bind_some, if_neg (by omega)]
    exact ⟨_, _, _, rfl, c', fun _ => by omega, fun _ => by rw [tmodp b0]; exact ⟨Int.emod_nonneg _ (by omega), Int.emod_lt_of_pos _ (by omega)⟩⟩
  · rw [if_neg h2]
    obtain ⟨b, i1, h1', e1, b0, b1, c1⟩ := spec_l01Byte_some h hc
    obtain ⟨b2, i2, h2', e2, b20, b21, c2⟩ := spec_l01Byte_some h1' c1
    obtain ⟨b3, i3, h3', e3, b30, b31, c3⟩ := spec_l01Byte_some h2' c2
    obtain ⟨b4, i4, h4', e4, b40, b41, c4⟩ := spec_l01Byte_some h3' c3
    rw [e1, Option.bind_some, e2, Option.bind_some, e3, Option.bind_some, e4, Option.bind_some, if_neg (by omega)]
    have hw : 0 ≤ wrap64 (wrap64 (wrap64 (wrap64 (b * 16777216) + wrap64 (b2 * 65536)) + wrap64 (b3 * 256)) + b4) := by unfold wrap64; omega
    exact ⟨_, _, _, rfl, c4, fun _ => by omega, fun _ => by rw [tmodp hw]; exact ⟨Int.emod_nonneg _ (by omega), Int.emod_lt_of_pos _ (by omega)⟩⟩

theorem spec_l01Text_l0 (l : List Int) (n : Int) (hn : n ≤ 5000) : ∀ (d : Nat) (j : Int) (acc : List Int) (i h : Int), cur l i → n - j ≤ d → 0 ≤ j → (acc.length : Int) = j → (j ≤ n ∨ j = 0) →
    ∃ t i' h', Ev (fun k => spec_l01Text.l0 k n acc j l i h) (t, i', h') ∧ cur l i' ∧ (t.size : Int) = max 0 n := by
  intro d
  induction d with
  | zero =>
    intro j acc i h hc hj h0 ha hr
    exact ⟨_, i, h, Ev.step (f := fun _ => some (strOfNums acc, i, h)) (fun k => by rw [spec_l01Text.l0, if_neg (by omega)]) (Ev.now _), hc, by rw [strOfNums_size]; omega⟩
  | succ d ih =>
    intro j acc i h hc hj h0 ha hr
    by_cases hlt : j < n
    · obtain ⟨b, i', h', e, b0, b1, c'⟩ := spec_l01Byte_some h hc
      obtain ⟨t, i2, h2, ep, h3, h4⟩ := ih (j + 1) (acc ++ [b % 256]) i' h' c' (by omega) (by omega) (by rw [List.length_append, List.length_singleton]; omega) (by omega)
      refine ⟨t, i2, h2, Ev.step (fun k => ?_) ep, h3, h4⟩
      rw [spec_l01Text.l0, if_pos hlt, e, Option.bind_some, if_pos (by omega), w64 (by omega) (by omega)]
    · exact ⟨_, i, h, Ev.step (f := fun _ => some (strOfNums acc, i, h)) (fun k => by rw [spec_l01Text.l0, if_neg hlt]) (Ev.now _), hc, by rw [strOfNums_size]; omega⟩
theorem spec_l01Text_ev {l : List Int} {i : Int} (h n : Int) (hc : cur l i) : ∃ t i' h', Ev (fun k => spec_l01Text.f k l i h n) (t, i', h') ∧ cur l i' ∧ (t.size : Int) = max 0 (min n 5000) := by
  unfold spec_l01Text.f
  by_cases h1 : n > 5000
  · obtain ⟨t, i2, h2, ep, h3, h4⟩ := spec_l01Text_l0 l 5000 (by omega) 5000 0 [] i h hc (by omega) (by omega) (by simp) (by omega)
    exact ⟨t, i2, h2, Ev.pos h1 (Ev.step (fun k => by rw [spec_l01Text.j0]) ep), h3, by omega⟩
  · obtain ⟨t, i2, h2, ep, h3, h4⟩ := spec_l01Text_l0 l n (by omega) 5000 0 [] i h hc (by omega) (by omega) (by simp) (by omega)
    exact ⟨t, i2, h2, Ev.neg h1 (Ev.step (fun k => by rw [spec_l01Text.j0]) ep), h3, by omega⟩

theorem spec_l01Once_some {l : List Int} {i : Int} (h n : Int) (hn : n ≤ 9223372036854775807) (hc : cur l i) : ∃ b i' h', spec_l01Once.f l i h n = some (b, i', h') ∧ cur l i' := by
  obtain ⟨x, i', h', e, c', _⟩ := spec_l01Below_some h n hn hc
  exact ⟨_, i', h', by unfold spec_l01Once.f; rw [e, Option.bind_some], c'⟩

theorem spec_l01Long_l0 (n x : Int) (hn : n ≤ 100000) : ∀ (d : Nat) (xs : List Int) (j : Int), (xs.length : Int) = n → 0 ≤ j → n - j ≤ d → ∃ t, Ev (fun k => spec_l01Long.l0 k n x xs j) t ∧ (t.size : Int) = n := by
  intro d
  induction d with
  | zero =>
    intro xs j hx h0 hd
    exact ⟨_, Ev.step (f := fun _ => some (strOfNums xs)) (fun k => by rw [spec_l01Long.l0, if_neg (by omega)]) (Ev.now _), by rw [strOfNums_size]; exact hx⟩
  | succ d ih =>
    intro xs j hx h0 hd
    by_cases hlt : j < n
    · obtain ⟨t, e, ht⟩ := ih (xs.set j.toNat x) (j + 1) (by rw [List.length_set]; exact hx) (by omega) (by omega)
      refine ⟨t, Ev.step (fun k => ?_) e, ht⟩
      rw [spec_l01Long.l0, if_pos hlt, if_pos h0, if_pos (by omega), w64 (by omega) (by omega)]
    · exact ⟨_, Ev.step (f := fun _ => some (strOfNums xs)) (fun k => by rw [spec_l01Long.l0, if_neg hlt]) (Ev.now _), by rw [strOfNums_size]; exact hx⟩
theorem spec_l01Long_ev (n x : Int) (h0 : 0 ≤ n) (hn : n ≤ 100000) : ∃ t, Ev (fun k => spec_l01Long.f k n x) t ∧ (t.size : Int) = n := by
  obtain ⟨t, e, ht⟩ := spec_l01Long_l0 n x hn n.toNat (List.replicate n.toNat 0) 0 (by rw [List.length_replicate]; omega) (by omega) (by omega)
  refine ⟨t, ?_, ht⟩
  unfold spec_l01Long.f
  exact Ev.pos h0 (Ev.pos (by omega) e)

theorem spec_DrawHex_ev (l : List Int) (hl : l.length ≤ 1048576) : ∃ t, Ev (fun k => spec_DrawHex.f k l) t ∧ t.size ≤ 20002 := by
  obtain ⟨h, e⟩ := spec_l01New_ev l hl
  obtain ⟨b, i1, h1, e1, c1⟩ := spec_l01Once_some (l := l) (i := 0) h 60 (by omega) ⟨by omega, by omega, hl⟩
  unfold spec_DrawHex.f
  cases b with
  | true =>
    obtain ⟨x, i2, h2, e2, c2, _, hx⟩ := spec_l01Below_some h1 2 (by omega) c1
    have hx := hx (by omega)
    obtain ⟨t, et, ht⟩ := spec_l01Long_ev (20000 + x) 200 (by omega) (by omega)
    refine ⟨t, Ev.bind e (Ev.bind0 e1 (Ev.pos rfl (Ev.bind0 e2 ?_))), by omega⟩
    dsimp only
    rw [w64 (by omega) (by omega)]
    exact Ev.bind et (Ev.now _)
  | false =>
    obtain ⟨x, i2, h2, e2, c2, _, hx⟩ := spec_l01Below_some h1 30 (by omega) c1
    obtain ⟨t, i3, h3, et, c3, ht⟩ := spec_l01Text_ev (l := l) (i := i2) h2 x c2
    exact ⟨t, Ev.bind e (Ev.bind0 e1 (Ev.neg (by simp) (Ev.bind0 e2 (Ev.bind et (Ev.now _))))), by omega⟩

def decText (n : Nat) : ByteArray := ⟨(Lib.decDigits n).toArray⟩
theorem decText_data (n : Nat) : (decText n).data.toList = Lib.decDigits n := by simp [decText]
theorem digit_text (n : Nat) (h : n < 10) : strOfNums [((48 + n : Nat) : Int)] = ⟨#[UInt8.ofNat (48 + n)]⟩ := by
  apply ba_ext
  rw [strOfNums_data]
  show [UInt8.ofNat (((48 + n : Nat) : Int)).toNat] = _
  rw [Int.toNat_natCast]
theorem decText_small {n : Nat} (h : n < 10) : decText n = strOfNums [((48 + n : Nat) : Int)] := by
  rw [digit_text n h]
  apply ba_ext
  rw [decText_data, Lib.decDigits, dif_pos h]
theorem decText_big {n : Nat} (h : ¬ n < 10) : decText n = decText (n / 10) ++ strOfNums [((48 + n % 10 : Nat) : Int)] := by
  rw [digit_text (n % 10) (by omega)]
  apply ba_ext
  rw [app_data, decText_data, decText_data, Lib.decDigits, dif_neg h]
def itoaText (a : Int) : ByteArray := ⟨(Lib.itoa a).toArray⟩
theorem impl_Decimal_eq (a : Int) (h0 : -9223372036854775808 ≤ a) (h1 : a ≤ 9223372036854775807) : impl_Decimal.f a = some (itoaText a) := by
  unfold impl_Decimal.f
  rw [if_pos h0, if_pos h1]; rfl

def dig : Nat → List UInt8 → Option Nat
  | acc, [] => some acc
  | acc, c :: r => if 48 ≤ c.toNat ∧ c.toNat ≤ 57 then dig (10 * acc + (c.toNat - 48)) r else none
theorem dig_append : ∀ (l : List UInt8) (acc : Nat) (r : List UInt8), dig acc (l ++ r) = (dig acc l).bind fun m => dig m r
  | [], acc, r => rfl
  | c :: l, acc, r => by
    rw [List.cons_append, dig, dig]
    split
    · exact dig_append l _ r
    · rfl
theorem dig_digits : ∀ (n : Nat), dig 0 (Lib.decDigits n) = some n := by
  intro n
  induction n using Nat.strongRecOn with
  | _ n ih =>
    have hc : ∀ d, d < 10 → (UInt8.ofNat (48 + d)).toNat = 48 + d := fun d hd => by rw [UInt8.toNat_ofNat']; omega
    rw [Lib.decDigits]
    by_cases h : n < 10
    · rw [dif_pos h, dig, hc n h, if_pos (by omega), dig]; congr 1; omega
    · rw [dif_neg h, dig_append, ih (n / 10) (by omega), Option.bind_some, dig, hc _ (by omega), if_pos (by omega), dig]; congr 1; omega
theorem dig_le : ∀ (l : List UInt8) (acc n : Nat), dig acc l = some n → acc ≤ n
  | [], acc, n, h => by rw [dig] at h; injection h with h; omega
  | c :: l, acc, n, h => by
    rw [dig] at h
    split at h
    · have := dig_le l _ n h; omega
    · cases h
theorem parse_dig : ∀ (l : List UInt8) (acc n : Nat), dig acc l = some n → n < 1000000000000 → Lib.parseUint10 acc l = .ok n
  | [], acc, n, h, _ => by rw [dig] at h; injection h with h; rw [Lib.parseUint10, h]
  | c :: l, acc, n, h, hb => by
    rw [dig] at h
    split at h
    · rename_i hc
      have := dig_le l _ n h
      rw [Lib.parseUint10, if_pos hc, if_neg (by omega), if_neg (by omega), Nat.mul_comm acc 10]
      exact parse_dig l _ n h hb
    · cases h
theorem atoi_digits (n : Nat) (h : n ≤ 1000000000) : Lib.atoiAll (Lib.decDigits n) = .ok (n : Int) := by
  have hd := dig_digits n
  have hp := parse_dig _ 0 n hd (by omega)
  cases hl : Lib.decDigits n with
  | nil => exact absurd hl (by rw [Lib.decDigits]; split <;> simp)
  | cons c r =>
    rw [hl] at hd hp
    rw [dig] at hd
    have hc : 48 ≤ c.toNat ∧ c.toNat ≤ 57 := by
      by_cases hc : 48 ≤ c.toNat ∧ c.toNat ≤ 57
      · exact hc
      · rw [if_neg hc] at hd; cases hd
    unfold Lib.atoiAll
    dsimp only
    rw [if_neg (show ¬ (c.toNat = 43 ∨ c.toNat = 45) by omega), Lib.parseMag, if_neg (List.cons_ne_nil _ _), hp]
    dsimp only
    rw [if_neg (by omega), if_neg (by omega), if_neg (by omega)]
theorem decText_len_le : ∀ (L n : Nat), n < 10 ^ (L + 1) → (decText n).size ≤ L + 1 := by
  intro L
  induction L with
  | zero => intro n h; rw [decText_small (by simpa using h), strOfNums_size, List.length_singleton]; omega
  | succ L ih =>
    intro n h
    by_cases hs : n < 10
    · rw [decText_small hs, strOfNums_size, List.length_singleton]; omega
    · have := ih (n / 10) (by rw [Nat.pow_succ] at h; omega)
      rw [decText_big hs, app_size, strOfNums_size, List.length_singleton]; omega
def finRead (a : ByteArray) (o : Option Nat) : Int × Bool := match o with
  | some n => if n ≤ 1000000000 ∧ decText n = a then ((n : Int), true) else (0, false)
  | none => (0, false)
theorem finRead_some (a : ByteArray) (n : Nat) : finRead a (some n) = if n ≤ 1000000000 ∧ decText n = a then ((n : Int), true) else (0, false) := rfl
def readDec (a : ByteArray) : Int × Bool := finRead a (if a.size ≤ 10 then dig 0 a.data.toList else none)
theorem itoaText_nat (n : Nat) : itoaText (n : Int) = decText n := by unfold itoaText decText; rw [Lib.itoa_nonneg]
theorem impl_ReadDecimal_eq (a : ByteArray) (hs : a.size ≤ 281474976710656) : impl_ReadDecimal.f a = some (readDec a) := by
  unfold impl_ReadDecimal.f
  rw [if_pos hs]
  by_cases hx : ∃ n : Nat, n ≤ 1000000000 ∧ decText n = a
  · obtain ⟨n, hn, rfl⟩ := hx
    have hl := decText_len_le 9 n (by omega)
    unfold readDec
    rw [if_pos (by omega), decText_data, atoi_digits n hn, dig_digits n]
    dsimp only
    rw [show (⟨(Lib.itoa (n : Int)).toArray⟩ : ByteArray) = decText n from itoaText_nat n, if_pos rfl, if_pos (by omega)]
    rw [finRead_some, if_pos ⟨hn, rfl⟩]
  · have hf : readDec a = (0, false) := by
      unfold readDec finRead
      split
      · rw [if_neg (fun h => hx ⟨_, h⟩)]
      · rfl
    rw [hf]
    split
    · rename_i v hv
      by_cases e : (⟨(Lib.itoa v).toArray⟩ : ByteArray).toList = a.toList
      · rw [if_pos e]
        by_cases g : 0 ≤ v ∧ v ≤ 1000000000
        · obtain ⟨n, rfl⟩ := Int.eq_ofNat_of_zero_le g.1
          exact absurd ⟨n, by omega, (itoaText_nat n).symm.trans (toList_inj e)⟩ hx
        · rw [if_neg g]
      · rw [if_neg e]
    · rfl

theorem spec_l01Number_some {l : List Int} {i : Int} (h : Int) (hc : cur l i) : ∃ x i' h', spec_l01Number.f l i h = some (x, i', h') := by
  obtain ⟨b, i1, h1, e1, c1, _, hb⟩ := spec_l01Below_some h 4 (by omega) hc
  unfold spec_l01Number.f
  rw [e1, Option.bind_some]
  dsimp only
  by_cases b0 : b = 0
  · rw [if_pos b0]
    obtain ⟨x, i2, h2, e2, c2, _, hx⟩ := spec_l01Below_some h1 10 (by omega) c1
    have hx := hx (by omega)
    have ep : ∀ ns : List Int, (ns.length : Int) = 10 → spec_l01PickInt.f l i1 h1 ns = some (rd ns x, i2, h2) := fun ns hn => by
      unfold spec_l01PickInt.f
      rw [hn, e2, Option.bind_some]
      dsimp only
      rw [if_pos hx.1, if_pos hx.2]
    rw [ep _ rfl]
    exact ⟨_, _, _, rfl⟩
  · rw [if_neg b0]
    by_cases b1 : b = 1
    · rw [if_pos b1]
      obtain ⟨x, i2, h2, e2, c2, _, hx⟩ := spec_l01Below_some h1 1000000000 (by omega) c1
      rw [e2]
      exact ⟨_, _, _, rfl⟩
    · rw [if_neg b1]
      obtain ⟨x, i2, h2, e2, c2, _, hx⟩ := spec_l01Below_some h1 400 (by omega) c1
      rw [e2]
      exact ⟨_, _, _, rfl⟩
theorem spec_DrawVarText_ev (l : List Int) (hl : l.length ≤ 1048576) : ∃ x, Ev (fun k => spec_DrawVarText.f k l) x := by
  obtain ⟨h, e⟩ := spec_l01New_ev l hl
  obtain ⟨x, i', h', ex⟩ := spec_l01Number_some (l := l) (i := 0) h ⟨by omega, by omega, hl⟩
  unfold spec_DrawVarText.f
  exact ⟨x, Ev.bind e (Ev.bind0 ex (Ev.now _))⟩
theorem hv_fig : ∀ x : Fin 16, hv (UInt8.ofNat (fig x.val).toNat) = (x.val : Int) := by decide
theorem unhex_hex : ∀ l : List UInt8, unhexL ((hexl l).map fun x => UInt8.ofNat x.toNat) = some (l.map fun c => (c.toNat : Int))
  | [] => rfl
  | c :: t => by
    have hc : c.toNat < 256 := c.toNat_lt
    have h1 := hv_fig ⟨c.toNat / 16, by omega⟩
    have h2 := hv_fig ⟨c.toNat % 16, by omega⟩
    dsimp only at h1 h2
    rw [hexl, List.map_cons, List.map_cons, unhexL, h1, h2, if_neg (by omega), unhex_hex t, Option.map_some, List.map_cons]
    congr 2
    omega
theorem strOfNums_bytes (s : ByteArray) : strOfNums (s.data.toList.map fun c => (c.toNat : Int)) = s := by
  apply ba_ext
  rw [strOfNums_data, List.map_map]
  exact (List.map_congr_left fun c _ => by simp).trans (List.map_id _)
theorem hexl_length : ∀ l : List UInt8, (hexl l).length = 2 * l.length
  | [] => rfl
  | c :: t => by rw [hexl, List.length_cons, List.length_cons, List.length_cons, hexl_length t]; omega
theorem unhexOf_hex (t : ByteArray) (h : t.size ≤ 20000) : unhexOf (strOfNums (hexl t.data.toList)) = (t, true) := by
  have hsz : t.data.toList.length = t.size := size_len t
  unfold unhexOf
  rw [if_neg (by rw [strOfNums_size, hexl_length]; omega), strOfNums_data]
  rw [unhex_hex]
  show (strOfNums ([] ++ _), true) = _
  rw [List.nil_append, strOfNums_bytes]
theorem readShort_short (t : ByteArray) (h : t.size ≤ 300) : readShort (strOfNums (vl t.size) ++ t) 0 = (t, ((strOfNums (vl t.size) ++ t).size : Int), true) := by
  have hr := readVar_at (p := 0) (n := t.size) (s := strOfNums (vl t.size) ++ t) (by omega) (a := []) (rest := t.data.toList) (by rw [app_data]; rfl) rfl
  rw [show ((0 : Nat) : Int) = 0 from rfl] at hr
  have hz : (strOfNums (vl t.size) ++ t).size = (vl t.size).length + t.size := by rw [app_size, strOfNums_size]
  unfold readShort
  rw [hr]
  dsimp only
  rw [if_pos rfl, if_neg (by omega)]
  have hx : (strOfNums (vl t.size) ++ t).extract (((0 + (vl t.size).length : Nat) : Int)).toNat ((((0 + (vl t.size).length : Nat) : Int)) + (t.size : Int)).toNat = t := by
    apply ba_ext
    rw [ext_data, app_data, show (((0 + (vl t.size).length : Nat) : Int)).toNat = (vl t.size).length from by omega, show ((((0 + (vl t.size).length : Nat) : Int)) + (t.size : Int)).toNat = (vl t.size).length + t.size from by omega]
    rw [List.drop_left' (by rw [strOfNums_data, List.length_map]), List.take_of_length_le (by rw [size_len]; omega)]
  rw [hx]
  congr 2
  omega
theorem readDec_dec (n : Nat) (h : n ≤ 1000000000) : readDec (decText n) = ((n : Int), true) := by
  have hl := decText_len_le 9 n (by omega)
  unfold readDec
  rw [if_pos (by omega), decText_data, dig_digits n, finRead_some, if_pos ⟨h, rfl⟩]

theorem FnNumbers_j2 (x3 : Int) (x4 : ByteArray) (x7 : Int) (t : ByteArray) (ht : t.size ≤ 300) (h7 : x7 = wrap64 ((x4.size : Int) + 1)) : Ev (fun k => laws_FnNumbers.j2 k x3 x4 true x3 x7 true x3 true t) true := by
  have hs : shortText t = (strOfNums (vl t.size) ++ t, true) := by unfold shortText; rw [if_neg (by omega)]
  have hh : hexOf t = (strOfNums (hexl t.data.toList), true) := by unfold hexOf; rw [if_neg (by omega)]
  have hz : (strOfNums (vl t.size) ++ t).size ≤ 140737488351232 := by
    have := vl_len 2 t.size (by omega) (by omega)
    rw [app_size, strOfNums_size]; omega
  have e1 := impl_ShortText_ev t
  rw [hs] at e1
  have e2 := impl_ReadShort_ev (strOfNums (vl t.size) ++ t) 0 hz
  rw [readShort_short t ht] at e2
  have e3 := impl_Hex_ev t
  rw [hh] at e3
  have e4 := impl_Unhex_ev (strOfNums (hexl t.data.toList))
  rw [unhexOf_hex t (by omega)] at e4
  refine Ev.succ ?_
  simp only [laws_FnNumbers.j2]
  refine Ev.bind e1 (Ev.bind e2 (Ev.bind e3 (Ev.bind e4 (Ev.pos trivial (Ev.pos trivial (Ev.pos trivial (Ev.pos rfl (Ev.pos rfl (Ev.pos rfl (Ev.pos rfl (Ev.pos trivial (Ev.pos trivial (Ev.pos h7 (Ev.pos rfl (Ev.pos rfl ?_)))))))))))))))
  exact Ev.ret (by simp)
theorem FnNumbers_j1 (l : List Int) (hl : l.length ≤ 1048576) (n : Nat) (hn : n ≤ 1000000000) : Ev (fun k => laws_FnNumbers.j1 k l (n : Int)) true := by
  have hv : varText (n : Int) = (strOfNums (vl n), true) := by unfold varText; rw [if_pos (by omega), Int.toNat_natCast]
  have hlen := vl_len 5 n (by omega) (by omega)
  have e1 := impl_VarText_ev (n : Int)
  rw [hv] at e1
  have hsz : (((⟨#[120]⟩ : ByteArray) ++ strOfNums (vl n)) ++ (⟨#[121]⟩ : ByteArray)).size ≤ 140737488351232 := by
    rw [app_size, app_size, strOfNums_size, show (⟨#[120]⟩ : ByteArray).size = 1 from rfl, show (⟨#[121]⟩ : ByteArray).size = 1 from rfl]; omega
  have e2 := impl_ReadVar_ev (((⟨#[120]⟩ : ByteArray) ++ strOfNums (vl n)) ++ (⟨#[121]⟩ : ByteArray)) 1 hsz
  have hr := readVar_at (p := 1) (n := n) (s := ((⟨#[120]⟩ : ByteArray) ++ strOfNums (vl n)) ++ (⟨#[121]⟩ : ByteArray)) hn (a := [120]) (rest := [121]) (by rw [app_data, app_data, List.append_assoc]) rfl
  rw [show ((1 : Nat) : Int) = 1 from rfl] at hr
  rw [hr] at e2
  have e3 := impl_Decimal_eq (n : Int) (by omega) (by omega)
  rw [itoaText_nat] at e3
  have hdl := decText_len_le 9 n (by omega)
  have e4 := impl_ReadDecimal_eq (decText n) (by omega)
  rw [readDec_dec n hn] at e4
  obtain ⟨t, e5, ht⟩ := spec_DrawHex_ev l hl
  have h7 : ((1 + (vl n).length : Nat) : Int) = wrap64 (((strOfNums (vl n)).size : Int) + 1) := by rw [strOfNums_size, w64 (by omega) (by omega)]; omega
  refine Ev.succ ?_
  simp only [laws_FnNumbers.j1]
  refine Ev.bind e1 (Ev.pos (by rw [strOfNums_size]; omega) (Ev.pos (by rw [app_size, strOfNums_size, show (⟨#[120]⟩ : ByteArray).size = 1 from rfl]; omega) (Ev.bind e2 (Ev.bind0 e3 (Ev.bind0 e4 (Ev.bind e5 ?_))))))
  by_cases c : (t.size : Int) > 300
  · exact Ev.pos c (FnNumbers_j2 _ _ _ _ (by decide) h7)
  · exact Ev.neg c (FnNumbers_j2 _ _ _ _ (by omega) h7)
theorem FnNumbers : laws_FnNumbers.Pure := by
  intro l h0 h1 h2
  refine Ev.rounds (r := true) ?_
  unfold laws_FnNumbers.f
  rw [laws_big_eq]
  by_cases c : (l.length : Int) > 1048576
  · exact Ev.bind0 rfl (Ev.pos (decide_eq_true c) (Ev.now _))
  refine Ev.bind0 rfl (Ev.neg (by rw [decide_eq_false c]; decide) ?_)
  obtain ⟨x, e⟩ := spec_DrawVarText_ev l (by omega)
  have hj : ∀ b : Bool, (b = false → 0 ≤ x ∧ x ≤ 1000000000) → Ev (fun k => laws_FnNumbers.j0 k l x b) true := fun b hb => by
    refine Ev.succ ?_
    simp only [laws_FnNumbers.j0]
    cases b with
    | true => exact Ev.pos (by simp) (FnNumbers_j1 l (by omega) 12345 (by omega))
    | false =>
      obtain ⟨n, rfl⟩ := Int.eq_ofNat_of_zero_le (hb rfl).1
      exact Ev.neg (by simp) (FnNumbers_j1 l (by omega) n (by have := (hb rfl).2; omega))
  refine Ev.bind e ?_
  by_cases c1 : x < 0
  · exact Ev.pos c1 (hj true (fun h => by cases h))
  · exact Ev.neg c1 (hj _ (fun h => by rw [decide_eq_false_iff_not] at h; omega))

end Go.Proofs.YtmfjnmkkhfpboaaDoor.Pure
