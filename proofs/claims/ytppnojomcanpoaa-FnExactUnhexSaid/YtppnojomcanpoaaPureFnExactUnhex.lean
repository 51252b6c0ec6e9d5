/- For every text both programs' Unhex come to the same text and the same answer. -/
import Derived.Test.YtppnojomcanpoaaOFnExactUnhexx1
import Derived.Test.YtppnojomcanpoaaBase
namespace Go.Proofs.Ytppnojomcanpoaa.Pure
open Go.RowKit Go.Proofs.Ytppnojomcanpoaa.PFnExactUnhex Go.Proofs.YtppnojomcanpoaaW.PrintWords Go.Proofs.YtppnojomcanpoaaW.PrintLast Go.Proofs.Ytppnojomcanpoaa.Base
set_option linter.unusedVariables false
set_option linter.unusedSimpArgs false

def hv (c : UInt8) : Int := if 48 ≤ c.toNat ∧ c.toNat ≤ 57 then (c.toNat : Int) - 48 else if 97 ≤ c.toNat ∧ c.toNat ≤ 102 then (c.toNat : Int) - 87 else -1
theorem hv_range (c : UInt8) : -1 ≤ hv c ∧ hv c ≤ 15 := by unfold hv; split <;> (try split) <;> omega
def unhexL : List UInt8 → Option (List Int)
  | x :: y :: t => if hv x < 0 ∨ hv y < 0 then none else (unhexL t).map fun r => (16 * hv x + hv y) :: r
  | _ => some []
def unhexEnd (acc : List Int) : Option (List Int) → ByteArray × Bool
  | none => noText
  | some r => (strOfNums (acc ++ r), true)
theorem unhex_bad {x y : UInt8} {t : List UInt8} (acc : List Int) (h : hv x < 0 ∨ hv y < 0) : unhexEnd acc (unhexL (x :: y :: t)) = noText := by rw [unhexL, if_pos h]; rfl
theorem unhex_good {x y : UInt8} {t : List UInt8} (acc : List Int) (h : ¬ (hv x < 0 ∨ hv y < 0)) : unhexEnd acc (unhexL (x :: y :: t)) = unhexEnd (acc ++ [16 * hv x + hv y]) (unhexL t) := by
  rw [unhexL, if_neg h]
  cases unhexL t with
  | none => rfl
  | some r => simp [unhexEnd]
def unhexOf (s : ByteArray) : ByteArray × Bool := if s.size > 40000 ∨ s.size % 2 = 1 then noText else unhexEnd [] (unhexL s.data.toList)
theorem spec_l01Value_ev (c : UInt8) : Ev (fun k => spec_l01Value.f k (c.toNat : Int)) (hv c) := by
  have hc : c.toNat < 256 := c.toNat_lt
  have hf : ∀ r : Int, (if 97 ≤ c.toNat ∧ c.toNat ≤ 102 then (c.toNat : Int) - 87 else -1) = r → Ev (fun k => spec_l01Value.j0 k (c.toNat : Int) false) r := fun r hr => by
    refine Ev.succ ?_
    simp only [spec_l01Value.j0, w64 (n := (c.toNat : Int)) (by omega) (by omega), w64 (n := (c.toNat : Int) - 97) (by omega) (by omega), w64 (n := (c.toNat : Int) - 97 + 10) (by omega) (by omega)]
    refine Ev.neg (by decide) ?_
    by_cases h1 : 97 ≤ c.toNat
    · by_cases h2 : c.toNat ≤ 102
      · rw [if_pos ⟨h1, h2⟩] at hr
        exact Ev.pos (by omega) (Ev.pos (by omega) (Ev.ret (by omega)))
      · rw [if_neg (by omega)] at hr
        exact Ev.pos (by omega) (Ev.neg (by omega) (Ev.ret hr))
    · rw [if_neg (by omega)] at hr
      exact Ev.neg (by omega) (Ev.ret hr)
  unfold spec_l01Value.f hv
  by_cases h1 : 48 ≤ c.toNat
  · refine Ev.pos (by omega) ?_
    by_cases h2 : c.toNat ≤ 57
    · rw [if_pos ⟨h1, h2⟩, decide_eq_true (by omega)]
      refine Ev.succ ?_
      simp only [spec_l01Value.j0, w64 (n := (c.toNat : Int)) (by omega) (by omega), w64 (n := (c.toNat : Int) - 48) (by omega) (by omega)]
      exact Ev.pos (by trivial) (Ev.now _)
    · rw [if_neg (by omega), decide_eq_false (by omega)]
      exact hf _ rfl
  · rw [if_neg (by omega)]
    exact Ev.neg (by omega) (hf _ rfl)
theorem spec_Unhex_l0 (s : ByteArray) (hs : s.size ≤ 40000) : ∀ (n : Nat) (l : List UInt8) (i : Nat) (acc : List Int), l.length = 2 * n → s.data.toList.drop i = l → acc.length ≤ i → Ev (fun k => spec_Unhex.l0 k s acc (i : Int)) (unhexEnd acc (unhexL l)) := by
  intro n
  induction n with
  | zero =>
    intro l i acc hl hd ha
    have hz : l = [] := List.length_eq_zero_iff.1 (by omega)
    subst hz
    have := drop_none hd
    refine Ev.step (f := fun _ => some (strOfNums acc, true)) (fun k => by rw [spec_Unhex.l0, if_neg (by omega)]) (Ev.ret ?_)
    rw [unhexL, unhexEnd, List.append_nil]
    intro x y t h; cases h
  | succ n ih =>
    intro l i acc hl hd ha
    match l, hl with
    | [], hl => simp at hl
    | [x], hl => simp at hl; omega
    | x :: y :: t, hl =>
      obtain ⟨b1, l1, d1⟩ := bt_drop hd
      obtain ⟨b2, l2, d2⟩ := bt_drop d1
      rw [show ((i + 1 : Nat) : Int) = (i : Int) + 1 from by omega] at b2
      refine Ev.succ ?_
      have rx := hv_range x
      have ry := hv_range y
      simp only [spec_Unhex.l0, w64 (n := (i : Int) + 1) (by omega) (by omega), w64 (n := (i : Int) + 2) (by omega) (by omega), b1, b2]
      refine Ev.pos (by omega) (Ev.pos (by omega) (Ev.bind (spec_l01Value_ev x) (Ev.pos (by omega) (Ev.pos (by omega) (Ev.bind (spec_l01Value_ev y) ?_)))))
      by_cases h1 : hv x < 0
      · exact Ev.pos h1 (Ev.ret (unhex_bad acc (.inl h1)).symm)
      by_cases h2 : hv y < 0
      · exact Ev.neg h1 (Ev.pos h2 (Ev.ret (unhex_bad acc (.inr h2)).symm))
      rw [unhex_good acc (by omega)]
      refine Ev.neg h1 (Ev.neg h2 (Ev.pos (by omega) ?_))
      rw [w64 (n := 16 * hv x) (by omega) (by omega), w64 (n := 16 * hv x + hv y) (by omega) (by omega), show (16 * hv x + hv y) % 256 = 16 * hv x + hv y from by omega]
      have e := ih t (i + 2) (acc ++ [16 * hv x + hv y]) (by simp at hl; omega) (by rw [← d2]) (by rw [List.length_append, List.length_singleton]; omega)
      exact e
theorem spec_Unhex_ev (s : ByteArray) : Ev (fun k => spec_Unhex.f k s) (unhexOf s) := by
  have hno : Ev (fun k => spec_Unhex.j0 k s true) noText := Ev.step (f := fun _ => some noText) (fun k => by rw [spec_Unhex.j0, if_pos rfl]; rfl) (Ev.now _)
  unfold spec_Unhex.f unhexOf
  by_cases h1 : s.size > 40000
  · rw [if_pos (.inl h1)]
    exact Ev.pos (by omega) hno
  refine Ev.neg (by omega) ?_
  by_cases h2 : s.size % 2 = 1
  · rw [if_pos (.inr h2), show (((s.size : Int) % 2) != 0) = true from by rw [bne_iff_ne]; omega]
    exact hno
  · rw [if_neg (by omega), show (((s.size : Int) % 2) != 0) = false from by rw [bne_eq_false_iff_eq]; omega]
    exact Ev.step (fun k => by rw [spec_Unhex.j0, if_neg (by decide)]; rfl) (spec_Unhex_l0 s (by omega) (s.size / 2) s.data.toList 0 [] (by rw [size_len]; omega) rfl (Nat.le_refl _))
theorem hex_index : ∀ c : Fin 256, Lib.indexByte hexTab.data.toList (UInt8.ofNat c.val) = hv (UInt8.ofNat c.val) := by decide +kernel
theorem strings_IndexByte_hex (c : UInt8) : strings_IndexByte.f hexTab (c.toNat : Int) = some (hv c) := by
  unfold strings_IndexByte.f
  have e := hex_index ⟨c.toNat, c.toNat_lt⟩
  have h : (((c.toNat : Int)).toNat.toUInt8) = c := by rw [Int.toNat_natCast]; exact UInt8.ofNat_toNat
  rw [h]
  have h2 : UInt8.ofNat c.toNat = c := UInt8.ofNat_toNat
  simp only [h2] at e
  rw [e]
theorem impl_Unhex_l0 (s : ByteArray) (hs : s.size ≤ 40000) : ∀ (n : Nat) (l : List UInt8) (i : Nat) (acc : List Int) (h0 : Int), l.length = 2 * n → s.data.toList.drop i = l → acc.length ≤ i → i % 2 = 0 → Ev (fun k => impl_Unhex.l0 k s acc h0 (i : Int)) (unhexEnd acc (unhexL l)) := by
  intro n
  induction n with
  | zero =>
    intro l i acc h0 hl hd ha hi
    have hz : l = [] := List.length_eq_zero_iff.1 (by omega)
    subst hz
    have := drop_none hd
    refine Ev.step (f := fun _ => some (strOfNums acc, true)) (fun k => by rw [impl_Unhex.l0, if_neg (by omega)]) (Ev.ret ?_)
    rw [unhexL, unhexEnd, List.append_nil]
    intro x y t h; cases h
  | succ n ih =>
    intro l i acc h0 hl hd ha hi
    match l, hl with
    | [], hl => simp at hl
    | [x], hl => simp at hl; omega
    | x :: y :: t, hl =>
      obtain ⟨b1, l1, d1⟩ := bt_drop hd
      obtain ⟨b2, l2, d2⟩ := bt_drop d1
      have rx := hv_range x
      have ry := hv_range y
      have ex := strings_IndexByte_hex x
      have ey := strings_IndexByte_hex y
      unfold hexTab at ex ey
      refine Ev.succ ?_
      simp only [impl_Unhex.l0, w64 (n := (i : Int) + 1) (by omega) (by omega), b1]
      refine Ev.pos (by omega) (Ev.pos (by omega) (Ev.bind0 ex ?_))
      by_cases h1 : hv x < 0
      · exact Ev.pos h1 (Ev.ret (unhex_bad acc (.inl h1)).symm)
      rw [tmodp (by omega)]
      refine Ev.neg h1 (Ev.neg (by omega) (Ev.succ ?_))
      rw [show ((i : Int) + 1) = ((i + 1 : Nat) : Int) from by omega]
      simp only [impl_Unhex.l0, w64 (n := ((i + 1 : Nat) : Int) + 1) (by omega) (by omega), b2]
      refine Ev.pos (by omega) (Ev.pos (by omega) (Ev.bind0 ey ?_))
      by_cases h2 : hv y < 0
      · exact Ev.pos h2 (Ev.ret (unhex_bad acc (.inr h2)).symm)
      rw [unhex_good acc (by omega), tmodp (by omega)]
      refine Ev.neg h2 (Ev.pos (by omega) (Ev.pos (by omega) ?_))
      rw [w64 (n := 16 * hv x) (by omega) (by omega), w64 (n := 16 * hv x + hv y) (by omega) (by omega), show (16 * hv x + hv y) % 256 = 16 * hv x + hv y from by omega]
      have e := ih t (i + 2) (acc ++ [16 * hv x + hv y]) (hv y) (by simp at hl; omega) (by rw [← d2]) (by rw [List.length_append, List.length_singleton]; omega) (by omega)
      exact e
theorem impl_Unhex_ev (s : ByteArray) : Ev (fun k => impl_Unhex.f k s) (unhexOf s) := by
  have hno : Ev (fun k => impl_Unhex.j0 k s true) noText := Ev.step (f := fun _ => some noText) (fun k => by rw [impl_Unhex.j0, if_pos rfl]; rfl) (Ev.now _)
  unfold impl_Unhex.f unhexOf
  by_cases h2 : s.size % 2 = 1
  · rw [if_pos (.inr h2)]
    exact Ev.pos (by omega) hno
  refine Ev.neg (by omega) ?_
  by_cases h1 : s.size > 40000
  · rw [if_pos (.inl h1), decide_eq_true (by omega)]
    exact hno
  · rw [if_neg (by omega), decide_eq_false (by omega)]
    exact Ev.step (fun k => by rw [impl_Unhex.j0, if_neg (by decide)]; rfl) (impl_Unhex_l0 s (by omega) (s.size / 2) s.data.toList 0 [] 0 (by rw [size_len]; omega) rfl (Nat.le_refl _) rfl)

theorem FnExactUnhex : laws_FnExactUnhex.Pure := by
  intro a0 h0
  refine Ev.rounds (r := true) ?_
  unfold laws_FnExactUnhex.f
  by_cases hb : (a0.size : Int) > 1048576
  · exact Ev.pos hb (Ev.now _)
  refine Ev.neg hb (Ev.bind (spec_Unhex_ev a0) (Ev.bind (impl_Unhex_ev a0) ?_))
  simpa using Ev.now true

end Go.Proofs.Ytppnojomcanpoaa.Pure
