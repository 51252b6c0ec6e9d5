/- For every text both programs' ReadDecimal come to the same number and answer. -/
import Derived.Test.YtmfjnmkkhfpboaaDoorOFnExactReadDecimalx1
import Derived.Test.YtmfjnmkkhfpboaaDoorBase
import Derived.Test.YtmfjnmkkhfpboaaDoorBase2
import Derived.Test.YtmfjnmkkhfpboaaDoorBase3
namespace Go.Proofs.YtmfjnmkkhfpboaaDoor.Pure
open Go.RowKit Go.Proofs.YtmfjnmkkhfpboaaDoor.PFnExactReadDecimal Go.Proofs.YtmfjnmkkhfpboaaDoorW.PrintWords Go.Proofs.YtmfjnmkkhfpboaaDoorW.PrintLast Go.Proofs.YtmfjnmkkhfpboaaDoor.Base
set_option linter.unusedVariables false
set_option linter.unusedSimpArgs false

def decText (n : Nat) : ByteArray := ⟨(Lib.decDigits n).toArray⟩
theorem decText_data (n : Nat) : (decText n).data.toList = Lib.decDigits n := by simp [decText]
theorem digit_text (n : Nat) (h : n < 10) : strOfNums [((48 + n : Nat) : Int)] = ⟨#[UInt8.ofNat (48 + n)]⟩ := by
  apply ba_ext
  rw [strOfNums_data]
  show [UInt8.ofNat (((48 + n : Nat) : Int)).toNat] = _
  rw [Int.toNat_natCast]
theorem spec_l01Figure_eq (n : Nat) (h : n < 10) : spec_l01Figure.f (n : Int) = some ((48 + n : Nat) : Int) := by
  unfold spec_l01Figure.f
  rw [if_pos (by omega), w64 (by omega) (by omega)]
  congr 1
  omega
theorem decText_small {n : Nat} (h : n < 10) : decText n = strOfNums [((48 + n : Nat) : Int)] := by
  rw [digit_text n h]
  apply ba_ext
  rw [decText_data, Lib.decDigits, dif_pos h]
theorem decText_big {n : Nat} (h : ¬ n < 10) : decText n = decText (n / 10) ++ strOfNums [((48 + n % 10 : Nat) : Int)] := by
  rw [digit_text (n % 10) (by omega)]
  apply ba_ext
  rw [app_data, decText_data, decText_data, Lib.decDigits, dif_neg h]
theorem tmod_neg (n : Nat) : Int.tmod (-(n : Int)) 10 = -((n % 10 : Nat) : Int) := by rw [Int.neg_tmod, tmodp (by omega)]; omega
theorem tdiv_neg (n : Nat) : Int.tdiv (-(n : Int)) 10 = -((n / 10 : Nat) : Int) := by rw [Int.neg_tdiv, tdivp (by omega)]; omega
def minus (s : Bool) : ByteArray := if s = true then (⟨#[45]⟩ : ByteArray) else (⟨#[]⟩ : ByteArray)
def withSign (s : Bool) (n : Nat) : Int := if s = true then -(n : Int) else (n : Int)
theorem spec_Decimal_end (k : Nat) (s : Bool) (acc : ByteArray) (h : acc.size ≤ 1000) : spec_Decimal.l0 (k + 1) 0 s acc = some (minus s ++ acc) := by
  rw [spec_Decimal.l0, if_pos rfl]
  cases s with
  | true => rw [if_pos rfl, if_pos (by omega)]; rfl
  | false =>
    rw [if_neg (by decide)]
    congr 1
theorem spec_Decimal_all (s : Bool) : ∀ (L n : Nat) (acc : ByteArray), 0 < n → n ≤ 9223372036854775808 → n < 10 ^ L → acc.size + L ≤ 1000 → Ev (fun k => spec_Decimal.l0 k (withSign s n) s acc) (minus s ++ (decText n ++ acc)) := by
  intro L
  induction L with
  | zero => intro n acc h0 _ h2 _; simp at h2; omega
  | succ L ih =>
    intro n acc h0 h1 h2 h3
    have hz : (strOfNums [((48 + n % 10 : Nat) : Int)]).size = 1 := by rw [strOfNums_size, List.length_singleton]
    have hlt : n / 10 < 10 ^ L := by rw [Nat.pow_succ] at h2; omega
    have hrec : Ev (fun k => spec_Decimal.l0 k (withSign s (n / 10)) s (strOfNums [((48 + n % 10 : Nat) : Int)] ++ acc)) (minus s ++ (decText n ++ acc)) := by
      by_cases hs : n < 10
      · rw [show n / 10 = 0 from by omega, show n % 10 = n from by omega, decText_small hs]
        have e0 : withSign s 0 = 0 := by unfold withSign; split <;> rfl
        rw [e0]
        refine Ev.step (f := fun _ => some (minus s ++ (strOfNums [((48 + n : Nat) : Int)] ++ acc))) (fun k => spec_Decimal_end k s _ ?_) (Ev.now _)
        rw [app_size, strOfNums_size, List.length_singleton]; omega
      · rw [decText_big hs, ByteArray.append_assoc]
        exact ih (n / 10) _ (by omega) (by omega) hlt (by rw [app_size, hz]; omega)
    refine Ev.succ ?_
    simp only [spec_Decimal.l0]
    cases s with
    | false =>
      have hw : withSign false n = (n : Int) := rfl
      rw [hw, tmodp (by omega), tdivp (by omega), w64 (n := (n : Int) / 10) (by omega) (by omega), show (n : Int) % 10 = ((n % 10 : Nat) : Int) from by omega, show (n : Int) / 10 = ((n / 10 : Nat) : Int) from by omega]
      exact Ev.neg (by omega) (Ev.neg (by omega) (Ev.bind0 (spec_l01Figure_eq (n % 10) (by omega)) (Ev.bind0 rfl (Ev.pos (by rw [hz]; omega) hrec))))
    | true =>
      have hw : withSign true n = -(n : Int) := rfl
      rw [hw, tmod_neg, tdiv_neg, w64 (n := -((n / 10 : Nat) : Int)) (by omega) (by omega)]
      refine Ev.neg (by omega) ?_
      by_cases hm : n % 10 = 0
      · rw [hm] at hrec hz ⊢
        rw [show -((0 : Nat) : Int) = ((0 : Nat) : Int) from rfl]
        exact Ev.neg (by omega) (Ev.bind0 (spec_l01Figure_eq 0 (by omega)) (Ev.bind0 rfl (Ev.pos (by rw [hz]; omega) hrec)))
      · rw [w64 (n := - -((n % 10 : Nat) : Int)) (by omega) (by omega), Int.neg_neg]
        exact Ev.pos (by omega) (Ev.bind0 (spec_l01Figure_eq (n % 10) (by omega)) (Ev.bind0 rfl (Ev.pos (by rw [hz]; omega) hrec)))
def itoaText (a : Int) : ByteArray := ⟨(Lib.itoa a).toArray⟩
theorem spec_Decimal_ev (a : Int) (h0 : -9223372036854775808 ≤ a) (h1 : a ≤ 9223372036854775807) : Ev (fun k => spec_Decimal.f k a) (itoaText a) := by
  unfold spec_Decimal.f
  by_cases hz : a = 0
  · subst hz
    refine Ev.pos rfl (Ev.ret ?_)
    show _ = itoaText ((0 : Nat) : Int)
    unfold itoaText
    rw [Lib.itoa_nonneg]
    show _ = decText 0
    rw [decText_small (by omega)]; rfl
  · refine Ev.neg hz ?_
    by_cases hn : a < 0
    · obtain ⟨n, rfl⟩ : ∃ n : Nat, a = -(n : Int) := ⟨a.natAbs, by omega⟩
      have e := spec_Decimal_all true 19 n (⟨#[]⟩ : ByteArray) (by omega) (by omega) (by omega) (by decide)
      rw [decide_eq_true hn]
      refine Ev.to e ?_
      unfold itoaText
      rw [Lib.itoa_neg n (by omega)]
      apply ba_ext
      rw [app_data, app_data, decText_data]
      simp [minus]
    · obtain ⟨n, rfl⟩ : ∃ n : Nat, a = (n : Int) := ⟨a.toNat, by omega⟩
      have e := spec_Decimal_all false 19 n (⟨#[]⟩ : ByteArray) (by omega) (by omega) (by omega) (by decide)
      rw [decide_eq_false hn]
      refine Ev.to e ?_
      unfold itoaText
      rw [Lib.itoa_nonneg]
      apply ba_ext
      rw [app_data, app_data, decText_data]
      simp [minus]
theorem impl_Decimal_eq (a : Int) (h0 : -9223372036854775808 ≤ a) (h1 : a ≤ 9223372036854775807) : impl_Decimal.f a = some (itoaText a) := by
  unfold impl_Decimal.f
  rw [if_pos h0, if_pos h1]; rfl

def dig : Nat → List UInt8 → Option Nat
  | acc, [] => some acc
  | acc, c :: r => if 48 ≤ c.toNat ∧ c.toNat ≤ 57 then dig (10 * acc + (c.toNat - 48)) r else none
theorem dig_append : ∀ (l : List UInt8) (acc : Nat) (r : List UInt8), dig acc (l ++ r) = (dig acc l).bind fun m => dig m r
  | [], acc, r => rfl
  | c :: l, acc, r => by
    rw [List.cons_append, dig, dig]
    split
    · exact dig_append l _ r
    · rfl
theorem dig_digits : ∀ (n : Nat), dig 0 (Lib.decDigits n) = some n := by
  intro n
  induction n using Nat.strongRecOn with
  | _ n ih =>
    have hc : ∀ d, d < 10 → (UInt8.ofNat (48 + d)).toNat = 48 + d := fun d hd => by rw [UInt8.toNat_ofNat']; omega
    rw [Lib.decDigits]
    by_cases h : n < 10
    · rw [dif_pos h, dig, hc n h, if_pos (by omega), dig]; congr 1; omega
    · rw [dif_neg h, dig_append, ih (n / 10) (by omega), Option.bind_some, dig, hc _ (by omega), if_pos (by omega), dig]; congr 1; omega
theorem dig_le : ∀ (l : List UInt8) (acc n : Nat), dig acc l = some n → acc ≤ n
  | [], acc, n, h => by rw [dig] at h; injection h with h; omega
  | c :: l, acc, n, h => by
    rw [dig] at h
    split at h
    · have := dig_le l _ n h; omega
    · cases h
theorem parse_dig : ∀ (l : List UInt8) (acc n : Nat), dig acc l = some n → n < 1000000000000 → Lib.parseUint10 acc l = .ok n
  | [], acc, n, h, _ => by rw [dig] at h; injection h with h; rw [Lib.parseUint10, h]
  | c :: l, acc, n, h, hb => by
    rw [dig] at h
    split at h
    · rename_i hc
      have := dig_le l _ n h
      rw [Lib.parseUint10, if_pos hc, if_neg (by omega), if_neg (by omega), Nat.mul_comm acc 10]
      exact parse_dig l _ n h hb
    · cases h
theorem atoi_digits (n : Nat) (h : n ≤ 1000000000) : Lib.atoiAll (Lib.decDigits n) = .ok (n : Int) := by
  have hd := dig_digits n
  have hp := parse_dig _ 0 n hd (by omega)
  cases hl : Lib.decDigits n with
  | nil => exact absurd hl (by rw [Lib.decDigits]; split <;> simp)
  | cons c r =>
    rw [hl] at hd hp
    rw [dig] at hd
    have hc : 48 ≤ c.toNat ∧ c.toNat ≤ 57 := by
      by_cases hc : 48 ≤ c.toNat ∧ c.toNat ≤ 57
      · exact hc
      · rw [if_neg hc] at hd; cases hd
    unfold Lib.atoiAll
    dsimp only
    rw [if_neg (show ¬ (c.toNat = 43 ∨ c.toNat = 45) by omega), Lib.parseMag, if_neg (List.cons_ne_nil _ _), hp]
    dsimp only
    rw [if_neg (by omega), if_neg (by omega), if_neg (by omega)]
theorem decText_len_le : ∀ (L n : Nat), n < 10 ^ (L + 1) → (decText n).size ≤ L + 1 := by
  intro L
  induction L with
  | zero => intro n h; rw [decText_small (by simpa using h), strOfNums_size, List.length_singleton]; omega
  | succ L ih =>
    intro n h
    by_cases hs : n < 10
    · rw [decText_small hs, strOfNums_size, List.length_singleton]; omega
    · have := ih (n / 10) (by rw [Nat.pow_succ] at h; omega)
      rw [decText_big hs, app_size, strOfNums_size, List.length_singleton]; omega
def finRead (a : ByteArray) (o : Option Nat) : Int × Bool := match o with
  | some n => if n ≤ 1000000000 ∧ decText n = a then ((n : Int), true) else (0, false)
  | none => (0, false)
theorem finRead_some (a : ByteArray) (n : Nat) : finRead a (some n) = if n ≤ 1000000000 ∧ decText n = a then ((n : Int), true) else (0, false) := rfl
def readDec (a : ByteArray) : Int × Bool := finRead a (if a.size ≤ 10 then dig 0 a.data.toList else none)
theorem itoaText_nat (n : Nat) : itoaText (n : Int) = decText n := by unfold itoaText decText; rw [Lib.itoa_nonneg]
theorem spec_ReadDecimal_l0 (a : ByteArray) (hz : a.size ≤ 10) : ∀ (t : List UInt8) (i m : Nat), a.data.toList.drop i = t → i ≤ a.size → m < 10 ^ i → Ev (fun k => spec_ReadDecimal.l0 k a (m : Int) (i : Int)) (finRead a (dig m t)) := by
  intro t
  induction t with
  | nil =>
    intro i m ht hi hm
    have hlen := drop_nil_len ht
    have hsz : a.size = a.data.toList.length := size_len ..
    have hpow : 10 ^ i ≤ 10 ^ 10 := Nat.pow_le_pow_right (by omega) (by omega)
    refine Ev.succ ?_
    simp only [spec_ReadDecimal.l0]
    refine Ev.neg (by omega) ?_
    rw [dig]
    by_cases c : (m : Int) > 1000000000
    · exact Ev.pos c (Ev.to (Ev.now _) (by rw [finRead_some, if_neg (by omega)]))
    · refine Ev.neg c (Ev.bind (spec_Decimal_ev (m : Int) (by omega) (by omega)) ?_)
      rw [itoaText_nat]
      by_cases e : (decText m).toList = a.toList
      · exact Ev.pos e (Ev.to (Ev.now _) (by rw [finRead_some, if_pos ⟨by omega, toList_inj e⟩]))
      · exact Ev.neg e (Ev.to (Ev.now _) (by rw [finRead_some, if_neg (fun h => e (by rw [h.2]))]))
  | cons c t ih =>
    intro i m ht hi hm
    obtain ⟨h1, h2, h3⟩ := bt_drop ht
    have hpow : 10 ^ i ≤ 10 ^ 9 := Nat.pow_le_pow_right (by omega) (by omega)
    refine Ev.succ ?_
    simp only [spec_ReadDecimal.l0, h1]
    refine Ev.pos (by omega) (Ev.pos (by omega) ?_)
    by_cases c1 : c.toNat < 48
    · exact Ev.pos (by omega) (Ev.to (Ev.now _) (by rw [dig, if_neg (by omega)]; rfl))
    by_cases c2 : c.toNat > 57
    · exact Ev.neg (by omega) (Ev.pos (by omega) (Ev.to (Ev.now _) (by rw [dig, if_neg (by omega)]; rfl)))
    have e := ih (i + 1) (10 * m + (c.toNat - 48)) h3 (by omega) (by rw [Nat.pow_succ]; omega)
    rw [show ((i + 1 : Nat) : Int) = (i : Int) + 1 from by omega, show ((10 * m + (c.toNat - 48) : Nat) : Int) = 10 * (m : Int) + (c.toNat : Int) - 48 from by omega] at e
    rw [dig, if_pos (by omega)]
    refine Ev.neg (by omega) (Ev.neg (by omega) ?_)
    rw [w64 (n := 10 * (m : Int)) (by omega) (by omega), w64 (n := (c.toNat : Int)) (by omega) (by omega), w64 (n := 10 * (m : Int) + (c.toNat : Int)) (by omega) (by omega), w64 (n := 10 * (m : Int) + (c.toNat : Int) - 48) (by omega) (by omega), w64 (n := (i : Int) + 1) (by omega) (by omega)]
    exact e
theorem spec_ReadDecimal_ev (a : ByteArray) : Ev (fun k => spec_ReadDecimal.f k a) (readDec a) := by
  unfold spec_ReadDecimal.f readDec
  by_cases h : (a.size : Int) > 10
  · exact Ev.pos h (Ev.to (Ev.now _) (by rw [if_neg (by omega)]; rfl))
  · rw [if_pos (by omega)]
    exact Ev.neg h (spec_ReadDecimal_l0 a (by omega) _ 0 0 rfl (Nat.zero_le _) (by decide))
theorem impl_ReadDecimal_eq (a : ByteArray) (hs : a.size ≤ 281474976710656) : impl_ReadDecimal.f a = some (readDec a) := by
  unfold impl_ReadDecimal.f
  rw [if_pos hs]
  by_cases hx : ∃ n : Nat, n ≤ 1000000000 ∧ decText n = a
  · obtain ⟨n, hn, rfl⟩ := hx
    have hl := decText_len_le 9 n (by omega)
    unfold readDec
    rw [if_pos (by omega), decText_data, atoi_digits n hn, dig_digits n]
    dsimp only
    rw [show (⟨(Lib.itoa (n : Int)).toArray⟩ : ByteArray) = decText n from itoaText_nat n, if_pos rfl, if_pos (by omega)]
    rw [finRead_some, if_pos ⟨hn, rfl⟩]
  · have hf : readDec a = (0, false) := by
      unfold readDec finRead
      split
      · rw [if_neg (fun h => hx ⟨_, h⟩)]
      · rfl
    rw [hf]
    split
    · rename_i v hv
      by_cases e : (⟨(Lib.itoa v).toArray⟩ : ByteArray).toList = a.toList
      · rw [if_pos e]
        by_cases g : 0 ≤ v ∧ v ≤ 1000000000
        · obtain ⟨n, rfl⟩ := Int.eq_ofNat_of_zero_le g.1
          exact absurd ⟨n, by omega, (itoaText_nat n).symm.trans (toList_inj e)⟩ hx
        · rw [if_neg g]
      · rw [if_neg e]
    · rfl

theorem FnExactReadDecimal : laws_FnExactReadDecimal.Pure := by
  intro a h
  refine Ev.rounds (r := true) ?_
  unfold laws_FnExactReadDecimal.f
  by_cases c : (a.size : Int) > 1048576
  · exact Ev.pos c (Ev.now _)
  · exact Ev.neg c (Ev.bind (spec_ReadDecimal_ev a) (Ev.bind0 (impl_ReadDecimal_eq a (by omega)) (Ev.pos rfl (Ev.neg (by simp) (Ev.now _)))))

end Go.Proofs.YtmfjnmkkhfpboaaDoor.Pure
