/- For every whole number both programs' Decimal come to the same text. -/
import Derived.Test.YtmfjnmkkhfpboaaDoorOFnExactDecimalx1
import Derived.Test.YtmfjnmkkhfpboaaDoorBase
import Derived.Test.YtmfjnmkkhfpboaaDoorBase2
import Derived.Test.YtmfjnmkkhfpboaaDoorBase3
namespace Go.Proofs.YtmfjnmkkhfpboaaDoor.Pure
open Go.RowKit Go.Proofs.YtmfjnmkkhfpboaaDoor.PFnExactDecimal Go.Proofs.YtmfjnmkkhfpboaaDoorW.PrintWords Go.Proofs.YtmfjnmkkhfpboaaDoorW.PrintLast Go.Proofs.YtmfjnmkkhfpboaaDoor.Base
set_option linter.unusedVariables false
set_option linter.unusedSimpArgs false

def decText (n : Nat) : ByteArray := ⟨(Lib.decDigits n).toArray⟩
theorem decText_data (n : Nat) : (decText n).data.toList = Lib.decDigits n := by simp [decText]
theorem digit_text (n : Nat) (h : n < 10) : strOfNums [((48 + n : Nat) : Int)] = ⟨#[UInt8.ofNat (48 + n)]⟩ := by
  apply ba_ext
  rw [strOfNums_data]
  show [UInt8.ofNat (((48 + n : Nat) : Int)).toNat] = _
  rw [Int.toNat_natCast]
theorem spec_l01Figure_eq (n : Nat) (h : n < 10) : spec_l01Figure.f (n : Int) = some ((48 + n : Nat) : Int) := by
  unfold spec_l01Figure.f
  rw [if_pos (by omega), w64 (by omega) (by omega)]
  congr 1
  omega
theorem decText_small {n : Nat} (h : n < 10) : decText n = strOfNums [((48 + n : Nat) : Int)] := by
  rw [digit_text n h]
  apply ba_ext
  rw [decText_data, Lib.decDigits, dif_pos h]
theorem decText_big {n : Nat} (h : ¬ n < 10) : decText n = decText (n / 10) ++ strOfNums [((48 + n % 10 : Nat) : Int)] := by
  rw [digit_text (n % 10) (by omega)]
  apply ba_ext
  rw [app_data, decText_data, decText_data, Lib.decDigits, dif_neg h]
theorem tmod_neg (n : Nat) : Int.tmod (-(n : Int)) 10 = -((n % 10 : Nat) : Int) := by rw [Int.neg_tmod, tmodp (by omega)]; omega
theorem tdiv_neg (n : Nat) : Int.tdiv (-(n : Int)) 10 = -((n / 10 : Nat) : Int) := by rw [Int.neg_tdiv, tdivp (by omega)]; omega
def minus (s : Bool) : ByteArray := if s = true then (⟨#[45]⟩ : ByteArray) else (⟨#[]⟩ : ByteArray)
def withSign (s : Bool) (n : Nat) : Int := if s = true then -(n : Int) else (n : Int)
theorem spec_Decimal_end (k : Nat) (s : Bool) (acc : ByteArray) (h : acc.size ≤ 1000) : spec_Decimal.l0 (k + 1) 0 s acc = some (minus s ++ acc) := by
  rw [spec_Decimal.l0, if_pos rfl]
  cases s with
  | true => rw [if_pos rfl, if_pos (by omega)]; rfl
  | false =>
    rw [if_neg (by decide)]
    congr 1
theorem spec_Decimal_all (s : Bool) : ∀ (L n : Nat) (acc : ByteArray), 0 < n → n ≤ 9223372036854775808 → n < 10 ^ L → acc.size + L ≤ 1000 → Ev (fun k => spec_Decimal.l0 k (withSign s n) s acc) (minus s ++ (decText n ++ acc)) := by
  intro L
  induction L with
  | zero => intro n acc h0 _ h2 _; simp at h2; omega
  | succ L ih =>
    intro n acc h0 h1 h2 h3
    have hz : (strOfNums [((48 + n % 10 : Nat) : Int)]).size = 1 := by rw [strOfNums_size, List.length_singleton]
    have hlt : n / 10 < 10 ^ L := by rw [Nat.pow_succ] at h2; omega
    have hrec : Ev (fun k => spec_Decimal.l0 k (withSign s (n / 10)) s (strOfNums [((48 + n % 10 : Nat) : Int)] ++ acc)) (minus s ++ (decText n ++ acc)) := by
      by_cases hs : n < 10
      · rw [show n / 10 = 0 from by omega, show n % 10 = n from by omega, decText_small hs]
        have e0 : withSign s 0 = 0 := by unfold withSign; split <;> rfl
        rw [e0]
        refine Ev.step (f := fun _ => some (minus s ++ (strOfNums [((48 + n : Nat) : Int)] ++ acc))) (fun k => spec_Decimal_end k s _ ?_) (Ev.now _)
        rw [app_size, strOfNums_size, List.length_singleton]; omega
      · rw [decText_big hs, ByteArray.append_assoc]
        exact ih (n / 10) _ (by omega) (by omega) hlt (by rw [app_size, hz]; omega)
    refine Ev.succ ?_
    simp only [spec_Decimal.l0]
    cases s with
    | false =>
      have hw : withSign false n = (n : Int) := rfl
      rw [hw, tmodp (by omega), tdivp (by omega), w64 (n := (n : Int) / 10) (by omega) (by omega), show (n : Int) % 10 = ((n % 10 : Nat) : Int) from by omega, show (n : Int) / 10 = ((n / 10 : Nat) : Int) from by omega]
      exact Ev.neg (by omega) (Ev.neg (by omega) (Ev.bind0 (spec_l01Figure_eq (n % 10) (by omega)) (Ev.bind0 rfl (Ev.pos (by rw [hz]; omega) hrec))))
    | true =>
      have hw : withSign true n = -(n : Int) := rfl
      rw [hw, tmod_neg, tdiv_neg, w64 (n := -((n / 10 : Nat) : Int)) (by omega) (by omega)]
      refine Ev.neg (by omega) ?_
      by_cases hm : n % 10 = 0
      · rw [hm] at hrec hz ⊢
        rw [show -((0 : Nat) : Int) = ((0 : Nat) : Int) from rfl]
        exact Ev.neg (by omega) (Ev.bind0 (spec_l01Figure_eq 0 (by omega)) (Ev.bind0 rfl (Ev.pos (by rw [hz]; omega) hrec)))
      · rw [w64 (n := - -((n % 10 : Nat) : Int)) (by omega) (by omega), Int.neg_neg]
        exact Ev.pos (by omega) (Ev.bind0 (spec_l01Figure_eq (n % 10) (by omega)) (Ev.bind0 rfl (Ev.pos (by rw [hz]; omega) hrec)))
def itoaText (a : Int) : ByteArray := ⟨(Lib.itoa a).toArray⟩
theorem spec_Decimal_ev (a : Int) (h0 : -9223372036854775808 ≤ a) (h1 : a ≤ 9223372036854775807) : Ev (fun k => spec_Decimal.f k a) (itoaText a) := by
  unfold spec_Decimal.f
  by_cases hz : a = 0
  · subst hz
    refine Ev.pos rfl (Ev.ret ?_)
    show _ = itoaText ((0 : Nat) : Int)
    unfold itoaText
    rw [Lib.itoa_nonneg]
    show _ = decText 0
    rw [decText_small (by omega)]; rfl
  · refine Ev.neg hz ?_
    by_cases hn : a < 0
    · obtain ⟨n, rfl⟩ : ∃ n : Nat, a = -(n : Int) := ⟨a.natAbs, by omega⟩
      have e := spec_Decimal_all true 19 n (⟨#[]⟩ : ByteArray) (by omega) (by omega) (by omega) (by decide)
      rw [decide_eq_true hn]
      refine Ev.to e ?_
      unfold itoaText
      rw [Lib.itoa_neg n (by omega)]
      apply ba_ext
      rw [app_data, app_data, decText_data]
      simp [minus]
    · obtain ⟨n, rfl⟩ : ∃ n : Nat, a = (n : Int) := ⟨a.toNat, by omega⟩
      have e := spec_Decimal_all false 19 n (⟨#[]⟩ : ByteArray) (by omega) (by omega) (by omega) (by decide)
      rw [decide_eq_false hn]
      refine Ev.to e ?_
      unfold itoaText
      rw [Lib.itoa_nonneg]
      apply ba_ext
      rw [app_data, app_data, decText_data]
      simp [minus]
theorem impl_Decimal_eq (a : Int) (h0 : -9223372036854775808 ≤ a) (h1 : a ≤ 9223372036854775807) : impl_Decimal.f a = some (itoaText a) := by
  unfold impl_Decimal.f
  rw [if_pos h0, if_pos h1]; rfl

theorem FnExactDecimal : laws_FnExactDecimal.Pure := by
  intro a h
  have hb : -9223372036854775808 ≤ a ∧ a ≤ 9223372036854775807 := by
    have h2 : (decide ((-9223372036854775808 : Int) ≤ a) && decide (a ≤ 9223372036854775807)) = true := h
    rw [Bool.and_eq_true, decide_eq_true_eq, decide_eq_true_eq] at h2
    exact h2
  refine Ev.rounds (r := true) ?_
  unfold laws_FnExactDecimal.f
  exact Ev.bind (spec_Decimal_ev a hb.1 hb.2) (Ev.bind0 (impl_Decimal_eq a hb.1 hb.2) (Ev.pos rfl (Ev.now _)))

end Go.Proofs.YtmfjnmkkhfpboaaDoor.Pure
