/- For every whole number both programs' SegName come to the same text. -/
import Derived.Test.YtmfjnmkkhfpboaaDoorOFnExactSegNamex1
import Derived.Test.YtmfjnmkkhfpboaaDoorBase
import Derived.Test.YtmfjnmkkhfpboaaDoorBase2
import Derived.Test.YtmfjnmkkhfpboaaDoorBase3
namespace Go.Proofs.YtmfjnmkkhfpboaaDoor.Pure
open Go.RowKit Go.Proofs.YtmfjnmkkhfpboaaDoor.PFnExactSegName Go.Proofs.YtmfjnmkkhfpboaaDoorW.PrintWords Go.Proofs.YtmfjnmkkhfpboaaDoorW.PrintLast Go.Proofs.YtmfjnmkkhfpboaaDoor.Base
set_option linter.unusedVariables false
set_option linter.unusedSimpArgs false

theorem spec_l01In_eq (a b c : Int) : spec_l01In.f a b c = some (decide (b ≤ a ∧ a ≤ c)) := by
  unfold spec_l01In.f
  by_cases h : b ≤ a <;> simp [h]

theorem impl_within_eq (a b c : Int) : impl_within.f a b c = some (decide (b ≤ a ∧ a ≤ c)) := by
  unfold impl_within.f
  by_cases h : b ≤ a <;> simp [h]

def decText (n : Nat) : ByteArray := ⟨(Lib.decDigits n).toArray⟩
theorem decText_data (n : Nat) : (decText n).data.toList = Lib.decDigits n := by simp [decText]
theorem digit_text (n : Nat) (h : n < 10) : strOfNums [((48 + n : Nat) : Int)] = ⟨#[UInt8.ofNat (48 + n)]⟩ := by
  apply ba_ext
  rw [strOfNums_data]
  show [UInt8.ofNat (((48 + n : Nat) : Int)).toNat] = _
  rw [Int.toNat_natCast]
theorem spec_l01Figure_eq (n : Nat) (h : n < 10) : spec_l01Figure.f (n : Int) = some ((48 + n : Nat) : Int) := by
  unfold spec_l01Figure.f
  rw [if_pos (by omega), w64 (by omega) (by omega)]
  congr 1
  omega
theorem decText_small {n : Nat} (h : n < 10) : decText n = strOfNums [((48 + n : Nat) : Int)] := by
  rw [digit_text n h]
  apply ba_ext
  rw [decText_data, Lib.decDigits, dif_pos h]
theorem decText_big {n : Nat} (h : ¬ n < 10) : decText n = decText (n / 10) ++ strOfNums [((48 + n % 10 : Nat) : Int)] := by
  rw [digit_text (n % 10) (by omega)]
  apply ba_ext
  rw [app_data, decText_data, decText_data, Lib.decDigits, dif_neg h]
theorem spec_Decimal_l0 : ∀ (n : Nat) (acc : ByteArray), 0 < n → n < 4611686018427387904 → acc.size + n < 9223372036854775807 → Ev (fun k => spec_Decimal.l0 k (n : Int) false acc) (decText n ++ acc) := by
  intro n
  induction n using Nat.strongRecOn with
  | _ n ih =>
    intro acc h0 h1 h2
    have hz : (strOfNums [((48 + n % 10 : Nat) : Int)]).size = 1 := by rw [strOfNums_size, List.length_singleton]
    refine Ev.succ ?_
    simp only [spec_Decimal.l0]
    rw [tmodp (by omega), tdivp (by omega), w64 (n := (n : Int) / 10) (by omega) (by omega), show (n : Int) % 10 = ((n % 10 : Nat) : Int) from by omega, show (n : Int) / 10 = ((n / 10 : Nat) : Int) from by omega]
    refine Ev.neg (by omega) (Ev.neg (by omega) (Ev.bind0 (spec_l01Figure_eq (n % 10) (by omega)) (Ev.bind0 rfl (Ev.pos (by rw [hz]; omega) ?_))))
    by_cases hs : n < 10
    · rw [show n / 10 = 0 from by omega, show n % 10 = n from by omega, decText_small hs]
      exact Ev.step (f := fun _ => some (strOfNums [((48 + n : Nat) : Int)] ++ acc)) (fun k => by rw [spec_Decimal.l0, if_pos (by omega), if_neg (by decide)]) (Ev.now _)
    · rw [decText_big hs, ByteArray.append_assoc]
      exact ih (n / 10) (by omega) _ (by omega) (by omega) (by rw [app_size, hz]; omega)
theorem spec_Decimal_nat (n : Nat) (h : n < 4611686018427387904) : Ev (fun k => spec_Decimal.f k (n : Int)) (decText n) := by
  unfold spec_Decimal.f
  by_cases h0 : n = 0
  · subst h0
    rw [decText_small (by omega)]
    exact Ev.pos (by omega) (Ev.ret rfl)
  · rw [show decide ((n : Int) < 0) = false from decide_eq_false (by omega)]
    have e := spec_Decimal_l0 n (⟨#[]⟩ : ByteArray) (by omega) h (by rw [show (⟨#[]⟩ : ByteArray).size = 0 from rfl]; omega)
    rw [show decText n ++ (⟨#[]⟩ : ByteArray) = decText n from by apply ba_ext; rw [app_data]; simp] at e
    exact Ev.neg (by omega) e
theorem decText_len (n : Nat) (h : n < 100) : (decText n).size ≤ 2 := by
  have h1 : ∀ m : Nat, m < 10 → (decText m).size = 1 := fun m hm => by rw [decText_small hm, strOfNums_size, List.length_singleton]
  by_cases hs : n < 10
  · rw [h1 n hs]; omega
  · rw [decText_big hs, app_size, h1 _ (by omega), strOfNums_size, List.length_singleton]; omega
theorem impl_Decimal_small (n : Nat) (h : n < 100) : impl_Decimal.f (n : Int) = some (decText n) := by
  unfold impl_Decimal.f decText
  rw [if_pos (by omega), if_pos (by omega), Int.toNat_natCast]
def segName (a : Int) : ByteArray := if 0 ≤ a ∧ a ≤ 99 then (⟨#[98]⟩ : ByteArray) ++ decText a.toNat else (⟨#[]⟩ : ByteArray)
theorem spec_SegName_ev (a : Int) : Ev (fun k => spec_SegName.f k a) (segName a) := by
  unfold spec_SegName.f segName
  refine Ev.bind0 (spec_l01In_eq _ _ _) ?_
  by_cases h : 0 ≤ a ∧ a ≤ 99
  · obtain ⟨n, rfl⟩ := Int.eq_ofNat_of_zero_le h.1
    have := decText_len n (by omega)
    rw [if_pos h, Int.toNat_natCast]
    exact Ev.pos (decide_eq_true h) (Ev.bind (spec_Decimal_nat n (by omega)) (Ev.pos (by omega) (Ev.now _)))
  · rw [if_neg h]
    exact Ev.neg (by simpa using h) (Ev.now _)
theorem impl_SegName_eq (a : Int) : impl_SegName.f a = some (segName a) := by
  unfold impl_SegName.f segName
  rw [impl_within_eq, Option.bind_some]
  by_cases h : 0 ≤ a ∧ a ≤ 99
  · obtain ⟨n, rfl⟩ := Int.eq_ofNat_of_zero_le h.1
    have := decText_len n (by omega)
    rw [if_pos h, if_pos (decide_eq_true h), Int.toNat_natCast, impl_Decimal_small n (by omega), Option.bind_some, if_pos (by omega)]
  · rw [if_neg h, if_neg (by simpa using h)]

theorem FnExactSegName : laws_FnExactSegName.Pure := by
  intro a h
  refine Ev.rounds (r := true) ?_
  unfold laws_FnExactSegName.f
  exact Ev.bind (spec_SegName_ev a) (Ev.bind0 (impl_SegName_eq a) (Ev.pos rfl (Ev.now _)))

end Go.Proofs.YtmfjnmkkhfpboaaDoor.Pure
