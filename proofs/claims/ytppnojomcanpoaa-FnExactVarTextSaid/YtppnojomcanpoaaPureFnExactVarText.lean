/- For every number both programs' VarText come to the same text and the same answer. -/
import Derived.Test.YtppnojomcanpoaaPFnExactVarTextx1
import Derived.Test.YtppnojomcanpoaaBase
namespace Go.Proofs.Ytppnojomcanpoaa.Pure
open Go.RowKit Go.Proofs.Ytppnojomcanpoaa.PFnExactVarText Go.Proofs.YtppnojomcanpoaaW.PrintWords Go.Proofs.YtppnojomcanpoaaW.PrintLast Go.Proofs.Ytppnojomcanpoaa.Base
set_option linter.unusedVariables false
set_option linter.unusedSimpArgs false

theorem spec_l01In_eq (a b c : Int) : spec_l01In.f a b c = some (decide (b ≤ a ∧ a ≤ c)) := by
  unfold spec_l01In.f
  by_cases h : b ≤ a <;> simp [h]

theorem spec_l01Var_l0 : ∀ (n : Nat) (acc : List Int), acc.length + n < 140737488355327 → Ev (fun k => spec_l01Var.l0 k (n : Int) acc) (strOfNums (acc ++ vl n)) := by
  intro n
  induction n using Nat.strongRecOn with
  | _ n ih =>
    intro acc h
    by_cases hn : n > 127
    · refine Ev.step (f := fun k => spec_l01Var.l0 k ((n / 128 : Nat) : Int) (acc ++ [((n % 128 + 128 : Nat) : Int)])) (fun k => ?_) ?_
      · rw [spec_l01Var.l0, if_pos (by omega), if_pos (by omega), quo128 (by omega), rem128]
      · have e := ih (n / 128) (by omega) (acc ++ [((n % 128 + 128 : Nat) : Int)]) (by rw [List.length_append, List.length_singleton]; omega)
        rw [vl_big hn]
        rwa [List.append_assoc] at e
    · refine Ev.step (f := fun _ => some (strOfNums (acc ++ vl n))) (fun k => ?_) (Ev.now _)
      rw [spec_l01Var.l0, if_neg (by omega), if_pos (by omega), vl_small hn, show (n : Int) % 256 = (n : Int) from by omega]
theorem spec_l01Var_ev {a : Int} (h : 0 ≤ a) (h' : a < 140737488355327) : Ev (fun k => spec_l01Var.f k a) (strOfNums (vl a.toNat)) := by
  obtain ⟨n, rfl⟩ := Int.eq_ofNat_of_zero_le h
  exact spec_l01Var_l0 n [] (by simp; omega)

theorem spec_VarText_ev (a : Int) : Ev (fun k => spec_VarText.f k a) (varText a) := by
  unfold spec_VarText.f
  refine Ev.bind0 (spec_l01In_eq _ _ _) ?_
  by_cases h : 0 ≤ a ∧ a ≤ 1000000000
  · refine Ev.pos (by simpa using h) ?_
    rw [varText_yes h.1 h.2]
    refine Ev.bind (spec_l01Var_ev h.1 (by omega)) (Ev.now _)
  · refine Ev.neg (by simpa using h) (Ev.ret (varText_no h).symm)

theorem impl_within_eq (a b c : Int) : impl_within.f a b c = some (decide (b ≤ a ∧ a ≤ c)) := by
  unfold impl_within.f
  by_cases h : b ≤ a <;> simp [h]

theorem impl_VarText_l0 : ∀ (n : Nat) (acc : List Int), acc.length + n < 140737488355327 → Ev (fun k => impl_VarText.l0 k (n : Int) acc) (strOfNums (acc ++ vl n), true) := by
  intro n
  induction n using Nat.strongRecOn with
  | _ n ih =>
    intro acc h
    by_cases hn : n > 127
    · refine Ev.step (f := fun k => impl_VarText.l0 k ((n / 128 : Nat) : Int) (acc ++ [((n % 128 + 128 : Nat) : Int)])) (fun k => ?_) ?_
      · rw [impl_VarText.l0, if_pos (by omega), if_pos (by omega), quo128 (by omega), rem128]
      · have e := ih (n / 128) (by omega) (acc ++ [((n % 128 + 128 : Nat) : Int)]) (by rw [List.length_append, List.length_singleton]; omega)
        rw [vl_big hn]
        rwa [List.append_assoc] at e
    · refine Ev.step (f := fun _ => some (strOfNums (acc ++ vl n), true)) (fun k => ?_) (Ev.now _)
      rw [impl_VarText.l0, if_neg (by omega), if_pos (by omega), vl_small hn, show (n : Int) % 256 = (n : Int) from by omega]
theorem impl_VarText_ev (a : Int) : Ev (fun k => impl_VarText.f k a) (varText a) := by
  unfold impl_VarText.f
  refine Ev.bind0 (impl_within_eq _ _ _) ?_
  by_cases h : 0 ≤ a ∧ a ≤ 1000000000
  · refine Ev.pos (by simpa using h) ?_
    rw [varText_yes h.1 h.2]
    obtain ⟨n, rfl⟩ := Int.eq_ofNat_of_zero_le h.1
    exact impl_VarText_l0 n [] (by simp; omega)
  · refine Ev.neg (by simpa using h) (Ev.ret (varText_no h).symm)

theorem FnExactVarText : laws_FnExactVarText.Pure := by
  intro a0 h0
  refine Ev.rounds (r := true) ?_
  unfold laws_FnExactVarText.f
  refine Ev.bind (spec_VarText_ev a0) (Ev.bind (impl_VarText_ev a0) ?_)
  simpa using Ev.now true

end Go.Proofs.Ytppnojomcanpoaa.Pure
