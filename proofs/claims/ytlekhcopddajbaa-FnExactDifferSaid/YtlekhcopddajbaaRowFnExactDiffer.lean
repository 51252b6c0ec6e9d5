/- The row of the law FnExactDiffer: whatever its arguments, read as data, the call returns true and each argument reads as it did. Conditions: the given row's own. -/
import Derived.Test.YtlekhcopddajbaaRows
import Derived.Test.YtlekhcopddajbaaOFnExactDifferx17
import Derived.Test.YtlekhcopddajbaaPureFnExactDiffer
import Derived.Test.YtlekhcopddajbaaOpen
import Derived.WalkKit
import Derived.ProofKit
import Derived.OpenShut
import Derived.ShutString
import Derived.ChangeOld
import Derived.Below
import Derived.SizedLaws
namespace Go.Proofs.Ytlekhcopddajbaa.fnExactDiffer
open Go.ChangeShapes Go.WideShapes Go.ChangeAt Go.RowKit Go.Proofs.YtlekhcopddajbaaW.PrintWords Go.Proofs.Ytlekhcopddajbaa.Base Go.Proofs.Ytlekhcopddajbaa.PFnExactDiffer
open Go.ChangeMaps (open_string shut_string)
set_option linter.unusedVariables false
theorem own : ownKnob Try.prog.godebug = none := by kernel_rfl
theorem laidOut : laidOutB Try.prog = true := by kernel_rfl
set_option maxRecDepth 100000 in
theorem opens9 : Opens Try.prog 9 Kd.string (fun x : ByteArray => x.size ≤ maxLen) := by
  have h := opens_string Try.underlying9 (by kernel_rfl)
  exact h
set_option maxRecDepth 100000 in
theorem opens34 : Opens Try.prog 34 (Kd.slice 9 Kd.string) (fun x : (List ByteArray) => (x.length ≤ maxLen ∧ ∀ y1 ∈ x, y1.size ≤ maxLen)) := by
  have h := opens_slice Try.underlying34 (by kernel_rfl) opens9
  exact h
set_option maxRecDepth 100000 in
theorem opens3 : Opens Try.prog 3 (Kd.int .i64) (fun x : Int => (Lit.int .i64 x).wf = true) := by
  have h := opens_int Try.underlying3 (by kernel_rfl)
  exact h
set_option maxRecDepth 100000 in
theorem opens36 : Opens Try.prog 36 k36 (fun x : S36 => ((Lit.int .i64 x.f0).wf = true ∧ (Lit.int .i64 x.f1).wf = true ∧ x.f2.size ≤ maxLen ∧ (x.f3.length ≤ maxLen ∧ ∀ y4 ∈ x.f3, y4.size ≤ maxLen))) := by
  have h := opens_iso (opens_struct Try.underlying36 (by kernel_rfl) (fun f' h' => by cases h'; rfl) (opensFrom_cons (k := 0) rfl opens3 (fun f' h' => by cases h'; rfl) (opensFrom_cons (k := 1) rfl opens3 (fun f' h' => by cases h'; rfl) (opensFrom_cons (k := 2) rfl opens9 (fun f' h' => by cases h'; rfl) (opensFrom_last (k := 3) rfl opens34))))) (fun x : S36 => (x.f0, x.f1, x.f2, x.f3)) (fun a => ⟨a.1, a.2.1, a.2.2.1, a.2.2.2⟩) (fun _ => rfl)
  exact h
set_option maxRecDepth 100000 in
theorem opens38 : Opens Try.prog 38 k38 (fun x : S38 => (x.f0.size ≤ maxLen ∧ ((Lit.int .i64 x.f1.f0).wf = true ∧ (Lit.int .i64 x.f1.f1).wf = true ∧ x.f1.f2.size ≤ maxLen ∧ (x.f1.f3.length ≤ maxLen ∧ ∀ y7 ∈ x.f1.f3, y7.size ≤ maxLen)))) := by
  have h := opens_iso (opens_struct Try.underlying38 (by kernel_rfl) (fun f' h' => by cases h'; rfl) (opensFrom_cons (k := 0) rfl opens9 (fun f' h' => by cases h'; rfl) (opensFrom_last (k := 1) rfl opens36))) (fun x : S38 => (x.f0, x.f1)) (fun a => ⟨a.1, a.2⟩) (fun _ => rfl)
  exact h
set_option maxRecDepth 100000 in
theorem opens22 : Opens Try.prog 22 (Kd.slice 38 k38) (fun x : (List S38) => (x.length ≤ maxLen ∧ ∀ y1 ∈ x, (y1.f0.size ≤ maxLen ∧ ((Lit.int .i64 y1.f1.f0).wf = true ∧ (Lit.int .i64 y1.f1.f1).wf = true ∧ y1.f1.f2.size ≤ maxLen ∧ (y1.f1.f3.length ≤ maxLen ∧ ∀ y8 ∈ y1.f1.f3, y8.size ≤ maxLen))))) := by
  have h := opens_slice Try.underlying22 (by kernel_rfl) opens38
  exact h
set_option maxRecDepth 100000 in
theorem lifted (os : Os) (started : os.Started) (H : Type) (enc : TypeId × Value → H) :
    ReturnsInHanded {} Try.checked os 3 .any (Rows.fnExactDifferSpec.pre6 enc Try.prog Try.f3 Rows.fnExactDifferRow.domain false) (Rows.fnExactDifferSpec.post enc Try.prog Try.f3 false true false false) := by
  refine returnsInHanded_of_change_sized (C := Try.checked) own started (by kernel_rfl) Try.func3
    (ChangeSpec.witness6 (enc := enc) (C := Try.checked) false ⟨#[], #[.slice none 0 0, .slice none 0 0], []⟩ 8 (by kernel_rfl) (by kernel_rfl) (by kernel_rfl) (by kernel_rfl)) ?_
  intro W base args ds gs before hval0 hW hcnd hsz0 _
  have hsz : (DataW.weightsEach Try.prog (Try.f3.params.toList ++ Rows.fnExactDifferSpec.plain.varTypes Try.prog) (ds ++ gs)).all (· ≤ reachBytes) = true := hsz0
  have hval : ∀ (j : Nat) t v, Try.f3.params[j]? = some t → args[j]? = some v → Value.okWide Try.prog W .any base t v := hval0
  have hW' := hW
  obtain ⟨p, q, hA0, hV, rfl, hfz, hnd⟩ := hW
  have hA : DataW.TrodAll enc Try.prog W 0 (fun _ => true) true Try.f3.params.toList args.toList ds p := hA0
  rw [Try.params3] at hA hval hsz
  obtain ⟨v0, vs0, d0, ds0, p0, q0, hargs, rfl, rfl, h0, r0⟩ := trodAll_cons hA
  obtain ⟨v1, vs1, d1, ds1, p1, q1, rfl, rfl, rfl, h1, r1⟩ := trodAll_cons r0
  obtain ⟨rfl, rfl, rfl⟩ := trodAll_nil r1
  obtain rfl : args = #[v0, v1] := by cases args; simp_all
  obtain ⟨rfl, rfl⟩ := trodVars_none hV
  obtain ⟨A0, c0, x0, rfl, hl0, hC0, ok0⟩ := open_sl Try.underlying22 opens22 (hval 0 22 v0 rfl rfl) h0
  have lt0 : ∀ x ∈ p0, x.block < W.heap.size := by obtain ⟨m, hm⟩ := h0; exact DataW.trod_lt m _ _ _ hm
  obtain ⟨A1, c1, x1, rfl, hl1, hC1, ok1⟩ := open_sl Try.underlying22 opens22 (hval 1 22 v1 rfl rfl) h1
  have lt1 : ∀ x ∈ p1, x.block < W.heap.size := by obtain ⟨m, hm⟩ := h1; exact DataW.trod_lt m _ _ _ hm
  clear hA0 hval0 hsz0 hsz
  obtain ⟨k, hk⟩ := Pure.FnExactDiffer (x0) (x1) (ok0) (ok1)
  refine (laws_FnExactDiffer.calls k (A0) (c0) (x0) (A1) (c1) (x1) true W hC0 hl0 hC1 hl1 hk).mono fun e W' ⟨he, bel⟩ => ?_
  subst he
  exact ⟨_, rfl, _, _, _, [], _, [], hW', trodAll_mk1 (shut_bool Try.underlying4 _), (trodAll_cons_mk (Below.trod laidOut (by kernel_rfl) (of_decide_eq_true (by kernel_rfl)) h0 bel lt0) (trodAll_cons_mk (Below.trod laidOut (by kernel_rfl) (of_decide_eq_true (by kernel_rfl)) h1 bel lt1) trodAll_mk0)), rfl, bel.frame _, fun h => by cases h⟩
theorem over : Rows.fnExactDifferRow.holds Try.pinned (OpenSpec.ofChange Rows.fnExactDifferSpec) :=
  OpenClaim.holds_of_wide 3 Try.f3 rfl rfl rfl rfl rfl rfl rfl ⟨rfl, rfl, rfl, rfl, rfl⟩ rfl rfl rfl rfl rfl (by kernel_rfl) Try.func3 (by kernel_rfl)
    (of_decide_eq_true (by kernel_rfl)) (by unfold Func.isWrapper; first | (rw [if_pos (by decide +kernel)]; kernel_rfl) | (rw [if_neg (by decide +kernel)]; exact ⟨rfl, rfl⟩))
    (fun os started H enc _ => lifted os started H enc)
theorem proved : Rows.FnExactDifferSaid := over
#print axioms proved
end Go.Proofs.Ytlekhcopddajbaa.fnExactDiffer
namespace Go.Proofs.Ytlekhcopddajbaa
/-- The row, under a short name, for the claim. -/
theorem fnExactDiffer_holds : Rows.FnExactDifferSaid := fnExactDiffer.proved
end Go.Proofs.Ytlekhcopddajbaa
