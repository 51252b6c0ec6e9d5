/- The row of the law FnExactHintText: whatever its arguments, read as data, the call returns true and each argument reads as it did. Conditions: the given row's own. -/
import Derived.Test.YtliemdoegicbhaaRows
import Derived.Test.YtliemdoegicbhaaOFnExactHintTextx7
import Derived.Test.YtliemdoegicbhaaPureFnExactHintText
import Derived.Test.YtliemdoegicbhaaOpen
import Derived.WalkKit
import Derived.ProofKit
import Derived.OpenShut
import Derived.ShutString
import Derived.ChangeOld
import Derived.Below
import Derived.SizedLaws
namespace Go.Proofs.Ytliemdoegicbhaa.fnExactHintText
open Go.ChangeShapes Go.WideShapes Go.ChangeAt Go.RowKit Go.Proofs.YtliemdoegicbhaaW.PrintWords Go.Proofs.Ytliemdoegicbhaa.Base Go.Proofs.Ytliemdoegicbhaa.PFnExactHintText
open Go.ChangeMaps (open_string shut_string)
set_option linter.unusedVariables false
theorem own : ownKnob Try.prog.godebug = none := by kernel_rfl
theorem laidOut : laidOutB Try.prog = true := by kernel_rfl
set_option maxRecDepth 100000 in
theorem opens3 : Opens Try.prog 3 (Kd.int .i64) (fun x : Int => (Lit.int .i64 x).wf = true) := by
  have h := opens_int Try.underlying3 (by kernel_rfl)
  exact h
set_option maxRecDepth 100000 in
theorem opens9 : Opens Try.prog 9 Kd.string (fun x : ByteArray => x.size ≤ maxLen) := by
  have h := opens_string Try.underlying9 (by kernel_rfl)
  exact h
set_option maxRecDepth 100000 in
theorem opens73 : Opens Try.prog 73 k73 (fun x : S73 => (x.f0.size ≤ maxLen ∧ (Lit.int .i64 x.f1).wf = true ∧ (Lit.int .i64 x.f2).wf = true ∧ (Lit.int .i64 x.f3).wf = true)) := by
  have h := opens_iso (opens_struct Try.underlying73 (by kernel_rfl) (fun f' h' => by cases h'; rfl) (opensFrom_cons (k := 0) rfl opens9 (fun f' h' => by cases h'; rfl) (opensFrom_cons (k := 1) rfl opens3 (fun f' h' => by cases h'; rfl) (opensFrom_cons (k := 2) rfl opens3 (fun f' h' => by cases h'; rfl) (opensFrom_last (k := 3) rfl opens3))))) (fun x : S73 => (x.f0, x.f1, x.f2, x.f3)) (fun a => ⟨a.1, a.2.1, a.2.2.1, a.2.2.2⟩) (fun _ => rfl)
  exact h
set_option maxRecDepth 100000 in
theorem opens22 : Opens Try.prog 22 (Kd.slice 73 k73) (fun x : (List S73) => (x.length ≤ maxLen ∧ ∀ y1 ∈ x, (y1.f0.size ≤ maxLen ∧ (Lit.int .i64 y1.f1).wf = true ∧ (Lit.int .i64 y1.f2).wf = true ∧ (Lit.int .i64 y1.f3).wf = true))) := by
  have h := opens_slice Try.underlying22 (by kernel_rfl) opens73
  exact h
set_option maxRecDepth 100000 in
theorem lifted (os : Os) (started : os.Started) (H : Type) (enc : TypeId × Value → H) :
    ReturnsInHanded {} Try.checked os 10 .any (Rows.fnExactHintTextSpec.pre6 enc Try.prog Try.f10 Rows.fnExactHintTextRow.domain false) (Rows.fnExactHintTextSpec.post enc Try.prog Try.f10 false true false false) := by
  refine returnsInHanded_of_change_sized (C := Try.checked) own started (by kernel_rfl) Try.func10
    (ChangeSpec.witness6 (enc := enc) (C := Try.checked) false ⟨#[], #[.slice none 0 0], []⟩ 8 (by kernel_rfl) (by kernel_rfl) (by kernel_rfl) (by kernel_rfl)) ?_
  intro W base args ds gs before hval0 hW hcnd hsz0 _
  have hsz : (DataW.weightsEach Try.prog (Try.f10.params.toList ++ Rows.fnExactHintTextSpec.plain.varTypes Try.prog) (ds ++ gs)).all (· ≤ reachBytes) = true := hsz0
  have hval : ∀ (j : Nat) t v, Try.f10.params[j]? = some t → args[j]? = some v → Value.okWide Try.prog W .any base t v := hval0
  have hW' := hW
  obtain ⟨p, q, hA0, hV, rfl, hfz, hnd⟩ := hW
  have hA : DataW.TrodAll enc Try.prog W 0 (fun _ => true) true Try.f10.params.toList args.toList ds p := hA0
  rw [Try.params10] at hA hval hsz
  obtain ⟨v0, vs0, d0, ds0, p0, q0, hargs, rfl, rfl, h0, r0⟩ := trodAll_cons hA
  obtain ⟨rfl, rfl, rfl⟩ := trodAll_nil r0
  obtain rfl : args = #[v0] := by cases args; simp_all
  obtain ⟨rfl, rfl⟩ := trodVars_none hV
  obtain ⟨A0, c0, x0, rfl, hl0, hC0, ok0⟩ := open_sl Try.underlying22 opens22 (hval 0 22 v0 rfl rfl) h0
  have lt0 : ∀ x ∈ p0, x.block < W.heap.size := by obtain ⟨m, hm⟩ := h0; exact DataW.trod_lt m _ _ _ hm
  clear hA0 hval0 hsz0 hsz
  obtain ⟨k, hk⟩ := Pure.FnExactHintText (x0) (ok0)
  refine (laws_FnExactHintText.calls k (A0) (c0) (x0) true W hC0 hl0 hk).mono fun e W' ⟨he, bel⟩ => ?_
  subst he
  exact ⟨_, rfl, _, _, _, [], _, [], hW', trodAll_mk1 (shut_bool Try.underlying4 _), (trodAll_cons_mk (Below.trod laidOut (by kernel_rfl) (of_decide_eq_true (by kernel_rfl)) h0 bel lt0) trodAll_mk0), rfl, bel.frame _, fun h => by cases h⟩
theorem over : Rows.fnExactHintTextRow.holds Try.pinned (OpenSpec.ofChange Rows.fnExactHintTextSpec) :=
  OpenClaim.holds_of_wide 10 Try.f10 rfl rfl rfl rfl rfl rfl rfl ⟨rfl, rfl, rfl, rfl, rfl⟩ rfl rfl rfl rfl rfl (by kernel_rfl) Try.func10 (by kernel_rfl)
    (of_decide_eq_true (by kernel_rfl)) (by unfold Func.isWrapper; first | (rw [if_pos (by decide +kernel)]; kernel_rfl) | (rw [if_neg (by decide +kernel)]; exact ⟨rfl, rfl⟩))
    (fun os started H enc _ => lifted os started H enc)
theorem proved : Rows.FnExactHintTextSaid := over
#print axioms proved
end Go.Proofs.Ytliemdoegicbhaa.fnExactHintText
namespace Go.Proofs.Ytliemdoegicbhaa
/-- The row, under a short name, for the claim. -/
theorem fnExactHintText_holds : Rows.FnExactHintTextSaid := fnExactHintText.proved
end Go.Proofs.Ytliemdoegicbhaa
