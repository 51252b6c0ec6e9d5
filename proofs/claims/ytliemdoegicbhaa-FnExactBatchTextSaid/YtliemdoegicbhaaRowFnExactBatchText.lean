/- The row of the law FnExactBatchText: whatever its arguments, read as data, the call returns true and each argument reads as it did. Conditions: the given row's own. -/
import Derived.Test.YtliemdoegicbhaaRows
import Derived.Test.YtliemdoegicbhaaOFnExactBatchTextx7
import Derived.Test.YtliemdoegicbhaaPureFnExactBatchText
import Derived.Test.YtliemdoegicbhaaOpen
import Derived.WalkKit
import Derived.ProofKit
import Derived.OpenShut
import Derived.ShutString
import Derived.ChangeOld
import Derived.Below
import Derived.SizedLaws
namespace Go.Proofs.Ytliemdoegicbhaa.fnExactBatchText
open Go.ChangeShapes Go.WideShapes Go.ChangeAt Go.RowKit Go.Proofs.YtliemdoegicbhaaW.PrintWords Go.Proofs.Ytliemdoegicbhaa.Base Go.Proofs.Ytliemdoegicbhaa.PFnExactBatchText
open Go.ChangeMaps (open_string shut_string)
set_option linter.unusedVariables false
theorem own : ownKnob Try.prog.godebug = none := by kernel_rfl
theorem laidOut : laidOutB Try.prog = true := by kernel_rfl
set_option maxRecDepth 100000 in
theorem opens4 : Opens Try.prog 4 Kd.bool (fun x : Bool => True) := by
  have h := opens_bool Try.underlying4 (by kernel_rfl)
  exact h
set_option maxRecDepth 100000 in
theorem opens9 : Opens Try.prog 9 Kd.string (fun x : ByteArray => x.size ≤ maxLen) := by
  have h := opens_string Try.underlying9 (by kernel_rfl)
  exact h
set_option maxRecDepth 100000 in
theorem opens112 : Opens Try.prog 112 k112 (fun x : S112 => (x.f0.size ≤ maxLen ∧ x.f1.size ≤ maxLen ∧ True)) := by
  have h := opens_iso (opens_struct Try.underlying112 (by kernel_rfl) (fun f' h' => by cases h'; rfl) (opensFrom_cons (k := 0) rfl opens9 (fun f' h' => by cases h'; rfl) (opensFrom_cons (k := 1) rfl opens9 (fun f' h' => by cases h'; rfl) (opensFrom_last (k := 2) rfl opens4)))) (fun x : S112 => (x.f0, x.f1, x.f2)) (fun a => ⟨a.1, a.2.1, a.2.2⟩) (fun _ => rfl)
  exact h
set_option maxRecDepth 100000 in
theorem opens40 : Opens Try.prog 40 (Kd.slice 112 k112) (fun x : (List S112) => (x.length ≤ maxLen ∧ ∀ y1 ∈ x, (y1.f0.size ≤ maxLen ∧ y1.f1.size ≤ maxLen ∧ True))) := by
  have h := opens_slice Try.underlying40 (by kernel_rfl) opens112
  exact h
set_option maxRecDepth 100000 in
theorem opens3 : Opens Try.prog 3 (Kd.int .i64) (fun x : Int => (Lit.int .i64 x).wf = true) := by
  have h := opens_int Try.underlying3 (by kernel_rfl)
  exact h
set_option maxRecDepth 100000 in
theorem opens42 : Opens Try.prog 42 (Kd.pair (Kd.int .i64) (Kd.slice 112 k112)) (fun x : (Int × (List S112)) => ((Lit.int .i64 x.1).wf = true ∧ (x.2.length ≤ maxLen ∧ ∀ y3 ∈ x.2, (y3.f0.size ≤ maxLen ∧ y3.f1.size ≤ maxLen ∧ True)))) := by
  have h := opens_struct Try.underlying42 (by kernel_rfl) (fun f' h' => by cases h'; rfl) (opensFrom_cons (k := 0) rfl opens3 (fun f' h' => by cases h'; rfl) (opensFrom_last (k := 1) rfl opens40))
  exact h
set_option maxRecDepth 100000 in
theorem lifted (os : Os) (started : os.Started) (H : Type) (enc : TypeId × Value → H) :
    ReturnsInHanded {} Try.checked os 8 .any (Rows.fnExactBatchTextSpec.pre6 enc Try.prog Try.f8 Rows.fnExactBatchTextRow.domain false) (Rows.fnExactBatchTextSpec.post enc Try.prog Try.f8 false true false false) := by
  refine returnsInHanded_of_change_sized (C := Try.checked) own started (by kernel_rfl) Try.func8
    (ChangeSpec.witness6 (enc := enc) (C := Try.checked) false ⟨#[], #[.agg #[.int .i64 0, .slice none 0 0]], []⟩ 8 (by kernel_rfl) (by kernel_rfl) (by kernel_rfl) (by kernel_rfl)) ?_
  intro W base args ds gs before hval0 hW hcnd hsz0 _
  have hsz : (DataW.weightsEach Try.prog (Try.f8.params.toList ++ Rows.fnExactBatchTextSpec.plain.varTypes Try.prog) (ds ++ gs)).all (· ≤ reachBytes) = true := hsz0
  have hval : ∀ (j : Nat) t v, Try.f8.params[j]? = some t → args[j]? = some v → Value.okWide Try.prog W .any base t v := hval0
  have hW' := hW
  obtain ⟨p, q, hA0, hV, rfl, hfz, hnd⟩ := hW
  have hA : DataW.TrodAll enc Try.prog W 0 (fun _ => true) true Try.f8.params.toList args.toList ds p := hA0
  rw [Try.params8] at hA hval hsz
  obtain ⟨v0, vs0, d0, ds0, p0, q0, hargs, rfl, rfl, h0, r0⟩ := trodAll_cons hA
  obtain ⟨rfl, rfl, rfl⟩ := trodAll_nil r0
  obtain rfl : args = #[v0] := by cases args; simp_all
  obtain ⟨rfl, rfl⟩ := trodVars_none hV
  obtain ⟨x0, cs0, rfl, kk0, ok0⟩ := open_agg Try.underlying42 opens42 (hval 0 42 v0 rfl rfl) h0
  obtain ⟨_, _, hcs0, rfl, ⟨A0_0, c0_0, rfl, hl0_0, hC0_0⟩⟩ := kk0
  obtain rfl : cs0 = #[.int .i64 x0.1, .slice A0_0 x0.2.length c0_0] := Array.toList_inj.1 (hcs0.trans rfl)
  have lt0 : ∀ x ∈ p0, x.block < W.heap.size := by obtain ⟨m, hm⟩ := h0; exact DataW.trod_lt m _ _ _ hm
  clear hA0 hval0 hsz0 hsz
  obtain ⟨k, hk⟩ := Pure.FnExactBatchText (x0.1) (x0.2) (ok0)
  refine (laws_FnExactBatchText.calls k (x0.1) (A0_0) (c0_0) (x0.2) true W hC0_0 hl0_0 hk).mono fun e W' ⟨he, bel⟩ => ?_
  subst he
  exact ⟨_, rfl, _, _, _, [], _, [], hW', trodAll_mk1 (shut_bool Try.underlying4 _), (trodAll_cons_mk (Below.trod laidOut (by kernel_rfl) (of_decide_eq_true (by kernel_rfl)) h0 bel lt0) trodAll_mk0), rfl, bel.frame _, fun h => by cases h⟩
theorem over : Rows.fnExactBatchTextRow.holds Try.pinned (OpenSpec.ofChange Rows.fnExactBatchTextSpec) :=
  OpenClaim.holds_of_wide 8 Try.f8 rfl rfl rfl rfl rfl rfl rfl ⟨rfl, rfl, rfl, rfl, rfl⟩ rfl rfl rfl rfl rfl (by kernel_rfl) Try.func8 (by kernel_rfl)
    (of_decide_eq_true (by kernel_rfl)) (by unfold Func.isWrapper; first | (rw [if_pos (by decide +kernel)]; kernel_rfl) | (rw [if_neg (by decide +kernel)]; exact ⟨rfl, rfl⟩))
    (fun os started H enc _ => lifted os started H enc)
theorem proved : Rows.FnExactBatchTextSaid := over
#print axioms proved
end Go.Proofs.Ytliemdoegicbhaa.fnExactBatchText
namespace Go.Proofs.Ytliemdoegicbhaa
/-- The row, under a short name, for the claim. -/
theorem fnExactBatchText_holds : Rows.FnExactBatchTextSaid := fnExactBatchText.proved
end Go.Proofs.Ytliemdoegicbhaa
