/- The row of the law FnExactDoAct: whatever its arguments, read as data, the call returns true and each argument reads as it did. Conditions: the given row's own. -/
import Derived.Test.YtgfacdhkamphiaaRows
import Derived.Test.YtgfacdhkamphiaaOFnExactDoActx13
import Derived.Test.YtgfacdhkamphiaaPureFnExactDoAct
import Derived.Test.YtgfacdhkamphiaaOpen
import Derived.WalkKit
import Derived.ProofKit
import Derived.OpenShut
import Derived.ShutString
import Derived.ChangeOld
import Derived.Below
import Derived.SizedLaws
namespace Go.Proofs.Ytgfacdhkamphiaa.fnExactDoAct
open Go.ChangeShapes Go.WideShapes Go.ChangeAt Go.RowKit Go.Proofs.YtgfacdhkamphiaaW.PrintWords Go.Proofs.Ytgfacdhkamphiaa.Base Go.Proofs.Ytgfacdhkamphiaa.PFnExactDoAct
open Go.ChangeMaps (open_string shut_string)
set_option linter.unusedVariables false
theorem own : ownKnob Try.prog.godebug = none := by kernel_rfl
theorem laidOut : laidOutB Try.prog = true := by kernel_rfl
set_option maxRecDepth 100000 in
theorem opens3 : Opens Try.prog 3 (Kd.int .i64) (fun x : Int => (Lit.int .i64 x).wf = true) := by
  have h := opens_int Try.underlying3 (by kernel_rfl)
  exact h
set_option maxRecDepth 100000 in
theorem opens9 : Opens Try.prog 9 Kd.string (fun x : ByteArray => x.size ≤ maxLen) := by
  have h := opens_string Try.underlying9 (by kernel_rfl)
  exact h
set_option maxRecDepth 100000 in
theorem opens134 : Opens Try.prog 134 k134 (fun x : S134 => (x.f0.size ≤ maxLen ∧ x.f1.size ≤ maxLen ∧ (Lit.int .i64 x.f2).wf = true)) := by
  have h := opens_iso (opens_struct Try.underlying134 (by kernel_rfl) (fun f' h' => by cases h'; rfl) (opensFrom_cons (k := 0) rfl opens9 (fun f' h' => by cases h'; rfl) (opensFrom_cons (k := 1) rfl opens9 (fun f' h' => by cases h'; rfl) (opensFrom_last (k := 2) rfl opens3)))) (fun x : S134 => (x.f0, x.f1, x.f2)) (fun a => ⟨a.1, a.2.1, a.2.2⟩) (fun _ => rfl)
  exact h
set_option maxRecDepth 100000 in
theorem opens22 : Opens Try.prog 22 (Kd.slice 134 k134) (fun x : (List S134) => (x.length ≤ maxLen ∧ ∀ y1 ∈ x, (y1.f0.size ≤ maxLen ∧ y1.f1.size ≤ maxLen ∧ (Lit.int .i64 y1.f2).wf = true))) := by
  have h := opens_slice Try.underlying22 (by kernel_rfl) opens134
  exact h
set_option maxRecDepth 100000 in
theorem opens24 : Opens Try.prog 24 (Kd.slice 134 k134) (fun x : ((List S134)) => ((x.length ≤ maxLen ∧ ∀ y1 ∈ x, (y1.f0.size ≤ maxLen ∧ y1.f1.size ≤ maxLen ∧ (Lit.int .i64 y1.f2).wf = true)))) := by
  have h := opens_struct Try.underlying24 (by kernel_rfl) (fun f' h' => by cases h'; rfl) (opensFrom_last (k := 0) rfl opens22)
  exact h
set_option maxRecDepth 100000 in
theorem opens52 : Opens Try.prog 52 (Kd.pair (Kd.int .i64) (Kd.pair Kd.string (Kd.pair Kd.string Kd.string))) (fun x : (Int × ByteArray × ByteArray × ByteArray) => ((Lit.int .i64 x.1).wf = true ∧ x.2.1.size ≤ maxLen ∧ x.2.2.1.size ≤ maxLen ∧ x.2.2.2.size ≤ maxLen)) := by
  have h := opens_struct Try.underlying52 (by kernel_rfl) (fun f' h' => by cases h'; rfl) (opensFrom_cons (k := 0) rfl opens3 (fun f' h' => by cases h'; rfl) (opensFrom_cons (k := 1) rfl opens9 (fun f' h' => by cases h'; rfl) (opensFrom_cons (k := 2) rfl opens9 (fun f' h' => by cases h'; rfl) (opensFrom_last (k := 3) rfl opens9))))
  exact h
set_option maxRecDepth 100000 in
theorem lifted (os : Os) (started : os.Started) (H : Type) (enc : TypeId × Value → H) :
    ReturnsInHanded {} Try.checked os 7 .any (Rows.fnExactDoActSpec.pre6 enc Try.prog Try.f7 Rows.fnExactDoActRow.domain false) (Rows.fnExactDoActSpec.post enc Try.prog Try.f7 false true false false) := by
  refine returnsInHanded_of_change_sized (C := Try.checked) own started (by kernel_rfl) Try.func7
    (ChangeSpec.witness6 (enc := enc) (C := Try.checked) false ⟨#[], #[.agg #[.slice none 0 0], .agg #[.int .i64 0, .string ByteArray.empty, .string ByteArray.empty, .string ByteArray.empty]], []⟩ 8 (by kernel_rfl) (by kernel_rfl) (by kernel_rfl) (by kernel_rfl)) ?_
  intro W base args ds gs before hval0 hW hcnd hsz0 _
  have hsz : (DataW.weightsEach Try.prog (Try.f7.params.toList ++ Rows.fnExactDoActSpec.plain.varTypes Try.prog) (ds ++ gs)).all (· ≤ reachBytes) = true := hsz0
  have hval : ∀ (j : Nat) t v, Try.f7.params[j]? = some t → args[j]? = some v → Value.okWide Try.prog W .any base t v := hval0
  have hW' := hW
  obtain ⟨p, q, hA0, hV, rfl, hfz, hnd⟩ := hW
  have hA : DataW.TrodAll enc Try.prog W 0 (fun _ => true) true Try.f7.params.toList args.toList ds p := hA0
  rw [Try.params7] at hA hval hsz
  obtain ⟨v0, vs0, d0, ds0, p0, q0, hargs, rfl, rfl, h0, r0⟩ := trodAll_cons hA
  obtain ⟨v1, vs1, d1, ds1, p1, q1, rfl, rfl, rfl, h1, r1⟩ := trodAll_cons r0
  obtain ⟨rfl, rfl, rfl⟩ := trodAll_nil r1
  obtain rfl : args = #[v0, v1] := by cases args; simp_all
  obtain ⟨rfl, rfl⟩ := trodVars_none hV
  obtain ⟨x0, cs0, rfl, kk0, ok0⟩ := open_agg Try.underlying24 opens24 (hval 0 24 v0 rfl rfl) h0
  obtain ⟨A0_0, c0_0, hcs0, hl0_0, hC0_0⟩ := kk0
  obtain rfl : cs0 = #[.slice A0_0 x0.length c0_0] := Array.toList_inj.1 (hcs0.trans rfl)
  have lt0 : ∀ x ∈ p0, x.block < W.heap.size := by obtain ⟨m, hm⟩ := h0; exact DataW.trod_lt m _ _ _ hm
  obtain ⟨x1, cs1, rfl, kk1, ok1⟩ := open_agg Try.underlying52 opens52 (hval 1 52 v1 rfl rfl) h1
  obtain ⟨_, _, hcs1, rfl, ⟨_, _, rfl, rfl, ⟨_, _, rfl, rfl, rfl⟩⟩⟩ := kk1
  obtain rfl : cs1 = #[.int .i64 x1.1, .string x1.2.1, .string x1.2.2.1, .string x1.2.2.2] := Array.toList_inj.1 (hcs1.trans rfl)
  have lt1 : ∀ x ∈ p1, x.block < W.heap.size := by obtain ⟨m, hm⟩ := h1; exact DataW.trod_lt m _ _ _ hm
  clear hA0 hval0 hsz0 hsz
  obtain ⟨k, hk⟩ := Pure.FnExactDoAct (x0) (x1.1) (x1.2.1) (x1.2.2.1) (x1.2.2.2) (ok0) (ok1)
  refine (laws_FnExactDoAct.calls k (A0_0) (c0_0) (x0) (x1.1) (x1.2.1) (x1.2.2.1) (x1.2.2.2) true W hC0_0 hl0_0 hk rfl).mono fun e W' ⟨he, bel⟩ => ?_
  subst he
  exact ⟨_, rfl, _, _, _, [], _, [], hW', trodAll_mk1 (shut_bool Try.underlying4 _), (trodAll_cons_mk (Below.trod laidOut (by kernel_rfl) (of_decide_eq_true (by kernel_rfl)) h0 bel lt0) (trodAll_cons_mk (Below.trod laidOut (by kernel_rfl) (of_decide_eq_true (by kernel_rfl)) h1 bel lt1) trodAll_mk0)), rfl, bel.frame _, fun h => by cases h⟩
theorem over : Rows.fnExactDoActRow.holds Try.pinned (OpenSpec.ofChange Rows.fnExactDoActSpec) :=
  OpenClaim.holds_of_wide 7 Try.f7 rfl rfl rfl rfl rfl rfl rfl ⟨rfl, rfl, rfl, rfl, rfl⟩ rfl rfl rfl rfl rfl (by kernel_rfl) Try.func7 (by kernel_rfl)
    (of_decide_eq_true (by kernel_rfl)) (by unfold Func.isWrapper; first | (rw [if_pos (by decide +kernel)]; kernel_rfl) | (rw [if_neg (by decide +kernel)]; exact ⟨rfl, rfl⟩))
    (fun os started H enc _ => lifted os started H enc)
theorem proved : Rows.FnExactDoActSaid := over
#print axioms proved
end Go.Proofs.Ytgfacdhkamphiaa.fnExactDoAct
namespace Go.Proofs.Ytgfacdhkamphiaa
/-- The row, under a short name, for the claim. -/
theorem fnExactDoAct_holds : Rows.FnExactDoActSaid := fnExactDoAct.proved
end Go.Proofs.Ytgfacdhkamphiaa
