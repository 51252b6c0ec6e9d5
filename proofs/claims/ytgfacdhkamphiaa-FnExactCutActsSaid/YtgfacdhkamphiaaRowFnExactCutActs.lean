/- The row of the law FnExactCutActs: whatever its arguments, read as data, the call returns true and each argument reads as it did. Conditions: the given row's own. -/
import Derived.Test.YtgfacdhkamphiaaRows
import Derived.Test.YtgfacdhkamphiaaOFnExactCutActsx19
import Derived.Test.YtgfacdhkamphiaaPureFnExactCutActs
import Derived.Test.YtgfacdhkamphiaaOpen
import Derived.WalkKit
import Derived.ProofKit
import Derived.OpenShut
import Derived.ShutString
import Derived.ChangeOld
import Derived.Below
import Derived.SizedLaws
namespace Go.Proofs.Ytgfacdhkamphiaa.fnExactCutActs
open Go.ChangeShapes Go.WideShapes Go.ChangeAt Go.RowKit Go.Proofs.YtgfacdhkamphiaaW.PrintWords Go.Proofs.Ytgfacdhkamphiaa.Base Go.Proofs.Ytgfacdhkamphiaa.PFnExactCutActs
open Go.ChangeMaps (open_string shut_string)
set_option linter.unusedVariables false
theorem own : ownKnob Try.prog.godebug = none := by kernel_rfl
theorem laidOut : laidOutB Try.prog = true := by kernel_rfl
set_option maxRecDepth 100000 in
theorem opens3 : Opens Try.prog 3 (Kd.int .i64) (fun x : Int => (Lit.int .i64 x).wf = true) := by
  have h := opens_int Try.underlying3 (by kernel_rfl)
  exact h
set_option maxRecDepth 100000 in
theorem opens9 : Opens Try.prog 9 Kd.string (fun x : ByteArray => x.size ≤ maxLen) := by
  have h := opens_string Try.underlying9 (by kernel_rfl)
  exact h
set_option maxRecDepth 100000 in
theorem opens134 : Opens Try.prog 134 k134 (fun x : S134 => (x.f0.size ≤ maxLen ∧ x.f1.size ≤ maxLen ∧ (Lit.int .i64 x.f2).wf = true)) := by
  have h := opens_iso (opens_struct Try.underlying134 (by kernel_rfl) (fun f' h' => by cases h'; rfl) (opensFrom_cons (k := 0) rfl opens9 (fun f' h' => by cases h'; rfl) (opensFrom_cons (k := 1) rfl opens9 (fun f' h' => by cases h'; rfl) (opensFrom_last (k := 2) rfl opens3)))) (fun x : S134 => (x.f0, x.f1, x.f2)) (fun a => ⟨a.1, a.2.1, a.2.2⟩) (fun _ => rfl)
  exact h
set_option maxRecDepth 100000 in
theorem opens22 : Opens Try.prog 22 (Kd.slice 134 k134) (fun x : (List S134) => (x.length ≤ maxLen ∧ ∀ y1 ∈ x, (y1.f0.size ≤ maxLen ∧ y1.f1.size ≤ maxLen ∧ (Lit.int .i64 y1.f2).wf = true))) := by
  have h := opens_slice Try.underlying22 (by kernel_rfl) opens134
  exact h
set_option maxRecDepth 100000 in
theorem opens24 : Opens Try.prog 24 (Kd.slice 134 k134) (fun x : ((List S134)) => ((x.length ≤ maxLen ∧ ∀ y1 ∈ x, (y1.f0.size ≤ maxLen ∧ y1.f1.size ≤ maxLen ∧ (Lit.int .i64 y1.f2).wf = true)))) := by
  have h := opens_struct Try.underlying24 (by kernel_rfl) (fun f' h' => by cases h'; rfl) (opensFrom_last (k := 0) rfl opens22)
  exact h
set_option maxRecDepth 100000 in
theorem opens52 : Opens Try.prog 52 k52 (fun x : S52 => ((Lit.int .i64 x.f0).wf = true ∧ x.f1.size ≤ maxLen ∧ x.f2.size ≤ maxLen ∧ x.f3.size ≤ maxLen)) := by
  have h := opens_iso (opens_struct Try.underlying52 (by kernel_rfl) (fun f' h' => by cases h'; rfl) (opensFrom_cons (k := 0) rfl opens3 (fun f' h' => by cases h'; rfl) (opensFrom_cons (k := 1) rfl opens9 (fun f' h' => by cases h'; rfl) (opensFrom_cons (k := 2) rfl opens9 (fun f' h' => by cases h'; rfl) (opensFrom_last (k := 3) rfl opens9))))) (fun x : S52 => (x.f0, x.f1, x.f2, x.f3)) (fun a => ⟨a.1, a.2.1, a.2.2.1, a.2.2.2⟩) (fun _ => rfl)
  exact h
set_option maxRecDepth 100000 in
theorem opens58 : Opens Try.prog 58 (Kd.slice 52 k52) (fun x : (List S52) => (x.length ≤ maxLen ∧ ∀ y1 ∈ x, ((Lit.int .i64 y1.f0).wf = true ∧ y1.f1.size ≤ maxLen ∧ y1.f2.size ≤ maxLen ∧ y1.f3.size ≤ maxLen))) := by
  have h := opens_slice Try.underlying58 (by kernel_rfl) opens52
  exact h
set_option maxRecDepth 100000 in
theorem opens39 : Opens Try.prog 39 (Kd.slice 3 (Kd.int .i64)) (fun x : (List Int) => (x.length ≤ maxLen ∧ ∀ y1 ∈ x, (Lit.int .i64 y1).wf = true)) := by
  have h := opens_slice Try.underlying39 (by kernel_rfl) opens3
  exact h
set_option maxRecDepth 100000 in
theorem lifted (os : Os) (started : os.Started) (H : Type) (enc : TypeId × Value → H) :
    ReturnsInHanded {} Try.checked os 10 .any (Rows.fnExactCutActsSpec.pre6 enc Try.prog Try.f10 Rows.fnExactCutActsRow.domain false) (Rows.fnExactCutActsSpec.post enc Try.prog Try.f10 false true false false) := by
  refine returnsInHanded_of_change_sized (C := Try.checked) own started (by kernel_rfl) Try.func10
    (ChangeSpec.witness6 (enc := enc) (C := Try.checked) false ⟨#[], #[.agg #[.slice none 0 0], .slice none 0 0, .int .i64 0, .slice none 0 0], []⟩ 8 (by kernel_rfl) (by kernel_rfl) (by kernel_rfl) (by kernel_rfl)) ?_
  intro W base args ds gs before hval0 hW hcnd hsz0 _
  have hsz : (DataW.weightsEach Try.prog (Try.f10.params.toList ++ Rows.fnExactCutActsSpec.plain.varTypes Try.prog) (ds ++ gs)).all (· ≤ reachBytes) = true := hsz0
  have hval : ∀ (j : Nat) t v, Try.f10.params[j]? = some t → args[j]? = some v → Value.okWide Try.prog W .any base t v := hval0
  have hW' := hW
  obtain ⟨p, q, hA0, hV, rfl, hfz, hnd⟩ := hW
  have hA : DataW.TrodAll enc Try.prog W 0 (fun _ => true) true Try.f10.params.toList args.toList ds p := hA0
  rw [Try.params10] at hA hval hsz
  obtain ⟨v0, vs0, d0, ds0, p0, q0, hargs, rfl, rfl, h0, r0⟩ := trodAll_cons hA
  obtain ⟨v1, vs1, d1, ds1, p1, q1, rfl, rfl, rfl, h1, r1⟩ := trodAll_cons r0
  obtain ⟨v2, vs2, d2, ds2, p2, q2, rfl, rfl, rfl, h2, r2⟩ := trodAll_cons r1
  obtain ⟨v3, vs3, d3, ds3, p3, q3, rfl, rfl, rfl, h3, r3⟩ := trodAll_cons r2
  obtain ⟨rfl, rfl, rfl⟩ := trodAll_nil r3
  obtain rfl : args = #[v0, v1, v2, v3] := by cases args; simp_all
  obtain ⟨rfl, rfl⟩ := trodVars_none hV
  obtain ⟨x0, cs0, rfl, kk0, ok0⟩ := open_agg Try.underlying24 opens24 (hval 0 24 v0 rfl rfl) h0
  obtain ⟨A0_0, c0_0, hcs0, hl0_0, hC0_0⟩ := kk0
  obtain rfl : cs0 = #[.slice A0_0 x0.length c0_0] := Array.toList_inj.1 (hcs0.trans rfl)
  have lt0 : ∀ x ∈ p0, x.block < W.heap.size := by obtain ⟨m, hm⟩ := h0; exact DataW.trod_lt m _ _ _ hm
  obtain ⟨A1, c1, x1, rfl, hl1, hC1, ok1⟩ := open_sl Try.underlying58 opens58 (hval 1 58 v1 rfl rfl) h1
  have lt1 : ∀ x ∈ p1, x.block < W.heap.size := by obtain ⟨m, hm⟩ := h1; exact DataW.trod_lt m _ _ _ hm
  obtain ⟨a2, rfl, rfl, rfl, w2⟩ := open_int Try.underlying3 (hval 2 3 v2 rfl rfl) h2
  obtain ⟨A3, c3, x3, rfl, hl3, hC3, ok3⟩ := open_sl Try.underlying39 opens39 (hval 3 39 v3 rfl rfl) h3
  have lt3 : ∀ x ∈ p3, x.block < W.heap.size := by obtain ⟨m, hm⟩ := h3; exact DataW.trod_lt m _ _ _ hm
  clear hA0 hval0 hsz0 hsz
  obtain ⟨k, hk⟩ := Pure.FnExactCutActs (x0) (x1) (a2) (x3) (ok0) (ok1) (w2) (ok3)
  refine (laws_FnExactCutActs.calls k (A0_0) (c0_0) (x0) (A1) (c1) (x1) (a2) (A3) (c3) (x3) true W hC0_0 hl0_0 hC1 hl1 hC3 hl3 hk rfl).mono fun e W' ⟨he, bel⟩ => ?_
  subst he
  exact ⟨_, rfl, _, _, _, [], _, [], hW', trodAll_mk1 (shut_bool Try.underlying4 _), (trodAll_cons_mk (Below.trod laidOut (by kernel_rfl) (of_decide_eq_true (by kernel_rfl)) h0 bel lt0) (trodAll_cons_mk (Below.trod laidOut (by kernel_rfl) (of_decide_eq_true (by kernel_rfl)) h1 bel lt1) (trodAll_cons_mk (shut_int Try.underlying3 w2) (trodAll_cons_mk (Below.trod laidOut (by kernel_rfl) (of_decide_eq_true (by kernel_rfl)) h3 bel lt3) trodAll_mk0)))), rfl, bel.frame _, fun h => by cases h⟩
theorem over : Rows.fnExactCutActsRow.holds Try.pinned (OpenSpec.ofChange Rows.fnExactCutActsSpec) :=
  OpenClaim.holds_of_wide 10 Try.f10 rfl rfl rfl rfl rfl rfl rfl ⟨rfl, rfl, rfl, rfl, rfl⟩ rfl rfl rfl rfl rfl (by kernel_rfl) Try.func10 (by kernel_rfl)
    (of_decide_eq_true (by kernel_rfl)) (by unfold Func.isWrapper; first | (rw [if_pos (by decide +kernel)]; kernel_rfl) | (rw [if_neg (by decide +kernel)]; exact ⟨rfl, rfl⟩))
    (fun os started H enc _ => lifted os started H enc)
theorem proved : Rows.FnExactCutActsSaid := over
#print axioms proved
end Go.Proofs.Ytgfacdhkamphiaa.fnExactCutActs
namespace Go.Proofs.Ytgfacdhkamphiaa
/-- The row, under a short name, for the claim. -/
theorem fnExactCutActs_holds : Rows.FnExactCutActsSaid := fnExactCutActs.proved
end Go.Proofs.Ytgfacdhkamphiaa
