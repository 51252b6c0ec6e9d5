/- The row of the law FnExactLive: whatever its arguments, read as data, the call returns true and each argument reads as it did. Conditions: the given row's own. -/
import Derived.Test.YtgfacdhkamphiaaRows
import Derived.Test.YtgfacdhkamphiaaOFnExactLivex8
import Derived.Test.YtgfacdhkamphiaaPureFnExactLive
import Derived.Test.YtgfacdhkamphiaaOpen
import Derived.WalkKit
import Derived.ProofKit
import Derived.OpenShut
import Derived.ShutString
import Derived.ChangeOld
import Derived.Below
import Derived.SizedLaws
namespace Go.Proofs.Ytgfacdhkamphiaa.fnExactLive
open Go.ChangeShapes Go.WideShapes Go.ChangeAt Go.RowKit Go.Proofs.YtgfacdhkamphiaaW.PrintWords Go.Proofs.Ytgfacdhkamphiaa.Base Go.Proofs.Ytgfacdhkamphiaa.PFnExactLive
open Go.ChangeMaps (open_string shut_string)
set_option linter.unusedVariables false
theorem own : ownKnob Try.prog.godebug = none := by kernel_rfl
theorem laidOut : laidOutB Try.prog = true := by kernel_rfl
set_option maxRecDepth 100000 in
theorem opens9 : Opens Try.prog 9 Kd.string (fun x : ByteArray => x.size ≤ maxLen) := by
  have h := opens_string Try.underlying9 (by kernel_rfl)
  exact h
set_option maxRecDepth 100000 in
theorem opens73 : Opens Try.prog 73 (Kd.slice 9 Kd.string) (fun x : (List ByteArray) => (x.length ≤ maxLen ∧ ∀ y1 ∈ x, y1.size ≤ maxLen)) := by
  have h := opens_slice Try.underlying73 (by kernel_rfl) opens9
  exact h
set_option maxRecDepth 100000 in
theorem opens3 : Opens Try.prog 3 (Kd.int .i64) (fun x : Int => (Lit.int .i64 x).wf = true) := by
  have h := opens_int Try.underlying3 (by kernel_rfl)
  exact h
set_option maxRecDepth 100000 in
theorem opens119 : Opens Try.prog 119 k119 (fun x : S119 => ((Lit.int .i64 x.f0).wf = true ∧ (Lit.int .i64 x.f1).wf = true ∧ x.f2.size ≤ maxLen ∧ (x.f3.length ≤ maxLen ∧ ∀ y4 ∈ x.f3, y4.size ≤ maxLen))) := by
  have h := opens_iso (opens_struct Try.underlying119 (by kernel_rfl) (fun f' h' => by cases h'; rfl) (opensFrom_cons (k := 0) rfl opens3 (fun f' h' => by cases h'; rfl) (opensFrom_cons (k := 1) rfl opens3 (fun f' h' => by cases h'; rfl) (opensFrom_cons (k := 2) rfl opens9 (fun f' h' => by cases h'; rfl) (opensFrom_last (k := 3) rfl opens73))))) (fun x : S119 => (x.f0, x.f1, x.f2, x.f3)) (fun a => ⟨a.1, a.2.1, a.2.2.1, a.2.2.2⟩) (fun _ => rfl)
  exact h
set_option maxRecDepth 100000 in
theorem opens121 : Opens Try.prog 121 k121 (fun x : S121 => (x.f0.size ≤ maxLen ∧ ((Lit.int .i64 x.f1.f0).wf = true ∧ (Lit.int .i64 x.f1.f1).wf = true ∧ x.f1.f2.size ≤ maxLen ∧ (x.f1.f3.length ≤ maxLen ∧ ∀ y7 ∈ x.f1.f3, y7.size ≤ maxLen)))) := by
  have h := opens_iso (opens_struct Try.underlying121 (by kernel_rfl) (fun f' h' => by cases h'; rfl) (opensFrom_cons (k := 0) rfl opens9 (fun f' h' => by cases h'; rfl) (opensFrom_last (k := 1) rfl opens119))) (fun x : S121 => (x.f0, x.f1)) (fun a => ⟨a.1, a.2⟩) (fun _ => rfl)
  exact h
set_option maxRecDepth 100000 in
theorem opens71 : Opens Try.prog 71 (Kd.slice 121 k121) (fun x : (List S121) => (x.length ≤ maxLen ∧ ∀ y1 ∈ x, (y1.f0.size ≤ maxLen ∧ ((Lit.int .i64 y1.f1.f0).wf = true ∧ (Lit.int .i64 y1.f1.f1).wf = true ∧ y1.f1.f2.size ≤ maxLen ∧ (y1.f1.f3.length ≤ maxLen ∧ ∀ y8 ∈ y1.f1.f3, y8.size ≤ maxLen))))) := by
  have h := opens_slice Try.underlying71 (by kernel_rfl) opens121
  exact h
set_option maxRecDepth 100000 in
theorem lifted (os : Os) (started : os.Started) (H : Type) (enc : TypeId × Value → H) :
    ReturnsInHanded {} Try.checked os 12 .any (Rows.fnExactLiveSpec.pre6 enc Try.prog Try.f12 Rows.fnExactLiveRow.domain false) (Rows.fnExactLiveSpec.post enc Try.prog Try.f12 false true false false) := by
  refine returnsInHanded_of_change_sized (C := Try.checked) own started (by kernel_rfl) Try.func12
    (ChangeSpec.witness6 (enc := enc) (C := Try.checked) false ⟨#[], #[.slice none 0 0, .int .i64 0], []⟩ 8 (by kernel_rfl) (by kernel_rfl) (by kernel_rfl) (by kernel_rfl)) ?_
  intro W base args ds gs before hval0 hW hcnd hsz0 _
  have hsz : (DataW.weightsEach Try.prog (Try.f12.params.toList ++ Rows.fnExactLiveSpec.plain.varTypes Try.prog) (ds ++ gs)).all (· ≤ reachBytes) = true := hsz0
  have hval : ∀ (j : Nat) t v, Try.f12.params[j]? = some t → args[j]? = some v → Value.okWide Try.prog W .any base t v := hval0
  have hW' := hW
  obtain ⟨p, q, hA0, hV, rfl, hfz, hnd⟩ := hW
  have hA : DataW.TrodAll enc Try.prog W 0 (fun _ => true) true Try.f12.params.toList args.toList ds p := hA0
  rw [Try.params12] at hA hval hsz
  obtain ⟨v0, vs0, d0, ds0, p0, q0, hargs, rfl, rfl, h0, r0⟩ := trodAll_cons hA
  obtain ⟨v1, vs1, d1, ds1, p1, q1, rfl, rfl, rfl, h1, r1⟩ := trodAll_cons r0
  obtain ⟨rfl, rfl, rfl⟩ := trodAll_nil r1
  obtain rfl : args = #[v0, v1] := by cases args; simp_all
  obtain ⟨rfl, rfl⟩ := trodVars_none hV
  obtain ⟨A0, c0, x0, rfl, hl0, hC0, ok0⟩ := open_sl Try.underlying71 opens71 (hval 0 71 v0 rfl rfl) h0
  have lt0 : ∀ x ∈ p0, x.block < W.heap.size := by obtain ⟨m, hm⟩ := h0; exact DataW.trod_lt m _ _ _ hm
  obtain ⟨a1, rfl, rfl, rfl, w1⟩ := open_int Try.underlying3 (hval 1 3 v1 rfl rfl) h1
  clear hA0 hval0 hsz0 hsz
  obtain ⟨k, hk⟩ := Pure.FnExactLive (x0) (a1) (ok0) (w1)
  refine (laws_FnExactLive.calls k (A0) (c0) (x0) (a1) true W hC0 hl0 hk).mono fun e W' ⟨he, bel⟩ => ?_
  subst he
  exact ⟨_, rfl, _, _, _, [], _, [], hW', trodAll_mk1 (shut_bool Try.underlying4 _), (trodAll_cons_mk (Below.trod laidOut (by kernel_rfl) (of_decide_eq_true (by kernel_rfl)) h0 bel lt0) (trodAll_cons_mk (shut_int Try.underlying3 w1) trodAll_mk0)), rfl, bel.frame _, fun h => by cases h⟩
theorem over : Rows.fnExactLiveRow.holds Try.pinned (OpenSpec.ofChange Rows.fnExactLiveSpec) :=
  OpenClaim.holds_of_wide 12 Try.f12 rfl rfl rfl rfl rfl rfl rfl ⟨rfl, rfl, rfl, rfl, rfl⟩ rfl rfl rfl rfl rfl (by kernel_rfl) Try.func12 (by kernel_rfl)
    (of_decide_eq_true (by kernel_rfl)) (by unfold Func.isWrapper; first | (rw [if_pos (by decide +kernel)]; kernel_rfl) | (rw [if_neg (by decide +kernel)]; exact ⟨rfl, rfl⟩))
    (fun os started H enc _ => lifted os started H enc)
theorem proved : Rows.FnExactLiveSaid := over
#print axioms proved
end Go.Proofs.Ytgfacdhkamphiaa.fnExactLive
namespace Go.Proofs.Ytgfacdhkamphiaa
/-- The row, under a short name, for the claim. -/
theorem fnExactLive_holds : Rows.FnExactLiveSaid := fnExactLive.proved
end Go.Proofs.Ytgfacdhkamphiaa
