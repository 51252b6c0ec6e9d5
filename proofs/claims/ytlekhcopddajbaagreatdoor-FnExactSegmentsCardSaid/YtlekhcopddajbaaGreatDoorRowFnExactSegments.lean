/- The row of the law FnExactSegments: whatever its arguments, read as data, the call returns true and each argument reads as it did. Conditions: the given row's own. -/
import Derived.Test.YtlekhcopddajbaaGreatDoorRows
import Derived.Test.YtlekhcopddajbaaGreatDoorOFnExactSegmentsx18
import Derived.Test.YtlekhcopddajbaaGreatDoorPureFnExactSegments
import Derived.Test.YtlekhcopddajbaaGreatDoorOpen
import Derived.WalkKit
import Derived.ProofKit
import Derived.OpenShut
import Derived.ShutString
import Derived.ChangeOld
import Derived.Below
import Derived.SizedLaws
import Derived.ChangeSame
import Derived.ChangeVars
import Derived.JoinedOf
import Derived.RowKit
import Derived.LaidLaws
import Derived.LaidSub
import Derived.Stop.LaidErr
import Derived.SevenTiedAt
import Derived.Test.YtlekhcopddajbaaGreatDoorTie
import Derived.Test.YtlekhcopddajbaaGreatDoorCards
namespace Go.Proofs.YtlekhcopddajbaaGreatDoor.fnExactSegments
open Go.ChangeShapes Go.WideShapes Go.ChangeAt Go.RowKit Go.Proofs.YtlekhcopddajbaaGreatDoorW.PrintWords Go.Proofs.YtlekhcopddajbaaGreatDoor.Base Go.Proofs.YtlekhcopddajbaaGreatDoor.PFnExactSegments
open Go.ChangeMaps (open_string shut_string)
set_option linter.unusedVariables false
theorem own : ownKnob Tryz.prog.godebug = none := by kernel_rfl
theorem laidOut : laidOutB Tryz.prog = true := by kernel_rfl
set_option maxRecDepth 100000 in
theorem opens3 : Opens Tryz.prog 3 (Kd.int .i64) (fun x : Int => (Lit.int .i64 x).wf = true) := by
  have h := opens_int Tryz.underlying3 (by kernel_rfl)
  exact h
set_option maxRecDepth 100000 in
theorem opens9 : Opens Tryz.prog 9 Kd.string (fun x : ByteArray => x.size ≤ maxLen) := by
  have h := opens_string Tryz.underlying9 (by kernel_rfl)
  exact h
set_option maxRecDepth 100000 in
theorem opens59 : Opens Tryz.prog 59 k59 (fun x : S59 => (x.f0.size ≤ maxLen ∧ x.f1.size ≤ maxLen ∧ (Lit.int .i64 x.f2).wf = true)) := by
  have h := opens_iso (opens_struct Tryz.underlying59 (by kernel_rfl) (fun f' h' => by cases h'; rfl) (opensFrom_cons (k := 0) rfl opens9 (fun f' h' => by cases h'; rfl) (opensFrom_cons (k := 1) rfl opens9 (fun f' h' => by cases h'; rfl) (opensFrom_last (k := 2) rfl opens3)))) (fun x : S59 => (x.f0, x.f1, x.f2)) (fun a => ⟨a.1, a.2.1, a.2.2⟩) (fun _ => rfl)
  exact h
set_option maxRecDepth 100000 in
theorem opens22 : Opens Tryz.prog 22 (Kd.slice 59 k59) (fun x : (List S59) => (x.length ≤ maxLen ∧ ∀ y1 ∈ x, (y1.f0.size ≤ maxLen ∧ y1.f1.size ≤ maxLen ∧ (Lit.int .i64 y1.f2).wf = true))) := by
  have h := opens_slice Tryz.underlying22 (by kernel_rfl) opens59
  exact h
set_option maxRecDepth 100000 in
theorem opens24 : Opens Tryz.prog 24 (Kd.slice 59 k59) (fun x : ((List S59)) => ((x.length ≤ maxLen ∧ ∀ y1 ∈ x, (y1.f0.size ≤ maxLen ∧ y1.f1.size ≤ maxLen ∧ (Lit.int .i64 y1.f2).wf = true)))) := by
  have h := opens_struct Tryz.underlying24 (by kernel_rfl) (fun f' h' => by cases h'; rfl) (opensFrom_last (k := 0) rfl opens22)
  exact h
/-- The cells of a table of whole numbers. -/
def tabCells (d : DataW Unit) : Array Value := match d with | .agg l => (l.map fun x => match x with | .lit (.int k n) => Value.int k n | _ => Value.int .u8 0).toArray | _ => #[]
def lay (d : DataW Unit) : Obj → Obj
  | .cells _ t frozen => .cells (tabCells d) t frozen
  | o => o
/-- A variable that holds a library's error. -/
def lay2 (b : Nat) : Obj → Obj
  | .cells _ t frozen => .cells #[.iface 154 (.pointer (some ⟨b, 0, none⟩))] t frozen
  | o => o
/-- So many blocks has the settled world. -/
noncomputable def low : Nat := (World.holding Tryz.prog default ⟨#[], #[], []⟩).heap.size
/-- The settled world with the tables and the errors laid: the witness. -/
noncomputable def laidWorld (os : Os) : World :=
  let w0 := World.holding Tryz.prog os ⟨#[.cells #[.string ⟨#[118, 97, 108, 117, 101, 32, 111, 117, 116, 32, 111, 102, 32, 114, 97, 110, 103, 101]⟩] 156, .cells #[.string ⟨#[105, 110, 118, 97, 108, 105, 100, 32, 115, 121, 110, 116, 97, 120]⟩] 156], #[], []⟩
  { w0 with heap := (((((w0.heap.modify 3 (lay Rows.laid_math_bits_deBruijn32tab)).modify 4 (lay Rows.laid_math_bits_deBruijn64tab)).modify 2 (lay Rows.laid_internal_strconv_uint64pow10)).modify 1 (lay2 (low + 0))).modify 0 (lay2 (low + 1))) }
theorem laid_met (os : Os) (args : Array Value) : laidMet Tryz.prog Rows.fnExactSegmentsRow.laid ((laidWorld os).forCall (fun _ _ => 0) ⟨#[], args, []⟩).memory :=
  laidMet_of_run' 8 (by kernel_rfl) (by kernel_rfl)
theorem star : "*" ++ "errors.errorString" = "*errors.errorString" := by decide
theorem oneRow (u : TypeId) (h : Tryz.prog.typeName? 3 u = some "*errors.errorString") : u = 154 :=
  typeName_ptr_named (nm := "errors.errorString") (by rw [star]; kernel_rfl) (by kernel_rfl) (by decide) u (by rw [star]; exact h)
theorem errV {name : String} {tp : TypeId} {p : Value} {w : World} (h : w.var? Tryz.prog name = some #[.iface tp p]) : PFnExactSegments.ErrV name w := ⟨tp, p, fun w' hb => by
  unfold World.var? at *
  cases hg : Tryz.prog.globalNamed name with
  | none => simp [hg] at h
  | some g =>
    simp only [hg, Option.bind_some] at h ⊢
    have hlt : g < w.heap.size := by
      rcases Nat.lt_or_ge g w.heap.size with h' | h'
      · exact h'
      · rw [Array.getElem?_eq_none h'] at h; simp at h
    rw [hb.block g hlt]
    exact h⟩
set_option maxRecDepth 100000 in
theorem lifted (os : Os) (started : os.Started) (H : Type) (enc : TypeId × Value → H) :
    ReturnsInHanded {} Tryz.checked os 3 .any (fun w args => (Rows.fnExactSegmentsSpec.pre enc Tryz.prog Tryz.f3 Rows.fnExactSegmentsRow.domain false w args ∧ laidMet Tryz.prog Rows.fnExactSegmentsRow.laid w) ∧ sizedMet enc Tryz.prog Tryz.f3 (OpenSpec.ofChange Rows.fnExactSegmentsSpec) false w args) (Rows.fnExactSegmentsSpec.post enc Tryz.prog Tryz.f3 false true false false) := by
  refine returnsInHanded_of_change_and (C := Tryz.checked) (X := fun w _ => laidMet Tryz.prog Rows.fnExactSegmentsRow.laid w) (fun _ _ _ hh h => h.of_heap hh) own started (by kernel_rfl) Tryz.func3
    (ChangeSpec.witness_at (enc := enc) (C := Tryz.checked) (os := os) (X := fun w _ => laidMet Tryz.prog Rows.fnExactSegmentsRow.laid w) false (laidWorld os) #[.agg #[.slice none 0 0]] 8 rfl (by kernel_rfl) (by kernel_rfl) (by kernel_rfl) (by kernel_rfl) (by kernel_rfl) (laid_met os _)) ?_
  intro W base args ds gs before hval0 hW _ hsz0 hL _
  have hsz : (DataW.weightsEach Tryz.prog (Tryz.f3.params.toList ++ Rows.fnExactSegmentsSpec.plain.varTypes Tryz.prog) (ds ++ gs)).all (· ≤ reachBytes) = true := hsz0
  have hval : ∀ (j : Nat) t v, Tryz.f3.params[j]? = some t → args[j]? = some v → Value.okWide Tryz.prog W .any base t v := hval0
  have hW' := hW
  obtain ⟨p, q, hA0, hV, rfl, hfz, hnd⟩ := hW
  have hA : DataW.TrodAll enc Tryz.prog W 0 (fun _ => true) true Tryz.f3.params.toList args.toList ds p := hA0
  rw [Tryz.params3] at hA hval hsz
  obtain ⟨v0, vs0, d0, ds0, p0, q0, hargs, rfl, rfl, h0, r0⟩ := trodAll_cons hA
  obtain ⟨rfl, rfl, rfl⟩ := trodAll_nil r0
  obtain rfl : args = #[v0] := by cases args; simp_all
  obtain ⟨rfl, rfl⟩ := trodVars_none hV
  obtain ⟨x0, cs0, rfl, kk0, ok0⟩ := open_agg Tryz.underlying24 opens24 (hval 0 24 v0 rfl rfl) h0
  obtain ⟨A0_0, c0_0, hcs0, hl0_0, hC0_0⟩ := kk0
  obtain rfl : cs0 = #[.slice A0_0 x0.length c0_0] := Array.toList_inj.1 (hcs0.trans rfl)
  have lt0 : ∀ x ∈ p0, x.block < W.heap.size := by obtain ⟨m, hm⟩ := h0; exact DataW.trod_lt m _ _ _ hm
  clear hA0 hval0 hsz0 hsz
  obtain ⟨k, hk⟩ := Pure.FnExactSegments (x0) (ok0)
  have hF := laidMet.filter (fun x => x.1 == "internal/strconv.uint64pow10") hL
  rw [show Rows.fnExactSegmentsRow.laid.filter (fun x => x.1 == "internal/strconv.uint64pow10") = [("internal/strconv.uint64pow10", Lib.tabData .u64 Lib.pow10Tab)] by kernel_rfl] at hF
  have hS := laidMet.filter (fun x => x.1 == "strconv.ErrSyntax") hL
  rw [show Rows.fnExactSegmentsRow.laid.filter (fun x => x.1 == "strconv.ErrSyntax") = [("strconv.ErrSyntax", Rows.laid_strconv_ErrSyntax)] by kernel_rfl] at hS
  have hR := laidMet.filter (fun x => x.1 == "strconv.ErrRange") hL
  rw [show Rows.fnExactSegmentsRow.laid.filter (fun x => x.1 == "strconv.ErrRange") = [("strconv.ErrRange", Rows.laid_strconv_ErrRange)] by kernel_rfl] at hR
  obtain ⟨_, _, hSv, -, -, -⟩ := laid_sentinel (g := 0) (ti := 103) (tp := 154) (te := 156) (ts := 9) hS (by kernel_rfl) (by kernel_rfl) Tryz.underlying103 oneRow Tryz.underlying154 Tryz.underlying156 rfl rfl Tryz.underlying9 (by kernel_rfl) (by kernel_rfl)
  obtain ⟨_, _, hRv, -, -, -⟩ := laid_sentinel (g := 1) (ti := 103) (tp := 154) (te := 156) (ts := 9) hR (by kernel_rfl) (by kernel_rfl) Tryz.underlying103 oneRow Tryz.underlying154 Tryz.underlying156 rfl rfl Tryz.underlying9 (by kernel_rfl) (by kernel_rfl)
  have HTAB : PFnExactSegments.Tab W := ⟨Lib.tabBelow_of_tabIs (Lib.tabIs_of_head (g := 2) (t := 159) (e := 117) (n := 20) (by kernel_rfl) (by kernel_rfl) (by kernel_rfl) (by kernel_rfl) (by kernel_rfl) (by kernel_rfl) hF), errV hSv, errV hRv⟩
  refine (laws_FnExactSegments.calls k (A0_0) (c0_0) (x0) true W hC0_0 hl0_0 hk rfl HTAB).mono fun e W' ⟨he, bel⟩ => ?_
  subst he
  exact ⟨_, rfl, _, _, _, [], _, [], hW', trodAll_mk1 (shut_bool Tryz.underlying4 _), (trodAll_cons_mk (Below.trod laidOut (by kernel_rfl) (of_decide_eq_true (by kernel_rfl)) h0 bel lt0) trodAll_mk0), rfl, bel.frame _, fun h => by cases h⟩
theorem over : Rows.fnExactSegmentsRow.holds Tryz.pinned (OpenSpec.ofChange Rows.fnExactSegmentsSpec) :=
  OpenClaim.holds_of_wide 3 Tryz.f3 rfl rfl rfl rfl rfl rfl rfl ⟨rfl, rfl, rfl, rfl, rfl⟩ rfl rfl rfl rfl rfl (by kernel_rfl) Tryz.func3 (by kernel_rfl)
    (of_decide_eq_true (by kernel_rfl)) (by unfold Func.isWrapper; first | (rw [if_pos (by decide +kernel)]; kernel_rfl) | (rw [if_neg (by decide +kernel)]; exact ⟨rfl, rfl⟩))
    (fun os started H enc _ => lifted os started H enc)
theorem card_holds : Rows.FnExactSegmentsCardSaid :=
  Claim7.holds_tied_plain_at .later [] [.data, .data, .data, .sentinel, .sentinel] true (true, "15c6f5110f9e7f190fd9bc822ee44cd934762d7aa1b920cc760fe9e708f063ee") true
    over (fun _ h => by cases h) (by kernel_rfl) (fun _ h => by cases h) fnExactSegments_row_tie rfl ⟨rfl, rfl⟩ (by kernel_rfl) rfl
    (fun f fn hf hfn => by
      obtain rfl : f = 3 := Option.some.inj ((show Tryz.prog.funcNamed "loop.example/g00124/laws.FnExactSegments" = some 3 by kernel_rfl).symm.trans hf) |>.symm
      obtain rfl : fn = Tryz.f3 := (Option.some.inj (Tryz.func3.symm.trans hfn)).symm
      exact ⟨by kernel_rfl, fun j t ht => by
        rw [Tryz.params3] at ht
        have h9 : t = 24 := by
          rcases j with _ | j
          · simpa using ht.symm
          · simp at ht
        subst h9
        exact (show Tryz.prog.wantsStandIn 24 = false by kernel_rfl)⟩)
    (by kernel_rfl)
#print axioms card_holds
end Go.Proofs.YtlekhcopddajbaaGreatDoor.fnExactSegments
namespace Go.Proofs.YtlekhcopddajbaaGreatDoor
/-- The card, under a short name, for the claim. -/
theorem fnExactSegments_holds : Rows.FnExactSegmentsCardSaid := fnExactSegments.card_holds
end Go.Proofs.YtlekhcopddajbaaGreatDoor
