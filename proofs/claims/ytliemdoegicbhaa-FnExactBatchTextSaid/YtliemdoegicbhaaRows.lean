/-
  No cell of these rows narrows 'for every input' (looked for: loops, veiled, ifaces, maps, wideKeys, modest, calm, conditions, laid).
  DERIVED. THE GIVEN ROWS OF THIS SEAT. 8 by the template 'for every input the law returns true; each argument reads behind the call as it read before'; 0 by the template 'total and deterministic' (their statements: YtliemdoegicbhaaTotals.lean).
  GIVEN WITH THE SEED: the statements are not yours to turn. If you find one false, say at which input.
  Laid BY PROGRAM, IN A SANDBOX (cutbox-rows.mjs): the forced cells as the released guide's own fill.sh prints them over the translation e7ef7d1b2fddf08f… (all of the seat's roots in one cut). By AI agents, Wed Nov 11 2026. No macro, syntax, notation, axiom, sorry.
-/
import Derived.Test.YtliemdoegicbhaaChecked
import GoSem.Claim
import GoSem.ClaimJoined
import GoSem.ClaimMapViews
import Derived.JoinedTies
import Derived.KernelRfl
namespace Go.Proofs.Ytliemdoegicbhaa
/- THE CELL 'sum', in the pinned program and in every row, IS THE sha256 OF THE DUMP (.gsa) THAT YtliemdoegicbhaaProg.lean LOADS. Nothing in Lean hashes anything: it is a label: what it is worth is what the hold of that sum in a sandbox is worth. -/
noncomputable def Try.pinned : Pinned := { name := "ytliemdoegicbhaa", sum := "e7ef7d1b2fddf08f9e730196c3c09533c04f0167a01f29cfd77869f519fd58e7", checked := Try.checked }
namespace Rows
def none {H : Type} : Left H := { results := [], args := [] }

/-- 'laws.FnExactDirOk': WHATEVER THE INPUT: true; the input reads as it did. -/
def fnExactDirOkSpec : ChangeSpec := { name := "fnExactDirOk", fn := fun _ => fun
  | [d] => { results := [.lit (.bool true)], args := [d] }
  | _ => none }
def fnExactDirOkRow : OpenClaim := { program := "ytliemdoegicbhaa", sum := "e7ef7d1b2fddf08f9e730196c3c09533c04f0167a01f29cfd77869f519fd58e7", func := "loop.example/g00124/laws.FnExactDirOk", spec := "fnExactDirOk", apart := false }
def FnExactDirOkSaid : Prop := fnExactDirOkRow.holds Try.pinned (OpenSpec.ofChange fnExactDirOkSpec)

/-- ITS FALSE NEIGHBOUR: 'it returns false'. Refute it at one input. -/
def fnExactDirOkWrong : ChangeSpec := { name := "fnExactDirOk", fn := fun _ => fun
  | [d] => { results := [.lit (.bool false)], args := [d] }
  | _ => none }
def FnExactDirOkWrongFalsely : Prop := fnExactDirOkRow.holds Try.pinned (OpenSpec.ofChange fnExactDirOkWrong)

/-- 'laws.FnExactDiskOk': WHATEVER THE INPUT: true; the input reads as it did. -/
def fnExactDiskOkSpec : ChangeSpec := { name := "fnExactDiskOk", fn := fun _ => fun
  | [d] => { results := [.lit (.bool true)], args := [d] }
  | _ => none }
def fnExactDiskOkRow : OpenClaim := { program := "ytliemdoegicbhaa", sum := "e7ef7d1b2fddf08f9e730196c3c09533c04f0167a01f29cfd77869f519fd58e7", func := "loop.example/g00124/laws.FnExactDiskOk", spec := "fnExactDiskOk", apart := false }
def FnExactDiskOkSaid : Prop := fnExactDiskOkRow.holds Try.pinned (OpenSpec.ofChange fnExactDiskOkSpec)

/-- ITS FALSE NEIGHBOUR: 'it returns false'. Refute it at one input. -/
def fnExactDiskOkWrong : ChangeSpec := { name := "fnExactDiskOk", fn := fun _ => fun
  | [d] => { results := [.lit (.bool false)], args := [d] }
  | _ => none }
def FnExactDiskOkWrongFalsely : Prop := fnExactDiskOkRow.holds Try.pinned (OpenSpec.ofChange fnExactDiskOkWrong)

/-- 'laws.FnExactBatchOk': WHATEVER THE INPUT: true; the input reads as it did. -/
def fnExactBatchOkSpec : ChangeSpec := { name := "fnExactBatchOk", fn := fun _ => fun
  | [d] => { results := [.lit (.bool true)], args := [d] }
  | _ => none }
def fnExactBatchOkRow : OpenClaim := { program := "ytliemdoegicbhaa", sum := "e7ef7d1b2fddf08f9e730196c3c09533c04f0167a01f29cfd77869f519fd58e7", func := "loop.example/g00124/laws.FnExactBatchOk", spec := "fnExactBatchOk", apart := false }
def FnExactBatchOkSaid : Prop := fnExactBatchOkRow.holds Try.pinned (OpenSpec.ofChange fnExactBatchOkSpec)

/-- ITS FALSE NEIGHBOUR: 'it returns false'. Refute it at one input. -/
def fnExactBatchOkWrong : ChangeSpec := { name := "fnExactBatchOk", fn := fun _ => fun
  | [d] => { results := [.lit (.bool false)], args := [d] }
  | _ => none }
def FnExactBatchOkWrongFalsely : Prop := fnExactBatchOkRow.holds Try.pinned (OpenSpec.ofChange fnExactBatchOkWrong)

/-- 'laws.FnExactValOk': WHATEVER THE INPUT: true; the input reads as it did. -/
def fnExactValOkSpec : ChangeSpec := { name := "fnExactValOk", fn := fun _ => fun
  | [d] => { results := [.lit (.bool true)], args := [d] }
  | _ => none }
def fnExactValOkRow : OpenClaim := { program := "ytliemdoegicbhaa", sum := "e7ef7d1b2fddf08f9e730196c3c09533c04f0167a01f29cfd77869f519fd58e7", func := "loop.example/g00124/laws.FnExactValOk", spec := "fnExactValOk", apart := false }
def FnExactValOkSaid : Prop := fnExactValOkRow.holds Try.pinned (OpenSpec.ofChange fnExactValOkSpec)

/-- ITS FALSE NEIGHBOUR: 'it returns false'. Refute it at one input. -/
def fnExactValOkWrong : ChangeSpec := { name := "fnExactValOk", fn := fun _ => fun
  | [d] => { results := [.lit (.bool false)], args := [d] }
  | _ => none }
def FnExactValOkWrongFalsely : Prop := fnExactValOkRow.holds Try.pinned (OpenSpec.ofChange fnExactValOkWrong)

/-- 'laws.FnExactValText': WHATEVER THE INPUT: true; the input reads as it did. -/
def fnExactValTextSpec : ChangeSpec := { name := "fnExactValText", fn := fun _ => fun
  | [d] => { results := [.lit (.bool true)], args := [d] }
  | _ => none }
def fnExactValTextRow : OpenClaim := { program := "ytliemdoegicbhaa", sum := "e7ef7d1b2fddf08f9e730196c3c09533c04f0167a01f29cfd77869f519fd58e7", func := "loop.example/g00124/laws.FnExactValText", spec := "fnExactValText", apart := false }
def FnExactValTextSaid : Prop := fnExactValTextRow.holds Try.pinned (OpenSpec.ofChange fnExactValTextSpec)

/-- ITS FALSE NEIGHBOUR: 'it returns false'. Refute it at one input. -/
def fnExactValTextWrong : ChangeSpec := { name := "fnExactValText", fn := fun _ => fun
  | [d] => { results := [.lit (.bool false)], args := [d] }
  | _ => none }
def FnExactValTextWrongFalsely : Prop := fnExactValTextRow.holds Try.pinned (OpenSpec.ofChange fnExactValTextWrong)

/-- 'laws.FnExactBatchText': WHATEVER THE INPUT: true; the input reads as it did. -/
def fnExactBatchTextSpec : ChangeSpec := { name := "fnExactBatchText", fn := fun _ => fun
  | [d] => { results := [.lit (.bool true)], args := [d] }
  | _ => none }
def fnExactBatchTextRow : OpenClaim := { program := "ytliemdoegicbhaa", sum := "e7ef7d1b2fddf08f9e730196c3c09533c04f0167a01f29cfd77869f519fd58e7", func := "loop.example/g00124/laws.FnExactBatchText", spec := "fnExactBatchText", apart := false }
def FnExactBatchTextSaid : Prop := fnExactBatchTextRow.holds Try.pinned (OpenSpec.ofChange fnExactBatchTextSpec)

/-- ITS FALSE NEIGHBOUR: 'it returns false'. Refute it at one input. -/
def fnExactBatchTextWrong : ChangeSpec := { name := "fnExactBatchText", fn := fun _ => fun
  | [d] => { results := [.lit (.bool false)], args := [d] }
  | _ => none }
def FnExactBatchTextWrongFalsely : Prop := fnExactBatchTextRow.holds Try.pinned (OpenSpec.ofChange fnExactBatchTextWrong)

/-- 'laws.FnExactTableOk': WHATEVER THE INPUT: true; the input reads as it did. -/
def fnExactTableOkSpec : ChangeSpec := { name := "fnExactTableOk", fn := fun _ => fun
  | [d] => { results := [.lit (.bool true)], args := [d] }
  | _ => none }
def fnExactTableOkRow : OpenClaim := { program := "ytliemdoegicbhaa", sum := "e7ef7d1b2fddf08f9e730196c3c09533c04f0167a01f29cfd77869f519fd58e7", func := "loop.example/g00124/laws.FnExactTableOk", spec := "fnExactTableOk", apart := false }
def FnExactTableOkSaid : Prop := fnExactTableOkRow.holds Try.pinned (OpenSpec.ofChange fnExactTableOkSpec)

/-- ITS FALSE NEIGHBOUR: 'it returns false'. Refute it at one input. -/
def fnExactTableOkWrong : ChangeSpec := { name := "fnExactTableOk", fn := fun _ => fun
  | [d] => { results := [.lit (.bool false)], args := [d] }
  | _ => none }
def FnExactTableOkWrongFalsely : Prop := fnExactTableOkRow.holds Try.pinned (OpenSpec.ofChange fnExactTableOkWrong)

/-- 'laws.FnExactHintText': WHATEVER THE INPUT: true; the input reads as it did. -/
def fnExactHintTextSpec : ChangeSpec := { name := "fnExactHintText", fn := fun _ => fun
  | [d] => { results := [.lit (.bool true)], args := [d] }
  | _ => none }
def fnExactHintTextRow : OpenClaim := { program := "ytliemdoegicbhaa", sum := "e7ef7d1b2fddf08f9e730196c3c09533c04f0167a01f29cfd77869f519fd58e7", func := "loop.example/g00124/laws.FnExactHintText", spec := "fnExactHintText", apart := false }
def FnExactHintTextSaid : Prop := fnExactHintTextRow.holds Try.pinned (OpenSpec.ofChange fnExactHintTextSpec)

/-- ITS FALSE NEIGHBOUR: 'it returns false'. Refute it at one input. -/
def fnExactHintTextWrong : ChangeSpec := { name := "fnExactHintText", fn := fun _ => fun
  | [d] => { results := [.lit (.bool false)], args := [d] }
  | _ => none }
def FnExactHintTextWrongFalsely : Prop := fnExactHintTextRow.holds Try.pinned (OpenSpec.ofChange fnExactHintTextWrong)

/- THE SECOND FORM. 'bulk': how many values and letters a reading holds, each counted each time it is reached (what is shared counts as often as it is met; a slice's spare places count too). A statement '..UptoSaid' is the law's where the arguments, and the package variables that the reading takes, are together of bulk at most 1048576: NARROWER than '..Said'. Prove '..Said' where nothing that the law and all that it calls make is longer than what came in: it says more and counts as full. Else prove '..UptoSaid'. A law counts once. -/
mutual
def uptoBulk {H : Type} : DataW H → Nat
  | .lit (.string bytes) => bytes.length + 1
  | .lit _ => 1
  | .nil => 1
  | .ptr d => uptoBulk d + 1
  | .slice elems spare => uptoBulkAll elems + uptoBulkAll spare + 1
  | .agg parts => uptoBulkAll parts + 1
  | .iface _ d => uptoBulk d + 1
  | .map entries => uptoBulkEntries entries + 1
  | .held _ => 1
def uptoBulkAll {H : Type} : List (DataW H) → Nat
  | [] => 0
  | d :: r => uptoBulk d + uptoBulkAll r
def uptoBulkEntries {H : Type} : List (Lit × DataW H) → Nat
  | [] => 0
  | x :: r => uptoBulkEntry x + uptoBulkEntries r
def uptoBulkEntry {H : Type} : Lit × DataW H → Nat
  | (.string bytes, d) => bytes.length + uptoBulk d + 1
  | (_, d) => uptoBulk d + 1
 end
def uptoSmall : (H : Type) → List (DataW H) → Bool := fun _ ds => decide (uptoBulkAll ds ≤ 1048576)
def OpenSpec.upto (s : _root_.Go.ChangeSpec) : _root_.Go.OpenSpec := { _root_.Go.OpenSpec.ofChange s with cond := some uptoSmall }

/-- 'laws.FnExactDirOk', WHERE WHAT IT READS IS OF BULK AT MOST 1048576: true; the input reads as it did. -/
def fnExactDirOkUptoRow : OpenClaim := { program := "ytliemdoegicbhaa", sum := "e7ef7d1b2fddf08f9e730196c3c09533c04f0167a01f29cfd77869f519fd58e7", func := "loop.example/g00124/laws.FnExactDirOk", spec := "fnExactDirOk", apart := false, narrowed := true }
def FnExactDirOkUptoSaid : Prop := fnExactDirOkUptoRow.holds Try.pinned (OpenSpec.upto fnExactDirOkSpec)

/-- 'laws.FnExactDiskOk', WHERE WHAT IT READS IS OF BULK AT MOST 1048576: true; the input reads as it did. -/
def fnExactDiskOkUptoRow : OpenClaim := { program := "ytliemdoegicbhaa", sum := "e7ef7d1b2fddf08f9e730196c3c09533c04f0167a01f29cfd77869f519fd58e7", func := "loop.example/g00124/laws.FnExactDiskOk", spec := "fnExactDiskOk", apart := false, narrowed := true }
def FnExactDiskOkUptoSaid : Prop := fnExactDiskOkUptoRow.holds Try.pinned (OpenSpec.upto fnExactDiskOkSpec)

/-- 'laws.FnExactBatchOk', WHERE WHAT IT READS IS OF BULK AT MOST 1048576: true; the input reads as it did. -/
def fnExactBatchOkUptoRow : OpenClaim := { program := "ytliemdoegicbhaa", sum := "e7ef7d1b2fddf08f9e730196c3c09533c04f0167a01f29cfd77869f519fd58e7", func := "loop.example/g00124/laws.FnExactBatchOk", spec := "fnExactBatchOk", apart := false, narrowed := true }
def FnExactBatchOkUptoSaid : Prop := fnExactBatchOkUptoRow.holds Try.pinned (OpenSpec.upto fnExactBatchOkSpec)

/-- 'laws.FnExactValOk', WHERE WHAT IT READS IS OF BULK AT MOST 1048576: true; the input reads as it did. -/
def fnExactValOkUptoRow : OpenClaim := { program := "ytliemdoegicbhaa", sum := "e7ef7d1b2fddf08f9e730196c3c09533c04f0167a01f29cfd77869f519fd58e7", func := "loop.example/g00124/laws.FnExactValOk", spec := "fnExactValOk", apart := false, narrowed := true }
def FnExactValOkUptoSaid : Prop := fnExactValOkUptoRow.holds Try.pinned (OpenSpec.upto fnExactValOkSpec)

/-- 'laws.FnExactValText', WHERE WHAT IT READS IS OF BULK AT MOST 1048576: true; the input reads as it did. -/
def fnExactValTextUptoRow : OpenClaim := { program := "ytliemdoegicbhaa", sum := "e7ef7d1b2fddf08f9e730196c3c09533c04f0167a01f29cfd77869f519fd58e7", func := "loop.example/g00124/laws.FnExactValText", spec := "fnExactValText", apart := false, narrowed := true }
def FnExactValTextUptoSaid : Prop := fnExactValTextUptoRow.holds Try.pinned (OpenSpec.upto fnExactValTextSpec)

/-- 'laws.FnExactBatchText', WHERE WHAT IT READS IS OF BULK AT MOST 1048576: true; the input reads as it did. -/
def fnExactBatchTextUptoRow : OpenClaim := { program := "ytliemdoegicbhaa", sum := "e7ef7d1b2fddf08f9e730196c3c09533c04f0167a01f29cfd77869f519fd58e7", func := "loop.example/g00124/laws.FnExactBatchText", spec := "fnExactBatchText", apart := false, narrowed := true }
def FnExactBatchTextUptoSaid : Prop := fnExactBatchTextUptoRow.holds Try.pinned (OpenSpec.upto fnExactBatchTextSpec)

/-- 'laws.FnExactTableOk', WHERE WHAT IT READS IS OF BULK AT MOST 1048576: true; the input reads as it did. -/
def fnExactTableOkUptoRow : OpenClaim := { program := "ytliemdoegicbhaa", sum := "e7ef7d1b2fddf08f9e730196c3c09533c04f0167a01f29cfd77869f519fd58e7", func := "loop.example/g00124/laws.FnExactTableOk", spec := "fnExactTableOk", apart := false, narrowed := true }
def FnExactTableOkUptoSaid : Prop := fnExactTableOkUptoRow.holds Try.pinned (OpenSpec.upto fnExactTableOkSpec)

/-- 'laws.FnExactHintText', WHERE WHAT IT READS IS OF BULK AT MOST 1048576: true; the input reads as it did. -/
def fnExactHintTextUptoRow : OpenClaim := { program := "ytliemdoegicbhaa", sum := "e7ef7d1b2fddf08f9e730196c3c09533c04f0167a01f29cfd77869f519fd58e7", func := "loop.example/g00124/laws.FnExactHintText", spec := "fnExactHintText", apart := false, narrowed := true }
def FnExactHintTextUptoSaid : Prop := fnExactHintTextUptoRow.holds Try.pinned (OpenSpec.upto fnExactHintTextSpec)

end Rows
end Go.Proofs.Ytliemdoegicbhaa
