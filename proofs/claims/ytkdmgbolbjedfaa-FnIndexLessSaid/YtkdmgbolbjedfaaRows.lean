/-
  No cell of these rows narrows 'for every input' (looked for: loops, veiled, ifaces, maps, wideKeys, modest, calm, conditions, laid).
  DERIVED. THE GIVEN ROWS OF THIS SEAT. 12 by the template 'for every input the law returns true; each argument reads behind the call as it read before'; 0 by the template 'total and deterministic' (their statements: YtkdmgbolbjedfaaTotals.lean).
  GIVEN WITH THE SEED: the statements are not yours to turn. If you find one false, say at which input.
  Laid BY PROGRAM, IN A SANDBOX (cutbox-rows.mjs): the forced cells as the released guide's own fill.sh prints them over the translation 271916dff00e01a9… (all of the seat's roots in one cut). By AI agents, Wed Nov 11 2026. No macro, syntax, notation, axiom, sorry.
-/
import Derived.Test.YtkdmgbolbjedfaaChecked
import GoSem.Claim
import GoSem.ClaimJoined
import GoSem.ClaimMapViews
import Derived.JoinedTies
import Derived.KernelRfl
namespace Go.Proofs.Ytkdmgbolbjedfaa
/- THE CELL 'sum', in the pinned program and in every row, IS THE sha256 OF THE DUMP (.gsa) THAT YtkdmgbolbjedfaaProg.lean LOADS. Nothing in Lean hashes anything: it is a label: what it is worth is what the hold of that sum in a sandbox is worth. -/
noncomputable def Try.pinned : Pinned := { name := "ytkdmgbolbjedfaa", sum := "271916dff00e01a9618a6f5538c9d8dc20ab59e08cb9f63a74b04bf99c653b7d", checked := Try.checked }
namespace Rows
def none {H : Type} : Left H := { results := [], args := [] }

/-- 'laws.FnPkgLess': WHATEVER THE INPUT: true; the input reads as it did. -/
def fnPkgLessSpec : ChangeSpec := { name := "fnPkgLess", fn := fun _ => fun
  | [d1, d2] => { results := [.lit (.bool true)], args := [d1, d2] }
  | _ => none }
def fnPkgLessRow : OpenClaim := { program := "ytkdmgbolbjedfaa", sum := "271916dff00e01a9618a6f5538c9d8dc20ab59e08cb9f63a74b04bf99c653b7d", func := "loop.example/purser/laws.FnPkgLess", spec := "fnPkgLess", apart := false }
def FnPkgLessSaid : Prop := fnPkgLessRow.holds Try.pinned (OpenSpec.ofChange fnPkgLessSpec)

/-- ITS FALSE NEIGHBOUR: 'it returns false'. Refute it at one input. -/
def fnPkgLessWrong : ChangeSpec := { name := "fnPkgLess", fn := fun _ => fun
  | [d1, d2] => { results := [.lit (.bool false)], args := [d1, d2] }
  | _ => none }
def FnPkgLessWrongFalsely : Prop := fnPkgLessRow.holds Try.pinned (OpenSpec.ofChange fnPkgLessWrong)

/-- 'laws.FnSignedCount': WHATEVER THE INPUT: true; the input reads as it did. -/
def fnSignedCountSpec : ChangeSpec := { name := "fnSignedCount", fn := fun _ => fun
  | [d] => { results := [.lit (.bool true)], args := [d] }
  | _ => none }
def fnSignedCountRow : OpenClaim := { program := "ytkdmgbolbjedfaa", sum := "271916dff00e01a9618a6f5538c9d8dc20ab59e08cb9f63a74b04bf99c653b7d", func := "loop.example/purser/laws.FnSignedCount", spec := "fnSignedCount", apart := false }
def FnSignedCountSaid : Prop := fnSignedCountRow.holds Try.pinned (OpenSpec.ofChange fnSignedCountSpec)

/-- ITS FALSE NEIGHBOUR: 'it returns false'. Refute it at one input. -/
def fnSignedCountWrong : ChangeSpec := { name := "fnSignedCount", fn := fun _ => fun
  | [d] => { results := [.lit (.bool false)], args := [d] }
  | _ => none }
def FnSignedCountWrongFalsely : Prop := fnSignedCountRow.holds Try.pinned (OpenSpec.ofChange fnSignedCountWrong)

/-- 'laws.FnSignedMore': WHATEVER THE INPUT: true; the input reads as it did. -/
def fnSignedMoreSpec : ChangeSpec := { name := "fnSignedMore", fn := fun _ => fun
  | [d1, d2] => { results := [.lit (.bool true)], args := [d1, d2] }
  | _ => none }
def fnSignedMoreRow : OpenClaim := { program := "ytkdmgbolbjedfaa", sum := "271916dff00e01a9618a6f5538c9d8dc20ab59e08cb9f63a74b04bf99c653b7d", func := "loop.example/purser/laws.FnSignedMore", spec := "fnSignedMore", apart := false }
def FnSignedMoreSaid : Prop := fnSignedMoreRow.holds Try.pinned (OpenSpec.ofChange fnSignedMoreSpec)

/-- ITS FALSE NEIGHBOUR: 'it returns false'. Refute it at one input. -/
def fnSignedMoreWrong : ChangeSpec := { name := "fnSignedMore", fn := fun _ => fun
  | [d1, d2] => { results := [.lit (.bool false)], args := [d1, d2] }
  | _ => none }
def FnSignedMoreWrongFalsely : Prop := fnSignedMoreRow.holds Try.pinned (OpenSpec.ofChange fnSignedMoreWrong)

/-- 'laws.FnExactRootSigned': WHATEVER THE INPUT: true; the input reads as it did. -/
def fnExactRootSignedSpec : ChangeSpec := { name := "fnExactRootSigned", fn := fun _ => fun
  | [d1, d2] => { results := [.lit (.bool true)], args := [d1, d2] }
  | _ => none }
def fnExactRootSignedRow : OpenClaim := { program := "ytkdmgbolbjedfaa", sum := "271916dff00e01a9618a6f5538c9d8dc20ab59e08cb9f63a74b04bf99c653b7d", func := "loop.example/purser/laws.FnExactRootSigned", spec := "fnExactRootSigned", apart := false }
def FnExactRootSignedSaid : Prop := fnExactRootSignedRow.holds Try.pinned (OpenSpec.ofChange fnExactRootSignedSpec)

/-- ITS FALSE NEIGHBOUR: 'it returns false'. Refute it at one input. -/
def fnExactRootSignedWrong : ChangeSpec := { name := "fnExactRootSigned", fn := fun _ => fun
  | [d1, d2] => { results := [.lit (.bool false)], args := [d1, d2] }
  | _ => none }
def FnExactRootSignedWrongFalsely : Prop := fnExactRootSignedRow.holds Try.pinned (OpenSpec.ofChange fnExactRootSignedWrong)

/-- 'laws.FnSumByte': WHATEVER THE INPUT: true; the input reads as it did. -/
def fnSumByteSpec : ChangeSpec := { name := "fnSumByte", fn := fun _ => fun
  | [d1, d2] => { results := [.lit (.bool true)], args := [d1, d2] }
  | _ => none }
def fnSumByteRow : OpenClaim := { program := "ytkdmgbolbjedfaa", sum := "271916dff00e01a9618a6f5538c9d8dc20ab59e08cb9f63a74b04bf99c653b7d", func := "loop.example/purser/laws.FnSumByte", spec := "fnSumByte", recurses := true, apart := false }
def FnSumByteSaid : Prop := fnSumByteRow.holds Try.pinned (OpenSpec.ofChange fnSumByteSpec)

/-- ITS FALSE NEIGHBOUR: 'it returns false'. Refute it at one input. -/
def fnSumByteWrong : ChangeSpec := { name := "fnSumByte", fn := fun _ => fun
  | [d1, d2] => { results := [.lit (.bool false)], args := [d1, d2] }
  | _ => none }
def FnSumByteWrongFalsely : Prop := fnSumByteRow.holds Try.pinned (OpenSpec.ofChange fnSumByteWrong)

/-- 'laws.FnSumStep': WHATEVER THE INPUT: true; the input reads as it did. -/
def fnSumStepSpec : ChangeSpec := { name := "fnSumStep", fn := fun _ => fun
  | [d1, d2] => { results := [.lit (.bool true)], args := [d1, d2] }
  | _ => none }
def fnSumStepRow : OpenClaim := { program := "ytkdmgbolbjedfaa", sum := "271916dff00e01a9618a6f5538c9d8dc20ab59e08cb9f63a74b04bf99c653b7d", func := "loop.example/purser/laws.FnSumStep", spec := "fnSumStep", recurses := true, apart := false }
def FnSumStepSaid : Prop := fnSumStepRow.holds Try.pinned (OpenSpec.ofChange fnSumStepSpec)

/-- ITS FALSE NEIGHBOUR: 'it returns false'. Refute it at one input. -/
def fnSumStepWrong : ChangeSpec := { name := "fnSumStep", fn := fun _ => fun
  | [d1, d2] => { results := [.lit (.bool false)], args := [d1, d2] }
  | _ => none }
def FnSumStepWrongFalsely : Prop := fnSumStepRow.holds Try.pinned (OpenSpec.ofChange fnSumStepWrong)

/-- 'laws.FnSumTwo': WHATEVER THE INPUT: true; the input reads as it did. -/
def fnSumTwoSpec : ChangeSpec := { name := "fnSumTwo", fn := fun _ => fun
  | [d1, d2] => { results := [.lit (.bool true)], args := [d1, d2] }
  | _ => none }
def fnSumTwoRow : OpenClaim := { program := "ytkdmgbolbjedfaa", sum := "271916dff00e01a9618a6f5538c9d8dc20ab59e08cb9f63a74b04bf99c653b7d", func := "loop.example/purser/laws.FnSumTwo", spec := "fnSumTwo", recurses := true, apart := false }
def FnSumTwoSaid : Prop := fnSumTwoRow.holds Try.pinned (OpenSpec.ofChange fnSumTwoSpec)

/-- ITS FALSE NEIGHBOUR: 'it returns false'. Refute it at one input. -/
def fnSumTwoWrong : ChangeSpec := { name := "fnSumTwo", fn := fun _ => fun
  | [d1, d2] => { results := [.lit (.bool false)], args := [d1, d2] }
  | _ => none }
def FnSumTwoWrongFalsely : Prop := fnSumTwoRow.holds Try.pinned (OpenSpec.ofChange fnSumTwoWrong)

/-- 'laws.FnNextBoth': WHATEVER THE INPUT: true; the input reads as it did. -/
def fnNextBothSpec : ChangeSpec := { name := "fnNextBoth", fn := fun _ => fun
  | [d] => { results := [.lit (.bool true)], args := [d] }
  | _ => none }
def fnNextBothRow : OpenClaim := { program := "ytkdmgbolbjedfaa", sum := "271916dff00e01a9618a6f5538c9d8dc20ab59e08cb9f63a74b04bf99c653b7d", func := "loop.example/purser/laws.FnNextBoth", spec := "fnNextBoth", apart := false }
def FnNextBothSaid : Prop := fnNextBothRow.holds Try.pinned (OpenSpec.ofChange fnNextBothSpec)

/-- ITS FALSE NEIGHBOUR: 'it returns false'. Refute it at one input. -/
def fnNextBothWrong : ChangeSpec := { name := "fnNextBoth", fn := fun _ => fun
  | [d] => { results := [.lit (.bool false)], args := [d] }
  | _ => none }
def FnNextBothWrongFalsely : Prop := fnNextBothRow.holds Try.pinned (OpenSpec.ofChange fnNextBothWrong)

/-- 'laws.FnNextNum': WHATEVER THE INPUT: true; the input reads as it did. -/
def fnNextNumSpec : ChangeSpec := { name := "fnNextNum", fn := fun _ => fun
  | [d] => { results := [.lit (.bool true)], args := [d] }
  | _ => none }
def fnNextNumRow : OpenClaim := { program := "ytkdmgbolbjedfaa", sum := "271916dff00e01a9618a6f5538c9d8dc20ab59e08cb9f63a74b04bf99c653b7d", func := "loop.example/purser/laws.FnNextNum", spec := "fnNextNum", apart := false }
def FnNextNumSaid : Prop := fnNextNumRow.holds Try.pinned (OpenSpec.ofChange fnNextNumSpec)

/-- ITS FALSE NEIGHBOUR: 'it returns false'. Refute it at one input. -/
def fnNextNumWrong : ChangeSpec := { name := "fnNextNum", fn := fun _ => fun
  | [d] => { results := [.lit (.bool false)], args := [d] }
  | _ => none }
def FnNextNumWrongFalsely : Prop := fnNextNumRow.holds Try.pinned (OpenSpec.ofChange fnNextNumWrong)

/-- 'laws.FnExactRootNext': WHATEVER THE INPUT: true; the input reads as it did. -/
def fnExactRootNextSpec : ChangeSpec := { name := "fnExactRootNext", fn := fun _ => fun
  | [d1, d2] => { results := [.lit (.bool true)], args := [d1, d2] }
  | _ => none }
def fnExactRootNextRow : OpenClaim := { program := "ytkdmgbolbjedfaa", sum := "271916dff00e01a9618a6f5538c9d8dc20ab59e08cb9f63a74b04bf99c653b7d", func := "loop.example/purser/laws.FnExactRootNext", spec := "fnExactRootNext", apart := false }
def FnExactRootNextSaid : Prop := fnExactRootNextRow.holds Try.pinned (OpenSpec.ofChange fnExactRootNextSpec)

/-- ITS FALSE NEIGHBOUR: 'it returns false'. Refute it at one input. -/
def fnExactRootNextWrong : ChangeSpec := { name := "fnExactRootNext", fn := fun _ => fun
  | [d1, d2] => { results := [.lit (.bool false)], args := [d1, d2] }
  | _ => none }
def FnExactRootNextWrongFalsely : Prop := fnExactRootNextRow.holds Try.pinned (OpenSpec.ofChange fnExactRootNextWrong)

/-- 'laws.FnExactPkgOk': WHATEVER THE INPUT: true; the input reads as it did. -/
def fnExactPkgOkSpec : ChangeSpec := { name := "fnExactPkgOk", fn := fun _ => fun
  | [d] => { results := [.lit (.bool true)], args := [d] }
  | _ => none }
def fnExactPkgOkRow : OpenClaim := { program := "ytkdmgbolbjedfaa", sum := "271916dff00e01a9618a6f5538c9d8dc20ab59e08cb9f63a74b04bf99c653b7d", func := "loop.example/purser/laws.FnExactPkgOk", spec := "fnExactPkgOk", apart := false }
def FnExactPkgOkSaid : Prop := fnExactPkgOkRow.holds Try.pinned (OpenSpec.ofChange fnExactPkgOkSpec)

/-- ITS FALSE NEIGHBOUR: 'it returns false'. Refute it at one input. -/
def fnExactPkgOkWrong : ChangeSpec := { name := "fnExactPkgOk", fn := fun _ => fun
  | [d] => { results := [.lit (.bool false)], args := [d] }
  | _ => none }
def FnExactPkgOkWrongFalsely : Prop := fnExactPkgOkRow.holds Try.pinned (OpenSpec.ofChange fnExactPkgOkWrong)

/-- 'laws.FnIndexLess': WHATEVER THE INPUT: true; the input reads as it did. -/
def fnIndexLessSpec : ChangeSpec := { name := "fnIndexLess", fn := fun _ => fun
  | [d1, d2] => { results := [.lit (.bool true)], args := [d1, d2] }
  | _ => none }
def fnIndexLessRow : OpenClaim := { program := "ytkdmgbolbjedfaa", sum := "271916dff00e01a9618a6f5538c9d8dc20ab59e08cb9f63a74b04bf99c653b7d", func := "loop.example/purser/laws.FnIndexLess", spec := "fnIndexLess", recurses := true, apart := false }
def FnIndexLessSaid : Prop := fnIndexLessRow.holds Try.pinned (OpenSpec.ofChange fnIndexLessSpec)

/-- ITS FALSE NEIGHBOUR: 'it returns false'. Refute it at one input. -/
def fnIndexLessWrong : ChangeSpec := { name := "fnIndexLess", fn := fun _ => fun
  | [d1, d2] => { results := [.lit (.bool false)], args := [d1, d2] }
  | _ => none }
def FnIndexLessWrongFalsely : Prop := fnIndexLessRow.holds Try.pinned (OpenSpec.ofChange fnIndexLessWrong)

/- THE SECOND FORM. 'bulk': how many values and letters a reading holds, each counted each time it is reached (what is shared counts as often as it is met; a slice's spare places count too). A statement '..UptoSaid' is the law's where the arguments, and the package variables that the reading takes, are together of bulk at most 1048576: NARROWER than '..Said'. Prove '..Said' where nothing that the law and all that it calls make is longer than what came in: it says more and counts as full. Else prove '..UptoSaid'. A law counts once. -/
mutual
def uptoBulk {H : Type} : DataW H → Nat
  | .lit (.string bytes) => bytes.length + 1
  | .lit _ => 1
  | .nil => 1
  | .ptr d => uptoBulk d + 1
  | .slice elems spare => uptoBulkAll elems + uptoBulkAll spare + 1
  | .agg parts => uptoBulkAll parts + 1
  | .iface _ d => uptoBulk d + 1
  | .map entries => uptoBulkEntries entries + 1
  | .held _ => 1
def uptoBulkAll {H : Type} : List (DataW H) → Nat
  | [] => 0
  | d :: r => uptoBulk d + uptoBulkAll r
def uptoBulkEntries {H : Type} : List (Lit × DataW H) → Nat
  | [] => 0
  | x :: r => uptoBulkEntry x + uptoBulkEntries r
def uptoBulkEntry {H : Type} : Lit × DataW H → Nat
  | (.string bytes, d) => bytes.length + uptoBulk d + 1
  | (_, d) => uptoBulk d + 1
 end
def uptoSmall : (H : Type) → List (DataW H) → Bool := fun _ ds => decide (uptoBulkAll ds ≤ 1048576)
def OpenSpec.upto (s : _root_.Go.ChangeSpec) : _root_.Go.OpenSpec := { _root_.Go.OpenSpec.ofChange s with cond := some uptoSmall }

/-- 'laws.FnPkgLess', WHERE WHAT IT READS IS OF BULK AT MOST 1048576: true; the input reads as it did. -/
def fnPkgLessUptoRow : OpenClaim := { program := "ytkdmgbolbjedfaa", sum := "271916dff00e01a9618a6f5538c9d8dc20ab59e08cb9f63a74b04bf99c653b7d", func := "loop.example/purser/laws.FnPkgLess", spec := "fnPkgLess", apart := false, narrowed := true }
def FnPkgLessUptoSaid : Prop := fnPkgLessUptoRow.holds Try.pinned (OpenSpec.upto fnPkgLessSpec)

/-- 'laws.FnSignedCount', WHERE WHAT IT READS IS OF BULK AT MOST 1048576: true; the input reads as it did. -/
def fnSignedCountUptoRow : OpenClaim := { program := "ytkdmgbolbjedfaa", sum := "271916dff00e01a9618a6f5538c9d8dc20ab59e08cb9f63a74b04bf99c653b7d", func := "loop.example/purser/laws.FnSignedCount", spec := "fnSignedCount", apart := false, narrowed := true }
def FnSignedCountUptoSaid : Prop := fnSignedCountUptoRow.holds Try.pinned (OpenSpec.upto fnSignedCountSpec)

/-- 'laws.FnSignedMore', WHERE WHAT IT READS IS OF BULK AT MOST 1048576: true; the input reads as it did. -/
def fnSignedMoreUptoRow : OpenClaim := { program := "ytkdmgbolbjedfaa", sum := "271916dff00e01a9618a6f5538c9d8dc20ab59e08cb9f63a74b04bf99c653b7d", func := "loop.example/purser/laws.FnSignedMore", spec := "fnSignedMore", apart := false, narrowed := true }
def FnSignedMoreUptoSaid : Prop := fnSignedMoreUptoRow.holds Try.pinned (OpenSpec.upto fnSignedMoreSpec)

/-- 'laws.FnExactRootSigned', WHERE WHAT IT READS IS OF BULK AT MOST 1048576: true; the input reads as it did. -/
def fnExactRootSignedUptoRow : OpenClaim := { program := "ytkdmgbolbjedfaa", sum := "271916dff00e01a9618a6f5538c9d8dc20ab59e08cb9f63a74b04bf99c653b7d", func := "loop.example/purser/laws.FnExactRootSigned", spec := "fnExactRootSigned", apart := false, narrowed := true }
def FnExactRootSignedUptoSaid : Prop := fnExactRootSignedUptoRow.holds Try.pinned (OpenSpec.upto fnExactRootSignedSpec)

/-- 'laws.FnSumByte', WHERE WHAT IT READS IS OF BULK AT MOST 1048576: true; the input reads as it did. -/
def fnSumByteUptoRow : OpenClaim := { program := "ytkdmgbolbjedfaa", sum := "271916dff00e01a9618a6f5538c9d8dc20ab59e08cb9f63a74b04bf99c653b7d", func := "loop.example/purser/laws.FnSumByte", spec := "fnSumByte", recurses := true, apart := false, narrowed := true }
def FnSumByteUptoSaid : Prop := fnSumByteUptoRow.holds Try.pinned (OpenSpec.upto fnSumByteSpec)

/-- 'laws.FnSumStep', WHERE WHAT IT READS IS OF BULK AT MOST 1048576: true; the input reads as it did. -/
def fnSumStepUptoRow : OpenClaim := { program := "ytkdmgbolbjedfaa", sum := "271916dff00e01a9618a6f5538c9d8dc20ab59e08cb9f63a74b04bf99c653b7d", func := "loop.example/purser/laws.FnSumStep", spec := "fnSumStep", recurses := true, apart := false, narrowed := true }
def FnSumStepUptoSaid : Prop := fnSumStepUptoRow.holds Try.pinned (OpenSpec.upto fnSumStepSpec)

/-- 'laws.FnSumTwo', WHERE WHAT IT READS IS OF BULK AT MOST 1048576: true; the input reads as it did. -/
def fnSumTwoUptoRow : OpenClaim := { program := "ytkdmgbolbjedfaa", sum := "271916dff00e01a9618a6f5538c9d8dc20ab59e08cb9f63a74b04bf99c653b7d", func := "loop.example/purser/laws.FnSumTwo", spec := "fnSumTwo", recurses := true, apart := false, narrowed := true }
def FnSumTwoUptoSaid : Prop := fnSumTwoUptoRow.holds Try.pinned (OpenSpec.upto fnSumTwoSpec)

/-- 'laws.FnNextBoth', WHERE WHAT IT READS IS OF BULK AT MOST 1048576: true; the input reads as it did. -/
def fnNextBothUptoRow : OpenClaim := { program := "ytkdmgbolbjedfaa", sum := "271916dff00e01a9618a6f5538c9d8dc20ab59e08cb9f63a74b04bf99c653b7d", func := "loop.example/purser/laws.FnNextBoth", spec := "fnNextBoth", apart := false, narrowed := true }
def FnNextBothUptoSaid : Prop := fnNextBothUptoRow.holds Try.pinned (OpenSpec.upto fnNextBothSpec)

/-- 'laws.FnNextNum', WHERE WHAT IT READS IS OF BULK AT MOST 1048576: true; the input reads as it did. -/
def fnNextNumUptoRow : OpenClaim := { program := "ytkdmgbolbjedfaa", sum := "271916dff00e01a9618a6f5538c9d8dc20ab59e08cb9f63a74b04bf99c653b7d", func := "loop.example/purser/laws.FnNextNum", spec := "fnNextNum", apart := false, narrowed := true }
def FnNextNumUptoSaid : Prop := fnNextNumUptoRow.holds Try.pinned (OpenSpec.upto fnNextNumSpec)

/-- 'laws.FnExactRootNext', WHERE WHAT IT READS IS OF BULK AT MOST 1048576: true; the input reads as it did. -/
def fnExactRootNextUptoRow : OpenClaim := { program := "ytkdmgbolbjedfaa", sum := "271916dff00e01a9618a6f5538c9d8dc20ab59e08cb9f63a74b04bf99c653b7d", func := "loop.example/purser/laws.FnExactRootNext", spec := "fnExactRootNext", apart := false, narrowed := true }
def FnExactRootNextUptoSaid : Prop := fnExactRootNextUptoRow.holds Try.pinned (OpenSpec.upto fnExactRootNextSpec)

/-- 'laws.FnExactPkgOk', WHERE WHAT IT READS IS OF BULK AT MOST 1048576: true; the input reads as it did. -/
def fnExactPkgOkUptoRow : OpenClaim := { program := "ytkdmgbolbjedfaa", sum := "271916dff00e01a9618a6f5538c9d8dc20ab59e08cb9f63a74b04bf99c653b7d", func := "loop.example/purser/laws.FnExactPkgOk", spec := "fnExactPkgOk", apart := false, narrowed := true }
def FnExactPkgOkUptoSaid : Prop := fnExactPkgOkUptoRow.holds Try.pinned (OpenSpec.upto fnExactPkgOkSpec)

/-- 'laws.FnIndexLess', WHERE WHAT IT READS IS OF BULK AT MOST 1048576: true; the input reads as it did. -/
def fnIndexLessUptoRow : OpenClaim := { program := "ytkdmgbolbjedfaa", sum := "271916dff00e01a9618a6f5538c9d8dc20ab59e08cb9f63a74b04bf99c653b7d", func := "loop.example/purser/laws.FnIndexLess", spec := "fnIndexLess", recurses := true, apart := false, narrowed := true }
def FnIndexLessUptoSaid : Prop := fnIndexLessUptoRow.holds Try.pinned (OpenSpec.upto fnIndexLessSpec)

end Rows
end Go.Proofs.Ytkdmgbolbjedfaa
