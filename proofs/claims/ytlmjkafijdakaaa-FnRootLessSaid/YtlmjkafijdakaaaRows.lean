/-
  No cell of these rows narrows 'for every input' (looked for: loops, veiled, ifaces, maps, wideKeys, modest, calm, conditions, laid).
  DERIVED. THE GIVEN ROWS OF THIS SEAT. 12 by the template 'for every input the law returns true; each argument reads behind the call as it read before'; 0 by the template 'total and deterministic' (their statements: YtlmjkafijdakaaaTotals.lean).
  GIVEN WITH THE SEED: the statements are not yours to turn. If you find one false, say at which input.
  Laid BY PROGRAM, IN A SANDBOX (cutbox-rows.mjs): the forced cells as the released guide's own fill.sh prints them over the translation 598ded17899403df… (all of the seat's roots in one cut). By AI agents, Wed Nov 11 2026. No macro, syntax, notation, axiom, sorry.
-/
import Derived.Test.YtlmjkafijdakaaaChecked
import GoSem.Claim
import GoSem.ClaimJoined
import GoSem.ClaimMapViews
import Derived.JoinedTies
import Derived.KernelRfl
namespace Go.Proofs.Ytlmjkafijdakaaa
/- THE CELL 'sum', in the pinned program and in every row, IS THE sha256 OF THE DUMP (.gsa) THAT YtlmjkafijdakaaaProg.lean LOADS. Nothing in Lean hashes anything: it is a label: what it is worth is what the hold of that sum in a sandbox is worth. -/
noncomputable def Try.pinned : Pinned := { name := "ytlmjkafijdakaaa", sum := "598ded17899403dfe52f3b6b889de775e7c205492e09d0ceb061bd054af025be", checked := Try.checked }
namespace Rows
def none {H : Type} : Left H := { results := [], args := [] }

/-- 'laws.FnExactConstants': WHATEVER THE INPUT: true; the input reads as it did. -/
def fnExactConstantsSpec : ChangeSpec := { name := "fnExactConstants", fn := fun _ => fun
  | [] => { results := [.lit (.bool true)], args := [] }
  | _ => none }
def fnExactConstantsRow : OpenClaim := { program := "ytlmjkafijdakaaa", sum := "598ded17899403dfe52f3b6b889de775e7c205492e09d0ceb061bd054af025be", func := "loop.example/purser/laws.FnExactConstants", spec := "fnExactConstants", apart := false }
def FnExactConstantsSaid : Prop := fnExactConstantsRow.holds Try.pinned (OpenSpec.ofChange fnExactConstantsSpec)

/-- ITS FALSE NEIGHBOUR: 'it returns false'. Refute it at one input. -/
def fnExactConstantsWrong : ChangeSpec := { name := "fnExactConstants", fn := fun _ => fun
  | [] => { results := [.lit (.bool false)], args := [] }
  | _ => none }
def FnExactConstantsWrongFalsely : Prop := fnExactConstantsRow.holds Try.pinned (OpenSpec.ofChange fnExactConstantsWrong)

/-- 'laws.FnExactSumOf': WHATEVER THE INPUT: true; the input reads as it did. -/
def fnExactSumOfSpec : ChangeSpec := { name := "fnExactSumOf", fn := fun _ => fun
  | [d] => { results := [.lit (.bool true)], args := [d] }
  | _ => none }
def fnExactSumOfRow : OpenClaim := { program := "ytlmjkafijdakaaa", sum := "598ded17899403dfe52f3b6b889de775e7c205492e09d0ceb061bd054af025be", func := "loop.example/purser/laws.FnExactSumOf", spec := "fnExactSumOf", apart := false }
def FnExactSumOfSaid : Prop := fnExactSumOfRow.holds Try.pinned (OpenSpec.ofChange fnExactSumOfSpec)

/-- ITS FALSE NEIGHBOUR: 'it returns false'. Refute it at one input. -/
def fnExactSumOfWrong : ChangeSpec := { name := "fnExactSumOf", fn := fun _ => fun
  | [d] => { results := [.lit (.bool false)], args := [d] }
  | _ => none }
def FnExactSumOfWrongFalsely : Prop := fnExactSumOfRow.holds Try.pinned (OpenSpec.ofChange fnExactSumOfWrong)

/-- 'laws.FnExactKeysOk': WHATEVER THE INPUT: true; the input reads as it did. -/
def fnExactKeysOkSpec : ChangeSpec := { name := "fnExactKeysOk", fn := fun _ => fun
  | [d] => { results := [.lit (.bool true)], args := [d] }
  | _ => none }
def fnExactKeysOkRow : OpenClaim := { program := "ytlmjkafijdakaaa", sum := "598ded17899403dfe52f3b6b889de775e7c205492e09d0ceb061bd054af025be", func := "loop.example/purser/laws.FnExactKeysOk", spec := "fnExactKeysOk", apart := false }
def FnExactKeysOkSaid : Prop := fnExactKeysOkRow.holds Try.pinned (OpenSpec.ofChange fnExactKeysOkSpec)

/-- ITS FALSE NEIGHBOUR: 'it returns false'. Refute it at one input. -/
def fnExactKeysOkWrong : ChangeSpec := { name := "fnExactKeysOk", fn := fun _ => fun
  | [d] => { results := [.lit (.bool false)], args := [d] }
  | _ => none }
def FnExactKeysOkWrongFalsely : Prop := fnExactKeysOkRow.holds Try.pinned (OpenSpec.ofChange fnExactKeysOkWrong)

/-- 'laws.FnKeysLess': WHATEVER THE INPUT: true; the input reads as it did. -/
def fnKeysLessSpec : ChangeSpec := { name := "fnKeysLess", fn := fun _ => fun
  | [d1, d2] => { results := [.lit (.bool true)], args := [d1, d2] }
  | _ => none }
def fnKeysLessRow : OpenClaim := { program := "ytlmjkafijdakaaa", sum := "598ded17899403dfe52f3b6b889de775e7c205492e09d0ceb061bd054af025be", func := "loop.example/purser/laws.FnKeysLess", spec := "fnKeysLess", apart := false }
def FnKeysLessSaid : Prop := fnKeysLessRow.holds Try.pinned (OpenSpec.ofChange fnKeysLessSpec)

/-- ITS FALSE NEIGHBOUR: 'it returns false'. Refute it at one input. -/
def fnKeysLessWrong : ChangeSpec := { name := "fnKeysLess", fn := fun _ => fun
  | [d1, d2] => { results := [.lit (.bool false)], args := [d1, d2] }
  | _ => none }
def FnKeysLessWrongFalsely : Prop := fnKeysLessRow.holds Try.pinned (OpenSpec.ofChange fnKeysLessWrong)

/-- 'laws.FnExactRootOk': WHATEVER THE INPUT: true; the input reads as it did. -/
def fnExactRootOkSpec : ChangeSpec := { name := "fnExactRootOk", fn := fun _ => fun
  | [d] => { results := [.lit (.bool true)], args := [d] }
  | _ => none }
def fnExactRootOkRow : OpenClaim := { program := "ytlmjkafijdakaaa", sum := "598ded17899403dfe52f3b6b889de775e7c205492e09d0ceb061bd054af025be", func := "loop.example/purser/laws.FnExactRootOk", spec := "fnExactRootOk", apart := false }
def FnExactRootOkSaid : Prop := fnExactRootOkRow.holds Try.pinned (OpenSpec.ofChange fnExactRootOkSpec)

/-- ITS FALSE NEIGHBOUR: 'it returns false'. Refute it at one input. -/
def fnExactRootOkWrong : ChangeSpec := { name := "fnExactRootOk", fn := fun _ => fun
  | [d] => { results := [.lit (.bool false)], args := [d] }
  | _ => none }
def FnExactRootOkWrongFalsely : Prop := fnExactRootOkRow.holds Try.pinned (OpenSpec.ofChange fnExactRootOkWrong)

/-- 'laws.FnExactKeysBoth': WHATEVER THE INPUT: true; the input reads as it did. -/
def fnExactKeysBothSpec : ChangeSpec := { name := "fnExactKeysBoth", fn := fun _ => fun
  | [d1, d2] => { results := [.lit (.bool true)], args := [d1, d2] }
  | _ => none }
def fnExactKeysBothRow : OpenClaim := { program := "ytlmjkafijdakaaa", sum := "598ded17899403dfe52f3b6b889de775e7c205492e09d0ceb061bd054af025be", func := "loop.example/purser/laws.FnExactKeysBoth", spec := "fnExactKeysBoth", apart := false }
def FnExactKeysBothSaid : Prop := fnExactKeysBothRow.holds Try.pinned (OpenSpec.ofChange fnExactKeysBothSpec)

/-- ITS FALSE NEIGHBOUR: 'it returns false'. Refute it at one input. -/
def fnExactKeysBothWrong : ChangeSpec := { name := "fnExactKeysBoth", fn := fun _ => fun
  | [d1, d2] => { results := [.lit (.bool false)], args := [d1, d2] }
  | _ => none }
def FnExactKeysBothWrongFalsely : Prop := fnExactKeysBothRow.holds Try.pinned (OpenSpec.ofChange fnExactKeysBothWrong)

/-- 'laws.FnRootLess': WHATEVER THE INPUT: true; the input reads as it did. -/
def fnRootLessSpec : ChangeSpec := { name := "fnRootLess", fn := fun _ => fun
  | [d1, d2] => { results := [.lit (.bool true)], args := [d1, d2] }
  | _ => none }
def fnRootLessRow : OpenClaim := { program := "ytlmjkafijdakaaa", sum := "598ded17899403dfe52f3b6b889de775e7c205492e09d0ceb061bd054af025be", func := "loop.example/purser/laws.FnRootLess", spec := "fnRootLess", apart := false }
def FnRootLessSaid : Prop := fnRootLessRow.holds Try.pinned (OpenSpec.ofChange fnRootLessSpec)

/-- ITS FALSE NEIGHBOUR: 'it returns false'. Refute it at one input. -/
def fnRootLessWrong : ChangeSpec := { name := "fnRootLess", fn := fun _ => fun
  | [d1, d2] => { results := [.lit (.bool false)], args := [d1, d2] }
  | _ => none }
def FnRootLessWrongFalsely : Prop := fnRootLessRow.holds Try.pinned (OpenSpec.ofChange fnRootLessWrong)

/-- 'laws.FnKeysAll': WHATEVER THE INPUT: true; the input reads as it did. -/
def fnKeysAllSpec : ChangeSpec := { name := "fnKeysAll", fn := fun _ => fun
  | [d] => { results := [.lit (.bool true)], args := [d] }
  | _ => none }
def fnKeysAllRow : OpenClaim := { program := "ytlmjkafijdakaaa", sum := "598ded17899403dfe52f3b6b889de775e7c205492e09d0ceb061bd054af025be", func := "loop.example/purser/laws.FnKeysAll", spec := "fnKeysAll", apart := false }
def FnKeysAllSaid : Prop := fnKeysAllRow.holds Try.pinned (OpenSpec.ofChange fnKeysAllSpec)

/-- ITS FALSE NEIGHBOUR: 'it returns false'. Refute it at one input. -/
def fnKeysAllWrong : ChangeSpec := { name := "fnKeysAll", fn := fun _ => fun
  | [d] => { results := [.lit (.bool false)], args := [d] }
  | _ => none }
def FnKeysAllWrongFalsely : Prop := fnKeysAllRow.holds Try.pinned (OpenSpec.ofChange fnKeysAllWrong)

/-- 'laws.FnKeysBoth': WHATEVER THE INPUT: true; the input reads as it did. -/
def fnKeysBothSpec : ChangeSpec := { name := "fnKeysBoth", fn := fun _ => fun
  | [d] => { results := [.lit (.bool true)], args := [d] }
  | _ => none }
def fnKeysBothRow : OpenClaim := { program := "ytlmjkafijdakaaa", sum := "598ded17899403dfe52f3b6b889de775e7c205492e09d0ceb061bd054af025be", func := "loop.example/purser/laws.FnKeysBoth", spec := "fnKeysBoth", apart := false }
def FnKeysBothSaid : Prop := fnKeysBothRow.holds Try.pinned (OpenSpec.ofChange fnKeysBothSpec)

/-- ITS FALSE NEIGHBOUR: 'it returns false'. Refute it at one input. -/
def fnKeysBothWrong : ChangeSpec := { name := "fnKeysBoth", fn := fun _ => fun
  | [d] => { results := [.lit (.bool false)], args := [d] }
  | _ => none }
def FnKeysBothWrongFalsely : Prop := fnKeysBothRow.holds Try.pinned (OpenSpec.ofChange fnKeysBothWrong)

/-- 'laws.FnExactIndexOk': WHATEVER THE INPUT: true; the input reads as it did. -/
def fnExactIndexOkSpec : ChangeSpec := { name := "fnExactIndexOk", fn := fun _ => fun
  | [d] => { results := [.lit (.bool true)], args := [d] }
  | _ => none }
def fnExactIndexOkRow : OpenClaim := { program := "ytlmjkafijdakaaa", sum := "598ded17899403dfe52f3b6b889de775e7c205492e09d0ceb061bd054af025be", func := "loop.example/purser/laws.FnExactIndexOk", spec := "fnExactIndexOk", apart := false }
def FnExactIndexOkSaid : Prop := fnExactIndexOkRow.holds Try.pinned (OpenSpec.ofChange fnExactIndexOkSpec)

/-- ITS FALSE NEIGHBOUR: 'it returns false'. Refute it at one input. -/
def fnExactIndexOkWrong : ChangeSpec := { name := "fnExactIndexOk", fn := fun _ => fun
  | [d] => { results := [.lit (.bool false)], args := [d] }
  | _ => none }
def FnExactIndexOkWrongFalsely : Prop := fnExactIndexOkRow.holds Try.pinned (OpenSpec.ofChange fnExactIndexOkWrong)

/-- 'laws.FnRootNeed': WHATEVER THE INPUT: true; the input reads as it did. -/
def fnRootNeedSpec : ChangeSpec := { name := "fnRootNeed", fn := fun _ => fun
  | [d] => { results := [.lit (.bool true)], args := [d] }
  | _ => none }
def fnRootNeedRow : OpenClaim := { program := "ytlmjkafijdakaaa", sum := "598ded17899403dfe52f3b6b889de775e7c205492e09d0ceb061bd054af025be", func := "loop.example/purser/laws.FnRootNeed", spec := "fnRootNeed", apart := false }
def FnRootNeedSaid : Prop := fnRootNeedRow.holds Try.pinned (OpenSpec.ofChange fnRootNeedSpec)

/-- ITS FALSE NEIGHBOUR: 'it returns false'. Refute it at one input. -/
def fnRootNeedWrong : ChangeSpec := { name := "fnRootNeed", fn := fun _ => fun
  | [d] => { results := [.lit (.bool false)], args := [d] }
  | _ => none }
def FnRootNeedWrongFalsely : Prop := fnRootNeedRow.holds Try.pinned (OpenSpec.ofChange fnRootNeedWrong)

/-- 'laws.FnRootSame': WHATEVER THE INPUT: true; the input reads as it did. -/
def fnRootSameSpec : ChangeSpec := { name := "fnRootSame", fn := fun _ => fun
  | [d] => { results := [.lit (.bool true)], args := [d] }
  | _ => none }
def fnRootSameRow : OpenClaim := { program := "ytlmjkafijdakaaa", sum := "598ded17899403dfe52f3b6b889de775e7c205492e09d0ceb061bd054af025be", func := "loop.example/purser/laws.FnRootSame", spec := "fnRootSame", apart := false }
def FnRootSameSaid : Prop := fnRootSameRow.holds Try.pinned (OpenSpec.ofChange fnRootSameSpec)

/-- ITS FALSE NEIGHBOUR: 'it returns false'. Refute it at one input. -/
def fnRootSameWrong : ChangeSpec := { name := "fnRootSame", fn := fun _ => fun
  | [d] => { results := [.lit (.bool false)], args := [d] }
  | _ => none }
def FnRootSameWrongFalsely : Prop := fnRootSameRow.holds Try.pinned (OpenSpec.ofChange fnRootSameWrong)

/- THE SECOND FORM. 'bulk': how many values and letters a reading holds, each counted each time it is reached (what is shared counts as often as it is met; a slice's spare places count too). A statement '..UptoSaid' is the law's where the arguments, and the package variables that the reading takes, are together of bulk at most 1048576: NARROWER than '..Said'. Prove '..Said' where nothing that the law and all that it calls make is longer than what came in: it says more and counts as full. Else prove '..UptoSaid'. A law counts once. -/
mutual
def uptoBulk {H : Type} : DataW H → Nat
  | .lit (.string bytes) => bytes.length + 1
  | .lit _ => 1
  | .nil => 1
  | .ptr d => uptoBulk d + 1
  | .slice elems spare => uptoBulkAll elems + uptoBulkAll spare + 1
  | .agg parts => uptoBulkAll parts + 1
  | .iface _ d => uptoBulk d + 1
  | .map entries => uptoBulkEntries entries + 1
  | .held _ => 1
def uptoBulkAll {H : Type} : List (DataW H) → Nat
  | [] => 0
  | d :: r => uptoBulk d + uptoBulkAll r
def uptoBulkEntries {H : Type} : List (Lit × DataW H) → Nat
  | [] => 0
  | x :: r => uptoBulkEntry x + uptoBulkEntries r
def uptoBulkEntry {H : Type} : Lit × DataW H → Nat
  | (.string bytes, d) => bytes.length + uptoBulk d + 1
  | (_, d) => uptoBulk d + 1
 end
def uptoSmall : (H : Type) → List (DataW H) → Bool := fun _ ds => decide (uptoBulkAll ds ≤ 1048576)
def OpenSpec.upto (s : _root_.Go.ChangeSpec) : _root_.Go.OpenSpec := { _root_.Go.OpenSpec.ofChange s with cond := some uptoSmall }

/-- 'laws.FnExactConstants', WHERE WHAT IT READS IS OF BULK AT MOST 1048576: true; the input reads as it did. -/
def fnExactConstantsUptoRow : OpenClaim := { program := "ytlmjkafijdakaaa", sum := "598ded17899403dfe52f3b6b889de775e7c205492e09d0ceb061bd054af025be", func := "loop.example/purser/laws.FnExactConstants", spec := "fnExactConstants", apart := false, narrowed := true }
def FnExactConstantsUptoSaid : Prop := fnExactConstantsUptoRow.holds Try.pinned (OpenSpec.upto fnExactConstantsSpec)

/-- 'laws.FnExactSumOf', WHERE WHAT IT READS IS OF BULK AT MOST 1048576: true; the input reads as it did. -/
def fnExactSumOfUptoRow : OpenClaim := { program := "ytlmjkafijdakaaa", sum := "598ded17899403dfe52f3b6b889de775e7c205492e09d0ceb061bd054af025be", func := "loop.example/purser/laws.FnExactSumOf", spec := "fnExactSumOf", apart := false, narrowed := true }
def FnExactSumOfUptoSaid : Prop := fnExactSumOfUptoRow.holds Try.pinned (OpenSpec.upto fnExactSumOfSpec)

/-- 'laws.FnExactKeysOk', WHERE WHAT IT READS IS OF BULK AT MOST 1048576: true; the input reads as it did. -/
def fnExactKeysOkUptoRow : OpenClaim := { program := "ytlmjkafijdakaaa", sum := "598ded17899403dfe52f3b6b889de775e7c205492e09d0ceb061bd054af025be", func := "loop.example/purser/laws.FnExactKeysOk", spec := "fnExactKeysOk", apart := false, narrowed := true }
def FnExactKeysOkUptoSaid : Prop := fnExactKeysOkUptoRow.holds Try.pinned (OpenSpec.upto fnExactKeysOkSpec)

/-- 'laws.FnKeysLess', WHERE WHAT IT READS IS OF BULK AT MOST 1048576: true; the input reads as it did. -/
def fnKeysLessUptoRow : OpenClaim := { program := "ytlmjkafijdakaaa", sum := "598ded17899403dfe52f3b6b889de775e7c205492e09d0ceb061bd054af025be", func := "loop.example/purser/laws.FnKeysLess", spec := "fnKeysLess", apart := false, narrowed := true }
def FnKeysLessUptoSaid : Prop := fnKeysLessUptoRow.holds Try.pinned (OpenSpec.upto fnKeysLessSpec)

/-- 'laws.FnExactRootOk', WHERE WHAT IT READS IS OF BULK AT MOST 1048576: true; the input reads as it did. -/
def fnExactRootOkUptoRow : OpenClaim := { program := "ytlmjkafijdakaaa", sum := "598ded17899403dfe52f3b6b889de775e7c205492e09d0ceb061bd054af025be", func := "loop.example/purser/laws.FnExactRootOk", spec := "fnExactRootOk", apart := false, narrowed := true }
def FnExactRootOkUptoSaid : Prop := fnExactRootOkUptoRow.holds Try.pinned (OpenSpec.upto fnExactRootOkSpec)

/-- 'laws.FnExactKeysBoth', WHERE WHAT IT READS IS OF BULK AT MOST 1048576: true; the input reads as it did. -/
def fnExactKeysBothUptoRow : OpenClaim := { program := "ytlmjkafijdakaaa", sum := "598ded17899403dfe52f3b6b889de775e7c205492e09d0ceb061bd054af025be", func := "loop.example/purser/laws.FnExactKeysBoth", spec := "fnExactKeysBoth", apart := false, narrowed := true }
def FnExactKeysBothUptoSaid : Prop := fnExactKeysBothUptoRow.holds Try.pinned (OpenSpec.upto fnExactKeysBothSpec)

/-- 'laws.FnRootLess', WHERE WHAT IT READS IS OF BULK AT MOST 1048576: true; the input reads as it did. -/
def fnRootLessUptoRow : OpenClaim := { program := "ytlmjkafijdakaaa", sum := "598ded17899403dfe52f3b6b889de775e7c205492e09d0ceb061bd054af025be", func := "loop.example/purser/laws.FnRootLess", spec := "fnRootLess", apart := false, narrowed := true }
def FnRootLessUptoSaid : Prop := fnRootLessUptoRow.holds Try.pinned (OpenSpec.upto fnRootLessSpec)

/-- 'laws.FnKeysAll', WHERE WHAT IT READS IS OF BULK AT MOST 1048576: true; the input reads as it did. -/
def fnKeysAllUptoRow : OpenClaim := { program := "ytlmjkafijdakaaa", sum := "598ded17899403dfe52f3b6b889de775e7c205492e09d0ceb061bd054af025be", func := "loop.example/purser/laws.FnKeysAll", spec := "fnKeysAll", apart := false, narrowed := true }
def FnKeysAllUptoSaid : Prop := fnKeysAllUptoRow.holds Try.pinned (OpenSpec.upto fnKeysAllSpec)

/-- 'laws.FnKeysBoth', WHERE WHAT IT READS IS OF BULK AT MOST 1048576: true; the input reads as it did. -/
def fnKeysBothUptoRow : OpenClaim := { program := "ytlmjkafijdakaaa", sum := "598ded17899403dfe52f3b6b889de775e7c205492e09d0ceb061bd054af025be", func := "loop.example/purser/laws.FnKeysBoth", spec := "fnKeysBoth", apart := false, narrowed := true }
def FnKeysBothUptoSaid : Prop := fnKeysBothUptoRow.holds Try.pinned (OpenSpec.upto fnKeysBothSpec)

/-- 'laws.FnExactIndexOk', WHERE WHAT IT READS IS OF BULK AT MOST 1048576: true; the input reads as it did. -/
def fnExactIndexOkUptoRow : OpenClaim := { program := "ytlmjkafijdakaaa", sum := "598ded17899403dfe52f3b6b889de775e7c205492e09d0ceb061bd054af025be", func := "loop.example/purser/laws.FnExactIndexOk", spec := "fnExactIndexOk", apart := false, narrowed := true }
def FnExactIndexOkUptoSaid : Prop := fnExactIndexOkUptoRow.holds Try.pinned (OpenSpec.upto fnExactIndexOkSpec)

/-- 'laws.FnRootNeed', WHERE WHAT IT READS IS OF BULK AT MOST 1048576: true; the input reads as it did. -/
def fnRootNeedUptoRow : OpenClaim := { program := "ytlmjkafijdakaaa", sum := "598ded17899403dfe52f3b6b889de775e7c205492e09d0ceb061bd054af025be", func := "loop.example/purser/laws.FnRootNeed", spec := "fnRootNeed", apart := false, narrowed := true }
def FnRootNeedUptoSaid : Prop := fnRootNeedUptoRow.holds Try.pinned (OpenSpec.upto fnRootNeedSpec)

/-- 'laws.FnRootSame', WHERE WHAT IT READS IS OF BULK AT MOST 1048576: true; the input reads as it did. -/
def fnRootSameUptoRow : OpenClaim := { program := "ytlmjkafijdakaaa", sum := "598ded17899403dfe52f3b6b889de775e7c205492e09d0ceb061bd054af025be", func := "loop.example/purser/laws.FnRootSame", spec := "fnRootSame", apart := false, narrowed := true }
def FnRootSameUptoSaid : Prop := fnRootSameUptoRow.holds Try.pinned (OpenSpec.upto fnRootSameSpec)

end Rows
end Go.Proofs.Ytlmjkafijdakaaa
