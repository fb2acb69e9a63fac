/-
  NARROWER THAN 'FOR EVERY INPUT', by the rows' own cells (each row's printed sentence says how): FnPkgVer: laid · FnExactIndexText: laid · FnPkgOne: laid · FnExactPkgText: laid · FnIndexOne: laid.
  DERIVED. THE GIVEN ROWS OF THIS SEAT. 5 by the template 'for every input the law returns true; each argument reads behind the call as it read before'; 0 by the template 'total and deterministic' (their statements: YtlmgnnpmcdeclaaDoorTotals.lean).
  GIVEN WITH THE SEED: the statements are not yours to turn. If you find one false, say at which input.
  Laid BY PROGRAM, IN A SANDBOX (cutbox-rows.mjs): the forced cells as the released guide's own fill.sh prints them over the translation 3159adf12dcba6a7… (all of the seat's roots in one cut). By AI agents, Wed Nov 11 2026. No macro, syntax, notation, axiom, sorry.
-/
import Derived.Test.YtlmgnnpmcdeclaaDoorChecked
import GoSem.Claim
import GoSem.ClaimJoined
import GoSem.ClaimMapViews
import Derived.JoinedTies
import Derived.KernelRfl
namespace Go.Proofs.YtlmgnnpmcdeclaaDoor
/- THE CELL 'sum', in the pinned program and in every row, IS THE sha256 OF THE DUMP (.gsa) THAT YtlmgnnpmcdeclaaDoorProg.lean LOADS. Nothing in Lean hashes anything: it is a label: what it is worth is what the hold of that sum in a sandbox is worth. -/
noncomputable def Tryd.pinned : Pinned := { name := "ytlmgnnpmcdeclaadoor", sum := "3159adf12dcba6a71bf44a7c173ef49dab32ab2a8acf57370c96e80ffa6a2d21", checked := Tryd.checked }
namespace Rows
def none {H : Type} : Left H := { results := [], args := [] }

/- WHAT THE LISTED PACKAGE-LEVEL VARIABLES READ AS WHEN THE CALL BEGINS. Each datum BY PROGRAM (the guide's laid-datum.mjs) off the statement by which the dump's own 'gosem.cut.vars' lays the variable. In a bare row this is a premise. The card (YtlmgnnpmcdeclaaDoorCards.lean) ties it to the program's text. -/
def laid_math_bits_deBruijn32tab {H : Type} : DataW H := .agg [.lit (.int .u8 0), .lit (.int .u8 1), .lit (.int .u8 28), .lit (.int .u8 2), .lit (.int .u8 29), .lit (.int .u8 14), .lit (.int .u8 24), .lit (.int .u8 3), .lit (.int .u8 30), .lit (.int .u8 22), .lit (.int .u8 20), .lit (.int .u8 15), .lit (.int .u8 25), .lit (.int .u8 17), .lit (.int .u8 4), .lit (.int .u8 8), .lit (.int .u8 31), .lit (.int .u8 27), .lit (.int .u8 13), .lit (.int .u8 23), .lit (.int .u8 21), .lit (.int .u8 19), .lit (.int .u8 16), .lit (.int .u8 7), .lit (.int .u8 26), .lit (.int .u8 12), .lit (.int .u8 18), .lit (.int .u8 6), .lit (.int .u8 11), .lit (.int .u8 5), .lit (.int .u8 10), .lit (.int .u8 9)]
def laid_math_bits_deBruijn64tab {H : Type} : DataW H := .agg [.lit (.int .u8 0), .lit (.int .u8 1), .lit (.int .u8 56), .lit (.int .u8 2), .lit (.int .u8 57), .lit (.int .u8 49), .lit (.int .u8 28), .lit (.int .u8 3), .lit (.int .u8 61), .lit (.int .u8 58), .lit (.int .u8 42), .lit (.int .u8 50), .lit (.int .u8 38), .lit (.int .u8 29), .lit (.int .u8 17), .lit (.int .u8 4), .lit (.int .u8 62), .lit (.int .u8 47), .lit (.int .u8 59), .lit (.int .u8 36), .lit (.int .u8 45), .lit (.int .u8 43), .lit (.int .u8 51), .lit (.int .u8 22), .lit (.int .u8 53), .lit (.int .u8 39), .lit (.int .u8 33), .lit (.int .u8 30), .lit (.int .u8 24), .lit (.int .u8 18), .lit (.int .u8 12), .lit (.int .u8 5), .lit (.int .u8 63), .lit (.int .u8 55), .lit (.int .u8 48), .lit (.int .u8 27), .lit (.int .u8 60), .lit (.int .u8 41), .lit (.int .u8 37), .lit (.int .u8 16), .lit (.int .u8 46), .lit (.int .u8 35), .lit (.int .u8 44), .lit (.int .u8 21), .lit (.int .u8 52), .lit (.int .u8 32), .lit (.int .u8 23), .lit (.int .u8 11), .lit (.int .u8 54), .lit (.int .u8 26), .lit (.int .u8 40), .lit (.int .u8 15), .lit (.int .u8 34), .lit (.int .u8 20), .lit (.int .u8 31), .lit (.int .u8 10), .lit (.int .u8 25), .lit (.int .u8 14), .lit (.int .u8 19), .lit (.int .u8 9), .lit (.int .u8 13), .lit (.int .u8 8), .lit (.int .u8 7), .lit (.int .u8 6)]
def laid_internal_strconv_uint64pow10 {H : Type} : DataW H := .agg [.lit (.int .u64 1), .lit (.int .u64 10), .lit (.int .u64 100), .lit (.int .u64 1000), .lit (.int .u64 10000), .lit (.int .u64 100000), .lit (.int .u64 1000000), .lit (.int .u64 10000000), .lit (.int .u64 100000000), .lit (.int .u64 1000000000), .lit (.int .u64 10000000000), .lit (.int .u64 100000000000), .lit (.int .u64 1000000000000), .lit (.int .u64 10000000000000), .lit (.int .u64 100000000000000), .lit (.int .u64 1000000000000000), .lit (.int .u64 10000000000000000), .lit (.int .u64 100000000000000000), .lit (.int .u64 1000000000000000000), .lit (.int .u64 10000000000000000000)]

/-- 'laws.FnPkgVer': WHATEVER THE INPUT: true; the input reads as it did. -/
def fnPkgVerSpec : ChangeSpec := { name := "fnPkgVer", fn := fun _ => fun
  | [d1, d2] => { results := [.lit (.bool true)], args := [d1, d2] }
  | _ => none }
def fnPkgVerRow : OpenClaim := { program := "ytlmgnnpmcdeclaadoor", sum := "3159adf12dcba6a71bf44a7c173ef49dab32ab2a8acf57370c96e80ffa6a2d21", func := "loop.example/purser/laws.FnPkgVer", spec := "fnPkgVer", inPlace := ["internal/abi.NoEscape"], recurses := true, named := ["internal/strconv.uint64pow10", "math/bits.deBruijn32tab", "math/bits.deBruijn64tab"], apart := false, laid := [("math/bits.deBruijn32tab", laid_math_bits_deBruijn32tab), ("math/bits.deBruijn64tab", laid_math_bits_deBruijn64tab), ("internal/strconv.uint64pow10", laid_internal_strconv_uint64pow10)] }
def FnPkgVerSaid : Prop := fnPkgVerRow.holds Tryd.pinned (OpenSpec.ofChange fnPkgVerSpec)

/-- ITS FALSE NEIGHBOUR: 'it returns false'. Refute it at one input. -/
def fnPkgVerWrong : ChangeSpec := { name := "fnPkgVer", fn := fun _ => fun
  | [d1, d2] => { results := [.lit (.bool false)], args := [d1, d2] }
  | _ => none }
def FnPkgVerWrongFalsely : Prop := fnPkgVerRow.holds Tryd.pinned (OpenSpec.ofChange fnPkgVerWrong)

/-- 'laws.FnExactIndexText': WHATEVER THE INPUT: true; the input reads as it did. -/
def fnExactIndexTextSpec : ChangeSpec := { name := "fnExactIndexText", fn := fun _ => fun
  | [d] => { results := [.lit (.bool true)], args := [d] }
  | _ => none }
def fnExactIndexTextRow : OpenClaim := { program := "ytlmgnnpmcdeclaadoor", sum := "3159adf12dcba6a71bf44a7c173ef49dab32ab2a8acf57370c96e80ffa6a2d21", func := "loop.example/purser/laws.FnExactIndexText", spec := "fnExactIndexText", inPlace := ["internal/abi.NoEscape"], recurses := true, named := ["internal/strconv.uint64pow10", "math/bits.deBruijn32tab", "math/bits.deBruijn64tab"], apart := false, laid := [("math/bits.deBruijn32tab", laid_math_bits_deBruijn32tab), ("math/bits.deBruijn64tab", laid_math_bits_deBruijn64tab), ("internal/strconv.uint64pow10", laid_internal_strconv_uint64pow10)] }
def FnExactIndexTextSaid : Prop := fnExactIndexTextRow.holds Tryd.pinned (OpenSpec.ofChange fnExactIndexTextSpec)

/-- ITS FALSE NEIGHBOUR: 'it returns false'. Refute it at one input. -/
def fnExactIndexTextWrong : ChangeSpec := { name := "fnExactIndexText", fn := fun _ => fun
  | [d] => { results := [.lit (.bool false)], args := [d] }
  | _ => none }
def FnExactIndexTextWrongFalsely : Prop := fnExactIndexTextRow.holds Tryd.pinned (OpenSpec.ofChange fnExactIndexTextWrong)

/-- 'laws.FnPkgOne': WHATEVER THE INPUT: true; the input reads as it did. -/
def fnPkgOneSpec : ChangeSpec := { name := "fnPkgOne", fn := fun _ => fun
  | [d1, d2] => { results := [.lit (.bool true)], args := [d1, d2] }
  | _ => none }
def fnPkgOneRow : OpenClaim := { program := "ytlmgnnpmcdeclaadoor", sum := "3159adf12dcba6a71bf44a7c173ef49dab32ab2a8acf57370c96e80ffa6a2d21", func := "loop.example/purser/laws.FnPkgOne", spec := "fnPkgOne", inPlace := ["internal/abi.NoEscape"], recurses := true, named := ["internal/strconv.uint64pow10", "math/bits.deBruijn32tab", "math/bits.deBruijn64tab"], apart := false, laid := [("math/bits.deBruijn32tab", laid_math_bits_deBruijn32tab), ("math/bits.deBruijn64tab", laid_math_bits_deBruijn64tab), ("internal/strconv.uint64pow10", laid_internal_strconv_uint64pow10)] }
def FnPkgOneSaid : Prop := fnPkgOneRow.holds Tryd.pinned (OpenSpec.ofChange fnPkgOneSpec)

/-- ITS FALSE NEIGHBOUR: 'it returns false'. Refute it at one input. -/
def fnPkgOneWrong : ChangeSpec := { name := "fnPkgOne", fn := fun _ => fun
  | [d1, d2] => { results := [.lit (.bool false)], args := [d1, d2] }
  | _ => none }
def FnPkgOneWrongFalsely : Prop := fnPkgOneRow.holds Tryd.pinned (OpenSpec.ofChange fnPkgOneWrong)

/-- 'laws.FnExactPkgText': WHATEVER THE INPUT: true; the input reads as it did. -/
def fnExactPkgTextSpec : ChangeSpec := { name := "fnExactPkgText", fn := fun _ => fun
  | [d] => { results := [.lit (.bool true)], args := [d] }
  | _ => none }
def fnExactPkgTextRow : OpenClaim := { program := "ytlmgnnpmcdeclaadoor", sum := "3159adf12dcba6a71bf44a7c173ef49dab32ab2a8acf57370c96e80ffa6a2d21", func := "loop.example/purser/laws.FnExactPkgText", spec := "fnExactPkgText", inPlace := ["internal/abi.NoEscape"], recurses := true, named := ["internal/strconv.uint64pow10", "math/bits.deBruijn32tab", "math/bits.deBruijn64tab"], apart := false, laid := [("math/bits.deBruijn32tab", laid_math_bits_deBruijn32tab), ("math/bits.deBruijn64tab", laid_math_bits_deBruijn64tab), ("internal/strconv.uint64pow10", laid_internal_strconv_uint64pow10)] }
def FnExactPkgTextSaid : Prop := fnExactPkgTextRow.holds Tryd.pinned (OpenSpec.ofChange fnExactPkgTextSpec)

/-- ITS FALSE NEIGHBOUR: 'it returns false'. Refute it at one input. -/
def fnExactPkgTextWrong : ChangeSpec := { name := "fnExactPkgText", fn := fun _ => fun
  | [d] => { results := [.lit (.bool false)], args := [d] }
  | _ => none }
def FnExactPkgTextWrongFalsely : Prop := fnExactPkgTextRow.holds Tryd.pinned (OpenSpec.ofChange fnExactPkgTextWrong)

/-- 'laws.FnIndexOne': WHATEVER THE INPUT: true; the input reads as it did. -/
def fnIndexOneSpec : ChangeSpec := { name := "fnIndexOne", fn := fun _ => fun
  | [d1, d2] => { results := [.lit (.bool true)], args := [d1, d2] }
  | _ => none }
def fnIndexOneRow : OpenClaim := { program := "ytlmgnnpmcdeclaadoor", sum := "3159adf12dcba6a71bf44a7c173ef49dab32ab2a8acf57370c96e80ffa6a2d21", func := "loop.example/purser/laws.FnIndexOne", spec := "fnIndexOne", inPlace := ["internal/abi.NoEscape"], recurses := true, named := ["internal/strconv.uint64pow10", "math/bits.deBruijn32tab", "math/bits.deBruijn64tab"], apart := false, laid := [("math/bits.deBruijn32tab", laid_math_bits_deBruijn32tab), ("math/bits.deBruijn64tab", laid_math_bits_deBruijn64tab), ("internal/strconv.uint64pow10", laid_internal_strconv_uint64pow10)] }
def FnIndexOneSaid : Prop := fnIndexOneRow.holds Tryd.pinned (OpenSpec.ofChange fnIndexOneSpec)

/-- ITS FALSE NEIGHBOUR: 'it returns false'. Refute it at one input. -/
def fnIndexOneWrong : ChangeSpec := { name := "fnIndexOne", fn := fun _ => fun
  | [d1, d2] => { results := [.lit (.bool false)], args := [d1, d2] }
  | _ => none }
def FnIndexOneWrongFalsely : Prop := fnIndexOneRow.holds Tryd.pinned (OpenSpec.ofChange fnIndexOneWrong)

/- THE SECOND FORM. 'bulk': how many values and letters a reading holds, each counted each time it is reached (what is shared counts as often as it is met; a slice's spare places count too). A statement '..UptoSaid' is the law's where the arguments, and the package variables that the reading takes, are together of bulk at most 1048576: NARROWER than '..Said'. Prove '..Said' where nothing that the law and all that it calls make is longer than what came in: it says more and counts as full. Else prove '..UptoSaid'. A law counts once. -/
mutual
def uptoBulk {H : Type} : DataW H → Nat
  | .lit (.string bytes) => bytes.length + 1
  | .lit _ => 1
  | .nil => 1
  | .ptr d => uptoBulk d + 1
  | .slice elems spare => uptoBulkAll elems + uptoBulkAll spare + 1
  | .agg parts => uptoBulkAll parts + 1
  | .iface _ d => uptoBulk d + 1
  | .map entries => uptoBulkEntries entries + 1
  | .held _ => 1
def uptoBulkAll {H : Type} : List (DataW H) → Nat
  | [] => 0
  | d :: r => uptoBulk d + uptoBulkAll r
def uptoBulkEntries {H : Type} : List (Lit × DataW H) → Nat
  | [] => 0
  | x :: r => uptoBulkEntry x + uptoBulkEntries r
def uptoBulkEntry {H : Type} : Lit × DataW H → Nat
  | (.string bytes, d) => bytes.length + uptoBulk d + 1
  | (_, d) => uptoBulk d + 1
 end
def uptoSmall : (H : Type) → List (DataW H) → Bool := fun _ ds => decide (uptoBulkAll ds ≤ 1048576)
def OpenSpec.upto (s : _root_.Go.ChangeSpec) : _root_.Go.OpenSpec := { _root_.Go.OpenSpec.ofChange s with cond := some uptoSmall }

/-- 'laws.FnPkgVer', WHERE WHAT IT READS IS OF BULK AT MOST 1048576: true; the input reads as it did. -/
def fnPkgVerUptoRow : OpenClaim := { program := "ytlmgnnpmcdeclaadoor", sum := "3159adf12dcba6a71bf44a7c173ef49dab32ab2a8acf57370c96e80ffa6a2d21", func := "loop.example/purser/laws.FnPkgVer", spec := "fnPkgVer", inPlace := ["internal/abi.NoEscape"], recurses := true, named := ["internal/strconv.uint64pow10", "math/bits.deBruijn32tab", "math/bits.deBruijn64tab"], apart := false, laid := [("math/bits.deBruijn32tab", laid_math_bits_deBruijn32tab), ("math/bits.deBruijn64tab", laid_math_bits_deBruijn64tab), ("internal/strconv.uint64pow10", laid_internal_strconv_uint64pow10)], narrowed := true }
def FnPkgVerUptoSaid : Prop := fnPkgVerUptoRow.holds Tryd.pinned (OpenSpec.upto fnPkgVerSpec)

/-- 'laws.FnExactIndexText', WHERE WHAT IT READS IS OF BULK AT MOST 1048576: true; the input reads as it did. -/
def fnExactIndexTextUptoRow : OpenClaim := { program := "ytlmgnnpmcdeclaadoor", sum := "3159adf12dcba6a71bf44a7c173ef49dab32ab2a8acf57370c96e80ffa6a2d21", func := "loop.example/purser/laws.FnExactIndexText", spec := "fnExactIndexText", inPlace := ["internal/abi.NoEscape"], recurses := true, named := ["internal/strconv.uint64pow10", "math/bits.deBruijn32tab", "math/bits.deBruijn64tab"], apart := false, laid := [("math/bits.deBruijn32tab", laid_math_bits_deBruijn32tab), ("math/bits.deBruijn64tab", laid_math_bits_deBruijn64tab), ("internal/strconv.uint64pow10", laid_internal_strconv_uint64pow10)], narrowed := true }
def FnExactIndexTextUptoSaid : Prop := fnExactIndexTextUptoRow.holds Tryd.pinned (OpenSpec.upto fnExactIndexTextSpec)

/-- 'laws.FnPkgOne', WHERE WHAT IT READS IS OF BULK AT MOST 1048576: true; the input reads as it did. -/
def fnPkgOneUptoRow : OpenClaim := { program := "ytlmgnnpmcdeclaadoor", sum := "3159adf12dcba6a71bf44a7c173ef49dab32ab2a8acf57370c96e80ffa6a2d21", func := "loop.example/purser/laws.FnPkgOne", spec := "fnPkgOne", inPlace := ["internal/abi.NoEscape"], recurses := true, named := ["internal/strconv.uint64pow10", "math/bits.deBruijn32tab", "math/bits.deBruijn64tab"], apart := false, laid := [("math/bits.deBruijn32tab", laid_math_bits_deBruijn32tab), ("math/bits.deBruijn64tab", laid_math_bits_deBruijn64tab), ("internal/strconv.uint64pow10", laid_internal_strconv_uint64pow10)], narrowed := true }
def FnPkgOneUptoSaid : Prop := fnPkgOneUptoRow.holds Tryd.pinned (OpenSpec.upto fnPkgOneSpec)

/-- 'laws.FnExactPkgText', WHERE WHAT IT READS IS OF BULK AT MOST 1048576: true; the input reads as it did. -/
def fnExactPkgTextUptoRow : OpenClaim := { program := "ytlmgnnpmcdeclaadoor", sum := "3159adf12dcba6a71bf44a7c173ef49dab32ab2a8acf57370c96e80ffa6a2d21", func := "loop.example/purser/laws.FnExactPkgText", spec := "fnExactPkgText", inPlace := ["internal/abi.NoEscape"], recurses := true, named := ["internal/strconv.uint64pow10", "math/bits.deBruijn32tab", "math/bits.deBruijn64tab"], apart := false, laid := [("math/bits.deBruijn32tab", laid_math_bits_deBruijn32tab), ("math/bits.deBruijn64tab", laid_math_bits_deBruijn64tab), ("internal/strconv.uint64pow10", laid_internal_strconv_uint64pow10)], narrowed := true }
def FnExactPkgTextUptoSaid : Prop := fnExactPkgTextUptoRow.holds Tryd.pinned (OpenSpec.upto fnExactPkgTextSpec)

/-- 'laws.FnIndexOne', WHERE WHAT IT READS IS OF BULK AT MOST 1048576: true; the input reads as it did. -/
def fnIndexOneUptoRow : OpenClaim := { program := "ytlmgnnpmcdeclaadoor", sum := "3159adf12dcba6a71bf44a7c173ef49dab32ab2a8acf57370c96e80ffa6a2d21", func := "loop.example/purser/laws.FnIndexOne", spec := "fnIndexOne", inPlace := ["internal/abi.NoEscape"], recurses := true, named := ["internal/strconv.uint64pow10", "math/bits.deBruijn32tab", "math/bits.deBruijn64tab"], apart := false, laid := [("math/bits.deBruijn32tab", laid_math_bits_deBruijn32tab), ("math/bits.deBruijn64tab", laid_math_bits_deBruijn64tab), ("internal/strconv.uint64pow10", laid_internal_strconv_uint64pow10)], narrowed := true }
def FnIndexOneUptoSaid : Prop := fnIndexOneUptoRow.holds Tryd.pinned (OpenSpec.upto fnIndexOneSpec)

end Rows
end Go.Proofs.YtlmgnnpmcdeclaaDoor
