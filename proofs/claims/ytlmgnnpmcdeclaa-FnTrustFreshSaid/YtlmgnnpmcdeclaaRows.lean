/-
  No cell of these rows narrows 'for every input' (looked for: loops, veiled, ifaces, maps, wideKeys, modest, calm, conditions, laid).
  DERIVED. THE GIVEN ROWS OF THIS SEAT. 5 by the template 'for every input the law returns true; each argument reads behind the call as it read before'; 0 by the template 'total and deterministic' (their statements: YtlmgnnpmcdeclaaTotals.lean).
  GIVEN WITH THE SEED: the statements are not yours to turn. If you find one false, say at which input.
  Laid BY PROGRAM, IN A SANDBOX (cutbox-rows.mjs): the forced cells as the released guide's own fill.sh prints them over the translation 20e01a995c161c00… (all of the seat's roots in one cut). By AI agents, Wed Nov 11 2026. No macro, syntax, notation, axiom, sorry.
-/
import Derived.Test.YtlmgnnpmcdeclaaChecked
import GoSem.Claim
import GoSem.ClaimJoined
import GoSem.ClaimMapViews
import Derived.JoinedTies
import Derived.KernelRfl
namespace Go.Proofs.Ytlmgnnpmcdeclaa
/- THE CELL 'sum', in the pinned program and in every row, IS THE sha256 OF THE DUMP (.gsa) THAT YtlmgnnpmcdeclaaProg.lean LOADS. Nothing in Lean hashes anything: it is a label: what it is worth is what the hold of that sum in a sandbox is worth. -/
noncomputable def Try.pinned : Pinned := { name := "ytlmgnnpmcdeclaa", sum := "20e01a995c161c00eb501425df00038c266b38004f3b5233dd97d60d67e4c6e2", checked := Try.checked }
namespace Rows
def none {H : Type} : Left H := { results := [], args := [] }

/-- 'laws.FnStoreLess': WHATEVER THE INPUT: true; the input reads as it did. -/
def fnStoreLessSpec : ChangeSpec := { name := "fnStoreLess", fn := fun _ => fun
  | [d1, d2] => { results := [.lit (.bool true)], args := [d1, d2] }
  | _ => none }
def fnStoreLessRow : OpenClaim := { program := "ytlmgnnpmcdeclaa", sum := "20e01a995c161c00eb501425df00038c266b38004f3b5233dd97d60d67e4c6e2", func := "loop.example/purser/laws.FnStoreLess", spec := "fnStoreLess", apart := false }
def FnStoreLessSaid : Prop := fnStoreLessRow.holds Try.pinned (OpenSpec.ofChange fnStoreLessSpec)

/-- ITS FALSE NEIGHBOUR: 'it returns false'. Refute it at one input. -/
def fnStoreLessWrong : ChangeSpec := { name := "fnStoreLess", fn := fun _ => fun
  | [d1, d2] => { results := [.lit (.bool false)], args := [d1, d2] }
  | _ => none }
def FnStoreLessWrongFalsely : Prop := fnStoreLessRow.holds Try.pinned (OpenSpec.ofChange fnStoreLessWrong)

/-- 'laws.FnExactTrustOk': WHATEVER THE INPUT: true; the input reads as it did. -/
def fnExactTrustOkSpec : ChangeSpec := { name := "fnExactTrustOk", fn := fun _ => fun
  | [d] => { results := [.lit (.bool true)], args := [d] }
  | _ => none }
def fnExactTrustOkRow : OpenClaim := { program := "ytlmgnnpmcdeclaa", sum := "20e01a995c161c00eb501425df00038c266b38004f3b5233dd97d60d67e4c6e2", func := "loop.example/purser/laws.FnExactTrustOk", spec := "fnExactTrustOk", apart := false }
def FnExactTrustOkSaid : Prop := fnExactTrustOkRow.holds Try.pinned (OpenSpec.ofChange fnExactTrustOkSpec)

/-- ITS FALSE NEIGHBOUR: 'it returns false'. Refute it at one input. -/
def fnExactTrustOkWrong : ChangeSpec := { name := "fnExactTrustOk", fn := fun _ => fun
  | [d] => { results := [.lit (.bool false)], args := [d] }
  | _ => none }
def FnExactTrustOkWrongFalsely : Prop := fnExactTrustOkRow.holds Try.pinned (OpenSpec.ofChange fnExactTrustOkWrong)

/-- 'laws.FnExactStoreOk': WHATEVER THE INPUT: true; the input reads as it did. -/
def fnExactStoreOkSpec : ChangeSpec := { name := "fnExactStoreOk", fn := fun _ => fun
  | [d] => { results := [.lit (.bool true)], args := [d] }
  | _ => none }
def fnExactStoreOkRow : OpenClaim := { program := "ytlmgnnpmcdeclaa", sum := "20e01a995c161c00eb501425df00038c266b38004f3b5233dd97d60d67e4c6e2", func := "loop.example/purser/laws.FnExactStoreOk", spec := "fnExactStoreOk", apart := false }
def FnExactStoreOkSaid : Prop := fnExactStoreOkRow.holds Try.pinned (OpenSpec.ofChange fnExactStoreOkSpec)

/-- ITS FALSE NEIGHBOUR: 'it returns false'. Refute it at one input. -/
def fnExactStoreOkWrong : ChangeSpec := { name := "fnExactStoreOk", fn := fun _ => fun
  | [d] => { results := [.lit (.bool false)], args := [d] }
  | _ => none }
def FnExactStoreOkWrongFalsely : Prop := fnExactStoreOkRow.holds Try.pinned (OpenSpec.ofChange fnExactStoreOkWrong)

/-- 'laws.FnExactTrustFresh': WHATEVER THE INPUT: true; the input reads as it did. -/
def fnExactTrustFreshSpec : ChangeSpec := { name := "fnExactTrustFresh", fn := fun _ => fun
  | [d1, d2] => { results := [.lit (.bool true)], args := [d1, d2] }
  | _ => none }
def fnExactTrustFreshRow : OpenClaim := { program := "ytlmgnnpmcdeclaa", sum := "20e01a995c161c00eb501425df00038c266b38004f3b5233dd97d60d67e4c6e2", func := "loop.example/purser/laws.FnExactTrustFresh", spec := "fnExactTrustFresh", apart := false }
def FnExactTrustFreshSaid : Prop := fnExactTrustFreshRow.holds Try.pinned (OpenSpec.ofChange fnExactTrustFreshSpec)

/-- ITS FALSE NEIGHBOUR: 'it returns false'. Refute it at one input. -/
def fnExactTrustFreshWrong : ChangeSpec := { name := "fnExactTrustFresh", fn := fun _ => fun
  | [d1, d2] => { results := [.lit (.bool false)], args := [d1, d2] }
  | _ => none }
def FnExactTrustFreshWrongFalsely : Prop := fnExactTrustFreshRow.holds Try.pinned (OpenSpec.ofChange fnExactTrustFreshWrong)

/-- 'laws.FnTrustFresh': WHATEVER THE INPUT: true; the input reads as it did. -/
def fnTrustFreshSpec : ChangeSpec := { name := "fnTrustFresh", fn := fun _ => fun
  | [d] => { results := [.lit (.bool true)], args := [d] }
  | _ => none }
def fnTrustFreshRow : OpenClaim := { program := "ytlmgnnpmcdeclaa", sum := "20e01a995c161c00eb501425df00038c266b38004f3b5233dd97d60d67e4c6e2", func := "loop.example/purser/laws.FnTrustFresh", spec := "fnTrustFresh", recurses := true, apart := false }
def FnTrustFreshSaid : Prop := fnTrustFreshRow.holds Try.pinned (OpenSpec.ofChange fnTrustFreshSpec)

/-- ITS FALSE NEIGHBOUR: 'it returns false'. Refute it at one input. -/
def fnTrustFreshWrong : ChangeSpec := { name := "fnTrustFresh", fn := fun _ => fun
  | [d] => { results := [.lit (.bool false)], args := [d] }
  | _ => none }
def FnTrustFreshWrongFalsely : Prop := fnTrustFreshRow.holds Try.pinned (OpenSpec.ofChange fnTrustFreshWrong)

/- THE SECOND FORM. 'bulk': how many values and letters a reading holds, each counted each time it is reached (what is shared counts as often as it is met; a slice's spare places count too). A statement '..UptoSaid' is the law's where the arguments, and the package variables that the reading takes, are together of bulk at most 1048576: NARROWER than '..Said'. Prove '..Said' where nothing that the law and all that it calls make is longer than what came in: it says more and counts as full. Else prove '..UptoSaid'. A law counts once. -/
mutual
def uptoBulk {H : Type} : DataW H → Nat
  | .lit (.string bytes) => bytes.length + 1
  | .lit _ => 1
  | .nil => 1
  | .ptr d => uptoBulk d + 1
  | .slice elems spare => uptoBulkAll elems + uptoBulkAll spare + 1
  | .agg parts => uptoBulkAll parts + 1
  | .iface _ d => uptoBulk d + 1
  | .map entries => uptoBulkEntries entries + 1
  | .held _ => 1
def uptoBulkAll {H : Type} : List (DataW H) → Nat
  | [] => 0
  | d :: r => uptoBulk d + uptoBulkAll r
def uptoBulkEntries {H : Type} : List (Lit × DataW H) → Nat
  | [] => 0
  | x :: r => uptoBulkEntry x + uptoBulkEntries r
def uptoBulkEntry {H : Type} : Lit × DataW H → Nat
  | (.string bytes, d) => bytes.length + uptoBulk d + 1
  | (_, d) => uptoBulk d + 1
 end
def uptoSmall : (H : Type) → List (DataW H) → Bool := fun _ ds => decide (uptoBulkAll ds ≤ 1048576)
def OpenSpec.upto (s : _root_.Go.ChangeSpec) : _root_.Go.OpenSpec := { _root_.Go.OpenSpec.ofChange s with cond := some uptoSmall }

/-- 'laws.FnStoreLess', WHERE WHAT IT READS IS OF BULK AT MOST 1048576: true; the input reads as it did. -/
def fnStoreLessUptoRow : OpenClaim := { program := "ytlmgnnpmcdeclaa", sum := "20e01a995c161c00eb501425df00038c266b38004f3b5233dd97d60d67e4c6e2", func := "loop.example/purser/laws.FnStoreLess", spec := "fnStoreLess", apart := false, narrowed := true }
def FnStoreLessUptoSaid : Prop := fnStoreLessUptoRow.holds Try.pinned (OpenSpec.upto fnStoreLessSpec)

/-- 'laws.FnExactTrustOk', WHERE WHAT IT READS IS OF BULK AT MOST 1048576: true; the input reads as it did. -/
def fnExactTrustOkUptoRow : OpenClaim := { program := "ytlmgnnpmcdeclaa", sum := "20e01a995c161c00eb501425df00038c266b38004f3b5233dd97d60d67e4c6e2", func := "loop.example/purser/laws.FnExactTrustOk", spec := "fnExactTrustOk", apart := false, narrowed := true }
def FnExactTrustOkUptoSaid : Prop := fnExactTrustOkUptoRow.holds Try.pinned (OpenSpec.upto fnExactTrustOkSpec)

/-- 'laws.FnExactStoreOk', WHERE WHAT IT READS IS OF BULK AT MOST 1048576: true; the input reads as it did. -/
def fnExactStoreOkUptoRow : OpenClaim := { program := "ytlmgnnpmcdeclaa", sum := "20e01a995c161c00eb501425df00038c266b38004f3b5233dd97d60d67e4c6e2", func := "loop.example/purser/laws.FnExactStoreOk", spec := "fnExactStoreOk", apart := false, narrowed := true }
def FnExactStoreOkUptoSaid : Prop := fnExactStoreOkUptoRow.holds Try.pinned (OpenSpec.upto fnExactStoreOkSpec)

/-- 'laws.FnExactTrustFresh', WHERE WHAT IT READS IS OF BULK AT MOST 1048576: true; the input reads as it did. -/
def fnExactTrustFreshUptoRow : OpenClaim := { program := "ytlmgnnpmcdeclaa", sum := "20e01a995c161c00eb501425df00038c266b38004f3b5233dd97d60d67e4c6e2", func := "loop.example/purser/laws.FnExactTrustFresh", spec := "fnExactTrustFresh", apart := false, narrowed := true }
def FnExactTrustFreshUptoSaid : Prop := fnExactTrustFreshUptoRow.holds Try.pinned (OpenSpec.upto fnExactTrustFreshSpec)

/-- 'laws.FnTrustFresh', WHERE WHAT IT READS IS OF BULK AT MOST 1048576: true; the input reads as it did. -/
def fnTrustFreshUptoRow : OpenClaim := { program := "ytlmgnnpmcdeclaa", sum := "20e01a995c161c00eb501425df00038c266b38004f3b5233dd97d60d67e4c6e2", func := "loop.example/purser/laws.FnTrustFresh", spec := "fnTrustFresh", recurses := true, apart := false, narrowed := true }
def FnTrustFreshUptoSaid : Prop := fnTrustFreshUptoRow.holds Try.pinned (OpenSpec.upto fnTrustFreshSpec)

end Rows
end Go.Proofs.Ytlmgnnpmcdeclaa
