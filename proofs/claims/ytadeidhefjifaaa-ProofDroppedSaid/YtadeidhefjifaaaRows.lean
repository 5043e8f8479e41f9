/-
  No cell of these rows narrows 'for every input' (looked for: loops, veiled, ifaces, maps, wideKeys, modest, calm, conditions, laid).
  DERIVED. THE GIVEN ROWS OF THIS SEAT. 16 by the template 'for every input the law returns true; each argument reads behind the call as it read before'; 0 by the template 'total and deterministic' (their statements: YtadeidhefjifaaaTotals.lean).
  GIVEN WITH THE SEED: the statements are not yours to turn. If you find one false, say at which input.
  Laid BY PROGRAM, IN A SANDBOX (cutbox-rows.mjs): the forced cells as the released guide's own fill.sh prints them over the translation 5cbede739040d038… (all of the seat's roots in one cut). By AI agents, Wed Nov 11 2026. No macro, syntax, notation, axiom, sorry.
-/
import Derived.Test.YtadeidhefjifaaaChecked
import GoSem.Claim
import GoSem.ClaimJoined
import GoSem.ClaimMapViews
import Derived.JoinedTies
import Derived.KernelRfl
namespace Go.Proofs.Ytadeidhefjifaaa
/- THE CELL 'sum', in the pinned program and in every row, IS THE sha256 OF THE DUMP (.gsa) THAT YtadeidhefjifaaaProg.lean LOADS. Nothing in Lean hashes anything: it is a label: what it is worth is what the hold of that sum in a sandbox is worth. -/
noncomputable def Try.pinned : Pinned := { name := "ytadeidhefjifaaa", sum := "5cbede739040d038459efda2a2bbfdef294268e076e4be63a1c8d374a48334fa", checked := Try.checked }
namespace Rows
def none {H : Type} : Left H := { results := [], args := [] }

/-- 'sizarlaw18.FlowCheckSpec': WHATEVER THE INPUT: true; the input reads as it did. -/
def flowCheckSpecSpec : ChangeSpec := { name := "flowCheckSpec", fn := fun _ => fun
  | [d1, d2, d3, d4, d5, d6] => { results := [.lit (.bool true)], args := [d1, d2, d3, d4, d5, d6] }
  | _ => none }
def flowCheckSpecRow : OpenClaim := { program := "ytadeidhefjifaaa", sum := "5cbede739040d038459efda2a2bbfdef294268e076e4be63a1c8d374a48334fa", func := "sizar/sizarlaw18.FlowCheckSpec", spec := "flowCheckSpec", unfollowed := true, recurses := true, apart := false }
def FlowCheckSpecSaid : Prop := flowCheckSpecRow.holds Try.pinned (OpenSpec.ofChange flowCheckSpecSpec)

/-- ITS FALSE NEIGHBOUR: 'it returns false'. Refute it at one input. -/
def flowCheckSpecWrong : ChangeSpec := { name := "flowCheckSpec", fn := fun _ => fun
  | [d1, d2, d3, d4, d5, d6] => { results := [.lit (.bool false)], args := [d1, d2, d3, d4, d5, d6] }
  | _ => none }
def FlowCheckSpecWrongFalsely : Prop := flowCheckSpecRow.holds Try.pinned (OpenSpec.ofChange flowCheckSpecWrong)

/-- 'sizarlaw18.FlowMaxSpec': WHATEVER THE INPUT: true; the input reads as it did. -/
def flowMaxSpecSpec : ChangeSpec := { name := "flowMaxSpec", fn := fun _ => fun
  | [d1, d2, d3, d4] => { results := [.lit (.bool true)], args := [d1, d2, d3, d4] }
  | _ => none }
def flowMaxSpecRow : OpenClaim := { program := "ytadeidhefjifaaa", sum := "5cbede739040d038459efda2a2bbfdef294268e076e4be63a1c8d374a48334fa", func := "sizar/sizarlaw18.FlowMaxSpec", spec := "flowMaxSpec", unfollowed := true, recurses := true, apart := false }
def FlowMaxSpecSaid : Prop := flowMaxSpecRow.holds Try.pinned (OpenSpec.ofChange flowMaxSpecSpec)

/-- ITS FALSE NEIGHBOUR: 'it returns false'. Refute it at one input. -/
def flowMaxSpecWrong : ChangeSpec := { name := "flowMaxSpec", fn := fun _ => fun
  | [d1, d2, d3, d4] => { results := [.lit (.bool false)], args := [d1, d2, d3, d4] }
  | _ => none }
def FlowMaxSpecWrongFalsely : Prop := flowMaxSpecRow.holds Try.pinned (OpenSpec.ofChange flowMaxSpecWrong)

/-- 'sizarlaw18.FlowDual': WHATEVER THE INPUT: true; the input reads as it did. -/
def flowDualSpec : ChangeSpec := { name := "flowDual", fn := fun _ => fun
  | [d1, d2, d3, d4] => { results := [.lit (.bool true)], args := [d1, d2, d3, d4] }
  | _ => none }
def flowDualRow : OpenClaim := { program := "ytadeidhefjifaaa", sum := "5cbede739040d038459efda2a2bbfdef294268e076e4be63a1c8d374a48334fa", func := "sizar/sizarlaw18.FlowDual", spec := "flowDual", unfollowed := true, recurses := true, apart := false }
def FlowDualSaid : Prop := flowDualRow.holds Try.pinned (OpenSpec.ofChange flowDualSpec)

/-- ITS FALSE NEIGHBOUR: 'it returns false'. Refute it at one input. -/
def flowDualWrong : ChangeSpec := { name := "flowDual", fn := fun _ => fun
  | [d1, d2, d3, d4] => { results := [.lit (.bool false)], args := [d1, d2, d3, d4] }
  | _ => none }
def FlowDualWrongFalsely : Prop := flowDualRow.holds Try.pinned (OpenSpec.ofChange flowDualWrong)

/-- 'sizarlaw18.FlowWeak': WHATEVER THE INPUT: true; the input reads as it did. -/
def flowWeakSpec : ChangeSpec := { name := "flowWeak", fn := fun _ => fun
  | [d1, d2, d3, d4, d5, d6] => { results := [.lit (.bool true)], args := [d1, d2, d3, d4, d5, d6] }
  | _ => none }
def flowWeakRow : OpenClaim := { program := "ytadeidhefjifaaa", sum := "5cbede739040d038459efda2a2bbfdef294268e076e4be63a1c8d374a48334fa", func := "sizar/sizarlaw18.FlowWeak", spec := "flowWeak", unfollowed := true, recurses := true, apart := false }
def FlowWeakSaid : Prop := flowWeakRow.holds Try.pinned (OpenSpec.ofChange flowWeakSpec)

/-- ITS FALSE NEIGHBOUR: 'it returns false'. Refute it at one input. -/
def flowWeakWrong : ChangeSpec := { name := "flowWeak", fn := fun _ => fun
  | [d1, d2, d3, d4, d5, d6] => { results := [.lit (.bool false)], args := [d1, d2, d3, d4, d5, d6] }
  | _ => none }
def FlowWeakWrongFalsely : Prop := flowWeakRow.holds Try.pinned (OpenSpec.ofChange flowWeakWrong)

/-- 'sizarlaw20.ProofMore': WHATEVER THE INPUT: true; the input reads as it did. -/
def proofMoreSpec : ChangeSpec := { name := "proofMore", fn := fun _ => fun
  | [d1, d2, d3] => { results := [.lit (.bool true)], args := [d1, d2, d3] }
  | _ => none }
def proofMoreRow : OpenClaim := { program := "ytadeidhefjifaaa", sum := "5cbede739040d038459efda2a2bbfdef294268e076e4be63a1c8d374a48334fa", func := "sizar/sizarlaw20.ProofMore", spec := "proofMore", unfollowed := true, recurses := true, apart := false }
def ProofMoreSaid : Prop := proofMoreRow.holds Try.pinned (OpenSpec.ofChange proofMoreSpec)

/-- ITS FALSE NEIGHBOUR: 'it returns false'. Refute it at one input. -/
def proofMoreWrong : ChangeSpec := { name := "proofMore", fn := fun _ => fun
  | [d1, d2, d3] => { results := [.lit (.bool false)], args := [d1, d2, d3] }
  | _ => none }
def ProofMoreWrongFalsely : Prop := proofMoreRow.holds Try.pinned (OpenSpec.ofChange proofMoreWrong)

/-- 'sizarlaw18.FlowLeast': WHATEVER THE INPUT: true; the input reads as it did. -/
def flowLeastSpec : ChangeSpec := { name := "flowLeast", fn := fun _ => fun
  | [d1, d2, d3, d4, d5] => { results := [.lit (.bool true)], args := [d1, d2, d3, d4, d5] }
  | _ => none }
def flowLeastRow : OpenClaim := { program := "ytadeidhefjifaaa", sum := "5cbede739040d038459efda2a2bbfdef294268e076e4be63a1c8d374a48334fa", func := "sizar/sizarlaw18.FlowLeast", spec := "flowLeast", unfollowed := true, recurses := true, apart := false }
def FlowLeastSaid : Prop := flowLeastRow.holds Try.pinned (OpenSpec.ofChange flowLeastSpec)

/-- ITS FALSE NEIGHBOUR: 'it returns false'. Refute it at one input. -/
def flowLeastWrong : ChangeSpec := { name := "flowLeast", fn := fun _ => fun
  | [d1, d2, d3, d4, d5] => { results := [.lit (.bool false)], args := [d1, d2, d3, d4, d5] }
  | _ => none }
def FlowLeastWrongFalsely : Prop := flowLeastRow.holds Try.pinned (OpenSpec.ofChange flowLeastWrong)

/-- 'sizarlaw20.ProofDropped': WHATEVER THE INPUT: true; the input reads as it did. -/
def proofDroppedSpec : ChangeSpec := { name := "proofDropped", fn := fun _ => fun
  | [d1, d2, d3] => { results := [.lit (.bool true)], args := [d1, d2, d3] }
  | _ => none }
def proofDroppedRow : OpenClaim := { program := "ytadeidhefjifaaa", sum := "5cbede739040d038459efda2a2bbfdef294268e076e4be63a1c8d374a48334fa", func := "sizar/sizarlaw20.ProofDropped", spec := "proofDropped", unfollowed := true, recurses := true, apart := false }
def ProofDroppedSaid : Prop := proofDroppedRow.holds Try.pinned (OpenSpec.ofChange proofDroppedSpec)

/-- ITS FALSE NEIGHBOUR: 'it returns false'. Refute it at one input. -/
def proofDroppedWrong : ChangeSpec := { name := "proofDropped", fn := fun _ => fun
  | [d1, d2, d3] => { results := [.lit (.bool false)], args := [d1, d2, d3] }
  | _ => none }
def ProofDroppedWrongFalsely : Prop := proofDroppedRow.holds Try.pinned (OpenSpec.ofChange proofDroppedWrong)

/-- 'sizarlaw18.FlowScale': WHATEVER THE INPUT: true; the input reads as it did. -/
def flowScaleSpec : ChangeSpec := { name := "flowScale", fn := fun _ => fun
  | [d1, d2, d3, d4, d5] => { results := [.lit (.bool true)], args := [d1, d2, d3, d4, d5] }
  | _ => none }
def flowScaleRow : OpenClaim := { program := "ytadeidhefjifaaa", sum := "5cbede739040d038459efda2a2bbfdef294268e076e4be63a1c8d374a48334fa", func := "sizar/sizarlaw18.FlowScale", spec := "flowScale", unfollowed := true, recurses := true, apart := false }
def FlowScaleSaid : Prop := flowScaleRow.holds Try.pinned (OpenSpec.ofChange flowScaleSpec)

/-- ITS FALSE NEIGHBOUR: 'it returns false'. Refute it at one input. -/
def flowScaleWrong : ChangeSpec := { name := "flowScale", fn := fun _ => fun
  | [d1, d2, d3, d4, d5] => { results := [.lit (.bool false)], args := [d1, d2, d3, d4, d5] }
  | _ => none }
def FlowScaleWrongFalsely : Prop := flowScaleRow.holds Try.pinned (OpenSpec.ofChange flowScaleWrong)

/-- 'sizarlaw18.FlowReverse': WHATEVER THE INPUT: true; the input reads as it did. -/
def flowReverseSpec : ChangeSpec := { name := "flowReverse", fn := fun _ => fun
  | [d1, d2, d3, d4] => { results := [.lit (.bool true)], args := [d1, d2, d3, d4] }
  | _ => none }
def flowReverseRow : OpenClaim := { program := "ytadeidhefjifaaa", sum := "5cbede739040d038459efda2a2bbfdef294268e076e4be63a1c8d374a48334fa", func := "sizar/sizarlaw18.FlowReverse", spec := "flowReverse", unfollowed := true, recurses := true, apart := false }
def FlowReverseSaid : Prop := flowReverseRow.holds Try.pinned (OpenSpec.ofChange flowReverseSpec)

/-- ITS FALSE NEIGHBOUR: 'it returns false'. Refute it at one input. -/
def flowReverseWrong : ChangeSpec := { name := "flowReverse", fn := fun _ => fun
  | [d1, d2, d3, d4] => { results := [.lit (.bool false)], args := [d1, d2, d3, d4] }
  | _ => none }
def FlowReverseWrongFalsely : Prop := flowReverseRow.holds Try.pinned (OpenSpec.ofChange flowReverseWrong)

/-- 'sizarlaw18.FlowMore': WHATEVER THE INPUT: true; the input reads as it did. -/
def flowMoreSpec : ChangeSpec := { name := "flowMore", fn := fun _ => fun
  | [d1, d2, d3, d4, d5] => { results := [.lit (.bool true)], args := [d1, d2, d3, d4, d5] }
  | _ => none }
def flowMoreRow : OpenClaim := { program := "ytadeidhefjifaaa", sum := "5cbede739040d038459efda2a2bbfdef294268e076e4be63a1c8d374a48334fa", func := "sizar/sizarlaw18.FlowMore", spec := "flowMore", unfollowed := true, recurses := true, apart := false }
def FlowMoreSaid : Prop := flowMoreRow.holds Try.pinned (OpenSpec.ofChange flowMoreSpec)

/-- ITS FALSE NEIGHBOUR: 'it returns false'. Refute it at one input. -/
def flowMoreWrong : ChangeSpec := { name := "flowMore", fn := fun _ => fun
  | [d1, d2, d3, d4, d5] => { results := [.lit (.bool false)], args := [d1, d2, d3, d4, d5] }
  | _ => none }
def FlowMoreWrongFalsely : Prop := flowMoreRow.holds Try.pinned (OpenSpec.ofChange flowMoreWrong)

/-- 'sizarlaw20.ProofSpec': WHATEVER THE INPUT: true; the input reads as it did. -/
def proofSpecSpec : ChangeSpec := { name := "proofSpec", fn := fun _ => fun
  | [d1, d2, d3, d4] => { results := [.lit (.bool true)], args := [d1, d2, d3, d4] }
  | _ => none }
def proofSpecRow : OpenClaim := { program := "ytadeidhefjifaaa", sum := "5cbede739040d038459efda2a2bbfdef294268e076e4be63a1c8d374a48334fa", func := "sizar/sizarlaw20.ProofSpec", spec := "proofSpec", unfollowed := true, recurses := true, apart := false }
def ProofSpecSaid : Prop := proofSpecRow.holds Try.pinned (OpenSpec.ofChange proofSpecSpec)

/-- ITS FALSE NEIGHBOUR: 'it returns false'. Refute it at one input. -/
def proofSpecWrong : ChangeSpec := { name := "proofSpec", fn := fun _ => fun
  | [d1, d2, d3, d4] => { results := [.lit (.bool false)], args := [d1, d2, d3, d4] }
  | _ => none }
def ProofSpecWrongFalsely : Prop := proofSpecRow.holds Try.pinned (OpenSpec.ofChange proofSpecWrong)

/-- 'sizarlaw20.ProofCheckSpec': WHATEVER THE INPUT: true; the input reads as it did. -/
def proofCheckSpecSpec : ChangeSpec := { name := "proofCheckSpec", fn := fun _ => fun
  | [d1, d2, d3] => { results := [.lit (.bool true)], args := [d1, d2, d3] }
  | _ => none }
def proofCheckSpecRow : OpenClaim := { program := "ytadeidhefjifaaa", sum := "5cbede739040d038459efda2a2bbfdef294268e076e4be63a1c8d374a48334fa", func := "sizar/sizarlaw20.ProofCheckSpec", spec := "proofCheckSpec", unfollowed := true, recurses := true, apart := false }
def ProofCheckSpecSaid : Prop := proofCheckSpecRow.holds Try.pinned (OpenSpec.ofChange proofCheckSpecSpec)

/-- ITS FALSE NEIGHBOUR: 'it returns false'. Refute it at one input. -/
def proofCheckSpecWrong : ChangeSpec := { name := "proofCheckSpec", fn := fun _ => fun
  | [d1, d2, d3] => { results := [.lit (.bool false)], args := [d1, d2, d3] }
  | _ => none }
def ProofCheckSpecWrongFalsely : Prop := proofCheckSpecRow.holds Try.pinned (OpenSpec.ofChange proofCheckSpecWrong)

/-- 'sizarlaw20.ProofDual': WHATEVER THE INPUT: true; the input reads as it did. -/
def proofDualSpec : ChangeSpec := { name := "proofDual", fn := fun _ => fun
  | [d1, d2, d3, d4] => { results := [.lit (.bool true)], args := [d1, d2, d3, d4] }
  | _ => none }
def proofDualRow : OpenClaim := { program := "ytadeidhefjifaaa", sum := "5cbede739040d038459efda2a2bbfdef294268e076e4be63a1c8d374a48334fa", func := "sizar/sizarlaw20.ProofDual", spec := "proofDual", unfollowed := true, recurses := true, apart := false }
def ProofDualSaid : Prop := proofDualRow.holds Try.pinned (OpenSpec.ofChange proofDualSpec)

/-- ITS FALSE NEIGHBOUR: 'it returns false'. Refute it at one input. -/
def proofDualWrong : ChangeSpec := { name := "proofDual", fn := fun _ => fun
  | [d1, d2, d3, d4] => { results := [.lit (.bool false)], args := [d1, d2, d3, d4] }
  | _ => none }
def ProofDualWrongFalsely : Prop := proofDualRow.holds Try.pinned (OpenSpec.ofChange proofDualWrong)

/-- 'sizarlaw20.ProofOptimal': WHATEVER THE INPUT: true; the input reads as it did. -/
def proofOptimalSpec : ChangeSpec := { name := "proofOptimal", fn := fun _ => fun
  | [d1, d2, d3, d4] => { results := [.lit (.bool true)], args := [d1, d2, d3, d4] }
  | _ => none }
def proofOptimalRow : OpenClaim := { program := "ytadeidhefjifaaa", sum := "5cbede739040d038459efda2a2bbfdef294268e076e4be63a1c8d374a48334fa", func := "sizar/sizarlaw20.ProofOptimal", spec := "proofOptimal", unfollowed := true, recurses := true, apart := false }
def ProofOptimalSaid : Prop := proofOptimalRow.holds Try.pinned (OpenSpec.ofChange proofOptimalSpec)

/-- ITS FALSE NEIGHBOUR: 'it returns false'. Refute it at one input. -/
def proofOptimalWrong : ChangeSpec := { name := "proofOptimal", fn := fun _ => fun
  | [d1, d2, d3, d4] => { results := [.lit (.bool false)], args := [d1, d2, d3, d4] }
  | _ => none }
def ProofOptimalWrongFalsely : Prop := proofOptimalRow.holds Try.pinned (OpenSpec.ofChange proofOptimalWrong)

/-- 'sizarlaw20.ProofAccepts': WHATEVER THE INPUT: true; the input reads as it did. -/
def proofAcceptsSpec : ChangeSpec := { name := "proofAccepts", fn := fun _ => fun
  | [d1, d2, d3] => { results := [.lit (.bool true)], args := [d1, d2, d3] }
  | _ => none }
def proofAcceptsRow : OpenClaim := { program := "ytadeidhefjifaaa", sum := "5cbede739040d038459efda2a2bbfdef294268e076e4be63a1c8d374a48334fa", func := "sizar/sizarlaw20.ProofAccepts", spec := "proofAccepts", unfollowed := true, recurses := true, apart := false }
def ProofAcceptsSaid : Prop := proofAcceptsRow.holds Try.pinned (OpenSpec.ofChange proofAcceptsSpec)

/-- ITS FALSE NEIGHBOUR: 'it returns false'. Refute it at one input. -/
def proofAcceptsWrong : ChangeSpec := { name := "proofAccepts", fn := fun _ => fun
  | [d1, d2, d3] => { results := [.lit (.bool false)], args := [d1, d2, d3] }
  | _ => none }
def ProofAcceptsWrongFalsely : Prop := proofAcceptsRow.holds Try.pinned (OpenSpec.ofChange proofAcceptsWrong)

/-- 'sizarlaw20.ProofUnique': WHATEVER THE INPUT: true; the input reads as it did. -/
def proofUniqueSpec : ChangeSpec := { name := "proofUnique", fn := fun _ => fun
  | [d1, d2, d3] => { results := [.lit (.bool true)], args := [d1, d2, d3] }
  | _ => none }
def proofUniqueRow : OpenClaim := { program := "ytadeidhefjifaaa", sum := "5cbede739040d038459efda2a2bbfdef294268e076e4be63a1c8d374a48334fa", func := "sizar/sizarlaw20.ProofUnique", spec := "proofUnique", unfollowed := true, recurses := true, apart := false }
def ProofUniqueSaid : Prop := proofUniqueRow.holds Try.pinned (OpenSpec.ofChange proofUniqueSpec)

/-- ITS FALSE NEIGHBOUR: 'it returns false'. Refute it at one input. -/
def proofUniqueWrong : ChangeSpec := { name := "proofUnique", fn := fun _ => fun
  | [d1, d2, d3] => { results := [.lit (.bool false)], args := [d1, d2, d3] }
  | _ => none }
def ProofUniqueWrongFalsely : Prop := proofUniqueRow.holds Try.pinned (OpenSpec.ofChange proofUniqueWrong)

/- THE SECOND FORM. 'bulk': how many values and letters a reading holds, each counted each time it is reached (what is shared counts as often as it is met; a slice's spare places count too). A statement '..UptoSaid' is the law's where the arguments, and the package variables that the reading takes, are together of bulk at most 1048576: NARROWER than '..Said'. Prove '..Said' where nothing that the law and all that it calls make is longer than what came in: it says more and counts as full. Else prove '..UptoSaid'. A law counts once. -/
mutual
def uptoBulk {H : Type} : DataW H → Nat
  | .lit (.string bytes) => bytes.length + 1
  | .lit _ => 1
  | .nil => 1
  | .ptr d => uptoBulk d + 1
  | .slice elems spare => uptoBulkAll elems + uptoBulkAll spare + 1
  | .agg parts => uptoBulkAll parts + 1
  | .iface _ d => uptoBulk d + 1
  | .map entries => uptoBulkEntries entries + 1
  | .held _ => 1
def uptoBulkAll {H : Type} : List (DataW H) → Nat
  | [] => 0
  | d :: r => uptoBulk d + uptoBulkAll r
def uptoBulkEntries {H : Type} : List (Lit × DataW H) → Nat
  | [] => 0
  | x :: r => uptoBulkEntry x + uptoBulkEntries r
def uptoBulkEntry {H : Type} : Lit × DataW H → Nat
  | (.string bytes, d) => bytes.length + uptoBulk d + 1
  | (_, d) => uptoBulk d + 1
 end
def uptoSmall : (H : Type) → List (DataW H) → Bool := fun _ ds => decide (uptoBulkAll ds ≤ 1048576)
def OpenSpec.upto (s : _root_.Go.ChangeSpec) : _root_.Go.OpenSpec := { _root_.Go.OpenSpec.ofChange s with cond := some uptoSmall }

/-- 'sizarlaw18.FlowCheckSpec', WHERE WHAT IT READS IS OF BULK AT MOST 1048576: true; the input reads as it did. -/
def flowCheckSpecUptoRow : OpenClaim := { program := "ytadeidhefjifaaa", sum := "5cbede739040d038459efda2a2bbfdef294268e076e4be63a1c8d374a48334fa", func := "sizar/sizarlaw18.FlowCheckSpec", spec := "flowCheckSpec", unfollowed := true, recurses := true, apart := false, narrowed := true }
def FlowCheckSpecUptoSaid : Prop := flowCheckSpecUptoRow.holds Try.pinned (OpenSpec.upto flowCheckSpecSpec)

/-- 'sizarlaw18.FlowMaxSpec', WHERE WHAT IT READS IS OF BULK AT MOST 1048576: true; the input reads as it did. -/
def flowMaxSpecUptoRow : OpenClaim := { program := "ytadeidhefjifaaa", sum := "5cbede739040d038459efda2a2bbfdef294268e076e4be63a1c8d374a48334fa", func := "sizar/sizarlaw18.FlowMaxSpec", spec := "flowMaxSpec", unfollowed := true, recurses := true, apart := false, narrowed := true }
def FlowMaxSpecUptoSaid : Prop := flowMaxSpecUptoRow.holds Try.pinned (OpenSpec.upto flowMaxSpecSpec)

/-- 'sizarlaw18.FlowDual', WHERE WHAT IT READS IS OF BULK AT MOST 1048576: true; the input reads as it did. -/
def flowDualUptoRow : OpenClaim := { program := "ytadeidhefjifaaa", sum := "5cbede739040d038459efda2a2bbfdef294268e076e4be63a1c8d374a48334fa", func := "sizar/sizarlaw18.FlowDual", spec := "flowDual", unfollowed := true, recurses := true, apart := false, narrowed := true }
def FlowDualUptoSaid : Prop := flowDualUptoRow.holds Try.pinned (OpenSpec.upto flowDualSpec)

/-- 'sizarlaw18.FlowWeak', WHERE WHAT IT READS IS OF BULK AT MOST 1048576: true; the input reads as it did. -/
def flowWeakUptoRow : OpenClaim := { program := "ytadeidhefjifaaa", sum := "5cbede739040d038459efda2a2bbfdef294268e076e4be63a1c8d374a48334fa", func := "sizar/sizarlaw18.FlowWeak", spec := "flowWeak", unfollowed := true, recurses := true, apart := false, narrowed := true }
def FlowWeakUptoSaid : Prop := flowWeakUptoRow.holds Try.pinned (OpenSpec.upto flowWeakSpec)

/-- 'sizarlaw20.ProofMore', WHERE WHAT IT READS IS OF BULK AT MOST 1048576: true; the input reads as it did. -/
def proofMoreUptoRow : OpenClaim := { program := "ytadeidhefjifaaa", sum := "5cbede739040d038459efda2a2bbfdef294268e076e4be63a1c8d374a48334fa", func := "sizar/sizarlaw20.ProofMore", spec := "proofMore", unfollowed := true, recurses := true, apart := false, narrowed := true }
def ProofMoreUptoSaid : Prop := proofMoreUptoRow.holds Try.pinned (OpenSpec.upto proofMoreSpec)

/-- 'sizarlaw18.FlowLeast', WHERE WHAT IT READS IS OF BULK AT MOST 1048576: true; the input reads as it did. -/
def flowLeastUptoRow : OpenClaim := { program := "ytadeidhefjifaaa", sum := "5cbede739040d038459efda2a2bbfdef294268e076e4be63a1c8d374a48334fa", func := "sizar/sizarlaw18.FlowLeast", spec := "flowLeast", unfollowed := true, recurses := true, apart := false, narrowed := true }
def FlowLeastUptoSaid : Prop := flowLeastUptoRow.holds Try.pinned (OpenSpec.upto flowLeastSpec)

/-- 'sizarlaw20.ProofDropped', WHERE WHAT IT READS IS OF BULK AT MOST 1048576: true; the input reads as it did. -/
def proofDroppedUptoRow : OpenClaim := { program := "ytadeidhefjifaaa", sum := "5cbede739040d038459efda2a2bbfdef294268e076e4be63a1c8d374a48334fa", func := "sizar/sizarlaw20.ProofDropped", spec := "proofDropped", unfollowed := true, recurses := true, apart := false, narrowed := true }
def ProofDroppedUptoSaid : Prop := proofDroppedUptoRow.holds Try.pinned (OpenSpec.upto proofDroppedSpec)

/-- 'sizarlaw18.FlowScale', WHERE WHAT IT READS IS OF BULK AT MOST 1048576: true; the input reads as it did. -/
def flowScaleUptoRow : OpenClaim := { program := "ytadeidhefjifaaa", sum := "5cbede739040d038459efda2a2bbfdef294268e076e4be63a1c8d374a48334fa", func := "sizar/sizarlaw18.FlowScale", spec := "flowScale", unfollowed := true, recurses := true, apart := false, narrowed := true }
def FlowScaleUptoSaid : Prop := flowScaleUptoRow.holds Try.pinned (OpenSpec.upto flowScaleSpec)

/-- 'sizarlaw18.FlowReverse', WHERE WHAT IT READS IS OF BULK AT MOST 1048576: true; the input reads as it did. -/
def flowReverseUptoRow : OpenClaim := { program := "ytadeidhefjifaaa", sum := "5cbede739040d038459efda2a2bbfdef294268e076e4be63a1c8d374a48334fa", func := "sizar/sizarlaw18.FlowReverse", spec := "flowReverse", unfollowed := true, recurses := true, apart := false, narrowed := true }
def FlowReverseUptoSaid : Prop := flowReverseUptoRow.holds Try.pinned (OpenSpec.upto flowReverseSpec)

/-- 'sizarlaw18.FlowMore', WHERE WHAT IT READS IS OF BULK AT MOST 1048576: true; the input reads as it did. -/
def flowMoreUptoRow : OpenClaim := { program := "ytadeidhefjifaaa", sum := "5cbede739040d038459efda2a2bbfdef294268e076e4be63a1c8d374a48334fa", func := "sizar/sizarlaw18.FlowMore", spec := "flowMore", unfollowed := true, recurses := true, apart := false, narrowed := true }
def FlowMoreUptoSaid : Prop := flowMoreUptoRow.holds Try.pinned (OpenSpec.upto flowMoreSpec)

/-- 'sizarlaw20.ProofSpec', WHERE WHAT IT READS IS OF BULK AT MOST 1048576: true; the input reads as it did. -/
def proofSpecUptoRow : OpenClaim := { program := "ytadeidhefjifaaa", sum := "5cbede739040d038459efda2a2bbfdef294268e076e4be63a1c8d374a48334fa", func := "sizar/sizarlaw20.ProofSpec", spec := "proofSpec", unfollowed := true, recurses := true, apart := false, narrowed := true }
def ProofSpecUptoSaid : Prop := proofSpecUptoRow.holds Try.pinned (OpenSpec.upto proofSpecSpec)

/-- 'sizarlaw20.ProofCheckSpec', WHERE WHAT IT READS IS OF BULK AT MOST 1048576: true; the input reads as it did. -/
def proofCheckSpecUptoRow : OpenClaim := { program := "ytadeidhefjifaaa", sum := "5cbede739040d038459efda2a2bbfdef294268e076e4be63a1c8d374a48334fa", func := "sizar/sizarlaw20.ProofCheckSpec", spec := "proofCheckSpec", unfollowed := true, recurses := true, apart := false, narrowed := true }
def ProofCheckSpecUptoSaid : Prop := proofCheckSpecUptoRow.holds Try.pinned (OpenSpec.upto proofCheckSpecSpec)

/-- 'sizarlaw20.ProofDual', WHERE WHAT IT READS IS OF BULK AT MOST 1048576: true; the input reads as it did. -/
def proofDualUptoRow : OpenClaim := { program := "ytadeidhefjifaaa", sum := "5cbede739040d038459efda2a2bbfdef294268e076e4be63a1c8d374a48334fa", func := "sizar/sizarlaw20.ProofDual", spec := "proofDual", unfollowed := true, recurses := true, apart := false, narrowed := true }
def ProofDualUptoSaid : Prop := proofDualUptoRow.holds Try.pinned (OpenSpec.upto proofDualSpec)

/-- 'sizarlaw20.ProofOptimal', WHERE WHAT IT READS IS OF BULK AT MOST 1048576: true; the input reads as it did. -/
def proofOptimalUptoRow : OpenClaim := { program := "ytadeidhefjifaaa", sum := "5cbede739040d038459efda2a2bbfdef294268e076e4be63a1c8d374a48334fa", func := "sizar/sizarlaw20.ProofOptimal", spec := "proofOptimal", unfollowed := true, recurses := true, apart := false, narrowed := true }
def ProofOptimalUptoSaid : Prop := proofOptimalUptoRow.holds Try.pinned (OpenSpec.upto proofOptimalSpec)

/-- 'sizarlaw20.ProofAccepts', WHERE WHAT IT READS IS OF BULK AT MOST 1048576: true; the input reads as it did. -/
def proofAcceptsUptoRow : OpenClaim := { program := "ytadeidhefjifaaa", sum := "5cbede739040d038459efda2a2bbfdef294268e076e4be63a1c8d374a48334fa", func := "sizar/sizarlaw20.ProofAccepts", spec := "proofAccepts", unfollowed := true, recurses := true, apart := false, narrowed := true }
def ProofAcceptsUptoSaid : Prop := proofAcceptsUptoRow.holds Try.pinned (OpenSpec.upto proofAcceptsSpec)

/-- 'sizarlaw20.ProofUnique', WHERE WHAT IT READS IS OF BULK AT MOST 1048576: true; the input reads as it did. -/
def proofUniqueUptoRow : OpenClaim := { program := "ytadeidhefjifaaa", sum := "5cbede739040d038459efda2a2bbfdef294268e076e4be63a1c8d374a48334fa", func := "sizar/sizarlaw20.ProofUnique", spec := "proofUnique", unfollowed := true, recurses := true, apart := false, narrowed := true }
def ProofUniqueUptoSaid : Prop := proofUniqueUptoRow.holds Try.pinned (OpenSpec.upto proofUniqueSpec)

end Rows
end Go.Proofs.Ytadeidhefjifaaa
