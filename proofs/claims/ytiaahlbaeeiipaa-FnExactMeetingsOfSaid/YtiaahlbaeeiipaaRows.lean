/-
  No cell of these rows narrows 'for every input' (looked for: loops, veiled, ifaces, maps, wideKeys, modest, calm, conditions, laid).
  DERIVED. THE GIVEN ROWS OF THIS SEAT. 14 by the template 'for every input the law returns true; each argument reads behind the call as it read before'; 0 by the template 'total and deterministic' (their statements: YtiaahlbaeeiipaaTotals.lean).
  GIVEN WITH THE SEED: the statements are not yours to turn. If you find one false, say at which input.
  Laid BY PROGRAM, IN A SANDBOX (cutbox-rows.mjs): the forced cells as the released guide's own fill.sh prints them over the translation 72e764aa46bbc255… (all of the seat's roots in one cut). By AI agents, Wed Nov 11 2026. No macro, syntax, notation, axiom, sorry.
-/
import Derived.Test.YtiaahlbaeeiipaaChecked
import GoSem.Claim
import GoSem.ClaimJoined
import GoSem.ClaimMapViews
import Derived.JoinedTies
import Derived.KernelRfl
namespace Go.Proofs.Ytiaahlbaeeiipaa
/- THE CELL 'sum', in the pinned program and in every row, IS THE sha256 OF THE DUMP (.gsa) THAT YtiaahlbaeeiipaaProg.lean LOADS. Nothing in Lean hashes anything: it is a label: what it is worth is what the hold of that sum in a sandbox is worth. -/
noncomputable def Try.pinned : Pinned := { name := "ytiaahlbaeeiipaa", sum := "72e764aa46bbc2552620d5a854417b48e2593bc680997f2aca14f12e34993f15", checked := Try.checked }
namespace Rows
def none {H : Type} : Left H := { results := [], args := [] }

/-- 'laws.FnExactMatchesPattern': WHATEVER THE INPUT: true; the input reads as it did. -/
def fnExactMatchesPatternSpec : ChangeSpec := { name := "fnExactMatchesPattern", fn := fun _ => fun
  | [d1, d2] => { results := [.lit (.bool true)], args := [d1, d2] }
  | _ => none }
def fnExactMatchesPatternRow : OpenClaim := { program := "ytiaahlbaeeiipaa", sum := "72e764aa46bbc2552620d5a854417b48e2593bc680997f2aca14f12e34993f15", func := "loop.example/g00854/laws.FnExactMatchesPattern", spec := "fnExactMatchesPattern", unfollowed := true, recurses := true, apart := false }
def FnExactMatchesPatternSaid : Prop := fnExactMatchesPatternRow.holds Try.pinned (OpenSpec.ofChange fnExactMatchesPatternSpec)

/-- ITS FALSE NEIGHBOUR: 'it returns false'. Refute it at one input. -/
def fnExactMatchesPatternWrong : ChangeSpec := { name := "fnExactMatchesPattern", fn := fun _ => fun
  | [d1, d2] => { results := [.lit (.bool false)], args := [d1, d2] }
  | _ => none }
def FnExactMatchesPatternWrongFalsely : Prop := fnExactMatchesPatternRow.holds Try.pinned (OpenSpec.ofChange fnExactMatchesPatternWrong)

/-- 'laws.FnExactCoreOf': WHATEVER THE INPUT: true; the input reads as it did. -/
def fnExactCoreOfSpec : ChangeSpec := { name := "fnExactCoreOf", fn := fun _ => fun
  | [d] => { results := [.lit (.bool true)], args := [d] }
  | _ => none }
def fnExactCoreOfRow : OpenClaim := { program := "ytiaahlbaeeiipaa", sum := "72e764aa46bbc2552620d5a854417b48e2593bc680997f2aca14f12e34993f15", func := "loop.example/g00854/laws.FnExactCoreOf", spec := "fnExactCoreOf", unfollowed := true, recurses := true, apart := false }
def FnExactCoreOfSaid : Prop := fnExactCoreOfRow.holds Try.pinned (OpenSpec.ofChange fnExactCoreOfSpec)

/-- ITS FALSE NEIGHBOUR: 'it returns false'. Refute it at one input. -/
def fnExactCoreOfWrong : ChangeSpec := { name := "fnExactCoreOf", fn := fun _ => fun
  | [d] => { results := [.lit (.bool false)], args := [d] }
  | _ => none }
def FnExactCoreOfWrongFalsely : Prop := fnExactCoreOfRow.holds Try.pinned (OpenSpec.ofChange fnExactCoreOfWrong)

/-- 'laws.FnExactIsMovement': WHATEVER THE INPUT: true; the input reads as it did. -/
def fnExactIsMovementSpec : ChangeSpec := { name := "fnExactIsMovement", fn := fun _ => fun
  | [d] => { results := [.lit (.bool true)], args := [d] }
  | _ => none }
def fnExactIsMovementRow : OpenClaim := { program := "ytiaahlbaeeiipaa", sum := "72e764aa46bbc2552620d5a854417b48e2593bc680997f2aca14f12e34993f15", func := "loop.example/g00854/laws.FnExactIsMovement", spec := "fnExactIsMovement", apart := false }
def FnExactIsMovementSaid : Prop := fnExactIsMovementRow.holds Try.pinned (OpenSpec.ofChange fnExactIsMovementSpec)

/-- ITS FALSE NEIGHBOUR: 'it returns false'. Refute it at one input. -/
def fnExactIsMovementWrong : ChangeSpec := { name := "fnExactIsMovement", fn := fun _ => fun
  | [d] => { results := [.lit (.bool false)], args := [d] }
  | _ => none }
def FnExactIsMovementWrongFalsely : Prop := fnExactIsMovementRow.holds Try.pinned (OpenSpec.ofChange fnExactIsMovementWrong)

/-- 'laws.FnExactMitchellMovement': WHATEVER THE INPUT: true; the input reads as it did. -/
def fnExactMitchellMovementSpec : ChangeSpec := { name := "fnExactMitchellMovement", fn := fun _ => fun
  | [d] => { results := [.lit (.bool true)], args := [d] }
  | _ => none }
def fnExactMitchellMovementRow : OpenClaim := { program := "ytiaahlbaeeiipaa", sum := "72e764aa46bbc2552620d5a854417b48e2593bc680997f2aca14f12e34993f15", func := "loop.example/g00854/laws.FnExactMitchellMovement", spec := "fnExactMitchellMovement", apart := false }
def FnExactMitchellMovementSaid : Prop := fnExactMitchellMovementRow.holds Try.pinned (OpenSpec.ofChange fnExactMitchellMovementSpec)

/-- ITS FALSE NEIGHBOUR: 'it returns false'. Refute it at one input. -/
def fnExactMitchellMovementWrong : ChangeSpec := { name := "fnExactMitchellMovement", fn := fun _ => fun
  | [d] => { results := [.lit (.bool false)], args := [d] }
  | _ => none }
def FnExactMitchellMovementWrongFalsely : Prop := fnExactMitchellMovementRow.holds Try.pinned (OpenSpec.ofChange fnExactMitchellMovementWrong)

/-- 'laws.FnExactRoundRobin': WHATEVER THE INPUT: true; the input reads as it did. -/
def fnExactRoundRobinSpec : ChangeSpec := { name := "fnExactRoundRobin", fn := fun _ => fun
  | [d] => { results := [.lit (.bool true)], args := [d] }
  | _ => none }
def fnExactRoundRobinRow : OpenClaim := { program := "ytiaahlbaeeiipaa", sum := "72e764aa46bbc2552620d5a854417b48e2593bc680997f2aca14f12e34993f15", func := "loop.example/g00854/laws.FnExactRoundRobin", spec := "fnExactRoundRobin", apart := false }
def FnExactRoundRobinSaid : Prop := fnExactRoundRobinRow.holds Try.pinned (OpenSpec.ofChange fnExactRoundRobinSpec)

/-- ITS FALSE NEIGHBOUR: 'it returns false'. Refute it at one input. -/
def fnExactRoundRobinWrong : ChangeSpec := { name := "fnExactRoundRobin", fn := fun _ => fun
  | [d] => { results := [.lit (.bool false)], args := [d] }
  | _ => none }
def FnExactRoundRobinWrongFalsely : Prop := fnExactRoundRobinRow.holds Try.pinned (OpenSpec.ofChange fnExactRoundRobinWrong)

/-- 'laws.FnExactIsFair': WHATEVER THE INPUT: true; the input reads as it did. -/
def fnExactIsFairSpec : ChangeSpec := { name := "fnExactIsFair", fn := fun _ => fun
  | [d] => { results := [.lit (.bool true)], args := [d] }
  | _ => none }
def fnExactIsFairRow : OpenClaim := { program := "ytiaahlbaeeiipaa", sum := "72e764aa46bbc2552620d5a854417b48e2593bc680997f2aca14f12e34993f15", func := "loop.example/g00854/laws.FnExactIsFair", spec := "fnExactIsFair", apart := false }
def FnExactIsFairSaid : Prop := fnExactIsFairRow.holds Try.pinned (OpenSpec.ofChange fnExactIsFairSpec)

/-- ITS FALSE NEIGHBOUR: 'it returns false'. Refute it at one input. -/
def fnExactIsFairWrong : ChangeSpec := { name := "fnExactIsFair", fn := fun _ => fun
  | [d] => { results := [.lit (.bool false)], args := [d] }
  | _ => none }
def FnExactIsFairWrongFalsely : Prop := fnExactIsFairRow.holds Try.pinned (OpenSpec.ofChange fnExactIsFairWrong)

/-- 'laws.FnExactIsUnshared': WHATEVER THE INPUT: true; the input reads as it did. -/
def fnExactIsUnsharedSpec : ChangeSpec := { name := "fnExactIsUnshared", fn := fun _ => fun
  | [d] => { results := [.lit (.bool true)], args := [d] }
  | _ => none }
def fnExactIsUnsharedRow : OpenClaim := { program := "ytiaahlbaeeiipaa", sum := "72e764aa46bbc2552620d5a854417b48e2593bc680997f2aca14f12e34993f15", func := "loop.example/g00854/laws.FnExactIsUnshared", spec := "fnExactIsUnshared", unfollowed := true, recurses := true, apart := false }
def FnExactIsUnsharedSaid : Prop := fnExactIsUnsharedRow.holds Try.pinned (OpenSpec.ofChange fnExactIsUnsharedSpec)

/-- ITS FALSE NEIGHBOUR: 'it returns false'. Refute it at one input. -/
def fnExactIsUnsharedWrong : ChangeSpec := { name := "fnExactIsUnshared", fn := fun _ => fun
  | [d] => { results := [.lit (.bool false)], args := [d] }
  | _ => none }
def FnExactIsUnsharedWrongFalsely : Prop := fnExactIsUnsharedRow.holds Try.pinned (OpenSpec.ofChange fnExactIsUnsharedWrong)

/-- 'laws.FnRobin': WHATEVER THE INPUT: true; the input reads as it did. -/
def fnRobinSpec : ChangeSpec := { name := "fnRobin", fn := fun _ => fun
  | [d] => { results := [.lit (.bool true)], args := [d] }
  | _ => none }
def fnRobinRow : OpenClaim := { program := "ytiaahlbaeeiipaa", sum := "72e764aa46bbc2552620d5a854417b48e2593bc680997f2aca14f12e34993f15", func := "loop.example/g00854/laws.FnRobin", spec := "fnRobin", unfollowed := true, recurses := true, apart := false }
def FnRobinSaid : Prop := fnRobinRow.holds Try.pinned (OpenSpec.ofChange fnRobinSpec)

/-- ITS FALSE NEIGHBOUR: 'it returns false'. Refute it at one input. -/
def fnRobinWrong : ChangeSpec := { name := "fnRobin", fn := fun _ => fun
  | [d] => { results := [.lit (.bool false)], args := [d] }
  | _ => none }
def FnRobinWrongFalsely : Prop := fnRobinRow.holds Try.pinned (OpenSpec.ofChange fnRobinWrong)

/-- 'laws.FnExactSetsOf': WHATEVER THE INPUT: true; the input reads as it did. -/
def fnExactSetsOfSpec : ChangeSpec := { name := "fnExactSetsOf", fn := fun _ => fun
  | [d1, d2] => { results := [.lit (.bool true)], args := [d1, d2] }
  | _ => none }
def fnExactSetsOfRow : OpenClaim := { program := "ytiaahlbaeeiipaa", sum := "72e764aa46bbc2552620d5a854417b48e2593bc680997f2aca14f12e34993f15", func := "loop.example/g00854/laws.FnExactSetsOf", spec := "fnExactSetsOf", unfollowed := true, recurses := true, apart := false }
def FnExactSetsOfSaid : Prop := fnExactSetsOfRow.holds Try.pinned (OpenSpec.ofChange fnExactSetsOfSpec)

/-- ITS FALSE NEIGHBOUR: 'it returns false'. Refute it at one input. -/
def fnExactSetsOfWrong : ChangeSpec := { name := "fnExactSetsOf", fn := fun _ => fun
  | [d1, d2] => { results := [.lit (.bool false)], args := [d1, d2] }
  | _ => none }
def FnExactSetsOfWrongFalsely : Prop := fnExactSetsOfRow.holds Try.pinned (OpenSpec.ofChange fnExactSetsOfWrong)

/-- 'laws.FnExactMeetingsOf': WHATEVER THE INPUT: true; the input reads as it did. -/
def fnExactMeetingsOfSpec : ChangeSpec := { name := "fnExactMeetingsOf", fn := fun _ => fun
  | [d1, d2] => { results := [.lit (.bool true)], args := [d1, d2] }
  | _ => none }
def fnExactMeetingsOfRow : OpenClaim := { program := "ytiaahlbaeeiipaa", sum := "72e764aa46bbc2552620d5a854417b48e2593bc680997f2aca14f12e34993f15", func := "loop.example/g00854/laws.FnExactMeetingsOf", spec := "fnExactMeetingsOf", unfollowed := true, recurses := true, apart := false }
def FnExactMeetingsOfSaid : Prop := fnExactMeetingsOfRow.holds Try.pinned (OpenSpec.ofChange fnExactMeetingsOfSpec)

/-- ITS FALSE NEIGHBOUR: 'it returns false'. Refute it at one input. -/
def fnExactMeetingsOfWrong : ChangeSpec := { name := "fnExactMeetingsOf", fn := fun _ => fun
  | [d1, d2] => { results := [.lit (.bool false)], args := [d1, d2] }
  | _ => none }
def FnExactMeetingsOfWrongFalsely : Prop := fnExactMeetingsOfRow.holds Try.pinned (OpenSpec.ofChange fnExactMeetingsOfWrong)

/-- 'laws.FnMitchell': WHATEVER THE INPUT: true; the input reads as it did. -/
def fnMitchellSpec : ChangeSpec := { name := "fnMitchell", fn := fun _ => fun
  | [d] => { results := [.lit (.bool true)], args := [d] }
  | _ => none }
def fnMitchellRow : OpenClaim := { program := "ytiaahlbaeeiipaa", sum := "72e764aa46bbc2552620d5a854417b48e2593bc680997f2aca14f12e34993f15", func := "loop.example/g00854/laws.FnMitchell", spec := "fnMitchell", unfollowed := true, recurses := true, apart := false }
def FnMitchellSaid : Prop := fnMitchellRow.holds Try.pinned (OpenSpec.ofChange fnMitchellSpec)

/-- ITS FALSE NEIGHBOUR: 'it returns false'. Refute it at one input. -/
def fnMitchellWrong : ChangeSpec := { name := "fnMitchell", fn := fun _ => fun
  | [d] => { results := [.lit (.bool false)], args := [d] }
  | _ => none }
def FnMitchellWrongFalsely : Prop := fnMitchellRow.holds Try.pinned (OpenSpec.ofChange fnMitchellWrong)

/-- 'laws.FnExactSwissRound': WHATEVER THE INPUT: true; the input reads as it did. -/
def fnExactSwissRoundSpec : ChangeSpec := { name := "fnExactSwissRound", fn := fun _ => fun
  | [d1, d2] => { results := [.lit (.bool true)], args := [d1, d2] }
  | _ => none }
def fnExactSwissRoundRow : OpenClaim := { program := "ytiaahlbaeeiipaa", sum := "72e764aa46bbc2552620d5a854417b48e2593bc680997f2aca14f12e34993f15", func := "loop.example/g00854/laws.FnExactSwissRound", spec := "fnExactSwissRound", unfollowed := true, recurses := true, apart := false }
def FnExactSwissRoundSaid : Prop := fnExactSwissRoundRow.holds Try.pinned (OpenSpec.ofChange fnExactSwissRoundSpec)

/-- ITS FALSE NEIGHBOUR: 'it returns false'. Refute it at one input. -/
def fnExactSwissRoundWrong : ChangeSpec := { name := "fnExactSwissRound", fn := fun _ => fun
  | [d1, d2] => { results := [.lit (.bool false)], args := [d1, d2] }
  | _ => none }
def FnExactSwissRoundWrongFalsely : Prop := fnExactSwissRoundRow.holds Try.pinned (OpenSpec.ofChange fnExactSwissRoundWrong)

/-- 'laws.FnExactAddSwiss': WHATEVER THE INPUT: true; the input reads as it did. -/
def fnExactAddSwissSpec : ChangeSpec := { name := "fnExactAddSwiss", fn := fun _ => fun
  | [d1, d2] => { results := [.lit (.bool true)], args := [d1, d2] }
  | _ => none }
def fnExactAddSwissRow : OpenClaim := { program := "ytiaahlbaeeiipaa", sum := "72e764aa46bbc2552620d5a854417b48e2593bc680997f2aca14f12e34993f15", func := "loop.example/g00854/laws.FnExactAddSwiss", spec := "fnExactAddSwiss", unfollowed := true, recurses := true, apart := false }
def FnExactAddSwissSaid : Prop := fnExactAddSwissRow.holds Try.pinned (OpenSpec.ofChange fnExactAddSwissSpec)

/-- ITS FALSE NEIGHBOUR: 'it returns false'. Refute it at one input. -/
def fnExactAddSwissWrong : ChangeSpec := { name := "fnExactAddSwiss", fn := fun _ => fun
  | [d1, d2] => { results := [.lit (.bool false)], args := [d1, d2] }
  | _ => none }
def FnExactAddSwissWrongFalsely : Prop := fnExactAddSwissRow.holds Try.pinned (OpenSpec.ofChange fnExactAddSwissWrong)

/-- 'laws.FnSwiss': WHATEVER THE INPUT: true; the input reads as it did. -/
def fnSwissSpec : ChangeSpec := { name := "fnSwiss", fn := fun _ => fun
  | [d] => { results := [.lit (.bool true)], args := [d] }
  | _ => none }
def fnSwissRow : OpenClaim := { program := "ytiaahlbaeeiipaa", sum := "72e764aa46bbc2552620d5a854417b48e2593bc680997f2aca14f12e34993f15", func := "loop.example/g00854/laws.FnSwiss", spec := "fnSwiss", unfollowed := true, recurses := true, apart := false }
def FnSwissSaid : Prop := fnSwissRow.holds Try.pinned (OpenSpec.ofChange fnSwissSpec)

/-- ITS FALSE NEIGHBOUR: 'it returns false'. Refute it at one input. -/
def fnSwissWrong : ChangeSpec := { name := "fnSwiss", fn := fun _ => fun
  | [d] => { results := [.lit (.bool false)], args := [d] }
  | _ => none }
def FnSwissWrongFalsely : Prop := fnSwissRow.holds Try.pinned (OpenSpec.ofChange fnSwissWrong)

/- THE SECOND FORM. 'bulk': how many values and letters a reading holds, each counted each time it is reached (what is shared counts as often as it is met; a slice's spare places count too). A statement '..UptoSaid' is the law's where the arguments, and the package variables that the reading takes, are together of bulk at most 1048576: NARROWER than '..Said'. Prove '..Said' where nothing that the law and all that it calls make is longer than what came in: it says more and counts as full. Else prove '..UptoSaid'. A law counts once. -/
mutual
def uptoBulk {H : Type} : DataW H → Nat
  | .lit (.string bytes) => bytes.length + 1
  | .lit _ => 1
  | .nil => 1
  | .ptr d => uptoBulk d + 1
  | .slice elems spare => uptoBulkAll elems + uptoBulkAll spare + 1
  | .agg parts => uptoBulkAll parts + 1
  | .iface _ d => uptoBulk d + 1
  | .map entries => uptoBulkEntries entries + 1
  | .held _ => 1
def uptoBulkAll {H : Type} : List (DataW H) → Nat
  | [] => 0
  | d :: r => uptoBulk d + uptoBulkAll r
def uptoBulkEntries {H : Type} : List (Lit × DataW H) → Nat
  | [] => 0
  | x :: r => uptoBulkEntry x + uptoBulkEntries r
def uptoBulkEntry {H : Type} : Lit × DataW H → Nat
  | (.string bytes, d) => bytes.length + uptoBulk d + 1
  | (_, d) => uptoBulk d + 1
 end
def uptoSmall : (H : Type) → List (DataW H) → Bool := fun _ ds => decide (uptoBulkAll ds ≤ 1048576)
def OpenSpec.upto (s : _root_.Go.ChangeSpec) : _root_.Go.OpenSpec := { _root_.Go.OpenSpec.ofChange s with cond := some uptoSmall }

/-- 'laws.FnExactMatchesPattern', WHERE WHAT IT READS IS OF BULK AT MOST 1048576: true; the input reads as it did. -/
def fnExactMatchesPatternUptoRow : OpenClaim := { program := "ytiaahlbaeeiipaa", sum := "72e764aa46bbc2552620d5a854417b48e2593bc680997f2aca14f12e34993f15", func := "loop.example/g00854/laws.FnExactMatchesPattern", spec := "fnExactMatchesPattern", unfollowed := true, recurses := true, apart := false, narrowed := true }
def FnExactMatchesPatternUptoSaid : Prop := fnExactMatchesPatternUptoRow.holds Try.pinned (OpenSpec.upto fnExactMatchesPatternSpec)

/-- 'laws.FnExactCoreOf', WHERE WHAT IT READS IS OF BULK AT MOST 1048576: true; the input reads as it did. -/
def fnExactCoreOfUptoRow : OpenClaim := { program := "ytiaahlbaeeiipaa", sum := "72e764aa46bbc2552620d5a854417b48e2593bc680997f2aca14f12e34993f15", func := "loop.example/g00854/laws.FnExactCoreOf", spec := "fnExactCoreOf", unfollowed := true, recurses := true, apart := false, narrowed := true }
def FnExactCoreOfUptoSaid : Prop := fnExactCoreOfUptoRow.holds Try.pinned (OpenSpec.upto fnExactCoreOfSpec)

/-- 'laws.FnExactIsMovement', WHERE WHAT IT READS IS OF BULK AT MOST 1048576: true; the input reads as it did. -/
def fnExactIsMovementUptoRow : OpenClaim := { program := "ytiaahlbaeeiipaa", sum := "72e764aa46bbc2552620d5a854417b48e2593bc680997f2aca14f12e34993f15", func := "loop.example/g00854/laws.FnExactIsMovement", spec := "fnExactIsMovement", apart := false, narrowed := true }
def FnExactIsMovementUptoSaid : Prop := fnExactIsMovementUptoRow.holds Try.pinned (OpenSpec.upto fnExactIsMovementSpec)

/-- 'laws.FnExactMitchellMovement', WHERE WHAT IT READS IS OF BULK AT MOST 1048576: true; the input reads as it did. -/
def fnExactMitchellMovementUptoRow : OpenClaim := { program := "ytiaahlbaeeiipaa", sum := "72e764aa46bbc2552620d5a854417b48e2593bc680997f2aca14f12e34993f15", func := "loop.example/g00854/laws.FnExactMitchellMovement", spec := "fnExactMitchellMovement", apart := false, narrowed := true }
def FnExactMitchellMovementUptoSaid : Prop := fnExactMitchellMovementUptoRow.holds Try.pinned (OpenSpec.upto fnExactMitchellMovementSpec)

/-- 'laws.FnExactRoundRobin', WHERE WHAT IT READS IS OF BULK AT MOST 1048576: true; the input reads as it did. -/
def fnExactRoundRobinUptoRow : OpenClaim := { program := "ytiaahlbaeeiipaa", sum := "72e764aa46bbc2552620d5a854417b48e2593bc680997f2aca14f12e34993f15", func := "loop.example/g00854/laws.FnExactRoundRobin", spec := "fnExactRoundRobin", apart := false, narrowed := true }
def FnExactRoundRobinUptoSaid : Prop := fnExactRoundRobinUptoRow.holds Try.pinned (OpenSpec.upto fnExactRoundRobinSpec)

/-- 'laws.FnExactIsFair', WHERE WHAT IT READS IS OF BULK AT MOST 1048576: true; the input reads as it did. -/
def fnExactIsFairUptoRow : OpenClaim := { program := "ytiaahlbaeeiipaa", sum := "72e764aa46bbc2552620d5a854417b48e2593bc680997f2aca14f12e34993f15", func := "loop.example/g00854/laws.FnExactIsFair", spec := "fnExactIsFair", apart := false, narrowed := true }
def FnExactIsFairUptoSaid : Prop := fnExactIsFairUptoRow.holds Try.pinned (OpenSpec.upto fnExactIsFairSpec)

/-- 'laws.FnExactIsUnshared', WHERE WHAT IT READS IS OF BULK AT MOST 1048576: true; the input reads as it did. -/
def fnExactIsUnsharedUptoRow : OpenClaim := { program := "ytiaahlbaeeiipaa", sum := "72e764aa46bbc2552620d5a854417b48e2593bc680997f2aca14f12e34993f15", func := "loop.example/g00854/laws.FnExactIsUnshared", spec := "fnExactIsUnshared", unfollowed := true, recurses := true, apart := false, narrowed := true }
def FnExactIsUnsharedUptoSaid : Prop := fnExactIsUnsharedUptoRow.holds Try.pinned (OpenSpec.upto fnExactIsUnsharedSpec)

/-- 'laws.FnRobin', WHERE WHAT IT READS IS OF BULK AT MOST 1048576: true; the input reads as it did. -/
def fnRobinUptoRow : OpenClaim := { program := "ytiaahlbaeeiipaa", sum := "72e764aa46bbc2552620d5a854417b48e2593bc680997f2aca14f12e34993f15", func := "loop.example/g00854/laws.FnRobin", spec := "fnRobin", unfollowed := true, recurses := true, apart := false, narrowed := true }
def FnRobinUptoSaid : Prop := fnRobinUptoRow.holds Try.pinned (OpenSpec.upto fnRobinSpec)

/-- 'laws.FnExactSetsOf', WHERE WHAT IT READS IS OF BULK AT MOST 1048576: true; the input reads as it did. -/
def fnExactSetsOfUptoRow : OpenClaim := { program := "ytiaahlbaeeiipaa", sum := "72e764aa46bbc2552620d5a854417b48e2593bc680997f2aca14f12e34993f15", func := "loop.example/g00854/laws.FnExactSetsOf", spec := "fnExactSetsOf", unfollowed := true, recurses := true, apart := false, narrowed := true }
def FnExactSetsOfUptoSaid : Prop := fnExactSetsOfUptoRow.holds Try.pinned (OpenSpec.upto fnExactSetsOfSpec)

/-- 'laws.FnExactMeetingsOf', WHERE WHAT IT READS IS OF BULK AT MOST 1048576: true; the input reads as it did. -/
def fnExactMeetingsOfUptoRow : OpenClaim := { program := "ytiaahlbaeeiipaa", sum := "72e764aa46bbc2552620d5a854417b48e2593bc680997f2aca14f12e34993f15", func := "loop.example/g00854/laws.FnExactMeetingsOf", spec := "fnExactMeetingsOf", unfollowed := true, recurses := true, apart := false, narrowed := true }
def FnExactMeetingsOfUptoSaid : Prop := fnExactMeetingsOfUptoRow.holds Try.pinned (OpenSpec.upto fnExactMeetingsOfSpec)

/-- 'laws.FnMitchell', WHERE WHAT IT READS IS OF BULK AT MOST 1048576: true; the input reads as it did. -/
def fnMitchellUptoRow : OpenClaim := { program := "ytiaahlbaeeiipaa", sum := "72e764aa46bbc2552620d5a854417b48e2593bc680997f2aca14f12e34993f15", func := "loop.example/g00854/laws.FnMitchell", spec := "fnMitchell", unfollowed := true, recurses := true, apart := false, narrowed := true }
def FnMitchellUptoSaid : Prop := fnMitchellUptoRow.holds Try.pinned (OpenSpec.upto fnMitchellSpec)

/-- 'laws.FnExactSwissRound', WHERE WHAT IT READS IS OF BULK AT MOST 1048576: true; the input reads as it did. -/
def fnExactSwissRoundUptoRow : OpenClaim := { program := "ytiaahlbaeeiipaa", sum := "72e764aa46bbc2552620d5a854417b48e2593bc680997f2aca14f12e34993f15", func := "loop.example/g00854/laws.FnExactSwissRound", spec := "fnExactSwissRound", unfollowed := true, recurses := true, apart := false, narrowed := true }
def FnExactSwissRoundUptoSaid : Prop := fnExactSwissRoundUptoRow.holds Try.pinned (OpenSpec.upto fnExactSwissRoundSpec)

/-- 'laws.FnExactAddSwiss', WHERE WHAT IT READS IS OF BULK AT MOST 1048576: true; the input reads as it did. -/
def fnExactAddSwissUptoRow : OpenClaim := { program := "ytiaahlbaeeiipaa", sum := "72e764aa46bbc2552620d5a854417b48e2593bc680997f2aca14f12e34993f15", func := "loop.example/g00854/laws.FnExactAddSwiss", spec := "fnExactAddSwiss", unfollowed := true, recurses := true, apart := false, narrowed := true }
def FnExactAddSwissUptoSaid : Prop := fnExactAddSwissUptoRow.holds Try.pinned (OpenSpec.upto fnExactAddSwissSpec)

/-- 'laws.FnSwiss', WHERE WHAT IT READS IS OF BULK AT MOST 1048576: true; the input reads as it did. -/
def fnSwissUptoRow : OpenClaim := { program := "ytiaahlbaeeiipaa", sum := "72e764aa46bbc2552620d5a854417b48e2593bc680997f2aca14f12e34993f15", func := "loop.example/g00854/laws.FnSwiss", spec := "fnSwiss", unfollowed := true, recurses := true, apart := false, narrowed := true }
def FnSwissUptoSaid : Prop := fnSwissUptoRow.holds Try.pinned (OpenSpec.upto fnSwissSpec)

end Rows
end Go.Proofs.Ytiaahlbaeeiipaa
