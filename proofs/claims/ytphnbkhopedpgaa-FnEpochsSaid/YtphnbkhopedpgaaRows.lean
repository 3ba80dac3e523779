/-
  No cell of these rows narrows 'for every input' (looked for: loops, veiled, ifaces, maps, wideKeys, modest, calm, conditions, laid).
  DERIVED. THE GIVEN ROWS OF THIS SEAT. 10 by the template 'for every input the law returns true; each argument reads behind the call as it read before'; 0 by the template 'total and deterministic' (their statements: YtphnbkhopedpgaaTotals.lean).
  GIVEN WITH THE SEED: the statements are not yours to turn. If you find one false, say at which input.
  Laid BY PROGRAM, IN A SANDBOX (cutbox-rows.mjs): the forced cells as the released guide's own fill.sh prints them over the translation 5f429f1aa801d312… (all of the seat's roots in one cut). By AI agents, Wed Nov 11 2026. No macro, syntax, notation, axiom, sorry.
-/
import Derived.Test.YtphnbkhopedpgaaChecked
import GoSem.Claim
import GoSem.ClaimJoined
import GoSem.ClaimMapViews
import Derived.JoinedTies
import Derived.KernelRfl
namespace Go.Proofs.Ytphnbkhopedpgaa
/- THE CELL 'sum', in the pinned program and in every row, IS THE sha256 OF THE DUMP (.gsa) THAT YtphnbkhopedpgaaProg.lean LOADS. Nothing in Lean hashes anything: it is a label: what it is worth is what the hold of that sum in a sandbox is worth. -/
noncomputable def Try.pinned : Pinned := { name := "ytphnbkhopedpgaa", sum := "5f429f1aa801d312fc4b43818e890ad59e4a8392d8c42f51babf5cda889c813b", checked := Try.checked }
namespace Rows
def none {H : Type} : Left H := { results := [], args := [] }

/-- 'laws.FnExactCodeName': WHATEVER THE INPUT: true; the input reads as it did. -/
def fnExactCodeNameSpec : ChangeSpec := { name := "fnExactCodeName", fn := fun _ => fun
  | [d] => { results := [.lit (.bool true)], args := [d] }
  | _ => none }
def fnExactCodeNameRow : OpenClaim := { program := "ytphnbkhopedpgaa", sum := "5f429f1aa801d312fc4b43818e890ad59e4a8392d8c42f51babf5cda889c813b", func := "loop.example/g00496/laws.FnExactCodeName", spec := "fnExactCodeName", apart := false }
def FnExactCodeNameSaid : Prop := fnExactCodeNameRow.holds Try.pinned (OpenSpec.ofChange fnExactCodeNameSpec)

/-- ITS FALSE NEIGHBOUR: 'it returns false'. Refute it at one input. -/
def fnExactCodeNameWrong : ChangeSpec := { name := "fnExactCodeName", fn := fun _ => fun
  | [d] => { results := [.lit (.bool false)], args := [d] }
  | _ => none }
def FnExactCodeNameWrongFalsely : Prop := fnExactCodeNameRow.holds Try.pinned (OpenSpec.ofChange fnExactCodeNameWrong)

/-- 'laws.FnExactOpName': WHATEVER THE INPUT: true; the input reads as it did. -/
def fnExactOpNameSpec : ChangeSpec := { name := "fnExactOpName", fn := fun _ => fun
  | [d] => { results := [.lit (.bool true)], args := [d] }
  | _ => none }
def fnExactOpNameRow : OpenClaim := { program := "ytphnbkhopedpgaa", sum := "5f429f1aa801d312fc4b43818e890ad59e4a8392d8c42f51babf5cda889c813b", func := "loop.example/g00496/laws.FnExactOpName", spec := "fnExactOpName", apart := false }
def FnExactOpNameSaid : Prop := fnExactOpNameRow.holds Try.pinned (OpenSpec.ofChange fnExactOpNameSpec)

/-- ITS FALSE NEIGHBOUR: 'it returns false'. Refute it at one input. -/
def fnExactOpNameWrong : ChangeSpec := { name := "fnExactOpName", fn := fun _ => fun
  | [d] => { results := [.lit (.bool false)], args := [d] }
  | _ => none }
def FnExactOpNameWrongFalsely : Prop := fnExactOpNameRow.holds Try.pinned (OpenSpec.ofChange fnExactOpNameWrong)

/-- 'laws.FnExactMayAdvance': WHATEVER THE INPUT: true; the input reads as it did. -/
def fnExactMayAdvanceSpec : ChangeSpec := { name := "fnExactMayAdvance", fn := fun _ => fun
  | [d1, d2] => { results := [.lit (.bool true)], args := [d1, d2] }
  | _ => none }
def fnExactMayAdvanceRow : OpenClaim := { program := "ytphnbkhopedpgaa", sum := "5f429f1aa801d312fc4b43818e890ad59e4a8392d8c42f51babf5cda889c813b", func := "loop.example/g00496/laws.FnExactMayAdvance", spec := "fnExactMayAdvance", apart := false }
def FnExactMayAdvanceSaid : Prop := fnExactMayAdvanceRow.holds Try.pinned (OpenSpec.ofChange fnExactMayAdvanceSpec)

/-- ITS FALSE NEIGHBOUR: 'it returns false'. Refute it at one input. -/
def fnExactMayAdvanceWrong : ChangeSpec := { name := "fnExactMayAdvance", fn := fun _ => fun
  | [d1, d2] => { results := [.lit (.bool false)], args := [d1, d2] }
  | _ => none }
def FnExactMayAdvanceWrongFalsely : Prop := fnExactMayAdvanceRow.holds Try.pinned (OpenSpec.ofChange fnExactMayAdvanceWrong)

/-- 'laws.FnExactOldestPin': WHATEVER THE INPUT: true; the input reads as it did. -/
def fnExactOldestPinSpec : ChangeSpec := { name := "fnExactOldestPin", fn := fun _ => fun
  | [d1, d2] => { results := [.lit (.bool true)], args := [d1, d2] }
  | _ => none }
def fnExactOldestPinRow : OpenClaim := { program := "ytphnbkhopedpgaa", sum := "5f429f1aa801d312fc4b43818e890ad59e4a8392d8c42f51babf5cda889c813b", func := "loop.example/g00496/laws.FnExactOldestPin", spec := "fnExactOldestPin", apart := false }
def FnExactOldestPinSaid : Prop := fnExactOldestPinRow.holds Try.pinned (OpenSpec.ofChange fnExactOldestPinSpec)

/-- ITS FALSE NEIGHBOUR: 'it returns false'. Refute it at one input. -/
def fnExactOldestPinWrong : ChangeSpec := { name := "fnExactOldestPin", fn := fun _ => fun
  | [d1, d2] => { results := [.lit (.bool false)], args := [d1, d2] }
  | _ => none }
def FnExactOldestPinWrongFalsely : Prop := fnExactOldestPinRow.holds Try.pinned (OpenSpec.ofChange fnExactOldestPinWrong)

/-- 'laws.FnExactHasDead': WHATEVER THE INPUT: true; the input reads as it did. -/
def fnExactHasDeadSpec : ChangeSpec := { name := "fnExactHasDead", fn := fun _ => fun
  | [d1, d2] => { results := [.lit (.bool true)], args := [d1, d2] }
  | _ => none }
def fnExactHasDeadRow : OpenClaim := { program := "ytphnbkhopedpgaa", sum := "5f429f1aa801d312fc4b43818e890ad59e4a8392d8c42f51babf5cda889c813b", func := "loop.example/g00496/laws.FnExactHasDead", spec := "fnExactHasDead", apart := false }
def FnExactHasDeadSaid : Prop := fnExactHasDeadRow.holds Try.pinned (OpenSpec.ofChange fnExactHasDeadSpec)

/-- ITS FALSE NEIGHBOUR: 'it returns false'. Refute it at one input. -/
def fnExactHasDeadWrong : ChangeSpec := { name := "fnExactHasDead", fn := fun _ => fun
  | [d1, d2] => { results := [.lit (.bool false)], args := [d1, d2] }
  | _ => none }
def FnExactHasDeadWrongFalsely : Prop := fnExactHasDeadRow.holds Try.pinned (OpenSpec.ofChange fnExactHasDeadWrong)

/-- 'laws.FnExactRipe': WHATEVER THE INPUT: true; the input reads as it did. -/
def fnExactRipeSpec : ChangeSpec := { name := "fnExactRipe", fn := fun _ => fun
  | [d1, d2] => { results := [.lit (.bool true)], args := [d1, d2] }
  | _ => none }
def fnExactRipeRow : OpenClaim := { program := "ytphnbkhopedpgaa", sum := "5f429f1aa801d312fc4b43818e890ad59e4a8392d8c42f51babf5cda889c813b", func := "loop.example/g00496/laws.FnExactRipe", spec := "fnExactRipe", apart := false }
def FnExactRipeSaid : Prop := fnExactRipeRow.holds Try.pinned (OpenSpec.ofChange fnExactRipeSpec)

/-- ITS FALSE NEIGHBOUR: 'it returns false'. Refute it at one input. -/
def fnExactRipeWrong : ChangeSpec := { name := "fnExactRipe", fn := fun _ => fun
  | [d1, d2] => { results := [.lit (.bool false)], args := [d1, d2] }
  | _ => none }
def FnExactRipeWrongFalsely : Prop := fnExactRipeRow.holds Try.pinned (OpenSpec.ofChange fnExactRipeWrong)

/-- 'laws.FnExactWaits': WHATEVER THE INPUT: true; the input reads as it did. -/
def fnExactWaitsSpec : ChangeSpec := { name := "fnExactWaits", fn := fun _ => fun
  | [d1, d2] => { results := [.lit (.bool true)], args := [d1, d2] }
  | _ => none }
def fnExactWaitsRow : OpenClaim := { program := "ytphnbkhopedpgaa", sum := "5f429f1aa801d312fc4b43818e890ad59e4a8392d8c42f51babf5cda889c813b", func := "loop.example/g00496/laws.FnExactWaits", spec := "fnExactWaits", apart := false }
def FnExactWaitsSaid : Prop := fnExactWaitsRow.holds Try.pinned (OpenSpec.ofChange fnExactWaitsSpec)

/-- ITS FALSE NEIGHBOUR: 'it returns false'. Refute it at one input. -/
def fnExactWaitsWrong : ChangeSpec := { name := "fnExactWaits", fn := fun _ => fun
  | [d1, d2] => { results := [.lit (.bool false)], args := [d1, d2] }
  | _ => none }
def FnExactWaitsWrongFalsely : Prop := fnExactWaitsRow.holds Try.pinned (OpenSpec.ofChange fnExactWaitsWrong)

/-- 'laws.FnExactConfOk': WHATEVER THE INPUT: true; the input reads as it did. -/
def fnExactConfOkSpec : ChangeSpec := { name := "fnExactConfOk", fn := fun _ => fun
  | [d] => { results := [.lit (.bool true)], args := [d] }
  | _ => none }
def fnExactConfOkRow : OpenClaim := { program := "ytphnbkhopedpgaa", sum := "5f429f1aa801d312fc4b43818e890ad59e4a8392d8c42f51babf5cda889c813b", func := "loop.example/g00496/laws.FnExactConfOk", spec := "fnExactConfOk", apart := false }
def FnExactConfOkSaid : Prop := fnExactConfOkRow.holds Try.pinned (OpenSpec.ofChange fnExactConfOkSpec)

/-- ITS FALSE NEIGHBOUR: 'it returns false'. Refute it at one input. -/
def fnExactConfOkWrong : ChangeSpec := { name := "fnExactConfOk", fn := fun _ => fun
  | [d] => { results := [.lit (.bool false)], args := [d] }
  | _ => none }
def FnExactConfOkWrongFalsely : Prop := fnExactConfOkRow.holds Try.pinned (OpenSpec.ofChange fnExactConfOkWrong)

/-- 'laws.FnExactWithout': WHATEVER THE INPUT: true; the input reads as it did. -/
def fnExactWithoutSpec : ChangeSpec := { name := "fnExactWithout", fn := fun _ => fun
  | [d1, d2] => { results := [.lit (.bool true)], args := [d1, d2] }
  | _ => none }
def fnExactWithoutRow : OpenClaim := { program := "ytphnbkhopedpgaa", sum := "5f429f1aa801d312fc4b43818e890ad59e4a8392d8c42f51babf5cda889c813b", func := "loop.example/g00496/laws.FnExactWithout", spec := "fnExactWithout", apart := false }
def FnExactWithoutSaid : Prop := fnExactWithoutRow.holds Try.pinned (OpenSpec.ofChange fnExactWithoutSpec)

/-- ITS FALSE NEIGHBOUR: 'it returns false'. Refute it at one input. -/
def fnExactWithoutWrong : ChangeSpec := { name := "fnExactWithout", fn := fun _ => fun
  | [d1, d2] => { results := [.lit (.bool false)], args := [d1, d2] }
  | _ => none }
def FnExactWithoutWrongFalsely : Prop := fnExactWithoutRow.holds Try.pinned (OpenSpec.ofChange fnExactWithoutWrong)

/-- 'laws.FnEpochs': WHATEVER THE INPUT: true; the input reads as it did. -/
def fnEpochsSpec : ChangeSpec := { name := "fnEpochs", fn := fun _ => fun
  | [d] => { results := [.lit (.bool true)], args := [d] }
  | _ => none }
def fnEpochsRow : OpenClaim := { program := "ytphnbkhopedpgaa", sum := "5f429f1aa801d312fc4b43818e890ad59e4a8392d8c42f51babf5cda889c813b", func := "loop.example/g00496/laws.FnEpochs", spec := "fnEpochs", apart := false }
def FnEpochsSaid : Prop := fnEpochsRow.holds Try.pinned (OpenSpec.ofChange fnEpochsSpec)

/-- ITS FALSE NEIGHBOUR: 'it returns false'. Refute it at one input. -/
def fnEpochsWrong : ChangeSpec := { name := "fnEpochs", fn := fun _ => fun
  | [d] => { results := [.lit (.bool false)], args := [d] }
  | _ => none }
def FnEpochsWrongFalsely : Prop := fnEpochsRow.holds Try.pinned (OpenSpec.ofChange fnEpochsWrong)

/- THE SECOND FORM. 'bulk': how many values and letters a reading holds, each counted each time it is reached (what is shared counts as often as it is met; a slice's spare places count too). A statement '..UptoSaid' is the law's where the arguments, and the package variables that the reading takes, are together of bulk at most 1048576: NARROWER than '..Said'. Prove '..Said' where nothing that the law and all that it calls make is longer than what came in: it says more and counts as full. Else prove '..UptoSaid'. A law counts once. -/
mutual
def uptoBulk {H : Type} : DataW H → Nat
  | .lit (.string bytes) => bytes.length + 1
  | .lit _ => 1
  | .nil => 1
  | .ptr d => uptoBulk d + 1
  | .slice elems spare => uptoBulkAll elems + uptoBulkAll spare + 1
  | .agg parts => uptoBulkAll parts + 1
  | .iface _ d => uptoBulk d + 1
  | .map entries => uptoBulkEntries entries + 1
  | .held _ => 1
def uptoBulkAll {H : Type} : List (DataW H) → Nat
  | [] => 0
  | d :: r => uptoBulk d + uptoBulkAll r
def uptoBulkEntries {H : Type} : List (Lit × DataW H) → Nat
  | [] => 0
  | x :: r => uptoBulkEntry x + uptoBulkEntries r
def uptoBulkEntry {H : Type} : Lit × DataW H → Nat
  | (.string bytes, d) => bytes.length + uptoBulk d + 1
  | (_, d) => uptoBulk d + 1
 end
def uptoSmall : (H : Type) → List (DataW H) → Bool := fun _ ds => decide (uptoBulkAll ds ≤ 1048576)
def OpenSpec.upto (s : _root_.Go.ChangeSpec) : _root_.Go.OpenSpec := { _root_.Go.OpenSpec.ofChange s with cond := some uptoSmall }

/-- 'laws.FnExactCodeName', WHERE WHAT IT READS IS OF BULK AT MOST 1048576: true; the input reads as it did. -/
def fnExactCodeNameUptoRow : OpenClaim := { program := "ytphnbkhopedpgaa", sum := "5f429f1aa801d312fc4b43818e890ad59e4a8392d8c42f51babf5cda889c813b", func := "loop.example/g00496/laws.FnExactCodeName", spec := "fnExactCodeName", apart := false, narrowed := true }
def FnExactCodeNameUptoSaid : Prop := fnExactCodeNameUptoRow.holds Try.pinned (OpenSpec.upto fnExactCodeNameSpec)

/-- 'laws.FnExactOpName', WHERE WHAT IT READS IS OF BULK AT MOST 1048576: true; the input reads as it did. -/
def fnExactOpNameUptoRow : OpenClaim := { program := "ytphnbkhopedpgaa", sum := "5f429f1aa801d312fc4b43818e890ad59e4a8392d8c42f51babf5cda889c813b", func := "loop.example/g00496/laws.FnExactOpName", spec := "fnExactOpName", apart := false, narrowed := true }
def FnExactOpNameUptoSaid : Prop := fnExactOpNameUptoRow.holds Try.pinned (OpenSpec.upto fnExactOpNameSpec)

/-- 'laws.FnExactMayAdvance', WHERE WHAT IT READS IS OF BULK AT MOST 1048576: true; the input reads as it did. -/
def fnExactMayAdvanceUptoRow : OpenClaim := { program := "ytphnbkhopedpgaa", sum := "5f429f1aa801d312fc4b43818e890ad59e4a8392d8c42f51babf5cda889c813b", func := "loop.example/g00496/laws.FnExactMayAdvance", spec := "fnExactMayAdvance", apart := false, narrowed := true }
def FnExactMayAdvanceUptoSaid : Prop := fnExactMayAdvanceUptoRow.holds Try.pinned (OpenSpec.upto fnExactMayAdvanceSpec)

/-- 'laws.FnExactOldestPin', WHERE WHAT IT READS IS OF BULK AT MOST 1048576: true; the input reads as it did. -/
def fnExactOldestPinUptoRow : OpenClaim := { program := "ytphnbkhopedpgaa", sum := "5f429f1aa801d312fc4b43818e890ad59e4a8392d8c42f51babf5cda889c813b", func := "loop.example/g00496/laws.FnExactOldestPin", spec := "fnExactOldestPin", apart := false, narrowed := true }
def FnExactOldestPinUptoSaid : Prop := fnExactOldestPinUptoRow.holds Try.pinned (OpenSpec.upto fnExactOldestPinSpec)

/-- 'laws.FnExactHasDead', WHERE WHAT IT READS IS OF BULK AT MOST 1048576: true; the input reads as it did. -/
def fnExactHasDeadUptoRow : OpenClaim := { program := "ytphnbkhopedpgaa", sum := "5f429f1aa801d312fc4b43818e890ad59e4a8392d8c42f51babf5cda889c813b", func := "loop.example/g00496/laws.FnExactHasDead", spec := "fnExactHasDead", apart := false, narrowed := true }
def FnExactHasDeadUptoSaid : Prop := fnExactHasDeadUptoRow.holds Try.pinned (OpenSpec.upto fnExactHasDeadSpec)

/-- 'laws.FnExactRipe', WHERE WHAT IT READS IS OF BULK AT MOST 1048576: true; the input reads as it did. -/
def fnExactRipeUptoRow : OpenClaim := { program := "ytphnbkhopedpgaa", sum := "5f429f1aa801d312fc4b43818e890ad59e4a8392d8c42f51babf5cda889c813b", func := "loop.example/g00496/laws.FnExactRipe", spec := "fnExactRipe", apart := false, narrowed := true }
def FnExactRipeUptoSaid : Prop := fnExactRipeUptoRow.holds Try.pinned (OpenSpec.upto fnExactRipeSpec)

/-- 'laws.FnExactWaits', WHERE WHAT IT READS IS OF BULK AT MOST 1048576: true; the input reads as it did. -/
def fnExactWaitsUptoRow : OpenClaim := { program := "ytphnbkhopedpgaa", sum := "5f429f1aa801d312fc4b43818e890ad59e4a8392d8c42f51babf5cda889c813b", func := "loop.example/g00496/laws.FnExactWaits", spec := "fnExactWaits", apart := false, narrowed := true }
def FnExactWaitsUptoSaid : Prop := fnExactWaitsUptoRow.holds Try.pinned (OpenSpec.upto fnExactWaitsSpec)

/-- 'laws.FnExactConfOk', WHERE WHAT IT READS IS OF BULK AT MOST 1048576: true; the input reads as it did. -/
def fnExactConfOkUptoRow : OpenClaim := { program := "ytphnbkhopedpgaa", sum := "5f429f1aa801d312fc4b43818e890ad59e4a8392d8c42f51babf5cda889c813b", func := "loop.example/g00496/laws.FnExactConfOk", spec := "fnExactConfOk", apart := false, narrowed := true }
def FnExactConfOkUptoSaid : Prop := fnExactConfOkUptoRow.holds Try.pinned (OpenSpec.upto fnExactConfOkSpec)

/-- 'laws.FnExactWithout', WHERE WHAT IT READS IS OF BULK AT MOST 1048576: true; the input reads as it did. -/
def fnExactWithoutUptoRow : OpenClaim := { program := "ytphnbkhopedpgaa", sum := "5f429f1aa801d312fc4b43818e890ad59e4a8392d8c42f51babf5cda889c813b", func := "loop.example/g00496/laws.FnExactWithout", spec := "fnExactWithout", apart := false, narrowed := true }
def FnExactWithoutUptoSaid : Prop := fnExactWithoutUptoRow.holds Try.pinned (OpenSpec.upto fnExactWithoutSpec)

/-- 'laws.FnEpochs', WHERE WHAT IT READS IS OF BULK AT MOST 1048576: true; the input reads as it did. -/
def fnEpochsUptoRow : OpenClaim := { program := "ytphnbkhopedpgaa", sum := "5f429f1aa801d312fc4b43818e890ad59e4a8392d8c42f51babf5cda889c813b", func := "loop.example/g00496/laws.FnEpochs", spec := "fnEpochs", apart := false, narrowed := true }
def FnEpochsUptoSaid : Prop := fnEpochsUptoRow.holds Try.pinned (OpenSpec.upto fnEpochsSpec)

end Rows
end Go.Proofs.Ytphnbkhopedpgaa
