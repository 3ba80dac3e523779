/-
  NARROWER THAN 'FOR EVERY INPUT', by the rows' own cells (each row's printed sentence says how): FnExactAhead: loops · FnExactDeedOk: loops · FnExactHasTs: loops · FnExactIdle: loops · FnExactLooks: loops · FnExactPutOf: loops · FnExactHolding: loops · FnExactSameDeed: loops · FnExactTaskOk: loops · FnExactOrder: loops.
  DERIVED. THE GIVEN ROWS OF THIS SEAT. 12 by the template 'for every input the law returns true; each argument reads behind the call as it read before'; 0 by the template 'total and deterministic' (their statements: YtbfmbddafpbcpaaTotals.lean).
  GIVEN WITH THE SEED: the statements are not yours to turn. If you find one false, say at which input.
  Laid BY PROGRAM, IN A SANDBOX (cutbox-rows.mjs): the forced cells as the released guide's own fill.sh prints them over the translation 3426fdbf6d07f0c4… (all of the seat's roots in one cut). By AI agents, Wed Nov 11 2026. No macro, syntax, notation, axiom, sorry.
-/
import Derived.Test.YtbfmbddafpbcpaaChecked
import GoSem.Claim
import GoSem.ClaimJoined
import GoSem.ClaimMapViews
import Derived.JoinedTies
import Derived.KernelRfl
namespace Go.Proofs.Ytbfmbddafpbcpaa
/- THE CELL 'sum', in the pinned program and in every row, IS THE sha256 OF THE DUMP (.gsa) THAT YtbfmbddafpbcpaaProg.lean LOADS. Nothing in Lean hashes anything: it is a label: what it is worth is what the hold of that sum in a sandbox is worth. -/
noncomputable def Try.pinned : Pinned := { name := "ytbfmbddafpbcpaa", sum := "3426fdbf6d07f0c4bcd431d84e017ba1258a40d83e45808430c2cc014d5f308e", checked := Try.checked }
namespace Rows
def none {H : Type} : Left H := { results := [], args := [] }

/-- 'laws.FnExactAhead': WHATEVER THE INPUT: true; the input reads as it did. -/
def fnExactAheadSpec : ChangeSpec := { name := "fnExactAhead", fn := fun _ => fun
  | [d1, d2] => { results := [.lit (.bool true)], args := [d1, d2] }
  | _ => none }
def fnExactAheadRow : OpenClaim := { program := "ytbfmbddafpbcpaa", sum := "3426fdbf6d07f0c4bcd431d84e017ba1258a40d83e45808430c2cc014d5f308e", func := "loop.example/g00496/laws.FnExactAhead", spec := "fnExactAhead", recurses := true, loops := true, apart := false }
def FnExactAheadSaid : Prop := fnExactAheadRow.holds Try.pinned (OpenSpec.ofChange fnExactAheadSpec)

/-- ITS FALSE NEIGHBOUR: 'it returns false'. Refute it at one input. -/
def fnExactAheadWrong : ChangeSpec := { name := "fnExactAhead", fn := fun _ => fun
  | [d1, d2] => { results := [.lit (.bool false)], args := [d1, d2] }
  | _ => none }
def FnExactAheadWrongFalsely : Prop := fnExactAheadRow.holds Try.pinned (OpenSpec.ofChange fnExactAheadWrong)

/-- 'laws.FnExactDeedOk': WHATEVER THE INPUT: true; the input reads as it did. -/
def fnExactDeedOkSpec : ChangeSpec := { name := "fnExactDeedOk", fn := fun _ => fun
  | [d] => { results := [.lit (.bool true)], args := [d] }
  | _ => none }
def fnExactDeedOkRow : OpenClaim := { program := "ytbfmbddafpbcpaa", sum := "3426fdbf6d07f0c4bcd431d84e017ba1258a40d83e45808430c2cc014d5f308e", func := "loop.example/g00496/laws.FnExactDeedOk", spec := "fnExactDeedOk", recurses := true, loops := true, apart := false }
def FnExactDeedOkSaid : Prop := fnExactDeedOkRow.holds Try.pinned (OpenSpec.ofChange fnExactDeedOkSpec)

/-- ITS FALSE NEIGHBOUR: 'it returns false'. Refute it at one input. -/
def fnExactDeedOkWrong : ChangeSpec := { name := "fnExactDeedOk", fn := fun _ => fun
  | [d] => { results := [.lit (.bool false)], args := [d] }
  | _ => none }
def FnExactDeedOkWrongFalsely : Prop := fnExactDeedOkRow.holds Try.pinned (OpenSpec.ofChange fnExactDeedOkWrong)

/-- 'laws.FnExactHasTs': WHATEVER THE INPUT: true; the input reads as it did. -/
def fnExactHasTsSpec : ChangeSpec := { name := "fnExactHasTs", fn := fun _ => fun
  | [d] => { results := [.lit (.bool true)], args := [d] }
  | _ => none }
def fnExactHasTsRow : OpenClaim := { program := "ytbfmbddafpbcpaa", sum := "3426fdbf6d07f0c4bcd431d84e017ba1258a40d83e45808430c2cc014d5f308e", func := "loop.example/g00496/laws.FnExactHasTs", spec := "fnExactHasTs", recurses := true, loops := true, apart := false }
def FnExactHasTsSaid : Prop := fnExactHasTsRow.holds Try.pinned (OpenSpec.ofChange fnExactHasTsSpec)

/-- ITS FALSE NEIGHBOUR: 'it returns false'. Refute it at one input. -/
def fnExactHasTsWrong : ChangeSpec := { name := "fnExactHasTs", fn := fun _ => fun
  | [d] => { results := [.lit (.bool false)], args := [d] }
  | _ => none }
def FnExactHasTsWrongFalsely : Prop := fnExactHasTsRow.holds Try.pinned (OpenSpec.ofChange fnExactHasTsWrong)

/-- 'laws.FnExactIdle': WHATEVER THE INPUT: true; the input reads as it did. -/
def fnExactIdleSpec : ChangeSpec := { name := "fnExactIdle", fn := fun _ => fun
  | [d] => { results := [.lit (.bool true)], args := [d] }
  | _ => none }
def fnExactIdleRow : OpenClaim := { program := "ytbfmbddafpbcpaa", sum := "3426fdbf6d07f0c4bcd431d84e017ba1258a40d83e45808430c2cc014d5f308e", func := "loop.example/g00496/laws.FnExactIdle", spec := "fnExactIdle", recurses := true, loops := true, apart := false }
def FnExactIdleSaid : Prop := fnExactIdleRow.holds Try.pinned (OpenSpec.ofChange fnExactIdleSpec)

/-- ITS FALSE NEIGHBOUR: 'it returns false'. Refute it at one input. -/
def fnExactIdleWrong : ChangeSpec := { name := "fnExactIdle", fn := fun _ => fun
  | [d] => { results := [.lit (.bool false)], args := [d] }
  | _ => none }
def FnExactIdleWrongFalsely : Prop := fnExactIdleRow.holds Try.pinned (OpenSpec.ofChange fnExactIdleWrong)

/-- 'laws.FnExactLooks': WHATEVER THE INPUT: true; the input reads as it did. -/
def fnExactLooksSpec : ChangeSpec := { name := "fnExactLooks", fn := fun _ => fun
  | [d] => { results := [.lit (.bool true)], args := [d] }
  | _ => none }
def fnExactLooksRow : OpenClaim := { program := "ytbfmbddafpbcpaa", sum := "3426fdbf6d07f0c4bcd431d84e017ba1258a40d83e45808430c2cc014d5f308e", func := "loop.example/g00496/laws.FnExactLooks", spec := "fnExactLooks", recurses := true, loops := true, apart := false }
def FnExactLooksSaid : Prop := fnExactLooksRow.holds Try.pinned (OpenSpec.ofChange fnExactLooksSpec)

/-- ITS FALSE NEIGHBOUR: 'it returns false'. Refute it at one input. -/
def fnExactLooksWrong : ChangeSpec := { name := "fnExactLooks", fn := fun _ => fun
  | [d] => { results := [.lit (.bool false)], args := [d] }
  | _ => none }
def FnExactLooksWrongFalsely : Prop := fnExactLooksRow.holds Try.pinned (OpenSpec.ofChange fnExactLooksWrong)

/-- 'laws.FnExactPutOf': WHATEVER THE INPUT: true; the input reads as it did. -/
def fnExactPutOfSpec : ChangeSpec := { name := "fnExactPutOf", fn := fun _ => fun
  | [d1, d2] => { results := [.lit (.bool true)], args := [d1, d2] }
  | _ => none }
def fnExactPutOfRow : OpenClaim := { program := "ytbfmbddafpbcpaa", sum := "3426fdbf6d07f0c4bcd431d84e017ba1258a40d83e45808430c2cc014d5f308e", func := "loop.example/g00496/laws.FnExactPutOf", spec := "fnExactPutOf", recurses := true, loops := true, apart := false }
def FnExactPutOfSaid : Prop := fnExactPutOfRow.holds Try.pinned (OpenSpec.ofChange fnExactPutOfSpec)

/-- ITS FALSE NEIGHBOUR: 'it returns false'. Refute it at one input. -/
def fnExactPutOfWrong : ChangeSpec := { name := "fnExactPutOf", fn := fun _ => fun
  | [d1, d2] => { results := [.lit (.bool false)], args := [d1, d2] }
  | _ => none }
def FnExactPutOfWrongFalsely : Prop := fnExactPutOfRow.holds Try.pinned (OpenSpec.ofChange fnExactPutOfWrong)

/-- 'laws.FnExactHolding': WHATEVER THE INPUT: true; the input reads as it did. -/
def fnExactHoldingSpec : ChangeSpec := { name := "fnExactHolding", fn := fun _ => fun
  | [d1, d2] => { results := [.lit (.bool true)], args := [d1, d2] }
  | _ => none }
def fnExactHoldingRow : OpenClaim := { program := "ytbfmbddafpbcpaa", sum := "3426fdbf6d07f0c4bcd431d84e017ba1258a40d83e45808430c2cc014d5f308e", func := "loop.example/g00496/laws.FnExactHolding", spec := "fnExactHolding", recurses := true, loops := true, apart := false }
def FnExactHoldingSaid : Prop := fnExactHoldingRow.holds Try.pinned (OpenSpec.ofChange fnExactHoldingSpec)

/-- ITS FALSE NEIGHBOUR: 'it returns false'. Refute it at one input. -/
def fnExactHoldingWrong : ChangeSpec := { name := "fnExactHolding", fn := fun _ => fun
  | [d1, d2] => { results := [.lit (.bool false)], args := [d1, d2] }
  | _ => none }
def FnExactHoldingWrongFalsely : Prop := fnExactHoldingRow.holds Try.pinned (OpenSpec.ofChange fnExactHoldingWrong)

/-- 'laws.FnExactSameDeed': WHATEVER THE INPUT: true; the input reads as it did. -/
def fnExactSameDeedSpec : ChangeSpec := { name := "fnExactSameDeed", fn := fun _ => fun
  | [d1, d2] => { results := [.lit (.bool true)], args := [d1, d2] }
  | _ => none }
def fnExactSameDeedRow : OpenClaim := { program := "ytbfmbddafpbcpaa", sum := "3426fdbf6d07f0c4bcd431d84e017ba1258a40d83e45808430c2cc014d5f308e", func := "loop.example/g00496/laws.FnExactSameDeed", spec := "fnExactSameDeed", recurses := true, loops := true, apart := false }
def FnExactSameDeedSaid : Prop := fnExactSameDeedRow.holds Try.pinned (OpenSpec.ofChange fnExactSameDeedSpec)

/-- ITS FALSE NEIGHBOUR: 'it returns false'. Refute it at one input. -/
def fnExactSameDeedWrong : ChangeSpec := { name := "fnExactSameDeed", fn := fun _ => fun
  | [d1, d2] => { results := [.lit (.bool false)], args := [d1, d2] }
  | _ => none }
def FnExactSameDeedWrongFalsely : Prop := fnExactSameDeedRow.holds Try.pinned (OpenSpec.ofChange fnExactSameDeedWrong)

/-- 'laws.FnExactTaskOk': WHATEVER THE INPUT: true; the input reads as it did. -/
def fnExactTaskOkSpec : ChangeSpec := { name := "fnExactTaskOk", fn := fun _ => fun
  | [d1, d2] => { results := [.lit (.bool true)], args := [d1, d2] }
  | _ => none }
def fnExactTaskOkRow : OpenClaim := { program := "ytbfmbddafpbcpaa", sum := "3426fdbf6d07f0c4bcd431d84e017ba1258a40d83e45808430c2cc014d5f308e", func := "loop.example/g00496/laws.FnExactTaskOk", spec := "fnExactTaskOk", recurses := true, loops := true, apart := false }
def FnExactTaskOkSaid : Prop := fnExactTaskOkRow.holds Try.pinned (OpenSpec.ofChange fnExactTaskOkSpec)

/-- ITS FALSE NEIGHBOUR: 'it returns false'. Refute it at one input. -/
def fnExactTaskOkWrong : ChangeSpec := { name := "fnExactTaskOk", fn := fun _ => fun
  | [d1, d2] => { results := [.lit (.bool false)], args := [d1, d2] }
  | _ => none }
def FnExactTaskOkWrongFalsely : Prop := fnExactTaskOkRow.holds Try.pinned (OpenSpec.ofChange fnExactTaskOkWrong)

/-- 'laws.FnExactOrder': WHATEVER THE INPUT: true; the input reads as it did. -/
def fnExactOrderSpec : ChangeSpec := { name := "fnExactOrder", fn := fun _ => fun
  | [d] => { results := [.lit (.bool true)], args := [d] }
  | _ => none }
def fnExactOrderRow : OpenClaim := { program := "ytbfmbddafpbcpaa", sum := "3426fdbf6d07f0c4bcd431d84e017ba1258a40d83e45808430c2cc014d5f308e", func := "loop.example/g00496/laws.FnExactOrder", spec := "fnExactOrder", unfollowed := true, recurses := true, loops := true, apart := false }
def FnExactOrderSaid : Prop := fnExactOrderRow.holds Try.pinned (OpenSpec.ofChange fnExactOrderSpec)

/-- ITS FALSE NEIGHBOUR: 'it returns false'. Refute it at one input. -/
def fnExactOrderWrong : ChangeSpec := { name := "fnExactOrder", fn := fun _ => fun
  | [d] => { results := [.lit (.bool false)], args := [d] }
  | _ => none }
def FnExactOrderWrongFalsely : Prop := fnExactOrderRow.holds Try.pinned (OpenSpec.ofChange fnExactOrderWrong)

/-- 'laws.FnTasks': WHATEVER THE INPUT: true; the input reads as it did. -/
def fnTasksSpec : ChangeSpec := { name := "fnTasks", fn := fun _ => fun
  | [d] => { results := [.lit (.bool true)], args := [d] }
  | _ => none }
def fnTasksRow : OpenClaim := { program := "ytbfmbddafpbcpaa", sum := "3426fdbf6d07f0c4bcd431d84e017ba1258a40d83e45808430c2cc014d5f308e", func := "loop.example/g00496/laws.FnTasks", spec := "fnTasks", recurses := true, apart := false }
def FnTasksSaid : Prop := fnTasksRow.holds Try.pinned (OpenSpec.ofChange fnTasksSpec)

/-- ITS FALSE NEIGHBOUR: 'it returns false'. Refute it at one input. -/
def fnTasksWrong : ChangeSpec := { name := "fnTasks", fn := fun _ => fun
  | [d] => { results := [.lit (.bool false)], args := [d] }
  | _ => none }
def FnTasksWrongFalsely : Prop := fnTasksRow.holds Try.pinned (OpenSpec.ofChange fnTasksWrong)

/-- 'laws.FnDeeds': WHATEVER THE INPUT: true; the input reads as it did. -/
def fnDeedsSpec : ChangeSpec := { name := "fnDeeds", fn := fun _ => fun
  | [d] => { results := [.lit (.bool true)], args := [d] }
  | _ => none }
def fnDeedsRow : OpenClaim := { program := "ytbfmbddafpbcpaa", sum := "3426fdbf6d07f0c4bcd431d84e017ba1258a40d83e45808430c2cc014d5f308e", func := "loop.example/g00496/laws.FnDeeds", spec := "fnDeeds", unfollowed := true, recurses := true, apart := false }
def FnDeedsSaid : Prop := fnDeedsRow.holds Try.pinned (OpenSpec.ofChange fnDeedsSpec)

/-- ITS FALSE NEIGHBOUR: 'it returns false'. Refute it at one input. -/
def fnDeedsWrong : ChangeSpec := { name := "fnDeeds", fn := fun _ => fun
  | [d] => { results := [.lit (.bool false)], args := [d] }
  | _ => none }
def FnDeedsWrongFalsely : Prop := fnDeedsRow.holds Try.pinned (OpenSpec.ofChange fnDeedsWrong)

/- THE SECOND FORM. 'bulk': how many values and letters a reading holds, each counted each time it is reached (what is shared counts as often as it is met; a slice's spare places count too). A statement '..UptoSaid' is the law's where the arguments, and the package variables that the reading takes, are together of bulk at most 1048576: NARROWER than '..Said'. Prove '..Said' where nothing that the law and all that it calls make is longer than what came in: it says more and counts as full. Else prove '..UptoSaid'. A law counts once. -/
mutual
def uptoBulk {H : Type} : DataW H → Nat
  | .lit (.string bytes) => bytes.length + 1
  | .lit _ => 1
  | .nil => 1
  | .ptr d => uptoBulk d + 1
  | .slice elems spare => uptoBulkAll elems + uptoBulkAll spare + 1
  | .agg parts => uptoBulkAll parts + 1
  | .iface _ d => uptoBulk d + 1
  | .map entries => uptoBulkEntries entries + 1
  | .held _ => 1
def uptoBulkAll {H : Type} : List (DataW H) → Nat
  | [] => 0
  | d :: r => uptoBulk d + uptoBulkAll r
def uptoBulkEntries {H : Type} : List (Lit × DataW H) → Nat
  | [] => 0
  | x :: r => uptoBulkEntry x + uptoBulkEntries r
def uptoBulkEntry {H : Type} : Lit × DataW H → Nat
  | (.string bytes, d) => bytes.length + uptoBulk d + 1
  | (_, d) => uptoBulk d + 1
 end
def uptoSmall : (H : Type) → List (DataW H) → Bool := fun _ ds => decide (uptoBulkAll ds ≤ 1048576)
def OpenSpec.upto (s : _root_.Go.ChangeSpec) : _root_.Go.OpenSpec := { _root_.Go.OpenSpec.ofChange s with cond := some uptoSmall }

/-- 'laws.FnExactAhead', WHERE WHAT IT READS IS OF BULK AT MOST 1048576: true; the input reads as it did. -/
def fnExactAheadUptoRow : OpenClaim := { program := "ytbfmbddafpbcpaa", sum := "3426fdbf6d07f0c4bcd431d84e017ba1258a40d83e45808430c2cc014d5f308e", func := "loop.example/g00496/laws.FnExactAhead", spec := "fnExactAhead", recurses := true, loops := true, apart := false, narrowed := true }
def FnExactAheadUptoSaid : Prop := fnExactAheadUptoRow.holds Try.pinned (OpenSpec.upto fnExactAheadSpec)

/-- 'laws.FnExactDeedOk', WHERE WHAT IT READS IS OF BULK AT MOST 1048576: true; the input reads as it did. -/
def fnExactDeedOkUptoRow : OpenClaim := { program := "ytbfmbddafpbcpaa", sum := "3426fdbf6d07f0c4bcd431d84e017ba1258a40d83e45808430c2cc014d5f308e", func := "loop.example/g00496/laws.FnExactDeedOk", spec := "fnExactDeedOk", recurses := true, loops := true, apart := false, narrowed := true }
def FnExactDeedOkUptoSaid : Prop := fnExactDeedOkUptoRow.holds Try.pinned (OpenSpec.upto fnExactDeedOkSpec)

/-- 'laws.FnExactHasTs', WHERE WHAT IT READS IS OF BULK AT MOST 1048576: true; the input reads as it did. -/
def fnExactHasTsUptoRow : OpenClaim := { program := "ytbfmbddafpbcpaa", sum := "3426fdbf6d07f0c4bcd431d84e017ba1258a40d83e45808430c2cc014d5f308e", func := "loop.example/g00496/laws.FnExactHasTs", spec := "fnExactHasTs", recurses := true, loops := true, apart := false, narrowed := true }
def FnExactHasTsUptoSaid : Prop := fnExactHasTsUptoRow.holds Try.pinned (OpenSpec.upto fnExactHasTsSpec)

/-- 'laws.FnExactIdle', WHERE WHAT IT READS IS OF BULK AT MOST 1048576: true; the input reads as it did. -/
def fnExactIdleUptoRow : OpenClaim := { program := "ytbfmbddafpbcpaa", sum := "3426fdbf6d07f0c4bcd431d84e017ba1258a40d83e45808430c2cc014d5f308e", func := "loop.example/g00496/laws.FnExactIdle", spec := "fnExactIdle", recurses := true, loops := true, apart := false, narrowed := true }
def FnExactIdleUptoSaid : Prop := fnExactIdleUptoRow.holds Try.pinned (OpenSpec.upto fnExactIdleSpec)

/-- 'laws.FnExactLooks', WHERE WHAT IT READS IS OF BULK AT MOST 1048576: true; the input reads as it did. -/
def fnExactLooksUptoRow : OpenClaim := { program := "ytbfmbddafpbcpaa", sum := "3426fdbf6d07f0c4bcd431d84e017ba1258a40d83e45808430c2cc014d5f308e", func := "loop.example/g00496/laws.FnExactLooks", spec := "fnExactLooks", recurses := true, loops := true, apart := false, narrowed := true }
def FnExactLooksUptoSaid : Prop := fnExactLooksUptoRow.holds Try.pinned (OpenSpec.upto fnExactLooksSpec)

/-- 'laws.FnExactPutOf', WHERE WHAT IT READS IS OF BULK AT MOST 1048576: true; the input reads as it did. -/
def fnExactPutOfUptoRow : OpenClaim := { program := "ytbfmbddafpbcpaa", sum := "3426fdbf6d07f0c4bcd431d84e017ba1258a40d83e45808430c2cc014d5f308e", func := "loop.example/g00496/laws.FnExactPutOf", spec := "fnExactPutOf", recurses := true, loops := true, apart := false, narrowed := true }
def FnExactPutOfUptoSaid : Prop := fnExactPutOfUptoRow.holds Try.pinned (OpenSpec.upto fnExactPutOfSpec)

/-- 'laws.FnExactHolding', WHERE WHAT IT READS IS OF BULK AT MOST 1048576: true; the input reads as it did. -/
def fnExactHoldingUptoRow : OpenClaim := { program := "ytbfmbddafpbcpaa", sum := "3426fdbf6d07f0c4bcd431d84e017ba1258a40d83e45808430c2cc014d5f308e", func := "loop.example/g00496/laws.FnExactHolding", spec := "fnExactHolding", recurses := true, loops := true, apart := false, narrowed := true }
def FnExactHoldingUptoSaid : Prop := fnExactHoldingUptoRow.holds Try.pinned (OpenSpec.upto fnExactHoldingSpec)

/-- 'laws.FnExactSameDeed', WHERE WHAT IT READS IS OF BULK AT MOST 1048576: true; the input reads as it did. -/
def fnExactSameDeedUptoRow : OpenClaim := { program := "ytbfmbddafpbcpaa", sum := "3426fdbf6d07f0c4bcd431d84e017ba1258a40d83e45808430c2cc014d5f308e", func := "loop.example/g00496/laws.FnExactSameDeed", spec := "fnExactSameDeed", recurses := true, loops := true, apart := false, narrowed := true }
def FnExactSameDeedUptoSaid : Prop := fnExactSameDeedUptoRow.holds Try.pinned (OpenSpec.upto fnExactSameDeedSpec)

/-- 'laws.FnExactTaskOk', WHERE WHAT IT READS IS OF BULK AT MOST 1048576: true; the input reads as it did. -/
def fnExactTaskOkUptoRow : OpenClaim := { program := "ytbfmbddafpbcpaa", sum := "3426fdbf6d07f0c4bcd431d84e017ba1258a40d83e45808430c2cc014d5f308e", func := "loop.example/g00496/laws.FnExactTaskOk", spec := "fnExactTaskOk", recurses := true, loops := true, apart := false, narrowed := true }
def FnExactTaskOkUptoSaid : Prop := fnExactTaskOkUptoRow.holds Try.pinned (OpenSpec.upto fnExactTaskOkSpec)

/-- 'laws.FnExactOrder', WHERE WHAT IT READS IS OF BULK AT MOST 1048576: true; the input reads as it did. -/
def fnExactOrderUptoRow : OpenClaim := { program := "ytbfmbddafpbcpaa", sum := "3426fdbf6d07f0c4bcd431d84e017ba1258a40d83e45808430c2cc014d5f308e", func := "loop.example/g00496/laws.FnExactOrder", spec := "fnExactOrder", unfollowed := true, recurses := true, loops := true, apart := false, narrowed := true }
def FnExactOrderUptoSaid : Prop := fnExactOrderUptoRow.holds Try.pinned (OpenSpec.upto fnExactOrderSpec)

/-- 'laws.FnTasks', WHERE WHAT IT READS IS OF BULK AT MOST 1048576: true; the input reads as it did. -/
def fnTasksUptoRow : OpenClaim := { program := "ytbfmbddafpbcpaa", sum := "3426fdbf6d07f0c4bcd431d84e017ba1258a40d83e45808430c2cc014d5f308e", func := "loop.example/g00496/laws.FnTasks", spec := "fnTasks", recurses := true, apart := false, narrowed := true }
def FnTasksUptoSaid : Prop := fnTasksUptoRow.holds Try.pinned (OpenSpec.upto fnTasksSpec)

/-- 'laws.FnDeeds', WHERE WHAT IT READS IS OF BULK AT MOST 1048576: true; the input reads as it did. -/
def fnDeedsUptoRow : OpenClaim := { program := "ytbfmbddafpbcpaa", sum := "3426fdbf6d07f0c4bcd431d84e017ba1258a40d83e45808430c2cc014d5f308e", func := "loop.example/g00496/laws.FnDeeds", spec := "fnDeeds", unfollowed := true, recurses := true, apart := false, narrowed := true }
def FnDeedsUptoSaid : Prop := fnDeedsUptoRow.holds Try.pinned (OpenSpec.upto fnDeedsSpec)

end Rows
end Go.Proofs.Ytbfmbddafpbcpaa
