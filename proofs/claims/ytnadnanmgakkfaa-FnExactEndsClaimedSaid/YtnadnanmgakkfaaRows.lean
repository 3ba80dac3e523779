/-
  NARROWER THAN 'FOR EVERY INPUT', by the rows' own cells (each row's printed sentence says how): FnExactLastPart: loops · FnExactMarkOf: loops · FnExactWinner: loops · FnExactThere: loops · FnExactBusy: loops · FnExactHorizon: loops · FnExactScansAt: loops · FnExactOpenSlots: loops · FnExactNextId: loops · FnExactEndsClaimed: loops.
  DERIVED. THE GIVEN ROWS OF THIS SEAT. 11 by the template 'for every input the law returns true; each argument reads behind the call as it read before'; 0 by the template 'total and deterministic' (their statements: YtnadnanmgakkfaaTotals.lean).
  GIVEN WITH THE SEED: the statements are not yours to turn. If you find one false, say at which input.
  Laid BY PROGRAM, IN A SANDBOX (cutbox-rows.mjs): the forced cells as the released guide's own fill.sh prints them over the translation 2687f54c06e51690… (all of the seat's roots in one cut). By AI agents, Wed Nov 11 2026. No macro, syntax, notation, axiom, sorry.
-/
import Derived.Test.YtnadnanmgakkfaaChecked
import GoSem.Claim
import GoSem.ClaimJoined
import GoSem.ClaimMapViews
import Derived.JoinedTies
import Derived.KernelRfl
namespace Go.Proofs.Ytnadnanmgakkfaa
/- THE CELL 'sum', in the pinned program and in every row, IS THE sha256 OF THE DUMP (.gsa) THAT YtnadnanmgakkfaaProg.lean LOADS. Nothing in Lean hashes anything: it is a label: what it is worth is what the hold of that sum in a sandbox is worth. -/
noncomputable def Try.pinned : Pinned := { name := "ytnadnanmgakkfaa", sum := "2687f54c06e516905fd02d2ed1f09433547d144781be161869430359ba07087c", checked := Try.checked }
namespace Rows
def none {H : Type} : Left H := { results := [], args := [] }

/-- 'laws.FnExactLastPart': WHATEVER THE INPUT: true; the input reads as it did. -/
def fnExactLastPartSpec : ChangeSpec := { name := "fnExactLastPart", fn := fun _ => fun
  | [d] => { results := [.lit (.bool true)], args := [d] }
  | _ => none }
def fnExactLastPartRow : OpenClaim := { program := "ytnadnanmgakkfaa", sum := "2687f54c06e516905fd02d2ed1f09433547d144781be161869430359ba07087c", func := "loop.example/g00496/laws.FnExactLastPart", spec := "fnExactLastPart", recurses := true, loops := true, apart := false }
def FnExactLastPartSaid : Prop := fnExactLastPartRow.holds Try.pinned (OpenSpec.ofChange fnExactLastPartSpec)

/-- ITS FALSE NEIGHBOUR: 'it returns false'. Refute it at one input. -/
def fnExactLastPartWrong : ChangeSpec := { name := "fnExactLastPart", fn := fun _ => fun
  | [d] => { results := [.lit (.bool false)], args := [d] }
  | _ => none }
def FnExactLastPartWrongFalsely : Prop := fnExactLastPartRow.holds Try.pinned (OpenSpec.ofChange fnExactLastPartWrong)

/-- 'laws.FnExactMarkOf': WHATEVER THE INPUT: true; the input reads as it did. -/
def fnExactMarkOfSpec : ChangeSpec := { name := "fnExactMarkOf", fn := fun _ => fun
  | [d1, d2] => { results := [.lit (.bool true)], args := [d1, d2] }
  | _ => none }
def fnExactMarkOfRow : OpenClaim := { program := "ytnadnanmgakkfaa", sum := "2687f54c06e516905fd02d2ed1f09433547d144781be161869430359ba07087c", func := "loop.example/g00496/laws.FnExactMarkOf", spec := "fnExactMarkOf", recurses := true, loops := true, apart := false }
def FnExactMarkOfSaid : Prop := fnExactMarkOfRow.holds Try.pinned (OpenSpec.ofChange fnExactMarkOfSpec)

/-- ITS FALSE NEIGHBOUR: 'it returns false'. Refute it at one input. -/
def fnExactMarkOfWrong : ChangeSpec := { name := "fnExactMarkOf", fn := fun _ => fun
  | [d1, d2] => { results := [.lit (.bool false)], args := [d1, d2] }
  | _ => none }
def FnExactMarkOfWrongFalsely : Prop := fnExactMarkOfRow.holds Try.pinned (OpenSpec.ofChange fnExactMarkOfWrong)

/-- 'laws.FnExactWinner': WHATEVER THE INPUT: true; the input reads as it did. -/
def fnExactWinnerSpec : ChangeSpec := { name := "fnExactWinner", fn := fun _ => fun
  | [d1, d2] => { results := [.lit (.bool true)], args := [d1, d2] }
  | _ => none }
def fnExactWinnerRow : OpenClaim := { program := "ytnadnanmgakkfaa", sum := "2687f54c06e516905fd02d2ed1f09433547d144781be161869430359ba07087c", func := "loop.example/g00496/laws.FnExactWinner", spec := "fnExactWinner", recurses := true, loops := true, apart := false }
def FnExactWinnerSaid : Prop := fnExactWinnerRow.holds Try.pinned (OpenSpec.ofChange fnExactWinnerSpec)

/-- ITS FALSE NEIGHBOUR: 'it returns false'. Refute it at one input. -/
def fnExactWinnerWrong : ChangeSpec := { name := "fnExactWinner", fn := fun _ => fun
  | [d1, d2] => { results := [.lit (.bool false)], args := [d1, d2] }
  | _ => none }
def FnExactWinnerWrongFalsely : Prop := fnExactWinnerRow.holds Try.pinned (OpenSpec.ofChange fnExactWinnerWrong)

/-- 'laws.FnExactThere': WHATEVER THE INPUT: true; the input reads as it did. -/
def fnExactThereSpec : ChangeSpec := { name := "fnExactThere", fn := fun _ => fun
  | [d1, d2] => { results := [.lit (.bool true)], args := [d1, d2] }
  | _ => none }
def fnExactThereRow : OpenClaim := { program := "ytnadnanmgakkfaa", sum := "2687f54c06e516905fd02d2ed1f09433547d144781be161869430359ba07087c", func := "loop.example/g00496/laws.FnExactThere", spec := "fnExactThere", recurses := true, loops := true, apart := false }
def FnExactThereSaid : Prop := fnExactThereRow.holds Try.pinned (OpenSpec.ofChange fnExactThereSpec)

/-- ITS FALSE NEIGHBOUR: 'it returns false'. Refute it at one input. -/
def fnExactThereWrong : ChangeSpec := { name := "fnExactThere", fn := fun _ => fun
  | [d1, d2] => { results := [.lit (.bool false)], args := [d1, d2] }
  | _ => none }
def FnExactThereWrongFalsely : Prop := fnExactThereRow.holds Try.pinned (OpenSpec.ofChange fnExactThereWrong)

/-- 'laws.FnExactBusy': WHATEVER THE INPUT: true; the input reads as it did. -/
def fnExactBusySpec : ChangeSpec := { name := "fnExactBusy", fn := fun _ => fun
  | [d] => { results := [.lit (.bool true)], args := [d] }
  | _ => none }
def fnExactBusyRow : OpenClaim := { program := "ytnadnanmgakkfaa", sum := "2687f54c06e516905fd02d2ed1f09433547d144781be161869430359ba07087c", func := "loop.example/g00496/laws.FnExactBusy", spec := "fnExactBusy", recurses := true, loops := true, apart := false }
def FnExactBusySaid : Prop := fnExactBusyRow.holds Try.pinned (OpenSpec.ofChange fnExactBusySpec)

/-- ITS FALSE NEIGHBOUR: 'it returns false'. Refute it at one input. -/
def fnExactBusyWrong : ChangeSpec := { name := "fnExactBusy", fn := fun _ => fun
  | [d] => { results := [.lit (.bool false)], args := [d] }
  | _ => none }
def FnExactBusyWrongFalsely : Prop := fnExactBusyRow.holds Try.pinned (OpenSpec.ofChange fnExactBusyWrong)

/-- 'laws.FnExactHorizon': WHATEVER THE INPUT: true; the input reads as it did. -/
def fnExactHorizonSpec : ChangeSpec := { name := "fnExactHorizon", fn := fun _ => fun
  | [d] => { results := [.lit (.bool true)], args := [d] }
  | _ => none }
def fnExactHorizonRow : OpenClaim := { program := "ytnadnanmgakkfaa", sum := "2687f54c06e516905fd02d2ed1f09433547d144781be161869430359ba07087c", func := "loop.example/g00496/laws.FnExactHorizon", spec := "fnExactHorizon", recurses := true, loops := true, apart := false }
def FnExactHorizonSaid : Prop := fnExactHorizonRow.holds Try.pinned (OpenSpec.ofChange fnExactHorizonSpec)

/-- ITS FALSE NEIGHBOUR: 'it returns false'. Refute it at one input. -/
def fnExactHorizonWrong : ChangeSpec := { name := "fnExactHorizon", fn := fun _ => fun
  | [d] => { results := [.lit (.bool false)], args := [d] }
  | _ => none }
def FnExactHorizonWrongFalsely : Prop := fnExactHorizonRow.holds Try.pinned (OpenSpec.ofChange fnExactHorizonWrong)

/-- 'laws.FnExactScansAt': WHATEVER THE INPUT: true; the input reads as it did. -/
def fnExactScansAtSpec : ChangeSpec := { name := "fnExactScansAt", fn := fun _ => fun
  | [d1, d2] => { results := [.lit (.bool true)], args := [d1, d2] }
  | _ => none }
def fnExactScansAtRow : OpenClaim := { program := "ytnadnanmgakkfaa", sum := "2687f54c06e516905fd02d2ed1f09433547d144781be161869430359ba07087c", func := "loop.example/g00496/laws.FnExactScansAt", spec := "fnExactScansAt", recurses := true, loops := true, apart := false }
def FnExactScansAtSaid : Prop := fnExactScansAtRow.holds Try.pinned (OpenSpec.ofChange fnExactScansAtSpec)

/-- ITS FALSE NEIGHBOUR: 'it returns false'. Refute it at one input. -/
def fnExactScansAtWrong : ChangeSpec := { name := "fnExactScansAt", fn := fun _ => fun
  | [d1, d2] => { results := [.lit (.bool false)], args := [d1, d2] }
  | _ => none }
def FnExactScansAtWrongFalsely : Prop := fnExactScansAtRow.holds Try.pinned (OpenSpec.ofChange fnExactScansAtWrong)

/-- 'laws.FnExactOpenSlots': WHATEVER THE INPUT: true; the input reads as it did. -/
def fnExactOpenSlotsSpec : ChangeSpec := { name := "fnExactOpenSlots", fn := fun _ => fun
  | [d] => { results := [.lit (.bool true)], args := [d] }
  | _ => none }
def fnExactOpenSlotsRow : OpenClaim := { program := "ytnadnanmgakkfaa", sum := "2687f54c06e516905fd02d2ed1f09433547d144781be161869430359ba07087c", func := "loop.example/g00496/laws.FnExactOpenSlots", spec := "fnExactOpenSlots", recurses := true, loops := true, apart := false }
def FnExactOpenSlotsSaid : Prop := fnExactOpenSlotsRow.holds Try.pinned (OpenSpec.ofChange fnExactOpenSlotsSpec)

/-- ITS FALSE NEIGHBOUR: 'it returns false'. Refute it at one input. -/
def fnExactOpenSlotsWrong : ChangeSpec := { name := "fnExactOpenSlots", fn := fun _ => fun
  | [d] => { results := [.lit (.bool false)], args := [d] }
  | _ => none }
def FnExactOpenSlotsWrongFalsely : Prop := fnExactOpenSlotsRow.holds Try.pinned (OpenSpec.ofChange fnExactOpenSlotsWrong)

/-- 'laws.FnExactNextId': WHATEVER THE INPUT: true; the input reads as it did. -/
def fnExactNextIdSpec : ChangeSpec := { name := "fnExactNextId", fn := fun _ => fun
  | [d] => { results := [.lit (.bool true)], args := [d] }
  | _ => none }
def fnExactNextIdRow : OpenClaim := { program := "ytnadnanmgakkfaa", sum := "2687f54c06e516905fd02d2ed1f09433547d144781be161869430359ba07087c", func := "loop.example/g00496/laws.FnExactNextId", spec := "fnExactNextId", recurses := true, loops := true, apart := false }
def FnExactNextIdSaid : Prop := fnExactNextIdRow.holds Try.pinned (OpenSpec.ofChange fnExactNextIdSpec)

/-- ITS FALSE NEIGHBOUR: 'it returns false'. Refute it at one input. -/
def fnExactNextIdWrong : ChangeSpec := { name := "fnExactNextId", fn := fun _ => fun
  | [d] => { results := [.lit (.bool false)], args := [d] }
  | _ => none }
def FnExactNextIdWrongFalsely : Prop := fnExactNextIdRow.holds Try.pinned (OpenSpec.ofChange fnExactNextIdWrong)

/-- 'laws.FnExactWorldNew': WHATEVER THE INPUT: true; the input reads as it did. -/
def fnExactWorldNewSpec : ChangeSpec := { name := "fnExactWorldNew", fn := fun _ => fun
  | [d] => { results := [.lit (.bool true)], args := [d] }
  | _ => none }
def fnExactWorldNewRow : OpenClaim := { program := "ytnadnanmgakkfaa", sum := "2687f54c06e516905fd02d2ed1f09433547d144781be161869430359ba07087c", func := "loop.example/g00496/laws.FnExactWorldNew", spec := "fnExactWorldNew", recurses := true, apart := false }
def FnExactWorldNewSaid : Prop := fnExactWorldNewRow.holds Try.pinned (OpenSpec.ofChange fnExactWorldNewSpec)

/-- ITS FALSE NEIGHBOUR: 'it returns false'. Refute it at one input. -/
def fnExactWorldNewWrong : ChangeSpec := { name := "fnExactWorldNew", fn := fun _ => fun
  | [d] => { results := [.lit (.bool false)], args := [d] }
  | _ => none }
def FnExactWorldNewWrongFalsely : Prop := fnExactWorldNewRow.holds Try.pinned (OpenSpec.ofChange fnExactWorldNewWrong)

/-- 'laws.FnExactEndsClaimed': WHATEVER THE INPUT: true; the input reads as it did. -/
def fnExactEndsClaimedSpec : ChangeSpec := { name := "fnExactEndsClaimed", fn := fun _ => fun
  | [d] => { results := [.lit (.bool true)], args := [d] }
  | _ => none }
def fnExactEndsClaimedRow : OpenClaim := { program := "ytnadnanmgakkfaa", sum := "2687f54c06e516905fd02d2ed1f09433547d144781be161869430359ba07087c", func := "loop.example/g00496/laws.FnExactEndsClaimed", spec := "fnExactEndsClaimed", recurses := true, loops := true, apart := false }
def FnExactEndsClaimedSaid : Prop := fnExactEndsClaimedRow.holds Try.pinned (OpenSpec.ofChange fnExactEndsClaimedSpec)

/-- ITS FALSE NEIGHBOUR: 'it returns false'. Refute it at one input. -/
def fnExactEndsClaimedWrong : ChangeSpec := { name := "fnExactEndsClaimed", fn := fun _ => fun
  | [d] => { results := [.lit (.bool false)], args := [d] }
  | _ => none }
def FnExactEndsClaimedWrongFalsely : Prop := fnExactEndsClaimedRow.holds Try.pinned (OpenSpec.ofChange fnExactEndsClaimedWrong)

/- THE SECOND FORM. 'bulk': how many values and letters a reading holds, each counted each time it is reached (what is shared counts as often as it is met; a slice's spare places count too). A statement '..UptoSaid' is the law's where the arguments, and the package variables that the reading takes, are together of bulk at most 1048576: NARROWER than '..Said'. Prove '..Said' where nothing that the law and all that it calls make is longer than what came in: it says more and counts as full. Else prove '..UptoSaid'. A law counts once. -/
mutual
def uptoBulk {H : Type} : DataW H → Nat
  | .lit (.string bytes) => bytes.length + 1
  | .lit _ => 1
  | .nil => 1
  | .ptr d => uptoBulk d + 1
  | .slice elems spare => uptoBulkAll elems + uptoBulkAll spare + 1
  | .agg parts => uptoBulkAll parts + 1
  | .iface _ d => uptoBulk d + 1
  | .map entries => uptoBulkEntries entries + 1
  | .held _ => 1
def uptoBulkAll {H : Type} : List (DataW H) → Nat
  | [] => 0
  | d :: r => uptoBulk d + uptoBulkAll r
def uptoBulkEntries {H : Type} : List (Lit × DataW H) → Nat
  | [] => 0
  | x :: r => uptoBulkEntry x + uptoBulkEntries r
def uptoBulkEntry {H : Type} : Lit × DataW H → Nat
  | (.string bytes, d) => bytes.length + uptoBulk d + 1
  | (_, d) => uptoBulk d + 1
 end
def uptoSmall : (H : Type) → List (DataW H) → Bool := fun _ ds => decide (uptoBulkAll ds ≤ 1048576)
def OpenSpec.upto (s : _root_.Go.ChangeSpec) : _root_.Go.OpenSpec := { _root_.Go.OpenSpec.ofChange s with cond := some uptoSmall }

/-- 'laws.FnExactLastPart', WHERE WHAT IT READS IS OF BULK AT MOST 1048576: true; the input reads as it did. -/
def fnExactLastPartUptoRow : OpenClaim := { program := "ytnadnanmgakkfaa", sum := "2687f54c06e516905fd02d2ed1f09433547d144781be161869430359ba07087c", func := "loop.example/g00496/laws.FnExactLastPart", spec := "fnExactLastPart", recurses := true, loops := true, apart := false, narrowed := true }
def FnExactLastPartUptoSaid : Prop := fnExactLastPartUptoRow.holds Try.pinned (OpenSpec.upto fnExactLastPartSpec)

/-- 'laws.FnExactMarkOf', WHERE WHAT IT READS IS OF BULK AT MOST 1048576: true; the input reads as it did. -/
def fnExactMarkOfUptoRow : OpenClaim := { program := "ytnadnanmgakkfaa", sum := "2687f54c06e516905fd02d2ed1f09433547d144781be161869430359ba07087c", func := "loop.example/g00496/laws.FnExactMarkOf", spec := "fnExactMarkOf", recurses := true, loops := true, apart := false, narrowed := true }
def FnExactMarkOfUptoSaid : Prop := fnExactMarkOfUptoRow.holds Try.pinned (OpenSpec.upto fnExactMarkOfSpec)

/-- 'laws.FnExactWinner', WHERE WHAT IT READS IS OF BULK AT MOST 1048576: true; the input reads as it did. -/
def fnExactWinnerUptoRow : OpenClaim := { program := "ytnadnanmgakkfaa", sum := "2687f54c06e516905fd02d2ed1f09433547d144781be161869430359ba07087c", func := "loop.example/g00496/laws.FnExactWinner", spec := "fnExactWinner", recurses := true, loops := true, apart := false, narrowed := true }
def FnExactWinnerUptoSaid : Prop := fnExactWinnerUptoRow.holds Try.pinned (OpenSpec.upto fnExactWinnerSpec)

/-- 'laws.FnExactThere', WHERE WHAT IT READS IS OF BULK AT MOST 1048576: true; the input reads as it did. -/
def fnExactThereUptoRow : OpenClaim := { program := "ytnadnanmgakkfaa", sum := "2687f54c06e516905fd02d2ed1f09433547d144781be161869430359ba07087c", func := "loop.example/g00496/laws.FnExactThere", spec := "fnExactThere", recurses := true, loops := true, apart := false, narrowed := true }
def FnExactThereUptoSaid : Prop := fnExactThereUptoRow.holds Try.pinned (OpenSpec.upto fnExactThereSpec)

/-- 'laws.FnExactBusy', WHERE WHAT IT READS IS OF BULK AT MOST 1048576: true; the input reads as it did. -/
def fnExactBusyUptoRow : OpenClaim := { program := "ytnadnanmgakkfaa", sum := "2687f54c06e516905fd02d2ed1f09433547d144781be161869430359ba07087c", func := "loop.example/g00496/laws.FnExactBusy", spec := "fnExactBusy", recurses := true, loops := true, apart := false, narrowed := true }
def FnExactBusyUptoSaid : Prop := fnExactBusyUptoRow.holds Try.pinned (OpenSpec.upto fnExactBusySpec)

/-- 'laws.FnExactHorizon', WHERE WHAT IT READS IS OF BULK AT MOST 1048576: true; the input reads as it did. -/
def fnExactHorizonUptoRow : OpenClaim := { program := "ytnadnanmgakkfaa", sum := "2687f54c06e516905fd02d2ed1f09433547d144781be161869430359ba07087c", func := "loop.example/g00496/laws.FnExactHorizon", spec := "fnExactHorizon", recurses := true, loops := true, apart := false, narrowed := true }
def FnExactHorizonUptoSaid : Prop := fnExactHorizonUptoRow.holds Try.pinned (OpenSpec.upto fnExactHorizonSpec)

/-- 'laws.FnExactScansAt', WHERE WHAT IT READS IS OF BULK AT MOST 1048576: true; the input reads as it did. -/
def fnExactScansAtUptoRow : OpenClaim := { program := "ytnadnanmgakkfaa", sum := "2687f54c06e516905fd02d2ed1f09433547d144781be161869430359ba07087c", func := "loop.example/g00496/laws.FnExactScansAt", spec := "fnExactScansAt", recurses := true, loops := true, apart := false, narrowed := true }
def FnExactScansAtUptoSaid : Prop := fnExactScansAtUptoRow.holds Try.pinned (OpenSpec.upto fnExactScansAtSpec)

/-- 'laws.FnExactOpenSlots', WHERE WHAT IT READS IS OF BULK AT MOST 1048576: true; the input reads as it did. -/
def fnExactOpenSlotsUptoRow : OpenClaim := { program := "ytnadnanmgakkfaa", sum := "2687f54c06e516905fd02d2ed1f09433547d144781be161869430359ba07087c", func := "loop.example/g00496/laws.FnExactOpenSlots", spec := "fnExactOpenSlots", recurses := true, loops := true, apart := false, narrowed := true }
def FnExactOpenSlotsUptoSaid : Prop := fnExactOpenSlotsUptoRow.holds Try.pinned (OpenSpec.upto fnExactOpenSlotsSpec)

/-- 'laws.FnExactNextId', WHERE WHAT IT READS IS OF BULK AT MOST 1048576: true; the input reads as it did. -/
def fnExactNextIdUptoRow : OpenClaim := { program := "ytnadnanmgakkfaa", sum := "2687f54c06e516905fd02d2ed1f09433547d144781be161869430359ba07087c", func := "loop.example/g00496/laws.FnExactNextId", spec := "fnExactNextId", recurses := true, loops := true, apart := false, narrowed := true }
def FnExactNextIdUptoSaid : Prop := fnExactNextIdUptoRow.holds Try.pinned (OpenSpec.upto fnExactNextIdSpec)

/-- 'laws.FnExactWorldNew', WHERE WHAT IT READS IS OF BULK AT MOST 1048576: true; the input reads as it did. -/
def fnExactWorldNewUptoRow : OpenClaim := { program := "ytnadnanmgakkfaa", sum := "2687f54c06e516905fd02d2ed1f09433547d144781be161869430359ba07087c", func := "loop.example/g00496/laws.FnExactWorldNew", spec := "fnExactWorldNew", recurses := true, apart := false, narrowed := true }
def FnExactWorldNewUptoSaid : Prop := fnExactWorldNewUptoRow.holds Try.pinned (OpenSpec.upto fnExactWorldNewSpec)

/-- 'laws.FnExactEndsClaimed', WHERE WHAT IT READS IS OF BULK AT MOST 1048576: true; the input reads as it did. -/
def fnExactEndsClaimedUptoRow : OpenClaim := { program := "ytnadnanmgakkfaa", sum := "2687f54c06e516905fd02d2ed1f09433547d144781be161869430359ba07087c", func := "loop.example/g00496/laws.FnExactEndsClaimed", spec := "fnExactEndsClaimed", recurses := true, loops := true, apart := false, narrowed := true }
def FnExactEndsClaimedUptoSaid : Prop := fnExactEndsClaimedUptoRow.holds Try.pinned (OpenSpec.upto fnExactEndsClaimedSpec)

end Rows
end Go.Proofs.Ytnadnanmgakkfaa
