/-
  NARROWER THAN 'FOR EVERY INPUT', by the rows' own cells (each row's printed sentence says how): FnExactOpenSlots: loops.
  DERIVED. THE GIVEN ROWS OF THIS SEAT. 9 by the template 'for every input the law returns true; each argument reads behind the call as it read before'; 0 by the template 'total and deterministic' (their statements: YtkgibccknlbiaaaTotals.lean).
  GIVEN WITH THE SEED: the statements are not yours to turn. If you find one false, say at which input.
  Laid BY PROGRAM, IN A SANDBOX (cutbox-rows.mjs): the forced cells as the released guide's own fill.sh prints them over the translation 194ca2f3b75a07af… (all of the seat's roots in one cut). By AI agents, Wed Nov 11 2026. No macro, syntax, notation, axiom, sorry.
-/
import Derived.Test.YtkgibccknlbiaaaChecked
import GoSem.Claim
import GoSem.ClaimJoined
import GoSem.ClaimMapViews
import Derived.JoinedTies
import Derived.KernelRfl
namespace Go.Proofs.Ytkgibccknlbiaaa
/- THE CELL 'sum', in the pinned program and in every row, IS THE sha256 OF THE DUMP (.gsa) THAT YtkgibccknlbiaaaProg.lean LOADS. Nothing in Lean hashes anything: it is a label: what it is worth is what the hold of that sum in a sandbox is worth. -/
noncomputable def Try.pinned : Pinned := { name := "ytkgibccknlbiaaa", sum := "194ca2f3b75a07af9d6e0fbf645f5fffec28be293ec423eb89502c5d50fe6af0", checked := Try.checked }
namespace Rows
def none {H : Type} : Left H := { results := [], args := [] }

/-- 'laws.FnDeeds': WHATEVER THE INPUT: true; the input reads as it did. -/
def fnDeedsSpec : ChangeSpec := { name := "fnDeeds", fn := fun _ => fun
  | [d] => { results := [.lit (.bool true)], args := [d] }
  | _ => none }
def fnDeedsRow : OpenClaim := { program := "ytkgibccknlbiaaa", sum := "194ca2f3b75a07af9d6e0fbf645f5fffec28be293ec423eb89502c5d50fe6af0", func := "loop.example/g00496/laws.FnDeeds", spec := "fnDeeds", unfollowed := true, recurses := true, apart := false }
def FnDeedsSaid : Prop := fnDeedsRow.holds Try.pinned (OpenSpec.ofChange fnDeedsSpec)

/-- ITS FALSE NEIGHBOUR: 'it returns false'. Refute it at one input. -/
def fnDeedsWrong : ChangeSpec := { name := "fnDeeds", fn := fun _ => fun
  | [d] => { results := [.lit (.bool false)], args := [d] }
  | _ => none }
def FnDeedsWrongFalsely : Prop := fnDeedsRow.holds Try.pinned (OpenSpec.ofChange fnDeedsWrong)

/-- 'laws.FnTasks': WHATEVER THE INPUT: true; the input reads as it did. -/
def fnTasksSpec : ChangeSpec := { name := "fnTasks", fn := fun _ => fun
  | [d] => { results := [.lit (.bool true)], args := [d] }
  | _ => none }
def fnTasksRow : OpenClaim := { program := "ytkgibccknlbiaaa", sum := "194ca2f3b75a07af9d6e0fbf645f5fffec28be293ec423eb89502c5d50fe6af0", func := "loop.example/g00496/laws.FnTasks", spec := "fnTasks", recurses := true, apart := false }
def FnTasksSaid : Prop := fnTasksRow.holds Try.pinned (OpenSpec.ofChange fnTasksSpec)

/-- ITS FALSE NEIGHBOUR: 'it returns false'. Refute it at one input. -/
def fnTasksWrong : ChangeSpec := { name := "fnTasks", fn := fun _ => fun
  | [d] => { results := [.lit (.bool false)], args := [d] }
  | _ => none }
def FnTasksWrongFalsely : Prop := fnTasksRow.holds Try.pinned (OpenSpec.ofChange fnTasksWrong)

/-- 'laws.FnDirs': WHATEVER THE INPUT: true; the input reads as it did. -/
def fnDirsSpec : ChangeSpec := { name := "fnDirs", fn := fun _ => fun
  | [d] => { results := [.lit (.bool true)], args := [d] }
  | _ => none }
def fnDirsRow : OpenClaim := { program := "ytkgibccknlbiaaa", sum := "194ca2f3b75a07af9d6e0fbf645f5fffec28be293ec423eb89502c5d50fe6af0", func := "loop.example/g00496/laws.FnDirs", spec := "fnDirs", apart := false }
def FnDirsSaid : Prop := fnDirsRow.holds Try.pinned (OpenSpec.ofChange fnDirsSpec)

/-- ITS FALSE NEIGHBOUR: 'it returns false'. Refute it at one input. -/
def fnDirsWrong : ChangeSpec := { name := "fnDirs", fn := fun _ => fun
  | [d] => { results := [.lit (.bool false)], args := [d] }
  | _ => none }
def FnDirsWrongFalsely : Prop := fnDirsRow.holds Try.pinned (OpenSpec.ofChange fnDirsWrong)

/-- 'laws.FnSwaps': WHATEVER THE INPUT: true; the input reads as it did. -/
def fnSwapsSpec : ChangeSpec := { name := "fnSwaps", fn := fun _ => fun
  | [d] => { results := [.lit (.bool true)], args := [d] }
  | _ => none }
def fnSwapsRow : OpenClaim := { program := "ytkgibccknlbiaaa", sum := "194ca2f3b75a07af9d6e0fbf645f5fffec28be293ec423eb89502c5d50fe6af0", func := "loop.example/g00496/laws.FnSwaps", spec := "fnSwaps", apart := false }
def FnSwapsSaid : Prop := fnSwapsRow.holds Try.pinned (OpenSpec.ofChange fnSwapsSpec)

/-- ITS FALSE NEIGHBOUR: 'it returns false'. Refute it at one input. -/
def fnSwapsWrong : ChangeSpec := { name := "fnSwaps", fn := fun _ => fun
  | [d] => { results := [.lit (.bool false)], args := [d] }
  | _ => none }
def FnSwapsWrongFalsely : Prop := fnSwapsRow.holds Try.pinned (OpenSpec.ofChange fnSwapsWrong)

/-- 'laws.FnChunks': WHATEVER THE INPUT: true; the input reads as it did. -/
def fnChunksSpec : ChangeSpec := { name := "fnChunks", fn := fun _ => fun
  | [d] => { results := [.lit (.bool true)], args := [d] }
  | _ => none }
def fnChunksRow : OpenClaim := { program := "ytkgibccknlbiaaa", sum := "194ca2f3b75a07af9d6e0fbf645f5fffec28be293ec423eb89502c5d50fe6af0", func := "loop.example/g00496/laws.FnChunks", spec := "fnChunks", apart := false }
def FnChunksSaid : Prop := fnChunksRow.holds Try.pinned (OpenSpec.ofChange fnChunksSpec)

/-- ITS FALSE NEIGHBOUR: 'it returns false'. Refute it at one input. -/
def fnChunksWrong : ChangeSpec := { name := "fnChunks", fn := fun _ => fun
  | [d] => { results := [.lit (.bool false)], args := [d] }
  | _ => none }
def FnChunksWrongFalsely : Prop := fnChunksRow.holds Try.pinned (OpenSpec.ofChange fnChunksWrong)

/-- 'laws.FnExactTake': WHATEVER THE INPUT: true; the input reads as it did. -/
def fnExactTakeSpec : ChangeSpec := { name := "fnExactTake", fn := fun _ => fun
  | [d1, d2, d3] => { results := [.lit (.bool true)], args := [d1, d2, d3] }
  | _ => none }
def fnExactTakeRow : OpenClaim := { program := "ytkgibccknlbiaaa", sum := "194ca2f3b75a07af9d6e0fbf645f5fffec28be293ec423eb89502c5d50fe6af0", func := "loop.example/g00496/laws.FnExactTake", spec := "fnExactTake", apart := false }
def FnExactTakeSaid : Prop := fnExactTakeRow.holds Try.pinned (OpenSpec.ofChange fnExactTakeSpec)

/-- ITS FALSE NEIGHBOUR: 'it returns false'. Refute it at one input. -/
def fnExactTakeWrong : ChangeSpec := { name := "fnExactTake", fn := fun _ => fun
  | [d1, d2, d3] => { results := [.lit (.bool false)], args := [d1, d2, d3] }
  | _ => none }
def FnExactTakeWrongFalsely : Prop := fnExactTakeRow.holds Try.pinned (OpenSpec.ofChange fnExactTakeWrong)

/-- 'laws.FnWholes': WHATEVER THE INPUT: true; the input reads as it did. -/
def fnWholesSpec : ChangeSpec := { name := "fnWholes", fn := fun _ => fun
  | [d] => { results := [.lit (.bool true)], args := [d] }
  | _ => none }
def fnWholesRow : OpenClaim := { program := "ytkgibccknlbiaaa", sum := "194ca2f3b75a07af9d6e0fbf645f5fffec28be293ec423eb89502c5d50fe6af0", func := "loop.example/g00496/laws.FnWholes", spec := "fnWholes", apart := false }
def FnWholesSaid : Prop := fnWholesRow.holds Try.pinned (OpenSpec.ofChange fnWholesSpec)

/-- ITS FALSE NEIGHBOUR: 'it returns false'. Refute it at one input. -/
def fnWholesWrong : ChangeSpec := { name := "fnWholes", fn := fun _ => fun
  | [d] => { results := [.lit (.bool false)], args := [d] }
  | _ => none }
def FnWholesWrongFalsely : Prop := fnWholesRow.holds Try.pinned (OpenSpec.ofChange fnWholesWrong)

/-- 'laws.FnExactOpenSlots': WHATEVER THE INPUT: true; the input reads as it did. -/
def fnExactOpenSlotsSpec : ChangeSpec := { name := "fnExactOpenSlots", fn := fun _ => fun
  | [d] => { results := [.lit (.bool true)], args := [d] }
  | _ => none }
def fnExactOpenSlotsRow : OpenClaim := { program := "ytkgibccknlbiaaa", sum := "194ca2f3b75a07af9d6e0fbf645f5fffec28be293ec423eb89502c5d50fe6af0", func := "loop.example/g00496/laws.FnExactOpenSlots", spec := "fnExactOpenSlots", recurses := true, loops := true, apart := false }
def FnExactOpenSlotsSaid : Prop := fnExactOpenSlotsRow.holds Try.pinned (OpenSpec.ofChange fnExactOpenSlotsSpec)

/-- ITS FALSE NEIGHBOUR: 'it returns false'. Refute it at one input. -/
def fnExactOpenSlotsWrong : ChangeSpec := { name := "fnExactOpenSlots", fn := fun _ => fun
  | [d] => { results := [.lit (.bool false)], args := [d] }
  | _ => none }
def FnExactOpenSlotsWrongFalsely : Prop := fnExactOpenSlotsRow.holds Try.pinned (OpenSpec.ofChange fnExactOpenSlotsWrong)

/-- 'laws.FnEpochs': WHATEVER THE INPUT: true; the input reads as it did. -/
def fnEpochsSpec : ChangeSpec := { name := "fnEpochs", fn := fun _ => fun
  | [d] => { results := [.lit (.bool true)], args := [d] }
  | _ => none }
def fnEpochsRow : OpenClaim := { program := "ytkgibccknlbiaaa", sum := "194ca2f3b75a07af9d6e0fbf645f5fffec28be293ec423eb89502c5d50fe6af0", func := "loop.example/g00496/laws.FnEpochs", spec := "fnEpochs", apart := false }
def FnEpochsSaid : Prop := fnEpochsRow.holds Try.pinned (OpenSpec.ofChange fnEpochsSpec)

/-- ITS FALSE NEIGHBOUR: 'it returns false'. Refute it at one input. -/
def fnEpochsWrong : ChangeSpec := { name := "fnEpochs", fn := fun _ => fun
  | [d] => { results := [.lit (.bool false)], args := [d] }
  | _ => none }
def FnEpochsWrongFalsely : Prop := fnEpochsRow.holds Try.pinned (OpenSpec.ofChange fnEpochsWrong)

/- THE SECOND FORM. 'bulk': how many values and letters a reading holds, each counted each time it is reached (what is shared counts as often as it is met; a slice's spare places count too). A statement '..UptoSaid' is the law's where the arguments, and the package variables that the reading takes, are together of bulk at most 1048576: NARROWER than '..Said'. Prove '..Said' where nothing that the law and all that it calls make is longer than what came in: it says more and counts as full. Else prove '..UptoSaid'. A law counts once. -/
mutual
def uptoBulk {H : Type} : DataW H → Nat
  | .lit (.string bytes) => bytes.length + 1
  | .lit _ => 1
  | .nil => 1
  | .ptr d => uptoBulk d + 1
  | .slice elems spare => uptoBulkAll elems + uptoBulkAll spare + 1
  | .agg parts => uptoBulkAll parts + 1
  | .iface _ d => uptoBulk d + 1
  | .map entries => uptoBulkEntries entries + 1
  | .held _ => 1
def uptoBulkAll {H : Type} : List (DataW H) → Nat
  | [] => 0
  | d :: r => uptoBulk d + uptoBulkAll r
def uptoBulkEntries {H : Type} : List (Lit × DataW H) → Nat
  | [] => 0
  | x :: r => uptoBulkEntry x + uptoBulkEntries r
def uptoBulkEntry {H : Type} : Lit × DataW H → Nat
  | (.string bytes, d) => bytes.length + uptoBulk d + 1
  | (_, d) => uptoBulk d + 1
 end
def uptoSmall : (H : Type) → List (DataW H) → Bool := fun _ ds => decide (uptoBulkAll ds ≤ 1048576)
def OpenSpec.upto (s : _root_.Go.ChangeSpec) : _root_.Go.OpenSpec := { _root_.Go.OpenSpec.ofChange s with cond := some uptoSmall }

/-- 'laws.FnDeeds', WHERE WHAT IT READS IS OF BULK AT MOST 1048576: true; the input reads as it did. -/
def fnDeedsUptoRow : OpenClaim := { program := "ytkgibccknlbiaaa", sum := "194ca2f3b75a07af9d6e0fbf645f5fffec28be293ec423eb89502c5d50fe6af0", func := "loop.example/g00496/laws.FnDeeds", spec := "fnDeeds", unfollowed := true, recurses := true, apart := false, narrowed := true }
def FnDeedsUptoSaid : Prop := fnDeedsUptoRow.holds Try.pinned (OpenSpec.upto fnDeedsSpec)

/-- 'laws.FnTasks', WHERE WHAT IT READS IS OF BULK AT MOST 1048576: true; the input reads as it did. -/
def fnTasksUptoRow : OpenClaim := { program := "ytkgibccknlbiaaa", sum := "194ca2f3b75a07af9d6e0fbf645f5fffec28be293ec423eb89502c5d50fe6af0", func := "loop.example/g00496/laws.FnTasks", spec := "fnTasks", recurses := true, apart := false, narrowed := true }
def FnTasksUptoSaid : Prop := fnTasksUptoRow.holds Try.pinned (OpenSpec.upto fnTasksSpec)

/-- 'laws.FnDirs', WHERE WHAT IT READS IS OF BULK AT MOST 1048576: true; the input reads as it did. -/
def fnDirsUptoRow : OpenClaim := { program := "ytkgibccknlbiaaa", sum := "194ca2f3b75a07af9d6e0fbf645f5fffec28be293ec423eb89502c5d50fe6af0", func := "loop.example/g00496/laws.FnDirs", spec := "fnDirs", apart := false, narrowed := true }
def FnDirsUptoSaid : Prop := fnDirsUptoRow.holds Try.pinned (OpenSpec.upto fnDirsSpec)

/-- 'laws.FnSwaps', WHERE WHAT IT READS IS OF BULK AT MOST 1048576: true; the input reads as it did. -/
def fnSwapsUptoRow : OpenClaim := { program := "ytkgibccknlbiaaa", sum := "194ca2f3b75a07af9d6e0fbf645f5fffec28be293ec423eb89502c5d50fe6af0", func := "loop.example/g00496/laws.FnSwaps", spec := "fnSwaps", apart := false, narrowed := true }
def FnSwapsUptoSaid : Prop := fnSwapsUptoRow.holds Try.pinned (OpenSpec.upto fnSwapsSpec)

/-- 'laws.FnChunks', WHERE WHAT IT READS IS OF BULK AT MOST 1048576: true; the input reads as it did. -/
def fnChunksUptoRow : OpenClaim := { program := "ytkgibccknlbiaaa", sum := "194ca2f3b75a07af9d6e0fbf645f5fffec28be293ec423eb89502c5d50fe6af0", func := "loop.example/g00496/laws.FnChunks", spec := "fnChunks", apart := false, narrowed := true }
def FnChunksUptoSaid : Prop := fnChunksUptoRow.holds Try.pinned (OpenSpec.upto fnChunksSpec)

/-- 'laws.FnExactTake', WHERE WHAT IT READS IS OF BULK AT MOST 1048576: true; the input reads as it did. -/
def fnExactTakeUptoRow : OpenClaim := { program := "ytkgibccknlbiaaa", sum := "194ca2f3b75a07af9d6e0fbf645f5fffec28be293ec423eb89502c5d50fe6af0", func := "loop.example/g00496/laws.FnExactTake", spec := "fnExactTake", apart := false, narrowed := true }
def FnExactTakeUptoSaid : Prop := fnExactTakeUptoRow.holds Try.pinned (OpenSpec.upto fnExactTakeSpec)

/-- 'laws.FnWholes', WHERE WHAT IT READS IS OF BULK AT MOST 1048576: true; the input reads as it did. -/
def fnWholesUptoRow : OpenClaim := { program := "ytkgibccknlbiaaa", sum := "194ca2f3b75a07af9d6e0fbf645f5fffec28be293ec423eb89502c5d50fe6af0", func := "loop.example/g00496/laws.FnWholes", spec := "fnWholes", apart := false, narrowed := true }
def FnWholesUptoSaid : Prop := fnWholesUptoRow.holds Try.pinned (OpenSpec.upto fnWholesSpec)

/-- 'laws.FnExactOpenSlots', WHERE WHAT IT READS IS OF BULK AT MOST 1048576: true; the input reads as it did. -/
def fnExactOpenSlotsUptoRow : OpenClaim := { program := "ytkgibccknlbiaaa", sum := "194ca2f3b75a07af9d6e0fbf645f5fffec28be293ec423eb89502c5d50fe6af0", func := "loop.example/g00496/laws.FnExactOpenSlots", spec := "fnExactOpenSlots", recurses := true, loops := true, apart := false, narrowed := true }
def FnExactOpenSlotsUptoSaid : Prop := fnExactOpenSlotsUptoRow.holds Try.pinned (OpenSpec.upto fnExactOpenSlotsSpec)

/-- 'laws.FnEpochs', WHERE WHAT IT READS IS OF BULK AT MOST 1048576: true; the input reads as it did. -/
def fnEpochsUptoRow : OpenClaim := { program := "ytkgibccknlbiaaa", sum := "194ca2f3b75a07af9d6e0fbf645f5fffec28be293ec423eb89502c5d50fe6af0", func := "loop.example/g00496/laws.FnEpochs", spec := "fnEpochs", apart := false, narrowed := true }
def FnEpochsUptoSaid : Prop := fnEpochsUptoRow.holds Try.pinned (OpenSpec.upto fnEpochsSpec)

end Rows
end Go.Proofs.Ytkgibccknlbiaaa
