/-
  No cell of these rows narrows 'for every input' (looked for: loops, veiled, ifaces, maps, wideKeys, modest, calm, conditions, laid).
  DERIVED. THE GIVEN ROWS OF THIS SEAT. 11 by the template 'for every input the law returns true; each argument reads behind the call as it read before'; 0 by the template 'total and deterministic' (their statements: YtloninhfmfggaaaTotals.lean).
  GIVEN WITH THE SEED: the statements are not yours to turn. If you find one false, say at which input.
  Laid BY PROGRAM, IN A SANDBOX (cutbox-rows.mjs): the forced cells as the released guide's own fill.sh prints them over the translation c8fbed7073e3ff7e… (all of the seat's roots in one cut). By AI agents, Wed Nov 11 2026. No macro, syntax, notation, axiom, sorry.
-/
import Derived.Test.YtloninhfmfggaaaChecked
import GoSem.Claim
import GoSem.ClaimJoined
import GoSem.ClaimMapViews
import Derived.JoinedTies
import Derived.KernelRfl
namespace Go.Proofs.Ytloninhfmfggaaa
/- THE CELL 'sum', in the pinned program and in every row, IS THE sha256 OF THE DUMP (.gsa) THAT YtloninhfmfggaaaProg.lean LOADS. Nothing in Lean hashes anything: it is a label: what it is worth is what the hold of that sum in a sandbox is worth. -/
noncomputable def Try.pinned : Pinned := { name := "ytloninhfmfggaaa", sum := "c8fbed7073e3ff7e13d8df5dbb4eb892f4c524c241120cc7b71cde18584b0429", checked := Try.checked }
namespace Rows
def none {H : Type} : Left H := { results := [], args := [] }

/-- 'laws.FnExactPoolNew': WHATEVER THE INPUT: true; the input reads as it did. -/
def fnExactPoolNewSpec : ChangeSpec := { name := "fnExactPoolNew", fn := fun _ => fun
  | [d] => { results := [.lit (.bool true)], args := [d] }
  | _ => none }
def fnExactPoolNewRow : OpenClaim := { program := "ytloninhfmfggaaa", sum := "c8fbed7073e3ff7e13d8df5dbb4eb892f4c524c241120cc7b71cde18584b0429", func := "loop.example/g00496/laws.FnExactPoolNew", spec := "fnExactPoolNew", apart := false }
def FnExactPoolNewSaid : Prop := fnExactPoolNewRow.holds Try.pinned (OpenSpec.ofChange fnExactPoolNewSpec)

/-- ITS FALSE NEIGHBOUR: 'it returns false'. Refute it at one input. -/
def fnExactPoolNewWrong : ChangeSpec := { name := "fnExactPoolNew", fn := fun _ => fun
  | [d] => { results := [.lit (.bool false)], args := [d] }
  | _ => none }
def FnExactPoolNewWrongFalsely : Prop := fnExactPoolNewRow.holds Try.pinned (OpenSpec.ofChange fnExactPoolNewWrong)

/-- 'laws.FnExactReserve': WHATEVER THE INPUT: true; the input reads as it did. -/
def fnExactReserveSpec : ChangeSpec := { name := "fnExactReserve", fn := fun _ => fun
  | [d] => { results := [.lit (.bool true)], args := [d] }
  | _ => none }
def fnExactReserveRow : OpenClaim := { program := "ytloninhfmfggaaa", sum := "c8fbed7073e3ff7e13d8df5dbb4eb892f4c524c241120cc7b71cde18584b0429", func := "loop.example/g00496/laws.FnExactReserve", spec := "fnExactReserve", apart := false }
def FnExactReserveSaid : Prop := fnExactReserveRow.holds Try.pinned (OpenSpec.ofChange fnExactReserveSpec)

/-- ITS FALSE NEIGHBOUR: 'it returns false'. Refute it at one input. -/
def fnExactReserveWrong : ChangeSpec := { name := "fnExactReserve", fn := fun _ => fun
  | [d] => { results := [.lit (.bool false)], args := [d] }
  | _ => none }
def FnExactReserveWrongFalsely : Prop := fnExactReserveRow.holds Try.pinned (OpenSpec.ofChange fnExactReserveWrong)

/-- 'laws.FnExactFreeOf': WHATEVER THE INPUT: true; the input reads as it did. -/
def fnExactFreeOfSpec : ChangeSpec := { name := "fnExactFreeOf", fn := fun _ => fun
  | [d] => { results := [.lit (.bool true)], args := [d] }
  | _ => none }
def fnExactFreeOfRow : OpenClaim := { program := "ytloninhfmfggaaa", sum := "c8fbed7073e3ff7e13d8df5dbb4eb892f4c524c241120cc7b71cde18584b0429", func := "loop.example/g00496/laws.FnExactFreeOf", spec := "fnExactFreeOf", apart := false }
def FnExactFreeOfSaid : Prop := fnExactFreeOfRow.holds Try.pinned (OpenSpec.ofChange fnExactFreeOfSpec)

/-- ITS FALSE NEIGHBOUR: 'it returns false'. Refute it at one input. -/
def fnExactFreeOfWrong : ChangeSpec := { name := "fnExactFreeOf", fn := fun _ => fun
  | [d] => { results := [.lit (.bool false)], args := [d] }
  | _ => none }
def FnExactFreeOfWrongFalsely : Prop := fnExactFreeOfRow.holds Try.pinned (OpenSpec.ofChange fnExactFreeOfWrong)

/-- 'laws.FnExactRowsOf': WHATEVER THE INPUT: true; the input reads as it did. -/
def fnExactRowsOfSpec : ChangeSpec := { name := "fnExactRowsOf", fn := fun _ => fun
  | [d1, d2, d3] => { results := [.lit (.bool true)], args := [d1, d2, d3] }
  | _ => none }
def fnExactRowsOfRow : OpenClaim := { program := "ytloninhfmfggaaa", sum := "c8fbed7073e3ff7e13d8df5dbb4eb892f4c524c241120cc7b71cde18584b0429", func := "loop.example/g00496/laws.FnExactRowsOf", spec := "fnExactRowsOf", apart := false }
def FnExactRowsOfSaid : Prop := fnExactRowsOfRow.holds Try.pinned (OpenSpec.ofChange fnExactRowsOfSpec)

/-- ITS FALSE NEIGHBOUR: 'it returns false'. Refute it at one input. -/
def fnExactRowsOfWrong : ChangeSpec := { name := "fnExactRowsOf", fn := fun _ => fun
  | [d1, d2, d3] => { results := [.lit (.bool false)], args := [d1, d2, d3] }
  | _ => none }
def FnExactRowsOfWrongFalsely : Prop := fnExactRowsOfRow.holds Try.pinned (OpenSpec.ofChange fnExactRowsOfWrong)

/-- 'laws.FnExactSameBuf': WHATEVER THE INPUT: true; the input reads as it did. -/
def fnExactSameBufSpec : ChangeSpec := { name := "fnExactSameBuf", fn := fun _ => fun
  | [d1, d2] => { results := [.lit (.bool true)], args := [d1, d2] }
  | _ => none }
def fnExactSameBufRow : OpenClaim := { program := "ytloninhfmfggaaa", sum := "c8fbed7073e3ff7e13d8df5dbb4eb892f4c524c241120cc7b71cde18584b0429", func := "loop.example/g00496/laws.FnExactSameBuf", spec := "fnExactSameBuf", apart := false }
def FnExactSameBufSaid : Prop := fnExactSameBufRow.holds Try.pinned (OpenSpec.ofChange fnExactSameBufSpec)

/-- ITS FALSE NEIGHBOUR: 'it returns false'. Refute it at one input. -/
def fnExactSameBufWrong : ChangeSpec := { name := "fnExactSameBuf", fn := fun _ => fun
  | [d1, d2] => { results := [.lit (.bool false)], args := [d1, d2] }
  | _ => none }
def FnExactSameBufWrongFalsely : Prop := fnExactSameBufRow.holds Try.pinned (OpenSpec.ofChange fnExactSameBufWrong)

/-- 'laws.FnExactStampSlot': WHATEVER THE INPUT: true; the input reads as it did. -/
def fnExactStampSlotSpec : ChangeSpec := { name := "fnExactStampSlot", fn := fun _ => fun
  | [d1, d2, d3] => { results := [.lit (.bool true)], args := [d1, d2, d3] }
  | _ => none }
def fnExactStampSlotRow : OpenClaim := { program := "ytloninhfmfggaaa", sum := "c8fbed7073e3ff7e13d8df5dbb4eb892f4c524c241120cc7b71cde18584b0429", func := "loop.example/g00496/laws.FnExactStampSlot", spec := "fnExactStampSlot", apart := false }
def FnExactStampSlotSaid : Prop := fnExactStampSlotRow.holds Try.pinned (OpenSpec.ofChange fnExactStampSlotSpec)

/-- ITS FALSE NEIGHBOUR: 'it returns false'. Refute it at one input. -/
def fnExactStampSlotWrong : ChangeSpec := { name := "fnExactStampSlot", fn := fun _ => fun
  | [d1, d2, d3] => { results := [.lit (.bool false)], args := [d1, d2, d3] }
  | _ => none }
def FnExactStampSlotWrongFalsely : Prop := fnExactStampSlotRow.holds Try.pinned (OpenSpec.ofChange fnExactStampSlotWrong)

/-- 'laws.FnExactSamePool': WHATEVER THE INPUT: true; the input reads as it did. -/
def fnExactSamePoolSpec : ChangeSpec := { name := "fnExactSamePool", fn := fun _ => fun
  | [d1, d2] => { results := [.lit (.bool true)], args := [d1, d2] }
  | _ => none }
def fnExactSamePoolRow : OpenClaim := { program := "ytloninhfmfggaaa", sum := "c8fbed7073e3ff7e13d8df5dbb4eb892f4c524c241120cc7b71cde18584b0429", func := "loop.example/g00496/laws.FnExactSamePool", spec := "fnExactSamePool", apart := false }
def FnExactSamePoolSaid : Prop := fnExactSamePoolRow.holds Try.pinned (OpenSpec.ofChange fnExactSamePoolSpec)

/-- ITS FALSE NEIGHBOUR: 'it returns false'. Refute it at one input. -/
def fnExactSamePoolWrong : ChangeSpec := { name := "fnExactSamePool", fn := fun _ => fun
  | [d1, d2] => { results := [.lit (.bool false)], args := [d1, d2] }
  | _ => none }
def FnExactSamePoolWrongFalsely : Prop := fnExactSamePoolRow.holds Try.pinned (OpenSpec.ofChange fnExactSamePoolWrong)

/-- 'laws.FnExactGive': WHATEVER THE INPUT: true; the input reads as it did. -/
def fnExactGiveSpec : ChangeSpec := { name := "fnExactGive", fn := fun _ => fun
  | [d1, d2] => { results := [.lit (.bool true)], args := [d1, d2] }
  | _ => none }
def fnExactGiveRow : OpenClaim := { program := "ytloninhfmfggaaa", sum := "c8fbed7073e3ff7e13d8df5dbb4eb892f4c524c241120cc7b71cde18584b0429", func := "loop.example/g00496/laws.FnExactGive", spec := "fnExactGive", apart := false }
def FnExactGiveSaid : Prop := fnExactGiveRow.holds Try.pinned (OpenSpec.ofChange fnExactGiveSpec)

/-- ITS FALSE NEIGHBOUR: 'it returns false'. Refute it at one input. -/
def fnExactGiveWrong : ChangeSpec := { name := "fnExactGive", fn := fun _ => fun
  | [d1, d2] => { results := [.lit (.bool false)], args := [d1, d2] }
  | _ => none }
def FnExactGiveWrongFalsely : Prop := fnExactGiveRow.holds Try.pinned (OpenSpec.ofChange fnExactGiveWrong)

/-- 'laws.FnExactTake': WHATEVER THE INPUT: true; the input reads as it did. -/
def fnExactTakeSpec : ChangeSpec := { name := "fnExactTake", fn := fun _ => fun
  | [d1, d2, d3] => { results := [.lit (.bool true)], args := [d1, d2, d3] }
  | _ => none }
def fnExactTakeRow : OpenClaim := { program := "ytloninhfmfggaaa", sum := "c8fbed7073e3ff7e13d8df5dbb4eb892f4c524c241120cc7b71cde18584b0429", func := "loop.example/g00496/laws.FnExactTake", spec := "fnExactTake", apart := false }
def FnExactTakeSaid : Prop := fnExactTakeRow.holds Try.pinned (OpenSpec.ofChange fnExactTakeSpec)

/-- ITS FALSE NEIGHBOUR: 'it returns false'. Refute it at one input. -/
def fnExactTakeWrong : ChangeSpec := { name := "fnExactTake", fn := fun _ => fun
  | [d1, d2, d3] => { results := [.lit (.bool false)], args := [d1, d2, d3] }
  | _ => none }
def FnExactTakeWrongFalsely : Prop := fnExactTakeRow.holds Try.pinned (OpenSpec.ofChange fnExactTakeWrong)

/-- 'laws.FnChunks': WHATEVER THE INPUT: true; the input reads as it did. -/
def fnChunksSpec : ChangeSpec := { name := "fnChunks", fn := fun _ => fun
  | [d] => { results := [.lit (.bool true)], args := [d] }
  | _ => none }
def fnChunksRow : OpenClaim := { program := "ytloninhfmfggaaa", sum := "c8fbed7073e3ff7e13d8df5dbb4eb892f4c524c241120cc7b71cde18584b0429", func := "loop.example/g00496/laws.FnChunks", spec := "fnChunks", apart := false }
def FnChunksSaid : Prop := fnChunksRow.holds Try.pinned (OpenSpec.ofChange fnChunksSpec)

/-- ITS FALSE NEIGHBOUR: 'it returns false'. Refute it at one input. -/
def fnChunksWrong : ChangeSpec := { name := "fnChunks", fn := fun _ => fun
  | [d] => { results := [.lit (.bool false)], args := [d] }
  | _ => none }
def FnChunksWrongFalsely : Prop := fnChunksRow.holds Try.pinned (OpenSpec.ofChange fnChunksWrong)

/-- 'laws.FnWholes': WHATEVER THE INPUT: true; the input reads as it did. -/
def fnWholesSpec : ChangeSpec := { name := "fnWholes", fn := fun _ => fun
  | [d] => { results := [.lit (.bool true)], args := [d] }
  | _ => none }
def fnWholesRow : OpenClaim := { program := "ytloninhfmfggaaa", sum := "c8fbed7073e3ff7e13d8df5dbb4eb892f4c524c241120cc7b71cde18584b0429", func := "loop.example/g00496/laws.FnWholes", spec := "fnWholes", apart := false }
def FnWholesSaid : Prop := fnWholesRow.holds Try.pinned (OpenSpec.ofChange fnWholesSpec)

/-- ITS FALSE NEIGHBOUR: 'it returns false'. Refute it at one input. -/
def fnWholesWrong : ChangeSpec := { name := "fnWholes", fn := fun _ => fun
  | [d] => { results := [.lit (.bool false)], args := [d] }
  | _ => none }
def FnWholesWrongFalsely : Prop := fnWholesRow.holds Try.pinned (OpenSpec.ofChange fnWholesWrong)

/- THE SECOND FORM. 'bulk': how many values and letters a reading holds, each counted each time it is reached (what is shared counts as often as it is met; a slice's spare places count too). A statement '..UptoSaid' is the law's where the arguments, and the package variables that the reading takes, are together of bulk at most 1048576: NARROWER than '..Said'. Prove '..Said' where nothing that the law and all that it calls make is longer than what came in: it says more and counts as full. Else prove '..UptoSaid'. A law counts once. -/
mutual
def uptoBulk {H : Type} : DataW H → Nat
  | .lit (.string bytes) => bytes.length + 1
  | .lit _ => 1
  | .nil => 1
  | .ptr d => uptoBulk d + 1
  | .slice elems spare => uptoBulkAll elems + uptoBulkAll spare + 1
  | .agg parts => uptoBulkAll parts + 1
  | .iface _ d => uptoBulk d + 1
  | .map entries => uptoBulkEntries entries + 1
  | .held _ => 1
def uptoBulkAll {H : Type} : List (DataW H) → Nat
  | [] => 0
  | d :: r => uptoBulk d + uptoBulkAll r
def uptoBulkEntries {H : Type} : List (Lit × DataW H) → Nat
  | [] => 0
  | x :: r => uptoBulkEntry x + uptoBulkEntries r
def uptoBulkEntry {H : Type} : Lit × DataW H → Nat
  | (.string bytes, d) => bytes.length + uptoBulk d + 1
  | (_, d) => uptoBulk d + 1
 end
def uptoSmall : (H : Type) → List (DataW H) → Bool := fun _ ds => decide (uptoBulkAll ds ≤ 1048576)
def OpenSpec.upto (s : _root_.Go.ChangeSpec) : _root_.Go.OpenSpec := { _root_.Go.OpenSpec.ofChange s with cond := some uptoSmall }

/-- 'laws.FnExactPoolNew', WHERE WHAT IT READS IS OF BULK AT MOST 1048576: true; the input reads as it did. -/
def fnExactPoolNewUptoRow : OpenClaim := { program := "ytloninhfmfggaaa", sum := "c8fbed7073e3ff7e13d8df5dbb4eb892f4c524c241120cc7b71cde18584b0429", func := "loop.example/g00496/laws.FnExactPoolNew", spec := "fnExactPoolNew", apart := false, narrowed := true }
def FnExactPoolNewUptoSaid : Prop := fnExactPoolNewUptoRow.holds Try.pinned (OpenSpec.upto fnExactPoolNewSpec)

/-- 'laws.FnExactReserve', WHERE WHAT IT READS IS OF BULK AT MOST 1048576: true; the input reads as it did. -/
def fnExactReserveUptoRow : OpenClaim := { program := "ytloninhfmfggaaa", sum := "c8fbed7073e3ff7e13d8df5dbb4eb892f4c524c241120cc7b71cde18584b0429", func := "loop.example/g00496/laws.FnExactReserve", spec := "fnExactReserve", apart := false, narrowed := true }
def FnExactReserveUptoSaid : Prop := fnExactReserveUptoRow.holds Try.pinned (OpenSpec.upto fnExactReserveSpec)

/-- 'laws.FnExactFreeOf', WHERE WHAT IT READS IS OF BULK AT MOST 1048576: true; the input reads as it did. -/
def fnExactFreeOfUptoRow : OpenClaim := { program := "ytloninhfmfggaaa", sum := "c8fbed7073e3ff7e13d8df5dbb4eb892f4c524c241120cc7b71cde18584b0429", func := "loop.example/g00496/laws.FnExactFreeOf", spec := "fnExactFreeOf", apart := false, narrowed := true }
def FnExactFreeOfUptoSaid : Prop := fnExactFreeOfUptoRow.holds Try.pinned (OpenSpec.upto fnExactFreeOfSpec)

/-- 'laws.FnExactRowsOf', WHERE WHAT IT READS IS OF BULK AT MOST 1048576: true; the input reads as it did. -/
def fnExactRowsOfUptoRow : OpenClaim := { program := "ytloninhfmfggaaa", sum := "c8fbed7073e3ff7e13d8df5dbb4eb892f4c524c241120cc7b71cde18584b0429", func := "loop.example/g00496/laws.FnExactRowsOf", spec := "fnExactRowsOf", apart := false, narrowed := true }
def FnExactRowsOfUptoSaid : Prop := fnExactRowsOfUptoRow.holds Try.pinned (OpenSpec.upto fnExactRowsOfSpec)

/-- 'laws.FnExactSameBuf', WHERE WHAT IT READS IS OF BULK AT MOST 1048576: true; the input reads as it did. -/
def fnExactSameBufUptoRow : OpenClaim := { program := "ytloninhfmfggaaa", sum := "c8fbed7073e3ff7e13d8df5dbb4eb892f4c524c241120cc7b71cde18584b0429", func := "loop.example/g00496/laws.FnExactSameBuf", spec := "fnExactSameBuf", apart := false, narrowed := true }
def FnExactSameBufUptoSaid : Prop := fnExactSameBufUptoRow.holds Try.pinned (OpenSpec.upto fnExactSameBufSpec)

/-- 'laws.FnExactStampSlot', WHERE WHAT IT READS IS OF BULK AT MOST 1048576: true; the input reads as it did. -/
def fnExactStampSlotUptoRow : OpenClaim := { program := "ytloninhfmfggaaa", sum := "c8fbed7073e3ff7e13d8df5dbb4eb892f4c524c241120cc7b71cde18584b0429", func := "loop.example/g00496/laws.FnExactStampSlot", spec := "fnExactStampSlot", apart := false, narrowed := true }
def FnExactStampSlotUptoSaid : Prop := fnExactStampSlotUptoRow.holds Try.pinned (OpenSpec.upto fnExactStampSlotSpec)

/-- 'laws.FnExactSamePool', WHERE WHAT IT READS IS OF BULK AT MOST 1048576: true; the input reads as it did. -/
def fnExactSamePoolUptoRow : OpenClaim := { program := "ytloninhfmfggaaa", sum := "c8fbed7073e3ff7e13d8df5dbb4eb892f4c524c241120cc7b71cde18584b0429", func := "loop.example/g00496/laws.FnExactSamePool", spec := "fnExactSamePool", apart := false, narrowed := true }
def FnExactSamePoolUptoSaid : Prop := fnExactSamePoolUptoRow.holds Try.pinned (OpenSpec.upto fnExactSamePoolSpec)

/-- 'laws.FnExactGive', WHERE WHAT IT READS IS OF BULK AT MOST 1048576: true; the input reads as it did. -/
def fnExactGiveUptoRow : OpenClaim := { program := "ytloninhfmfggaaa", sum := "c8fbed7073e3ff7e13d8df5dbb4eb892f4c524c241120cc7b71cde18584b0429", func := "loop.example/g00496/laws.FnExactGive", spec := "fnExactGive", apart := false, narrowed := true }
def FnExactGiveUptoSaid : Prop := fnExactGiveUptoRow.holds Try.pinned (OpenSpec.upto fnExactGiveSpec)

/-- 'laws.FnExactTake', WHERE WHAT IT READS IS OF BULK AT MOST 1048576: true; the input reads as it did. -/
def fnExactTakeUptoRow : OpenClaim := { program := "ytloninhfmfggaaa", sum := "c8fbed7073e3ff7e13d8df5dbb4eb892f4c524c241120cc7b71cde18584b0429", func := "loop.example/g00496/laws.FnExactTake", spec := "fnExactTake", apart := false, narrowed := true }
def FnExactTakeUptoSaid : Prop := fnExactTakeUptoRow.holds Try.pinned (OpenSpec.upto fnExactTakeSpec)

/-- 'laws.FnChunks', WHERE WHAT IT READS IS OF BULK AT MOST 1048576: true; the input reads as it did. -/
def fnChunksUptoRow : OpenClaim := { program := "ytloninhfmfggaaa", sum := "c8fbed7073e3ff7e13d8df5dbb4eb892f4c524c241120cc7b71cde18584b0429", func := "loop.example/g00496/laws.FnChunks", spec := "fnChunks", apart := false, narrowed := true }
def FnChunksUptoSaid : Prop := fnChunksUptoRow.holds Try.pinned (OpenSpec.upto fnChunksSpec)

/-- 'laws.FnWholes', WHERE WHAT IT READS IS OF BULK AT MOST 1048576: true; the input reads as it did. -/
def fnWholesUptoRow : OpenClaim := { program := "ytloninhfmfggaaa", sum := "c8fbed7073e3ff7e13d8df5dbb4eb892f4c524c241120cc7b71cde18584b0429", func := "loop.example/g00496/laws.FnWholes", spec := "fnWholes", apart := false, narrowed := true }
def FnWholesUptoSaid : Prop := fnWholesUptoRow.holds Try.pinned (OpenSpec.upto fnWholesSpec)

end Rows
end Go.Proofs.Ytloninhfmfggaaa
