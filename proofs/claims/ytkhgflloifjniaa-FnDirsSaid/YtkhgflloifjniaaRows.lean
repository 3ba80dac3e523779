/-
  No cell of these rows narrows 'for every input' (looked for: loops, veiled, ifaces, maps, wideKeys, modest, calm, conditions, laid).
  DERIVED. THE GIVEN ROWS OF THIS SEAT. 9 by the template 'for every input the law returns true; each argument reads behind the call as it read before'; 0 by the template 'total and deterministic' (their statements: YtkhgflloifjniaaTotals.lean).
  GIVEN WITH THE SEED: the statements are not yours to turn. If you find one false, say at which input.
  Laid BY PROGRAM, IN A SANDBOX (cutbox-rows.mjs): the forced cells as the released guide's own fill.sh prints them over the translation 2c66076c7f870a1a… (all of the seat's roots in one cut). By AI agents, Wed Nov 11 2026. No macro, syntax, notation, axiom, sorry.
-/
import Derived.Test.YtkhgflloifjniaaChecked
import GoSem.Claim
import GoSem.ClaimJoined
import GoSem.ClaimMapViews
import Derived.JoinedTies
import Derived.KernelRfl
namespace Go.Proofs.Ytkhgflloifjniaa
/- THE CELL 'sum', in the pinned program and in every row, IS THE sha256 OF THE DUMP (.gsa) THAT YtkhgflloifjniaaProg.lean LOADS. Nothing in Lean hashes anything: it is a label: what it is worth is what the hold of that sum in a sandbox is worth. -/
noncomputable def Try.pinned : Pinned := { name := "ytkhgflloifjniaa", sum := "2c66076c7f870a1a7bd3be9377c8435dc29f7dceeee04824ba6178adf1a5643e", checked := Try.checked }
namespace Rows
def none {H : Type} : Left H := { results := [], args := [] }

/-- 'laws.FnExactEndOf': WHATEVER THE INPUT: true; the input reads as it did. -/
def fnExactEndOfSpec : ChangeSpec := { name := "fnExactEndOf", fn := fun _ => fun
  | [d] => { results := [.lit (.bool true)], args := [d] }
  | _ => none }
def fnExactEndOfRow : OpenClaim := { program := "ytkhgflloifjniaa", sum := "2c66076c7f870a1a7bd3be9377c8435dc29f7dceeee04824ba6178adf1a5643e", func := "loop.example/g00496/laws.FnExactEndOf", spec := "fnExactEndOf", apart := false }
def FnExactEndOfSaid : Prop := fnExactEndOfRow.holds Try.pinned (OpenSpec.ofChange fnExactEndOfSpec)

/-- ITS FALSE NEIGHBOUR: 'it returns false'. Refute it at one input. -/
def fnExactEndOfWrong : ChangeSpec := { name := "fnExactEndOf", fn := fun _ => fun
  | [d] => { results := [.lit (.bool false)], args := [d] }
  | _ => none }
def FnExactEndOfWrongFalsely : Prop := fnExactEndOfRow.holds Try.pinned (OpenSpec.ofChange fnExactEndOfWrong)

/-- 'laws.FnExactHasBuf': WHATEVER THE INPUT: true; the input reads as it did. -/
def fnExactHasBufSpec : ChangeSpec := { name := "fnExactHasBuf", fn := fun _ => fun
  | [d1, d2] => { results := [.lit (.bool true)], args := [d1, d2] }
  | _ => none }
def fnExactHasBufRow : OpenClaim := { program := "ytkhgflloifjniaa", sum := "2c66076c7f870a1a7bd3be9377c8435dc29f7dceeee04824ba6178adf1a5643e", func := "loop.example/g00496/laws.FnExactHasBuf", spec := "fnExactHasBuf", apart := false }
def FnExactHasBufSaid : Prop := fnExactHasBufRow.holds Try.pinned (OpenSpec.ofChange fnExactHasBufSpec)

/-- ITS FALSE NEIGHBOUR: 'it returns false'. Refute it at one input. -/
def fnExactHasBufWrong : ChangeSpec := { name := "fnExactHasBuf", fn := fun _ => fun
  | [d1, d2] => { results := [.lit (.bool false)], args := [d1, d2] }
  | _ => none }
def FnExactHasBufWrongFalsely : Prop := fnExactHasBufRow.holds Try.pinned (OpenSpec.ofChange fnExactHasBufWrong)

/-- 'laws.FnExactRefAt': WHATEVER THE INPUT: true; the input reads as it did. -/
def fnExactRefAtSpec : ChangeSpec := { name := "fnExactRefAt", fn := fun _ => fun
  | [d1, d2] => { results := [.lit (.bool true)], args := [d1, d2] }
  | _ => none }
def fnExactRefAtRow : OpenClaim := { program := "ytkhgflloifjniaa", sum := "2c66076c7f870a1a7bd3be9377c8435dc29f7dceeee04824ba6178adf1a5643e", func := "loop.example/g00496/laws.FnExactRefAt", spec := "fnExactRefAt", apart := false }
def FnExactRefAtSaid : Prop := fnExactRefAtRow.holds Try.pinned (OpenSpec.ofChange fnExactRefAtSpec)

/-- ITS FALSE NEIGHBOUR: 'it returns false'. Refute it at one input. -/
def fnExactRefAtWrong : ChangeSpec := { name := "fnExactRefAt", fn := fun _ => fun
  | [d1, d2] => { results := [.lit (.bool false)], args := [d1, d2] }
  | _ => none }
def FnExactRefAtWrongFalsely : Prop := fnExactRefAtRow.holds Try.pinned (OpenSpec.ofChange fnExactRefAtWrong)

/-- 'laws.FnExactSameDir': WHATEVER THE INPUT: true; the input reads as it did. -/
def fnExactSameDirSpec : ChangeSpec := { name := "fnExactSameDir", fn := fun _ => fun
  | [d1, d2] => { results := [.lit (.bool true)], args := [d1, d2] }
  | _ => none }
def fnExactSameDirRow : OpenClaim := { program := "ytkhgflloifjniaa", sum := "2c66076c7f870a1a7bd3be9377c8435dc29f7dceeee04824ba6178adf1a5643e", func := "loop.example/g00496/laws.FnExactSameDir", spec := "fnExactSameDir", apart := false }
def FnExactSameDirSaid : Prop := fnExactSameDirRow.holds Try.pinned (OpenSpec.ofChange fnExactSameDirSpec)

/-- ITS FALSE NEIGHBOUR: 'it returns false'. Refute it at one input. -/
def fnExactSameDirWrong : ChangeSpec := { name := "fnExactSameDir", fn := fun _ => fun
  | [d1, d2] => { results := [.lit (.bool false)], args := [d1, d2] }
  | _ => none }
def FnExactSameDirWrongFalsely : Prop := fnExactSameDirRow.holds Try.pinned (OpenSpec.ofChange fnExactSameDirWrong)

/-- 'laws.FnExactDirOk': WHATEVER THE INPUT: true; the input reads as it did. -/
def fnExactDirOkSpec : ChangeSpec := { name := "fnExactDirOk", fn := fun _ => fun
  | [d] => { results := [.lit (.bool true)], args := [d] }
  | _ => none }
def fnExactDirOkRow : OpenClaim := { program := "ytkhgflloifjniaa", sum := "2c66076c7f870a1a7bd3be9377c8435dc29f7dceeee04824ba6178adf1a5643e", func := "loop.example/g00496/laws.FnExactDirOk", spec := "fnExactDirOk", apart := false }
def FnExactDirOkSaid : Prop := fnExactDirOkRow.holds Try.pinned (OpenSpec.ofChange fnExactDirOkSpec)

/-- ITS FALSE NEIGHBOUR: 'it returns false'. Refute it at one input. -/
def fnExactDirOkWrong : ChangeSpec := { name := "fnExactDirOk", fn := fun _ => fun
  | [d] => { results := [.lit (.bool false)], args := [d] }
  | _ => none }
def FnExactDirOkWrongFalsely : Prop := fnExactDirOkRow.holds Try.pinned (OpenSpec.ofChange fnExactDirOkWrong)

/-- 'laws.FnExactAddRef': WHATEVER THE INPUT: true; the input reads as it did. -/
def fnExactAddRefSpec : ChangeSpec := { name := "fnExactAddRef", fn := fun _ => fun
  | [d1, d2] => { results := [.lit (.bool true)], args := [d1, d2] }
  | _ => none }
def fnExactAddRefRow : OpenClaim := { program := "ytkhgflloifjniaa", sum := "2c66076c7f870a1a7bd3be9377c8435dc29f7dceeee04824ba6178adf1a5643e", func := "loop.example/g00496/laws.FnExactAddRef", spec := "fnExactAddRef", apart := false }
def FnExactAddRefSaid : Prop := fnExactAddRefRow.holds Try.pinned (OpenSpec.ofChange fnExactAddRefSpec)

/-- ITS FALSE NEIGHBOUR: 'it returns false'. Refute it at one input. -/
def fnExactAddRefWrong : ChangeSpec := { name := "fnExactAddRef", fn := fun _ => fun
  | [d1, d2] => { results := [.lit (.bool false)], args := [d1, d2] }
  | _ => none }
def FnExactAddRefWrongFalsely : Prop := fnExactAddRefRow.holds Try.pinned (OpenSpec.ofChange fnExactAddRefWrong)

/-- 'laws.FnExactSwapRefs': WHATEVER THE INPUT: true; the input reads as it did. -/
def fnExactSwapRefsSpec : ChangeSpec := { name := "fnExactSwapRefs", fn := fun _ => fun
  | [d1, d2, d3, d4] => { results := [.lit (.bool true)], args := [d1, d2, d3, d4] }
  | _ => none }
def fnExactSwapRefsRow : OpenClaim := { program := "ytkhgflloifjniaa", sum := "2c66076c7f870a1a7bd3be9377c8435dc29f7dceeee04824ba6178adf1a5643e", func := "loop.example/g00496/laws.FnExactSwapRefs", spec := "fnExactSwapRefs", apart := false }
def FnExactSwapRefsSaid : Prop := fnExactSwapRefsRow.holds Try.pinned (OpenSpec.ofChange fnExactSwapRefsSpec)

/-- ITS FALSE NEIGHBOUR: 'it returns false'. Refute it at one input. -/
def fnExactSwapRefsWrong : ChangeSpec := { name := "fnExactSwapRefs", fn := fun _ => fun
  | [d1, d2, d3, d4] => { results := [.lit (.bool false)], args := [d1, d2, d3, d4] }
  | _ => none }
def FnExactSwapRefsWrongFalsely : Prop := fnExactSwapRefsRow.holds Try.pinned (OpenSpec.ofChange fnExactSwapRefsWrong)

/-- 'laws.FnSwaps': WHATEVER THE INPUT: true; the input reads as it did. -/
def fnSwapsSpec : ChangeSpec := { name := "fnSwaps", fn := fun _ => fun
  | [d] => { results := [.lit (.bool true)], args := [d] }
  | _ => none }
def fnSwapsRow : OpenClaim := { program := "ytkhgflloifjniaa", sum := "2c66076c7f870a1a7bd3be9377c8435dc29f7dceeee04824ba6178adf1a5643e", func := "loop.example/g00496/laws.FnSwaps", spec := "fnSwaps", apart := false }
def FnSwapsSaid : Prop := fnSwapsRow.holds Try.pinned (OpenSpec.ofChange fnSwapsSpec)

/-- ITS FALSE NEIGHBOUR: 'it returns false'. Refute it at one input. -/
def fnSwapsWrong : ChangeSpec := { name := "fnSwaps", fn := fun _ => fun
  | [d] => { results := [.lit (.bool false)], args := [d] }
  | _ => none }
def FnSwapsWrongFalsely : Prop := fnSwapsRow.holds Try.pinned (OpenSpec.ofChange fnSwapsWrong)

/-- 'laws.FnDirs': WHATEVER THE INPUT: true; the input reads as it did. -/
def fnDirsSpec : ChangeSpec := { name := "fnDirs", fn := fun _ => fun
  | [d] => { results := [.lit (.bool true)], args := [d] }
  | _ => none }
def fnDirsRow : OpenClaim := { program := "ytkhgflloifjniaa", sum := "2c66076c7f870a1a7bd3be9377c8435dc29f7dceeee04824ba6178adf1a5643e", func := "loop.example/g00496/laws.FnDirs", spec := "fnDirs", apart := false }
def FnDirsSaid : Prop := fnDirsRow.holds Try.pinned (OpenSpec.ofChange fnDirsSpec)

/-- ITS FALSE NEIGHBOUR: 'it returns false'. Refute it at one input. -/
def fnDirsWrong : ChangeSpec := { name := "fnDirs", fn := fun _ => fun
  | [d] => { results := [.lit (.bool false)], args := [d] }
  | _ => none }
def FnDirsWrongFalsely : Prop := fnDirsRow.holds Try.pinned (OpenSpec.ofChange fnDirsWrong)

/- THE SECOND FORM. 'bulk': how many values and letters a reading holds, each counted each time it is reached (what is shared counts as often as it is met; a slice's spare places count too). A statement '..UptoSaid' is the law's where the arguments, and the package variables that the reading takes, are together of bulk at most 1048576: NARROWER than '..Said'. Prove '..Said' where nothing that the law and all that it calls make is longer than what came in: it says more and counts as full. Else prove '..UptoSaid'. A law counts once. -/
mutual
def uptoBulk {H : Type} : DataW H → Nat
  | .lit (.string bytes) => bytes.length + 1
  | .lit _ => 1
  | .nil => 1
  | .ptr d => uptoBulk d + 1
  | .slice elems spare => uptoBulkAll elems + uptoBulkAll spare + 1
  | .agg parts => uptoBulkAll parts + 1
  | .iface _ d => uptoBulk d + 1
  | .map entries => uptoBulkEntries entries + 1
  | .held _ => 1
def uptoBulkAll {H : Type} : List (DataW H) → Nat
  | [] => 0
  | d :: r => uptoBulk d + uptoBulkAll r
def uptoBulkEntries {H : Type} : List (Lit × DataW H) → Nat
  | [] => 0
  | x :: r => uptoBulkEntry x + uptoBulkEntries r
def uptoBulkEntry {H : Type} : Lit × DataW H → Nat
  | (.string bytes, d) => bytes.length + uptoBulk d + 1
  | (_, d) => uptoBulk d + 1
 end
def uptoSmall : (H : Type) → List (DataW H) → Bool := fun _ ds => decide (uptoBulkAll ds ≤ 1048576)
def OpenSpec.upto (s : _root_.Go.ChangeSpec) : _root_.Go.OpenSpec := { _root_.Go.OpenSpec.ofChange s with cond := some uptoSmall }

/-- 'laws.FnExactEndOf', WHERE WHAT IT READS IS OF BULK AT MOST 1048576: true; the input reads as it did. -/
def fnExactEndOfUptoRow : OpenClaim := { program := "ytkhgflloifjniaa", sum := "2c66076c7f870a1a7bd3be9377c8435dc29f7dceeee04824ba6178adf1a5643e", func := "loop.example/g00496/laws.FnExactEndOf", spec := "fnExactEndOf", apart := false, narrowed := true }
def FnExactEndOfUptoSaid : Prop := fnExactEndOfUptoRow.holds Try.pinned (OpenSpec.upto fnExactEndOfSpec)

/-- 'laws.FnExactHasBuf', WHERE WHAT IT READS IS OF BULK AT MOST 1048576: true; the input reads as it did. -/
def fnExactHasBufUptoRow : OpenClaim := { program := "ytkhgflloifjniaa", sum := "2c66076c7f870a1a7bd3be9377c8435dc29f7dceeee04824ba6178adf1a5643e", func := "loop.example/g00496/laws.FnExactHasBuf", spec := "fnExactHasBuf", apart := false, narrowed := true }
def FnExactHasBufUptoSaid : Prop := fnExactHasBufUptoRow.holds Try.pinned (OpenSpec.upto fnExactHasBufSpec)

/-- 'laws.FnExactRefAt', WHERE WHAT IT READS IS OF BULK AT MOST 1048576: true; the input reads as it did. -/
def fnExactRefAtUptoRow : OpenClaim := { program := "ytkhgflloifjniaa", sum := "2c66076c7f870a1a7bd3be9377c8435dc29f7dceeee04824ba6178adf1a5643e", func := "loop.example/g00496/laws.FnExactRefAt", spec := "fnExactRefAt", apart := false, narrowed := true }
def FnExactRefAtUptoSaid : Prop := fnExactRefAtUptoRow.holds Try.pinned (OpenSpec.upto fnExactRefAtSpec)

/-- 'laws.FnExactSameDir', WHERE WHAT IT READS IS OF BULK AT MOST 1048576: true; the input reads as it did. -/
def fnExactSameDirUptoRow : OpenClaim := { program := "ytkhgflloifjniaa", sum := "2c66076c7f870a1a7bd3be9377c8435dc29f7dceeee04824ba6178adf1a5643e", func := "loop.example/g00496/laws.FnExactSameDir", spec := "fnExactSameDir", apart := false, narrowed := true }
def FnExactSameDirUptoSaid : Prop := fnExactSameDirUptoRow.holds Try.pinned (OpenSpec.upto fnExactSameDirSpec)

/-- 'laws.FnExactDirOk', WHERE WHAT IT READS IS OF BULK AT MOST 1048576: true; the input reads as it did. -/
def fnExactDirOkUptoRow : OpenClaim := { program := "ytkhgflloifjniaa", sum := "2c66076c7f870a1a7bd3be9377c8435dc29f7dceeee04824ba6178adf1a5643e", func := "loop.example/g00496/laws.FnExactDirOk", spec := "fnExactDirOk", apart := false, narrowed := true }
def FnExactDirOkUptoSaid : Prop := fnExactDirOkUptoRow.holds Try.pinned (OpenSpec.upto fnExactDirOkSpec)

/-- 'laws.FnExactAddRef', WHERE WHAT IT READS IS OF BULK AT MOST 1048576: true; the input reads as it did. -/
def fnExactAddRefUptoRow : OpenClaim := { program := "ytkhgflloifjniaa", sum := "2c66076c7f870a1a7bd3be9377c8435dc29f7dceeee04824ba6178adf1a5643e", func := "loop.example/g00496/laws.FnExactAddRef", spec := "fnExactAddRef", apart := false, narrowed := true }
def FnExactAddRefUptoSaid : Prop := fnExactAddRefUptoRow.holds Try.pinned (OpenSpec.upto fnExactAddRefSpec)

/-- 'laws.FnExactSwapRefs', WHERE WHAT IT READS IS OF BULK AT MOST 1048576: true; the input reads as it did. -/
def fnExactSwapRefsUptoRow : OpenClaim := { program := "ytkhgflloifjniaa", sum := "2c66076c7f870a1a7bd3be9377c8435dc29f7dceeee04824ba6178adf1a5643e", func := "loop.example/g00496/laws.FnExactSwapRefs", spec := "fnExactSwapRefs", apart := false, narrowed := true }
def FnExactSwapRefsUptoSaid : Prop := fnExactSwapRefsUptoRow.holds Try.pinned (OpenSpec.upto fnExactSwapRefsSpec)

/-- 'laws.FnSwaps', WHERE WHAT IT READS IS OF BULK AT MOST 1048576: true; the input reads as it did. -/
def fnSwapsUptoRow : OpenClaim := { program := "ytkhgflloifjniaa", sum := "2c66076c7f870a1a7bd3be9377c8435dc29f7dceeee04824ba6178adf1a5643e", func := "loop.example/g00496/laws.FnSwaps", spec := "fnSwaps", apart := false, narrowed := true }
def FnSwapsUptoSaid : Prop := fnSwapsUptoRow.holds Try.pinned (OpenSpec.upto fnSwapsSpec)

/-- 'laws.FnDirs', WHERE WHAT IT READS IS OF BULK AT MOST 1048576: true; the input reads as it did. -/
def fnDirsUptoRow : OpenClaim := { program := "ytkhgflloifjniaa", sum := "2c66076c7f870a1a7bd3be9377c8435dc29f7dceeee04824ba6178adf1a5643e", func := "loop.example/g00496/laws.FnDirs", spec := "fnDirs", apart := false, narrowed := true }
def FnDirsUptoSaid : Prop := fnDirsUptoRow.holds Try.pinned (OpenSpec.upto fnDirsSpec)

end Rows
end Go.Proofs.Ytkhgflloifjniaa
