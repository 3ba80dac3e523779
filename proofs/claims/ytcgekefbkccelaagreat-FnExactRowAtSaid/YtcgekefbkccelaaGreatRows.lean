/-
  NARROWER THAN 'FOR EVERY INPUT', by the rows' own cells (each row's printed sentence says how): FnExactSkips: loops · FnExactRowAt: loops · FnExactWorldOk: loops · FnExactStampEnd: loops · FnExactStampPut: loops · FnExactPlacesOf: loops · FnExactInsOf: loops.
  DERIVED. THE GIVEN ROWS OF THIS SEAT. 9 by the template 'for every input the law returns true; each argument reads behind the call as it read before'; 0 by the template 'total and deterministic' (their statements: YtcgekefbkccelaaGreatTotals.lean).
  GIVEN WITH THE SEED: the statements are not yours to turn. If you find one false, say at which input.
  Laid BY PROGRAM, IN A SANDBOX (cutbox-rows.mjs): the forced cells as the released guide's own fill.sh prints them over the translation b5622773fc952c90… (all of the seat's roots in one cut). By AI agents, Wed Nov 11 2026. No macro, syntax, notation, axiom, sorry.
-/
import Derived.Test.YtcgekefbkccelaaGreatChecked
import GoSem.Claim
import GoSem.ClaimJoined
import GoSem.ClaimMapViews
import Derived.JoinedTies
import Derived.KernelRfl
namespace Go.Proofs.YtcgekefbkccelaaGreat
/- THE CELL 'sum', in the pinned program and in every row, IS THE sha256 OF THE DUMP (.gsa) THAT YtcgekefbkccelaaGreatProg.lean LOADS. Nothing in Lean hashes anything: it is a label: what it is worth is what the hold of that sum in a sandbox is worth. -/
noncomputable def Tryz.pinned : Pinned := { name := "ytcgekefbkccelaagreat", sum := "b5622773fc952c9085e675350e315dd4ffa2420ead98053280d88bb0fd831421", checked := Tryz.checked }
namespace Rows
def none {H : Type} : Left H := { results := [], args := [] }

/-- 'laws.FnExactSkips': WHATEVER THE INPUT: true; the input reads as it did. -/
def fnExactSkipsSpec : ChangeSpec := { name := "fnExactSkips", fn := fun _ => fun
  | [d1, d2, d3] => { results := [.lit (.bool true)], args := [d1, d2, d3] }
  | _ => none }
def fnExactSkipsRow : OpenClaim := { program := "ytcgekefbkccelaagreat", sum := "b5622773fc952c9085e675350e315dd4ffa2420ead98053280d88bb0fd831421", func := "loop.example/g00496/laws.FnExactSkips", spec := "fnExactSkips", unfollowed := true, recurses := true, loops := true, apart := false }
def FnExactSkipsSaid : Prop := fnExactSkipsRow.holds Tryz.pinned (OpenSpec.ofChange fnExactSkipsSpec)

/-- ITS FALSE NEIGHBOUR: 'it returns false'. Refute it at one input. -/
def fnExactSkipsWrong : ChangeSpec := { name := "fnExactSkips", fn := fun _ => fun
  | [d1, d2, d3] => { results := [.lit (.bool false)], args := [d1, d2, d3] }
  | _ => none }
def FnExactSkipsWrongFalsely : Prop := fnExactSkipsRow.holds Tryz.pinned (OpenSpec.ofChange fnExactSkipsWrong)

/-- 'laws.FnExactRowAt': WHATEVER THE INPUT: true; the input reads as it did. -/
def fnExactRowAtSpec : ChangeSpec := { name := "fnExactRowAt", fn := fun _ => fun
  | [d1, d2, d3] => { results := [.lit (.bool true)], args := [d1, d2, d3] }
  | _ => none }
def fnExactRowAtRow : OpenClaim := { program := "ytcgekefbkccelaagreat", sum := "b5622773fc952c9085e675350e315dd4ffa2420ead98053280d88bb0fd831421", func := "loop.example/g00496/laws.FnExactRowAt", spec := "fnExactRowAt", unfollowed := true, recurses := true, loops := true, apart := false }
def FnExactRowAtSaid : Prop := fnExactRowAtRow.holds Tryz.pinned (OpenSpec.ofChange fnExactRowAtSpec)

/-- ITS FALSE NEIGHBOUR: 'it returns false'. Refute it at one input. -/
def fnExactRowAtWrong : ChangeSpec := { name := "fnExactRowAt", fn := fun _ => fun
  | [d1, d2, d3] => { results := [.lit (.bool false)], args := [d1, d2, d3] }
  | _ => none }
def FnExactRowAtWrongFalsely : Prop := fnExactRowAtRow.holds Tryz.pinned (OpenSpec.ofChange fnExactRowAtWrong)

/-- 'laws.FnExactWorldOk': WHATEVER THE INPUT: true; the input reads as it did. -/
def fnExactWorldOkSpec : ChangeSpec := { name := "fnExactWorldOk", fn := fun _ => fun
  | [d] => { results := [.lit (.bool true)], args := [d] }
  | _ => none }
def fnExactWorldOkRow : OpenClaim := { program := "ytcgekefbkccelaagreat", sum := "b5622773fc952c9085e675350e315dd4ffa2420ead98053280d88bb0fd831421", func := "loop.example/g00496/laws.FnExactWorldOk", spec := "fnExactWorldOk", unfollowed := true, recurses := true, loops := true, apart := false }
def FnExactWorldOkSaid : Prop := fnExactWorldOkRow.holds Tryz.pinned (OpenSpec.ofChange fnExactWorldOkSpec)

/-- ITS FALSE NEIGHBOUR: 'it returns false'. Refute it at one input. -/
def fnExactWorldOkWrong : ChangeSpec := { name := "fnExactWorldOk", fn := fun _ => fun
  | [d] => { results := [.lit (.bool false)], args := [d] }
  | _ => none }
def FnExactWorldOkWrongFalsely : Prop := fnExactWorldOkRow.holds Tryz.pinned (OpenSpec.ofChange fnExactWorldOkWrong)

/-- 'laws.FnExactBufOk': WHATEVER THE INPUT: true; the input reads as it did. -/
def fnExactBufOkSpec : ChangeSpec := { name := "fnExactBufOk", fn := fun _ => fun
  | [d1, d2] => { results := [.lit (.bool true)], args := [d1, d2] }
  | _ => none }
def fnExactBufOkRow : OpenClaim := { program := "ytcgekefbkccelaagreat", sum := "b5622773fc952c9085e675350e315dd4ffa2420ead98053280d88bb0fd831421", func := "loop.example/g00496/laws.FnExactBufOk", spec := "fnExactBufOk", unfollowed := true, recurses := true, apart := false }
def FnExactBufOkSaid : Prop := fnExactBufOkRow.holds Tryz.pinned (OpenSpec.ofChange fnExactBufOkSpec)

/-- ITS FALSE NEIGHBOUR: 'it returns false'. Refute it at one input. -/
def fnExactBufOkWrong : ChangeSpec := { name := "fnExactBufOk", fn := fun _ => fun
  | [d1, d2] => { results := [.lit (.bool false)], args := [d1, d2] }
  | _ => none }
def FnExactBufOkWrongFalsely : Prop := fnExactBufOkRow.holds Tryz.pinned (OpenSpec.ofChange fnExactBufOkWrong)

/-- 'laws.FnExactStampEnd': WHATEVER THE INPUT: true; the input reads as it did. -/
def fnExactStampEndSpec : ChangeSpec := { name := "fnExactStampEnd", fn := fun _ => fun
  | [d1, d2, d3, d4] => { results := [.lit (.bool true)], args := [d1, d2, d3, d4] }
  | _ => none }
def fnExactStampEndRow : OpenClaim := { program := "ytcgekefbkccelaagreat", sum := "b5622773fc952c9085e675350e315dd4ffa2420ead98053280d88bb0fd831421", func := "loop.example/g00496/laws.FnExactStampEnd", spec := "fnExactStampEnd", recurses := true, loops := true, apart := false }
def FnExactStampEndSaid : Prop := fnExactStampEndRow.holds Tryz.pinned (OpenSpec.ofChange fnExactStampEndSpec)

/-- ITS FALSE NEIGHBOUR: 'it returns false'. Refute it at one input. -/
def fnExactStampEndWrong : ChangeSpec := { name := "fnExactStampEnd", fn := fun _ => fun
  | [d1, d2, d3, d4] => { results := [.lit (.bool false)], args := [d1, d2, d3, d4] }
  | _ => none }
def FnExactStampEndWrongFalsely : Prop := fnExactStampEndRow.holds Tryz.pinned (OpenSpec.ofChange fnExactStampEndWrong)

/-- 'laws.FnExactStampPut': WHATEVER THE INPUT: true; the input reads as it did. -/
def fnExactStampPutSpec : ChangeSpec := { name := "fnExactStampPut", fn := fun _ => fun
  | [d1, d2, d3, d4, d5] => { results := [.lit (.bool true)], args := [d1, d2, d3, d4, d5] }
  | _ => none }
def fnExactStampPutRow : OpenClaim := { program := "ytcgekefbkccelaagreat", sum := "b5622773fc952c9085e675350e315dd4ffa2420ead98053280d88bb0fd831421", func := "loop.example/g00496/laws.FnExactStampPut", spec := "fnExactStampPut", recurses := true, loops := true, apart := false }
def FnExactStampPutSaid : Prop := fnExactStampPutRow.holds Tryz.pinned (OpenSpec.ofChange fnExactStampPutSpec)

/-- ITS FALSE NEIGHBOUR: 'it returns false'. Refute it at one input. -/
def fnExactStampPutWrong : ChangeSpec := { name := "fnExactStampPut", fn := fun _ => fun
  | [d1, d2, d3, d4, d5] => { results := [.lit (.bool false)], args := [d1, d2, d3, d4, d5] }
  | _ => none }
def FnExactStampPutWrongFalsely : Prop := fnExactStampPutRow.holds Tryz.pinned (OpenSpec.ofChange fnExactStampPutWrong)

/-- 'laws.FnExactPlacesOf': WHATEVER THE INPUT: true; the input reads as it did. -/
def fnExactPlacesOfSpec : ChangeSpec := { name := "fnExactPlacesOf", fn := fun _ => fun
  | [d1, d2] => { results := [.lit (.bool true)], args := [d1, d2] }
  | _ => none }
def fnExactPlacesOfRow : OpenClaim := { program := "ytcgekefbkccelaagreat", sum := "b5622773fc952c9085e675350e315dd4ffa2420ead98053280d88bb0fd831421", func := "loop.example/g00496/laws.FnExactPlacesOf", spec := "fnExactPlacesOf", unfollowed := true, recurses := true, loops := true, apart := false }
def FnExactPlacesOfSaid : Prop := fnExactPlacesOfRow.holds Tryz.pinned (OpenSpec.ofChange fnExactPlacesOfSpec)

/-- ITS FALSE NEIGHBOUR: 'it returns false'. Refute it at one input. -/
def fnExactPlacesOfWrong : ChangeSpec := { name := "fnExactPlacesOf", fn := fun _ => fun
  | [d1, d2] => { results := [.lit (.bool false)], args := [d1, d2] }
  | _ => none }
def FnExactPlacesOfWrongFalsely : Prop := fnExactPlacesOfRow.holds Tryz.pinned (OpenSpec.ofChange fnExactPlacesOfWrong)

/-- 'laws.FnExactInsOf': WHATEVER THE INPUT: true; the input reads as it did. -/
def fnExactInsOfSpec : ChangeSpec := { name := "fnExactInsOf", fn := fun _ => fun
  | [d1, d2, d3] => { results := [.lit (.bool true)], args := [d1, d2, d3] }
  | _ => none }
def fnExactInsOfRow : OpenClaim := { program := "ytcgekefbkccelaagreat", sum := "b5622773fc952c9085e675350e315dd4ffa2420ead98053280d88bb0fd831421", func := "loop.example/g00496/laws.FnExactInsOf", spec := "fnExactInsOf", unfollowed := true, recurses := true, loops := true, apart := false }
def FnExactInsOfSaid : Prop := fnExactInsOfRow.holds Tryz.pinned (OpenSpec.ofChange fnExactInsOfSpec)

/-- ITS FALSE NEIGHBOUR: 'it returns false'. Refute it at one input. -/
def fnExactInsOfWrong : ChangeSpec := { name := "fnExactInsOf", fn := fun _ => fun
  | [d1, d2, d3] => { results := [.lit (.bool false)], args := [d1, d2, d3] }
  | _ => none }
def FnExactInsOfWrongFalsely : Prop := fnExactInsOfRow.holds Tryz.pinned (OpenSpec.ofChange fnExactInsOfWrong)

/-- 'laws.FnPools': WHATEVER THE INPUT: true; the input reads as it did. -/
def fnPoolsSpec : ChangeSpec := { name := "fnPools", fn := fun _ => fun
  | [d] => { results := [.lit (.bool true)], args := [d] }
  | _ => none }
def fnPoolsRow : OpenClaim := { program := "ytcgekefbkccelaagreat", sum := "b5622773fc952c9085e675350e315dd4ffa2420ead98053280d88bb0fd831421", func := "loop.example/g00496/laws.FnPools", spec := "fnPools", unfollowed := true, recurses := true, apart := false }
def FnPoolsSaid : Prop := fnPoolsRow.holds Tryz.pinned (OpenSpec.ofChange fnPoolsSpec)

/-- ITS FALSE NEIGHBOUR: 'it returns false'. Refute it at one input. -/
def fnPoolsWrong : ChangeSpec := { name := "fnPools", fn := fun _ => fun
  | [d] => { results := [.lit (.bool false)], args := [d] }
  | _ => none }
def FnPoolsWrongFalsely : Prop := fnPoolsRow.holds Tryz.pinned (OpenSpec.ofChange fnPoolsWrong)

/- THE SECOND FORM. 'bulk': how many values and letters a reading holds, each counted each time it is reached (what is shared counts as often as it is met; a slice's spare places count too). A statement '..UptoSaid' is the law's where the arguments, and the package variables that the reading takes, are together of bulk at most 1048576: NARROWER than '..Said'. Prove '..Said' where nothing that the law and all that it calls make is longer than what came in: it says more and counts as full. Else prove '..UptoSaid'. A law counts once. -/
mutual
def uptoBulk {H : Type} : DataW H → Nat
  | .lit (.string bytes) => bytes.length + 1
  | .lit _ => 1
  | .nil => 1
  | .ptr d => uptoBulk d + 1
  | .slice elems spare => uptoBulkAll elems + uptoBulkAll spare + 1
  | .agg parts => uptoBulkAll parts + 1
  | .iface _ d => uptoBulk d + 1
  | .map entries => uptoBulkEntries entries + 1
  | .held _ => 1
def uptoBulkAll {H : Type} : List (DataW H) → Nat
  | [] => 0
  | d :: r => uptoBulk d + uptoBulkAll r
def uptoBulkEntries {H : Type} : List (Lit × DataW H) → Nat
  | [] => 0
  | x :: r => uptoBulkEntry x + uptoBulkEntries r
def uptoBulkEntry {H : Type} : Lit × DataW H → Nat
  | (.string bytes, d) => bytes.length + uptoBulk d + 1
  | (_, d) => uptoBulk d + 1
 end
def uptoSmall : (H : Type) → List (DataW H) → Bool := fun _ ds => decide (uptoBulkAll ds ≤ 1048576)
def OpenSpec.upto (s : _root_.Go.ChangeSpec) : _root_.Go.OpenSpec := { _root_.Go.OpenSpec.ofChange s with cond := some uptoSmall }

/-- 'laws.FnExactSkips', WHERE WHAT IT READS IS OF BULK AT MOST 1048576: true; the input reads as it did. -/
def fnExactSkipsUptoRow : OpenClaim := { program := "ytcgekefbkccelaagreat", sum := "b5622773fc952c9085e675350e315dd4ffa2420ead98053280d88bb0fd831421", func := "loop.example/g00496/laws.FnExactSkips", spec := "fnExactSkips", unfollowed := true, recurses := true, loops := true, apart := false, narrowed := true }
def FnExactSkipsUptoSaid : Prop := fnExactSkipsUptoRow.holds Tryz.pinned (OpenSpec.upto fnExactSkipsSpec)

/-- 'laws.FnExactRowAt', WHERE WHAT IT READS IS OF BULK AT MOST 1048576: true; the input reads as it did. -/
def fnExactRowAtUptoRow : OpenClaim := { program := "ytcgekefbkccelaagreat", sum := "b5622773fc952c9085e675350e315dd4ffa2420ead98053280d88bb0fd831421", func := "loop.example/g00496/laws.FnExactRowAt", spec := "fnExactRowAt", unfollowed := true, recurses := true, loops := true, apart := false, narrowed := true }
def FnExactRowAtUptoSaid : Prop := fnExactRowAtUptoRow.holds Tryz.pinned (OpenSpec.upto fnExactRowAtSpec)

/-- 'laws.FnExactWorldOk', WHERE WHAT IT READS IS OF BULK AT MOST 1048576: true; the input reads as it did. -/
def fnExactWorldOkUptoRow : OpenClaim := { program := "ytcgekefbkccelaagreat", sum := "b5622773fc952c9085e675350e315dd4ffa2420ead98053280d88bb0fd831421", func := "loop.example/g00496/laws.FnExactWorldOk", spec := "fnExactWorldOk", unfollowed := true, recurses := true, loops := true, apart := false, narrowed := true }
def FnExactWorldOkUptoSaid : Prop := fnExactWorldOkUptoRow.holds Tryz.pinned (OpenSpec.upto fnExactWorldOkSpec)

/-- 'laws.FnExactBufOk', WHERE WHAT IT READS IS OF BULK AT MOST 1048576: true; the input reads as it did. -/
def fnExactBufOkUptoRow : OpenClaim := { program := "ytcgekefbkccelaagreat", sum := "b5622773fc952c9085e675350e315dd4ffa2420ead98053280d88bb0fd831421", func := "loop.example/g00496/laws.FnExactBufOk", spec := "fnExactBufOk", unfollowed := true, recurses := true, apart := false, narrowed := true }
def FnExactBufOkUptoSaid : Prop := fnExactBufOkUptoRow.holds Tryz.pinned (OpenSpec.upto fnExactBufOkSpec)

/-- 'laws.FnExactStampEnd', WHERE WHAT IT READS IS OF BULK AT MOST 1048576: true; the input reads as it did. -/
def fnExactStampEndUptoRow : OpenClaim := { program := "ytcgekefbkccelaagreat", sum := "b5622773fc952c9085e675350e315dd4ffa2420ead98053280d88bb0fd831421", func := "loop.example/g00496/laws.FnExactStampEnd", spec := "fnExactStampEnd", recurses := true, loops := true, apart := false, narrowed := true }
def FnExactStampEndUptoSaid : Prop := fnExactStampEndUptoRow.holds Tryz.pinned (OpenSpec.upto fnExactStampEndSpec)

/-- 'laws.FnExactStampPut', WHERE WHAT IT READS IS OF BULK AT MOST 1048576: true; the input reads as it did. -/
def fnExactStampPutUptoRow : OpenClaim := { program := "ytcgekefbkccelaagreat", sum := "b5622773fc952c9085e675350e315dd4ffa2420ead98053280d88bb0fd831421", func := "loop.example/g00496/laws.FnExactStampPut", spec := "fnExactStampPut", recurses := true, loops := true, apart := false, narrowed := true }
def FnExactStampPutUptoSaid : Prop := fnExactStampPutUptoRow.holds Tryz.pinned (OpenSpec.upto fnExactStampPutSpec)

/-- 'laws.FnExactPlacesOf', WHERE WHAT IT READS IS OF BULK AT MOST 1048576: true; the input reads as it did. -/
def fnExactPlacesOfUptoRow : OpenClaim := { program := "ytcgekefbkccelaagreat", sum := "b5622773fc952c9085e675350e315dd4ffa2420ead98053280d88bb0fd831421", func := "loop.example/g00496/laws.FnExactPlacesOf", spec := "fnExactPlacesOf", unfollowed := true, recurses := true, loops := true, apart := false, narrowed := true }
def FnExactPlacesOfUptoSaid : Prop := fnExactPlacesOfUptoRow.holds Tryz.pinned (OpenSpec.upto fnExactPlacesOfSpec)

/-- 'laws.FnExactInsOf', WHERE WHAT IT READS IS OF BULK AT MOST 1048576: true; the input reads as it did. -/
def fnExactInsOfUptoRow : OpenClaim := { program := "ytcgekefbkccelaagreat", sum := "b5622773fc952c9085e675350e315dd4ffa2420ead98053280d88bb0fd831421", func := "loop.example/g00496/laws.FnExactInsOf", spec := "fnExactInsOf", unfollowed := true, recurses := true, loops := true, apart := false, narrowed := true }
def FnExactInsOfUptoSaid : Prop := fnExactInsOfUptoRow.holds Tryz.pinned (OpenSpec.upto fnExactInsOfSpec)

/-- 'laws.FnPools', WHERE WHAT IT READS IS OF BULK AT MOST 1048576: true; the input reads as it did. -/
def fnPoolsUptoRow : OpenClaim := { program := "ytcgekefbkccelaagreat", sum := "b5622773fc952c9085e675350e315dd4ffa2420ead98053280d88bb0fd831421", func := "loop.example/g00496/laws.FnPools", spec := "fnPools", unfollowed := true, recurses := true, apart := false, narrowed := true }
def FnPoolsUptoSaid : Prop := fnPoolsUptoRow.holds Tryz.pinned (OpenSpec.upto fnPoolsSpec)

end Rows
end Go.Proofs.YtcgekefbkccelaaGreat
