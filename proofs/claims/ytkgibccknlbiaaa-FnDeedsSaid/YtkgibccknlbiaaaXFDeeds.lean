/- The law FnDeeds returns true for every input, and each argument reads behind the call as it read before. No condition. -/
import Derived.Test.YtkgibccknlbiaaaXFDeedsLm2
import Derived.Test.YtkgibccknlbiaaaOMLaw
import Derived.Test.YtkgibccknlbiaaaRows
import Derived.KernelRfl
import Derived.WalkKit
import Derived.ProofKit
import Derived.OpenShut
set_option linter.all false
namespace Go.Proofs.Ytkgibccknlbiaaa.fnDeeds
open Go.ChangeShapes Go.WideShapes Go.ChangeAt Go.RowKit Go.Proofs.Ytkgibccknlbiaaa.OM
set_option maxRecDepth 100000
set_option maxHeartbeats 4000000

theorem chk_all : tab.all (fun p => chkF Try.prog kap (kap p.1) p.2) = true:=by kernel_rfl
theorem seat_ok (f : Nat) (xs : List V) (r : V) (us : List (Nat × Nat × C)) (h : Gw TT f xs = some (r,us)) : OK Try.prog (kap f) xs r us:=by
  refine Gw_ok rfl (by kernel_rfl) (fun f F hF => ?_) f xs r us h
  exact List.all_eq_true.1 chk_all (f,F) (lookup_mem hF)

theorem has_int_5 {ds : List D} (h : HasT Try.prog 5 ds) : ∃ n : Int,ds = eb n ∧ (0 ≤ n ∧ n ≤ 255):=by
  obtain ⟨n,rfl,w⟩:=h.int_inv (by kernel_rfl : Try.prog.underlying 5 = some (.int .u8))
  exact ⟨n,rfl,wf_u8 w⟩

theorem own : ownKnob Try.prog.godebug = none:=by kernel_rfl

theorem says (xs : List V) (h : ArgsT Try.prog Try.f3.params.toList xs) : OK Try.prog 3 xs (.one (.ro false (.bool true))) []:=by
  rw [show Try.f3.params.toList = [22] from by kernel_rfl] at h
  obtain ⟨x0,xs,rfl,h0,h⟩:=h.cons_inv
  obtain rfl:=h.nil_inv
  obtain ⟨es0,rfl,m0,q0⟩:=h0.sl (by kernel_rfl : Try.prog.underlying 22 = some (.slice 5))
  rw [show Try.prog.cellsOf 5 = 1 from by kernel_rfl]
  obtain ⟨code,rfl,l0,k0⟩:=list_dec (fun y hy => has_int_5 (q0 y hy))
  have hok_code : code.length ≤ 9223372036854775807:=Nat.le_trans (Nat.le_of_eq l0) m0
  exact seat_ok 89 _ _ _ (t89 code hok_code)

theorem lifted (os : Os) (started : os.Started) (H : Type) (enc : TypeId × Value → H) :
    ReturnsInHanded {} Try.checked os 3 .any (Rows.fnDeedsSpec.pre6 enc Try.prog Try.f3 Rows.fnDeedsRow.domain false) (Rows.fnDeedsSpec.post enc Try.prog Try.f3 false true false false):=by
  refine returnsInHanded_of_change (C:=Try.checked) own started (by kernel_rfl) Try.func3
    (ChangeSpec.witness6 (enc:=enc) (C:=Try.checked) false ⟨#[],#[.slice none 0 0],[]⟩ 8 (by kernel_rfl) (by kernel_rfl) (by kernel_rfl) (by kernel_rfl)) ?_
  intro W base args ds gs before hval0 hW hcnd _
  refine law_contract (S:=[22,5]) (tb:=4) (by kernel_rfl) (by kernel_rfl) (by kernel_rfl) says (fun j t v h1 h2 => ⟨_,_,hval0 j t v h1 h2⟩) hW rfl (by kernel_rfl) (by kernel_rfl) (fun hl => ?_)
  match ds,hl with
  | [d0],_ => exact ⟨rfl,rfl,rfl⟩

theorem jf0 : laidOutB Try.prog = true:=by kernel_rfl
theorem jf1 : mapsRowed Try.prog = true:=by kernel_rfl
theorem jf2 : (Try.prog.stops == []) = true:=by kernel_rfl
theorem jf3 : (Try.prog.stopKnobs == []) = true:=by kernel_rfl
theorem jf4 : (Rows.fnDeedsRow.inPlace == Try.prog.inPlace 3) = true:=by kernel_rfl
theorem jf5 : (Rows.fnDeedsRow.unfollowed == Try.prog.unfollowed 3) = true:=by kernel_rfl
theorem jf6 : (Rows.fnDeedsRow.recurses == Try.prog.recurses 3) = true:=by kernel_rfl
theorem jf7 : (Rows.fnDeedsRow.named == Try.prog.varsNamed 3) = true:=by kernel_rfl
theorem jf8 : (Rows.fnDeedsRow.plainKeys == Try.prog.plainKeys) = true:=by kernel_rfl
theorem jf9 : Try.prog.stopsHeard = true:=by kernel_rfl
theorem jf10 : Try.prog.mayEnter = true:=by kernel_rfl
theorem jf11 : (Rows.fnDeedsRow.lifted == Try.prog.liftsFinal) = true:=by kernel_rfl
theorem jf12 : (Try.prog.make == some Rows.fnDeedsRow.make) = true:=by kernel_rfl
theorem jfn : Try.pinned.checked.prog.funcNamed Rows.fnDeedsRow.func = some 3:=by kernel_rfl
theorem jfall : joinedFacts Try.prog 3 Try.f3 Rows.fnDeedsSpec Rows.fnDeedsRow = true:=by
  unfold joinedFacts
  simp only [jf0,jf1,jf2,jf3,jf4,jf5,jf6,jf7,jf8,jf9,jf10,jf11,jf12,Bool.true_and,Bool.and_true]
  kernel_rfl

theorem over : Rows.fnDeedsRow.holds Try.pinned (OpenSpec.ofChange Rows.fnDeedsSpec) :=
  OpenClaim.holds_of_wide 3 Try.f3 rfl rfl rfl rfl rfl rfl rfl ⟨rfl,rfl,rfl,rfl,rfl⟩ rfl rfl rfl rfl rfl (jfn) Try.func3 (jfall)
    (of_decide_eq_true (by kernel_rfl)) (by unfold Func.isWrapper; first | (rw [if_pos (by decide +kernel)]; kernel_rfl) | (rw [if_neg (by decide +kernel)]; exact ⟨rfl,rfl⟩))
    (fun os started H enc _ => lifted os started H enc)

theorem proved : Rows.FnDeedsSaid:=over
#print axioms proved
end Go.Proofs.Ytkgibccknlbiaaa.fnDeeds
