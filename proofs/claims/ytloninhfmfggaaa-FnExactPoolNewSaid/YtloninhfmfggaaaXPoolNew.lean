/- The law FnExactPoolNew returns true for every input, and each argument reads behind the call as it read before. No condition. -/
import Derived.Test.YtloninhfmfggaaaXPoolNewLm0
import Derived.Test.YtloninhfmfggaaaOMLaw
import Derived.Test.YtloninhfmfggaaaRows
import Derived.KernelRfl
import Derived.WalkKit
import Derived.ProofKit
import Derived.OpenShut
set_option linter.all false
namespace Go.Proofs.Ytloninhfmfggaaa.fnExactPoolNew
open Go.ChangeShapes Go.WideShapes Go.ChangeAt Go.RowKit Go.Proofs.Ytloninhfmfggaaa.OM
set_option maxRecDepth 100000
set_option maxHeartbeats 4000000

def ids : List (Nat × Nat) := [(39, 15), (87, 68), (118, 3), (142, 39), (143, 16), (144, 92), (145, 23), (161, 110), (162, 79), (165, 128), (166, 111), (168, 18), (169, 72), (179, 71), (181, 85), (183, 17), (184, 70), (194, 69), (196, 112), (197, 84), (319, 14)]
def fid (k : Nat) : FuncId := (ids.lookup k).getD 0
theorem chk_all : tab.all (fun p => chkF Try.prog fid (fid p.1) p.2) = true := by kernel_rfl
theorem seat_ok (f : Nat) (xs : List V) (r : V) (us : List (Nat × Nat × C)) (h : Gw TT f xs = some (r, us)) : OK Try.prog (fid f) xs r us := by
  refine Gw_ok (by kernel_rfl) (fun f F hF => ?_) f xs r us h
  exact List.all_eq_true.1 chk_all (f, F) (lookup_mem hF)


theorem own : ownKnob Try.prog.godebug = none := by kernel_rfl

theorem says (xs : List V) (h : ArgsT Try.prog Try.f3.params.toList xs) : OK Try.prog 3 xs (.one (.ro false (.bool true))) [] := by
  rw [show Try.f3.params.toList = [3] from by kernel_rfl] at h
  obtain ⟨x0, xs, rfl, h0, h⟩ := h.cons_inv
  obtain rfl := h.nil_inv
  obtain ⟨aN, rfl, w0⟩ := h0.int (by kernel_rfl : Try.prog.underlying 3 = some (.int .i64))
  exact seat_ok 118 _ _ _ (t118 aN )

theorem lifted (os : Os) (started : os.Started) (H : Type) (enc : TypeId × Value → H) :
    ReturnsInHanded {} Try.checked os 3 .any (Rows.fnExactPoolNewSpec.pre6 enc Try.prog Try.f3 Rows.fnExactPoolNewRow.domain false) (Rows.fnExactPoolNewSpec.post enc Try.prog Try.f3 false true false false) := by
  refine returnsInHanded_of_change (C := Try.checked) own started (by kernel_rfl) Try.func3
    (ChangeSpec.witness6 (enc := enc) (C := Try.checked) false ⟨#[], #[.int .i64 0], []⟩ 8 (by kernel_rfl) (by kernel_rfl) (by kernel_rfl) (by kernel_rfl)) ?_
  intro W base args ds gs before hval0 hW hcnd _
  refine law_contract (S := [3]) (tb := 4) (by kernel_rfl) (by kernel_rfl) (by kernel_rfl) says (fun j t v h1 h2 => ⟨_, _, hval0 j t v h1 h2⟩) hW rfl (by kernel_rfl) (by kernel_rfl) (fun hl => ?_)
  match ds, hl with
  | [d0], _ => exact ⟨rfl, rfl, rfl⟩

theorem over : Rows.fnExactPoolNewRow.holds Try.pinned (OpenSpec.ofChange Rows.fnExactPoolNewSpec) :=
  OpenClaim.holds_of_wide 3 Try.f3 rfl rfl rfl rfl rfl rfl rfl ⟨rfl, rfl, rfl, rfl, rfl⟩ rfl rfl rfl rfl rfl (by kernel_rfl) Try.func3 (by kernel_rfl)
    (of_decide_eq_true (by kernel_rfl)) (by unfold Func.isWrapper; first | (rw [if_pos (by decide +kernel)]; kernel_rfl) | (rw [if_neg (by decide +kernel)]; exact ⟨rfl, rfl⟩))
    (fun os started H enc _ => lifted os started H enc)

theorem proved : Rows.FnExactPoolNewSaid := over
#print axioms proved
end Go.Proofs.Ytloninhfmfggaaa.fnExactPoolNew
