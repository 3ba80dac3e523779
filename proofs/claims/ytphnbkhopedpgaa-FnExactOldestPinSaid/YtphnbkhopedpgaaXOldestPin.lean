/- The law FnExactOldestPin returns true for every input, and each argument reads behind the call as it read before. No condition. -/
import Derived.Test.YtphnbkhopedpgaaXOldestPinLm0
import Derived.Test.YtphnbkhopedpgaaOMLaw
import Derived.Test.YtphnbkhopedpgaaRows
import Derived.KernelRfl
import Derived.WalkKit
import Derived.ProofKit
import Derived.OpenShut
set_option linter.all false
namespace Go.Proofs.Ytphnbkhopedpgaa.fnExactOldestPin
open Go.ChangeShapes Go.WideShapes Go.ChangeAt Go.RowKit Go.Proofs.Ytphnbkhopedpgaa.OM
set_option maxRecDepth 100000
set_option maxHeartbeats 4000000

def ids : List (Nat × Nat) := [(33, 22), (114, 6), (152, 20), (244, 18), (314, 21)]
def fid (k : Nat) : FuncId := (ids.lookup k).getD 0
theorem chk_all : tab.all (fun p => chkF Try.prog fid (fid p.1) p.2) = true := by kernel_rfl
theorem seat_ok (f : Nat) (xs : List V) (r : V) (us : List (Nat × Nat × C)) (h : Gw TT f xs = some (r, us)) : OK Try.prog (fid f) xs r us := by
  refine Gw_ok (by kernel_rfl) (fun f F hF => ?_) f xs r us h
  exact List.all_eq_true.1 chk_all (f, F) (lookup_mem hF)

theorem has_int_3 {ds : List D} (h : HasT Try.prog 3 ds) : ∃ n : Int, ds = ei n ∧ (-9223372036854775808 ≤ n ∧ n ≤ 9223372036854775807) := by
  obtain ⟨n, rfl, w⟩ := h.int_inv (by kernel_rfl : Try.prog.underlying 3 = some (.int .i64))
  exact ⟨n, rfl, wf_i64 w⟩

theorem own : ownKnob Try.prog.godebug = none := by kernel_rfl

theorem says (xs : List V) (h : ArgsT Try.prog Try.f6.params.toList xs) : OK Try.prog 6 xs (.one (.ro false (.bool true))) [] := by
  rw [show Try.f6.params.toList = [24, 3] from by kernel_rfl] at h
  obtain ⟨x0, xs, rfl, h0, h⟩ := h.cons_inv
  obtain ⟨x1, xs, rfl, h1, h⟩ := h.cons_inv
  obtain rfl := h.nil_inv
  obtain ⟨es0, rfl, m0, q0⟩ := h0.sl (by kernel_rfl : Try.prog.underlying 24 = some (.slice 3))
  rw [show Try.prog.cellsOf 3 = 1 from by kernel_rfl]
  obtain ⟨aL, rfl, l0, k0⟩ := list_dec (fun y hy => has_int_3 (q0 y hy))
  have hok_aL : aL.length ≤ 9223372036854775807 := Nat.le_trans (Nat.le_of_eq l0) m0
  obtain ⟨aE, rfl, w1⟩ := h1.int (by kernel_rfl : Try.prog.underlying 3 = some (.int .i64))
  exact seat_ok 114 _ _ _ (t114 aL aE hok_aL)

theorem lifted (os : Os) (started : os.Started) (H : Type) (enc : TypeId × Value → H) :
    ReturnsInHanded {} Try.checked os 6 .any (Rows.fnExactOldestPinSpec.pre6 enc Try.prog Try.f6 Rows.fnExactOldestPinRow.domain false) (Rows.fnExactOldestPinSpec.post enc Try.prog Try.f6 false true false false) := by
  refine returnsInHanded_of_change (C := Try.checked) own started (by kernel_rfl) Try.func6
    (ChangeSpec.witness6 (enc := enc) (C := Try.checked) false ⟨#[], #[.slice none 0 0, .int .i64 0], []⟩ 8 (by kernel_rfl) (by kernel_rfl) (by kernel_rfl) (by kernel_rfl)) ?_
  intro W base args ds gs before hval0 hW hcnd _
  refine law_contract (S := [24, 3]) (tb := 4) (by kernel_rfl) (by kernel_rfl) (by kernel_rfl) says (fun j t v h1 h2 => ⟨_, _, hval0 j t v h1 h2⟩) hW rfl (by kernel_rfl) (by kernel_rfl) (fun hl => ?_)
  match ds, hl with
  | [d0, d1], _ => exact ⟨rfl, rfl, rfl⟩

theorem over : Rows.fnExactOldestPinRow.holds Try.pinned (OpenSpec.ofChange Rows.fnExactOldestPinSpec) :=
  OpenClaim.holds_of_wide 6 Try.f6 rfl rfl rfl rfl rfl rfl rfl ⟨rfl, rfl, rfl, rfl, rfl⟩ rfl rfl rfl rfl rfl (by kernel_rfl) Try.func6 (by kernel_rfl)
    (of_decide_eq_true (by kernel_rfl)) (by unfold Func.isWrapper; first | (rw [if_pos (by decide +kernel)]; kernel_rfl) | (rw [if_neg (by decide +kernel)]; exact ⟨rfl, rfl⟩))
    (fun os started H enc _ => lifted os started H enc)

theorem proved : Rows.FnExactOldestPinSaid := over
#print axioms proved
end Go.Proofs.Ytphnbkhopedpgaa.fnExactOldestPin
