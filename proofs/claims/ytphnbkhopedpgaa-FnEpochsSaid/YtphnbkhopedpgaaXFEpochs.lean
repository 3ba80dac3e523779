/- The law FnEpochs returns true for every input, and each argument reads behind the call as it read before. No condition. -/
import Derived.Test.YtphnbkhopedpgaaXFEpochsLm0
import Derived.Test.YtphnbkhopedpgaaOMLaw
import Derived.Test.YtphnbkhopedpgaaRows
import Derived.KernelRfl
import Derived.WalkKit
import Derived.ProofKit
import Derived.OpenShut
set_option linter.all false
namespace Go.Proofs.Ytphnbkhopedpgaa.fnEpochs
open Go.ChangeShapes Go.WideShapes Go.ChangeAt Go.RowKit Go.Proofs.Ytphnbkhopedpgaa.OM
set_option maxRecDepth 100000
set_option maxHeartbeats 4000000

def ids : List (Nat × Nat) := [(23, 26), (31, 19), (33, 22), (38, 48), (43, 29), (61, 31), (64, 38), (80, 55), (87, 51), (91, 12), (141, 41), (200, 47), (278, 45), (280, 42), (283, 46), (287, 43), (294, 44), (302, 24), (310, 17), (314, 21), (318, 49), (324, 28), (342, 30), (345, 37), (364, 61), (365, 60), (366, 54), (375, 62), (376, 65), (377, 50), (378, 64), (379, 59), (382, 63)]
def fid (k : Nat) : FuncId := (ids.lookup k).getD 0
theorem chk_all : tab.all (fun p => chkF Try.prog fid (fid p.1) p.2) = true := by kernel_rfl
theorem seat_ok (f : Nat) (xs : List V) (r : V) (us : List (Nat × Nat × C)) (h : Gw TT f xs = some (r, us)) : OK Try.prog (fid f) xs r us := by
  refine Gw_ok (by kernel_rfl) (fun f F hF => ?_) f xs r us h
  exact List.all_eq_true.1 chk_all (f, F) (lookup_mem hF)

theorem has_int_5 {ds : List D} (h : HasT Try.prog 5 ds) : ∃ n : Int, ds = eb n ∧ (0 ≤ n ∧ n ≤ 255) := by
  obtain ⟨n, rfl, w⟩ := h.int_inv (by kernel_rfl : Try.prog.underlying 5 = some (.int .u8))
  exact ⟨n, rfl, wf_u8 w⟩

theorem own : ownKnob Try.prog.godebug = none := by kernel_rfl

theorem says (xs : List V) (h : ArgsT Try.prog Try.f12.params.toList xs) : OK Try.prog 12 xs (.one (.ro false (.bool true))) [] := by
  rw [show Try.f12.params.toList = [46] from by kernel_rfl] at h
  obtain ⟨x0, xs, rfl, h0, h⟩ := h.cons_inv
  obtain rfl := h.nil_inv
  obtain ⟨es0, rfl, m0, q0⟩ := h0.sl (by kernel_rfl : Try.prog.underlying 46 = some (.slice 5))
  rw [show Try.prog.cellsOf 5 = 1 from by kernel_rfl]
  obtain ⟨code, rfl, l0, k0⟩ := list_dec (fun y hy => has_int_5 (q0 y hy))
  have hok_code : code.length ≤ 9223372036854775807 := Nat.le_trans (Nat.le_of_eq l0) m0
  exact seat_ok 91 _ _ _ (t91 code hok_code)

theorem lifted (os : Os) (started : os.Started) (H : Type) (enc : TypeId × Value → H) :
    ReturnsInHanded {} Try.checked os 12 .any (Rows.fnEpochsSpec.pre6 enc Try.prog Try.f12 Rows.fnEpochsRow.domain false) (Rows.fnEpochsSpec.post enc Try.prog Try.f12 false true false false) := by
  refine returnsInHanded_of_change (C := Try.checked) own started (by kernel_rfl) Try.func12
    (ChangeSpec.witness6 (enc := enc) (C := Try.checked) false ⟨#[], #[.slice none 0 0], []⟩ 8 (by kernel_rfl) (by kernel_rfl) (by kernel_rfl) (by kernel_rfl)) ?_
  intro W base args ds gs before hval0 hW hcnd _
  refine law_contract (S := [46, 5]) (tb := 4) (by kernel_rfl) (by kernel_rfl) (by kernel_rfl) says (fun j t v h1 h2 => ⟨_, _, hval0 j t v h1 h2⟩) hW rfl (by kernel_rfl) (by kernel_rfl) (fun hl => ?_)
  match ds, hl with
  | [d0], _ => exact ⟨rfl, rfl, rfl⟩

theorem over : Rows.fnEpochsRow.holds Try.pinned (OpenSpec.ofChange Rows.fnEpochsSpec) :=
  OpenClaim.holds_of_wide 12 Try.f12 rfl rfl rfl rfl rfl rfl rfl ⟨rfl, rfl, rfl, rfl, rfl⟩ rfl rfl rfl rfl rfl (by kernel_rfl) Try.func12 (by kernel_rfl)
    (of_decide_eq_true (by kernel_rfl)) (by unfold Func.isWrapper; first | (rw [if_pos (by decide +kernel)]; kernel_rfl) | (rw [if_neg (by decide +kernel)]; exact ⟨rfl, rfl⟩))
    (fun os started H enc _ => lifted os started H enc)

theorem proved : Rows.FnEpochsSaid := over
#print axioms proved
end Go.Proofs.Ytphnbkhopedpgaa.fnEpochs
