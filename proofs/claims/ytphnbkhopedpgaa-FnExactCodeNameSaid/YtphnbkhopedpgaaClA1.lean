/- FnExactCodeName returns true for every input. -/
import Derived.Test.YtphnbkhopedpgaaSeatA
import Derived.Test.YtphnbkhopedpgaaOMLaw
import Derived.Test.YtphnbkhopedpgaaRows
import Derived.WalkKit
import Derived.ProofKit
import Derived.OpenShut
set_option linter.all false
namespace Go.Proofs.Ytphnbkhopedpgaa.fnExactCodeName
open Go.ChangeShapes Go.WideShapes Go.ChangeAt Go.RowKit Go.Proofs.Ytphnbkhopedpgaa.OM
set_option linter.unusedVariables false

theorem own : ownKnob Try.prog.godebug = none := by kernel_rfl

theorem says (xs : List V) (h : ArgsT Try.prog Try.f3.params.toList xs) : OK Try.prog 3 xs (.one (.ro false (.bool true))) [] := by
  rw [Try.params3] at h
  obtain ⟨x0, xs, rfl, h0, h⟩ := h.cons_inv
  obtain rfl := h.nil_inv
  obtain ⟨n, rfl, _⟩ := h0.int Try.underlying3
  exact seat_ok 95 _ _ _ (t95 n)

set_option maxRecDepth 100000 in
theorem lifted (os : Os) (started : os.Started) (H : Type) (enc : TypeId × Value → H) :
    ReturnsInHanded {} Try.checked os 3 .any (Rows.fnExactCodeNameSpec.pre6 enc Try.prog Try.f3 Rows.fnExactCodeNameRow.domain false) (Rows.fnExactCodeNameSpec.post enc Try.prog Try.f3 false true false false) := by
  refine returnsInHanded_of_change (C := Try.checked) own started (by kernel_rfl) Try.func3
    (ChangeSpec.witness6 (enc := enc) (C := Try.checked) false ⟨#[], #[.int .i64 0], []⟩ 8 (by kernel_rfl) (by kernel_rfl) (by kernel_rfl) (by kernel_rfl)) ?_
  intro W base args ds gs before hval0 hW hcnd _
  refine law_contract (S := [3]) (tb := 4) (by kernel_rfl) (by kernel_rfl) (by kernel_rfl) says (fun j t v h1 h2 => ⟨_, _, hval0 j t v h1 h2⟩) hW rfl (by kernel_rfl) Try.underlying4 (fun hl => ?_)
  match ds, hl with
  | [d], _ => exact ⟨rfl, rfl, rfl⟩

theorem over : Rows.fnExactCodeNameRow.holds Try.pinned (OpenSpec.ofChange Rows.fnExactCodeNameSpec) :=
  OpenClaim.holds_of_wide 3 Try.f3 rfl rfl rfl rfl rfl rfl rfl ⟨rfl, rfl, rfl, rfl, rfl⟩ rfl rfl rfl rfl rfl (by kernel_rfl) Try.func3 (by kernel_rfl)
    (of_decide_eq_true (by kernel_rfl)) (by unfold Func.isWrapper; first | (rw [if_pos (by decide +kernel)]; kernel_rfl) | (rw [if_neg (by decide +kernel)]; exact ⟨rfl, rfl⟩))
    (fun os started H enc _ => lifted os started H enc)

theorem proved : Rows.FnExactCodeNameSaid := over
#print axioms proved
end Go.Proofs.Ytphnbkhopedpgaa.fnExactCodeName
