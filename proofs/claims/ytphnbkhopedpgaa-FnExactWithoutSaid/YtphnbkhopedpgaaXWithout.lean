/- The law FnExactWithout returns true for every input, and each argument reads behind the call as it read before. No condition. -/
import Derived.Test.YtphnbkhopedpgaaXWithoutLm0
import Derived.Test.YtphnbkhopedpgaaOMLaw
import Derived.Test.YtphnbkhopedpgaaRows
import Derived.KernelRfl
import Derived.WalkKit
import Derived.ProofKit
import Derived.OpenShut
set_option linter.all false
namespace Go.Proofs.Ytphnbkhopedpgaa.fnExactWithout
open Go.ChangeShapes Go.WideShapes Go.ChangeAt Go.RowKit Go.Proofs.Ytphnbkhopedpgaa.OM
set_option maxRecDepth 100000
set_option maxHeartbeats 4000000

def ids : List (Nat × Nat) := [(64, 38), (136, 11), (147, 53), (148, 27), (172, 40), (187, 39), (215, 23), (239, 52), (240, 25), (345, 37)]
def fid (k : Nat) : FuncId := (ids.lookup k).getD 0
theorem chk_all : tab.all (fun p => chkF Try.prog fid (fid p.1) p.2) = true := by kernel_rfl
theorem seat_ok (f : Nat) (xs : List V) (r : V) (us : List (Nat × Nat × C)) (h : Gw TT f xs = some (r, us)) : OK Try.prog (fid f) xs r us := by
  refine Gw_ok (by kernel_rfl) (fun f F hF => ?_) f xs r us h
  exact List.all_eq_true.1 chk_all (f, F) (lookup_mem hF)

theorem has_57 {ds : List D} (h : HasT Try.prog 57 ds) : ∃ x : XDead, ds = x.e ∧ x.ok := by
  obtain ⟨hl, hf⟩ := h.fields (by kernel_rfl : fieldsOf Try.prog 57 = some [(3, 0, 1), (3, 1, 1), (3, 2, 1)]) (by kernel_rfl : Try.prog.cellsOf 57 = 3)
  match ds, hl with
  | [d0, d1, d2], _ =>
    obtain ⟨v0, e0, w0⟩ := (hf (3, 0, 1) (by simp)).int_inv (by kernel_rfl : Try.prog.underlying 3 = some (.int .i64))
    simp at e0
    subst e0
    obtain ⟨v1, e1, w1⟩ := (hf (3, 1, 1) (by simp)).int_inv (by kernel_rfl : Try.prog.underlying 3 = some (.int .i64))
    simp at e1
    subst e1
    obtain ⟨v2, e2, w2⟩ := (hf (3, 2, 1) (by simp)).int_inv (by kernel_rfl : Try.prog.underlying 3 = some (.int .i64))
    simp at e2
    subst e2
    exact ⟨⟨v0, v1, v2⟩, by simp, by simp only [XDead.ok]; exact ⟨wf_i64 w0, wf_i64 w1, wf_i64 w2⟩⟩

theorem own : ownKnob Try.prog.godebug = none := by kernel_rfl

theorem says (xs : List V) (h : ArgsT Try.prog Try.f11.params.toList xs) : OK Try.prog 11 xs (.one (.ro false (.bool true))) [] := by
  rw [show Try.f11.params.toList = [29, 3] from by kernel_rfl] at h
  obtain ⟨x0, xs, rfl, h0, h⟩ := h.cons_inv
  obtain ⟨x1, xs, rfl, h1, h⟩ := h.cons_inv
  obtain rfl := h.nil_inv
  obtain ⟨es0, rfl, m0, q0⟩ := h0.sl (by kernel_rfl : Try.prog.underlying 29 = some (.slice 57))
  rw [show Try.prog.cellsOf 57 = 3 from by kernel_rfl]
  obtain ⟨aL, rfl, l0, k0⟩ := list_dec (fun y hy => has_57 (q0 y hy))
  have hok_aL : aL.length ≤ 9223372036854775807 := Nat.le_trans (Nat.le_of_eq l0) m0
  obtain ⟨aI, rfl, w1⟩ := h1.int (by kernel_rfl : Try.prog.underlying 3 = some (.int .i64))
  exact seat_ok 136 _ _ _ (t136 aL aI hok_aL)

theorem lifted (os : Os) (started : os.Started) (H : Type) (enc : TypeId × Value → H) :
    ReturnsInHanded {} Try.checked os 11 .any (Rows.fnExactWithoutSpec.pre6 enc Try.prog Try.f11 Rows.fnExactWithoutRow.domain false) (Rows.fnExactWithoutSpec.post enc Try.prog Try.f11 false true false false) := by
  refine returnsInHanded_of_change (C := Try.checked) own started (by kernel_rfl) Try.func11
    (ChangeSpec.witness6 (enc := enc) (C := Try.checked) false ⟨#[], #[.slice none 0 0, .int .i64 0], []⟩ 8 (by kernel_rfl) (by kernel_rfl) (by kernel_rfl) (by kernel_rfl)) ?_
  intro W base args ds gs before hval0 hW hcnd _
  refine law_contract (S := [29, 57, 3]) (tb := 4) (by kernel_rfl) (by kernel_rfl) (by kernel_rfl) says (fun j t v h1 h2 => ⟨_, _, hval0 j t v h1 h2⟩) hW rfl (by kernel_rfl) (by kernel_rfl) (fun hl => ?_)
  match ds, hl with
  | [d0, d1], _ => exact ⟨rfl, rfl, rfl⟩

theorem over : Rows.fnExactWithoutRow.holds Try.pinned (OpenSpec.ofChange Rows.fnExactWithoutSpec) :=
  OpenClaim.holds_of_wide 11 Try.f11 rfl rfl rfl rfl rfl rfl rfl ⟨rfl, rfl, rfl, rfl, rfl⟩ rfl rfl rfl rfl rfl (by kernel_rfl) Try.func11 (by kernel_rfl)
    (of_decide_eq_true (by kernel_rfl)) (by unfold Func.isWrapper; first | (rw [if_pos (by decide +kernel)]; kernel_rfl) | (rw [if_neg (by decide +kernel)]; exact ⟨rfl, rfl⟩))
    (fun os started H enc _ => lifted os started H enc)

theorem proved : Rows.FnExactWithoutSaid := over
#print axioms proved
end Go.Proofs.Ytphnbkhopedpgaa.fnExactWithout
