/- The law FnExactTake returns true for every input, and each argument reads behind the call as it read before. No condition. -/
import Derived.Test.YtloninhfmfggaaaXTakeLm0
import Derived.Test.YtloninhfmfggaaaOMLaw
import Derived.Test.YtloninhfmfggaaaRows
import Derived.KernelRfl
import Derived.WalkKit
import Derived.ProofKit
import Derived.OpenShut
set_option linter.all false
namespace Go.Proofs.Ytloninhfmfggaaa.fnExactTake
open Go.ChangeShapes Go.WideShapes Go.ChangeAt Go.RowKit Go.Proofs.Ytloninhfmfggaaa.OM
set_option maxRecDepth 100000
set_option maxHeartbeats 4000000

def ids : List (Nat × Nat) := [(9, 66), (57, 47), (69, 116), (70, 77), (73, 96), (76, 82), (87, 68), (131, 11), (142, 39), (143, 16), (144, 92), (145, 23), (161, 110), (162, 79), (165, 128), (166, 111), (168, 18), (169, 72), (179, 71), (181, 85), (183, 17), (184, 70), (194, 69), (196, 112), (197, 84), (210, 35), (211, 26), (212, 86), (213, 19), (227, 108), (228, 73), (231, 135), (232, 126), (234, 37), (235, 28), (236, 89), (237, 21), (253, 109), (254, 76), (257, 136), (258, 127), (265, 67), (338, 46), (359, 74), (362, 95), (363, 115), (377, 75)]
def fid (k : Nat) : FuncId := (ids.lookup k).getD 0
theorem chk_all : tab.all (fun p => chkF Try.prog fid (fid p.1) p.2) = true := by kernel_rfl
theorem seat_ok (f : Nat) (xs : List V) (r : V) (us : List (Nat × Nat × C)) (h : Gw TT f xs = some (r, us)) : OK Try.prog (fid f) xs r us := by
  refine Gw_ok (by kernel_rfl) (fun f F hF => ?_) f xs r us h
  exact List.all_eq_true.1 chk_all (f, F) (lookup_mem hF)

theorem has_139 {ds : List D} (h : HasT Try.prog 139 ds) : ∃ x : XVal, ds = x.e ∧ x.ok := by
  obtain ⟨hl, hf⟩ := h.fields (by kernel_rfl : fieldsOf Try.prog 139 = some [(3, 0, 1), (3, 1, 1), (9, 2, 1)]) (by kernel_rfl : Try.prog.cellsOf 139 = 3)
  match ds, hl with
  | [d0, d1, d2], _ =>
    obtain ⟨v0, e0, w0⟩ := (hf (3, 0, 1) (by simp)).int_inv (by kernel_rfl : Try.prog.underlying 3 = some (.int .i64))
    simp at e0
    subst e0
    obtain ⟨v1, e1, w1⟩ := (hf (3, 1, 1) (by simp)).int_inv (by kernel_rfl : Try.prog.underlying 3 = some (.int .i64))
    simp at e1
    subst e1
    obtain ⟨v2, e2, w2⟩ := (hf (9, 2, 1) (by simp)).str_inv (by kernel_rfl : Try.prog.underlying 9 = some .string)
    simp at e2
    subst e2
    exact ⟨⟨v0, v1, v2⟩, by simp, by simp only [XVal.ok]; exact ⟨wf_i64 w0, wf_i64 w1, w2⟩⟩

theorem has_120 {ds : List D} (h : HasT Try.prog 120 ds) : ∃ x : XSlot, ds = x.e ∧ x.ok := by
  obtain ⟨hl, hf⟩ := h.fields (by kernel_rfl : fieldsOf Try.prog 120 = some [(3, 0, 1), (118, 1, 1)]) (by kernel_rfl : Try.prog.cellsOf 120 = 2)
  match ds, hl with
  | [d0, d1], _ =>
    obtain ⟨v0, e0, w0⟩ := (hf (3, 0, 1) (by simp)).int_inv (by kernel_rfl : Try.prog.underlying 3 = some (.int .i64))
    simp at e0
    subst e0
    obtain ⟨es1, e1, m1, q1⟩ := (hf (118, 1, 1) (by simp)).sl_inv (by kernel_rfl : Try.prog.underlying 118 = some (.slice 139))
    rw [show Try.prog.cellsOf 139 = 3 from by kernel_rfl] at e1
    simp at e1
    subst e1
    obtain ⟨v1, rfl, l1, k1⟩ := list_dec (fun y hy => has_139 (q1 y hy))
    exact ⟨⟨v0, v1⟩, by simp, by simp only [XSlot.ok]; exact ⟨wf_i64 w0, Nat.le_trans (Nat.le_of_eq l1) m1, k1⟩⟩

theorem has_29 {ds : List D} (h : HasT Try.prog 29 ds) : ∃ x : XChunk, ds = x.e ∧ x.ok := by
  obtain ⟨hl, hf⟩ := h.fields (by kernel_rfl : fieldsOf Try.prog 29 = some [(3, 0, 1), (27, 1, 1)]) (by kernel_rfl : Try.prog.cellsOf 29 = 2)
  match ds, hl with
  | [d0, d1], _ =>
    obtain ⟨v0, e0, w0⟩ := (hf (3, 0, 1) (by simp)).int_inv (by kernel_rfl : Try.prog.underlying 3 = some (.int .i64))
    simp at e0
    subst e0
    obtain ⟨es1, e1, m1, q1⟩ := (hf (27, 1, 1) (by simp)).sl_inv (by kernel_rfl : Try.prog.underlying 27 = some (.slice 120))
    rw [show Try.prog.cellsOf 120 = 2 from by kernel_rfl] at e1
    simp at e1
    subst e1
    obtain ⟨v1, rfl, l1, k1⟩ := list_dec (fun y hy => has_120 (q1 y hy))
    exact ⟨⟨v0, v1⟩, by simp, by simp only [XChunk.ok]; exact ⟨wf_i64 w0, Nat.le_trans (Nat.le_of_eq l1) m1, k1⟩⟩

theorem has_int_5 {ds : List D} (h : HasT Try.prog 5 ds) : ∃ n : Int, ds = eb n ∧ (0 ≤ n ∧ n ≤ 255) := by
  obtain ⟨n, rfl, w⟩ := h.int_inv (by kernel_rfl : Try.prog.underlying 5 = some (.int .u8))
  exact ⟨n, rfl, wf_u8 w⟩

theorem has_52 {ds : List D} (h : HasT Try.prog 52 ds) : ∃ x : XBuf, ds = x.e ∧ x.ok := by
  obtain ⟨hl, hf⟩ := h.fields (by kernel_rfl : fieldsOf Try.prog 52 = some [(3, 0, 1), (3, 1, 1), (29, 2, 2), (50, 4, 1)]) (by kernel_rfl : Try.prog.cellsOf 52 = 5)
  match ds, hl with
  | [d0, d1, d2, d3, d4], _ =>
    obtain ⟨v0, e0, w0⟩ := (hf (3, 0, 1) (by simp)).int_inv (by kernel_rfl : Try.prog.underlying 3 = some (.int .i64))
    simp at e0
    subst e0
    obtain ⟨v1, e1, w1⟩ := (hf (3, 1, 1) (by simp)).int_inv (by kernel_rfl : Try.prog.underlying 3 = some (.int .i64))
    simp at e1
    subst e1
    obtain ⟨y2, e2, k2⟩ := has_29 (hf (29, 2, 2) (by simp))
    obtain ⟨z2_Next, z2_L⟩ := y2
    simp at e2
    obtain ⟨rfl, rfl⟩ := e2
    obtain ⟨es3, e3, m3, q3⟩ := (hf (50, 4, 1) (by simp)).sl_inv (by kernel_rfl : Try.prog.underlying 50 = some (.slice 5))
    rw [show Try.prog.cellsOf 5 = 1 from by kernel_rfl] at e3
    simp at e3
    subst e3
    obtain ⟨v3, rfl, l3, k3⟩ := list_dec (fun y hy => has_int_5 (q3 y hy))
    exact ⟨⟨v0, v1, ⟨z2_Next, z2_L⟩, v3⟩, by simp, by simp only [XBuf.ok]; exact ⟨wf_i64 w0, wf_i64 w1, k2, Nat.le_trans (Nat.le_of_eq l3) m3, k3⟩⟩

theorem own : ownKnob Try.prog.godebug = none := by kernel_rfl

theorem says (xs : List V) (h : ArgsT Try.prog Try.f11.params.toList xs) : OK Try.prog 11 xs (.one (.ro false (.bool true))) [] := by
  rw [show Try.f11.params.toList = [40, 3, 3] from by kernel_rfl] at h
  obtain ⟨x0, xs, rfl, h0, h⟩ := h.cons_inv
  obtain ⟨x1, xs, rfl, h1, h⟩ := h.cons_inv
  obtain ⟨x2, xs, rfl, h2, h⟩ := h.cons_inv
  obtain rfl := h.nil_inv
  obtain ⟨es0, rfl, m0, q0⟩ := h0.sl (by kernel_rfl : Try.prog.underlying 40 = some (.slice 52))
  rw [show Try.prog.cellsOf 52 = 5 from by kernel_rfl]
  obtain ⟨aL, rfl, l0, k0⟩ := list_dec (fun y hy => has_52 (q0 y hy))
  have hok_aL : aL.length ≤ 9223372036854775807 := Nat.le_trans (Nat.le_of_eq l0) m0
  obtain ⟨aKind, rfl, w1⟩ := h1.int (by kernel_rfl : Try.prog.underlying 3 = some (.int .i64))
  obtain ⟨aSlots, rfl, w2⟩ := h2.int (by kernel_rfl : Try.prog.underlying 3 = some (.int .i64))
  exact seat_ok 131 _ _ _ (t131 aL aKind aSlots hok_aL k0)

theorem lifted (os : Os) (started : os.Started) (H : Type) (enc : TypeId × Value → H) :
    ReturnsInHanded {} Try.checked os 11 .any (Rows.fnExactTakeSpec.pre6 enc Try.prog Try.f11 Rows.fnExactTakeRow.domain false) (Rows.fnExactTakeSpec.post enc Try.prog Try.f11 false true false false) := by
  refine returnsInHanded_of_change (C := Try.checked) own started (by kernel_rfl) Try.func11
    (ChangeSpec.witness6 (enc := enc) (C := Try.checked) false ⟨#[], #[.slice none 0 0, .int .i64 0, .int .i64 0], []⟩ 8 (by kernel_rfl) (by kernel_rfl) (by kernel_rfl) (by kernel_rfl)) ?_
  intro W base args ds gs before hval0 hW hcnd _
  refine law_contract (S := [40, 52, 3, 29, 27, 120, 118, 139, 9, 50, 5]) (tb := 4) (by kernel_rfl) (by kernel_rfl) (by kernel_rfl) says (fun j t v h1 h2 => ⟨_, _, hval0 j t v h1 h2⟩) hW rfl (by kernel_rfl) (by kernel_rfl) (fun hl => ?_)
  match ds, hl with
  | [d0, d1, d2], _ => exact ⟨rfl, rfl, rfl⟩

theorem over : Rows.fnExactTakeRow.holds Try.pinned (OpenSpec.ofChange Rows.fnExactTakeSpec) :=
  OpenClaim.holds_of_wide 11 Try.f11 rfl rfl rfl rfl rfl rfl rfl ⟨rfl, rfl, rfl, rfl, rfl⟩ rfl rfl rfl rfl rfl (by kernel_rfl) Try.func11 (by kernel_rfl)
    (of_decide_eq_true (by kernel_rfl)) (by unfold Func.isWrapper; first | (rw [if_pos (by decide +kernel)]; kernel_rfl) | (rw [if_neg (by decide +kernel)]; exact ⟨rfl, rfl⟩))
    (fun os started H enc _ => lifted os started H enc)

theorem proved : Rows.FnExactTakeSaid := over
#print axioms proved
end Go.Proofs.Ytloninhfmfggaaa.fnExactTake
