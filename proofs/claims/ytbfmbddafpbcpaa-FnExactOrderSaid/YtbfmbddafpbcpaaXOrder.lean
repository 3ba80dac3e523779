/- The law FnExactOrder returns true for every input, and each argument reads behind the call as it read before. No condition. -/
import Derived.Test.YtbfmbddafpbcpaaXOrderLm1
import Derived.Test.YtbfmbddafpbcpaaOMLaw
import Derived.Test.YtbfmbddafpbcpaaRows
import Derived.KernelRfl
import Derived.WalkKit
import Derived.ProofKit
import Derived.OpenShut
set_option linter.all false
namespace Go.Proofs.Ytbfmbddafpbcpaa.fnExactOrder
open Go.ChangeShapes Go.WideShapes Go.ChangeAt Go.RowKit Go.Proofs.Ytbfmbddafpbcpaa.OM
set_option maxRecDepth 100000
set_option maxHeartbeats 4000000

theorem chk_all : tab.all (fun p => chkF Try.prog kap (kap p.1) p.2) = true := by kernel_rfl
theorem seat_ok (f : Nat) (xs : List V) (r : V) (us : List (Nat × Nat × C)) (h : Gw TT f xs = some (r, us)) : OK Try.prog (kap f) xs r us := by
  refine Gw_ok rfl (by kernel_rfl) (fun f F hF => ?_) f xs r us h
  exact List.all_eq_true.1 chk_all (f, F) (lookup_mem hF)

theorem has_24 {ds : List D} (h : HasT Try.prog 24 ds) : ∃ x : XVal, ds = x.e ∧ x.ok := by
  obtain ⟨hl, hf⟩ := h.fields (by kernel_rfl : fieldsOf Try.prog 24 = some [(3, 0, 1), (3, 1, 1), (9, 2, 1)]) (by kernel_rfl : Try.prog.cellsOf 24 = 3)
  match ds, hl with
  | [d0, d1, d2], _ =>
    obtain ⟨v0, e0, w0⟩ := (hf (3, 0, 1) (by simp)).int_inv (by kernel_rfl : Try.prog.underlying 3 = some (.int .i64))
    simp at e0
    subst e0
    obtain ⟨v1, e1, w1⟩ := (hf (3, 1, 1) (by simp)).int_inv (by kernel_rfl : Try.prog.underlying 3 = some (.int .i64))
    simp at e1
    subst e1
    obtain ⟨v2, e2, w2⟩ := (hf (9, 2, 1) (by simp)).str_inv (by kernel_rfl : Try.prog.underlying 9 = some .string)
    simp at e2
    subst e2
    exact ⟨⟨v0, v1, v2⟩, by simp, by simp only [XVal.ok]; exact ⟨wf_i64 w0, wf_i64 w1, w2⟩⟩

theorem has_27n : ∀ (n : Nat) (ds : List D), SizeOf.sizeOf ds < n → HasT Try.prog 27 ds → ∃ x : XPred, ds = x.e ∧ x.ok := by
  intro n
  induction n with
  | zero => intro ds h; omega
  | succ n ih =>
  intro ds hsz h
  obtain ⟨hl, hf⟩ := h.fields (by kernel_rfl : fieldsOf Try.prog 27 = some [(3, 0, 1), (3, 1, 1), (3, 2, 1), (24, 3, 3), (25, 6, 1)]) (by kernel_rfl : Try.prog.cellsOf 27 = 7)
  match ds, hl with
  | [d0, d1, d2, d3, d4, d5, d6], _ =>
    obtain ⟨v0, e0, w0⟩ := (hf (3, 0, 1) (by simp)).int_inv (by kernel_rfl : Try.prog.underlying 3 = some (.int .i64))
    simp at e0
    subst e0
    obtain ⟨v1, e1, w1⟩ := (hf (3, 1, 1) (by simp)).int_inv (by kernel_rfl : Try.prog.underlying 3 = some (.int .i64))
    simp at e1
    subst e1
    obtain ⟨v2, e2, w2⟩ := (hf (3, 2, 1) (by simp)).int_inv (by kernel_rfl : Try.prog.underlying 3 = some (.int .i64))
    simp at e2
    subst e2
    obtain ⟨y3, e3, k3⟩ := has_24 (hf (24, 3, 3) (by simp))
    obtain ⟨z3_Ty, z3_N, z3_S⟩ := y3
    simp at e3
    obtain ⟨rfl, rfl, rfl⟩ := e3
    obtain ⟨es4, e4, m4, q4⟩ := (hf (25, 6, 1) (by simp)).sl_inv (by kernel_rfl : Try.prog.underlying 25 = some (.slice 27))
    rw [show Try.prog.cellsOf 27 = 7 from by kernel_rfl] at e4
    simp at e4
    subst e4
    obtain ⟨v4, rfl, l4, k4⟩ := list_dec (fun y hy => ih y (by have h1 := List.sizeOf_lt_of_mem hy; simp at hsz; omega) (q4 y hy))
    exact ⟨⟨v0, v1, v2, ⟨z3_Ty, z3_N, z3_S⟩, v4⟩, by simp, by simp only [XPred.ok_eq]; exact ⟨wf_i64 w0, wf_i64 w1, wf_i64 w2, k3, Nat.le_trans (Nat.le_of_eq l4) m4, (by rw [XPred.oks_eq]; exact k4)⟩⟩

theorem has_27 {ds : List D} (h : HasT Try.prog 27 ds) : ∃ x : XPred, ds = x.e ∧ x.ok := has_27n _ ds (Nat.lt_succ_self _) h

theorem has_int_3 {ds : List D} (h : HasT Try.prog 3 ds) : ∃ n : Int, ds = ei n ∧ (-9223372036854775808 ≤ n ∧ n ≤ 9223372036854775807) := by
  obtain ⟨n, rfl, w⟩ := h.int_inv (by kernel_rfl : Try.prog.underlying 3 = some (.int .i64))
  exact ⟨n, rfl, wf_i64 w⟩

theorem has_30 {ds : List D} (h : HasT Try.prog 30 ds) : ∃ x : XQuery, ds = x.e ∧ x.ok := by
  obtain ⟨hl, hf⟩ := h.fields (by kernel_rfl : fieldsOf Try.prog 30 = some [(3, 0, 1), (27, 1, 7), (3, 8, 1), (28, 9, 1)]) (by kernel_rfl : Try.prog.cellsOf 30 = 10)
  match ds, hl with
  | [d0, d1, d2, d3, d4, d5, d6, d7, d8, d9], _ =>
    obtain ⟨v0, e0, w0⟩ := (hf (3, 0, 1) (by simp)).int_inv (by kernel_rfl : Try.prog.underlying 3 = some (.int .i64))
    simp at e0
    subst e0
    obtain ⟨y1, e1, k1⟩ := has_27 (hf (27, 1, 7) (by simp))
    obtain ⟨z1_Kind, z1_Col, z1_Op, ⟨z1_V_Ty, z1_V_N, z1_V_S⟩, z1_L⟩ := y1
    simp at e1
    obtain ⟨rfl, rfl, rfl, rfl, rfl, rfl, rfl⟩ := e1
    obtain ⟨v2, e2, w2⟩ := (hf (3, 8, 1) (by simp)).int_inv (by kernel_rfl : Try.prog.underlying 3 = some (.int .i64))
    simp at e2
    subst e2
    obtain ⟨es3, e3, m3, q3⟩ := (hf (28, 9, 1) (by simp)).sl_inv (by kernel_rfl : Try.prog.underlying 28 = some (.slice 3))
    rw [show Try.prog.cellsOf 3 = 1 from by kernel_rfl] at e3
    simp at e3
    subst e3
    obtain ⟨v3, rfl, l3, k3⟩ := list_dec (fun y hy => has_int_3 (q3 y hy))
    exact ⟨⟨v0, ⟨z1_Kind, z1_Col, z1_Op, ⟨z1_V_Ty, z1_V_N, z1_V_S⟩, z1_L⟩, v2, v3⟩, by simp, by simp only [XQuery.ok]; exact ⟨wf_i64 w0, k1, wf_i64 w2, Nat.le_trans (Nat.le_of_eq l3) m3, k3⟩⟩

theorem has_134 {ds : List D} (h : HasT Try.prog 134 ds) : ∃ x : XRow, ds = x.e ∧ x.ok := by
  obtain ⟨hl, hf⟩ := h.fields (by kernel_rfl : fieldsOf Try.prog 134 = some [(3, 0, 1), (22, 1, 1)]) (by kernel_rfl : Try.prog.cellsOf 134 = 2)
  match ds, hl with
  | [d0, d1], _ =>
    obtain ⟨v0, e0, w0⟩ := (hf (3, 0, 1) (by simp)).int_inv (by kernel_rfl : Try.prog.underlying 3 = some (.int .i64))
    simp at e0
    subst e0
    obtain ⟨es1, e1, m1, q1⟩ := (hf (22, 1, 1) (by simp)).sl_inv (by kernel_rfl : Try.prog.underlying 22 = some (.slice 24))
    rw [show Try.prog.cellsOf 24 = 3 from by kernel_rfl] at e1
    simp at e1
    subst e1
    obtain ⟨v1, rfl, l1, k1⟩ := list_dec (fun y hy => has_24 (q1 y hy))
    exact ⟨⟨v0, v1⟩, by simp, by simp only [XRow.ok]; exact ⟨wf_i64 w0, Nat.le_trans (Nat.le_of_eq l1) m1, k1⟩⟩

theorem has_33 {ds : List D} (h : HasT Try.prog 33 ds) : ∃ x : XResult, ds = x.e ∧ x.ok := by
  obtain ⟨hl, hf⟩ := h.fields (by kernel_rfl : fieldsOf Try.prog 33 = some [(31, 0, 1), (3, 1, 1), (4, 2, 1), (24, 3, 3)]) (by kernel_rfl : Try.prog.cellsOf 33 = 6)
  match ds, hl with
  | [d0, d1, d2, d3, d4, d5], _ =>
    obtain ⟨es0, e0, m0, q0⟩ := (hf (31, 0, 1) (by simp)).sl_inv (by kernel_rfl : Try.prog.underlying 31 = some (.slice 134))
    rw [show Try.prog.cellsOf 134 = 2 from by kernel_rfl] at e0
    simp at e0
    subst e0
    obtain ⟨v0, rfl, l0, k0⟩ := list_dec (fun y hy => has_134 (q0 y hy))
    obtain ⟨v1, e1, w1⟩ := (hf (3, 1, 1) (by simp)).int_inv (by kernel_rfl : Try.prog.underlying 3 = some (.int .i64))
    simp at e1
    subst e1
    obtain ⟨v2, e2⟩ := (hf (4, 2, 1) (by simp)).bool_inv (by kernel_rfl : Try.prog.underlying 4 = some .bool)
    simp at e2
    subst e2
    obtain ⟨y3, e3, k3⟩ := has_24 (hf (24, 3, 3) (by simp))
    obtain ⟨z3_Ty, z3_N, z3_S⟩ := y3
    simp at e3
    obtain ⟨rfl, rfl, rfl⟩ := e3
    exact ⟨⟨v0, v1, v2, ⟨z3_Ty, z3_N, z3_S⟩⟩, by simp, by simp only [XResult.ok]; exact ⟨Nat.le_trans (Nat.le_of_eq l0) m0, k0, wf_i64 w1, k3⟩⟩

theorem has_35 {ds : List D} (h : HasT Try.prog 35 ds) : ∃ x : XDeed, ds = x.e ∧ x.ok := by
  obtain ⟨hl, hf⟩ := h.fields (by kernel_rfl : fieldsOf Try.prog 35 = some [(3, 0, 1), (3, 1, 1), (22, 2, 1), (3, 3, 1), (30, 4, 10), (33, 14, 6), (3, 20, 1), (3, 21, 1), (3, 22, 1), (3, 23, 1), (3, 24, 1)]) (by kernel_rfl : Try.prog.cellsOf 35 = 25)
  match ds, hl with
  | [d0, d1, d2, d3, d4, d5, d6, d7, d8, d9, d10, d11, d12, d13, d14, d15, d16, d17, d18, d19, d20, d21, d22, d23, d24], _ =>
    obtain ⟨v0, e0, w0⟩ := (hf (3, 0, 1) (by simp)).int_inv (by kernel_rfl : Try.prog.underlying 3 = some (.int .i64))
    simp at e0
    subst e0
    obtain ⟨v1, e1, w1⟩ := (hf (3, 1, 1) (by simp)).int_inv (by kernel_rfl : Try.prog.underlying 3 = some (.int .i64))
    simp at e1
    subst e1
    obtain ⟨es2, e2, m2, q2⟩ := (hf (22, 2, 1) (by simp)).sl_inv (by kernel_rfl : Try.prog.underlying 22 = some (.slice 24))
    rw [show Try.prog.cellsOf 24 = 3 from by kernel_rfl] at e2
    simp at e2
    subst e2
    obtain ⟨v2, rfl, l2, k2⟩ := list_dec (fun y hy => has_24 (q2 y hy))
    obtain ⟨v3, e3, w3⟩ := (hf (3, 3, 1) (by simp)).int_inv (by kernel_rfl : Try.prog.underlying 3 = some (.int .i64))
    simp at e3
    subst e3
    obtain ⟨y4, e4, k4⟩ := has_30 (hf (30, 4, 10) (by simp))
    obtain ⟨z4_Kind, ⟨z4_P_Kind, z4_P_Col, z4_P_Op, ⟨z4_P_V_Ty, z4_P_V_N, z4_P_V_S⟩, z4_P_L⟩, z4_Col, z4_Out⟩ := y4
    simp at e4
    obtain ⟨rfl, rfl, rfl, rfl, rfl, rfl, rfl, rfl, rfl, rfl⟩ := e4
    obtain ⟨y5, e5, k5⟩ := has_33 (hf (33, 14, 6) (by simp))
    obtain ⟨z5_Rows, z5_N, z5_Has, ⟨z5_V_Ty, z5_V_N, z5_V_S⟩⟩ := y5
    simp at e5
    obtain ⟨rfl, rfl, rfl, rfl, rfl, rfl⟩ := e5
    obtain ⟨v6, e6, w6⟩ := (hf (3, 20, 1) (by simp)).int_inv (by kernel_rfl : Try.prog.underlying 3 = some (.int .i64))
    simp at e6
    subst e6
    obtain ⟨v7, e7, w7⟩ := (hf (3, 21, 1) (by simp)).int_inv (by kernel_rfl : Try.prog.underlying 3 = some (.int .i64))
    simp at e7
    subst e7
    obtain ⟨v8, e8, w8⟩ := (hf (3, 22, 1) (by simp)).int_inv (by kernel_rfl : Try.prog.underlying 3 = some (.int .i64))
    simp at e8
    subst e8
    obtain ⟨v9, e9, w9⟩ := (hf (3, 23, 1) (by simp)).int_inv (by kernel_rfl : Try.prog.underlying 3 = some (.int .i64))
    simp at e9
    subst e9
    obtain ⟨v10, e10, w10⟩ := (hf (3, 24, 1) (by simp)).int_inv (by kernel_rfl : Try.prog.underlying 3 = some (.int .i64))
    simp at e10
    subst e10
    exact ⟨⟨v0, v1, v2, v3, ⟨z4_Kind, ⟨z4_P_Kind, z4_P_Col, z4_P_Op, ⟨z4_P_V_Ty, z4_P_V_N, z4_P_V_S⟩, z4_P_L⟩, z4_Col, z4_Out⟩, ⟨z5_Rows, z5_N, z5_Has, ⟨z5_V_Ty, z5_V_N, z5_V_S⟩⟩, v6, v7, v8, v9, v10⟩, by simp, by simp only [XDeed.ok]; exact ⟨wf_i64 w0, wf_i64 w1, Nat.le_trans (Nat.le_of_eq l2) m2, k2, wf_i64 w3, k4, k5, wf_i64 w6, wf_i64 w7, wf_i64 w8, wf_i64 w9, wf_i64 w10⟩⟩

theorem own : ownKnob Try.prog.godebug = none := by kernel_rfl

theorem says (xs : List V) (h : ArgsT Try.prog Try.f12.params.toList xs) : OK Try.prog 12 xs (.one (.ro false (.bool true))) [] := by
  rw [show Try.f12.params.toList = [65] from by kernel_rfl] at h
  obtain ⟨x0, xs, rfl, h0, h⟩ := h.cons_inv
  obtain rfl := h.nil_inv
  obtain ⟨es0, rfl, m0, q0⟩ := h0.sl (by kernel_rfl : Try.prog.underlying 65 = some (.slice 35))
  rw [show Try.prog.cellsOf 35 = 25 from by kernel_rfl]
  obtain ⟨aL, rfl, l0, k0⟩ := list_dec (fun y hy => has_35 (q0 y hy))
  have hok_aL : aL.length ≤ 9223372036854775807 := Nat.le_trans (Nat.le_of_eq l0) m0
  exact seat_ok 117 _ _ _ (t117 aL hok_aL k0)

theorem lifted (os : Os) (started : os.Started) (H : Type) (enc : TypeId × Value → H) :
    ReturnsInHanded {} Try.checked os 12 .any (Rows.fnExactOrderSpec.pre6 enc Try.prog Try.f12 Rows.fnExactOrderRow.domain false) (Rows.fnExactOrderSpec.post enc Try.prog Try.f12 false true false false) := by
  refine returnsInHanded_of_change (C := Try.checked) own started (by kernel_rfl) Try.func12
    (ChangeSpec.witness6 (enc := enc) (C := Try.checked) false ⟨#[], #[.slice none 0 0], []⟩ 8 (by kernel_rfl) (by kernel_rfl) (by kernel_rfl) (by kernel_rfl)) ?_
  intro W base args ds gs before hval0 hW hcnd _
  refine law_contract (S := [65, 35, 3, 22, 24, 9, 30, 27, 25, 28, 33, 31, 134, 4]) (tb := 4) (by kernel_rfl) (by kernel_rfl) (by kernel_rfl) says (fun j t v h1 h2 => ⟨_, _, hval0 j t v h1 h2⟩) hW rfl (by kernel_rfl) (by kernel_rfl) (fun hl => ?_)
  match ds, hl with
  | [d0], _ => exact ⟨rfl, rfl, rfl⟩

theorem over : Rows.fnExactOrderRow.holds Try.pinned (OpenSpec.ofChange Rows.fnExactOrderSpec) :=
  OpenClaim.holds_of_wide 12 Try.f12 rfl rfl rfl rfl rfl rfl rfl ⟨rfl, rfl, rfl, rfl, rfl⟩ rfl rfl rfl rfl rfl (by kernel_rfl) Try.func12 (by kernel_rfl)
    (of_decide_eq_true (by kernel_rfl)) (by unfold Func.isWrapper; first | (rw [if_pos (by decide +kernel)]; kernel_rfl) | (rw [if_neg (by decide +kernel)]; exact ⟨rfl, rfl⟩))
    (fun os started H enc _ => lifted os started H enc)

theorem proved : Rows.FnExactOrderSaid := over
#print axioms proved
end Go.Proofs.Ytbfmbddafpbcpaa.fnExactOrder
