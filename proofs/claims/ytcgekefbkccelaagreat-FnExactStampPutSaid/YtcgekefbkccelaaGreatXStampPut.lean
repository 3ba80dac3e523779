/- The law FnExactStampPut returns true for every input, and each argument reads behind the call as it read before. No condition. -/
import Derived.Test.YtcgekefbkccelaaGreatXStampPutLm2
import Derived.Test.YtcgekefbkccelaaGreatOMLaw
import Derived.Test.YtcgekefbkccelaaGreatRows
import Derived.KernelRfl
import Derived.WalkKit
import Derived.ProofKit
import Derived.OpenShut
set_option linter.all false
namespace Go.Proofs.YtcgekefbkccelaaGreat.fnExactStampPut
open Go.ChangeShapes Go.WideShapes Go.ChangeAt Go.RowKit Go.Proofs.YtcgekefbkccelaaGreat.OM
set_option maxRecDepth 100000
set_option maxHeartbeats 4000000

theorem chk_all : tab.all (fun p => chkF Tryz.prog kap (kap p.1) p.2) = true := by kernel_rfl
theorem seat_ok (f : Nat) (xs : List V) (r : V) (us : List (Nat × Nat × C)) (h : Gw TT f xs = some (r, us)) : OK Tryz.prog (kap f) xs r us := by
  refine Gw_ok rfl (by kernel_rfl) (fun f F hF => ?_) f xs r us h
  exact List.all_eq_true.1 chk_all (f, F) (lookup_mem hF)

theorem has_int_3 {ds : List D} (h : HasT Tryz.prog 3 ds) : ∃ n : Int, ds = ei n ∧ (-9223372036854775808 ≤ n ∧ n ≤ 9223372036854775807) := by
  obtain ⟨n, rfl, w⟩ := h.int_inv (by kernel_rfl : Tryz.prog.underlying 3 = some (.int .i64))
  exact ⟨n, rfl, wf_i64 w⟩

theorem has_24 {ds : List D} (h : HasT Tryz.prog 24 ds) : ∃ x : XConf, ds = x.e ∧ x.ok := by
  obtain ⟨hl, hf⟩ := h.fields (by kernel_rfl : fieldsOf Tryz.prog 24 = some [(22, 0, 1), (3, 1, 1), (3, 2, 1)]) (by kernel_rfl : Tryz.prog.cellsOf 24 = 3)
  match ds, hl with
  | [d0, d1, d2], _ =>
    obtain ⟨es0, e0, m0, q0⟩ := (hf (22, 0, 1) (by simp)).sl_inv (by kernel_rfl : Tryz.prog.underlying 22 = some (.slice 3))
    rw [show Tryz.prog.cellsOf 3 = 1 from by kernel_rfl] at e0
    simp at e0
    subst e0
    obtain ⟨v0, rfl, l0, k0⟩ := list_dec (fun y hy => has_int_3 (q0 y hy))
    obtain ⟨v1, e1, w1⟩ := (hf (3, 1, 1) (by simp)).int_inv (by kernel_rfl : Tryz.prog.underlying 3 = some (.int .i64))
    simp at e1
    subst e1
    obtain ⟨v2, e2, w2⟩ := (hf (3, 2, 1) (by simp)).int_inv (by kernel_rfl : Tryz.prog.underlying 3 = some (.int .i64))
    simp at e2
    subst e2
    exact ⟨⟨v0, v1, v2⟩, by simp, by simp only [XConf.ok]; exact ⟨Nat.le_trans (Nat.le_of_eq l0) m0, k0, wf_i64 w1, wf_i64 w2⟩⟩

theorem has_35 {ds : List D} (h : HasT Tryz.prog 35 ds) : ∃ x : XRef, ds = x.e ∧ x.ok := by
  obtain ⟨hl, hf⟩ := h.fields (by kernel_rfl : fieldsOf Tryz.prog 35 = some [(3, 0, 1), (3, 1, 1), (3, 2, 1), (3, 3, 1), (3, 4, 1)]) (by kernel_rfl : Tryz.prog.cellsOf 35 = 5)
  match ds, hl with
  | [d0, d1, d2, d3, d4], _ =>
    obtain ⟨v0, e0, w0⟩ := (hf (3, 0, 1) (by simp)).int_inv (by kernel_rfl : Tryz.prog.underlying 3 = some (.int .i64))
    simp at e0
    subst e0
    obtain ⟨v1, e1, w1⟩ := (hf (3, 1, 1) (by simp)).int_inv (by kernel_rfl : Tryz.prog.underlying 3 = some (.int .i64))
    simp at e1
    subst e1
    obtain ⟨v2, e2, w2⟩ := (hf (3, 2, 1) (by simp)).int_inv (by kernel_rfl : Tryz.prog.underlying 3 = some (.int .i64))
    simp at e2
    subst e2
    obtain ⟨v3, e3, w3⟩ := (hf (3, 3, 1) (by simp)).int_inv (by kernel_rfl : Tryz.prog.underlying 3 = some (.int .i64))
    simp at e3
    subst e3
    obtain ⟨v4, e4, w4⟩ := (hf (3, 4, 1) (by simp)).int_inv (by kernel_rfl : Tryz.prog.underlying 3 = some (.int .i64))
    simp at e4
    subst e4
    exact ⟨⟨v0, v1, v2, v3, v4⟩, by simp, by simp only [XRef.ok]; exact ⟨wf_i64 w0, wf_i64 w1, wf_i64 w2, wf_i64 w3, wf_i64 w4⟩⟩

theorem has_27 {ds : List D} (h : HasT Tryz.prog 27 ds) : ∃ x : XDir, ds = x.e ∧ x.ok := by
  obtain ⟨hl, hf⟩ := h.fields (by kernel_rfl : fieldsOf Tryz.prog 27 = some [(3, 0, 1), (25, 1, 1)]) (by kernel_rfl : Tryz.prog.cellsOf 27 = 2)
  match ds, hl with
  | [d0, d1], _ =>
    obtain ⟨v0, e0, w0⟩ := (hf (3, 0, 1) (by simp)).int_inv (by kernel_rfl : Tryz.prog.underlying 3 = some (.int .i64))
    simp at e0
    subst e0
    obtain ⟨es1, e1, m1, q1⟩ := (hf (25, 1, 1) (by simp)).sl_inv (by kernel_rfl : Tryz.prog.underlying 25 = some (.slice 35))
    rw [show Tryz.prog.cellsOf 35 = 5 from by kernel_rfl] at e1
    simp at e1
    subst e1
    obtain ⟨v1, rfl, l1, k1⟩ := list_dec (fun y hy => has_35 (q1 y hy))
    exact ⟨⟨v0, v1⟩, by simp, by simp only [XDir.ok]; exact ⟨wf_i64 w0, Nat.le_trans (Nat.le_of_eq l1) m1, k1⟩⟩

theorem has_37 {ds : List D} (h : HasT Tryz.prog 37 ds) : ∃ x : XVal, ds = x.e ∧ x.ok := by
  obtain ⟨hl, hf⟩ := h.fields (by kernel_rfl : fieldsOf Tryz.prog 37 = some [(3, 0, 1), (3, 1, 1), (9, 2, 1)]) (by kernel_rfl : Tryz.prog.cellsOf 37 = 3)
  match ds, hl with
  | [d0, d1, d2], _ =>
    obtain ⟨v0, e0, w0⟩ := (hf (3, 0, 1) (by simp)).int_inv (by kernel_rfl : Tryz.prog.underlying 3 = some (.int .i64))
    simp at e0
    subst e0
    obtain ⟨v1, e1, w1⟩ := (hf (3, 1, 1) (by simp)).int_inv (by kernel_rfl : Tryz.prog.underlying 3 = some (.int .i64))
    simp at e1
    subst e1
    obtain ⟨v2, e2, w2⟩ := (hf (9, 2, 1) (by simp)).str_inv (by kernel_rfl : Tryz.prog.underlying 9 = some .string)
    simp at e2
    subst e2
    exact ⟨⟨v0, v1, v2⟩, by simp, by simp only [XVal.ok]; exact ⟨wf_i64 w0, wf_i64 w1, w2⟩⟩

theorem has_288 {ds : List D} (h : HasT Tryz.prog 288 ds) : ∃ x : XSlot, ds = x.e ∧ x.ok := by
  obtain ⟨hl, hf⟩ := h.fields (by kernel_rfl : fieldsOf Tryz.prog 288 = some [(3, 0, 1), (197, 1, 1)]) (by kernel_rfl : Tryz.prog.cellsOf 288 = 2)
  match ds, hl with
  | [d0, d1], _ =>
    obtain ⟨v0, e0, w0⟩ := (hf (3, 0, 1) (by simp)).int_inv (by kernel_rfl : Tryz.prog.underlying 3 = some (.int .i64))
    simp at e0
    subst e0
    obtain ⟨es1, e1, m1, q1⟩ := (hf (197, 1, 1) (by simp)).sl_inv (by kernel_rfl : Tryz.prog.underlying 197 = some (.slice 37))
    rw [show Tryz.prog.cellsOf 37 = 3 from by kernel_rfl] at e1
    simp at e1
    subst e1
    obtain ⟨v1, rfl, l1, k1⟩ := list_dec (fun y hy => has_37 (q1 y hy))
    exact ⟨⟨v0, v1⟩, by simp, by simp only [XSlot.ok]; exact ⟨wf_i64 w0, Nat.le_trans (Nat.le_of_eq l1) m1, k1⟩⟩

theorem has_82 {ds : List D} (h : HasT Tryz.prog 82 ds) : ∃ x : XChunk, ds = x.e ∧ x.ok := by
  obtain ⟨hl, hf⟩ := h.fields (by kernel_rfl : fieldsOf Tryz.prog 82 = some [(3, 0, 1), (80, 1, 1)]) (by kernel_rfl : Tryz.prog.cellsOf 82 = 2)
  match ds, hl with
  | [d0, d1], _ =>
    obtain ⟨v0, e0, w0⟩ := (hf (3, 0, 1) (by simp)).int_inv (by kernel_rfl : Tryz.prog.underlying 3 = some (.int .i64))
    simp at e0
    subst e0
    obtain ⟨es1, e1, m1, q1⟩ := (hf (80, 1, 1) (by simp)).sl_inv (by kernel_rfl : Tryz.prog.underlying 80 = some (.slice 288))
    rw [show Tryz.prog.cellsOf 288 = 2 from by kernel_rfl] at e1
    simp at e1
    subst e1
    obtain ⟨v1, rfl, l1, k1⟩ := list_dec (fun y hy => has_288 (q1 y hy))
    exact ⟨⟨v0, v1⟩, by simp, by simp only [XChunk.ok]; exact ⟨wf_i64 w0, Nat.le_trans (Nat.le_of_eq l1) m1, k1⟩⟩

theorem has_int_5 {ds : List D} (h : HasT Tryz.prog 5 ds) : ∃ n : Int, ds = eb n ∧ (0 ≤ n ∧ n ≤ 255) := by
  obtain ⟨n, rfl, w⟩ := h.int_inv (by kernel_rfl : Tryz.prog.underlying 5 = some (.int .u8))
  exact ⟨n, rfl, wf_u8 w⟩

theorem has_85 {ds : List D} (h : HasT Tryz.prog 85 ds) : ∃ x : XBuf, ds = x.e ∧ x.ok := by
  obtain ⟨hl, hf⟩ := h.fields (by kernel_rfl : fieldsOf Tryz.prog 85 = some [(3, 0, 1), (3, 1, 1), (82, 2, 2), (83, 4, 1)]) (by kernel_rfl : Tryz.prog.cellsOf 85 = 5)
  match ds, hl with
  | [d0, d1, d2, d3, d4], _ =>
    obtain ⟨v0, e0, w0⟩ := (hf (3, 0, 1) (by simp)).int_inv (by kernel_rfl : Tryz.prog.underlying 3 = some (.int .i64))
    simp at e0
    subst e0
    obtain ⟨v1, e1, w1⟩ := (hf (3, 1, 1) (by simp)).int_inv (by kernel_rfl : Tryz.prog.underlying 3 = some (.int .i64))
    simp at e1
    subst e1
    obtain ⟨y2, e2, k2⟩ := has_82 (hf (82, 2, 2) (by simp))
    obtain ⟨z2_Next, z2_L⟩ := y2
    simp at e2
    obtain ⟨rfl, rfl⟩ := e2
    obtain ⟨es3, e3, m3, q3⟩ := (hf (83, 4, 1) (by simp)).sl_inv (by kernel_rfl : Tryz.prog.underlying 83 = some (.slice 5))
    rw [show Tryz.prog.cellsOf 5 = 1 from by kernel_rfl] at e3
    simp at e3
    subst e3
    obtain ⟨v3, rfl, l3, k3⟩ := list_dec (fun y hy => has_int_5 (q3 y hy))
    exact ⟨⟨v0, v1, ⟨z2_Next, z2_L⟩, v3⟩, by simp, by simp only [XBuf.ok]; exact ⟨wf_i64 w0, wf_i64 w1, k2, Nat.le_trans (Nat.le_of_eq l3) m3, k3⟩⟩

theorem has_217 {ds : List D} (h : HasT Tryz.prog 217 ds) : ∃ x : XDead, ds = x.e ∧ x.ok := by
  obtain ⟨hl, hf⟩ := h.fields (by kernel_rfl : fieldsOf Tryz.prog 217 = some [(3, 0, 1), (3, 1, 1), (3, 2, 1)]) (by kernel_rfl : Tryz.prog.cellsOf 217 = 3)
  match ds, hl with
  | [d0, d1, d2], _ =>
    obtain ⟨v0, e0, w0⟩ := (hf (3, 0, 1) (by simp)).int_inv (by kernel_rfl : Tryz.prog.underlying 3 = some (.int .i64))
    simp at e0
    subst e0
    obtain ⟨v1, e1, w1⟩ := (hf (3, 1, 1) (by simp)).int_inv (by kernel_rfl : Tryz.prog.underlying 3 = some (.int .i64))
    simp at e1
    subst e1
    obtain ⟨v2, e2, w2⟩ := (hf (3, 2, 1) (by simp)).int_inv (by kernel_rfl : Tryz.prog.underlying 3 = some (.int .i64))
    simp at e2
    subst e2
    exact ⟨⟨v0, v1, v2⟩, by simp, by simp only [XDead.ok]; exact ⟨wf_i64 w0, wf_i64 w1, wf_i64 w2⟩⟩

theorem has_40n : ∀ (n : Nat) (ds : List D), SizeOf.sizeOf ds < n → HasT Tryz.prog 40 ds → ∃ x : XPred, ds = x.e ∧ x.ok := by
  intro n
  induction n with
  | zero => intro ds h; omega
  | succ n ih =>
  intro ds hsz h
  obtain ⟨hl, hf⟩ := h.fields (by kernel_rfl : fieldsOf Tryz.prog 40 = some [(3, 0, 1), (3, 1, 1), (3, 2, 1), (37, 3, 3), (38, 6, 1)]) (by kernel_rfl : Tryz.prog.cellsOf 40 = 7)
  match ds, hl with
  | [d0, d1, d2, d3, d4, d5, d6], _ =>
    obtain ⟨v0, e0, w0⟩ := (hf (3, 0, 1) (by simp)).int_inv (by kernel_rfl : Tryz.prog.underlying 3 = some (.int .i64))
    simp at e0
    subst e0
    obtain ⟨v1, e1, w1⟩ := (hf (3, 1, 1) (by simp)).int_inv (by kernel_rfl : Tryz.prog.underlying 3 = some (.int .i64))
    simp at e1
    subst e1
    obtain ⟨v2, e2, w2⟩ := (hf (3, 2, 1) (by simp)).int_inv (by kernel_rfl : Tryz.prog.underlying 3 = some (.int .i64))
    simp at e2
    subst e2
    obtain ⟨y3, e3, k3⟩ := has_37 (hf (37, 3, 3) (by simp))
    obtain ⟨z3_Ty, z3_N, z3_S⟩ := y3
    simp at e3
    obtain ⟨rfl, rfl, rfl⟩ := e3
    obtain ⟨es4, e4, m4, q4⟩ := (hf (38, 6, 1) (by simp)).sl_inv (by kernel_rfl : Tryz.prog.underlying 38 = some (.slice 40))
    rw [show Tryz.prog.cellsOf 40 = 7 from by kernel_rfl] at e4
    simp at e4
    subst e4
    obtain ⟨v4, rfl, l4, k4⟩ := list_dec (fun y hy => ih y (by have h1 := List.sizeOf_lt_of_mem hy; simp at hsz; omega) (q4 y hy))
    exact ⟨⟨v0, v1, v2, ⟨z3_Ty, z3_N, z3_S⟩, v4⟩, by simp, by simp only [XPred.ok_eq]; exact ⟨wf_i64 w0, wf_i64 w1, wf_i64 w2, k3, Nat.le_trans (Nat.le_of_eq l4) m4, (by rw [XPred.oks_eq]; exact k4)⟩⟩

theorem has_40 {ds : List D} (h : HasT Tryz.prog 40 ds) : ∃ x : XPred, ds = x.e ∧ x.ok := has_40n _ ds (Nat.lt_succ_self _) h

theorem has_42 {ds : List D} (h : HasT Tryz.prog 42 ds) : ∃ x : XQuery, ds = x.e ∧ x.ok := by
  obtain ⟨hl, hf⟩ := h.fields (by kernel_rfl : fieldsOf Tryz.prog 42 = some [(3, 0, 1), (40, 1, 7), (3, 8, 1), (22, 9, 1)]) (by kernel_rfl : Tryz.prog.cellsOf 42 = 10)
  match ds, hl with
  | [d0, d1, d2, d3, d4, d5, d6, d7, d8, d9], _ =>
    obtain ⟨v0, e0, w0⟩ := (hf (3, 0, 1) (by simp)).int_inv (by kernel_rfl : Tryz.prog.underlying 3 = some (.int .i64))
    simp at e0
    subst e0
    obtain ⟨y1, e1, k1⟩ := has_40 (hf (40, 1, 7) (by simp))
    obtain ⟨z1_Kind, z1_Col, z1_Op, ⟨z1_V_Ty, z1_V_N, z1_V_S⟩, z1_L⟩ := y1
    simp at e1
    obtain ⟨rfl, rfl, rfl, rfl, rfl, rfl, rfl⟩ := e1
    obtain ⟨v2, e2, w2⟩ := (hf (3, 8, 1) (by simp)).int_inv (by kernel_rfl : Tryz.prog.underlying 3 = some (.int .i64))
    simp at e2
    subst e2
    obtain ⟨es3, e3, m3, q3⟩ := (hf (22, 9, 1) (by simp)).sl_inv (by kernel_rfl : Tryz.prog.underlying 22 = some (.slice 3))
    rw [show Tryz.prog.cellsOf 3 = 1 from by kernel_rfl] at e3
    simp at e3
    subst e3
    obtain ⟨v3, rfl, l3, k3⟩ := list_dec (fun y hy => has_int_3 (q3 y hy))
    exact ⟨⟨v0, ⟨z1_Kind, z1_Col, z1_Op, ⟨z1_V_Ty, z1_V_N, z1_V_S⟩, z1_L⟩, v2, v3⟩, by simp, by simp only [XQuery.ok]; exact ⟨wf_i64 w0, k1, wf_i64 w2, Nat.le_trans (Nat.le_of_eq l3) m3, k3⟩⟩

theorem has_309 {ds : List D} (h : HasT Tryz.prog 309 ds) : ∃ x : XRow, ds = x.e ∧ x.ok := by
  obtain ⟨hl, hf⟩ := h.fields (by kernel_rfl : fieldsOf Tryz.prog 309 = some [(3, 0, 1), (197, 1, 1)]) (by kernel_rfl : Tryz.prog.cellsOf 309 = 2)
  match ds, hl with
  | [d0, d1], _ =>
    obtain ⟨v0, e0, w0⟩ := (hf (3, 0, 1) (by simp)).int_inv (by kernel_rfl : Tryz.prog.underlying 3 = some (.int .i64))
    simp at e0
    subst e0
    obtain ⟨es1, e1, m1, q1⟩ := (hf (197, 1, 1) (by simp)).sl_inv (by kernel_rfl : Tryz.prog.underlying 197 = some (.slice 37))
    rw [show Tryz.prog.cellsOf 37 = 3 from by kernel_rfl] at e1
    simp at e1
    subst e1
    obtain ⟨v1, rfl, l1, k1⟩ := list_dec (fun y hy => has_37 (q1 y hy))
    exact ⟨⟨v0, v1⟩, by simp, by simp only [XRow.ok]; exact ⟨wf_i64 w0, Nat.le_trans (Nat.le_of_eq l1) m1, k1⟩⟩

theorem has_200 {ds : List D} (h : HasT Tryz.prog 200 ds) : ∃ x : XTask, ds = x.e ∧ x.ok := by
  obtain ⟨hl, hf⟩ := h.fields (by kernel_rfl : fieldsOf Tryz.prog 200 = some [(3, 0, 1), (3, 1, 1), (3, 2, 1), (197, 3, 1), (3, 4, 1), (42, 5, 10), (3, 15, 1), (3, 16, 1), (25, 17, 1), (3, 18, 1), (3, 19, 1), (3, 20, 1), (3, 21, 1), (3, 22, 1), (4, 23, 1), (198, 24, 1)]) (by kernel_rfl : Tryz.prog.cellsOf 200 = 25)
  match ds, hl with
  | [d0, d1, d2, d3, d4, d5, d6, d7, d8, d9, d10, d11, d12, d13, d14, d15, d16, d17, d18, d19, d20, d21, d22, d23, d24], _ =>
    obtain ⟨v0, e0, w0⟩ := (hf (3, 0, 1) (by simp)).int_inv (by kernel_rfl : Tryz.prog.underlying 3 = some (.int .i64))
    simp at e0
    subst e0
    obtain ⟨v1, e1, w1⟩ := (hf (3, 1, 1) (by simp)).int_inv (by kernel_rfl : Tryz.prog.underlying 3 = some (.int .i64))
    simp at e1
    subst e1
    obtain ⟨v2, e2, w2⟩ := (hf (3, 2, 1) (by simp)).int_inv (by kernel_rfl : Tryz.prog.underlying 3 = some (.int .i64))
    simp at e2
    subst e2
    obtain ⟨es3, e3, m3, q3⟩ := (hf (197, 3, 1) (by simp)).sl_inv (by kernel_rfl : Tryz.prog.underlying 197 = some (.slice 37))
    rw [show Tryz.prog.cellsOf 37 = 3 from by kernel_rfl] at e3
    simp at e3
    subst e3
    obtain ⟨v3, rfl, l3, k3⟩ := list_dec (fun y hy => has_37 (q3 y hy))
    obtain ⟨v4, e4, w4⟩ := (hf (3, 4, 1) (by simp)).int_inv (by kernel_rfl : Tryz.prog.underlying 3 = some (.int .i64))
    simp at e4
    subst e4
    obtain ⟨y5, e5, k5⟩ := has_42 (hf (42, 5, 10) (by simp))
    obtain ⟨z5_Kind, ⟨z5_P_Kind, z5_P_Col, z5_P_Op, ⟨z5_P_V_Ty, z5_P_V_N, z5_P_V_S⟩, z5_P_L⟩, z5_Col, z5_Out⟩ := y5
    simp at e5
    obtain ⟨rfl, rfl, rfl, rfl, rfl, rfl, rfl, rfl, rfl, rfl⟩ := e5
    obtain ⟨v6, e6, w6⟩ := (hf (3, 15, 1) (by simp)).int_inv (by kernel_rfl : Tryz.prog.underlying 3 = some (.int .i64))
    simp at e6
    subst e6
    obtain ⟨v7, e7, w7⟩ := (hf (3, 16, 1) (by simp)).int_inv (by kernel_rfl : Tryz.prog.underlying 3 = some (.int .i64))
    simp at e7
    subst e7
    obtain ⟨es8, e8, m8, q8⟩ := (hf (25, 17, 1) (by simp)).sl_inv (by kernel_rfl : Tryz.prog.underlying 25 = some (.slice 35))
    rw [show Tryz.prog.cellsOf 35 = 5 from by kernel_rfl] at e8
    simp at e8
    subst e8
    obtain ⟨v8, rfl, l8, k8⟩ := list_dec (fun y hy => has_35 (q8 y hy))
    obtain ⟨v9, e9, w9⟩ := (hf (3, 18, 1) (by simp)).int_inv (by kernel_rfl : Tryz.prog.underlying 3 = some (.int .i64))
    simp at e9
    subst e9
    obtain ⟨v10, e10, w10⟩ := (hf (3, 19, 1) (by simp)).int_inv (by kernel_rfl : Tryz.prog.underlying 3 = some (.int .i64))
    simp at e10
    subst e10
    obtain ⟨v11, e11, w11⟩ := (hf (3, 20, 1) (by simp)).int_inv (by kernel_rfl : Tryz.prog.underlying 3 = some (.int .i64))
    simp at e11
    subst e11
    obtain ⟨v12, e12, w12⟩ := (hf (3, 21, 1) (by simp)).int_inv (by kernel_rfl : Tryz.prog.underlying 3 = some (.int .i64))
    simp at e12
    subst e12
    obtain ⟨v13, e13, w13⟩ := (hf (3, 22, 1) (by simp)).int_inv (by kernel_rfl : Tryz.prog.underlying 3 = some (.int .i64))
    simp at e13
    subst e13
    obtain ⟨v14, e14⟩ := (hf (4, 23, 1) (by simp)).bool_inv (by kernel_rfl : Tryz.prog.underlying 4 = some .bool)
    simp at e14
    subst e14
    obtain ⟨es15, e15, m15, q15⟩ := (hf (198, 24, 1) (by simp)).sl_inv (by kernel_rfl : Tryz.prog.underlying 198 = some (.slice 309))
    rw [show Tryz.prog.cellsOf 309 = 2 from by kernel_rfl] at e15
    simp at e15
    subst e15
    obtain ⟨v15, rfl, l15, k15⟩ := list_dec (fun y hy => has_309 (q15 y hy))
    exact ⟨⟨v0, v1, v2, v3, v4, ⟨z5_Kind, ⟨z5_P_Kind, z5_P_Col, z5_P_Op, ⟨z5_P_V_Ty, z5_P_V_N, z5_P_V_S⟩, z5_P_L⟩, z5_Col, z5_Out⟩, v6, v7, v8, v9, v10, v11, v12, v13, v14, v15⟩, by simp, by simp only [XTask.ok]; exact ⟨wf_i64 w0, wf_i64 w1, wf_i64 w2, Nat.le_trans (Nat.le_of_eq l3) m3, k3, wf_i64 w4, k5, wf_i64 w6, wf_i64 w7, Nat.le_trans (Nat.le_of_eq l8) m8, k8, wf_i64 w9, wf_i64 w10, wf_i64 w11, wf_i64 w12, wf_i64 w13, Nat.le_trans (Nat.le_of_eq l15) m15, k15⟩⟩

theorem has_203 {ds : List D} (h : HasT Tryz.prog 203 ds) : ∃ x : XResult, ds = x.e ∧ x.ok := by
  obtain ⟨hl, hf⟩ := h.fields (by kernel_rfl : fieldsOf Tryz.prog 203 = some [(198, 0, 1), (3, 1, 1), (4, 2, 1), (37, 3, 3)]) (by kernel_rfl : Tryz.prog.cellsOf 203 = 6)
  match ds, hl with
  | [d0, d1, d2, d3, d4, d5], _ =>
    obtain ⟨es0, e0, m0, q0⟩ := (hf (198, 0, 1) (by simp)).sl_inv (by kernel_rfl : Tryz.prog.underlying 198 = some (.slice 309))
    rw [show Tryz.prog.cellsOf 309 = 2 from by kernel_rfl] at e0
    simp at e0
    subst e0
    obtain ⟨v0, rfl, l0, k0⟩ := list_dec (fun y hy => has_309 (q0 y hy))
    obtain ⟨v1, e1, w1⟩ := (hf (3, 1, 1) (by simp)).int_inv (by kernel_rfl : Tryz.prog.underlying 3 = some (.int .i64))
    simp at e1
    subst e1
    obtain ⟨v2, e2⟩ := (hf (4, 2, 1) (by simp)).bool_inv (by kernel_rfl : Tryz.prog.underlying 4 = some .bool)
    simp at e2
    subst e2
    obtain ⟨y3, e3, k3⟩ := has_37 (hf (37, 3, 3) (by simp))
    obtain ⟨z3_Ty, z3_N, z3_S⟩ := y3
    simp at e3
    obtain ⟨rfl, rfl, rfl⟩ := e3
    exact ⟨⟨v0, v1, v2, ⟨z3_Ty, z3_N, z3_S⟩⟩, by simp, by simp only [XResult.ok]; exact ⟨Nat.le_trans (Nat.le_of_eq l0) m0, k0, wf_i64 w1, k3⟩⟩

theorem has_205 {ds : List D} (h : HasT Tryz.prog 205 ds) : ∃ x : XDeed, ds = x.e ∧ x.ok := by
  obtain ⟨hl, hf⟩ := h.fields (by kernel_rfl : fieldsOf Tryz.prog 205 = some [(3, 0, 1), (3, 1, 1), (197, 2, 1), (3, 3, 1), (42, 4, 10), (203, 14, 6), (3, 20, 1), (3, 21, 1), (3, 22, 1), (3, 23, 1), (3, 24, 1)]) (by kernel_rfl : Tryz.prog.cellsOf 205 = 25)
  match ds, hl with
  | [d0, d1, d2, d3, d4, d5, d6, d7, d8, d9, d10, d11, d12, d13, d14, d15, d16, d17, d18, d19, d20, d21, d22, d23, d24], _ =>
    obtain ⟨v0, e0, w0⟩ := (hf (3, 0, 1) (by simp)).int_inv (by kernel_rfl : Tryz.prog.underlying 3 = some (.int .i64))
    simp at e0
    subst e0
    obtain ⟨v1, e1, w1⟩ := (hf (3, 1, 1) (by simp)).int_inv (by kernel_rfl : Tryz.prog.underlying 3 = some (.int .i64))
    simp at e1
    subst e1
    obtain ⟨es2, e2, m2, q2⟩ := (hf (197, 2, 1) (by simp)).sl_inv (by kernel_rfl : Tryz.prog.underlying 197 = some (.slice 37))
    rw [show Tryz.prog.cellsOf 37 = 3 from by kernel_rfl] at e2
    simp at e2
    subst e2
    obtain ⟨v2, rfl, l2, k2⟩ := list_dec (fun y hy => has_37 (q2 y hy))
    obtain ⟨v3, e3, w3⟩ := (hf (3, 3, 1) (by simp)).int_inv (by kernel_rfl : Tryz.prog.underlying 3 = some (.int .i64))
    simp at e3
    subst e3
    obtain ⟨y4, e4, k4⟩ := has_42 (hf (42, 4, 10) (by simp))
    obtain ⟨z4_Kind, ⟨z4_P_Kind, z4_P_Col, z4_P_Op, ⟨z4_P_V_Ty, z4_P_V_N, z4_P_V_S⟩, z4_P_L⟩, z4_Col, z4_Out⟩ := y4
    simp at e4
    obtain ⟨rfl, rfl, rfl, rfl, rfl, rfl, rfl, rfl, rfl, rfl⟩ := e4
    obtain ⟨y5, e5, k5⟩ := has_203 (hf (203, 14, 6) (by simp))
    obtain ⟨z5_Rows, z5_N, z5_Has, ⟨z5_V_Ty, z5_V_N, z5_V_S⟩⟩ := y5
    simp at e5
    obtain ⟨rfl, rfl, rfl, rfl, rfl, rfl⟩ := e5
    obtain ⟨v6, e6, w6⟩ := (hf (3, 20, 1) (by simp)).int_inv (by kernel_rfl : Tryz.prog.underlying 3 = some (.int .i64))
    simp at e6
    subst e6
    obtain ⟨v7, e7, w7⟩ := (hf (3, 21, 1) (by simp)).int_inv (by kernel_rfl : Tryz.prog.underlying 3 = some (.int .i64))
    simp at e7
    subst e7
    obtain ⟨v8, e8, w8⟩ := (hf (3, 22, 1) (by simp)).int_inv (by kernel_rfl : Tryz.prog.underlying 3 = some (.int .i64))
    simp at e8
    subst e8
    obtain ⟨v9, e9, w9⟩ := (hf (3, 23, 1) (by simp)).int_inv (by kernel_rfl : Tryz.prog.underlying 3 = some (.int .i64))
    simp at e9
    subst e9
    obtain ⟨v10, e10, w10⟩ := (hf (3, 24, 1) (by simp)).int_inv (by kernel_rfl : Tryz.prog.underlying 3 = some (.int .i64))
    simp at e10
    subst e10
    exact ⟨⟨v0, v1, v2, v3, ⟨z4_Kind, ⟨z4_P_Kind, z4_P_Col, z4_P_Op, ⟨z4_P_V_Ty, z4_P_V_N, z4_P_V_S⟩, z4_P_L⟩, z4_Col, z4_Out⟩, ⟨z5_Rows, z5_N, z5_Has, ⟨z5_V_Ty, z5_V_N, z5_V_S⟩⟩, v6, v7, v8, v9, v10⟩, by simp, by simp only [XDeed.ok]; exact ⟨wf_i64 w0, wf_i64 w1, Nat.le_trans (Nat.le_of_eq l2) m2, k2, wf_i64 w3, k4, k5, wf_i64 w6, wf_i64 w7, wf_i64 w8, wf_i64 w9, wf_i64 w10⟩⟩

theorem has_33 {ds : List D} (h : HasT Tryz.prog 33 ds) : ∃ x : XWorld, ds = x.e ∧ x.ok := by
  obtain ⟨hl, hf⟩ := h.fields (by kernel_rfl : fieldsOf Tryz.prog 33 = some [(24, 0, 3), (3, 3, 1), (3, 4, 1), (3, 5, 1), (27, 6, 2), (28, 8, 1), (22, 9, 1), (29, 10, 1), (22, 11, 1), (30, 12, 1), (31, 13, 1)]) (by kernel_rfl : Tryz.prog.cellsOf 33 = 14)
  match ds, hl with
  | [d0, d1, d2, d3, d4, d5, d6, d7, d8, d9, d10, d11, d12, d13], _ =>
    obtain ⟨y0, e0, k0⟩ := has_24 (hf (24, 0, 3) (by simp))
    obtain ⟨z0_Cols, z0_Slots, z0_Bufs⟩ := y0
    simp at e0
    obtain ⟨rfl, rfl, rfl⟩ := e0
    obtain ⟨v1, e1, w1⟩ := (hf (3, 3, 1) (by simp)).int_inv (by kernel_rfl : Tryz.prog.underlying 3 = some (.int .i64))
    simp at e1
    subst e1
    obtain ⟨v2, e2, w2⟩ := (hf (3, 4, 1) (by simp)).int_inv (by kernel_rfl : Tryz.prog.underlying 3 = some (.int .i64))
    simp at e2
    subst e2
    obtain ⟨v3, e3, w3⟩ := (hf (3, 5, 1) (by simp)).int_inv (by kernel_rfl : Tryz.prog.underlying 3 = some (.int .i64))
    simp at e3
    subst e3
    obtain ⟨y4, e4, k4⟩ := has_27 (hf (27, 6, 2) (by simp))
    obtain ⟨z4_Ver, z4_L⟩ := y4
    simp at e4
    obtain ⟨rfl, rfl⟩ := e4
    obtain ⟨es5, e5, m5, q5⟩ := (hf (28, 8, 1) (by simp)).sl_inv (by kernel_rfl : Tryz.prog.underlying 28 = some (.slice 85))
    rw [show Tryz.prog.cellsOf 85 = 5 from by kernel_rfl] at e5
    simp at e5
    subst e5
    obtain ⟨v5, rfl, l5, k5⟩ := list_dec (fun y hy => has_85 (q5 y hy))
    obtain ⟨es6, e6, m6, q6⟩ := (hf (22, 9, 1) (by simp)).sl_inv (by kernel_rfl : Tryz.prog.underlying 22 = some (.slice 3))
    rw [show Tryz.prog.cellsOf 3 = 1 from by kernel_rfl] at e6
    simp at e6
    subst e6
    obtain ⟨v6, rfl, l6, k6⟩ := list_dec (fun y hy => has_int_3 (q6 y hy))
    obtain ⟨es7, e7, m7, q7⟩ := (hf (29, 10, 1) (by simp)).sl_inv (by kernel_rfl : Tryz.prog.underlying 29 = some (.slice 217))
    rw [show Tryz.prog.cellsOf 217 = 3 from by kernel_rfl] at e7
    simp at e7
    subst e7
    obtain ⟨v7, rfl, l7, k7⟩ := list_dec (fun y hy => has_217 (q7 y hy))
    obtain ⟨es8, e8, m8, q8⟩ := (hf (22, 11, 1) (by simp)).sl_inv (by kernel_rfl : Tryz.prog.underlying 22 = some (.slice 3))
    rw [show Tryz.prog.cellsOf 3 = 1 from by kernel_rfl] at e8
    simp at e8
    subst e8
    obtain ⟨v8, rfl, l8, k8⟩ := list_dec (fun y hy => has_int_3 (q8 y hy))
    obtain ⟨es9, e9, m9, q9⟩ := (hf (30, 12, 1) (by simp)).sl_inv (by kernel_rfl : Tryz.prog.underlying 30 = some (.slice 200))
    rw [show Tryz.prog.cellsOf 200 = 25 from by kernel_rfl] at e9
    simp at e9
    subst e9
    obtain ⟨v9, rfl, l9, k9⟩ := list_dec (fun y hy => has_200 (q9 y hy))
    obtain ⟨es10, e10, m10, q10⟩ := (hf (31, 13, 1) (by simp)).sl_inv (by kernel_rfl : Tryz.prog.underlying 31 = some (.slice 205))
    rw [show Tryz.prog.cellsOf 205 = 25 from by kernel_rfl] at e10
    simp at e10
    subst e10
    obtain ⟨v10, rfl, l10, k10⟩ := list_dec (fun y hy => has_205 (q10 y hy))
    exact ⟨⟨⟨z0_Cols, z0_Slots, z0_Bufs⟩, v1, v2, v3, ⟨z4_Ver, z4_L⟩, v5, v6, v7, v8, v9, v10⟩, by simp, by simp only [XWorld.ok]; exact ⟨k0, wf_i64 w1, wf_i64 w2, wf_i64 w3, k4, Nat.le_trans (Nat.le_of_eq l5) m5, k5, Nat.le_trans (Nat.le_of_eq l6) m6, k6, Nat.le_trans (Nat.le_of_eq l7) m7, k7, Nat.le_trans (Nat.le_of_eq l8) m8, k8, Nat.le_trans (Nat.le_of_eq l9) m9, k9, Nat.le_trans (Nat.le_of_eq l10) m10, k10⟩⟩

theorem own : ownKnob Tryz.prog.godebug = none := by kernel_rfl

theorem says (xs : List V) (h : ArgsT Tryz.prog Tryz.f8.params.toList xs) : OK Tryz.prog 8 xs (.one (.ro false (.bool true))) [] := by
  rw [show Tryz.f8.params.toList = [33, 35, 3, 3, 3] from by kernel_rfl] at h
  obtain ⟨x0, xs, rfl, h0, h⟩ := h.cons_inv
  obtain ⟨x1, xs, rfl, h1, h⟩ := h.cons_inv
  obtain ⟨x2, xs, rfl, h2, h⟩ := h.cons_inv
  obtain ⟨x3, xs, rfl, h3, h⟩ := h.cons_inv
  obtain ⟨x4, xs, rfl, h4, h⟩ := h.cons_inv
  obtain rfl := h.nil_inv
  obtain ⟨ds0, rfl, g0⟩ := h0.struct' (by kernel_rfl)
  obtain ⟨y0, rfl, k0⟩ := has_33 g0
  obtain ⟨⟨aW_C_Cols, aW_C_Slots, aW_C_Bufs⟩, aW_Time, aW_T, aW_E, ⟨aW_Dd_Ver, aW_Dd_L⟩, aW_B, aW_M, aW_X, aW_P, aW_Tasks, aW_Deeds⟩ := y0
  simp only [XWorld.ok, XConf.ok, XDir.ok, and_assoc] at k0
  obtain ⟨hok_aW_C_Cols, hoki_aW_C_Cols, hlo_aW_C_Slots, hhi_aW_C_Slots, hlo_aW_C_Bufs, hhi_aW_C_Bufs, hlo_aW_Time, hhi_aW_Time, hlo_aW_T, hhi_aW_T, hlo_aW_E, hhi_aW_E, hlo_aW_Dd_Ver, hhi_aW_Dd_Ver, hok_aW_Dd_L, hoks_aW_Dd_L, hok_aW_B, hoks_aW_B, hok_aW_M, hoki_aW_M, hok_aW_X, hoks_aW_X, hok_aW_P, hoki_aW_P, hok_aW_Tasks, hoks_aW_Tasks, hok_aW_Deeds, hoks_aW_Deeds⟩ := k0
  obtain ⟨ds1, rfl, g1⟩ := h1.struct' (by kernel_rfl)
  obtain ⟨y1, rfl, k1⟩ := has_35 g1
  obtain ⟨aR_Buf, aR_Gen, aR_Kind, aR_First, aR_Many⟩ := y1
  simp only [XRef.ok, and_assoc] at k1
  obtain ⟨hlo_aR_Buf, hhi_aR_Buf, hlo_aR_Gen, hhi_aR_Gen, hlo_aR_Kind, hhi_aR_Kind, hlo_aR_First, hhi_aR_First, hlo_aR_Many, hhi_aR_Many⟩ := k1
  obtain ⟨aI, rfl, w2⟩ := h2.int (by kernel_rfl : Tryz.prog.underlying 3 = some (.int .i64))
  obtain ⟨aS, rfl, w3⟩ := h3.int (by kernel_rfl : Tryz.prog.underlying 3 = some (.int .i64))
  obtain ⟨aAt, rfl, w4⟩ := h4.int (by kernel_rfl : Tryz.prog.underlying 3 = some (.int .i64))
  cases hok : stampOk aW_B ⟨aR_Buf, aR_Gen, aR_Kind, aR_First, aR_Many⟩ aI aS with
  | true => exact seat_ok 417 _ _ _ (t417_yes aW_C_Cols aW_C_Slots aW_C_Bufs aW_Time aW_T aW_E aW_Dd_Ver aW_Dd_L aW_B aW_M aW_X aW_P aW_Tasks aW_Deeds aR_Buf aR_Gen aR_Kind aR_First aR_Many aI aS aAt hok_aW_C_Cols hok_aW_Dd_L hok_aW_B hoks_aW_B hok_aW_M hok_aW_X hok_aW_P hok_aW_Tasks hoks_aW_Tasks hok_aW_Deeds hoks_aW_Deeds hok)
  | false => exact seat_ok 1417 _ _ _ (t1417_no aW_C_Cols aW_C_Slots aW_C_Bufs aW_Time aW_T aW_E aW_Dd_Ver aW_Dd_L aW_B aW_M aW_X aW_P aW_Tasks aW_Deeds aR_Buf aR_Gen aR_Kind aR_First aR_Many aI aS aAt hok_aW_C_Cols hok_aW_Dd_L hok_aW_B hoks_aW_B hok_aW_M hok_aW_X hok_aW_P hok_aW_Tasks hoks_aW_Tasks hok_aW_Deeds hoks_aW_Deeds hok)

theorem lifted (os : Os) (started : os.Started) (H : Type) (enc : TypeId × Value → H) :
    ReturnsInHanded {} Tryz.checked os 8 .any (Rows.fnExactStampPutSpec.pre6 enc Tryz.prog Tryz.f8 Rows.fnExactStampPutRow.domain false) (Rows.fnExactStampPutSpec.post enc Tryz.prog Tryz.f8 false true false false) := by
  refine returnsInHanded_of_change (C := Tryz.checked) own started (by kernel_rfl) Tryz.func8
    (ChangeSpec.witness6 (enc := enc) (C := Tryz.checked) false ⟨#[], #[.agg #[.slice none 0 0, .int .i64 0, .int .i64 0, .int .i64 0, .int .i64 0, .int .i64 0, .int .i64 0, .slice none 0 0, .slice none 0 0, .slice none 0 0, .slice none 0 0, .slice none 0 0, .slice none 0 0, .slice none 0 0], .agg #[.int .i64 0, .int .i64 0, .int .i64 0, .int .i64 0, .int .i64 0], .int .i64 0, .int .i64 0, .int .i64 0], []⟩ 8 (by kernel_rfl) (by kernel_rfl) (by kernel_rfl) (by kernel_rfl)) ?_
  intro W base args ds gs before hval0 hW hcnd _
  refine law_contract (S := [33, 24, 22, 3, 27, 25, 35, 28, 85, 82, 80, 288, 197, 37, 9, 83, 5, 29, 217, 30, 200, 42, 40, 38, 4, 198, 309, 31, 205, 203]) (tb := 4) (by kernel_rfl) (by kernel_rfl) (by kernel_rfl) says (fun j t v h1 h2 => ⟨_, _, hval0 j t v h1 h2⟩) hW rfl (by kernel_rfl) (by kernel_rfl) (fun hl => ?_)
  match ds, hl with
  | [d0, d1, d2, d3, d4], _ => exact ⟨rfl, rfl, rfl⟩

theorem jf0 : laidOutB Tryz.prog = true := by kernel_rfl
theorem jf1 : mapsRowed Tryz.prog = true := by kernel_rfl
theorem jf2 : (Tryz.prog.stops == []) = true := by kernel_rfl
theorem jf3 : (Tryz.prog.stopKnobs == []) = true := by kernel_rfl
theorem jf4 : (Rows.fnExactStampPutRow.inPlace == Tryz.prog.inPlace 8) = true := by kernel_rfl
theorem jf5 : (Rows.fnExactStampPutRow.unfollowed == Tryz.prog.unfollowed 8) = true := by kernel_rfl
theorem jf6 : (Rows.fnExactStampPutRow.recurses == Tryz.prog.recurses 8) = true := by kernel_rfl
theorem jf7 : (Rows.fnExactStampPutRow.named == Tryz.prog.varsNamed 8) = true := by kernel_rfl
theorem jf8 : (Rows.fnExactStampPutRow.plainKeys == Tryz.prog.plainKeys) = true := by kernel_rfl
theorem jf9 : Tryz.prog.stopsHeard = true := by kernel_rfl
theorem jf10 : Tryz.prog.mayEnter = true := by kernel_rfl
theorem jf11 : (Rows.fnExactStampPutRow.lifted == Tryz.prog.liftsFinal) = true := by kernel_rfl
theorem jf12 : (Tryz.prog.make == some Rows.fnExactStampPutRow.make) = true := by kernel_rfl
theorem jfn : Tryz.pinned.checked.prog.funcNamed Rows.fnExactStampPutRow.func = some 8 := by kernel_rfl
theorem jfall : joinedFacts Tryz.prog 8 Tryz.f8 Rows.fnExactStampPutSpec Rows.fnExactStampPutRow = true := by
  unfold joinedFacts
  simp only [jf0, jf1, jf2, jf3, jf4, jf5, jf6, jf7, jf8, jf9, jf10, jf11, jf12, Bool.true_and, Bool.and_true]
  kernel_rfl

theorem over : Rows.fnExactStampPutRow.holds Tryz.pinned (OpenSpec.ofChange Rows.fnExactStampPutSpec) :=
  OpenClaim.holds_of_wide 8 Tryz.f8 rfl rfl rfl rfl rfl rfl rfl ⟨rfl, rfl, rfl, rfl, rfl⟩ rfl rfl rfl rfl rfl (jfn) Tryz.func8 (jfall)
    (of_decide_eq_true (by kernel_rfl)) (by unfold Func.isWrapper; first | (rw [if_pos (by decide +kernel)]; kernel_rfl) | (rw [if_neg (by decide +kernel)]; exact ⟨rfl, rfl⟩))
    (fun os started H enc _ => lifted os started H enc)

theorem proved : Rows.FnExactStampPutSaid := over
#print axioms proved
end Go.Proofs.YtcgekefbkccelaaGreat.fnExactStampPut
