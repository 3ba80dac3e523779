/- The law FnExactSameDeed returns true for every input, and each argument reads behind the call as it read before. No condition. -/
import Derived.Test.YtbfmbddafpbcpaaXSameDeedLm0
import Derived.Test.YtbfmbddafpbcpaaOMLaw
import Derived.Test.YtbfmbddafpbcpaaRows
import Derived.KernelRfl
import Derived.WalkKit
import Derived.ProofKit
import Derived.OpenShut
set_option linter.all false
namespace Go.Proofs.Ytbfmbddafpbcpaa.fnExactSameDeed
open Go.ChangeShapes Go.WideShapes Go.ChangeAt Go.RowKit Go.Proofs.Ytbfmbddafpbcpaa.OM
set_option maxRecDepth 100000
set_option maxHeartbeats 4000000

def ids : List (Nat × Nat) := [(46, 39), (49, 86), (50, 147), (51, 128), (52, 84), (84, 127), (85, 126), (86, 85), (125, 10), (149, 19), (152, 44), (153, 116), (154, 145), (155, 70), (158, 71), (159, 121), (160, 79), (165, 115), (166, 69), (216, 15), (219, 111), (220, 110), (221, 143), (222, 64), (224, 65), (225, 117), (226, 75), (231, 109), (232, 63), (241, 17), (244, 114), (245, 113), (246, 144), (247, 67), (250, 68), (251, 119), (252, 77), (257, 112), (258, 66), (327, 38), (330, 83), (331, 146), (332, 124), (333, 81), (390, 122), (391, 123), (392, 82), (404, 125)]
def fid (k : Nat) : FuncId := (ids.lookup k).getD 0
theorem chk_all : tab.all (fun p => chkF Try.prog fid (fid p.1) p.2) = true := by kernel_rfl
theorem seat_ok (f : Nat) (xs : List V) (r : V) (us : List (Nat × Nat × C)) (h : Gw TT f xs = some (r, us)) : OK Try.prog (fid f) xs r us := by
  refine Gw_ok (by kernel_rfl) (fun f F hF => ?_) f xs r us h
  exact List.all_eq_true.1 chk_all (f, F) (lookup_mem hF)

theorem has_24 {ds : List D} (h : HasT Try.prog 24 ds) : ∃ x : XVal, ds = x.e ∧ x.ok := by
  obtain ⟨hl, hf⟩ := h.fields (by kernel_rfl : fieldsOf Try.prog 24 = some [(3, 0, 1), (3, 1, 1), (9, 2, 1)]) (by kernel_rfl : Try.prog.cellsOf 24 = 3)
  match ds, hl with
  | [d0, d1, d2], _ =>
    obtain ⟨v0, e0, w0⟩ := (hf (3, 0, 1) (by simp)).int_inv (by kernel_rfl : Try.prog.underlying 3 = some (.int .i64))
    simp at e0
    subst e0
    obtain ⟨v1, e1, w1⟩ := (hf (3, 1, 1) (by simp)).int_inv (by kernel_rfl : Try.prog.underlying 3 = some (.int .i64))
    simp at e1
    subst e1
    obtain ⟨v2, e2, w2⟩ := (hf (9, 2, 1) (by simp)).str_inv (by kernel_rfl : Try.prog.underlying 9 = some .string)
    simp at e2
    subst e2
    exact ⟨⟨v0, v1, v2⟩, by simp, by simp only [XVal.ok]; exact ⟨wf_i64 w0, wf_i64 w1, w2⟩⟩

theorem has_27n : ∀ (n : Nat) (ds : List D), SizeOf.sizeOf ds < n → HasT Try.prog 27 ds → ∃ x : XPred, ds = x.e ∧ x.ok := by
  intro n
  induction n with
  | zero => intro ds h; omega
  | succ n ih =>
  intro ds hsz h
  obtain ⟨hl, hf⟩ := h.fields (by kernel_rfl : fieldsOf Try.prog 27 = some [(3, 0, 1), (3, 1, 1), (3, 2, 1), (24, 3, 3), (25, 6, 1)]) (by kernel_rfl : Try.prog.cellsOf 27 = 7)
  match ds, hl with
  | [d0, d1, d2, d3, d4, d5, d6], _ =>
    obtain ⟨v0, e0, w0⟩ := (hf (3, 0, 1) (by simp)).int_inv (by kernel_rfl : Try.prog.underlying 3 = some (.int .i64))
    simp at e0
    subst e0
    obtain ⟨v1, e1, w1⟩ := (hf (3, 1, 1) (by simp)).int_inv (by kernel_rfl : Try.prog.underlying 3 = some (.int .i64))
    simp at e1
    subst e1
    obtain ⟨v2, e2, w2⟩ := (hf (3, 2, 1) (by simp)).int_inv (by kernel_rfl : Try.prog.underlying 3 = some (.int .i64))
    simp at e2
    subst e2
    obtain ⟨y3, e3, k3⟩ := has_24 (hf (24, 3, 3) (by simp))
    obtain ⟨z3_Ty, z3_N, z3_S⟩ := y3
    simp at e3
    obtain ⟨rfl, rfl, rfl⟩ := e3
    obtain ⟨es4, e4, m4, q4⟩ := (hf (25, 6, 1) (by simp)).sl_inv (by kernel_rfl : Try.prog.underlying 25 = some (.slice 27))
    rw [show Try.prog.cellsOf 27 = 7 from by kernel_rfl] at e4
    simp at e4
    subst e4
    obtain ⟨v4, rfl, l4, k4⟩ := list_dec (fun y hy => ih y (by have h1 := List.sizeOf_lt_of_mem hy; simp at hsz; omega) (q4 y hy))
    exact ⟨⟨v0, v1, v2, ⟨z3_Ty, z3_N, z3_S⟩, v4⟩, by simp, by simp only [XPred.ok_eq]; exact ⟨wf_i64 w0, wf_i64 w1, wf_i64 w2, k3, Nat.le_trans (Nat.le_of_eq l4) m4, (by rw [XPred.oks_eq]; exact k4)⟩⟩

theorem has_27 {ds : List D} (h : HasT Try.prog 27 ds) : ∃ x : XPred, ds = x.e ∧ x.ok := has_27n _ ds (Nat.lt_succ_self _) h

theorem has_int_3 {ds : List D} (h : HasT Try.prog 3 ds) : ∃ n : Int, ds = ei n ∧ (-9223372036854775808 ≤ n ∧ n ≤ 9223372036854775807) := by
  obtain ⟨n, rfl, w⟩ := h.int_inv (by kernel_rfl : Try.prog.underlying 3 = some (.int .i64))
  exact ⟨n, rfl, wf_i64 w⟩

theorem has_30 {ds : List D} (h : HasT Try.prog 30 ds) : ∃ x : XQuery, ds = x.e ∧ x.ok := by
  obtain ⟨hl, hf⟩ := h.fields (by kernel_rfl : fieldsOf Try.prog 30 = some [(3, 0, 1), (27, 1, 7), (3, 8, 1), (28, 9, 1)]) (by kernel_rfl : Try.prog.cellsOf 30 = 10)
  match ds, hl with
  | [d0, d1, d2, d3, d4, d5, d6, d7, d8, d9], _ =>
    obtain ⟨v0, e0, w0⟩ := (hf (3, 0, 1) (by simp)).int_inv (by kernel_rfl : Try.prog.underlying 3 = some (.int .i64))
    simp at e0
    subst e0
    obtain ⟨y1, e1, k1⟩ := has_27 (hf (27, 1, 7) (by simp))
    obtain ⟨z1_Kind, z1_Col, z1_Op, ⟨z1_V_Ty, z1_V_N, z1_V_S⟩, z1_L⟩ := y1
    simp at e1
    obtain ⟨rfl, rfl, rfl, rfl, rfl, rfl, rfl⟩ := e1
    obtain ⟨v2, e2, w2⟩ := (hf (3, 8, 1) (by simp)).int_inv (by kernel_rfl : Try.prog.underlying 3 = some (.int .i64))
    simp at e2
    subst e2
    obtain ⟨es3, e3, m3, q3⟩ := (hf (28, 9, 1) (by simp)).sl_inv (by kernel_rfl : Try.prog.underlying 28 = some (.slice 3))
    rw [show Try.prog.cellsOf 3 = 1 from by kernel_rfl] at e3
    simp at e3
    subst e3
    obtain ⟨v3, rfl, l3, k3⟩ := list_dec (fun y hy => has_int_3 (q3 y hy))
    exact ⟨⟨v0, ⟨z1_Kind, z1_Col, z1_Op, ⟨z1_V_Ty, z1_V_N, z1_V_S⟩, z1_L⟩, v2, v3⟩, by simp, by simp only [XQuery.ok]; exact ⟨wf_i64 w0, k1, wf_i64 w2, Nat.le_trans (Nat.le_of_eq l3) m3, k3⟩⟩

theorem has_134 {ds : List D} (h : HasT Try.prog 134 ds) : ∃ x : XRow, ds = x.e ∧ x.ok := by
  obtain ⟨hl, hf⟩ := h.fields (by kernel_rfl : fieldsOf Try.prog 134 = some [(3, 0, 1), (22, 1, 1)]) (by kernel_rfl : Try.prog.cellsOf 134 = 2)
  match ds, hl with
  | [d0, d1], _ =>
    obtain ⟨v0, e0, w0⟩ := (hf (3, 0, 1) (by simp)).int_inv (by kernel_rfl : Try.prog.underlying 3 = some (.int .i64))
    simp at e0
    subst e0
    obtain ⟨es1, e1, m1, q1⟩ := (hf (22, 1, 1) (by simp)).sl_inv (by kernel_rfl : Try.prog.underlying 22 = some (.slice 24))
    rw [show Try.prog.cellsOf 24 = 3 from by kernel_rfl] at e1
    simp at e1
    subst e1
    obtain ⟨v1, rfl, l1, k1⟩ := list_dec (fun y hy => has_24 (q1 y hy))
    exact ⟨⟨v0, v1⟩, by simp, by simp only [XRow.ok]; exact ⟨wf_i64 w0, Nat.le_trans (Nat.le_of_eq l1) m1, k1⟩⟩

theorem has_33 {ds : List D} (h : HasT Try.prog 33 ds) : ∃ x : XResult, ds = x.e ∧ x.ok := by
  obtain ⟨hl, hf⟩ := h.fields (by kernel_rfl : fieldsOf Try.prog 33 = some [(31, 0, 1), (3, 1, 1), (4, 2, 1), (24, 3, 3)]) (by kernel_rfl : Try.prog.cellsOf 33 = 6)
  match ds, hl with
  | [d0, d1, d2, d3, d4, d5], _ =>
    obtain ⟨es0, e0, m0, q0⟩ := (hf (31, 0, 1) (by simp)).sl_inv (by kernel_rfl : Try.prog.underlying 31 = some (.slice 134))
    rw [show Try.prog.cellsOf 134 = 2 from by kernel_rfl] at e0
    simp at e0
    subst e0
    obtain ⟨v0, rfl, l0, k0⟩ := list_dec (fun y hy => has_134 (q0 y hy))
    obtain ⟨v1, e1, w1⟩ := (hf (3, 1, 1) (by simp)).int_inv (by kernel_rfl : Try.prog.underlying 3 = some (.int .i64))
    simp at e1
    subst e1
    obtain ⟨v2, e2⟩ := (hf (4, 2, 1) (by simp)).bool_inv (by kernel_rfl : Try.prog.underlying 4 = some .bool)
    simp at e2
    subst e2
    obtain ⟨y3, e3, k3⟩ := has_24 (hf (24, 3, 3) (by simp))
    obtain ⟨z3_Ty, z3_N, z3_S⟩ := y3
    simp at e3
    obtain ⟨rfl, rfl, rfl⟩ := e3
    exact ⟨⟨v0, v1, v2, ⟨z3_Ty, z3_N, z3_S⟩⟩, by simp, by simp only [XResult.ok]; exact ⟨Nat.le_trans (Nat.le_of_eq l0) m0, k0, wf_i64 w1, k3⟩⟩

theorem has_35 {ds : List D} (h : HasT Try.prog 35 ds) : ∃ x : XDeed, ds = x.e ∧ x.ok := by
  obtain ⟨hl, hf⟩ := h.fields (by kernel_rfl : fieldsOf Try.prog 35 = some [(3, 0, 1), (3, 1, 1), (22, 2, 1), (3, 3, 1), (30, 4, 10), (33, 14, 6), (3, 20, 1), (3, 21, 1), (3, 22, 1), (3, 23, 1), (3, 24, 1)]) (by kernel_rfl : Try.prog.cellsOf 35 = 25)
  match ds, hl with
  | [d0, d1, d2, d3, d4, d5, d6, d7, d8, d9, d10, d11, d12, d13, d14, d15, d16, d17, d18, d19, d20, d21, d22, d23, d24], _ =>
    obtain ⟨v0, e0, w0⟩ := (hf (3, 0, 1) (by simp)).int_inv (by kernel_rfl : Try.prog.underlying 3 = some (.int .i64))
    simp at e0
    subst e0
    obtain ⟨v1, e1, w1⟩ := (hf (3, 1, 1) (by simp)).int_inv (by kernel_rfl : Try.prog.underlying 3 = some (.int .i64))
    simp at e1
    subst e1
    obtain ⟨es2, e2, m2, q2⟩ := (hf (22, 2, 1) (by simp)).sl_inv (by kernel_rfl : Try.prog.underlying 22 = some (.slice 24))
    rw [show Try.prog.cellsOf 24 = 3 from by kernel_rfl] at e2
    simp at e2
    subst e2
    obtain ⟨v2, rfl, l2, k2⟩ := list_dec (fun y hy => has_24 (q2 y hy))
    obtain ⟨v3, e3, w3⟩ := (hf (3, 3, 1) (by simp)).int_inv (by kernel_rfl : Try.prog.underlying 3 = some (.int .i64))
    simp at e3
    subst e3
    obtain ⟨y4, e4, k4⟩ := has_30 (hf (30, 4, 10) (by simp))
    obtain ⟨z4_Kind, ⟨z4_P_Kind, z4_P_Col, z4_P_Op, ⟨z4_P_V_Ty, z4_P_V_N, z4_P_V_S⟩, z4_P_L⟩, z4_Col, z4_Out⟩ := y4
    simp at e4
    obtain ⟨rfl, rfl, rfl, rfl, rfl, rfl, rfl, rfl, rfl, rfl⟩ := e4
    obtain ⟨y5, e5, k5⟩ := has_33 (hf (33, 14, 6) (by simp))
    obtain ⟨z5_Rows, z5_N, z5_Has, ⟨z5_V_Ty, z5_V_N, z5_V_S⟩⟩ := y5
    simp at e5
    obtain ⟨rfl, rfl, rfl, rfl, rfl, rfl⟩ := e5
    obtain ⟨v6, e6, w6⟩ := (hf (3, 20, 1) (by simp)).int_inv (by kernel_rfl : Try.prog.underlying 3 = some (.int .i64))
    simp at e6
    subst e6
    obtain ⟨v7, e7, w7⟩ := (hf (3, 21, 1) (by simp)).int_inv (by kernel_rfl : Try.prog.underlying 3 = some (.int .i64))
    simp at e7
    subst e7
    obtain ⟨v8, e8, w8⟩ := (hf (3, 22, 1) (by simp)).int_inv (by kernel_rfl : Try.prog.underlying 3 = some (.int .i64))
    simp at e8
    subst e8
    obtain ⟨v9, e9, w9⟩ := (hf (3, 23, 1) (by simp)).int_inv (by kernel_rfl : Try.prog.underlying 3 = some (.int .i64))
    simp at e9
    subst e9
    obtain ⟨v10, e10, w10⟩ := (hf (3, 24, 1) (by simp)).int_inv (by kernel_rfl : Try.prog.underlying 3 = some (.int .i64))
    simp at e10
    subst e10
    exact ⟨⟨v0, v1, v2, v3, ⟨z4_Kind, ⟨z4_P_Kind, z4_P_Col, z4_P_Op, ⟨z4_P_V_Ty, z4_P_V_N, z4_P_V_S⟩, z4_P_L⟩, z4_Col, z4_Out⟩, ⟨z5_Rows, z5_N, z5_Has, ⟨z5_V_Ty, z5_V_N, z5_V_S⟩⟩, v6, v7, v8, v9, v10⟩, by simp, by simp only [XDeed.ok]; exact ⟨wf_i64 w0, wf_i64 w1, Nat.le_trans (Nat.le_of_eq l2) m2, k2, wf_i64 w3, k4, k5, wf_i64 w6, wf_i64 w7, wf_i64 w8, wf_i64 w9, wf_i64 w10⟩⟩

theorem own : ownKnob Try.prog.godebug = none := by kernel_rfl

theorem says (xs : List V) (h : ArgsT Try.prog Try.f10.params.toList xs) : OK Try.prog 10 xs (.one (.ro false (.bool true))) [] := by
  rw [show Try.f10.params.toList = [35, 35] from by kernel_rfl] at h
  obtain ⟨x0, xs, rfl, h0, h⟩ := h.cons_inv
  obtain ⟨x1, xs, rfl, h1, h⟩ := h.cons_inv
  obtain rfl := h.nil_inv
  obtain ⟨ds0, rfl, g0⟩ := h0.struct' (by kernel_rfl)
  obtain ⟨y0, rfl, k0⟩ := has_35 g0
  obtain ⟨aA_Op, aA_Task, aA_R, aA_Id, ⟨aA_Q_Kind, ⟨aA_Q_P_Kind, aA_Q_P_Col, aA_Q_P_Op, ⟨aA_Q_P_V_Ty, aA_Q_P_V_N, aA_Q_P_V_S⟩, aA_Q_P_L⟩, aA_Q_Col, aA_Q_Out⟩, ⟨aA_Res_Rows, aA_Res_N, aA_Res_Has, ⟨aA_Res_V_Ty, aA_Res_V_N, aA_Res_V_S⟩⟩, aA_Code, aA_Stamp, aA_Inv, aA_Lin, aA_Ret⟩ := y0
  simp only [XDeed.ok, XQuery.ok, XPred.ok_eq, XVal.ok, XResult.ok, and_assoc] at k0
  obtain ⟨hlo_aA_Op, hhi_aA_Op, hlo_aA_Task, hhi_aA_Task, hok_aA_R, hoks_aA_R, hlo_aA_Id, hhi_aA_Id, hlo_aA_Q_Kind, hhi_aA_Q_Kind, hlo_aA_Q_P_Kind, hhi_aA_Q_P_Kind, hlo_aA_Q_P_Col, hhi_aA_Q_P_Col, hlo_aA_Q_P_Op, hhi_aA_Q_P_Op, hlo_aA_Q_P_V_Ty, hhi_aA_Q_P_V_Ty, hlo_aA_Q_P_V_N, hhi_aA_Q_P_V_N, hok_aA_Q_P_V_S, hok_aA_Q_P_L, hoks_aA_Q_P_L, hlo_aA_Q_Col, hhi_aA_Q_Col, hok_aA_Q_Out, hoki_aA_Q_Out, hok_aA_Res_Rows, hoks_aA_Res_Rows, hlo_aA_Res_N, hhi_aA_Res_N, hlo_aA_Res_V_Ty, hhi_aA_Res_V_Ty, hlo_aA_Res_V_N, hhi_aA_Res_V_N, hok_aA_Res_V_S, hlo_aA_Code, hhi_aA_Code, hlo_aA_Stamp, hhi_aA_Stamp, hlo_aA_Inv, hhi_aA_Inv, hlo_aA_Lin, hhi_aA_Lin, hlo_aA_Ret, hhi_aA_Ret⟩ := k0
  obtain ⟨ds1, rfl, g1⟩ := h1.struct' (by kernel_rfl)
  obtain ⟨y1, rfl, k1⟩ := has_35 g1
  obtain ⟨aB_Op, aB_Task, aB_R, aB_Id, ⟨aB_Q_Kind, ⟨aB_Q_P_Kind, aB_Q_P_Col, aB_Q_P_Op, ⟨aB_Q_P_V_Ty, aB_Q_P_V_N, aB_Q_P_V_S⟩, aB_Q_P_L⟩, aB_Q_Col, aB_Q_Out⟩, ⟨aB_Res_Rows, aB_Res_N, aB_Res_Has, ⟨aB_Res_V_Ty, aB_Res_V_N, aB_Res_V_S⟩⟩, aB_Code, aB_Stamp, aB_Inv, aB_Lin, aB_Ret⟩ := y1
  simp only [XDeed.ok, XQuery.ok, XPred.ok_eq, XVal.ok, XResult.ok, and_assoc] at k1
  obtain ⟨hlo_aB_Op, hhi_aB_Op, hlo_aB_Task, hhi_aB_Task, hok_aB_R, hoks_aB_R, hlo_aB_Id, hhi_aB_Id, hlo_aB_Q_Kind, hhi_aB_Q_Kind, hlo_aB_Q_P_Kind, hhi_aB_Q_P_Kind, hlo_aB_Q_P_Col, hhi_aB_Q_P_Col, hlo_aB_Q_P_Op, hhi_aB_Q_P_Op, hlo_aB_Q_P_V_Ty, hhi_aB_Q_P_V_Ty, hlo_aB_Q_P_V_N, hhi_aB_Q_P_V_N, hok_aB_Q_P_V_S, hok_aB_Q_P_L, hoks_aB_Q_P_L, hlo_aB_Q_Col, hhi_aB_Q_Col, hok_aB_Q_Out, hoki_aB_Q_Out, hok_aB_Res_Rows, hoks_aB_Res_Rows, hlo_aB_Res_N, hhi_aB_Res_N, hlo_aB_Res_V_Ty, hhi_aB_Res_V_Ty, hlo_aB_Res_V_N, hhi_aB_Res_V_N, hok_aB_Res_V_S, hlo_aB_Code, hhi_aB_Code, hlo_aB_Stamp, hhi_aB_Stamp, hlo_aB_Inv, hhi_aB_Inv, hlo_aB_Lin, hhi_aB_Lin, hlo_aB_Ret, hhi_aB_Ret⟩ := k1
  exact seat_ok 125 _ _ _ (t125 aA_Op aA_Task aA_R aA_Id aA_Q_Kind aA_Q_P_Kind aA_Q_P_Col aA_Q_P_Op aA_Q_P_V_Ty aA_Q_P_V_N aA_Q_P_V_S aA_Q_P_L aA_Q_Col aA_Q_Out aA_Res_Rows aA_Res_N aA_Res_Has aA_Res_V_Ty aA_Res_V_N aA_Res_V_S aA_Code aA_Stamp aA_Inv aA_Lin aA_Ret aB_Op aB_Task aB_R aB_Id aB_Q_Kind aB_Q_P_Kind aB_Q_P_Col aB_Q_P_Op aB_Q_P_V_Ty aB_Q_P_V_N aB_Q_P_V_S aB_Q_P_L aB_Q_Col aB_Q_Out aB_Res_Rows aB_Res_N aB_Res_Has aB_Res_V_Ty aB_Res_V_N aB_Res_V_S aB_Code aB_Stamp aB_Inv aB_Lin aB_Ret hok_aA_R hoks_aA_R hok_aA_Q_P_V_S hok_aA_Q_P_L hoks_aA_Q_P_L hok_aA_Q_Out hok_aA_Res_Rows hoks_aA_Res_Rows hok_aA_Res_V_S hok_aB_R hoks_aB_R hok_aB_Q_P_V_S hok_aB_Q_P_L hoks_aB_Q_P_L hok_aB_Q_Out hok_aB_Res_Rows hoks_aB_Res_Rows hok_aB_Res_V_S)

theorem lifted (os : Os) (started : os.Started) (H : Type) (enc : TypeId × Value → H) :
    ReturnsInHanded {} Try.checked os 10 .any (Rows.fnExactSameDeedSpec.pre6 enc Try.prog Try.f10 Rows.fnExactSameDeedRow.domain false) (Rows.fnExactSameDeedSpec.post enc Try.prog Try.f10 false true false false) := by
  refine returnsInHanded_of_change (C := Try.checked) own started (by kernel_rfl) Try.func10
    (ChangeSpec.witness6 (enc := enc) (C := Try.checked) false ⟨#[], #[.agg #[.int .i64 0, .int .i64 0, .slice none 0 0, .int .i64 0, .int .i64 0, .int .i64 0, .int .i64 0, .int .i64 0, .int .i64 0, .int .i64 0, .string ⟨#[]⟩, .slice none 0 0, .int .i64 0, .slice none 0 0, .slice none 0 0, .int .i64 0, .bool false, .int .i64 0, .int .i64 0, .string ⟨#[]⟩, .int .i64 0, .int .i64 0, .int .i64 0, .int .i64 0, .int .i64 0], .agg #[.int .i64 0, .int .i64 0, .slice none 0 0, .int .i64 0, .int .i64 0, .int .i64 0, .int .i64 0, .int .i64 0, .int .i64 0, .int .i64 0, .string ⟨#[]⟩, .slice none 0 0, .int .i64 0, .slice none 0 0, .slice none 0 0, .int .i64 0, .bool false, .int .i64 0, .int .i64 0, .string ⟨#[]⟩, .int .i64 0, .int .i64 0, .int .i64 0, .int .i64 0, .int .i64 0]], []⟩ 8 (by kernel_rfl) (by kernel_rfl) (by kernel_rfl) (by kernel_rfl)) ?_
  intro W base args ds gs before hval0 hW hcnd _
  refine law_contract (S := [35, 3, 22, 24, 9, 30, 27, 25, 28, 33, 31, 134, 4]) (tb := 4) (by kernel_rfl) (by kernel_rfl) (by kernel_rfl) says (fun j t v h1 h2 => ⟨_, _, hval0 j t v h1 h2⟩) hW rfl (by kernel_rfl) (by kernel_rfl) (fun hl => ?_)
  match ds, hl with
  | [d0, d1], _ => exact ⟨rfl, rfl, rfl⟩

theorem over : Rows.fnExactSameDeedRow.holds Try.pinned (OpenSpec.ofChange Rows.fnExactSameDeedSpec) :=
  OpenClaim.holds_of_wide 10 Try.f10 rfl rfl rfl rfl rfl rfl rfl ⟨rfl, rfl, rfl, rfl, rfl⟩ rfl rfl rfl rfl rfl (by kernel_rfl) Try.func10 (by kernel_rfl)
    (of_decide_eq_true (by kernel_rfl)) (by unfold Func.isWrapper; first | (rw [if_pos (by decide +kernel)]; kernel_rfl) | (rw [if_neg (by decide +kernel)]; exact ⟨rfl, rfl⟩))
    (fun os started H enc _ => lifted os started H enc)

theorem proved : Rows.FnExactSameDeedSaid := over
#print axioms proved
end Go.Proofs.Ytbfmbddafpbcpaa.fnExactSameDeed
