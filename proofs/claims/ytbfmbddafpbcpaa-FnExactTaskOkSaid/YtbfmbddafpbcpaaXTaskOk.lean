/- The law FnExactTaskOk returns true for every input, and each argument reads behind the call as it read before. No condition. -/
import Derived.Test.YtbfmbddafpbcpaaXTaskOkLm0
import Derived.Test.YtbfmbddafpbcpaaOMLaw
import Derived.Test.YtbfmbddafpbcpaaRows
import Derived.KernelRfl
import Derived.WalkKit
import Derived.ProofKit
import Derived.OpenShut
set_option linter.all false
namespace Go.Proofs.Ytbfmbddafpbcpaa.fnExactTaskOk
open Go.ChangeShapes Go.WideShapes Go.ChangeAt Go.RowKit Go.Proofs.Ytbfmbddafpbcpaa.OM
set_option maxRecDepth 100000
set_option maxHeartbeats 4000000

def ids : List (Nat × Nat) := [(58, 41), (67, 91), (81, 89), (82, 90), (84, 127), (85, 126), (86, 85), (87, 73), (132, 11), (152, 44), (153, 116), (154, 145), (155, 70), (156, 120), (157, 78), (159, 121), (160, 79), (163, 26), (165, 115), (166, 69), (219, 111), (220, 110), (221, 143), (222, 64), (223, 74), (225, 117), (226, 75), (229, 22), (231, 109), (232, 63), (244, 114), (245, 113), (246, 144), (247, 67), (248, 118), (249, 76), (251, 119), (252, 77), (255, 24), (257, 112), (258, 66), (339, 40), (370, 87), (372, 88), (374, 129), (377, 72)]
def fid (k : Nat) : FuncId := (ids.lookup k).getD 0
theorem chk_all : tab.all (fun p => chkF Try.prog fid (fid p.1) p.2) = true := by kernel_rfl
theorem seat_ok (f : Nat) (xs : List V) (r : V) (us : List (Nat × Nat × C)) (h : Gw TT f xs = some (r, us)) : OK Try.prog (fid f) xs r us := by
  refine Gw_ok (by kernel_rfl) (fun f F hF => ?_) f xs r us h
  exact List.all_eq_true.1 chk_all (f, F) (lookup_mem hF)

theorem has_24 {ds : List D} (h : HasT Try.prog 24 ds) : ∃ x : XVal, ds = x.e ∧ x.ok := by
  obtain ⟨hl, hf⟩ := h.fields (by kernel_rfl : fieldsOf Try.prog 24 = some [(3, 0, 1), (3, 1, 1), (9, 2, 1)]) (by kernel_rfl : Try.prog.cellsOf 24 = 3)
  match ds, hl with
  | [d0, d1, d2], _ =>
    obtain ⟨v0, e0, w0⟩ := (hf (3, 0, 1) (by simp)).int_inv (by kernel_rfl : Try.prog.underlying 3 = some (.int .i64))
    simp at e0
    subst e0
    obtain ⟨v1, e1, w1⟩ := (hf (3, 1, 1) (by simp)).int_inv (by kernel_rfl : Try.prog.underlying 3 = some (.int .i64))
    simp at e1
    subst e1
    obtain ⟨v2, e2, w2⟩ := (hf (9, 2, 1) (by simp)).str_inv (by kernel_rfl : Try.prog.underlying 9 = some .string)
    simp at e2
    subst e2
    exact ⟨⟨v0, v1, v2⟩, by simp, by simp only [XVal.ok]; exact ⟨wf_i64 w0, wf_i64 w1, w2⟩⟩

theorem has_27n : ∀ (n : Nat) (ds : List D), SizeOf.sizeOf ds < n → HasT Try.prog 27 ds → ∃ x : XPred, ds = x.e ∧ x.ok := by
  intro n
  induction n with
  | zero => intro ds h; omega
  | succ n ih =>
  intro ds hsz h
  obtain ⟨hl, hf⟩ := h.fields (by kernel_rfl : fieldsOf Try.prog 27 = some [(3, 0, 1), (3, 1, 1), (3, 2, 1), (24, 3, 3), (25, 6, 1)]) (by kernel_rfl : Try.prog.cellsOf 27 = 7)
  match ds, hl with
  | [d0, d1, d2, d3, d4, d5, d6], _ =>
    obtain ⟨v0, e0, w0⟩ := (hf (3, 0, 1) (by simp)).int_inv (by kernel_rfl : Try.prog.underlying 3 = some (.int .i64))
    simp at e0
    subst e0
    obtain ⟨v1, e1, w1⟩ := (hf (3, 1, 1) (by simp)).int_inv (by kernel_rfl : Try.prog.underlying 3 = some (.int .i64))
    simp at e1
    subst e1
    obtain ⟨v2, e2, w2⟩ := (hf (3, 2, 1) (by simp)).int_inv (by kernel_rfl : Try.prog.underlying 3 = some (.int .i64))
    simp at e2
    subst e2
    obtain ⟨y3, e3, k3⟩ := has_24 (hf (24, 3, 3) (by simp))
    obtain ⟨z3_Ty, z3_N, z3_S⟩ := y3
    simp at e3
    obtain ⟨rfl, rfl, rfl⟩ := e3
    obtain ⟨es4, e4, m4, q4⟩ := (hf (25, 6, 1) (by simp)).sl_inv (by kernel_rfl : Try.prog.underlying 25 = some (.slice 27))
    rw [show Try.prog.cellsOf 27 = 7 from by kernel_rfl] at e4
    simp at e4
    subst e4
    obtain ⟨v4, rfl, l4, k4⟩ := list_dec (fun y hy => ih y (by have h1 := List.sizeOf_lt_of_mem hy; simp at hsz; omega) (q4 y hy))
    exact ⟨⟨v0, v1, v2, ⟨z3_Ty, z3_N, z3_S⟩, v4⟩, by simp, by simp only [XPred.ok_eq]; exact ⟨wf_i64 w0, wf_i64 w1, wf_i64 w2, k3, Nat.le_trans (Nat.le_of_eq l4) m4, (by rw [XPred.oks_eq]; exact k4)⟩⟩

theorem has_27 {ds : List D} (h : HasT Try.prog 27 ds) : ∃ x : XPred, ds = x.e ∧ x.ok := has_27n _ ds (Nat.lt_succ_self _) h

theorem has_int_3 {ds : List D} (h : HasT Try.prog 3 ds) : ∃ n : Int, ds = ei n ∧ (-9223372036854775808 ≤ n ∧ n ≤ 9223372036854775807) := by
  obtain ⟨n, rfl, w⟩ := h.int_inv (by kernel_rfl : Try.prog.underlying 3 = some (.int .i64))
  exact ⟨n, rfl, wf_i64 w⟩

theorem has_30 {ds : List D} (h : HasT Try.prog 30 ds) : ∃ x : XQuery, ds = x.e ∧ x.ok := by
  obtain ⟨hl, hf⟩ := h.fields (by kernel_rfl : fieldsOf Try.prog 30 = some [(3, 0, 1), (27, 1, 7), (3, 8, 1), (28, 9, 1)]) (by kernel_rfl : Try.prog.cellsOf 30 = 10)
  match ds, hl with
  | [d0, d1, d2, d3, d4, d5, d6, d7, d8, d9], _ =>
    obtain ⟨v0, e0, w0⟩ := (hf (3, 0, 1) (by simp)).int_inv (by kernel_rfl : Try.prog.underlying 3 = some (.int .i64))
    simp at e0
    subst e0
    obtain ⟨y1, e1, k1⟩ := has_27 (hf (27, 1, 7) (by simp))
    obtain ⟨z1_Kind, z1_Col, z1_Op, ⟨z1_V_Ty, z1_V_N, z1_V_S⟩, z1_L⟩ := y1
    simp at e1
    obtain ⟨rfl, rfl, rfl, rfl, rfl, rfl, rfl⟩ := e1
    obtain ⟨v2, e2, w2⟩ := (hf (3, 8, 1) (by simp)).int_inv (by kernel_rfl : Try.prog.underlying 3 = some (.int .i64))
    simp at e2
    subst e2
    obtain ⟨es3, e3, m3, q3⟩ := (hf (28, 9, 1) (by simp)).sl_inv (by kernel_rfl : Try.prog.underlying 28 = some (.slice 3))
    rw [show Try.prog.cellsOf 3 = 1 from by kernel_rfl] at e3
    simp at e3
    subst e3
    obtain ⟨v3, rfl, l3, k3⟩ := list_dec (fun y hy => has_int_3 (q3 y hy))
    exact ⟨⟨v0, ⟨z1_Kind, z1_Col, z1_Op, ⟨z1_V_Ty, z1_V_N, z1_V_S⟩, z1_L⟩, v2, v3⟩, by simp, by simp only [XQuery.ok]; exact ⟨wf_i64 w0, k1, wf_i64 w2, Nat.le_trans (Nat.le_of_eq l3) m3, k3⟩⟩

theorem has_136 {ds : List D} (h : HasT Try.prog 136 ds) : ∃ x : XRef, ds = x.e ∧ x.ok := by
  obtain ⟨hl, hf⟩ := h.fields (by kernel_rfl : fieldsOf Try.prog 136 = some [(3, 0, 1), (3, 1, 1), (3, 2, 1), (3, 3, 1), (3, 4, 1)]) (by kernel_rfl : Try.prog.cellsOf 136 = 5)
  match ds, hl with
  | [d0, d1, d2, d3, d4], _ =>
    obtain ⟨v0, e0, w0⟩ := (hf (3, 0, 1) (by simp)).int_inv (by kernel_rfl : Try.prog.underlying 3 = some (.int .i64))
    simp at e0
    subst e0
    obtain ⟨v1, e1, w1⟩ := (hf (3, 1, 1) (by simp)).int_inv (by kernel_rfl : Try.prog.underlying 3 = some (.int .i64))
    simp at e1
    subst e1
    obtain ⟨v2, e2, w2⟩ := (hf (3, 2, 1) (by simp)).int_inv (by kernel_rfl : Try.prog.underlying 3 = some (.int .i64))
    simp at e2
    subst e2
    obtain ⟨v3, e3, w3⟩ := (hf (3, 3, 1) (by simp)).int_inv (by kernel_rfl : Try.prog.underlying 3 = some (.int .i64))
    simp at e3
    subst e3
    obtain ⟨v4, e4, w4⟩ := (hf (3, 4, 1) (by simp)).int_inv (by kernel_rfl : Try.prog.underlying 3 = some (.int .i64))
    simp at e4
    subst e4
    exact ⟨⟨v0, v1, v2, v3, v4⟩, by simp, by simp only [XRef.ok]; exact ⟨wf_i64 w0, wf_i64 w1, wf_i64 w2, wf_i64 w3, wf_i64 w4⟩⟩

theorem has_134 {ds : List D} (h : HasT Try.prog 134 ds) : ∃ x : XRow, ds = x.e ∧ x.ok := by
  obtain ⟨hl, hf⟩ := h.fields (by kernel_rfl : fieldsOf Try.prog 134 = some [(3, 0, 1), (22, 1, 1)]) (by kernel_rfl : Try.prog.cellsOf 134 = 2)
  match ds, hl with
  | [d0, d1], _ =>
    obtain ⟨v0, e0, w0⟩ := (hf (3, 0, 1) (by simp)).int_inv (by kernel_rfl : Try.prog.underlying 3 = some (.int .i64))
    simp at e0
    subst e0
    obtain ⟨es1, e1, m1, q1⟩ := (hf (22, 1, 1) (by simp)).sl_inv (by kernel_rfl : Try.prog.underlying 22 = some (.slice 24))
    rw [show Try.prog.cellsOf 24 = 3 from by kernel_rfl] at e1
    simp at e1
    subst e1
    obtain ⟨v1, rfl, l1, k1⟩ := list_dec (fun y hy => has_24 (q1 y hy))
    exact ⟨⟨v0, v1⟩, by simp, by simp only [XRow.ok]; exact ⟨wf_i64 w0, Nat.le_trans (Nat.le_of_eq l1) m1, k1⟩⟩

theorem has_56 {ds : List D} (h : HasT Try.prog 56 ds) : ∃ x : XTask, ds = x.e ∧ x.ok := by
  obtain ⟨hl, hf⟩ := h.fields (by kernel_rfl : fieldsOf Try.prog 56 = some [(3, 0, 1), (3, 1, 1), (3, 2, 1), (22, 3, 1), (3, 4, 1), (30, 5, 10), (3, 15, 1), (3, 16, 1), (54, 17, 1), (3, 18, 1), (3, 19, 1), (3, 20, 1), (3, 21, 1), (3, 22, 1), (4, 23, 1), (31, 24, 1)]) (by kernel_rfl : Try.prog.cellsOf 56 = 25)
  match ds, hl with
  | [d0, d1, d2, d3, d4, d5, d6, d7, d8, d9, d10, d11, d12, d13, d14, d15, d16, d17, d18, d19, d20, d21, d22, d23, d24], _ =>
    obtain ⟨v0, e0, w0⟩ := (hf (3, 0, 1) (by simp)).int_inv (by kernel_rfl : Try.prog.underlying 3 = some (.int .i64))
    simp at e0
    subst e0
    obtain ⟨v1, e1, w1⟩ := (hf (3, 1, 1) (by simp)).int_inv (by kernel_rfl : Try.prog.underlying 3 = some (.int .i64))
    simp at e1
    subst e1
    obtain ⟨v2, e2, w2⟩ := (hf (3, 2, 1) (by simp)).int_inv (by kernel_rfl : Try.prog.underlying 3 = some (.int .i64))
    simp at e2
    subst e2
    obtain ⟨es3, e3, m3, q3⟩ := (hf (22, 3, 1) (by simp)).sl_inv (by kernel_rfl : Try.prog.underlying 22 = some (.slice 24))
    rw [show Try.prog.cellsOf 24 = 3 from by kernel_rfl] at e3
    simp at e3
    subst e3
    obtain ⟨v3, rfl, l3, k3⟩ := list_dec (fun y hy => has_24 (q3 y hy))
    obtain ⟨v4, e4, w4⟩ := (hf (3, 4, 1) (by simp)).int_inv (by kernel_rfl : Try.prog.underlying 3 = some (.int .i64))
    simp at e4
    subst e4
    obtain ⟨y5, e5, k5⟩ := has_30 (hf (30, 5, 10) (by simp))
    obtain ⟨z5_Kind, ⟨z5_P_Kind, z5_P_Col, z5_P_Op, ⟨z5_P_V_Ty, z5_P_V_N, z5_P_V_S⟩, z5_P_L⟩, z5_Col, z5_Out⟩ := y5
    simp at e5
    obtain ⟨rfl, rfl, rfl, rfl, rfl, rfl, rfl, rfl, rfl, rfl⟩ := e5
    obtain ⟨v6, e6, w6⟩ := (hf (3, 15, 1) (by simp)).int_inv (by kernel_rfl : Try.prog.underlying 3 = some (.int .i64))
    simp at e6
    subst e6
    obtain ⟨v7, e7, w7⟩ := (hf (3, 16, 1) (by simp)).int_inv (by kernel_rfl : Try.prog.underlying 3 = some (.int .i64))
    simp at e7
    subst e7
    obtain ⟨es8, e8, m8, q8⟩ := (hf (54, 17, 1) (by simp)).sl_inv (by kernel_rfl : Try.prog.underlying 54 = some (.slice 136))
    rw [show Try.prog.cellsOf 136 = 5 from by kernel_rfl] at e8
    simp at e8
    subst e8
    obtain ⟨v8, rfl, l8, k8⟩ := list_dec (fun y hy => has_136 (q8 y hy))
    obtain ⟨v9, e9, w9⟩ := (hf (3, 18, 1) (by simp)).int_inv (by kernel_rfl : Try.prog.underlying 3 = some (.int .i64))
    simp at e9
    subst e9
    obtain ⟨v10, e10, w10⟩ := (hf (3, 19, 1) (by simp)).int_inv (by kernel_rfl : Try.prog.underlying 3 = some (.int .i64))
    simp at e10
    subst e10
    obtain ⟨v11, e11, w11⟩ := (hf (3, 20, 1) (by simp)).int_inv (by kernel_rfl : Try.prog.underlying 3 = some (.int .i64))
    simp at e11
    subst e11
    obtain ⟨v12, e12, w12⟩ := (hf (3, 21, 1) (by simp)).int_inv (by kernel_rfl : Try.prog.underlying 3 = some (.int .i64))
    simp at e12
    subst e12
    obtain ⟨v13, e13, w13⟩ := (hf (3, 22, 1) (by simp)).int_inv (by kernel_rfl : Try.prog.underlying 3 = some (.int .i64))
    simp at e13
    subst e13
    obtain ⟨v14, e14⟩ := (hf (4, 23, 1) (by simp)).bool_inv (by kernel_rfl : Try.prog.underlying 4 = some .bool)
    simp at e14
    subst e14
    obtain ⟨es15, e15, m15, q15⟩ := (hf (31, 24, 1) (by simp)).sl_inv (by kernel_rfl : Try.prog.underlying 31 = some (.slice 134))
    rw [show Try.prog.cellsOf 134 = 2 from by kernel_rfl] at e15
    simp at e15
    subst e15
    obtain ⟨v15, rfl, l15, k15⟩ := list_dec (fun y hy => has_134 (q15 y hy))
    exact ⟨⟨v0, v1, v2, v3, v4, ⟨z5_Kind, ⟨z5_P_Kind, z5_P_Col, z5_P_Op, ⟨z5_P_V_Ty, z5_P_V_N, z5_P_V_S⟩, z5_P_L⟩, z5_Col, z5_Out⟩, v6, v7, v8, v9, v10, v11, v12, v13, v14, v15⟩, by simp, by simp only [XTask.ok]; exact ⟨wf_i64 w0, wf_i64 w1, wf_i64 w2, Nat.le_trans (Nat.le_of_eq l3) m3, k3, wf_i64 w4, k5, wf_i64 w6, wf_i64 w7, Nat.le_trans (Nat.le_of_eq l8) m8, k8, wf_i64 w9, wf_i64 w10, wf_i64 w11, wf_i64 w12, wf_i64 w13, Nat.le_trans (Nat.le_of_eq l15) m15, k15⟩⟩

theorem own : ownKnob Try.prog.godebug = none := by kernel_rfl

theorem says (xs : List V) (h : ArgsT Try.prog Try.f11.params.toList xs) : OK Try.prog 11 xs (.one (.ro false (.bool true))) [] := by
  rw [show Try.f11.params.toList = [56, 3] from by kernel_rfl] at h
  obtain ⟨x0, xs, rfl, h0, h⟩ := h.cons_inv
  obtain ⟨x1, xs, rfl, h1, h⟩ := h.cons_inv
  obtain rfl := h.nil_inv
  obtain ⟨ds0, rfl, g0⟩ := h0.struct' (by kernel_rfl)
  obtain ⟨y0, rfl, k0⟩ := has_56 g0
  obtain ⟨aT_Op, aT_Pc, aT_H, aT_R, aT_Id, ⟨aT_Q_Kind, ⟨aT_Q_P_Kind, aT_Q_P_Col, aT_Q_P_Op, ⟨aT_Q_P_V_Ty, aT_Q_P_V_N, aT_Q_P_V_S⟩, aT_Q_P_L⟩, aT_Q_Col, aT_Q_Out⟩, aT_Ts, aT_Ver, aT_L, aT_I, aT_J, aT_S, aT_At, aT_Own, aT_Won, aT_Got⟩ := y0
  simp only [XTask.ok, XQuery.ok, XPred.ok_eq, XVal.ok, and_assoc] at k0
  obtain ⟨hlo_aT_Op, hhi_aT_Op, hlo_aT_Pc, hhi_aT_Pc, hlo_aT_H, hhi_aT_H, hok_aT_R, hoks_aT_R, hlo_aT_Id, hhi_aT_Id, hlo_aT_Q_Kind, hhi_aT_Q_Kind, hlo_aT_Q_P_Kind, hhi_aT_Q_P_Kind, hlo_aT_Q_P_Col, hhi_aT_Q_P_Col, hlo_aT_Q_P_Op, hhi_aT_Q_P_Op, hlo_aT_Q_P_V_Ty, hhi_aT_Q_P_V_Ty, hlo_aT_Q_P_V_N, hhi_aT_Q_P_V_N, hok_aT_Q_P_V_S, hok_aT_Q_P_L, hoks_aT_Q_P_L, hlo_aT_Q_Col, hhi_aT_Q_Col, hok_aT_Q_Out, hoki_aT_Q_Out, hlo_aT_Ts, hhi_aT_Ts, hlo_aT_Ver, hhi_aT_Ver, hok_aT_L, hoks_aT_L, hlo_aT_I, hhi_aT_I, hlo_aT_J, hhi_aT_J, hlo_aT_S, hhi_aT_S, hlo_aT_At, hhi_aT_At, hlo_aT_Own, hhi_aT_Own, hok_aT_Got, hoks_aT_Got⟩ := k0
  obtain ⟨aK, rfl, w1⟩ := h1.int (by kernel_rfl : Try.prog.underlying 3 = some (.int .i64))
  exact seat_ok 132 _ _ _ (t132 aT_Op aT_Pc aT_H aT_R aT_Id aT_Q_Kind aT_Q_P_Kind aT_Q_P_Col aT_Q_P_Op aT_Q_P_V_Ty aT_Q_P_V_N aT_Q_P_V_S aT_Q_P_L aT_Q_Col aT_Q_Out aT_Ts aT_Ver aT_L aT_I aT_J aT_S aT_At aT_Own aT_Won aT_Got aK hok_aT_R hoks_aT_R hok_aT_Q_P_V_S hok_aT_Q_P_L hoks_aT_Q_P_L hok_aT_Q_Out hok_aT_L hok_aT_Got hoks_aT_Got)

theorem lifted (os : Os) (started : os.Started) (H : Type) (enc : TypeId × Value → H) :
    ReturnsInHanded {} Try.checked os 11 .any (Rows.fnExactTaskOkSpec.pre6 enc Try.prog Try.f11 Rows.fnExactTaskOkRow.domain false) (Rows.fnExactTaskOkSpec.post enc Try.prog Try.f11 false true false false) := by
  refine returnsInHanded_of_change (C := Try.checked) own started (by kernel_rfl) Try.func11
    (ChangeSpec.witness6 (enc := enc) (C := Try.checked) false ⟨#[], #[.agg #[.int .i64 0, .int .i64 0, .int .i64 0, .slice none 0 0, .int .i64 0, .int .i64 0, .int .i64 0, .int .i64 0, .int .i64 0, .int .i64 0, .int .i64 0, .string ⟨#[]⟩, .slice none 0 0, .int .i64 0, .slice none 0 0, .int .i64 0, .int .i64 0, .slice none 0 0, .int .i64 0, .int .i64 0, .int .i64 0, .int .i64 0, .int .i64 0, .bool false, .slice none 0 0], .int .i64 0], []⟩ 8 (by kernel_rfl) (by kernel_rfl) (by kernel_rfl) (by kernel_rfl)) ?_
  intro W base args ds gs before hval0 hW hcnd _
  refine law_contract (S := [56, 3, 22, 24, 9, 30, 27, 25, 28, 54, 136, 4, 31, 134]) (tb := 4) (by kernel_rfl) (by kernel_rfl) (by kernel_rfl) says (fun j t v h1 h2 => ⟨_, _, hval0 j t v h1 h2⟩) hW rfl (by kernel_rfl) (by kernel_rfl) (fun hl => ?_)
  match ds, hl with
  | [d0, d1], _ => exact ⟨rfl, rfl, rfl⟩

theorem over : Rows.fnExactTaskOkRow.holds Try.pinned (OpenSpec.ofChange Rows.fnExactTaskOkSpec) :=
  OpenClaim.holds_of_wide 11 Try.f11 rfl rfl rfl rfl rfl rfl rfl ⟨rfl, rfl, rfl, rfl, rfl⟩ rfl rfl rfl rfl rfl (by kernel_rfl) Try.func11 (by kernel_rfl)
    (of_decide_eq_true (by kernel_rfl)) (by unfold Func.isWrapper; first | (rw [if_pos (by decide +kernel)]; kernel_rfl) | (rw [if_neg (by decide +kernel)]; exact ⟨rfl, rfl⟩))
    (fun os started H enc _ => lifted os started H enc)

theorem proved : Rows.FnExactTaskOkSaid := over
#print axioms proved
end Go.Proofs.Ytbfmbddafpbcpaa.fnExactTaskOk
