/- The law FnExactEndsClaimed returns true for every input, and each argument reads behind the call as it read before. No condition. -/
import Derived.Test.YtnadnanmgakkfaaXEndsClaimedLm1
import Derived.Test.YtnadnanmgakkfaaOMLaw
import Derived.Test.YtnadnanmgakkfaaRows
import Derived.KernelRfl
import Derived.WalkKit
import Derived.ProofKit
import Derived.OpenShut
set_option linter.all false
namespace Go.Proofs.Ytnadnanmgakkfaa.fnExactEndsClaimed
open Go.ChangeShapes Go.WideShapes Go.ChangeAt Go.RowKit Go.Proofs.Ytnadnanmgakkfaa.OM
set_option maxRecDepth 100000
set_option maxHeartbeats 4000000

def ids : List (Nat × Nat) := [(17, 46), (100, 13), (142, 103), (143, 63), (144, 136), (145, 135), (146, 41), (147, 104), (148, 64), (149, 106), (150, 66), (151, 62), (152, 47), (153, 151), (154, 158), (155, 138), (156, 18), (157, 102), (158, 140), (159, 152), (160, 139), (161, 157), (162, 149), (163, 105), (164, 65), (165, 150), (166, 137), (167, 19), (175, 49), (183, 82), (184, 112), (186, 42), (187, 83), (188, 85), (189, 81), (190, 48), (191, 115), (192, 110), (193, 116), (194, 111), (195, 84), (196, 114), (197, 113), (198, 43), (210, 94), (211, 51), (212, 124), (213, 123), (214, 37), (215, 53), (216, 96), (217, 55), (218, 50), (219, 52), (220, 143), (221, 154), (222, 126), (223, 93), (224, 128), (225, 144), (226, 127), (227, 153), (228, 141), (229, 95), (230, 54), (231, 142), (232, 125), (233, 14), (234, 98), (235, 57), (236, 130), (237, 129), (238, 39), (239, 99), (240, 59), (241, 101), (242, 61), (243, 56), (244, 58), (245, 147), (246, 156), (247, 132), (248, 25), (249, 97), (250, 134), (251, 148), (252, 133), (253, 155), (254, 145), (255, 100), (256, 60), (257, 146), (258, 131), (259, 16), (297, 45), (312, 92)]
def fid (k : Nat) : FuncId := (ids.lookup k).getD 0
theorem chk_all : tab.all (fun p => chkF Try.prog fid (fid p.1) p.2) = true := by kernel_rfl
theorem seat_ok (f : Nat) (xs : List V) (r : V) (us : List (Nat × Nat × C)) (h : Gw TT f xs = some (r, us)) : OK Try.prog (fid f) xs r us := by
  refine Gw_ok (by kernel_rfl) (fun f F hF => ?_) f xs r us h
  exact List.all_eq_true.1 chk_all (f, F) (lookup_mem hF)

theorem has_int_3 {ds : List D} (h : HasT Try.prog 3 ds) : ∃ n : Int, ds = ei n ∧ (-9223372036854775808 ≤ n ∧ n ≤ 9223372036854775807) := by
  obtain ⟨n, rfl, w⟩ := h.int_inv (by kernel_rfl : Try.prog.underlying 3 = some (.int .i64))
  exact ⟨n, rfl, wf_i64 w⟩

theorem has_24 {ds : List D} (h : HasT Try.prog 24 ds) : ∃ x : XConf, ds = x.e ∧ x.ok := by
  obtain ⟨hl, hf⟩ := h.fields (by kernel_rfl : fieldsOf Try.prog 24 = some [(22, 0, 1), (3, 1, 1), (3, 2, 1)]) (by kernel_rfl : Try.prog.cellsOf 24 = 3)
  match ds, hl with
  | [d0, d1, d2], _ =>
    obtain ⟨es0, e0, m0, q0⟩ := (hf (22, 0, 1) (by simp)).sl_inv (by kernel_rfl : Try.prog.underlying 22 = some (.slice 3))
    rw [show Try.prog.cellsOf 3 = 1 from by kernel_rfl] at e0
    simp at e0
    subst e0
    obtain ⟨v0, rfl, l0, k0⟩ := list_dec (fun y hy => has_int_3 (q0 y hy))
    obtain ⟨v1, e1, w1⟩ := (hf (3, 1, 1) (by simp)).int_inv (by kernel_rfl : Try.prog.underlying 3 = some (.int .i64))
    simp at e1
    subst e1
    obtain ⟨v2, e2, w2⟩ := (hf (3, 2, 1) (by simp)).int_inv (by kernel_rfl : Try.prog.underlying 3 = some (.int .i64))
    simp at e2
    subst e2
    exact ⟨⟨v0, v1, v2⟩, by simp, by simp only [XConf.ok]; exact ⟨Nat.le_trans (Nat.le_of_eq l0) m0, k0, wf_i64 w1, wf_i64 w2⟩⟩

theorem has_55 {ds : List D} (h : HasT Try.prog 55 ds) : ∃ x : XRef, ds = x.e ∧ x.ok := by
  obtain ⟨hl, hf⟩ := h.fields (by kernel_rfl : fieldsOf Try.prog 55 = some [(3, 0, 1), (3, 1, 1), (3, 2, 1), (3, 3, 1), (3, 4, 1)]) (by kernel_rfl : Try.prog.cellsOf 55 = 5)
  match ds, hl with
  | [d0, d1, d2, d3, d4], _ =>
    obtain ⟨v0, e0, w0⟩ := (hf (3, 0, 1) (by simp)).int_inv (by kernel_rfl : Try.prog.underlying 3 = some (.int .i64))
    simp at e0
    subst e0
    obtain ⟨v1, e1, w1⟩ := (hf (3, 1, 1) (by simp)).int_inv (by kernel_rfl : Try.prog.underlying 3 = some (.int .i64))
    simp at e1
    subst e1
    obtain ⟨v2, e2, w2⟩ := (hf (3, 2, 1) (by simp)).int_inv (by kernel_rfl : Try.prog.underlying 3 = some (.int .i64))
    simp at e2
    subst e2
    obtain ⟨v3, e3, w3⟩ := (hf (3, 3, 1) (by simp)).int_inv (by kernel_rfl : Try.prog.underlying 3 = some (.int .i64))
    simp at e3
    subst e3
    obtain ⟨v4, e4, w4⟩ := (hf (3, 4, 1) (by simp)).int_inv (by kernel_rfl : Try.prog.underlying 3 = some (.int .i64))
    simp at e4
    subst e4
    exact ⟨⟨v0, v1, v2, v3, v4⟩, by simp, by simp only [XRef.ok]; exact ⟨wf_i64 w0, wf_i64 w1, wf_i64 w2, wf_i64 w3, wf_i64 w4⟩⟩

theorem has_27 {ds : List D} (h : HasT Try.prog 27 ds) : ∃ x : XDir, ds = x.e ∧ x.ok := by
  obtain ⟨hl, hf⟩ := h.fields (by kernel_rfl : fieldsOf Try.prog 27 = some [(3, 0, 1), (25, 1, 1)]) (by kernel_rfl : Try.prog.cellsOf 27 = 2)
  match ds, hl with
  | [d0, d1], _ =>
    obtain ⟨v0, e0, w0⟩ := (hf (3, 0, 1) (by simp)).int_inv (by kernel_rfl : Try.prog.underlying 3 = some (.int .i64))
    simp at e0
    subst e0
    obtain ⟨es1, e1, m1, q1⟩ := (hf (25, 1, 1) (by simp)).sl_inv (by kernel_rfl : Try.prog.underlying 25 = some (.slice 55))
    rw [show Try.prog.cellsOf 55 = 5 from by kernel_rfl] at e1
    simp at e1
    subst e1
    obtain ⟨v1, rfl, l1, k1⟩ := list_dec (fun y hy => has_55 (q1 y hy))
    exact ⟨⟨v0, v1⟩, by simp, by simp only [XDir.ok]; exact ⟨wf_i64 w0, Nat.le_trans (Nat.le_of_eq l1) m1, k1⟩⟩

theorem has_126 {ds : List D} (h : HasT Try.prog 126 ds) : ∃ x : XVal, ds = x.e ∧ x.ok := by
  obtain ⟨hl, hf⟩ := h.fields (by kernel_rfl : fieldsOf Try.prog 126 = some [(3, 0, 1), (3, 1, 1), (9, 2, 1)]) (by kernel_rfl : Try.prog.cellsOf 126 = 3)
  match ds, hl with
  | [d0, d1, d2], _ =>
    obtain ⟨v0, e0, w0⟩ := (hf (3, 0, 1) (by simp)).int_inv (by kernel_rfl : Try.prog.underlying 3 = some (.int .i64))
    simp at e0
    subst e0
    obtain ⟨v1, e1, w1⟩ := (hf (3, 1, 1) (by simp)).int_inv (by kernel_rfl : Try.prog.underlying 3 = some (.int .i64))
    simp at e1
    subst e1
    obtain ⟨v2, e2, w2⟩ := (hf (9, 2, 1) (by simp)).str_inv (by kernel_rfl : Try.prog.underlying 9 = some .string)
    simp at e2
    subst e2
    exact ⟨⟨v0, v1, v2⟩, by simp, by simp only [XVal.ok]; exact ⟨wf_i64 w0, wf_i64 w1, w2⟩⟩

theorem has_202 {ds : List D} (h : HasT Try.prog 202 ds) : ∃ x : XSlot, ds = x.e ∧ x.ok := by
  obtain ⟨hl, hf⟩ := h.fields (by kernel_rfl : fieldsOf Try.prog 202 = some [(3, 0, 1), (125, 1, 1)]) (by kernel_rfl : Try.prog.cellsOf 202 = 2)
  match ds, hl with
  | [d0, d1], _ =>
    obtain ⟨v0, e0, w0⟩ := (hf (3, 0, 1) (by simp)).int_inv (by kernel_rfl : Try.prog.underlying 3 = some (.int .i64))
    simp at e0
    subst e0
    obtain ⟨es1, e1, m1, q1⟩ := (hf (125, 1, 1) (by simp)).sl_inv (by kernel_rfl : Try.prog.underlying 125 = some (.slice 126))
    rw [show Try.prog.cellsOf 126 = 3 from by kernel_rfl] at e1
    simp at e1
    subst e1
    obtain ⟨v1, rfl, l1, k1⟩ := list_dec (fun y hy => has_126 (q1 y hy))
    exact ⟨⟨v0, v1⟩, by simp, by simp only [XSlot.ok]; exact ⟨wf_i64 w0, Nat.le_trans (Nat.le_of_eq l1) m1, k1⟩⟩

theorem has_121 {ds : List D} (h : HasT Try.prog 121 ds) : ∃ x : XChunk, ds = x.e ∧ x.ok := by
  obtain ⟨hl, hf⟩ := h.fields (by kernel_rfl : fieldsOf Try.prog 121 = some [(3, 0, 1), (119, 1, 1)]) (by kernel_rfl : Try.prog.cellsOf 121 = 2)
  match ds, hl with
  | [d0, d1], _ =>
    obtain ⟨v0, e0, w0⟩ := (hf (3, 0, 1) (by simp)).int_inv (by kernel_rfl : Try.prog.underlying 3 = some (.int .i64))
    simp at e0
    subst e0
    obtain ⟨es1, e1, m1, q1⟩ := (hf (119, 1, 1) (by simp)).sl_inv (by kernel_rfl : Try.prog.underlying 119 = some (.slice 202))
    rw [show Try.prog.cellsOf 202 = 2 from by kernel_rfl] at e1
    simp at e1
    subst e1
    obtain ⟨v1, rfl, l1, k1⟩ := list_dec (fun y hy => has_202 (q1 y hy))
    exact ⟨⟨v0, v1⟩, by simp, by simp only [XChunk.ok]; exact ⟨wf_i64 w0, Nat.le_trans (Nat.le_of_eq l1) m1, k1⟩⟩

theorem has_int_5 {ds : List D} (h : HasT Try.prog 5 ds) : ∃ n : Int, ds = eb n ∧ (0 ≤ n ∧ n ≤ 255) := by
  obtain ⟨n, rfl, w⟩ := h.int_inv (by kernel_rfl : Try.prog.underlying 5 = some (.int .u8))
  exact ⟨n, rfl, wf_u8 w⟩

theorem has_123 {ds : List D} (h : HasT Try.prog 123 ds) : ∃ x : XBuf, ds = x.e ∧ x.ok := by
  obtain ⟨hl, hf⟩ := h.fields (by kernel_rfl : fieldsOf Try.prog 123 = some [(3, 0, 1), (3, 1, 1), (121, 2, 2), (100, 4, 1)]) (by kernel_rfl : Try.prog.cellsOf 123 = 5)
  match ds, hl with
  | [d0, d1, d2, d3, d4], _ =>
    obtain ⟨v0, e0, w0⟩ := (hf (3, 0, 1) (by simp)).int_inv (by kernel_rfl : Try.prog.underlying 3 = some (.int .i64))
    simp at e0
    subst e0
    obtain ⟨v1, e1, w1⟩ := (hf (3, 1, 1) (by simp)).int_inv (by kernel_rfl : Try.prog.underlying 3 = some (.int .i64))
    simp at e1
    subst e1
    obtain ⟨y2, e2, k2⟩ := has_121 (hf (121, 2, 2) (by simp))
    obtain ⟨z2_Next, z2_L⟩ := y2
    simp at e2
    obtain ⟨rfl, rfl⟩ := e2
    obtain ⟨es3, e3, m3, q3⟩ := (hf (100, 4, 1) (by simp)).sl_inv (by kernel_rfl : Try.prog.underlying 100 = some (.slice 5))
    rw [show Try.prog.cellsOf 5 = 1 from by kernel_rfl] at e3
    simp at e3
    subst e3
    obtain ⟨v3, rfl, l3, k3⟩ := list_dec (fun y hy => has_int_5 (q3 y hy))
    exact ⟨⟨v0, v1, ⟨z2_Next, z2_L⟩, v3⟩, by simp, by simp only [XBuf.ok]; exact ⟨wf_i64 w0, wf_i64 w1, k2, Nat.le_trans (Nat.le_of_eq l3) m3, k3⟩⟩

theorem has_145 {ds : List D} (h : HasT Try.prog 145 ds) : ∃ x : XDead, ds = x.e ∧ x.ok := by
  obtain ⟨hl, hf⟩ := h.fields (by kernel_rfl : fieldsOf Try.prog 145 = some [(3, 0, 1), (3, 1, 1), (3, 2, 1)]) (by kernel_rfl : Try.prog.cellsOf 145 = 3)
  match ds, hl with
  | [d0, d1, d2], _ =>
    obtain ⟨v0, e0, w0⟩ := (hf (3, 0, 1) (by simp)).int_inv (by kernel_rfl : Try.prog.underlying 3 = some (.int .i64))
    simp at e0
    subst e0
    obtain ⟨v1, e1, w1⟩ := (hf (3, 1, 1) (by simp)).int_inv (by kernel_rfl : Try.prog.underlying 3 = some (.int .i64))
    simp at e1
    subst e1
    obtain ⟨v2, e2, w2⟩ := (hf (3, 2, 1) (by simp)).int_inv (by kernel_rfl : Try.prog.underlying 3 = some (.int .i64))
    simp at e2
    subst e2
    exact ⟨⟨v0, v1, v2⟩, by simp, by simp only [XDead.ok]; exact ⟨wf_i64 w0, wf_i64 w1, wf_i64 w2⟩⟩

theorem has_129n : ∀ (n : Nat) (ds : List D), SizeOf.sizeOf ds < n → HasT Try.prog 129 ds → ∃ x : XPred, ds = x.e ∧ x.ok := by
  intro n
  induction n with
  | zero => intro ds h; omega
  | succ n ih =>
  intro ds hsz h
  obtain ⟨hl, hf⟩ := h.fields (by kernel_rfl : fieldsOf Try.prog 129 = some [(3, 0, 1), (3, 1, 1), (3, 2, 1), (126, 3, 3), (127, 6, 1)]) (by kernel_rfl : Try.prog.cellsOf 129 = 7)
  match ds, hl with
  | [d0, d1, d2, d3, d4, d5, d6], _ =>
    obtain ⟨v0, e0, w0⟩ := (hf (3, 0, 1) (by simp)).int_inv (by kernel_rfl : Try.prog.underlying 3 = some (.int .i64))
    simp at e0
    subst e0
    obtain ⟨v1, e1, w1⟩ := (hf (3, 1, 1) (by simp)).int_inv (by kernel_rfl : Try.prog.underlying 3 = some (.int .i64))
    simp at e1
    subst e1
    obtain ⟨v2, e2, w2⟩ := (hf (3, 2, 1) (by simp)).int_inv (by kernel_rfl : Try.prog.underlying 3 = some (.int .i64))
    simp at e2
    subst e2
    obtain ⟨y3, e3, k3⟩ := has_126 (hf (126, 3, 3) (by simp))
    obtain ⟨z3_Ty, z3_N, z3_S⟩ := y3
    simp at e3
    obtain ⟨rfl, rfl, rfl⟩ := e3
    obtain ⟨es4, e4, m4, q4⟩ := (hf (127, 6, 1) (by simp)).sl_inv (by kernel_rfl : Try.prog.underlying 127 = some (.slice 129))
    rw [show Try.prog.cellsOf 129 = 7 from by kernel_rfl] at e4
    simp at e4
    subst e4
    obtain ⟨v4, rfl, l4, k4⟩ := list_dec (fun y hy => ih y (by have h1 := List.sizeOf_lt_of_mem hy; simp at hsz; omega) (q4 y hy))
    exact ⟨⟨v0, v1, v2, ⟨z3_Ty, z3_N, z3_S⟩, v4⟩, by simp, by simp only [XPred.ok_eq]; exact ⟨wf_i64 w0, wf_i64 w1, wf_i64 w2, k3, Nat.le_trans (Nat.le_of_eq l4) m4, (by rw [XPred.oks_eq]; exact k4)⟩⟩

theorem has_129 {ds : List D} (h : HasT Try.prog 129 ds) : ∃ x : XPred, ds = x.e ∧ x.ok := has_129n _ ds (Nat.lt_succ_self _) h

theorem has_131 {ds : List D} (h : HasT Try.prog 131 ds) : ∃ x : XQuery, ds = x.e ∧ x.ok := by
  obtain ⟨hl, hf⟩ := h.fields (by kernel_rfl : fieldsOf Try.prog 131 = some [(3, 0, 1), (129, 1, 7), (3, 8, 1), (22, 9, 1)]) (by kernel_rfl : Try.prog.cellsOf 131 = 10)
  match ds, hl with
  | [d0, d1, d2, d3, d4, d5, d6, d7, d8, d9], _ =>
    obtain ⟨v0, e0, w0⟩ := (hf (3, 0, 1) (by simp)).int_inv (by kernel_rfl : Try.prog.underlying 3 = some (.int .i64))
    simp at e0
    subst e0
    obtain ⟨y1, e1, k1⟩ := has_129 (hf (129, 1, 7) (by simp))
    obtain ⟨z1_Kind, z1_Col, z1_Op, ⟨z1_V_Ty, z1_V_N, z1_V_S⟩, z1_L⟩ := y1
    simp at e1
    obtain ⟨rfl, rfl, rfl, rfl, rfl, rfl, rfl⟩ := e1
    obtain ⟨v2, e2, w2⟩ := (hf (3, 8, 1) (by simp)).int_inv (by kernel_rfl : Try.prog.underlying 3 = some (.int .i64))
    simp at e2
    subst e2
    obtain ⟨es3, e3, m3, q3⟩ := (hf (22, 9, 1) (by simp)).sl_inv (by kernel_rfl : Try.prog.underlying 22 = some (.slice 3))
    rw [show Try.prog.cellsOf 3 = 1 from by kernel_rfl] at e3
    simp at e3
    subst e3
    obtain ⟨v3, rfl, l3, k3⟩ := list_dec (fun y hy => has_int_3 (q3 y hy))
    exact ⟨⟨v0, ⟨z1_Kind, z1_Col, z1_Op, ⟨z1_V_Ty, z1_V_N, z1_V_S⟩, z1_L⟩, v2, v3⟩, by simp, by simp only [XQuery.ok]; exact ⟨wf_i64 w0, k1, wf_i64 w2, Nat.le_trans (Nat.le_of_eq l3) m3, k3⟩⟩

theorem has_191 {ds : List D} (h : HasT Try.prog 191 ds) : ∃ x : XRow, ds = x.e ∧ x.ok := by
  obtain ⟨hl, hf⟩ := h.fields (by kernel_rfl : fieldsOf Try.prog 191 = some [(3, 0, 1), (125, 1, 1)]) (by kernel_rfl : Try.prog.cellsOf 191 = 2)
  match ds, hl with
  | [d0, d1], _ =>
    obtain ⟨v0, e0, w0⟩ := (hf (3, 0, 1) (by simp)).int_inv (by kernel_rfl : Try.prog.underlying 3 = some (.int .i64))
    simp at e0
    subst e0
    obtain ⟨es1, e1, m1, q1⟩ := (hf (125, 1, 1) (by simp)).sl_inv (by kernel_rfl : Try.prog.underlying 125 = some (.slice 126))
    rw [show Try.prog.cellsOf 126 = 3 from by kernel_rfl] at e1
    simp at e1
    subst e1
    obtain ⟨v1, rfl, l1, k1⟩ := list_dec (fun y hy => has_126 (q1 y hy))
    exact ⟨⟨v0, v1⟩, by simp, by simp only [XRow.ok]; exact ⟨wf_i64 w0, Nat.le_trans (Nat.le_of_eq l1) m1, k1⟩⟩

theorem has_134 {ds : List D} (h : HasT Try.prog 134 ds) : ∃ x : XTask, ds = x.e ∧ x.ok := by
  obtain ⟨hl, hf⟩ := h.fields (by kernel_rfl : fieldsOf Try.prog 134 = some [(3, 0, 1), (3, 1, 1), (3, 2, 1), (125, 3, 1), (3, 4, 1), (131, 5, 10), (3, 15, 1), (3, 16, 1), (25, 17, 1), (3, 18, 1), (3, 19, 1), (3, 20, 1), (3, 21, 1), (3, 22, 1), (4, 23, 1), (132, 24, 1)]) (by kernel_rfl : Try.prog.cellsOf 134 = 25)
  match ds, hl with
  | [d0, d1, d2, d3, d4, d5, d6, d7, d8, d9, d10, d11, d12, d13, d14, d15, d16, d17, d18, d19, d20, d21, d22, d23, d24], _ =>
    obtain ⟨v0, e0, w0⟩ := (hf (3, 0, 1) (by simp)).int_inv (by kernel_rfl : Try.prog.underlying 3 = some (.int .i64))
    simp at e0
    subst e0
    obtain ⟨v1, e1, w1⟩ := (hf (3, 1, 1) (by simp)).int_inv (by kernel_rfl : Try.prog.underlying 3 = some (.int .i64))
    simp at e1
    subst e1
    obtain ⟨v2, e2, w2⟩ := (hf (3, 2, 1) (by simp)).int_inv (by kernel_rfl : Try.prog.underlying 3 = some (.int .i64))
    simp at e2
    subst e2
    obtain ⟨es3, e3, m3, q3⟩ := (hf (125, 3, 1) (by simp)).sl_inv (by kernel_rfl : Try.prog.underlying 125 = some (.slice 126))
    rw [show Try.prog.cellsOf 126 = 3 from by kernel_rfl] at e3
    simp at e3
    subst e3
    obtain ⟨v3, rfl, l3, k3⟩ := list_dec (fun y hy => has_126 (q3 y hy))
    obtain ⟨v4, e4, w4⟩ := (hf (3, 4, 1) (by simp)).int_inv (by kernel_rfl : Try.prog.underlying 3 = some (.int .i64))
    simp at e4
    subst e4
    obtain ⟨y5, e5, k5⟩ := has_131 (hf (131, 5, 10) (by simp))
    obtain ⟨z5_Kind, ⟨z5_P_Kind, z5_P_Col, z5_P_Op, ⟨z5_P_V_Ty, z5_P_V_N, z5_P_V_S⟩, z5_P_L⟩, z5_Col, z5_Out⟩ := y5
    simp at e5
    obtain ⟨rfl, rfl, rfl, rfl, rfl, rfl, rfl, rfl, rfl, rfl⟩ := e5
    obtain ⟨v6, e6, w6⟩ := (hf (3, 15, 1) (by simp)).int_inv (by kernel_rfl : Try.prog.underlying 3 = some (.int .i64))
    simp at e6
    subst e6
    obtain ⟨v7, e7, w7⟩ := (hf (3, 16, 1) (by simp)).int_inv (by kernel_rfl : Try.prog.underlying 3 = some (.int .i64))
    simp at e7
    subst e7
    obtain ⟨es8, e8, m8, q8⟩ := (hf (25, 17, 1) (by simp)).sl_inv (by kernel_rfl : Try.prog.underlying 25 = some (.slice 55))
    rw [show Try.prog.cellsOf 55 = 5 from by kernel_rfl] at e8
    simp at e8
    subst e8
    obtain ⟨v8, rfl, l8, k8⟩ := list_dec (fun y hy => has_55 (q8 y hy))
    obtain ⟨v9, e9, w9⟩ := (hf (3, 18, 1) (by simp)).int_inv (by kernel_rfl : Try.prog.underlying 3 = some (.int .i64))
    simp at e9
    subst e9
    obtain ⟨v10, e10, w10⟩ := (hf (3, 19, 1) (by simp)).int_inv (by kernel_rfl : Try.prog.underlying 3 = some (.int .i64))
    simp at e10
    subst e10
    obtain ⟨v11, e11, w11⟩ := (hf (3, 20, 1) (by simp)).int_inv (by kernel_rfl : Try.prog.underlying 3 = some (.int .i64))
    simp at e11
    subst e11
    obtain ⟨v12, e12, w12⟩ := (hf (3, 21, 1) (by simp)).int_inv (by kernel_rfl : Try.prog.underlying 3 = some (.int .i64))
    simp at e12
    subst e12
    obtain ⟨v13, e13, w13⟩ := (hf (3, 22, 1) (by simp)).int_inv (by kernel_rfl : Try.prog.underlying 3 = some (.int .i64))
    simp at e13
    subst e13
    obtain ⟨v14, e14⟩ := (hf (4, 23, 1) (by simp)).bool_inv (by kernel_rfl : Try.prog.underlying 4 = some .bool)
    simp at e14
    subst e14
    obtain ⟨es15, e15, m15, q15⟩ := (hf (132, 24, 1) (by simp)).sl_inv (by kernel_rfl : Try.prog.underlying 132 = some (.slice 191))
    rw [show Try.prog.cellsOf 191 = 2 from by kernel_rfl] at e15
    simp at e15
    subst e15
    obtain ⟨v15, rfl, l15, k15⟩ := list_dec (fun y hy => has_191 (q15 y hy))
    exact ⟨⟨v0, v1, v2, v3, v4, ⟨z5_Kind, ⟨z5_P_Kind, z5_P_Col, z5_P_Op, ⟨z5_P_V_Ty, z5_P_V_N, z5_P_V_S⟩, z5_P_L⟩, z5_Col, z5_Out⟩, v6, v7, v8, v9, v10, v11, v12, v13, v14, v15⟩, by simp, by simp only [XTask.ok]; exact ⟨wf_i64 w0, wf_i64 w1, wf_i64 w2, Nat.le_trans (Nat.le_of_eq l3) m3, k3, wf_i64 w4, k5, wf_i64 w6, wf_i64 w7, Nat.le_trans (Nat.le_of_eq l8) m8, k8, wf_i64 w9, wf_i64 w10, wf_i64 w11, wf_i64 w12, wf_i64 w13, Nat.le_trans (Nat.le_of_eq l15) m15, k15⟩⟩

theorem has_137 {ds : List D} (h : HasT Try.prog 137 ds) : ∃ x : XResult, ds = x.e ∧ x.ok := by
  obtain ⟨hl, hf⟩ := h.fields (by kernel_rfl : fieldsOf Try.prog 137 = some [(132, 0, 1), (3, 1, 1), (4, 2, 1), (126, 3, 3)]) (by kernel_rfl : Try.prog.cellsOf 137 = 6)
  match ds, hl with
  | [d0, d1, d2, d3, d4, d5], _ =>
    obtain ⟨es0, e0, m0, q0⟩ := (hf (132, 0, 1) (by simp)).sl_inv (by kernel_rfl : Try.prog.underlying 132 = some (.slice 191))
    rw [show Try.prog.cellsOf 191 = 2 from by kernel_rfl] at e0
    simp at e0
    subst e0
    obtain ⟨v0, rfl, l0, k0⟩ := list_dec (fun y hy => has_191 (q0 y hy))
    obtain ⟨v1, e1, w1⟩ := (hf (3, 1, 1) (by simp)).int_inv (by kernel_rfl : Try.prog.underlying 3 = some (.int .i64))
    simp at e1
    subst e1
    obtain ⟨v2, e2⟩ := (hf (4, 2, 1) (by simp)).bool_inv (by kernel_rfl : Try.prog.underlying 4 = some .bool)
    simp at e2
    subst e2
    obtain ⟨y3, e3, k3⟩ := has_126 (hf (126, 3, 3) (by simp))
    obtain ⟨z3_Ty, z3_N, z3_S⟩ := y3
    simp at e3
    obtain ⟨rfl, rfl, rfl⟩ := e3
    exact ⟨⟨v0, v1, v2, ⟨z3_Ty, z3_N, z3_S⟩⟩, by simp, by simp only [XResult.ok]; exact ⟨Nat.le_trans (Nat.le_of_eq l0) m0, k0, wf_i64 w1, k3⟩⟩

theorem has_139 {ds : List D} (h : HasT Try.prog 139 ds) : ∃ x : XDeed, ds = x.e ∧ x.ok := by
  obtain ⟨hl, hf⟩ := h.fields (by kernel_rfl : fieldsOf Try.prog 139 = some [(3, 0, 1), (3, 1, 1), (125, 2, 1), (3, 3, 1), (131, 4, 10), (137, 14, 6), (3, 20, 1), (3, 21, 1), (3, 22, 1), (3, 23, 1), (3, 24, 1)]) (by kernel_rfl : Try.prog.cellsOf 139 = 25)
  match ds, hl with
  | [d0, d1, d2, d3, d4, d5, d6, d7, d8, d9, d10, d11, d12, d13, d14, d15, d16, d17, d18, d19, d20, d21, d22, d23, d24], _ =>
    obtain ⟨v0, e0, w0⟩ := (hf (3, 0, 1) (by simp)).int_inv (by kernel_rfl : Try.prog.underlying 3 = some (.int .i64))
    simp at e0
    subst e0
    obtain ⟨v1, e1, w1⟩ := (hf (3, 1, 1) (by simp)).int_inv (by kernel_rfl : Try.prog.underlying 3 = some (.int .i64))
    simp at e1
    subst e1
    obtain ⟨es2, e2, m2, q2⟩ := (hf (125, 2, 1) (by simp)).sl_inv (by kernel_rfl : Try.prog.underlying 125 = some (.slice 126))
    rw [show Try.prog.cellsOf 126 = 3 from by kernel_rfl] at e2
    simp at e2
    subst e2
    obtain ⟨v2, rfl, l2, k2⟩ := list_dec (fun y hy => has_126 (q2 y hy))
    obtain ⟨v3, e3, w3⟩ := (hf (3, 3, 1) (by simp)).int_inv (by kernel_rfl : Try.prog.underlying 3 = some (.int .i64))
    simp at e3
    subst e3
    obtain ⟨y4, e4, k4⟩ := has_131 (hf (131, 4, 10) (by simp))
    obtain ⟨z4_Kind, ⟨z4_P_Kind, z4_P_Col, z4_P_Op, ⟨z4_P_V_Ty, z4_P_V_N, z4_P_V_S⟩, z4_P_L⟩, z4_Col, z4_Out⟩ := y4
    simp at e4
    obtain ⟨rfl, rfl, rfl, rfl, rfl, rfl, rfl, rfl, rfl, rfl⟩ := e4
    obtain ⟨y5, e5, k5⟩ := has_137 (hf (137, 14, 6) (by simp))
    obtain ⟨z5_Rows, z5_N, z5_Has, ⟨z5_V_Ty, z5_V_N, z5_V_S⟩⟩ := y5
    simp at e5
    obtain ⟨rfl, rfl, rfl, rfl, rfl, rfl⟩ := e5
    obtain ⟨v6, e6, w6⟩ := (hf (3, 20, 1) (by simp)).int_inv (by kernel_rfl : Try.prog.underlying 3 = some (.int .i64))
    simp at e6
    subst e6
    obtain ⟨v7, e7, w7⟩ := (hf (3, 21, 1) (by simp)).int_inv (by kernel_rfl : Try.prog.underlying 3 = some (.int .i64))
    simp at e7
    subst e7
    obtain ⟨v8, e8, w8⟩ := (hf (3, 22, 1) (by simp)).int_inv (by kernel_rfl : Try.prog.underlying 3 = some (.int .i64))
    simp at e8
    subst e8
    obtain ⟨v9, e9, w9⟩ := (hf (3, 23, 1) (by simp)).int_inv (by kernel_rfl : Try.prog.underlying 3 = some (.int .i64))
    simp at e9
    subst e9
    obtain ⟨v10, e10, w10⟩ := (hf (3, 24, 1) (by simp)).int_inv (by kernel_rfl : Try.prog.underlying 3 = some (.int .i64))
    simp at e10
    subst e10
    exact ⟨⟨v0, v1, v2, v3, ⟨z4_Kind, ⟨z4_P_Kind, z4_P_Col, z4_P_Op, ⟨z4_P_V_Ty, z4_P_V_N, z4_P_V_S⟩, z4_P_L⟩, z4_Col, z4_Out⟩, ⟨z5_Rows, z5_N, z5_Has, ⟨z5_V_Ty, z5_V_N, z5_V_S⟩⟩, v6, v7, v8, v9, v10⟩, by simp, by simp only [XDeed.ok]; exact ⟨wf_i64 w0, wf_i64 w1, Nat.le_trans (Nat.le_of_eq l2) m2, k2, wf_i64 w3, k4, k5, wf_i64 w6, wf_i64 w7, wf_i64 w8, wf_i64 w9, wf_i64 w10⟩⟩

theorem has_33 {ds : List D} (h : HasT Try.prog 33 ds) : ∃ x : XWorld, ds = x.e ∧ x.ok := by
  obtain ⟨hl, hf⟩ := h.fields (by kernel_rfl : fieldsOf Try.prog 33 = some [(24, 0, 3), (3, 3, 1), (3, 4, 1), (3, 5, 1), (27, 6, 2), (28, 8, 1), (22, 9, 1), (29, 10, 1), (22, 11, 1), (30, 12, 1), (31, 13, 1)]) (by kernel_rfl : Try.prog.cellsOf 33 = 14)
  match ds, hl with
  | [d0, d1, d2, d3, d4, d5, d6, d7, d8, d9, d10, d11, d12, d13], _ =>
    obtain ⟨y0, e0, k0⟩ := has_24 (hf (24, 0, 3) (by simp))
    obtain ⟨z0_Cols, z0_Slots, z0_Bufs⟩ := y0
    simp at e0
    obtain ⟨rfl, rfl, rfl⟩ := e0
    obtain ⟨v1, e1, w1⟩ := (hf (3, 3, 1) (by simp)).int_inv (by kernel_rfl : Try.prog.underlying 3 = some (.int .i64))
    simp at e1
    subst e1
    obtain ⟨v2, e2, w2⟩ := (hf (3, 4, 1) (by simp)).int_inv (by kernel_rfl : Try.prog.underlying 3 = some (.int .i64))
    simp at e2
    subst e2
    obtain ⟨v3, e3, w3⟩ := (hf (3, 5, 1) (by simp)).int_inv (by kernel_rfl : Try.prog.underlying 3 = some (.int .i64))
    simp at e3
    subst e3
    obtain ⟨y4, e4, k4⟩ := has_27 (hf (27, 6, 2) (by simp))
    obtain ⟨z4_Ver, z4_L⟩ := y4
    simp at e4
    obtain ⟨rfl, rfl⟩ := e4
    obtain ⟨es5, e5, m5, q5⟩ := (hf (28, 8, 1) (by simp)).sl_inv (by kernel_rfl : Try.prog.underlying 28 = some (.slice 123))
    rw [show Try.prog.cellsOf 123 = 5 from by kernel_rfl] at e5
    simp at e5
    subst e5
    obtain ⟨v5, rfl, l5, k5⟩ := list_dec (fun y hy => has_123 (q5 y hy))
    obtain ⟨es6, e6, m6, q6⟩ := (hf (22, 9, 1) (by simp)).sl_inv (by kernel_rfl : Try.prog.underlying 22 = some (.slice 3))
    rw [show Try.prog.cellsOf 3 = 1 from by kernel_rfl] at e6
    simp at e6
    subst e6
    obtain ⟨v6, rfl, l6, k6⟩ := list_dec (fun y hy => has_int_3 (q6 y hy))
    obtain ⟨es7, e7, m7, q7⟩ := (hf (29, 10, 1) (by simp)).sl_inv (by kernel_rfl : Try.prog.underlying 29 = some (.slice 145))
    rw [show Try.prog.cellsOf 145 = 3 from by kernel_rfl] at e7
    simp at e7
    subst e7
    obtain ⟨v7, rfl, l7, k7⟩ := list_dec (fun y hy => has_145 (q7 y hy))
    obtain ⟨es8, e8, m8, q8⟩ := (hf (22, 11, 1) (by simp)).sl_inv (by kernel_rfl : Try.prog.underlying 22 = some (.slice 3))
    rw [show Try.prog.cellsOf 3 = 1 from by kernel_rfl] at e8
    simp at e8
    subst e8
    obtain ⟨v8, rfl, l8, k8⟩ := list_dec (fun y hy => has_int_3 (q8 y hy))
    obtain ⟨es9, e9, m9, q9⟩ := (hf (30, 12, 1) (by simp)).sl_inv (by kernel_rfl : Try.prog.underlying 30 = some (.slice 134))
    rw [show Try.prog.cellsOf 134 = 25 from by kernel_rfl] at e9
    simp at e9
    subst e9
    obtain ⟨v9, rfl, l9, k9⟩ := list_dec (fun y hy => has_134 (q9 y hy))
    obtain ⟨es10, e10, m10, q10⟩ := (hf (31, 13, 1) (by simp)).sl_inv (by kernel_rfl : Try.prog.underlying 31 = some (.slice 139))
    rw [show Try.prog.cellsOf 139 = 25 from by kernel_rfl] at e10
    simp at e10
    subst e10
    obtain ⟨v10, rfl, l10, k10⟩ := list_dec (fun y hy => has_139 (q10 y hy))
    exact ⟨⟨⟨z0_Cols, z0_Slots, z0_Bufs⟩, v1, v2, v3, ⟨z4_Ver, z4_L⟩, v5, v6, v7, v8, v9, v10⟩, by simp, by simp only [XWorld.ok]; exact ⟨k0, wf_i64 w1, wf_i64 w2, wf_i64 w3, k4, Nat.le_trans (Nat.le_of_eq l5) m5, k5, Nat.le_trans (Nat.le_of_eq l6) m6, k6, Nat.le_trans (Nat.le_of_eq l7) m7, k7, Nat.le_trans (Nat.le_of_eq l8) m8, k8, Nat.le_trans (Nat.le_of_eq l9) m9, k9, Nat.le_trans (Nat.le_of_eq l10) m10, k10⟩⟩

theorem own : ownKnob Try.prog.godebug = none := by kernel_rfl

theorem says (xs : List V) (h : ArgsT Try.prog Try.f13.params.toList xs) : OK Try.prog 13 xs (.one (.ro false (.bool true))) [] := by
  rw [show Try.f13.params.toList = [33] from by kernel_rfl] at h
  obtain ⟨x0, xs, rfl, h0, h⟩ := h.cons_inv
  obtain rfl := h.nil_inv
  obtain ⟨ds0, rfl, g0⟩ := h0.struct' (by kernel_rfl)
  obtain ⟨y0, rfl, k0⟩ := has_33 g0
  obtain ⟨⟨aW_C_Cols, aW_C_Slots, aW_C_Bufs⟩, aW_Time, aW_T, aW_E, ⟨aW_Dd_Ver, aW_Dd_L⟩, aW_B, aW_M, aW_X, aW_P, aW_Tasks, aW_Deeds⟩ := y0
  simp only [XWorld.ok, XConf.ok, XDir.ok, and_assoc] at k0
  obtain ⟨hok_aW_C_Cols, hoki_aW_C_Cols, hlo_aW_C_Slots, hhi_aW_C_Slots, hlo_aW_C_Bufs, hhi_aW_C_Bufs, hlo_aW_Time, hhi_aW_Time, hlo_aW_T, hhi_aW_T, hlo_aW_E, hhi_aW_E, hlo_aW_Dd_Ver, hhi_aW_Dd_Ver, hok_aW_Dd_L, hoks_aW_Dd_L, hok_aW_B, hoks_aW_B, hok_aW_M, hoki_aW_M, hok_aW_X, hoks_aW_X, hok_aW_P, hoki_aW_P, hok_aW_Tasks, hoks_aW_Tasks, hok_aW_Deeds, hoks_aW_Deeds⟩ := k0
  exact seat_ok 100 _ _ _ (t100 aW_C_Cols aW_C_Slots aW_C_Bufs aW_Time aW_T aW_E aW_Dd_Ver aW_Dd_L aW_B aW_M aW_X aW_P aW_Tasks aW_Deeds hok_aW_C_Cols hok_aW_Dd_L hok_aW_B hoks_aW_B hok_aW_M hok_aW_X hok_aW_P hok_aW_Tasks hoks_aW_Tasks hok_aW_Deeds hoks_aW_Deeds)

theorem lifted (os : Os) (started : os.Started) (H : Type) (enc : TypeId × Value → H) :
    ReturnsInHanded {} Try.checked os 13 .any (Rows.fnExactEndsClaimedSpec.pre6 enc Try.prog Try.f13 Rows.fnExactEndsClaimedRow.domain false) (Rows.fnExactEndsClaimedSpec.post enc Try.prog Try.f13 false true false false) := by
  refine returnsInHanded_of_change (C := Try.checked) own started (by kernel_rfl) Try.func13
    (ChangeSpec.witness6 (enc := enc) (C := Try.checked) false ⟨#[], #[.agg #[.slice none 0 0, .int .i64 0, .int .i64 0, .int .i64 0, .int .i64 0, .int .i64 0, .int .i64 0, .slice none 0 0, .slice none 0 0, .slice none 0 0, .slice none 0 0, .slice none 0 0, .slice none 0 0, .slice none 0 0]], []⟩ 8 (by kernel_rfl) (by kernel_rfl) (by kernel_rfl) (by kernel_rfl)) ?_
  intro W base args ds gs before hval0 hW hcnd _
  refine law_contract (S := [33, 24, 22, 3, 27, 25, 55, 28, 123, 121, 119, 202, 125, 126, 9, 100, 5, 29, 145, 30, 134, 131, 129, 127, 4, 132, 191, 31, 139, 137]) (tb := 4) (by kernel_rfl) (by kernel_rfl) (by kernel_rfl) says (fun j t v h1 h2 => ⟨_, _, hval0 j t v h1 h2⟩) hW rfl (by kernel_rfl) (by kernel_rfl) (fun hl => ?_)
  match ds, hl with
  | [d0], _ => exact ⟨rfl, rfl, rfl⟩

theorem over : Rows.fnExactEndsClaimedRow.holds Try.pinned (OpenSpec.ofChange Rows.fnExactEndsClaimedSpec) :=
  OpenClaim.holds_of_wide 13 Try.f13 rfl rfl rfl rfl rfl rfl rfl ⟨rfl, rfl, rfl, rfl, rfl⟩ rfl rfl rfl rfl rfl (by kernel_rfl) Try.func13 (by kernel_rfl)
    (of_decide_eq_true (by kernel_rfl)) (by unfold Func.isWrapper; first | (rw [if_pos (by decide +kernel)]; kernel_rfl) | (rw [if_neg (by decide +kernel)]; exact ⟨rfl, rfl⟩))
    (fun os started H enc _ => lifted os started H enc)

theorem proved : Rows.FnExactEndsClaimedSaid := over
#print axioms proved
end Go.Proofs.Ytnadnanmgakkfaa.fnExactEndsClaimed
