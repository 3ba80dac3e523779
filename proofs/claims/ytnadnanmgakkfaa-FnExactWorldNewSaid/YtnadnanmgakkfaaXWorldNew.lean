/- The law FnExactWorldNew returns true for every input, and each argument reads behind the call as it read before. No condition. -/
import Derived.Test.YtnadnanmgakkfaaXWorldNewLm1
import Derived.Test.YtnadnanmgakkfaaOMLaw
import Derived.Test.YtnadnanmgakkfaaRows
import Derived.KernelRfl
import Derived.WalkKit
import Derived.ProofKit
import Derived.OpenShut
set_option linter.all false
namespace Go.Proofs.Ytnadnanmgakkfaa.fnExactWorldNew
open Go.ChangeShapes Go.WideShapes Go.ChangeAt Go.RowKit Go.Proofs.Ytnadnanmgakkfaa.OM
set_option maxRecDepth 100000
set_option maxHeartbeats 4000000

def ids : List (Nat × Nat) := [(12, 108), (13, 78), (39, 80), (65, 40), (72, 79), (87, 109), (137, 12), (142, 103), (143, 63), (144, 136), (145, 135), (146, 41), (147, 104), (148, 64), (149, 106), (150, 66), (151, 62), (152, 47), (153, 151), (154, 158), (155, 138), (156, 18), (157, 102), (158, 140), (159, 152), (160, 139), (161, 157), (162, 149), (163, 105), (164, 65), (165, 150), (166, 137), (167, 19), (168, 88), (169, 119), (171, 86), (172, 89), (173, 91), (174, 87), (175, 49), (176, 121), (177, 117), (178, 122), (179, 118), (180, 90), (181, 120), (182, 44), (183, 82), (184, 112), (186, 42), (187, 83), (188, 85), (189, 81), (190, 48), (191, 115), (192, 110), (193, 116), (194, 111), (195, 84), (196, 114), (197, 113), (198, 43), (214, 37), (219, 52), (238, 39), (244, 58), (268, 107), (269, 76), (319, 77), (346, 38), (377, 67)]
def fid (k : Nat) : FuncId := (ids.lookup k).getD 0
theorem chk_all : tab.all (fun p => chkF Try.prog fid (fid p.1) p.2) = true := by kernel_rfl
theorem seat_ok (f : Nat) (xs : List V) (r : V) (us : List (Nat × Nat × C)) (h : Gw TT f xs = some (r, us)) : OK Try.prog (fid f) xs r us := by
  refine Gw_ok (by kernel_rfl) (fun f F hF => ?_) f xs r us h
  exact List.all_eq_true.1 chk_all (f, F) (lookup_mem hF)

theorem has_int_3 {ds : List D} (h : HasT Try.prog 3 ds) : ∃ n : Int, ds = ei n ∧ (-9223372036854775808 ≤ n ∧ n ≤ 9223372036854775807) := by
  obtain ⟨n, rfl, w⟩ := h.int_inv (by kernel_rfl : Try.prog.underlying 3 = some (.int .i64))
  exact ⟨n, rfl, wf_i64 w⟩

theorem has_24 {ds : List D} (h : HasT Try.prog 24 ds) : ∃ x : XConf, ds = x.e ∧ x.ok := by
  obtain ⟨hl, hf⟩ := h.fields (by kernel_rfl : fieldsOf Try.prog 24 = some [(22, 0, 1), (3, 1, 1), (3, 2, 1)]) (by kernel_rfl : Try.prog.cellsOf 24 = 3)
  match ds, hl with
  | [d0, d1, d2], _ =>
    obtain ⟨es0, e0, m0, q0⟩ := (hf (22, 0, 1) (by simp)).sl_inv (by kernel_rfl : Try.prog.underlying 22 = some (.slice 3))
    rw [show Try.prog.cellsOf 3 = 1 from by kernel_rfl] at e0
    simp at e0
    subst e0
    obtain ⟨v0, rfl, l0, k0⟩ := list_dec (fun y hy => has_int_3 (q0 y hy))
    obtain ⟨v1, e1, w1⟩ := (hf (3, 1, 1) (by simp)).int_inv (by kernel_rfl : Try.prog.underlying 3 = some (.int .i64))
    simp at e1
    subst e1
    obtain ⟨v2, e2, w2⟩ := (hf (3, 2, 1) (by simp)).int_inv (by kernel_rfl : Try.prog.underlying 3 = some (.int .i64))
    simp at e2
    subst e2
    exact ⟨⟨v0, v1, v2⟩, by simp, by simp only [XConf.ok]; exact ⟨Nat.le_trans (Nat.le_of_eq l0) m0, k0, wf_i64 w1, wf_i64 w2⟩⟩

theorem own : ownKnob Try.prog.godebug = none := by kernel_rfl

theorem says (xs : List V) (h : ArgsT Try.prog Try.f12.params.toList xs) : OK Try.prog 12 xs (.one (.ro false (.bool true))) [] := by
  rw [show Try.f12.params.toList = [24] from by kernel_rfl] at h
  obtain ⟨x0, xs, rfl, h0, h⟩ := h.cons_inv
  obtain rfl := h.nil_inv
  obtain ⟨ds0, rfl, g0⟩ := h0.struct' (by kernel_rfl)
  obtain ⟨y0, rfl, k0⟩ := has_24 g0
  obtain ⟨aC_Cols, aC_Slots, aC_Bufs⟩ := y0
  simp only [XConf.ok, and_assoc] at k0
  obtain ⟨hok_aC_Cols, hoki_aC_Cols, hlo_aC_Slots, hhi_aC_Slots, hlo_aC_Bufs, hhi_aC_Bufs⟩ := k0
  exact seat_ok 137 _ _ _ (t137 aC_Cols aC_Slots aC_Bufs hok_aC_Cols)

theorem lifted (os : Os) (started : os.Started) (H : Type) (enc : TypeId × Value → H) :
    ReturnsInHanded {} Try.checked os 12 .any (Rows.fnExactWorldNewSpec.pre6 enc Try.prog Try.f12 Rows.fnExactWorldNewRow.domain false) (Rows.fnExactWorldNewSpec.post enc Try.prog Try.f12 false true false false) := by
  refine returnsInHanded_of_change (C := Try.checked) own started (by kernel_rfl) Try.func12
    (ChangeSpec.witness6 (enc := enc) (C := Try.checked) false ⟨#[], #[.agg #[.slice none 0 0, .int .i64 0, .int .i64 0]], []⟩ 8 (by kernel_rfl) (by kernel_rfl) (by kernel_rfl) (by kernel_rfl)) ?_
  intro W base args ds gs before hval0 hW hcnd _
  refine law_contract (S := [24, 22, 3]) (tb := 4) (by kernel_rfl) (by kernel_rfl) (by kernel_rfl) says (fun j t v h1 h2 => ⟨_, _, hval0 j t v h1 h2⟩) hW rfl (by kernel_rfl) (by kernel_rfl) (fun hl => ?_)
  match ds, hl with
  | [d0], _ => exact ⟨rfl, rfl, rfl⟩

theorem over : Rows.fnExactWorldNewRow.holds Try.pinned (OpenSpec.ofChange Rows.fnExactWorldNewSpec) :=
  OpenClaim.holds_of_wide 12 Try.f12 rfl rfl rfl rfl rfl rfl rfl ⟨rfl, rfl, rfl, rfl, rfl⟩ rfl rfl rfl rfl rfl (by kernel_rfl) Try.func12 (by kernel_rfl)
    (of_decide_eq_true (by kernel_rfl)) (by unfold Func.isWrapper; first | (rw [if_pos (by decide +kernel)]; kernel_rfl) | (rw [if_neg (by decide +kernel)]; exact ⟨rfl, rfl⟩))
    (fun os started H enc _ => lifted os started H enc)

theorem proved : Rows.FnExactWorldNewSaid := over
#print axioms proved
end Go.Proofs.Ytnadnanmgakkfaa.fnExactWorldNew
