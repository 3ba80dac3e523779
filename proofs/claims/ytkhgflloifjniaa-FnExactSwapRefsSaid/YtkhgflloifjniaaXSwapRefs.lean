/- The law FnExactSwapRefs returns true for every input, and each argument reads behind the call as it read before. No condition. -/
import Derived.Test.YtkhgflloifjniaaXSwapRefsLm0
import Derived.Test.YtkhgflloifjniaaOMLaw
import Derived.Test.YtkhgflloifjniaaRows
import Derived.KernelRfl
import Derived.WalkKit
import Derived.ProofKit
import Derived.OpenShut
set_option linter.all false
namespace Go.Proofs.Ytkhgflloifjniaa.fnExactSwapRefs
open Go.ChangeShapes Go.WideShapes Go.ChangeAt Go.RowKit Go.Proofs.Ytkhgflloifjniaa.OM
set_option maxRecDepth 100000
set_option maxHeartbeats 4000000

def ids : List (Nat × Nat) := [(15, 24), (16, 15), (22, 18), (56, 31), (71, 47), (74, 51), (82, 45), (87, 57), (130, 9), (151, 16), (156, 56), (157, 41), (174, 29), (177, 49), (189, 28), (192, 48), (218, 12), (223, 39), (243, 14), (248, 26), (249, 40), (271, 23), (296, 13), (337, 30), (368, 46), (370, 44), (377, 50)]
def fid (k : Nat) : FuncId := (ids.lookup k).getD 0
theorem chk_all : tab.all (fun p => chkF Try.prog fid (fid p.1) p.2) = true := by kernel_rfl
theorem seat_ok (f : Nat) (xs : List V) (r : V) (us : List (Nat × Nat × C)) (h : Gw TT f xs = some (r, us)) : OK Try.prog (fid f) xs r us := by
  refine Gw_ok (by kernel_rfl) (fun f F hF => ?_) f xs r us h
  exact List.all_eq_true.1 chk_all (f, F) (lookup_mem hF)

theorem has_39 {ds : List D} (h : HasT Try.prog 39 ds) : ∃ x : XRef, ds = x.e ∧ x.ok := by
  obtain ⟨hl, hf⟩ := h.fields (by kernel_rfl : fieldsOf Try.prog 39 = some [(3, 0, 1), (3, 1, 1), (3, 2, 1), (3, 3, 1), (3, 4, 1)]) (by kernel_rfl : Try.prog.cellsOf 39 = 5)
  match ds, hl with
  | [d0, d1, d2, d3, d4], _ =>
    obtain ⟨v0, e0, w0⟩ := (hf (3, 0, 1) (by simp)).int_inv (by kernel_rfl : Try.prog.underlying 3 = some (.int .i64))
    simp at e0
    subst e0
    obtain ⟨v1, e1, w1⟩ := (hf (3, 1, 1) (by simp)).int_inv (by kernel_rfl : Try.prog.underlying 3 = some (.int .i64))
    simp at e1
    subst e1
    obtain ⟨v2, e2, w2⟩ := (hf (3, 2, 1) (by simp)).int_inv (by kernel_rfl : Try.prog.underlying 3 = some (.int .i64))
    simp at e2
    subst e2
    obtain ⟨v3, e3, w3⟩ := (hf (3, 3, 1) (by simp)).int_inv (by kernel_rfl : Try.prog.underlying 3 = some (.int .i64))
    simp at e3
    subst e3
    obtain ⟨v4, e4, w4⟩ := (hf (3, 4, 1) (by simp)).int_inv (by kernel_rfl : Try.prog.underlying 3 = some (.int .i64))
    simp at e4
    subst e4
    exact ⟨⟨v0, v1, v2, v3, v4⟩, by simp, by simp only [XRef.ok]; exact ⟨wf_i64 w0, wf_i64 w1, wf_i64 w2, wf_i64 w3, wf_i64 w4⟩⟩

theorem has_24 {ds : List D} (h : HasT Try.prog 24 ds) : ∃ x : XDir, ds = x.e ∧ x.ok := by
  obtain ⟨hl, hf⟩ := h.fields (by kernel_rfl : fieldsOf Try.prog 24 = some [(3, 0, 1), (22, 1, 1)]) (by kernel_rfl : Try.prog.cellsOf 24 = 2)
  match ds, hl with
  | [d0, d1], _ =>
    obtain ⟨v0, e0, w0⟩ := (hf (3, 0, 1) (by simp)).int_inv (by kernel_rfl : Try.prog.underlying 3 = some (.int .i64))
    simp at e0
    subst e0
    obtain ⟨es1, e1, m1, q1⟩ := (hf (22, 1, 1) (by simp)).sl_inv (by kernel_rfl : Try.prog.underlying 22 = some (.slice 39))
    rw [show Try.prog.cellsOf 39 = 5 from by kernel_rfl] at e1
    simp at e1
    subst e1
    obtain ⟨v1, rfl, l1, k1⟩ := list_dec (fun y hy => has_39 (q1 y hy))
    exact ⟨⟨v0, v1⟩, by simp, by simp only [XDir.ok]; exact ⟨wf_i64 w0, Nat.le_trans (Nat.le_of_eq l1) m1, k1⟩⟩

theorem own : ownKnob Try.prog.godebug = none := by kernel_rfl

theorem says (xs : List V) (h : ArgsT Try.prog Try.f9.params.toList xs) : OK Try.prog 9 xs (.one (.ro false (.bool true))) [] := by
  rw [show Try.f9.params.toList = [24, 3, 3, 39] from by kernel_rfl] at h
  obtain ⟨x0, xs, rfl, h0, h⟩ := h.cons_inv
  obtain ⟨x1, xs, rfl, h1, h⟩ := h.cons_inv
  obtain ⟨x2, xs, rfl, h2, h⟩ := h.cons_inv
  obtain ⟨x3, xs, rfl, h3, h⟩ := h.cons_inv
  obtain rfl := h.nil_inv
  obtain ⟨ds0, rfl, g0⟩ := h0.struct' (by kernel_rfl)
  obtain ⟨y0, rfl, k0⟩ := has_24 g0
  obtain ⟨aD_Ver, aD_L⟩ := y0
  simp only [XDir.ok, and_assoc] at k0
  obtain ⟨hlo_aD_Ver, hhi_aD_Ver, hok_aD_L, hoks_aD_L⟩ := k0
  obtain ⟨aI, rfl, w1⟩ := h1.int (by kernel_rfl : Try.prog.underlying 3 = some (.int .i64))
  obtain ⟨aN, rfl, w2⟩ := h2.int (by kernel_rfl : Try.prog.underlying 3 = some (.int .i64))
  obtain ⟨ds3, rfl, g3⟩ := h3.struct' (by kernel_rfl)
  obtain ⟨y3, rfl, k3⟩ := has_39 g3
  obtain ⟨aR_Buf, aR_Gen, aR_Kind, aR_First, aR_Many⟩ := y3
  simp only [XRef.ok, and_assoc] at k3
  obtain ⟨hlo_aR_Buf, hhi_aR_Buf, hlo_aR_Gen, hhi_aR_Gen, hlo_aR_Kind, hhi_aR_Kind, hlo_aR_First, hhi_aR_First, hlo_aR_Many, hhi_aR_Many⟩ := k3
  exact seat_ok 130 _ _ _ (t130 aD_Ver aD_L aI aN aR_Buf aR_Gen aR_Kind aR_First aR_Many hok_aD_L)

theorem lifted (os : Os) (started : os.Started) (H : Type) (enc : TypeId × Value → H) :
    ReturnsInHanded {} Try.checked os 9 .any (Rows.fnExactSwapRefsSpec.pre6 enc Try.prog Try.f9 Rows.fnExactSwapRefsRow.domain false) (Rows.fnExactSwapRefsSpec.post enc Try.prog Try.f9 false true false false) := by
  refine returnsInHanded_of_change (C := Try.checked) own started (by kernel_rfl) Try.func9
    (ChangeSpec.witness6 (enc := enc) (C := Try.checked) false ⟨#[], #[.agg #[.int .i64 0, .slice none 0 0], .int .i64 0, .int .i64 0, .agg #[.int .i64 0, .int .i64 0, .int .i64 0, .int .i64 0, .int .i64 0]], []⟩ 8 (by kernel_rfl) (by kernel_rfl) (by kernel_rfl) (by kernel_rfl)) ?_
  intro W base args ds gs before hval0 hW hcnd _
  refine law_contract (S := [24, 3, 22, 39]) (tb := 4) (by kernel_rfl) (by kernel_rfl) (by kernel_rfl) says (fun j t v h1 h2 => ⟨_, _, hval0 j t v h1 h2⟩) hW rfl (by kernel_rfl) (by kernel_rfl) (fun hl => ?_)
  match ds, hl with
  | [d0, d1, d2, d3], _ => exact ⟨rfl, rfl, rfl⟩

theorem over : Rows.fnExactSwapRefsRow.holds Try.pinned (OpenSpec.ofChange Rows.fnExactSwapRefsSpec) :=
  OpenClaim.holds_of_wide 9 Try.f9 rfl rfl rfl rfl rfl rfl rfl ⟨rfl, rfl, rfl, rfl, rfl⟩ rfl rfl rfl rfl rfl (by kernel_rfl) Try.func9 (by kernel_rfl)
    (of_decide_eq_true (by kernel_rfl)) (by unfold Func.isWrapper; first | (rw [if_pos (by decide +kernel)]; kernel_rfl) | (rw [if_neg (by decide +kernel)]; exact ⟨rfl, rfl⟩))
    (fun os started H enc _ => lifted os started H enc)

theorem proved : Rows.FnExactSwapRefsSaid := over
#print axioms proved
end Go.Proofs.Ytkhgflloifjniaa.fnExactSwapRefs
