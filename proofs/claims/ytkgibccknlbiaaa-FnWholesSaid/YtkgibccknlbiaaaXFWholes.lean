/- The law FnWholes returns true for every input, and each argument reads behind the call as it read before. No condition. -/
import Derived.Test.YtkgibccknlbiaaaXFWholesLm1
import Derived.Test.YtkgibccknlbiaaaOMLaw
import Derived.Test.YtkgibccknlbiaaaRows
import Derived.KernelRfl
import Derived.WalkKit
import Derived.ProofKit
import Derived.OpenShut
set_option linter.all false
namespace Go.Proofs.Ytkgibccknlbiaaa.fnWholes
open Go.ChangeShapes Go.WideShapes Go.ChangeAt Go.RowKit Go.Proofs.Ytkgibccknlbiaaa.OM
set_option maxRecDepth 100000
set_option maxHeartbeats 4000000

def ids : List (Nat × Nat) := [(7, 159), (8, 172), (9, 95), (10, 93), (19, 173), (44, 73), (54, 158), (55, 72), (60, 231), (62, 89), (70, 154), (76, 156), (78, 155), (79, 258), (87, 136), (140, 9), (141, 12), (199, 71), (208, 91), (209, 75), (263, 171), (264, 174), (265, 96), (266, 94), (274, 88), (275, 87), (288, 86), (290, 84), (293, 83), (298, 175), (323, 70), (325, 92), (335, 170), (336, 85), (341, 232), (343, 90), (347, 67), (357, 217), (358, 152), (359, 157), (360, 216), (375, 127), (376, 205), (377, 137), (378, 200), (379, 122), (380, 252), (381, 297), (382, 145), (383, 280), (384, 259), (385, 253), (393, 251), (394, 279), (395, 219), (396, 220), (398, 218), (399, 151), (401, 153)]
def fid (k : Nat) : FuncId := (ids.lookup k).getD 0
theorem chk_all : tab.all (fun p => chkF Try.prog fid (fid p.1) p.2) = true := by kernel_rfl
theorem seat_ok (f : Nat) (xs : List V) (r : V) (us : List (Nat × Nat × C)) (h : Gw TT f xs = some (r, us)) : OK Try.prog (fid f) xs r us := by
  refine Gw_ok (by kernel_rfl) (fun f F hF => ?_) f xs r us h
  exact List.all_eq_true.1 chk_all (f, F) (lookup_mem hF)

theorem has_int_5 {ds : List D} (h : HasT Try.prog 5 ds) : ∃ n : Int,ds = eb n ∧ (0 ≤ n ∧ n ≤ 255):=by
  obtain ⟨n,rfl,w⟩:=h.int_inv (by kernel_rfl : Try.prog.underlying 5 = some (.int .u8))
  exact ⟨n,rfl,wf_u8 w⟩

theorem own : ownKnob Try.prog.godebug = none:=by kernel_rfl

theorem says (xs : List V) (h : ArgsT Try.prog Try.f9.params.toList xs) : OK Try.prog 9 xs (.one (.ro false (.bool true))) []:=by
  rw [show Try.f9.params.toList = [22] from by kernel_rfl] at h
  obtain ⟨x0,xs,rfl,h0,h⟩:=h.cons_inv
  obtain rfl:=h.nil_inv
  obtain ⟨es0,rfl,m0,q0⟩:=h0.sl (by kernel_rfl : Try.prog.underlying 22 = some (.slice 5))
  rw [show Try.prog.cellsOf 5 = 1 from by kernel_rfl]
  obtain ⟨code,rfl,l0,k0⟩:=list_dec (fun y hy => has_int_5 (q0 y hy))
  have hok_code : code.length ≤ 9223372036854775807:=Nat.le_trans (Nat.le_of_eq l0) m0
  exact seat_ok 140 _ _ _ (t140 code hok_code)

theorem lifted (os : Os) (started : os.Started) (H : Type) (enc : TypeId × Value → H) :
    ReturnsInHanded {} Try.checked os 9 .any (Rows.fnWholesSpec.pre6 enc Try.prog Try.f9 Rows.fnWholesRow.domain false) (Rows.fnWholesSpec.post enc Try.prog Try.f9 false true false false):=by
  refine returnsInHanded_of_change (C:=Try.checked) own started (by kernel_rfl) Try.func9
    (ChangeSpec.witness6 (enc:=enc) (C:=Try.checked) false ⟨#[],#[.slice none 0 0],[]⟩ 8 (by kernel_rfl) (by kernel_rfl) (by kernel_rfl) (by kernel_rfl)) ?_
  intro W base args ds gs before hval0 hW hcnd _
  refine law_contract (S:=[22,5]) (tb:=4) (by kernel_rfl) (by kernel_rfl) (by kernel_rfl) says (fun j t v h1 h2 => ⟨_,_,hval0 j t v h1 h2⟩) hW rfl (by kernel_rfl) (by kernel_rfl) (fun hl => ?_)
  match ds,hl with
  | [d0],_ => exact ⟨rfl,rfl,rfl⟩

theorem over : Rows.fnWholesRow.holds Try.pinned (OpenSpec.ofChange Rows.fnWholesSpec) :=
  OpenClaim.holds_of_wide 9 Try.f9 rfl rfl rfl rfl rfl rfl rfl ⟨rfl,rfl,rfl,rfl,rfl⟩ rfl rfl rfl rfl rfl (by kernel_rfl) Try.func9 (by kernel_rfl)
    (of_decide_eq_true (by kernel_rfl)) (by unfold Func.isWrapper; first | (rw [if_pos (by decide +kernel)]; kernel_rfl) | (rw [if_neg (by decide +kernel)]; exact ⟨rfl,rfl⟩))
    (fun os started H enc _ => lifted os started H enc)

theorem proved : Rows.FnWholesSaid:=over
#print axioms proved
end Go.Proofs.Ytkgibccknlbiaaa.fnWholes
