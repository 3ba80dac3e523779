/- The law FnExactTake returns true for every input, and each argument reads behind the call as it read before. No condition. -/
import Derived.Test.YtkgibccknlbiaaaXTakeLm0
import Derived.Test.YtkgibccknlbiaaaOMLaw
import Derived.Test.YtkgibccknlbiaaaRows
import Derived.KernelRfl
import Derived.WalkKit
import Derived.ProofKit
import Derived.OpenShut
set_option linter.all false
namespace Go.Proofs.Ytkgibccknlbiaaa.fnExactTake
open Go.ChangeShapes Go.WideShapes Go.ChangeAt Go.RowKit Go.Proofs.Ytkgibccknlbiaaa.OM
set_option maxRecDepth 100000
set_option maxHeartbeats 4000000

def ids : List (Nat × Nat) := [(9, 95), (57, 79), (69, 226), (70, 154), (73, 164), (76, 156), (87, 136), (131, 8), (142, 165), (143, 80), (144, 228), (145, 227), (161, 283), (162, 256), (165, 290), (166, 270), (168, 82), (169, 169), (179, 168), (181, 230), (183, 81), (184, 167), (194, 166), (196, 257), (197, 229), (210, 161), (211, 76), (212, 222), (213, 221), (227, 281), (228, 254), (231, 284), (232, 260), (234, 163), (235, 78), (236, 225), (237, 224), (253, 282), (254, 255), (257, 287), (258, 265), (265, 96), (338, 77), (359, 157), (362, 162), (363, 223), (377, 137)]
def fid (k : Nat) : FuncId := (ids.lookup k).getD 0
theorem chk_all : tab.all (fun p => chkF Try.prog fid (fid p.1) p.2) = true := by kernel_rfl
theorem seat_ok (f : Nat) (xs : List V) (r : V) (us : List (Nat × Nat × C)) (h : Gw TT f xs = some (r, us)) : OK Try.prog (fid f) xs r us := by
  refine Gw_ok (by kernel_rfl) (fun f F hF => ?_) f xs r us h
  exact List.all_eq_true.1 chk_all (f, F) (lookup_mem hF)

theorem has_231 {ds : List D} (h : HasT Try.prog 231 ds) : ∃ x : XVal,ds = x.e ∧ x.ok:=by
  obtain ⟨hl,hf⟩:=h.fields (by kernel_rfl : fieldsOf Try.prog 231 = some [(3,0,1),(3,1,1),(9,2,1)]) (by kernel_rfl : Try.prog.cellsOf 231 = 3)
  match ds,hl with
  | [d0,d1,d2],_ =>
    obtain ⟨v0,e0,w0⟩:=(hf (3,0,1) (by simp)).int_inv (by kernel_rfl : Try.prog.underlying 3 = some (.int .i64))
    simp at e0
    subst e0
    obtain ⟨v1,e1,w1⟩:=(hf (3,1,1) (by simp)).int_inv (by kernel_rfl : Try.prog.underlying 3 = some (.int .i64))
    simp at e1
    subst e1
    obtain ⟨v2,e2,w2⟩:=(hf (9,2,1) (by simp)).str_inv (by kernel_rfl : Try.prog.underlying 9 = some .string)
    simp at e2
    subst e2
    exact ⟨⟨v0,v1,v2⟩,by simp,by simp only [XVal.ok]; exact ⟨wf_i64 w0,wf_i64 w1,w2⟩⟩

theorem has_278 {ds : List D} (h : HasT Try.prog 278 ds) : ∃ x : XSlot,ds = x.e ∧ x.ok:=by
  obtain ⟨hl,hf⟩:=h.fields (by kernel_rfl : fieldsOf Try.prog 278 = some [(3,0,1),(230,1,1)]) (by kernel_rfl : Try.prog.cellsOf 278 = 2)
  match ds,hl with
  | [d0,d1],_ =>
    obtain ⟨v0,e0,w0⟩:=(hf (3,0,1) (by simp)).int_inv (by kernel_rfl : Try.prog.underlying 3 = some (.int .i64))
    simp at e0
    subst e0
    obtain ⟨es1,e1,m1,q1⟩:=(hf (230,1,1) (by simp)).sl_inv (by kernel_rfl : Try.prog.underlying 230 = some (.slice 231))
    rw [show Try.prog.cellsOf 231 = 3 from by kernel_rfl] at e1
    simp at e1
    subst e1
    obtain ⟨v1,rfl,l1,k1⟩:=list_dec (fun y hy => has_231 (q1 y hy))
    exact ⟨⟨v0,v1⟩,by simp,by simp only [XSlot.ok]; exact ⟨wf_i64 w0,Nat.le_trans (Nat.le_of_eq l1) m1,k1⟩⟩

theorem has_178 {ds : List D} (h : HasT Try.prog 178 ds) : ∃ x : XChunk,ds = x.e ∧ x.ok:=by
  obtain ⟨hl,hf⟩:=h.fields (by kernel_rfl : fieldsOf Try.prog 178 = some [(3,0,1),(176,1,1)]) (by kernel_rfl : Try.prog.cellsOf 178 = 2)
  match ds,hl with
  | [d0,d1],_ =>
    obtain ⟨v0,e0,w0⟩:=(hf (3,0,1) (by simp)).int_inv (by kernel_rfl : Try.prog.underlying 3 = some (.int .i64))
    simp at e0
    subst e0
    obtain ⟨es1,e1,m1,q1⟩:=(hf (176,1,1) (by simp)).sl_inv (by kernel_rfl : Try.prog.underlying 176 = some (.slice 278))
    rw [show Try.prog.cellsOf 278 = 2 from by kernel_rfl] at e1
    simp at e1
    subst e1
    obtain ⟨v1,rfl,l1,k1⟩:=list_dec (fun y hy => has_278 (q1 y hy))
    exact ⟨⟨v0,v1⟩,by simp,by simp only [XChunk.ok]; exact ⟨wf_i64 w0,Nat.le_trans (Nat.le_of_eq l1) m1,k1⟩⟩

theorem has_int_5 {ds : List D} (h : HasT Try.prog 5 ds) : ∃ n : Int,ds = eb n ∧ (0 ≤ n ∧ n ≤ 255):=by
  obtain ⟨n,rfl,w⟩:=h.int_inv (by kernel_rfl : Try.prog.underlying 5 = some (.int .u8))
  exact ⟨n,rfl,wf_u8 w⟩

theorem has_180 {ds : List D} (h : HasT Try.prog 180 ds) : ∃ x : XBuf,ds = x.e ∧ x.ok:=by
  obtain ⟨hl,hf⟩:=h.fields (by kernel_rfl : fieldsOf Try.prog 180 = some [(3,0,1),(3,1,1),(178,2,2),(22,4,1)]) (by kernel_rfl : Try.prog.cellsOf 180 = 5)
  match ds,hl with
  | [d0,d1,d2,d3,d4],_ =>
    obtain ⟨v0,e0,w0⟩:=(hf (3,0,1) (by simp)).int_inv (by kernel_rfl : Try.prog.underlying 3 = some (.int .i64))
    simp at e0
    subst e0
    obtain ⟨v1,e1,w1⟩:=(hf (3,1,1) (by simp)).int_inv (by kernel_rfl : Try.prog.underlying 3 = some (.int .i64))
    simp at e1
    subst e1
    obtain ⟨y2,e2,k2⟩:=has_178 (hf (178,2,2) (by simp))
    obtain ⟨z2_Next,z2_L⟩:=y2
    simp at e2
    obtain ⟨rfl,rfl⟩:=e2
    obtain ⟨es3,e3,m3,q3⟩:=(hf (22,4,1) (by simp)).sl_inv (by kernel_rfl : Try.prog.underlying 22 = some (.slice 5))
    rw [show Try.prog.cellsOf 5 = 1 from by kernel_rfl] at e3
    simp at e3
    subst e3
    obtain ⟨v3,rfl,l3,k3⟩:=list_dec (fun y hy => has_int_5 (q3 y hy))
    exact ⟨⟨v0,v1,⟨z2_Next,z2_L⟩,v3⟩,by simp,by simp only [XBuf.ok]; exact ⟨wf_i64 w0,wf_i64 w1,k2,Nat.le_trans (Nat.le_of_eq l3) m3,k3⟩⟩

theorem own : ownKnob Try.prog.godebug = none:=by kernel_rfl

theorem says (xs : List V) (h : ArgsT Try.prog Try.f8.params.toList xs) : OK Try.prog 8 xs (.one (.ro false (.bool true))) []:=by
  rw [show Try.f8.params.toList = [95,3,3] from by kernel_rfl] at h
  obtain ⟨x0,xs,rfl,h0,h⟩:=h.cons_inv
  obtain ⟨x1,xs,rfl,h1,h⟩:=h.cons_inv
  obtain ⟨x2,xs,rfl,h2,h⟩:=h.cons_inv
  obtain rfl:=h.nil_inv
  obtain ⟨es0,rfl,m0,q0⟩:=h0.sl (by kernel_rfl : Try.prog.underlying 95 = some (.slice 180))
  rw [show Try.prog.cellsOf 180 = 5 from by kernel_rfl]
  obtain ⟨aL,rfl,l0,k0⟩:=list_dec (fun y hy => has_180 (q0 y hy))
  have hok_aL : aL.length ≤ 9223372036854775807:=Nat.le_trans (Nat.le_of_eq l0) m0
  obtain ⟨aKind,rfl,w1⟩:=h1.int (by kernel_rfl : Try.prog.underlying 3 = some (.int .i64))
  obtain ⟨aSlots,rfl,w2⟩:=h2.int (by kernel_rfl : Try.prog.underlying 3 = some (.int .i64))
  exact seat_ok 131 _ _ _ (t131 aL aKind aSlots hok_aL k0)

theorem lifted (os : Os) (started : os.Started) (H : Type) (enc : TypeId × Value → H) :
    ReturnsInHanded {} Try.checked os 8 .any (Rows.fnExactTakeSpec.pre6 enc Try.prog Try.f8 Rows.fnExactTakeRow.domain false) (Rows.fnExactTakeSpec.post enc Try.prog Try.f8 false true false false):=by
  refine returnsInHanded_of_change (C:=Try.checked) own started (by kernel_rfl) Try.func8
    (ChangeSpec.witness6 (enc:=enc) (C:=Try.checked) false ⟨#[],#[.slice none 0 0,.int .i64 0,.int .i64 0],[]⟩ 8 (by kernel_rfl) (by kernel_rfl) (by kernel_rfl) (by kernel_rfl)) ?_
  intro W base args ds gs before hval0 hW hcnd _
  refine law_contract (S:=[95,180,3,178,176,278,230,231,9,22,5]) (tb:=4) (by kernel_rfl) (by kernel_rfl) (by kernel_rfl) says (fun j t v h1 h2 => ⟨_,_,hval0 j t v h1 h2⟩) hW rfl (by kernel_rfl) (by kernel_rfl) (fun hl => ?_)
  match ds,hl with
  | [d0,d1,d2],_ => exact ⟨rfl,rfl,rfl⟩

theorem jf0 : laidOutB Try.prog = true:=by kernel_rfl
theorem jf1 : mapsRowed Try.prog = true:=by kernel_rfl
theorem jf2 : (Try.prog.stops == []) = true:=by kernel_rfl
theorem jf3 : (Try.prog.stopKnobs == []) = true:=by kernel_rfl
theorem jf4 : (Rows.fnExactTakeRow.inPlace == Try.prog.inPlace 8) = true:=by kernel_rfl
theorem jf5 : (Rows.fnExactTakeRow.unfollowed == Try.prog.unfollowed 8) = true:=by kernel_rfl
theorem jf6 : (Rows.fnExactTakeRow.recurses == Try.prog.recurses 8) = true:=by kernel_rfl
theorem jf7 : (Rows.fnExactTakeRow.named == Try.prog.varsNamed 8) = true:=by kernel_rfl
theorem jf8 : (Rows.fnExactTakeRow.plainKeys == Try.prog.plainKeys) = true:=by kernel_rfl
theorem jf9 : Try.prog.stopsHeard = true:=by kernel_rfl
theorem jf10 : Try.prog.mayEnter = true:=by kernel_rfl
theorem jf11 : (Rows.fnExactTakeRow.lifted == Try.prog.liftsFinal) = true:=by kernel_rfl
theorem jf12 : (Try.prog.make == some Rows.fnExactTakeRow.make) = true:=by kernel_rfl
theorem jfn : Try.pinned.checked.prog.funcNamed Rows.fnExactTakeRow.func = some 8:=by kernel_rfl
theorem jfall : joinedFacts Try.prog 8 Try.f8 Rows.fnExactTakeSpec Rows.fnExactTakeRow = true:=by
  unfold joinedFacts
  simp only [jf0,jf1,jf2,jf3,jf4,jf5,jf6,jf7,jf8,jf9,jf10,jf11,jf12,Bool.true_and,Bool.and_true]
  kernel_rfl

theorem over : Rows.fnExactTakeRow.holds Try.pinned (OpenSpec.ofChange Rows.fnExactTakeSpec) :=
  OpenClaim.holds_of_wide 8 Try.f8 rfl rfl rfl rfl rfl rfl rfl ⟨rfl,rfl,rfl,rfl,rfl⟩ rfl rfl rfl rfl rfl (jfn) Try.func8 (jfall)
    (of_decide_eq_true (by kernel_rfl)) (by unfold Func.isWrapper; first | (rw [if_pos (by decide +kernel)]; kernel_rfl) | (rw [if_neg (by decide +kernel)]; exact ⟨rfl,rfl⟩))
    (fun os started H enc _ => lifted os started H enc)

theorem proved : Rows.FnExactTakeSaid:=over
#print axioms proved
end Go.Proofs.Ytkgibccknlbiaaa.fnExactTake
