/- The law FnExactOpenSlots returns true for every input, and each argument reads behind the call as it read before. No condition. -/
import Derived.Test.YtkgibccknlbiaaaXOpenSlotsLm1
import Derived.Test.YtkgibccknlbiaaaOMLaw
import Derived.Test.YtkgibccknlbiaaaRows
import Derived.KernelRfl
import Derived.WalkKit
import Derived.ProofKit
import Derived.OpenShut
set_option linter.all false
namespace Go.Proofs.Ytkgibccknlbiaaa.fnExactOpenSlots
open Go.ChangeShapes Go.WideShapes Go.ChangeAt Go.RowKit Go.Proofs.Ytkgibccknlbiaaa.OM
set_option maxRecDepth 100000
set_option maxHeartbeats 4000000

def ids : List (Nat × Nat) := [(35, 100), (59, 240), (68, 190), (116, 10), (142, 165), (143, 80), (144, 228), (145, 227), (146, 191), (147, 242), (148, 194), (149, 244), (150, 196), (151, 192), (152, 193), (153, 291), (154, 300), (155, 271), (156, 269), (157, 241), (158, 273), (159, 292), (160, 272), (161, 283), (162, 256), (163, 243), (164, 195), (165, 290), (166, 270), (167, 101), (210, 161), (211, 76), (212, 222), (213, 221), (214, 176), (215, 179), (216, 235), (217, 181), (218, 177), (219, 178), (220, 285), (221, 298), (222, 261), (223, 233), (224, 263), (225, 286), (226, 262), (227, 281), (228, 254), (229, 234), (230, 180), (231, 284), (232, 260), (233, 97), (234, 163), (235, 78), (236, 225), (237, 224), (238, 184), (239, 237), (240, 187), (241, 239), (242, 189), (243, 185), (244, 186), (245, 288), (246, 299), (247, 266), (248, 264), (249, 236), (250, 268), (251, 289), (252, 267), (253, 282), (254, 255), (255, 238), (256, 188), (257, 287), (258, 265), (259, 99), (311, 183), (316, 98), (340, 182), (377, 137)]
def fid (k : Nat) : FuncId := (ids.lookup k).getD 0
theorem chk_all : tab.all (fun p => chkF Try.prog fid (fid p.1) p.2) = true := by kernel_rfl
theorem seat_ok (f : Nat) (xs : List V) (r : V) (us : List (Nat × Nat × C)) (h : Gw TT f xs = some (r, us)) : OK Try.prog (fid f) xs r us := by
  refine Gw_ok (by kernel_rfl) (fun f F hF => ?_) f xs r us h
  exact List.all_eq_true.1 chk_all (f, F) (lookup_mem hF)

theorem has_int_3 {ds : List D} (h : HasT Try.prog 3 ds) : ∃ n : Int,ds = ei n ∧ (-9223372036854775808 ≤ n ∧ n ≤ 9223372036854775807):=by
  obtain ⟨n,rfl,w⟩:=h.int_inv (by kernel_rfl : Try.prog.underlying 3 = some (.int .i64))
  exact ⟨n,rfl,wf_i64 w⟩

theorem has_114 {ds : List D} (h : HasT Try.prog 114 ds) : ∃ x : XConf,ds = x.e ∧ x.ok:=by
  obtain ⟨hl,hf⟩:=h.fields (by kernel_rfl : fieldsOf Try.prog 114 = some [(32,0,1),(3,1,1),(3,2,1)]) (by kernel_rfl : Try.prog.cellsOf 114 = 3)
  match ds,hl with
  | [d0,d1,d2],_ =>
    obtain ⟨es0,e0,m0,q0⟩:=(hf (32,0,1) (by simp)).sl_inv (by kernel_rfl : Try.prog.underlying 32 = some (.slice 3))
    rw [show Try.prog.cellsOf 3 = 1 from by kernel_rfl] at e0
    simp at e0
    subst e0
    obtain ⟨v0,rfl,l0,k0⟩:=list_dec (fun y hy => has_int_3 (q0 y hy))
    obtain ⟨v1,e1,w1⟩:=(hf (3,1,1) (by simp)).int_inv (by kernel_rfl : Try.prog.underlying 3 = some (.int .i64))
    simp at e1
    subst e1
    obtain ⟨v2,e2,w2⟩:=(hf (3,2,1) (by simp)).int_inv (by kernel_rfl : Try.prog.underlying 3 = some (.int .i64))
    simp at e2
    subst e2
    exact ⟨⟨v0,v1,v2⟩,by simp,by simp only [XConf.ok]; exact ⟨Nat.le_trans (Nat.le_of_eq l0) m0,k0,wf_i64 w1,wf_i64 w2⟩⟩

theorem has_268 {ds : List D} (h : HasT Try.prog 268 ds) : ∃ x : XRef,ds = x.e ∧ x.ok:=by
  obtain ⟨hl,hf⟩:=h.fields (by kernel_rfl : fieldsOf Try.prog 268 = some [(3,0,1),(3,1,1),(3,2,1),(3,3,1),(3,4,1)]) (by kernel_rfl : Try.prog.cellsOf 268 = 5)
  match ds,hl with
  | [d0,d1,d2,d3,d4],_ =>
    obtain ⟨v0,e0,w0⟩:=(hf (3,0,1) (by simp)).int_inv (by kernel_rfl : Try.prog.underlying 3 = some (.int .i64))
    simp at e0
    subst e0
    obtain ⟨v1,e1,w1⟩:=(hf (3,1,1) (by simp)).int_inv (by kernel_rfl : Try.prog.underlying 3 = some (.int .i64))
    simp at e1
    subst e1
    obtain ⟨v2,e2,w2⟩:=(hf (3,2,1) (by simp)).int_inv (by kernel_rfl : Try.prog.underlying 3 = some (.int .i64))
    simp at e2
    subst e2
    obtain ⟨v3,e3,w3⟩:=(hf (3,3,1) (by simp)).int_inv (by kernel_rfl : Try.prog.underlying 3 = some (.int .i64))
    simp at e3
    subst e3
    obtain ⟨v4,e4,w4⟩:=(hf (3,4,1) (by simp)).int_inv (by kernel_rfl : Try.prog.underlying 3 = some (.int .i64))
    simp at e4
    subst e4
    exact ⟨⟨v0,v1,v2,v3,v4⟩,by simp,by simp only [XRef.ok]; exact ⟨wf_i64 w0,wf_i64 w1,wf_i64 w2,wf_i64 w3,wf_i64 w4⟩⟩

theorem has_117 {ds : List D} (h : HasT Try.prog 117 ds) : ∃ x : XDir,ds = x.e ∧ x.ok:=by
  obtain ⟨hl,hf⟩:=h.fields (by kernel_rfl : fieldsOf Try.prog 117 = some [(3,0,1),(115,1,1)]) (by kernel_rfl : Try.prog.cellsOf 117 = 2)
  match ds,hl with
  | [d0,d1],_ =>
    obtain ⟨v0,e0,w0⟩:=(hf (3,0,1) (by simp)).int_inv (by kernel_rfl : Try.prog.underlying 3 = some (.int .i64))
    simp at e0
    subst e0
    obtain ⟨es1,e1,m1,q1⟩:=(hf (115,1,1) (by simp)).sl_inv (by kernel_rfl : Try.prog.underlying 115 = some (.slice 268))
    rw [show Try.prog.cellsOf 268 = 5 from by kernel_rfl] at e1
    simp at e1
    subst e1
    obtain ⟨v1,rfl,l1,k1⟩:=list_dec (fun y hy => has_268 (q1 y hy))
    exact ⟨⟨v0,v1⟩,by simp,by simp only [XDir.ok]; exact ⟨wf_i64 w0,Nat.le_trans (Nat.le_of_eq l1) m1,k1⟩⟩

theorem has_231 {ds : List D} (h : HasT Try.prog 231 ds) : ∃ x : XVal,ds = x.e ∧ x.ok:=by
  obtain ⟨hl,hf⟩:=h.fields (by kernel_rfl : fieldsOf Try.prog 231 = some [(3,0,1),(3,1,1),(9,2,1)]) (by kernel_rfl : Try.prog.cellsOf 231 = 3)
  match ds,hl with
  | [d0,d1,d2],_ =>
    obtain ⟨v0,e0,w0⟩:=(hf (3,0,1) (by simp)).int_inv (by kernel_rfl : Try.prog.underlying 3 = some (.int .i64))
    simp at e0
    subst e0
    obtain ⟨v1,e1,w1⟩:=(hf (3,1,1) (by simp)).int_inv (by kernel_rfl : Try.prog.underlying 3 = some (.int .i64))
    simp at e1
    subst e1
    obtain ⟨v2,e2,w2⟩:=(hf (9,2,1) (by simp)).str_inv (by kernel_rfl : Try.prog.underlying 9 = some .string)
    simp at e2
    subst e2
    exact ⟨⟨v0,v1,v2⟩,by simp,by simp only [XVal.ok]; exact ⟨wf_i64 w0,wf_i64 w1,w2⟩⟩

theorem has_278 {ds : List D} (h : HasT Try.prog 278 ds) : ∃ x : XSlot,ds = x.e ∧ x.ok:=by
  obtain ⟨hl,hf⟩:=h.fields (by kernel_rfl : fieldsOf Try.prog 278 = some [(3,0,1),(230,1,1)]) (by kernel_rfl : Try.prog.cellsOf 278 = 2)
  match ds,hl with
  | [d0,d1],_ =>
    obtain ⟨v0,e0,w0⟩:=(hf (3,0,1) (by simp)).int_inv (by kernel_rfl : Try.prog.underlying 3 = some (.int .i64))
    simp at e0
    subst e0
    obtain ⟨es1,e1,m1,q1⟩:=(hf (230,1,1) (by simp)).sl_inv (by kernel_rfl : Try.prog.underlying 230 = some (.slice 231))
    rw [show Try.prog.cellsOf 231 = 3 from by kernel_rfl] at e1
    simp at e1
    subst e1
    obtain ⟨v1,rfl,l1,k1⟩:=list_dec (fun y hy => has_231 (q1 y hy))
    exact ⟨⟨v0,v1⟩,by simp,by simp only [XSlot.ok]; exact ⟨wf_i64 w0,Nat.le_trans (Nat.le_of_eq l1) m1,k1⟩⟩

theorem has_178 {ds : List D} (h : HasT Try.prog 178 ds) : ∃ x : XChunk,ds = x.e ∧ x.ok:=by
  obtain ⟨hl,hf⟩:=h.fields (by kernel_rfl : fieldsOf Try.prog 178 = some [(3,0,1),(176,1,1)]) (by kernel_rfl : Try.prog.cellsOf 178 = 2)
  match ds,hl with
  | [d0,d1],_ =>
    obtain ⟨v0,e0,w0⟩:=(hf (3,0,1) (by simp)).int_inv (by kernel_rfl : Try.prog.underlying 3 = some (.int .i64))
    simp at e0
    subst e0
    obtain ⟨es1,e1,m1,q1⟩:=(hf (176,1,1) (by simp)).sl_inv (by kernel_rfl : Try.prog.underlying 176 = some (.slice 278))
    rw [show Try.prog.cellsOf 278 = 2 from by kernel_rfl] at e1
    simp at e1
    subst e1
    obtain ⟨v1,rfl,l1,k1⟩:=list_dec (fun y hy => has_278 (q1 y hy))
    exact ⟨⟨v0,v1⟩,by simp,by simp only [XChunk.ok]; exact ⟨wf_i64 w0,Nat.le_trans (Nat.le_of_eq l1) m1,k1⟩⟩

theorem has_int_5 {ds : List D} (h : HasT Try.prog 5 ds) : ∃ n : Int,ds = eb n ∧ (0 ≤ n ∧ n ≤ 255):=by
  obtain ⟨n,rfl,w⟩:=h.int_inv (by kernel_rfl : Try.prog.underlying 5 = some (.int .u8))
  exact ⟨n,rfl,wf_u8 w⟩

theorem has_180 {ds : List D} (h : HasT Try.prog 180 ds) : ∃ x : XBuf,ds = x.e ∧ x.ok:=by
  obtain ⟨hl,hf⟩:=h.fields (by kernel_rfl : fieldsOf Try.prog 180 = some [(3,0,1),(3,1,1),(178,2,2),(22,4,1)]) (by kernel_rfl : Try.prog.cellsOf 180 = 5)
  match ds,hl with
  | [d0,d1,d2,d3,d4],_ =>
    obtain ⟨v0,e0,w0⟩:=(hf (3,0,1) (by simp)).int_inv (by kernel_rfl : Try.prog.underlying 3 = some (.int .i64))
    simp at e0
    subst e0
    obtain ⟨v1,e1,w1⟩:=(hf (3,1,1) (by simp)).int_inv (by kernel_rfl : Try.prog.underlying 3 = some (.int .i64))
    simp at e1
    subst e1
    obtain ⟨y2,e2,k2⟩:=has_178 (hf (178,2,2) (by simp))
    obtain ⟨z2_Next,z2_L⟩:=y2
    simp at e2
    obtain ⟨rfl,rfl⟩:=e2
    obtain ⟨es3,e3,m3,q3⟩:=(hf (22,4,1) (by simp)).sl_inv (by kernel_rfl : Try.prog.underlying 22 = some (.slice 5))
    rw [show Try.prog.cellsOf 5 = 1 from by kernel_rfl] at e3
    simp at e3
    subst e3
    obtain ⟨v3,rfl,l3,k3⟩:=list_dec (fun y hy => has_int_5 (q3 y hy))
    exact ⟨⟨v0,v1,⟨z2_Next,z2_L⟩,v3⟩,by simp,by simp only [XBuf.ok]; exact ⟨wf_i64 w0,wf_i64 w1,k2,Nat.le_trans (Nat.le_of_eq l3) m3,k3⟩⟩

theorem has_247 {ds : List D} (h : HasT Try.prog 247 ds) : ∃ x : XDead,ds = x.e ∧ x.ok:=by
  obtain ⟨hl,hf⟩:=h.fields (by kernel_rfl : fieldsOf Try.prog 247 = some [(3,0,1),(3,1,1),(3,2,1)]) (by kernel_rfl : Try.prog.cellsOf 247 = 3)
  match ds,hl with
  | [d0,d1,d2],_ =>
    obtain ⟨v0,e0,w0⟩:=(hf (3,0,1) (by simp)).int_inv (by kernel_rfl : Try.prog.underlying 3 = some (.int .i64))
    simp at e0
    subst e0
    obtain ⟨v1,e1,w1⟩:=(hf (3,1,1) (by simp)).int_inv (by kernel_rfl : Try.prog.underlying 3 = some (.int .i64))
    simp at e1
    subst e1
    obtain ⟨v2,e2,w2⟩:=(hf (3,2,1) (by simp)).int_inv (by kernel_rfl : Try.prog.underlying 3 = some (.int .i64))
    simp at e2
    subst e2
    exact ⟨⟨v0,v1,v2⟩,by simp,by simp only [XDead.ok]; exact ⟨wf_i64 w0,wf_i64 w1,wf_i64 w2⟩⟩

theorem has_234n : ∀ (n : Nat) (ds : List D),SizeOf.sizeOf ds < n → HasT Try.prog 234 ds → ∃ x : XPred,ds = x.e ∧ x.ok:=by
  intro n
  induction n with
  | zero => intro ds h; omega
  | succ n ih =>
  intro ds hsz h
  obtain ⟨hl,hf⟩:=h.fields (by kernel_rfl : fieldsOf Try.prog 234 = some [(3,0,1),(3,1,1),(3,2,1),(231,3,3),(232,6,1)]) (by kernel_rfl : Try.prog.cellsOf 234 = 7)
  match ds,hl with
  | [d0,d1,d2,d3,d4,d5,d6],_ =>
    obtain ⟨v0,e0,w0⟩:=(hf (3,0,1) (by simp)).int_inv (by kernel_rfl : Try.prog.underlying 3 = some (.int .i64))
    simp at e0
    subst e0
    obtain ⟨v1,e1,w1⟩:=(hf (3,1,1) (by simp)).int_inv (by kernel_rfl : Try.prog.underlying 3 = some (.int .i64))
    simp at e1
    subst e1
    obtain ⟨v2,e2,w2⟩:=(hf (3,2,1) (by simp)).int_inv (by kernel_rfl : Try.prog.underlying 3 = some (.int .i64))
    simp at e2
    subst e2
    obtain ⟨y3,e3,k3⟩:=has_231 (hf (231,3,3) (by simp))
    obtain ⟨z3_Ty,z3_N,z3_S⟩:=y3
    simp at e3
    obtain ⟨rfl,rfl,rfl⟩:=e3
    obtain ⟨es4,e4,m4,q4⟩:=(hf (232,6,1) (by simp)).sl_inv (by kernel_rfl : Try.prog.underlying 232 = some (.slice 234))
    rw [show Try.prog.cellsOf 234 = 7 from by kernel_rfl] at e4
    simp at e4
    subst e4
    obtain ⟨v4,rfl,l4,k4⟩:=list_dec (fun y hy => ih y (by have h1:=List.sizeOf_lt_of_mem hy; simp at hsz; omega) (q4 y hy))
    exact ⟨⟨v0,v1,v2,⟨z3_Ty,z3_N,z3_S⟩,v4⟩,by simp,by simp only [XPred.ok_eq]; exact ⟨wf_i64 w0,wf_i64 w1,wf_i64 w2,k3,Nat.le_trans (Nat.le_of_eq l4) m4,(by rw [XPred.oks_eq]; exact k4)⟩⟩

theorem has_234 {ds : List D} (h : HasT Try.prog 234 ds) : ∃ x : XPred,ds = x.e ∧ x.ok:=has_234n _ ds (Nat.lt_succ_self _) h

theorem has_236 {ds : List D} (h : HasT Try.prog 236 ds) : ∃ x : XQuery,ds = x.e ∧ x.ok:=by
  obtain ⟨hl,hf⟩:=h.fields (by kernel_rfl : fieldsOf Try.prog 236 = some [(3,0,1),(234,1,7),(3,8,1),(32,9,1)]) (by kernel_rfl : Try.prog.cellsOf 236 = 10)
  match ds,hl with
  | [d0,d1,d2,d3,d4,d5,d6,d7,d8,d9],_ =>
    obtain ⟨v0,e0,w0⟩:=(hf (3,0,1) (by simp)).int_inv (by kernel_rfl : Try.prog.underlying 3 = some (.int .i64))
    simp at e0
    subst e0
    obtain ⟨y1,e1,k1⟩:=has_234 (hf (234,1,7) (by simp))
    obtain ⟨z1_Kind,z1_Col,z1_Op,⟨z1_V_Ty,z1_V_N,z1_V_S⟩,z1_L⟩:=y1
    simp at e1
    obtain ⟨rfl,rfl,rfl,rfl,rfl,rfl,rfl⟩:=e1
    obtain ⟨v2,e2,w2⟩:=(hf (3,8,1) (by simp)).int_inv (by kernel_rfl : Try.prog.underlying 3 = some (.int .i64))
    simp at e2
    subst e2
    obtain ⟨es3,e3,m3,q3⟩:=(hf (32,9,1) (by simp)).sl_inv (by kernel_rfl : Try.prog.underlying 32 = some (.slice 3))
    rw [show Try.prog.cellsOf 3 = 1 from by kernel_rfl] at e3
    simp at e3
    subst e3
    obtain ⟨v3,rfl,l3,k3⟩:=list_dec (fun y hy => has_int_3 (q3 y hy))
    exact ⟨⟨v0,⟨z1_Kind,z1_Col,z1_Op,⟨z1_V_Ty,z1_V_N,z1_V_S⟩,z1_L⟩,v2,v3⟩,by simp,by simp only [XQuery.ok]; exact ⟨wf_i64 w0,k1,wf_i64 w2,Nat.le_trans (Nat.le_of_eq l3) m3,k3⟩⟩

theorem has_285 {ds : List D} (h : HasT Try.prog 285 ds) : ∃ x : XRow,ds = x.e ∧ x.ok:=by
  obtain ⟨hl,hf⟩:=h.fields (by kernel_rfl : fieldsOf Try.prog 285 = some [(3,0,1),(230,1,1)]) (by kernel_rfl : Try.prog.cellsOf 285 = 2)
  match ds,hl with
  | [d0,d1],_ =>
    obtain ⟨v0,e0,w0⟩:=(hf (3,0,1) (by simp)).int_inv (by kernel_rfl : Try.prog.underlying 3 = some (.int .i64))
    simp at e0
    subst e0
    obtain ⟨es1,e1,m1,q1⟩:=(hf (230,1,1) (by simp)).sl_inv (by kernel_rfl : Try.prog.underlying 230 = some (.slice 231))
    rw [show Try.prog.cellsOf 231 = 3 from by kernel_rfl] at e1
    simp at e1
    subst e1
    obtain ⟨v1,rfl,l1,k1⟩:=list_dec (fun y hy => has_231 (q1 y hy))
    exact ⟨⟨v0,v1⟩,by simp,by simp only [XRow.ok]; exact ⟨wf_i64 w0,Nat.le_trans (Nat.le_of_eq l1) m1,k1⟩⟩

theorem has_239 {ds : List D} (h : HasT Try.prog 239 ds) : ∃ x : XTask,ds = x.e ∧ x.ok:=by
  obtain ⟨hl,hf⟩:=h.fields (by kernel_rfl : fieldsOf Try.prog 239 = some [(3,0,1),(3,1,1),(3,2,1),(230,3,1),(3,4,1),(236,5,10),(3,15,1),(3,16,1),(115,17,1),(3,18,1),(3,19,1),(3,20,1),(3,21,1),(3,22,1),(4,23,1),(237,24,1)]) (by kernel_rfl : Try.prog.cellsOf 239 = 25)
  match ds,hl with
  | [d0,d1,d2,d3,d4,d5,d6,d7,d8,d9,d10,d11,d12,d13,d14,d15,d16,d17,d18,d19,d20,d21,d22,d23,d24],_ =>
    obtain ⟨v0,e0,w0⟩:=(hf (3,0,1) (by simp)).int_inv (by kernel_rfl : Try.prog.underlying 3 = some (.int .i64))
    simp at e0
    subst e0
    obtain ⟨v1,e1,w1⟩:=(hf (3,1,1) (by simp)).int_inv (by kernel_rfl : Try.prog.underlying 3 = some (.int .i64))
    simp at e1
    subst e1
    obtain ⟨v2,e2,w2⟩:=(hf (3,2,1) (by simp)).int_inv (by kernel_rfl : Try.prog.underlying 3 = some (.int .i64))
    simp at e2
    subst e2
    obtain ⟨es3,e3,m3,q3⟩:=(hf (230,3,1) (by simp)).sl_inv (by kernel_rfl : Try.prog.underlying 230 = some (.slice 231))
    rw [show Try.prog.cellsOf 231 = 3 from by kernel_rfl] at e3
    simp at e3
    subst e3
    obtain ⟨v3,rfl,l3,k3⟩:=list_dec (fun y hy => has_231 (q3 y hy))
    obtain ⟨v4,e4,w4⟩:=(hf (3,4,1) (by simp)).int_inv (by kernel_rfl : Try.prog.underlying 3 = some (.int .i64))
    simp at e4
    subst e4
    obtain ⟨y5,e5,k5⟩:=has_236 (hf (236,5,10) (by simp))
    obtain ⟨z5_Kind,⟨z5_P_Kind,z5_P_Col,z5_P_Op,⟨z5_P_V_Ty,z5_P_V_N,z5_P_V_S⟩,z5_P_L⟩,z5_Col,z5_Out⟩:=y5
    simp at e5
    obtain ⟨rfl,rfl,rfl,rfl,rfl,rfl,rfl,rfl,rfl,rfl⟩:=e5
    obtain ⟨v6,e6,w6⟩:=(hf (3,15,1) (by simp)).int_inv (by kernel_rfl : Try.prog.underlying 3 = some (.int .i64))
    simp at e6
    subst e6
    obtain ⟨v7,e7,w7⟩:=(hf (3,16,1) (by simp)).int_inv (by kernel_rfl : Try.prog.underlying 3 = some (.int .i64))
    simp at e7
    subst e7
    obtain ⟨es8,e8,m8,q8⟩:=(hf (115,17,1) (by simp)).sl_inv (by kernel_rfl : Try.prog.underlying 115 = some (.slice 268))
    rw [show Try.prog.cellsOf 268 = 5 from by kernel_rfl] at e8
    simp at e8
    subst e8
    obtain ⟨v8,rfl,l8,k8⟩:=list_dec (fun y hy => has_268 (q8 y hy))
    obtain ⟨v9,e9,w9⟩:=(hf (3,18,1) (by simp)).int_inv (by kernel_rfl : Try.prog.underlying 3 = some (.int .i64))
    simp at e9
    subst e9
    obtain ⟨v10,e10,w10⟩:=(hf (3,19,1) (by simp)).int_inv (by kernel_rfl : Try.prog.underlying 3 = some (.int .i64))
    simp at e10
    subst e10
    obtain ⟨v11,e11,w11⟩:=(hf (3,20,1) (by simp)).int_inv (by kernel_rfl : Try.prog.underlying 3 = some (.int .i64))
    simp at e11
    subst e11
    obtain ⟨v12,e12,w12⟩:=(hf (3,21,1) (by simp)).int_inv (by kernel_rfl : Try.prog.underlying 3 = some (.int .i64))
    simp at e12
    subst e12
    obtain ⟨v13,e13,w13⟩:=(hf (3,22,1) (by simp)).int_inv (by kernel_rfl : Try.prog.underlying 3 = some (.int .i64))
    simp at e13
    subst e13
    obtain ⟨v14,e14⟩:=(hf (4,23,1) (by simp)).bool_inv (by kernel_rfl : Try.prog.underlying 4 = some .bool)
    simp at e14
    subst e14
    obtain ⟨es15,e15,m15,q15⟩:=(hf (237,24,1) (by simp)).sl_inv (by kernel_rfl : Try.prog.underlying 237 = some (.slice 285))
    rw [show Try.prog.cellsOf 285 = 2 from by kernel_rfl] at e15
    simp at e15
    subst e15
    obtain ⟨v15,rfl,l15,k15⟩:=list_dec (fun y hy => has_285 (q15 y hy))
    exact ⟨⟨v0,v1,v2,v3,v4,⟨z5_Kind,⟨z5_P_Kind,z5_P_Col,z5_P_Op,⟨z5_P_V_Ty,z5_P_V_N,z5_P_V_S⟩,z5_P_L⟩,z5_Col,z5_Out⟩,v6,v7,v8,v9,v10,v11,v12,v13,v14,v15⟩,by simp,by simp only [XTask.ok]; exact ⟨wf_i64 w0,wf_i64 w1,wf_i64 w2,Nat.le_trans (Nat.le_of_eq l3) m3,k3,wf_i64 w4,k5,wf_i64 w6,wf_i64 w7,Nat.le_trans (Nat.le_of_eq l8) m8,k8,wf_i64 w9,wf_i64 w10,wf_i64 w11,wf_i64 w12,wf_i64 w13,Nat.le_trans (Nat.le_of_eq l15) m15,k15⟩⟩

theorem has_242 {ds : List D} (h : HasT Try.prog 242 ds) : ∃ x : XResult,ds = x.e ∧ x.ok:=by
  obtain ⟨hl,hf⟩:=h.fields (by kernel_rfl : fieldsOf Try.prog 242 = some [(237,0,1),(3,1,1),(4,2,1),(231,3,3)]) (by kernel_rfl : Try.prog.cellsOf 242 = 6)
  match ds,hl with
  | [d0,d1,d2,d3,d4,d5],_ =>
    obtain ⟨es0,e0,m0,q0⟩:=(hf (237,0,1) (by simp)).sl_inv (by kernel_rfl : Try.prog.underlying 237 = some (.slice 285))
    rw [show Try.prog.cellsOf 285 = 2 from by kernel_rfl] at e0
    simp at e0
    subst e0
    obtain ⟨v0,rfl,l0,k0⟩:=list_dec (fun y hy => has_285 (q0 y hy))
    obtain ⟨v1,e1,w1⟩:=(hf (3,1,1) (by simp)).int_inv (by kernel_rfl : Try.prog.underlying 3 = some (.int .i64))
    simp at e1
    subst e1
    obtain ⟨v2,e2⟩:=(hf (4,2,1) (by simp)).bool_inv (by kernel_rfl : Try.prog.underlying 4 = some .bool)
    simp at e2
    subst e2
    obtain ⟨y3,e3,k3⟩:=has_231 (hf (231,3,3) (by simp))
    obtain ⟨z3_Ty,z3_N,z3_S⟩:=y3
    simp at e3
    obtain ⟨rfl,rfl,rfl⟩:=e3
    exact ⟨⟨v0,v1,v2,⟨z3_Ty,z3_N,z3_S⟩⟩,by simp,by simp only [XResult.ok]; exact ⟨Nat.le_trans (Nat.le_of_eq l0) m0,k0,wf_i64 w1,k3⟩⟩

theorem has_244 {ds : List D} (h : HasT Try.prog 244 ds) : ∃ x : XDeed,ds = x.e ∧ x.ok:=by
  obtain ⟨hl,hf⟩:=h.fields (by kernel_rfl : fieldsOf Try.prog 244 = some [(3,0,1),(3,1,1),(230,2,1),(3,3,1),(236,4,10),(242,14,6),(3,20,1),(3,21,1),(3,22,1),(3,23,1),(3,24,1)]) (by kernel_rfl : Try.prog.cellsOf 244 = 25)
  match ds,hl with
  | [d0,d1,d2,d3,d4,d5,d6,d7,d8,d9,d10,d11,d12,d13,d14,d15,d16,d17,d18,d19,d20,d21,d22,d23,d24],_ =>
    obtain ⟨v0,e0,w0⟩:=(hf (3,0,1) (by simp)).int_inv (by kernel_rfl : Try.prog.underlying 3 = some (.int .i64))
    simp at e0
    subst e0
    obtain ⟨v1,e1,w1⟩:=(hf (3,1,1) (by simp)).int_inv (by kernel_rfl : Try.prog.underlying 3 = some (.int .i64))
    simp at e1
    subst e1
    obtain ⟨es2,e2,m2,q2⟩:=(hf (230,2,1) (by simp)).sl_inv (by kernel_rfl : Try.prog.underlying 230 = some (.slice 231))
    rw [show Try.prog.cellsOf 231 = 3 from by kernel_rfl] at e2
    simp at e2
    subst e2
    obtain ⟨v2,rfl,l2,k2⟩:=list_dec (fun y hy => has_231 (q2 y hy))
    obtain ⟨v3,e3,w3⟩:=(hf (3,3,1) (by simp)).int_inv (by kernel_rfl : Try.prog.underlying 3 = some (.int .i64))
    simp at e3
    subst e3
    obtain ⟨y4,e4,k4⟩:=has_236 (hf (236,4,10) (by simp))
    obtain ⟨z4_Kind,⟨z4_P_Kind,z4_P_Col,z4_P_Op,⟨z4_P_V_Ty,z4_P_V_N,z4_P_V_S⟩,z4_P_L⟩,z4_Col,z4_Out⟩:=y4
    simp at e4
    obtain ⟨rfl,rfl,rfl,rfl,rfl,rfl,rfl,rfl,rfl,rfl⟩:=e4
    obtain ⟨y5,e5,k5⟩:=has_242 (hf (242,14,6) (by simp))
    obtain ⟨z5_Rows,z5_N,z5_Has,⟨z5_V_Ty,z5_V_N,z5_V_S⟩⟩:=y5
    simp at e5
    obtain ⟨rfl,rfl,rfl,rfl,rfl,rfl⟩:=e5
    obtain ⟨v6,e6,w6⟩:=(hf (3,20,1) (by simp)).int_inv (by kernel_rfl : Try.prog.underlying 3 = some (.int .i64))
    simp at e6
    subst e6
    obtain ⟨v7,e7,w7⟩:=(hf (3,21,1) (by simp)).int_inv (by kernel_rfl : Try.prog.underlying 3 = some (.int .i64))
    simp at e7
    subst e7
    obtain ⟨v8,e8,w8⟩:=(hf (3,22,1) (by simp)).int_inv (by kernel_rfl : Try.prog.underlying 3 = some (.int .i64))
    simp at e8
    subst e8
    obtain ⟨v9,e9,w9⟩:=(hf (3,23,1) (by simp)).int_inv (by kernel_rfl : Try.prog.underlying 3 = some (.int .i64))
    simp at e9
    subst e9
    obtain ⟨v10,e10,w10⟩:=(hf (3,24,1) (by simp)).int_inv (by kernel_rfl : Try.prog.underlying 3 = some (.int .i64))
    simp at e10
    subst e10
    exact ⟨⟨v0,v1,v2,v3,⟨z4_Kind,⟨z4_P_Kind,z4_P_Col,z4_P_Op,⟨z4_P_V_Ty,z4_P_V_N,z4_P_V_S⟩,z4_P_L⟩,z4_Col,z4_Out⟩,⟨z5_Rows,z5_N,z5_Has,⟨z5_V_Ty,z5_V_N,z5_V_S⟩⟩,v6,v7,v8,v9,v10⟩,by simp,by simp only [XDeed.ok]; exact ⟨wf_i64 w0,wf_i64 w1,Nat.le_trans (Nat.le_of_eq l2) m2,k2,wf_i64 w3,k4,k5,wf_i64 w6,wf_i64 w7,wf_i64 w8,wf_i64 w9,wf_i64 w10⟩⟩

theorem has_122 {ds : List D} (h : HasT Try.prog 122 ds) : ∃ x : XWorld,ds = x.e ∧ x.ok:=by
  obtain ⟨hl,hf⟩:=h.fields (by kernel_rfl : fieldsOf Try.prog 122 = some [(114,0,3),(3,3,1),(3,4,1),(3,5,1),(117,6,2),(95,8,1),(32,9,1),(118,10,1),(32,11,1),(119,12,1),(120,13,1)]) (by kernel_rfl : Try.prog.cellsOf 122 = 14)
  match ds,hl with
  | [d0,d1,d2,d3,d4,d5,d6,d7,d8,d9,d10,d11,d12,d13],_ =>
    obtain ⟨y0,e0,k0⟩:=has_114 (hf (114,0,3) (by simp))
    obtain ⟨z0_Cols,z0_Slots,z0_Bufs⟩:=y0
    simp at e0
    obtain ⟨rfl,rfl,rfl⟩:=e0
    obtain ⟨v1,e1,w1⟩:=(hf (3,3,1) (by simp)).int_inv (by kernel_rfl : Try.prog.underlying 3 = some (.int .i64))
    simp at e1
    subst e1
    obtain ⟨v2,e2,w2⟩:=(hf (3,4,1) (by simp)).int_inv (by kernel_rfl : Try.prog.underlying 3 = some (.int .i64))
    simp at e2
    subst e2
    obtain ⟨v3,e3,w3⟩:=(hf (3,5,1) (by simp)).int_inv (by kernel_rfl : Try.prog.underlying 3 = some (.int .i64))
    simp at e3
    subst e3
    obtain ⟨y4,e4,k4⟩:=has_117 (hf (117,6,2) (by simp))
    obtain ⟨z4_Ver,z4_L⟩:=y4
    simp at e4
    obtain ⟨rfl,rfl⟩:=e4
    obtain ⟨es5,e5,m5,q5⟩:=(hf (95,8,1) (by simp)).sl_inv (by kernel_rfl : Try.prog.underlying 95 = some (.slice 180))
    rw [show Try.prog.cellsOf 180 = 5 from by kernel_rfl] at e5
    simp at e5
    subst e5
    obtain ⟨v5,rfl,l5,k5⟩:=list_dec (fun y hy => has_180 (q5 y hy))
    obtain ⟨es6,e6,m6,q6⟩:=(hf (32,9,1) (by simp)).sl_inv (by kernel_rfl : Try.prog.underlying 32 = some (.slice 3))
    rw [show Try.prog.cellsOf 3 = 1 from by kernel_rfl] at e6
    simp at e6
    subst e6
    obtain ⟨v6,rfl,l6,k6⟩:=list_dec (fun y hy => has_int_3 (q6 y hy))
    obtain ⟨es7,e7,m7,q7⟩:=(hf (118,10,1) (by simp)).sl_inv (by kernel_rfl : Try.prog.underlying 118 = some (.slice 247))
    rw [show Try.prog.cellsOf 247 = 3 from by kernel_rfl] at e7
    simp at e7
    subst e7
    obtain ⟨v7,rfl,l7,k7⟩:=list_dec (fun y hy => has_247 (q7 y hy))
    obtain ⟨es8,e8,m8,q8⟩:=(hf (32,11,1) (by simp)).sl_inv (by kernel_rfl : Try.prog.underlying 32 = some (.slice 3))
    rw [show Try.prog.cellsOf 3 = 1 from by kernel_rfl] at e8
    simp at e8
    subst e8
    obtain ⟨v8,rfl,l8,k8⟩:=list_dec (fun y hy => has_int_3 (q8 y hy))
    obtain ⟨es9,e9,m9,q9⟩:=(hf (119,12,1) (by simp)).sl_inv (by kernel_rfl : Try.prog.underlying 119 = some (.slice 239))
    rw [show Try.prog.cellsOf 239 = 25 from by kernel_rfl] at e9
    simp at e9
    subst e9
    obtain ⟨v9,rfl,l9,k9⟩:=list_dec (fun y hy => has_239 (q9 y hy))
    obtain ⟨es10,e10,m10,q10⟩:=(hf (120,13,1) (by simp)).sl_inv (by kernel_rfl : Try.prog.underlying 120 = some (.slice 244))
    rw [show Try.prog.cellsOf 244 = 25 from by kernel_rfl] at e10
    simp at e10
    subst e10
    obtain ⟨v10,rfl,l10,k10⟩:=list_dec (fun y hy => has_244 (q10 y hy))
    exact ⟨⟨⟨z0_Cols,z0_Slots,z0_Bufs⟩,v1,v2,v3,⟨z4_Ver,z4_L⟩,v5,v6,v7,v8,v9,v10⟩,by simp,by simp only [XWorld.ok]; exact ⟨k0,wf_i64 w1,wf_i64 w2,wf_i64 w3,k4,Nat.le_trans (Nat.le_of_eq l5) m5,k5,Nat.le_trans (Nat.le_of_eq l6) m6,k6,Nat.le_trans (Nat.le_of_eq l7) m7,k7,Nat.le_trans (Nat.le_of_eq l8) m8,k8,Nat.le_trans (Nat.le_of_eq l9) m9,k9,Nat.le_trans (Nat.le_of_eq l10) m10,k10⟩⟩

theorem own : ownKnob Try.prog.godebug = none:=by kernel_rfl

theorem says (xs : List V) (h : ArgsT Try.prog Try.f10.params.toList xs) : OK Try.prog 10 xs (.one (.ro false (.bool true))) []:=by
  rw [show Try.f10.params.toList = [122] from by kernel_rfl] at h
  obtain ⟨x0,xs,rfl,h0,h⟩:=h.cons_inv
  obtain rfl:=h.nil_inv
  obtain ⟨ds0,rfl,g0⟩:=h0.struct' (by kernel_rfl)
  obtain ⟨y0,rfl,k0⟩:=has_122 g0
  obtain ⟨⟨aW_C_Cols,aW_C_Slots,aW_C_Bufs⟩,aW_Time,aW_T,aW_E,⟨aW_Dd_Ver,aW_Dd_L⟩,aW_B,aW_M,aW_X,aW_P,aW_Tasks,aW_Deeds⟩:=y0
  simp only [XWorld.ok,XConf.ok,XDir.ok,and_assoc] at k0
  obtain ⟨hok_aW_C_Cols,hoki_aW_C_Cols,hlo_aW_C_Slots,hhi_aW_C_Slots,hlo_aW_C_Bufs,hhi_aW_C_Bufs,hlo_aW_Time,hhi_aW_Time,hlo_aW_T,hhi_aW_T,hlo_aW_E,hhi_aW_E,hlo_aW_Dd_Ver,hhi_aW_Dd_Ver,hok_aW_Dd_L,hoks_aW_Dd_L,hok_aW_B,hoks_aW_B,hok_aW_M,hoki_aW_M,hok_aW_X,hoks_aW_X,hok_aW_P,hoki_aW_P,hok_aW_Tasks,hoks_aW_Tasks,hok_aW_Deeds,hoks_aW_Deeds⟩:=k0
  exact seat_ok 116 _ _ _ (t116 aW_C_Cols aW_C_Slots aW_C_Bufs aW_Time aW_T aW_E aW_Dd_Ver aW_Dd_L aW_B aW_M aW_X aW_P aW_Tasks aW_Deeds hok_aW_C_Cols hok_aW_Dd_L hok_aW_B hoks_aW_B hok_aW_M hok_aW_X hok_aW_P hok_aW_Tasks hoks_aW_Tasks hok_aW_Deeds hoks_aW_Deeds)

theorem lifted (os : Os) (started : os.Started) (H : Type) (enc : TypeId × Value → H) :
    ReturnsInHanded {} Try.checked os 10 .any (Rows.fnExactOpenSlotsSpec.pre6 enc Try.prog Try.f10 Rows.fnExactOpenSlotsRow.domain false) (Rows.fnExactOpenSlotsSpec.post enc Try.prog Try.f10 false true false false):=by
  refine returnsInHanded_of_change (C:=Try.checked) own started (by kernel_rfl) Try.func10
    (ChangeSpec.witness6 (enc:=enc) (C:=Try.checked) false ⟨#[],#[.agg #[.slice none 0 0,.int .i64 0,.int .i64 0,.int .i64 0,.int .i64 0,.int .i64 0,.int .i64 0,.slice none 0 0,.slice none 0 0,.slice none 0 0,.slice none 0 0,.slice none 0 0,.slice none 0 0,.slice none 0 0]],[]⟩ 8 (by kernel_rfl) (by kernel_rfl) (by kernel_rfl) (by kernel_rfl)) ?_
  intro W base args ds gs before hval0 hW hcnd _
  refine law_contract (S:=[122,114,32,3,117,115,268,95,180,178,176,278,230,231,9,22,5,118,247,119,239,236,234,232,4,237,285,120,244,242]) (tb:=4) (by kernel_rfl) (by kernel_rfl) (by kernel_rfl) says (fun j t v h1 h2 => ⟨_,_,hval0 j t v h1 h2⟩) hW rfl (by kernel_rfl) (by kernel_rfl) (fun hl => ?_)
  match ds,hl with
  | [d0],_ => exact ⟨rfl,rfl,rfl⟩

theorem jf0 : laidOutB Try.prog = true:=by kernel_rfl
theorem jf1 : mapsRowed Try.prog = true:=by kernel_rfl
theorem jf2 : (Try.prog.stops == []) = true:=by kernel_rfl
theorem jf3 : (Try.prog.stopKnobs == []) = true:=by kernel_rfl
theorem jf4 : (Rows.fnExactOpenSlotsRow.inPlace == Try.prog.inPlace 10) = true:=by kernel_rfl
theorem jf5 : (Rows.fnExactOpenSlotsRow.unfollowed == Try.prog.unfollowed 10) = true:=by kernel_rfl
theorem jf6 : (Rows.fnExactOpenSlotsRow.recurses == Try.prog.recurses 10) = true:=by kernel_rfl
theorem jf7 : (Rows.fnExactOpenSlotsRow.named == Try.prog.varsNamed 10) = true:=by kernel_rfl
theorem jf8 : (Rows.fnExactOpenSlotsRow.plainKeys == Try.prog.plainKeys) = true:=by kernel_rfl
theorem jf9 : Try.prog.stopsHeard = true:=by kernel_rfl
theorem jf10 : Try.prog.mayEnter = true:=by kernel_rfl
theorem jf11 : (Rows.fnExactOpenSlotsRow.lifted == Try.prog.liftsFinal) = true:=by kernel_rfl
theorem jf12 : (Try.prog.make == some Rows.fnExactOpenSlotsRow.make) = true:=by kernel_rfl
theorem jfn : Try.pinned.checked.prog.funcNamed Rows.fnExactOpenSlotsRow.func = some 10:=by kernel_rfl
theorem jfall : joinedFacts Try.prog 10 Try.f10 Rows.fnExactOpenSlotsSpec Rows.fnExactOpenSlotsRow = true:=by
  unfold joinedFacts
  simp only [jf0,jf1,jf2,jf3,jf4,jf5,jf6,jf7,jf8,jf9,jf10,jf11,jf12,Bool.true_and,Bool.and_true]
  kernel_rfl

theorem over : Rows.fnExactOpenSlotsRow.holds Try.pinned (OpenSpec.ofChange Rows.fnExactOpenSlotsSpec) :=
  OpenClaim.holds_of_wide 10 Try.f10 rfl rfl rfl rfl rfl rfl rfl ⟨rfl,rfl,rfl,rfl,rfl⟩ rfl rfl rfl rfl rfl (jfn) Try.func10 (jfall)
    (of_decide_eq_true (by kernel_rfl)) (by unfold Func.isWrapper; first | (rw [if_pos (by decide +kernel)]; kernel_rfl) | (rw [if_neg (by decide +kernel)]; exact ⟨rfl,rfl⟩))
    (fun os started H enc _ => lifted os started H enc)

theorem proved : Rows.FnExactOpenSlotsSaid:=over
#print axioms proved
end Go.Proofs.Ytkgibccknlbiaaa.fnExactOpenSlots
