/- The law FnExactBufOk returns true for every input, and each argument reads behind the call as it read before. No condition. -/
import Derived.Test.YtcgekefbkccelaaGreatXBufOkSo
import Derived.Shelf.SlSortCmp.NoneTotal
import Derived.Test.YtcgekefbkccelaaGreatOMLaw
import Derived.Test.YtcgekefbkccelaaGreatRows
import Derived.KernelRfl
import Derived.WalkKit
import Derived.ProofKit
import Derived.OpenShut
set_option linter.all false
namespace Go.Proofs
open Go.Shelf
def Tryz.sortVal_ren : Go.Shelf.Ren:=⟨fun | 6 => 409 | 15 => 392 | 14 => 415 | 28 => 407 | 29 => 408 | 20 => 417 | 21 => 418 | 22 => 419 | 23 => 420 | 24 => 421 | 25 => 422 | 26 => 423 | 27 => 424 | 46 => 425 | 47 => 426 | 48 => 427 | 49 => 428 | 50 => 429 | 57 => 430 | n => n,fun | 22 => 69 | 24 => 59 | 25 => 352 | 3 => 3 | 39 => 304 | 0 => 0 | 53 => 348 | 55 => 350 | 4 => 4 | 46 => 356 | 45 => 355 | 50 => 260 | 5 => 5 | 9 => 9 | 66 => 361 | 70 => 365 | 76 => 367 | 77 => 368 | n => n,fun | n => n⟩
theorem Tryz.sortVal : Go.Proofs.SlLaysF0.n6 Tryz.prog Tryz.sortVal_ren:={
  mixed:=by kernel_rfl
  f6:=⟨Tryz.f409.name,by decide,Tryz.func409.trans (congrArg some (by kernel_rfl))⟩
  f14:=⟨Tryz.f415.name,by decide,Tryz.func415.trans (congrArg some (by kernel_rfl))⟩
  f15:=Tryz.func392.trans (congrArg some (by kernel_rfl))
  f20:=⟨Tryz.f417.name,by decide,Tryz.func417.trans (congrArg some (by kernel_rfl))⟩
  f21:=⟨Tryz.f418.name,by decide,Tryz.func418.trans (congrArg some (by kernel_rfl))⟩
  f22:=⟨Tryz.f419.name,by decide,Tryz.func419.trans (congrArg some (by kernel_rfl))⟩
  f23:=⟨Tryz.f420.name,by decide,Tryz.func420.trans (congrArg some (by kernel_rfl))⟩
  f24:=⟨Tryz.f421.name,by decide,Tryz.func421.trans (congrArg some (by kernel_rfl))⟩
  f25:=⟨Tryz.f422.name,by decide,Tryz.func422.trans (congrArg some (by kernel_rfl))⟩
  f26:=⟨Tryz.f423.name,by decide,Tryz.func423.trans (congrArg some (by kernel_rfl))⟩
  f27:=⟨Tryz.f424.name,by decide,Tryz.func424.trans (congrArg some (by kernel_rfl))⟩
  f28:=Tryz.func407.trans (congrArg some (by kernel_rfl))
  f29:=Tryz.func408.trans (congrArg some (by kernel_rfl))
  f46:=⟨Tryz.f425.name,by decide,Tryz.func425.trans (congrArg some (by kernel_rfl))⟩
  f47:=Tryz.func426.trans (congrArg some (by kernel_rfl))
  f48:=Tryz.func427.trans (congrArg some (by kernel_rfl))
  f49:=⟨Tryz.f428.name,by decide,Tryz.func428.trans (congrArg some (by kernel_rfl))⟩
  f50:=⟨Tryz.f429.name,by decide,Tryz.func429.trans (congrArg some (by kernel_rfl))⟩
  f57:=⟨Tryz.f430.name,by decide,Tryz.func430.trans (congrArg some (by kernel_rfl))⟩
  t0:=Tryz.underlying0
  a0:=Tryz.isAgg0
  z0:=Tryz.sizeOf0
  v0:=Tryz.zeroValue0
  t3:=Tryz.underlying3
  a3:=Tryz.isAgg3
  z3:=Tryz.sizeOf3
  v3:=Tryz.zeroValue3
  t4:=Tryz.underlying4
  a4:=Tryz.isAgg4
  z4:=Tryz.sizeOf4
  v4:=Tryz.zeroValue4
  t5:=Tryz.underlying5
  a5:=Tryz.isAgg5
  z5:=Tryz.sizeOf5
  v5:=Tryz.zeroValue5
  t9:=Tryz.underlying9
  a9:=Tryz.isAgg9
  z9:=Tryz.sizeOf9
  v9:=Tryz.zeroValue9
  t22:=Tryz.underlying69
  a22:=Tryz.isAgg69
  z22:=Tryz.sizeOf69
  v22:=Tryz.zeroValue69
  t25:=Tryz.underlying352
  a25:=Tryz.isAgg352
  z25:=Tryz.sizeOf352
  v25:=Tryz.zeroValue352
  t39:=Tryz.underlying304
  a39:=Tryz.isAgg304
  z39:=Tryz.sizeOf304
  v39:=Tryz.zeroValue304
  t45:=Tryz.underlying355
  a45:=Tryz.isAgg355
  z45:=Tryz.sizeOf355
  v45:=Tryz.zeroValue355
  t46:=Tryz.underlying356
  a46:=Tryz.isAgg356
  z46:=Tryz.sizeOf356
  v46:=Tryz.zeroValue356
  t50:=Tryz.underlying260
  a50:=Tryz.isAgg260
  z50:=Tryz.sizeOf260
  v50:=Tryz.zeroValue260
  t53:=Tryz.underlying348
  a53:=Tryz.isAgg348
  z53:=Tryz.sizeOf348
  v53:=Tryz.zeroValue348
  t55:=Tryz.underlying350
  a55:=Tryz.isAgg350
  z55:=Tryz.sizeOf350
  v55:=Tryz.zeroValue350
  t66:=Tryz.underlying361
  a66:=Tryz.isAgg361
  z66:=Tryz.sizeOf361
  v66:=Tryz.zeroValue361
  t70:=Tryz.underlying365
  a70:=Tryz.isAgg365
  z70:=Tryz.sizeOf365
  v70:=Tryz.zeroValue365
  t76:=Tryz.underlying367
  a76:=Tryz.isAgg367
  z76:=Tryz.sizeOf367
  v76:=Tryz.zeroValue367
  t77:=Tryz.underlying368
  a77:=Tryz.isAgg368
  z77:=Tryz.sizeOf368
  v77:=Tryz.zeroValue368 }
end Go.Proofs
namespace Go.Proofs.YtcgekefbkccelaaGreat.fnExactBufOk
open Go.ChangeShapes Go.WideShapes Go.ChangeAt Go.RowKit Go.Proofs.YtcgekefbkccelaaGreat.OM
set_option maxRecDepth 100000
set_option maxHeartbeats 4000000

theorem chk_all : (tab.filter fun p => p.1 != 595).all (fun p => chkF Tryz.prog kap (kap p.1) p.2) = true:=by kernel_rfl
theorem sort_at : TT 595 = some pf595:=by kernel_rfl
theorem sort_body : bodyOk Tryz.prog (kap 595) = true:=by kernel_rfl
theorem seat_ok (f : Nat) (xs : List V) (r : V) (us : List (Nat × Nat × C)) (h : Gw TT f xs = some (r,us)) : OK Tryz.prog (kap f) xs r us:=by
  refine Gw_okX rfl (by kernel_rfl) (fun f F hF => ?_) f xs r us h
  by_cases e : f = 595
  · subst e
    rw [sort_at,Option.some.injEq] at hF
    subst hF
    exact .inr ⟨sort_body,fun Γ fuel xs r us hG h => sort_ok Tryz.sortVal rfl Tryz.isAgg59 Tryz.sizeOf59 hG h⟩
  · exact .inl (List.all_eq_true.1 chk_all (f,F) (List.mem_filter.2 ⟨lookup_mem hF,by simpa using e⟩))

theorem has_int_3 {ds : List D} (h : HasT Tryz.prog 3 ds) : ∃ n : Int,ds = ei n ∧ (-9223372036854775808 ≤ n ∧ n ≤ 9223372036854775807):=by
  obtain ⟨n,rfl,w⟩:=h.int_inv (by kernel_rfl : Tryz.prog.underlying 3 = some (.int .i64))
  exact ⟨n,rfl,wf_i64 w⟩

theorem has_37 {ds : List D} (h : HasT Tryz.prog 37 ds) : ∃ x : XVal,ds = x.e ∧ x.ok:=by
  obtain ⟨hl,hf⟩:=h.fields (by kernel_rfl : fieldsOf Tryz.prog 37 = some [(3,0,1),(3,1,1),(9,2,1)]) (by kernel_rfl : Tryz.prog.cellsOf 37 = 3)
  match ds,hl with
  | [d0,d1,d2],_ =>
    obtain ⟨v0,e0,w0⟩:=(hf (3,0,1) (by simp)).int_inv (by kernel_rfl : Tryz.prog.underlying 3 = some (.int .i64))
    simp at e0
    subst e0
    obtain ⟨v1,e1,w1⟩:=(hf (3,1,1) (by simp)).int_inv (by kernel_rfl : Tryz.prog.underlying 3 = some (.int .i64))
    simp at e1
    subst e1
    obtain ⟨v2,e2,w2⟩:=(hf (9,2,1) (by simp)).str_inv (by kernel_rfl : Tryz.prog.underlying 9 = some .string)
    simp at e2
    subst e2
    exact ⟨⟨v0,v1,v2⟩,by simp,by simp only [XVal.ok]; exact ⟨wf_i64 w0,wf_i64 w1,w2⟩⟩

theorem has_288 {ds : List D} (h : HasT Tryz.prog 288 ds) : ∃ x : XSlot,ds = x.e ∧ x.ok:=by
  obtain ⟨hl,hf⟩:=h.fields (by kernel_rfl : fieldsOf Tryz.prog 288 = some [(3,0,1),(197,1,1)]) (by kernel_rfl : Tryz.prog.cellsOf 288 = 2)
  match ds,hl with
  | [d0,d1],_ =>
    obtain ⟨v0,e0,w0⟩:=(hf (3,0,1) (by simp)).int_inv (by kernel_rfl : Tryz.prog.underlying 3 = some (.int .i64))
    simp at e0
    subst e0
    obtain ⟨es1,e1,m1,q1⟩:=(hf (197,1,1) (by simp)).sl_inv (by kernel_rfl : Tryz.prog.underlying 197 = some (.slice 37))
    rw [show Tryz.prog.cellsOf 37 = 3 from by kernel_rfl] at e1
    simp at e1
    subst e1
    obtain ⟨v1,rfl,l1,k1⟩:=list_dec (fun y hy => has_37 (q1 y hy))
    exact ⟨⟨v0,v1⟩,by simp,by simp only [XSlot.ok]; exact ⟨wf_i64 w0,Nat.le_trans (Nat.le_of_eq l1) m1,k1⟩⟩

theorem has_82 {ds : List D} (h : HasT Tryz.prog 82 ds) : ∃ x : XChunk,ds = x.e ∧ x.ok:=by
  obtain ⟨hl,hf⟩:=h.fields (by kernel_rfl : fieldsOf Tryz.prog 82 = some [(3,0,1),(80,1,1)]) (by kernel_rfl : Tryz.prog.cellsOf 82 = 2)
  match ds,hl with
  | [d0,d1],_ =>
    obtain ⟨v0,e0,w0⟩:=(hf (3,0,1) (by simp)).int_inv (by kernel_rfl : Tryz.prog.underlying 3 = some (.int .i64))
    simp at e0
    subst e0
    obtain ⟨es1,e1,m1,q1⟩:=(hf (80,1,1) (by simp)).sl_inv (by kernel_rfl : Tryz.prog.underlying 80 = some (.slice 288))
    rw [show Tryz.prog.cellsOf 288 = 2 from by kernel_rfl] at e1
    simp at e1
    subst e1
    obtain ⟨v1,rfl,l1,k1⟩:=list_dec (fun y hy => has_288 (q1 y hy))
    exact ⟨⟨v0,v1⟩,by simp,by simp only [XChunk.ok]; exact ⟨wf_i64 w0,Nat.le_trans (Nat.le_of_eq l1) m1,k1⟩⟩

theorem has_int_5 {ds : List D} (h : HasT Tryz.prog 5 ds) : ∃ n : Int,ds = eb n ∧ (0 ≤ n ∧ n ≤ 255):=by
  obtain ⟨n,rfl,w⟩:=h.int_inv (by kernel_rfl : Tryz.prog.underlying 5 = some (.int .u8))
  exact ⟨n,rfl,wf_u8 w⟩

theorem has_85 {ds : List D} (h : HasT Tryz.prog 85 ds) : ∃ x : XBuf,ds = x.e ∧ x.ok:=by
  obtain ⟨hl,hf⟩:=h.fields (by kernel_rfl : fieldsOf Tryz.prog 85 = some [(3,0,1),(3,1,1),(82,2,2),(83,4,1)]) (by kernel_rfl : Tryz.prog.cellsOf 85 = 5)
  match ds,hl with
  | [d0,d1,d2,d3,d4],_ =>
    obtain ⟨v0,e0,w0⟩:=(hf (3,0,1) (by simp)).int_inv (by kernel_rfl : Tryz.prog.underlying 3 = some (.int .i64))
    simp at e0
    subst e0
    obtain ⟨v1,e1,w1⟩:=(hf (3,1,1) (by simp)).int_inv (by kernel_rfl : Tryz.prog.underlying 3 = some (.int .i64))
    simp at e1
    subst e1
    obtain ⟨y2,e2,k2⟩:=has_82 (hf (82,2,2) (by simp))
    obtain ⟨z2_Next,z2_L⟩:=y2
    simp at e2
    obtain ⟨rfl,rfl⟩:=e2
    obtain ⟨es3,e3,m3,q3⟩:=(hf (83,4,1) (by simp)).sl_inv (by kernel_rfl : Tryz.prog.underlying 83 = some (.slice 5))
    rw [show Tryz.prog.cellsOf 5 = 1 from by kernel_rfl] at e3
    simp at e3
    subst e3
    obtain ⟨v3,rfl,l3,k3⟩:=list_dec (fun y hy => has_int_5 (q3 y hy))
    exact ⟨⟨v0,v1,⟨z2_Next,z2_L⟩,v3⟩,by simp,by simp only [XBuf.ok]; exact ⟨wf_i64 w0,wf_i64 w1,k2,Nat.le_trans (Nat.le_of_eq l3) m3,k3⟩⟩

theorem own : ownKnob Tryz.prog.godebug = none:=by kernel_rfl

theorem says (xs : List V) (h : ArgsT Tryz.prog Tryz.f6.params.toList xs) : OK Tryz.prog 6 xs (.one (.ro false (.bool true))) []:=by
  rw [show Tryz.f6.params.toList = [22,85] from by kernel_rfl] at h
  obtain ⟨x0,xs,rfl,h0,h⟩:=h.cons_inv
  obtain ⟨x1,xs,rfl,h1,h⟩:=h.cons_inv
  obtain rfl:=h.nil_inv
  obtain ⟨es0,rfl,m0,q0⟩:=h0.sl (by kernel_rfl : Tryz.prog.underlying 22 = some (.slice 3))
  rw [show Tryz.prog.cellsOf 3 = 1 from by kernel_rfl]
  obtain ⟨aCols,rfl,l0,k0⟩:=list_dec (fun y hy => has_int_3 (q0 y hy))
  have hok_aCols : aCols.length ≤ 9223372036854775807:=Nat.le_trans (Nat.le_of_eq l0) m0
  obtain ⟨ds1,rfl,g1⟩:=h1.struct' (by kernel_rfl)
  obtain ⟨y1,rfl,k1⟩:=has_85 g1
  obtain ⟨aB_Gen,aB_Kind,⟨aB_C_Next,aB_C_L⟩,aB_G⟩:=y1
  simp only [XBuf.ok,XChunk.ok,and_assoc] at k1
  obtain ⟨hlo_aB_Gen,hhi_aB_Gen,hlo_aB_Kind,hhi_aB_Kind,hlo_aB_C_Next,hhi_aB_C_Next,hok_aB_C_L,hoks_aB_C_L,hok_aB_G,hoki_aB_G⟩:=k1
  exact seat_ok 415 _ _ _ (t415 aCols aB_Gen aB_Kind aB_C_Next aB_C_L aB_G hok_aCols hok_aB_C_L hoks_aB_C_L hok_aB_G hoki_aB_G)

theorem lifted (os : Os) (started : os.Started) (H : Type) (enc : TypeId × Value → H) :
    ReturnsInHanded {} Tryz.checked os 6 .any (Rows.fnExactBufOkSpec.pre6 enc Tryz.prog Tryz.f6 Rows.fnExactBufOkRow.domain false) (Rows.fnExactBufOkSpec.post enc Tryz.prog Tryz.f6 false true false false):=by
  refine returnsInHanded_of_change (C:=Tryz.checked) own started (by kernel_rfl) Tryz.func6
    (ChangeSpec.witness6 (enc:=enc) (C:=Tryz.checked) false ⟨#[],#[.slice none 0 0,.agg #[.int .i64 0,.int .i64 0,.int .i64 0,.slice none 0 0,.slice none 0 0]],[]⟩ 8 (by kernel_rfl) (by kernel_rfl) (by kernel_rfl) (by kernel_rfl)) ?_
  intro W base args ds gs before hval0 hW hcnd _
  refine law_contract (S:=[22,3,85,82,80,288,197,37,9,83,5]) (tb:=4) (by kernel_rfl) (by kernel_rfl) (by kernel_rfl) says (fun j t v h1 h2 => ⟨_,_,hval0 j t v h1 h2⟩) hW rfl (by kernel_rfl) (by kernel_rfl) (fun hl => ?_)
  match ds,hl with
  | [d0,d1],_ => exact ⟨rfl,rfl,rfl⟩

theorem jf0 : laidOutB Tryz.prog = true:=by kernel_rfl
theorem jf1 : mapsRowed Tryz.prog = true:=by kernel_rfl
theorem jf2 : (Tryz.prog.stops == []) = true:=by kernel_rfl
theorem jf3 : (Tryz.prog.stopKnobs == []) = true:=by kernel_rfl
theorem jf4 : (Rows.fnExactBufOkRow.inPlace == Tryz.prog.inPlace 6) = true:=by kernel_rfl
theorem jf5 : (Rows.fnExactBufOkRow.unfollowed == Tryz.prog.unfollowed 6) = true:=by kernel_rfl
theorem jf6 : (Rows.fnExactBufOkRow.recurses == Tryz.prog.recurses 6) = true:=by kernel_rfl
theorem jf7 : (Rows.fnExactBufOkRow.named == Tryz.prog.varsNamed 6) = true:=by kernel_rfl
theorem jf8 : (Rows.fnExactBufOkRow.plainKeys == Tryz.prog.plainKeys) = true:=by kernel_rfl
theorem jf9 : Tryz.prog.stopsHeard = true:=by kernel_rfl
theorem jf10 : Tryz.prog.mayEnter = true:=by kernel_rfl
theorem jf11 : (Rows.fnExactBufOkRow.lifted == Tryz.prog.liftsFinal) = true:=by kernel_rfl
theorem jf12 : (Tryz.prog.make == some Rows.fnExactBufOkRow.make) = true:=by kernel_rfl
theorem jfn : Tryz.pinned.checked.prog.funcNamed Rows.fnExactBufOkRow.func = some 6:=by kernel_rfl
theorem jfall : joinedFacts Tryz.prog 6 Tryz.f6 Rows.fnExactBufOkSpec Rows.fnExactBufOkRow = true:=by
  unfold joinedFacts
  simp only [jf0,jf1,jf2,jf3,jf4,jf5,jf6,jf7,jf8,jf9,jf10,jf11,jf12,Bool.true_and,Bool.and_true]
  kernel_rfl

theorem over : Rows.fnExactBufOkRow.holds Tryz.pinned (OpenSpec.ofChange Rows.fnExactBufOkSpec) :=
  OpenClaim.holds_of_wide 6 Tryz.f6 rfl rfl rfl rfl rfl rfl rfl ⟨rfl,rfl,rfl,rfl,rfl⟩ rfl rfl rfl rfl rfl (jfn) Tryz.func6 (jfall)
    (of_decide_eq_true (by kernel_rfl)) (by unfold Func.isWrapper; first | (rw [if_pos (by decide +kernel)]; kernel_rfl) | (rw [if_neg (by decide +kernel)]; exact ⟨rfl,rfl⟩))
    (fun os started H enc _ => lifted os started H enc)

theorem proved : Rows.FnExactBufOkSaid:=over
#print axioms proved
end Go.Proofs.YtcgekefbkccelaaGreat.fnExactBufOk
