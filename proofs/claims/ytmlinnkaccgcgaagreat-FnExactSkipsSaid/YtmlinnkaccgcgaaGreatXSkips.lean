/- The law FnExactSkips returns true for every input, and each argument reads behind the call as it read before. No condition. -/
import Derived.Test.YtmlinnkaccgcgaaGreatXSkipsSo
import Derived.Shelf.SlSortCmp.NoneTotal
import Derived.Test.YtmlinnkaccgcgaaGreatOMLaw
import Derived.Test.YtmlinnkaccgcgaaGreatRows
import Derived.KernelRfl
import Derived.WalkKit
import Derived.ProofKit
import Derived.OpenShut
set_option linter.all false
namespace Go.Proofs
open Go.Shelf
def Tryz.sortVal_ren : Go.Shelf.Ren:=⟨fun | 6 => 201 | 15 => 188 | 14 => 205 | 28 => 198 | 29 => 199 | 20 => 207 | 21 => 208 | 22 => 209 | 23 => 210 | 24 => 211 | 25 => 212 | 26 => 213 | 27 => 214 | 46 => 215 | 47 => 216 | 48 => 217 | 49 => 218 | 50 => 219 | 57 => 220 | n => n,fun | 22 => 128 | 24 => 59 | 25 => 240 | 3 => 3 | 39 => 232 | 0 => 0 | 53 => 236 | 55 => 238 | 4 => 4 | 46 => 244 | 45 => 243 | 50 => 248 | 5 => 5 | 9 => 9 | 66 => 250 | 70 => 254 | 76 => 256 | 77 => 257 | n => n,fun | n => n⟩
theorem Tryz.sortVal : Go.Proofs.SlLaysF0.n6 Tryz.prog Tryz.sortVal_ren:={
  mixed:=by kernel_rfl
  f6:=⟨Tryz.f201.name,by decide,Tryz.func201.trans (congrArg some (by kernel_rfl))⟩
  f14:=⟨Tryz.f205.name,by decide,Tryz.func205.trans (congrArg some (by kernel_rfl))⟩
  f15:=Tryz.func188.trans (congrArg some (by kernel_rfl))
  f20:=⟨Tryz.f207.name,by decide,Tryz.func207.trans (congrArg some (by kernel_rfl))⟩
  f21:=⟨Tryz.f208.name,by decide,Tryz.func208.trans (congrArg some (by kernel_rfl))⟩
  f22:=⟨Tryz.f209.name,by decide,Tryz.func209.trans (congrArg some (by kernel_rfl))⟩
  f23:=⟨Tryz.f210.name,by decide,Tryz.func210.trans (congrArg some (by kernel_rfl))⟩
  f24:=⟨Tryz.f211.name,by decide,Tryz.func211.trans (congrArg some (by kernel_rfl))⟩
  f25:=⟨Tryz.f212.name,by decide,Tryz.func212.trans (congrArg some (by kernel_rfl))⟩
  f26:=⟨Tryz.f213.name,by decide,Tryz.func213.trans (congrArg some (by kernel_rfl))⟩
  f27:=⟨Tryz.f214.name,by decide,Tryz.func214.trans (congrArg some (by kernel_rfl))⟩
  f28:=Tryz.func198.trans (congrArg some (by kernel_rfl))
  f29:=Tryz.func199.trans (congrArg some (by kernel_rfl))
  f46:=⟨Tryz.f215.name,by decide,Tryz.func215.trans (congrArg some (by kernel_rfl))⟩
  f47:=Tryz.func216.trans (congrArg some (by kernel_rfl))
  f48:=Tryz.func217.trans (congrArg some (by kernel_rfl))
  f49:=⟨Tryz.f218.name,by decide,Tryz.func218.trans (congrArg some (by kernel_rfl))⟩
  f50:=⟨Tryz.f219.name,by decide,Tryz.func219.trans (congrArg some (by kernel_rfl))⟩
  f57:=⟨Tryz.f220.name,by decide,Tryz.func220.trans (congrArg some (by kernel_rfl))⟩
  t0:=Tryz.underlying0
  a0:=Tryz.isAgg0
  z0:=Tryz.sizeOf0
  v0:=Tryz.zeroValue0
  t3:=Tryz.underlying3
  a3:=Tryz.isAgg3
  z3:=Tryz.sizeOf3
  v3:=Tryz.zeroValue3
  t4:=Tryz.underlying4
  a4:=Tryz.isAgg4
  z4:=Tryz.sizeOf4
  v4:=Tryz.zeroValue4
  t5:=Tryz.underlying5
  a5:=Tryz.isAgg5
  z5:=Tryz.sizeOf5
  v5:=Tryz.zeroValue5
  t9:=Tryz.underlying9
  a9:=Tryz.isAgg9
  z9:=Tryz.sizeOf9
  v9:=Tryz.zeroValue9
  t22:=Tryz.underlying128
  a22:=Tryz.isAgg128
  z22:=Tryz.sizeOf128
  v22:=Tryz.zeroValue128
  t25:=Tryz.underlying240
  a25:=Tryz.isAgg240
  z25:=Tryz.sizeOf240
  v25:=Tryz.zeroValue240
  t39:=Tryz.underlying232
  a39:=Tryz.isAgg232
  z39:=Tryz.sizeOf232
  v39:=Tryz.zeroValue232
  t45:=Tryz.underlying243
  a45:=Tryz.isAgg243
  z45:=Tryz.sizeOf243
  v45:=Tryz.zeroValue243
  t46:=Tryz.underlying244
  a46:=Tryz.isAgg244
  z46:=Tryz.sizeOf244
  v46:=Tryz.zeroValue244
  t50:=Tryz.underlying248
  a50:=Tryz.isAgg248
  z50:=Tryz.sizeOf248
  v50:=Tryz.zeroValue248
  t53:=Tryz.underlying236
  a53:=Tryz.isAgg236
  z53:=Tryz.sizeOf236
  v53:=Tryz.zeroValue236
  t55:=Tryz.underlying238
  a55:=Tryz.isAgg238
  z55:=Tryz.sizeOf238
  v55:=Tryz.zeroValue238
  t66:=Tryz.underlying250
  a66:=Tryz.isAgg250
  z66:=Tryz.sizeOf250
  v66:=Tryz.zeroValue250
  t70:=Tryz.underlying254
  a70:=Tryz.isAgg254
  z70:=Tryz.sizeOf254
  v70:=Tryz.zeroValue254
  t76:=Tryz.underlying256
  a76:=Tryz.isAgg256
  z76:=Tryz.sizeOf256
  v76:=Tryz.zeroValue256
  t77:=Tryz.underlying257
  a77:=Tryz.isAgg257
  z77:=Tryz.sizeOf257
  v77:=Tryz.zeroValue257 }
end Go.Proofs
namespace Go.Proofs.YtmlinnkaccgcgaaGreat.OM
open Go.ChangeShapes Go.RowKit
section
variable {P : Program} {H : Type} {enc : TypeId × Value → H} {W : World}
theorem HasT.int_inv {t : TypeId} {k : IntKind} {ds : List D} (hu : P.underlying t = some (.int k)) (h : HasT P t ds) : ∃ n,ds = [.int k n] ∧ (Lit.int k n).wf = true:=by
 cases h with
 | int h1 h2 => rw [hu] at h1; cases h1; exact ⟨_,rfl,h2⟩
 | bool h1 => rw [hu] at h1; cases h1
 | str h1 => rw [hu] at h1; cases h1
 | sl h1 => rw [hu] at h1; cases h1
 | struct h1 => rw [hu] at h1; cases h1
theorem HasT.bool_inv {t : TypeId} {ds : List D} (hu : P.underlying t = some .bool) (h : HasT P t ds) : ∃ b,ds = [.bool b]:=by
 cases h with
 | int h1 => rw [hu] at h1; cases h1
 | bool h1 => exact ⟨_,rfl⟩
 | str h1 => rw [hu] at h1; cases h1
 | sl h1 => rw [hu] at h1; cases h1
 | struct h1 => rw [hu] at h1; cases h1
theorem HasT.str_inv {t : TypeId} {ds : List D} (hu : P.underlying t = some .string) (h : HasT P t ds) : ∃ s,ds = [.str s] ∧ s.size ≤ maxLen:=by
 cases h with
 | int h1 => rw [hu] at h1; cases h1
 | bool h1 => rw [hu] at h1; cases h1
 | str h1 h2 => exact ⟨_,rfl,h2⟩
 | sl h1 => rw [hu] at h1; cases h1
 | struct h1 => rw [hu] at h1; cases h1
theorem HasT.sl_inv {t e : TypeId} {ds : List D} (hu : P.underlying t = some (.slice e)) (h : HasT P t ds) : ∃ es,ds = [.sl (P.cellsOf e) es] ∧ es.length ≤ maxLen ∧ ∀ x ∈ es,HasT P e x:=by
 cases h with
 | int h1 => rw [hu] at h1; cases h1
 | bool h1 => rw [hu] at h1; cases h1
 | str h1 => rw [hu] at h1; cases h1
 | sl h1 h2 h3 => rw [hu] at h1; cases h1; exact ⟨_,rfl,h2,h3⟩
 | struct h1 => rw [hu] at h1; cases h1
theorem HasT.struct_inv {t : TypeId} {fs : Array Field} {ds : List D} (hu : P.underlying t = some (.struct fs)) (h : HasT P t ds) :
  ds.length = P.cellsOf t ∧ ∀ f ∈ fs.toList,HasT P f.type ((ds.drop f.offset).take (P.cellsOf f.type)):=by
 cases h with
 | int h1 => rw [hu] at h1; cases h1
 | bool h1 => rw [hu] at h1; cases h1
 | str h1 => rw [hu] at h1; cases h1
 | sl h1 => rw [hu] at h1; cases h1
 | struct h1 h2 h3 => rw [hu] at h1; cases h1; exact ⟨h2,h3⟩
theorem ArgT.int {t : TypeId} {k : IntKind} {x : V} (hu : P.underlying t = some (.int k)) (h : ArgT P t x) : ∃ n,x = .one (.ro false (.int k n)) ∧ (Lit.int k n).wf = true:=by
 obtain ⟨ds,h1,h2⟩:=h
 obtain ⟨n,rfl,h3⟩:=h1.int_inv hu
 rw [hu] at h2
 obtain ⟨d,e,rfl⟩:=h2
 cases e
 exact ⟨n,rfl,h3⟩
theorem ArgT.bool {t : TypeId} {x : V} (hu : P.underlying t = some .bool) (h : ArgT P t x) : ∃ b,x = .one (.ro false (.bool b)):=by
 obtain ⟨ds,h1,h2⟩:=h
 obtain ⟨n,rfl⟩:=h1.bool_inv hu
 rw [hu] at h2
 obtain ⟨d,e,rfl⟩:=h2
 cases e
 exact ⟨n,rfl⟩
theorem ArgT.str {t : TypeId} {x : V} (hu : P.underlying t = some .string) (h : ArgT P t x) : ∃ s,x = .one (.ro false (.str s)) ∧ s.size ≤ maxLen:=by
 obtain ⟨ds,h1,h2⟩:=h
 obtain ⟨n,rfl,h3⟩:=h1.str_inv hu
 rw [hu] at h2
 obtain ⟨d,e,rfl⟩:=h2
 cases e
 exact ⟨n,rfl,h3⟩
theorem ArgT.sl {t e : TypeId} {x : V} (hu : P.underlying t = some (.slice e)) (h : ArgT P t x) : ∃ es,x = .one (.ro false (.sl (P.cellsOf e) es)) ∧ es.length ≤ maxLen ∧ ∀ y ∈ es,HasT P e y:=by
 obtain ⟨ds,h1,h2⟩:=h
 obtain ⟨es,rfl,h3⟩:=h1.sl_inv hu
 rw [hu] at h2
 obtain ⟨d,e,rfl⟩:=h2
 cases e
 exact ⟨es,rfl,h3⟩
theorem ArgT.struct {t : TypeId} {fs : Array Field} {x : V} (hu : P.underlying t = some (.struct fs)) (h : ArgT P t x) : ∃ ds,x = .st (ds.map (.ro false)) ∧ HasT P t ds:=by
 obtain ⟨ds,h1,h2⟩:=h
 rw [hu] at h2
 exact ⟨ds,h2,h1⟩
def isStr (P : Program) (t : TypeId) : Bool:=match P.underlying t with
 | some (.struct _) => true
 | _ => false
theorem ArgT.struct' {t : TypeId} {x : V} (hu : isStr P t = true) (h : ArgT P t x) : ∃ ds,x = .st (ds.map (.ro false)) ∧ HasT P t ds:=by
 unfold isStr at hu
 split at hu
 ·rename_i fs hf; exact h.struct hf
 ·cases hu
theorem HasT.fields {t n : Nat} {ds : List D} {l : List (Nat × Nat × Nat)} (h : HasT P t ds) (hf : fieldsOf P t = some l) (hc : P.cellsOf t = n) :
  ds.length = n ∧ ∀ x ∈ l,HasT P x.1 ((ds.drop x.2.1).take x.2.2):=by
 unfold fieldsOf at hf
 split at hf
 ·rename_i fs hu
  simp at hf; subst hf
  obtain ⟨h1,h2⟩:=h.struct_inv hu
  refine ⟨h1.trans hc,fun x hx => ?_⟩
  obtain ⟨f,hf,rfl⟩:=List.mem_map.1 hx
  exact h2 f hf
 ·cases hf
theorem maxLen_eq : maxLen = 9223372036854775807:=rfl
theorem ArgsT.one {t : TypeId} {xs : List V} (h : ArgsT P [t] xs) : ∃ x,xs = [x] ∧ ArgT P t x:=by
 cases h with | cons h1 h2 => cases h2; exact ⟨_,rfl,h1⟩
theorem ArgsT.cons_inv {t : TypeId} {ts : List TypeId} {xs : List V} (h : ArgsT P (t :: ts) xs) : ∃ x xs',xs = x :: xs' ∧ ArgT P t x ∧ ArgsT P ts xs':=by
 cases h with | cons h1 h2 => exact ⟨_,_,rfl,h1,h2⟩
theorem ArgsT.nil_inv {xs : List V} (h : ArgsT P [] xs) : xs = []:=by cases h; rfl
def XDead.ok (x : XDead) : Prop:=(-9223372036854775808 ≤ x.Buf ∧ x.Buf ≤ 9223372036854775807) ∧ (-9223372036854775808 ≤ x.Gen ∧ x.Gen ≤ 9223372036854775807) ∧ (-9223372036854775808 ≤ x.At ∧ x.At ≤ 9223372036854775807)
def XDead.oks (l : List XDead) : Prop:=∀ y ∈ l,XDead.ok y
def XDir.ok (x : XDir) : Prop:=(-9223372036854775808 ≤ x.Ver ∧ x.Ver ≤ 9223372036854775807) ∧ x.L.length ≤ 9223372036854775807 ∧ XRef.oks x.L
def XDir.oks (l : List XDir) : Prop:=∀ y ∈ l,XDir.ok y
def XChunk.oks (l : List XChunk) : Prop:=∀ y ∈ l,XChunk.ok y
def XConf.ok (x : XConf) : Prop:=x.Cols.length ≤ 9223372036854775807 ∧ (∀ y ∈ x.Cols,(-9223372036854775808 ≤ y ∧ y ≤ 9223372036854775807)) ∧ (-9223372036854775808 ≤ x.Slots ∧ x.Slots ≤ 9223372036854775807) ∧ (-9223372036854775808 ≤ x.Bufs ∧ x.Bufs ≤ 9223372036854775807)
def XConf.oks (l : List XConf) : Prop:=∀ y ∈ l,XConf.ok y
def XQuery.oks (l : List XQuery) : Prop:=∀ y ∈ l,XQuery.ok y
def XResult.oks (l : List XResult) : Prop:=∀ y ∈ l,XResult.ok y
def XWorld.ok (x : XWorld) : Prop:=XConf.ok x.C ∧ (-9223372036854775808 ≤ x.Time ∧ x.Time ≤ 9223372036854775807) ∧ (-9223372036854775808 ≤ x.T ∧ x.T ≤ 9223372036854775807) ∧ (-9223372036854775808 ≤ x.E ∧ x.E ≤ 9223372036854775807) ∧ XDir.ok x.Dd ∧ x.B.length ≤ 9223372036854775807 ∧ XBuf.oks x.B ∧ x.M.length ≤ 9223372036854775807 ∧ (∀ y ∈ x.M,(-9223372036854775808 ≤ y ∧ y ≤ 9223372036854775807)) ∧ x.X.length ≤ 9223372036854775807 ∧ XDead.oks x.X ∧ x.P.length ≤ 9223372036854775807 ∧ (∀ y ∈ x.P,(-9223372036854775808 ≤ y ∧ y ≤ 9223372036854775807)) ∧ x.Tasks.length ≤ 9223372036854775807 ∧ XTask.oks x.Tasks ∧ x.Deeds.length ≤ 9223372036854775807 ∧ XDeed.oks x.Deeds
def XWorld.oks (l : List XWorld) : Prop:=∀ y ∈ l,XWorld.ok y
end
end Go.Proofs.YtmlinnkaccgcgaaGreat.OM
namespace Go.Proofs.YtmlinnkaccgcgaaGreat.fnExactSkips
open Go.ChangeShapes Go.WideShapes Go.ChangeAt Go.RowKit Go.Proofs.YtmlinnkaccgcgaaGreat.OM
set_option maxRecDepth 100000
set_option maxHeartbeats 4000000

theorem chk_0 : ((((tab.filter fun p => p.1 != 595)).drop 0).take 51).all (fun p => chkF Tryz.prog kap (kap p.1) p.2) = true:=by kernel_rfl
theorem chk_1 : ((((tab.filter fun p => p.1 != 595)).drop 51).take 51).all (fun p => chkF Tryz.prog kap (kap p.1) p.2) = true:=by kernel_rfl
theorem chk_2 : ((((tab.filter fun p => p.1 != 595)).drop 102).take 51).all (fun p => chkF Tryz.prog kap (kap p.1) p.2) = true:=by kernel_rfl
theorem chk_3 : ((((tab.filter fun p => p.1 != 595)).drop 153).take 51).all (fun p => chkF Tryz.prog kap (kap p.1) p.2) = true:=by kernel_rfl
theorem chk_cut (l : List (Nat × PF)) (f : Nat × PF → Bool) (h0 : ((l.drop 0).take 51).all f = true) (h1 : ((l.drop 51).take 51).all f = true) (h2 : ((l.drop 102).take 51).all f = true) (h3 : ((l.drop 153).take 51).all f = true) (hl : l.length ≤ 204) : l.all f = true:=by
  refine List.all_eq_true.2 fun x hx => ?_
  obtain ⟨i,hi⟩:=List.mem_iff_getElem?.1 hx
  have hlt:=(List.getElem?_eq_some_iff.1 hi).1
  have part : ∀ k,k ≤ i → i < k + 51 → ((l.drop k).take 51).all f = true → f x = true:=fun k a b h => List.all_eq_true.1 h x (List.mem_iff_getElem?.2 ⟨i - k,by rw [List.getElem?_take,if_pos (by omega),List.getElem?_drop,show k + (i - k) = i by omega]; exact hi⟩)
  by_cases a : i < 51
  · exact part 0 (by omega) (by omega) h0
  by_cases b : i < 102
  · exact part 51 (by omega) (by omega) h1
  by_cases c : i < 153
  · exact part 102 (by omega) (by omega) h2
  exact part 153 (by omega) (by omega) h3
theorem chk_all : ((tab.filter fun p => p.1 != 595)).all (fun p => chkF Tryz.prog kap (kap p.1) p.2) = true:=chk_cut _ _ chk_0 chk_1 chk_2 chk_3 (by decide +kernel)
theorem sort_at : TT 595 = some pf595:=by kernel_rfl
theorem sort_body : bodyOk Tryz.prog (kap 595) = true:=by kernel_rfl
theorem seat_ok (f : Nat) (xs : List V) (r : V) (us : List (Nat × Nat × C)) (h : Gw TT f xs = some (r,us)) : OK Tryz.prog (kap f) xs r us:=by
  refine Gw_okX rfl (by kernel_rfl) (fun f F hF => ?_) f xs r us h
  by_cases e : f = 595
  · subst e
    rw [sort_at,Option.some.injEq] at hF
    subst hF
    exact .inr ⟨sort_body,fun Γ fuel xs r us hG h => sort_ok Tryz.sortVal rfl Tryz.isAgg59 Tryz.sizeOf59 hG h⟩
  · exact .inl (List.all_eq_true.1 chk_all (f,F) (List.mem_filter.2 ⟨lookup_mem hF,by simpa using e⟩))

theorem has_int_3 {ds : List D} (h : HasT Tryz.prog 3 ds) : ∃ n : Int,ds = ei n ∧ (-9223372036854775808 ≤ n ∧ n ≤ 9223372036854775807):=by
  obtain ⟨n,rfl,w⟩:=h.int_inv (by kernel_rfl : Tryz.prog.underlying 3 = some (.int .i64))
  exact ⟨n,rfl,wf_i64 w⟩

theorem has_24 {ds : List D} (h : HasT Tryz.prog 24 ds) : ∃ x : XConf,ds = x.e ∧ x.ok:=by
  obtain ⟨hl,hf⟩:=h.fields (by kernel_rfl : fieldsOf Tryz.prog 24 = some [(22,0,1),(3,1,1),(3,2,1)]) (by kernel_rfl : Tryz.prog.cellsOf 24 = 3)
  match ds,hl with
  | [d0,d1,d2],_ =>
    obtain ⟨es0,e0,m0,q0⟩:=(hf (22,0,1) (by simp)).sl_inv (by kernel_rfl : Tryz.prog.underlying 22 = some (.slice 3))
    rw [show Tryz.prog.cellsOf 3 = 1 from by kernel_rfl] at e0
    simp at e0
    subst e0
    obtain ⟨v0,rfl,l0,k0⟩:=list_dec (fun y hy => has_int_3 (q0 y hy))
    obtain ⟨v1,e1,w1⟩:=(hf (3,1,1) (by simp)).int_inv (by kernel_rfl : Tryz.prog.underlying 3 = some (.int .i64))
    simp at e1
    subst e1
    obtain ⟨v2,e2,w2⟩:=(hf (3,2,1) (by simp)).int_inv (by kernel_rfl : Tryz.prog.underlying 3 = some (.int .i64))
    simp at e2
    subst e2
    exact ⟨⟨v0,v1,v2⟩,by simp,by simp only [XConf.ok]; exact ⟨Nat.le_trans (Nat.le_of_eq l0) m0,k0,wf_i64 w1,wf_i64 w2⟩⟩

theorem has_35 {ds : List D} (h : HasT Tryz.prog 35 ds) : ∃ x : XRef,ds = x.e ∧ x.ok:=by
  obtain ⟨hl,hf⟩:=h.fields (by kernel_rfl : fieldsOf Tryz.prog 35 = some [(3,0,1),(3,1,1),(3,2,1),(3,3,1),(3,4,1)]) (by kernel_rfl : Tryz.prog.cellsOf 35 = 5)
  match ds,hl with
  | [d0,d1,d2,d3,d4],_ =>
    obtain ⟨v0,e0,w0⟩:=(hf (3,0,1) (by simp)).int_inv (by kernel_rfl : Tryz.prog.underlying 3 = some (.int .i64))
    simp at e0
    subst e0
    obtain ⟨v1,e1,w1⟩:=(hf (3,1,1) (by simp)).int_inv (by kernel_rfl : Tryz.prog.underlying 3 = some (.int .i64))
    simp at e1
    subst e1
    obtain ⟨v2,e2,w2⟩:=(hf (3,2,1) (by simp)).int_inv (by kernel_rfl : Tryz.prog.underlying 3 = some (.int .i64))
    simp at e2
    subst e2
    obtain ⟨v3,e3,w3⟩:=(hf (3,3,1) (by simp)).int_inv (by kernel_rfl : Tryz.prog.underlying 3 = some (.int .i64))
    simp at e3
    subst e3
    obtain ⟨v4,e4,w4⟩:=(hf (3,4,1) (by simp)).int_inv (by kernel_rfl : Tryz.prog.underlying 3 = some (.int .i64))
    simp at e4
    subst e4
    exact ⟨⟨v0,v1,v2,v3,v4⟩,by simp,by simp only [XRef.ok]; exact ⟨wf_i64 w0,wf_i64 w1,wf_i64 w2,wf_i64 w3,wf_i64 w4⟩⟩

theorem has_27 {ds : List D} (h : HasT Tryz.prog 27 ds) : ∃ x : XDir,ds = x.e ∧ x.ok:=by
  obtain ⟨hl,hf⟩:=h.fields (by kernel_rfl : fieldsOf Tryz.prog 27 = some [(3,0,1),(25,1,1)]) (by kernel_rfl : Tryz.prog.cellsOf 27 = 2)
  match ds,hl with
  | [d0,d1],_ =>
    obtain ⟨v0,e0,w0⟩:=(hf (3,0,1) (by simp)).int_inv (by kernel_rfl : Tryz.prog.underlying 3 = some (.int .i64))
    simp at e0
    subst e0
    obtain ⟨es1,e1,m1,q1⟩:=(hf (25,1,1) (by simp)).sl_inv (by kernel_rfl : Tryz.prog.underlying 25 = some (.slice 35))
    rw [show Tryz.prog.cellsOf 35 = 5 from by kernel_rfl] at e1
    simp at e1
    subst e1
    obtain ⟨v1,rfl,l1,k1⟩:=list_dec (fun y hy => has_35 (q1 y hy))
    exact ⟨⟨v0,v1⟩,by simp,by simp only [XDir.ok]; exact ⟨wf_i64 w0,Nat.le_trans (Nat.le_of_eq l1) m1,k1⟩⟩

theorem has_37 {ds : List D} (h : HasT Tryz.prog 37 ds) : ∃ x : XVal,ds = x.e ∧ x.ok:=by
  obtain ⟨hl,hf⟩:=h.fields (by kernel_rfl : fieldsOf Tryz.prog 37 = some [(3,0,1),(3,1,1),(9,2,1)]) (by kernel_rfl : Tryz.prog.cellsOf 37 = 3)
  match ds,hl with
  | [d0,d1,d2],_ =>
    obtain ⟨v0,e0,w0⟩:=(hf (3,0,1) (by simp)).int_inv (by kernel_rfl : Tryz.prog.underlying 3 = some (.int .i64))
    simp at e0
    subst e0
    obtain ⟨v1,e1,w1⟩:=(hf (3,1,1) (by simp)).int_inv (by kernel_rfl : Tryz.prog.underlying 3 = some (.int .i64))
    simp at e1
    subst e1
    obtain ⟨v2,e2,w2⟩:=(hf (9,2,1) (by simp)).str_inv (by kernel_rfl : Tryz.prog.underlying 9 = some .string)
    simp at e2
    subst e2
    exact ⟨⟨v0,v1,v2⟩,by simp,by simp only [XVal.ok]; exact ⟨wf_i64 w0,wf_i64 w1,w2⟩⟩

theorem has_202 {ds : List D} (h : HasT Tryz.prog 202 ds) : ∃ x : XSlot,ds = x.e ∧ x.ok:=by
  obtain ⟨hl,hf⟩:=h.fields (by kernel_rfl : fieldsOf Tryz.prog 202 = some [(3,0,1),(108,1,1)]) (by kernel_rfl : Tryz.prog.cellsOf 202 = 2)
  match ds,hl with
  | [d0,d1],_ =>
    obtain ⟨v0,e0,w0⟩:=(hf (3,0,1) (by simp)).int_inv (by kernel_rfl : Tryz.prog.underlying 3 = some (.int .i64))
    simp at e0
    subst e0
    obtain ⟨es1,e1,m1,q1⟩:=(hf (108,1,1) (by simp)).sl_inv (by kernel_rfl : Tryz.prog.underlying 108 = some (.slice 37))
    rw [show Tryz.prog.cellsOf 37 = 3 from by kernel_rfl] at e1
    simp at e1
    subst e1
    obtain ⟨v1,rfl,l1,k1⟩:=list_dec (fun y hy => has_37 (q1 y hy))
    exact ⟨⟨v0,v1⟩,by simp,by simp only [XSlot.ok]; exact ⟨wf_i64 w0,Nat.le_trans (Nat.le_of_eq l1) m1,k1⟩⟩

theorem has_103 {ds : List D} (h : HasT Tryz.prog 103 ds) : ∃ x : XChunk,ds = x.e ∧ x.ok:=by
  obtain ⟨hl,hf⟩:=h.fields (by kernel_rfl : fieldsOf Tryz.prog 103 = some [(3,0,1),(101,1,1)]) (by kernel_rfl : Tryz.prog.cellsOf 103 = 2)
  match ds,hl with
  | [d0,d1],_ =>
    obtain ⟨v0,e0,w0⟩:=(hf (3,0,1) (by simp)).int_inv (by kernel_rfl : Tryz.prog.underlying 3 = some (.int .i64))
    simp at e0
    subst e0
    obtain ⟨es1,e1,m1,q1⟩:=(hf (101,1,1) (by simp)).sl_inv (by kernel_rfl : Tryz.prog.underlying 101 = some (.slice 202))
    rw [show Tryz.prog.cellsOf 202 = 2 from by kernel_rfl] at e1
    simp at e1
    subst e1
    obtain ⟨v1,rfl,l1,k1⟩:=list_dec (fun y hy => has_202 (q1 y hy))
    exact ⟨⟨v0,v1⟩,by simp,by simp only [XChunk.ok]; exact ⟨wf_i64 w0,Nat.le_trans (Nat.le_of_eq l1) m1,k1⟩⟩

theorem has_int_5 {ds : List D} (h : HasT Tryz.prog 5 ds) : ∃ n : Int,ds = eb n ∧ (0 ≤ n ∧ n ≤ 255):=by
  obtain ⟨n,rfl,w⟩:=h.int_inv (by kernel_rfl : Tryz.prog.underlying 5 = some (.int .u8))
  exact ⟨n,rfl,wf_u8 w⟩

theorem has_106 {ds : List D} (h : HasT Tryz.prog 106 ds) : ∃ x : XBuf,ds = x.e ∧ x.ok:=by
  obtain ⟨hl,hf⟩:=h.fields (by kernel_rfl : fieldsOf Tryz.prog 106 = some [(3,0,1),(3,1,1),(103,2,2),(104,4,1)]) (by kernel_rfl : Tryz.prog.cellsOf 106 = 5)
  match ds,hl with
  | [d0,d1,d2,d3,d4],_ =>
    obtain ⟨v0,e0,w0⟩:=(hf (3,0,1) (by simp)).int_inv (by kernel_rfl : Tryz.prog.underlying 3 = some (.int .i64))
    simp at e0
    subst e0
    obtain ⟨v1,e1,w1⟩:=(hf (3,1,1) (by simp)).int_inv (by kernel_rfl : Tryz.prog.underlying 3 = some (.int .i64))
    simp at e1
    subst e1
    obtain ⟨y2,e2,k2⟩:=has_103 (hf (103,2,2) (by simp))
    obtain ⟨z2_Next,z2_L⟩:=y2
    simp at e2
    obtain ⟨rfl,rfl⟩:=e2
    obtain ⟨es3,e3,m3,q3⟩:=(hf (104,4,1) (by simp)).sl_inv (by kernel_rfl : Tryz.prog.underlying 104 = some (.slice 5))
    rw [show Tryz.prog.cellsOf 5 = 1 from by kernel_rfl] at e3
    simp at e3
    subst e3
    obtain ⟨v3,rfl,l3,k3⟩:=list_dec (fun y hy => has_int_5 (q3 y hy))
    exact ⟨⟨v0,v1,⟨z2_Next,z2_L⟩,v3⟩,by simp,by simp only [XBuf.ok]; exact ⟨wf_i64 w0,wf_i64 w1,k2,Nat.le_trans (Nat.le_of_eq l3) m3,k3⟩⟩

theorem has_140 {ds : List D} (h : HasT Tryz.prog 140 ds) : ∃ x : XDead,ds = x.e ∧ x.ok:=by
  obtain ⟨hl,hf⟩:=h.fields (by kernel_rfl : fieldsOf Tryz.prog 140 = some [(3,0,1),(3,1,1),(3,2,1)]) (by kernel_rfl : Tryz.prog.cellsOf 140 = 3)
  match ds,hl with
  | [d0,d1,d2],_ =>
    obtain ⟨v0,e0,w0⟩:=(hf (3,0,1) (by simp)).int_inv (by kernel_rfl : Tryz.prog.underlying 3 = some (.int .i64))
    simp at e0
    subst e0
    obtain ⟨v1,e1,w1⟩:=(hf (3,1,1) (by simp)).int_inv (by kernel_rfl : Tryz.prog.underlying 3 = some (.int .i64))
    simp at e1
    subst e1
    obtain ⟨v2,e2,w2⟩:=(hf (3,2,1) (by simp)).int_inv (by kernel_rfl : Tryz.prog.underlying 3 = some (.int .i64))
    simp at e2
    subst e2
    exact ⟨⟨v0,v1,v2⟩,by simp,by simp only [XDead.ok]; exact ⟨wf_i64 w0,wf_i64 w1,wf_i64 w2⟩⟩

theorem has_40n : ∀ (n : Nat) (ds : List D),SizeOf.sizeOf ds < n → HasT Tryz.prog 40 ds → ∃ x : XPred,ds = x.e ∧ x.ok:=by
  intro n
  induction n with
  | zero => intro ds h; omega
  | succ n ih =>
  intro ds hsz h
  obtain ⟨hl,hf⟩:=h.fields (by kernel_rfl : fieldsOf Tryz.prog 40 = some [(3,0,1),(3,1,1),(3,2,1),(37,3,3),(38,6,1)]) (by kernel_rfl : Tryz.prog.cellsOf 40 = 7)
  match ds,hl with
  | [d0,d1,d2,d3,d4,d5,d6],_ =>
    obtain ⟨v0,e0,w0⟩:=(hf (3,0,1) (by simp)).int_inv (by kernel_rfl : Tryz.prog.underlying 3 = some (.int .i64))
    simp at e0
    subst e0
    obtain ⟨v1,e1,w1⟩:=(hf (3,1,1) (by simp)).int_inv (by kernel_rfl : Tryz.prog.underlying 3 = some (.int .i64))
    simp at e1
    subst e1
    obtain ⟨v2,e2,w2⟩:=(hf (3,2,1) (by simp)).int_inv (by kernel_rfl : Tryz.prog.underlying 3 = some (.int .i64))
    simp at e2
    subst e2
    obtain ⟨y3,e3,k3⟩:=has_37 (hf (37,3,3) (by simp))
    obtain ⟨z3_Ty,z3_N,z3_S⟩:=y3
    simp at e3
    obtain ⟨rfl,rfl,rfl⟩:=e3
    obtain ⟨es4,e4,m4,q4⟩:=(hf (38,6,1) (by simp)).sl_inv (by kernel_rfl : Tryz.prog.underlying 38 = some (.slice 40))
    rw [show Tryz.prog.cellsOf 40 = 7 from by kernel_rfl] at e4
    simp at e4
    subst e4
    obtain ⟨v4,rfl,l4,k4⟩:=list_dec (fun y hy => ih y (by have h1:=List.sizeOf_lt_of_mem hy; simp at hsz; omega) (q4 y hy))
    exact ⟨⟨v0,v1,v2,⟨z3_Ty,z3_N,z3_S⟩,v4⟩,by simp,by simp only [XPred.ok_eq]; exact ⟨wf_i64 w0,wf_i64 w1,wf_i64 w2,k3,Nat.le_trans (Nat.le_of_eq l4) m4,(by rw [XPred.oks_eq]; exact k4)⟩⟩

theorem has_40 {ds : List D} (h : HasT Tryz.prog 40 ds) : ∃ x : XPred,ds = x.e ∧ x.ok:=has_40n _ ds (Nat.lt_succ_self _) h

theorem has_42 {ds : List D} (h : HasT Tryz.prog 42 ds) : ∃ x : XQuery,ds = x.e ∧ x.ok:=by
  obtain ⟨hl,hf⟩:=h.fields (by kernel_rfl : fieldsOf Tryz.prog 42 = some [(3,0,1),(40,1,7),(3,8,1),(22,9,1)]) (by kernel_rfl : Tryz.prog.cellsOf 42 = 10)
  match ds,hl with
  | [d0,d1,d2,d3,d4,d5,d6,d7,d8,d9],_ =>
    obtain ⟨v0,e0,w0⟩:=(hf (3,0,1) (by simp)).int_inv (by kernel_rfl : Tryz.prog.underlying 3 = some (.int .i64))
    simp at e0
    subst e0
    obtain ⟨y1,e1,k1⟩:=has_40 (hf (40,1,7) (by simp))
    obtain ⟨z1_Kind,z1_Col,z1_Op,⟨z1_V_Ty,z1_V_N,z1_V_S⟩,z1_L⟩:=y1
    simp at e1
    obtain ⟨rfl,rfl,rfl,rfl,rfl,rfl,rfl⟩:=e1
    obtain ⟨v2,e2,w2⟩:=(hf (3,8,1) (by simp)).int_inv (by kernel_rfl : Tryz.prog.underlying 3 = some (.int .i64))
    simp at e2
    subst e2
    obtain ⟨es3,e3,m3,q3⟩:=(hf (22,9,1) (by simp)).sl_inv (by kernel_rfl : Tryz.prog.underlying 22 = some (.slice 3))
    rw [show Tryz.prog.cellsOf 3 = 1 from by kernel_rfl] at e3
    simp at e3
    subst e3
    obtain ⟨v3,rfl,l3,k3⟩:=list_dec (fun y hy => has_int_3 (q3 y hy))
    exact ⟨⟨v0,⟨z1_Kind,z1_Col,z1_Op,⟨z1_V_Ty,z1_V_N,z1_V_S⟩,z1_L⟩,v2,v3⟩,by simp,by simp only [XQuery.ok]; exact ⟨wf_i64 w0,k1,wf_i64 w2,Nat.le_trans (Nat.le_of_eq l3) m3,k3⟩⟩

theorem has_188 {ds : List D} (h : HasT Tryz.prog 188 ds) : ∃ x : XRow,ds = x.e ∧ x.ok:=by
  obtain ⟨hl,hf⟩:=h.fields (by kernel_rfl : fieldsOf Tryz.prog 188 = some [(3,0,1),(108,1,1)]) (by kernel_rfl : Tryz.prog.cellsOf 188 = 2)
  match ds,hl with
  | [d0,d1],_ =>
    obtain ⟨v0,e0,w0⟩:=(hf (3,0,1) (by simp)).int_inv (by kernel_rfl : Tryz.prog.underlying 3 = some (.int .i64))
    simp at e0
    subst e0
    obtain ⟨es1,e1,m1,q1⟩:=(hf (108,1,1) (by simp)).sl_inv (by kernel_rfl : Tryz.prog.underlying 108 = some (.slice 37))
    rw [show Tryz.prog.cellsOf 37 = 3 from by kernel_rfl] at e1
    simp at e1
    subst e1
    obtain ⟨v1,rfl,l1,k1⟩:=list_dec (fun y hy => has_37 (q1 y hy))
    exact ⟨⟨v0,v1⟩,by simp,by simp only [XRow.ok]; exact ⟨wf_i64 w0,Nat.le_trans (Nat.le_of_eq l1) m1,k1⟩⟩

theorem has_111 {ds : List D} (h : HasT Tryz.prog 111 ds) : ∃ x : XTask,ds = x.e ∧ x.ok:=by
  obtain ⟨hl,hf⟩:=h.fields (by kernel_rfl : fieldsOf Tryz.prog 111 = some [(3,0,1),(3,1,1),(3,2,1),(108,3,1),(3,4,1),(42,5,10),(3,15,1),(3,16,1),(25,17,1),(3,18,1),(3,19,1),(3,20,1),(3,21,1),(3,22,1),(4,23,1),(109,24,1)]) (by kernel_rfl : Tryz.prog.cellsOf 111 = 25)
  match ds,hl with
  | [d0,d1,d2,d3,d4,d5,d6,d7,d8,d9,d10,d11,d12,d13,d14,d15,d16,d17,d18,d19,d20,d21,d22,d23,d24],_ =>
    obtain ⟨v0,e0,w0⟩:=(hf (3,0,1) (by simp)).int_inv (by kernel_rfl : Tryz.prog.underlying 3 = some (.int .i64))
    simp at e0
    subst e0
    obtain ⟨v1,e1,w1⟩:=(hf (3,1,1) (by simp)).int_inv (by kernel_rfl : Tryz.prog.underlying 3 = some (.int .i64))
    simp at e1
    subst e1
    obtain ⟨v2,e2,w2⟩:=(hf (3,2,1) (by simp)).int_inv (by kernel_rfl : Tryz.prog.underlying 3 = some (.int .i64))
    simp at e2
    subst e2
    obtain ⟨es3,e3,m3,q3⟩:=(hf (108,3,1) (by simp)).sl_inv (by kernel_rfl : Tryz.prog.underlying 108 = some (.slice 37))
    rw [show Tryz.prog.cellsOf 37 = 3 from by kernel_rfl] at e3
    simp at e3
    subst e3
    obtain ⟨v3,rfl,l3,k3⟩:=list_dec (fun y hy => has_37 (q3 y hy))
    obtain ⟨v4,e4,w4⟩:=(hf (3,4,1) (by simp)).int_inv (by kernel_rfl : Tryz.prog.underlying 3 = some (.int .i64))
    simp at e4
    subst e4
    obtain ⟨y5,e5,k5⟩:=has_42 (hf (42,5,10) (by simp))
    obtain ⟨z5_Kind,⟨z5_P_Kind,z5_P_Col,z5_P_Op,⟨z5_P_V_Ty,z5_P_V_N,z5_P_V_S⟩,z5_P_L⟩,z5_Col,z5_Out⟩:=y5
    simp at e5
    obtain ⟨rfl,rfl,rfl,rfl,rfl,rfl,rfl,rfl,rfl,rfl⟩:=e5
    obtain ⟨v6,e6,w6⟩:=(hf (3,15,1) (by simp)).int_inv (by kernel_rfl : Tryz.prog.underlying 3 = some (.int .i64))
    simp at e6
    subst e6
    obtain ⟨v7,e7,w7⟩:=(hf (3,16,1) (by simp)).int_inv (by kernel_rfl : Tryz.prog.underlying 3 = some (.int .i64))
    simp at e7
    subst e7
    obtain ⟨es8,e8,m8,q8⟩:=(hf (25,17,1) (by simp)).sl_inv (by kernel_rfl : Tryz.prog.underlying 25 = some (.slice 35))
    rw [show Tryz.prog.cellsOf 35 = 5 from by kernel_rfl] at e8
    simp at e8
    subst e8
    obtain ⟨v8,rfl,l8,k8⟩:=list_dec (fun y hy => has_35 (q8 y hy))
    obtain ⟨v9,e9,w9⟩:=(hf (3,18,1) (by simp)).int_inv (by kernel_rfl : Tryz.prog.underlying 3 = some (.int .i64))
    simp at e9
    subst e9
    obtain ⟨v10,e10,w10⟩:=(hf (3,19,1) (by simp)).int_inv (by kernel_rfl : Tryz.prog.underlying 3 = some (.int .i64))
    simp at e10
    subst e10
    obtain ⟨v11,e11,w11⟩:=(hf (3,20,1) (by simp)).int_inv (by kernel_rfl : Tryz.prog.underlying 3 = some (.int .i64))
    simp at e11
    subst e11
    obtain ⟨v12,e12,w12⟩:=(hf (3,21,1) (by simp)).int_inv (by kernel_rfl : Tryz.prog.underlying 3 = some (.int .i64))
    simp at e12
    subst e12
    obtain ⟨v13,e13,w13⟩:=(hf (3,22,1) (by simp)).int_inv (by kernel_rfl : Tryz.prog.underlying 3 = some (.int .i64))
    simp at e13
    subst e13
    obtain ⟨v14,e14⟩:=(hf (4,23,1) (by simp)).bool_inv (by kernel_rfl : Tryz.prog.underlying 4 = some .bool)
    simp at e14
    subst e14
    obtain ⟨es15,e15,m15,q15⟩:=(hf (109,24,1) (by simp)).sl_inv (by kernel_rfl : Tryz.prog.underlying 109 = some (.slice 188))
    rw [show Tryz.prog.cellsOf 188 = 2 from by kernel_rfl] at e15
    simp at e15
    subst e15
    obtain ⟨v15,rfl,l15,k15⟩:=list_dec (fun y hy => has_188 (q15 y hy))
    exact ⟨⟨v0,v1,v2,v3,v4,⟨z5_Kind,⟨z5_P_Kind,z5_P_Col,z5_P_Op,⟨z5_P_V_Ty,z5_P_V_N,z5_P_V_S⟩,z5_P_L⟩,z5_Col,z5_Out⟩,v6,v7,v8,v9,v10,v11,v12,v13,v14,v15⟩,by simp,by simp only [XTask.ok]; exact ⟨wf_i64 w0,wf_i64 w1,wf_i64 w2,Nat.le_trans (Nat.le_of_eq l3) m3,k3,wf_i64 w4,k5,wf_i64 w6,wf_i64 w7,Nat.le_trans (Nat.le_of_eq l8) m8,k8,wf_i64 w9,wf_i64 w10,wf_i64 w11,wf_i64 w12,wf_i64 w13,Nat.le_trans (Nat.le_of_eq l15) m15,k15⟩⟩

theorem has_114 {ds : List D} (h : HasT Tryz.prog 114 ds) : ∃ x : XResult,ds = x.e ∧ x.ok:=by
  obtain ⟨hl,hf⟩:=h.fields (by kernel_rfl : fieldsOf Tryz.prog 114 = some [(109,0,1),(3,1,1),(4,2,1),(37,3,3)]) (by kernel_rfl : Tryz.prog.cellsOf 114 = 6)
  match ds,hl with
  | [d0,d1,d2,d3,d4,d5],_ =>
    obtain ⟨es0,e0,m0,q0⟩:=(hf (109,0,1) (by simp)).sl_inv (by kernel_rfl : Tryz.prog.underlying 109 = some (.slice 188))
    rw [show Tryz.prog.cellsOf 188 = 2 from by kernel_rfl] at e0
    simp at e0
    subst e0
    obtain ⟨v0,rfl,l0,k0⟩:=list_dec (fun y hy => has_188 (q0 y hy))
    obtain ⟨v1,e1,w1⟩:=(hf (3,1,1) (by simp)).int_inv (by kernel_rfl : Tryz.prog.underlying 3 = some (.int .i64))
    simp at e1
    subst e1
    obtain ⟨v2,e2⟩:=(hf (4,2,1) (by simp)).bool_inv (by kernel_rfl : Tryz.prog.underlying 4 = some .bool)
    simp at e2
    subst e2
    obtain ⟨y3,e3,k3⟩:=has_37 (hf (37,3,3) (by simp))
    obtain ⟨z3_Ty,z3_N,z3_S⟩:=y3
    simp at e3
    obtain ⟨rfl,rfl,rfl⟩:=e3
    exact ⟨⟨v0,v1,v2,⟨z3_Ty,z3_N,z3_S⟩⟩,by simp,by simp only [XResult.ok]; exact ⟨Nat.le_trans (Nat.le_of_eq l0) m0,k0,wf_i64 w1,k3⟩⟩

theorem has_116 {ds : List D} (h : HasT Tryz.prog 116 ds) : ∃ x : XDeed,ds = x.e ∧ x.ok:=by
  obtain ⟨hl,hf⟩:=h.fields (by kernel_rfl : fieldsOf Tryz.prog 116 = some [(3,0,1),(3,1,1),(108,2,1),(3,3,1),(42,4,10),(114,14,6),(3,20,1),(3,21,1),(3,22,1),(3,23,1),(3,24,1)]) (by kernel_rfl : Tryz.prog.cellsOf 116 = 25)
  match ds,hl with
  | [d0,d1,d2,d3,d4,d5,d6,d7,d8,d9,d10,d11,d12,d13,d14,d15,d16,d17,d18,d19,d20,d21,d22,d23,d24],_ =>
    obtain ⟨v0,e0,w0⟩:=(hf (3,0,1) (by simp)).int_inv (by kernel_rfl : Tryz.prog.underlying 3 = some (.int .i64))
    simp at e0
    subst e0
    obtain ⟨v1,e1,w1⟩:=(hf (3,1,1) (by simp)).int_inv (by kernel_rfl : Tryz.prog.underlying 3 = some (.int .i64))
    simp at e1
    subst e1
    obtain ⟨es2,e2,m2,q2⟩:=(hf (108,2,1) (by simp)).sl_inv (by kernel_rfl : Tryz.prog.underlying 108 = some (.slice 37))
    rw [show Tryz.prog.cellsOf 37 = 3 from by kernel_rfl] at e2
    simp at e2
    subst e2
    obtain ⟨v2,rfl,l2,k2⟩:=list_dec (fun y hy => has_37 (q2 y hy))
    obtain ⟨v3,e3,w3⟩:=(hf (3,3,1) (by simp)).int_inv (by kernel_rfl : Tryz.prog.underlying 3 = some (.int .i64))
    simp at e3
    subst e3
    obtain ⟨y4,e4,k4⟩:=has_42 (hf (42,4,10) (by simp))
    obtain ⟨z4_Kind,⟨z4_P_Kind,z4_P_Col,z4_P_Op,⟨z4_P_V_Ty,z4_P_V_N,z4_P_V_S⟩,z4_P_L⟩,z4_Col,z4_Out⟩:=y4
    simp at e4
    obtain ⟨rfl,rfl,rfl,rfl,rfl,rfl,rfl,rfl,rfl,rfl⟩:=e4
    obtain ⟨y5,e5,k5⟩:=has_114 (hf (114,14,6) (by simp))
    obtain ⟨z5_Rows,z5_N,z5_Has,⟨z5_V_Ty,z5_V_N,z5_V_S⟩⟩:=y5
    simp at e5
    obtain ⟨rfl,rfl,rfl,rfl,rfl,rfl⟩:=e5
    obtain ⟨v6,e6,w6⟩:=(hf (3,20,1) (by simp)).int_inv (by kernel_rfl : Tryz.prog.underlying 3 = some (.int .i64))
    simp at e6
    subst e6
    obtain ⟨v7,e7,w7⟩:=(hf (3,21,1) (by simp)).int_inv (by kernel_rfl : Tryz.prog.underlying 3 = some (.int .i64))
    simp at e7
    subst e7
    obtain ⟨v8,e8,w8⟩:=(hf (3,22,1) (by simp)).int_inv (by kernel_rfl : Tryz.prog.underlying 3 = some (.int .i64))
    simp at e8
    subst e8
    obtain ⟨v9,e9,w9⟩:=(hf (3,23,1) (by simp)).int_inv (by kernel_rfl : Tryz.prog.underlying 3 = some (.int .i64))
    simp at e9
    subst e9
    obtain ⟨v10,e10,w10⟩:=(hf (3,24,1) (by simp)).int_inv (by kernel_rfl : Tryz.prog.underlying 3 = some (.int .i64))
    simp at e10
    subst e10
    exact ⟨⟨v0,v1,v2,v3,⟨z4_Kind,⟨z4_P_Kind,z4_P_Col,z4_P_Op,⟨z4_P_V_Ty,z4_P_V_N,z4_P_V_S⟩,z4_P_L⟩,z4_Col,z4_Out⟩,⟨z5_Rows,z5_N,z5_Has,⟨z5_V_Ty,z5_V_N,z5_V_S⟩⟩,v6,v7,v8,v9,v10⟩,by simp,by simp only [XDeed.ok]; exact ⟨wf_i64 w0,wf_i64 w1,Nat.le_trans (Nat.le_of_eq l2) m2,k2,wf_i64 w3,k4,k5,wf_i64 w6,wf_i64 w7,wf_i64 w8,wf_i64 w9,wf_i64 w10⟩⟩

theorem has_33 {ds : List D} (h : HasT Tryz.prog 33 ds) : ∃ x : XWorld,ds = x.e ∧ x.ok:=by
  obtain ⟨hl,hf⟩:=h.fields (by kernel_rfl : fieldsOf Tryz.prog 33 = some [(24,0,3),(3,3,1),(3,4,1),(3,5,1),(27,6,2),(28,8,1),(22,9,1),(29,10,1),(22,11,1),(30,12,1),(31,13,1)]) (by kernel_rfl : Tryz.prog.cellsOf 33 = 14)
  match ds,hl with
  | [d0,d1,d2,d3,d4,d5,d6,d7,d8,d9,d10,d11,d12,d13],_ =>
    obtain ⟨y0,e0,k0⟩:=has_24 (hf (24,0,3) (by simp))
    obtain ⟨z0_Cols,z0_Slots,z0_Bufs⟩:=y0
    simp at e0
    obtain ⟨rfl,rfl,rfl⟩:=e0
    obtain ⟨v1,e1,w1⟩:=(hf (3,3,1) (by simp)).int_inv (by kernel_rfl : Tryz.prog.underlying 3 = some (.int .i64))
    simp at e1
    subst e1
    obtain ⟨v2,e2,w2⟩:=(hf (3,4,1) (by simp)).int_inv (by kernel_rfl : Tryz.prog.underlying 3 = some (.int .i64))
    simp at e2
    subst e2
    obtain ⟨v3,e3,w3⟩:=(hf (3,5,1) (by simp)).int_inv (by kernel_rfl : Tryz.prog.underlying 3 = some (.int .i64))
    simp at e3
    subst e3
    obtain ⟨y4,e4,k4⟩:=has_27 (hf (27,6,2) (by simp))
    obtain ⟨z4_Ver,z4_L⟩:=y4
    simp at e4
    obtain ⟨rfl,rfl⟩:=e4
    obtain ⟨es5,e5,m5,q5⟩:=(hf (28,8,1) (by simp)).sl_inv (by kernel_rfl : Tryz.prog.underlying 28 = some (.slice 106))
    rw [show Tryz.prog.cellsOf 106 = 5 from by kernel_rfl] at e5
    simp at e5
    subst e5
    obtain ⟨v5,rfl,l5,k5⟩:=list_dec (fun y hy => has_106 (q5 y hy))
    obtain ⟨es6,e6,m6,q6⟩:=(hf (22,9,1) (by simp)).sl_inv (by kernel_rfl : Tryz.prog.underlying 22 = some (.slice 3))
    rw [show Tryz.prog.cellsOf 3 = 1 from by kernel_rfl] at e6
    simp at e6
    subst e6
    obtain ⟨v6,rfl,l6,k6⟩:=list_dec (fun y hy => has_int_3 (q6 y hy))
    obtain ⟨es7,e7,m7,q7⟩:=(hf (29,10,1) (by simp)).sl_inv (by kernel_rfl : Tryz.prog.underlying 29 = some (.slice 140))
    rw [show Tryz.prog.cellsOf 140 = 3 from by kernel_rfl] at e7
    simp at e7
    subst e7
    obtain ⟨v7,rfl,l7,k7⟩:=list_dec (fun y hy => has_140 (q7 y hy))
    obtain ⟨es8,e8,m8,q8⟩:=(hf (22,11,1) (by simp)).sl_inv (by kernel_rfl : Tryz.prog.underlying 22 = some (.slice 3))
    rw [show Tryz.prog.cellsOf 3 = 1 from by kernel_rfl] at e8
    simp at e8
    subst e8
    obtain ⟨v8,rfl,l8,k8⟩:=list_dec (fun y hy => has_int_3 (q8 y hy))
    obtain ⟨es9,e9,m9,q9⟩:=(hf (30,12,1) (by simp)).sl_inv (by kernel_rfl : Tryz.prog.underlying 30 = some (.slice 111))
    rw [show Tryz.prog.cellsOf 111 = 25 from by kernel_rfl] at e9
    simp at e9
    subst e9
    obtain ⟨v9,rfl,l9,k9⟩:=list_dec (fun y hy => has_111 (q9 y hy))
    obtain ⟨es10,e10,m10,q10⟩:=(hf (31,13,1) (by simp)).sl_inv (by kernel_rfl : Tryz.prog.underlying 31 = some (.slice 116))
    rw [show Tryz.prog.cellsOf 116 = 25 from by kernel_rfl] at e10
    simp at e10
    subst e10
    obtain ⟨v10,rfl,l10,k10⟩:=list_dec (fun y hy => has_116 (q10 y hy))
    exact ⟨⟨⟨z0_Cols,z0_Slots,z0_Bufs⟩,v1,v2,v3,⟨z4_Ver,z4_L⟩,v5,v6,v7,v8,v9,v10⟩,by simp,by simp only [XWorld.ok]; exact ⟨k0,wf_i64 w1,wf_i64 w2,wf_i64 w3,k4,Nat.le_trans (Nat.le_of_eq l5) m5,k5,Nat.le_trans (Nat.le_of_eq l6) m6,k6,Nat.le_trans (Nat.le_of_eq l7) m7,k7,Nat.le_trans (Nat.le_of_eq l8) m8,k8,Nat.le_trans (Nat.le_of_eq l9) m9,k9,Nat.le_trans (Nat.le_of_eq l10) m10,k10⟩⟩

theorem own : ownKnob Tryz.prog.godebug = none:=by kernel_rfl

theorem says (xs : List V) (h : ArgsT Tryz.prog Tryz.f3.params.toList xs) : OK Tryz.prog 3 xs (.one (.ro false (.bool true))) []:=by
  rw [show Tryz.f3.params.toList = [33,35,42] from by kernel_rfl] at h
  obtain ⟨x0,xs,rfl,h0,h⟩:=h.cons_inv
  obtain ⟨x1,xs,rfl,h1,h⟩:=h.cons_inv
  obtain ⟨x2,xs,rfl,h2,h⟩:=h.cons_inv
  obtain rfl:=h.nil_inv
  obtain ⟨ds0,rfl,g0⟩:=h0.struct' (by kernel_rfl)
  obtain ⟨y0,rfl,k0⟩:=has_33 g0
  obtain ⟨⟨aW_C_Cols,aW_C_Slots,aW_C_Bufs⟩,aW_Time,aW_T,aW_E,⟨aW_Dd_Ver,aW_Dd_L⟩,aW_B,aW_M,aW_X,aW_P,aW_Tasks,aW_Deeds⟩:=y0
  simp only [XWorld.ok,XConf.ok,XDir.ok,and_assoc] at k0
  obtain ⟨hok_aW_C_Cols,hoki_aW_C_Cols,hlo_aW_C_Slots,hhi_aW_C_Slots,hlo_aW_C_Bufs,hhi_aW_C_Bufs,hlo_aW_Time,hhi_aW_Time,hlo_aW_T,hhi_aW_T,hlo_aW_E,hhi_aW_E,hlo_aW_Dd_Ver,hhi_aW_Dd_Ver,hok_aW_Dd_L,hoks_aW_Dd_L,hok_aW_B,hoks_aW_B,hok_aW_M,hoki_aW_M,hok_aW_X,hoks_aW_X,hok_aW_P,hoki_aW_P,hok_aW_Tasks,hoks_aW_Tasks,hok_aW_Deeds,hoks_aW_Deeds⟩:=k0
  obtain ⟨ds1,rfl,g1⟩:=h1.struct' (by kernel_rfl)
  obtain ⟨y1,rfl,k1⟩:=has_35 g1
  obtain ⟨aR_Buf,aR_Gen,aR_Kind,aR_First,aR_Many⟩:=y1
  simp only [XRef.ok,and_assoc] at k1
  obtain ⟨hlo_aR_Buf,hhi_aR_Buf,hlo_aR_Gen,hhi_aR_Gen,hlo_aR_Kind,hhi_aR_Kind,hlo_aR_First,hhi_aR_First,hlo_aR_Many,hhi_aR_Many⟩:=k1
  obtain ⟨ds2,rfl,g2⟩:=h2.struct' (by kernel_rfl)
  obtain ⟨y2,rfl,k2⟩:=has_42 g2
  obtain ⟨aQ_Kind,⟨aQ_P_Kind,aQ_P_Col,aQ_P_Op,⟨aQ_P_V_Ty,aQ_P_V_N,aQ_P_V_S⟩,aQ_P_L⟩,aQ_Col,aQ_Out⟩:=y2
  simp only [XQuery.ok,XPred.ok_eq,XVal.ok,and_assoc] at k2
  obtain ⟨hlo_aQ_Kind,hhi_aQ_Kind,hlo_aQ_P_Kind,hhi_aQ_P_Kind,hlo_aQ_P_Col,hhi_aQ_P_Col,hlo_aQ_P_Op,hhi_aQ_P_Op,hlo_aQ_P_V_Ty,hhi_aQ_P_V_Ty,hlo_aQ_P_V_N,hhi_aQ_P_V_N,hok_aQ_P_V_S,hok_aQ_P_L,hoks_aQ_P_L,hlo_aQ_Col,hhi_aQ_Col,hok_aQ_Out,hoki_aQ_Out⟩:=k2
  exact seat_ok 412 _ _ _ (t412 aW_C_Cols aW_C_Slots aW_C_Bufs aW_Time aW_T aW_E aW_Dd_Ver aW_Dd_L aW_B aW_M aW_X aW_P aW_Tasks aW_Deeds aR_Buf aR_Gen aR_Kind aR_First aR_Many aQ_Kind aQ_P_Kind aQ_P_Col aQ_P_Op aQ_P_V_Ty aQ_P_V_N aQ_P_V_S aQ_P_L aQ_Col aQ_Out hok_aW_C_Cols hok_aW_Dd_L hok_aW_B hoks_aW_B hok_aW_M hok_aW_X hok_aW_P hok_aW_Tasks hoks_aW_Tasks hok_aW_Deeds hoks_aW_Deeds hok_aQ_P_V_S hok_aQ_P_L hoks_aQ_P_L hok_aQ_Out (fun b hb => (hoks_aW_B b hb).2.2.2.2))

theorem lifted (os : Os) (started : os.Started) (H : Type) (enc : TypeId × Value → H) :
    ReturnsInHanded {} Tryz.checked os 3 .any (Rows.fnExactSkipsSpec.pre6 enc Tryz.prog Tryz.f3 Rows.fnExactSkipsRow.domain false) (Rows.fnExactSkipsSpec.post enc Tryz.prog Tryz.f3 false true false false):=by
  refine returnsInHanded_of_change (C:=Tryz.checked) own started (by kernel_rfl) Tryz.func3
    (ChangeSpec.witness6 (enc:=enc) (C:=Tryz.checked) false ⟨#[],#[.agg #[.slice none 0 0,.int .i64 0,.int .i64 0,.int .i64 0,.int .i64 0,.int .i64 0,.int .i64 0,.slice none 0 0,.slice none 0 0,.slice none 0 0,.slice none 0 0,.slice none 0 0,.slice none 0 0,.slice none 0 0],.agg #[.int .i64 0,.int .i64 0,.int .i64 0,.int .i64 0,.int .i64 0],.agg #[.int .i64 0,.int .i64 0,.int .i64 0,.int .i64 0,.int .i64 0,.int .i64 0,.string ⟨#[]⟩,.slice none 0 0,.int .i64 0,.slice none 0 0]],[]⟩ 8 (by kernel_rfl) (by kernel_rfl) (by kernel_rfl) (by kernel_rfl)) ?_
  intro W base args ds gs before hval0 hW hcnd _
  refine law_contract (S:=[33,24,22,3,27,25,35,28,106,103,101,202,108,37,9,104,5,29,140,30,111,42,40,38,4,109,188,31,116,114]) (tb:=4) (by kernel_rfl) (by kernel_rfl) (by kernel_rfl) says (fun j t v h1 h2 => ⟨_,_,hval0 j t v h1 h2⟩) hW rfl (by kernel_rfl) (by kernel_rfl) (fun hl => ?_)
  match ds,hl with
  | [d0,d1,d2],_ => exact ⟨rfl,rfl,rfl⟩

theorem jf0 : laidOutB Tryz.prog = true:=by kernel_rfl
theorem jf1 : mapsRowed Tryz.prog = true:=by kernel_rfl
theorem jf2 : (Tryz.prog.stops == []) = true:=by kernel_rfl
theorem jf3 : (Tryz.prog.stopKnobs == []) = true:=by kernel_rfl
theorem jf4 : (Rows.fnExactSkipsRow.inPlace == Tryz.prog.inPlace 3) = true:=by kernel_rfl
theorem jf5 : (Rows.fnExactSkipsRow.unfollowed == Tryz.prog.unfollowed 3) = true:=by kernel_rfl
theorem jf6 : (Rows.fnExactSkipsRow.recurses == Tryz.prog.recurses 3) = true:=by kernel_rfl
theorem jf7 : (Rows.fnExactSkipsRow.named == Tryz.prog.varsNamed 3) = true:=by kernel_rfl
theorem jf8 : (Rows.fnExactSkipsRow.plainKeys == Tryz.prog.plainKeys) = true:=by kernel_rfl
theorem jf9 : Tryz.prog.stopsHeard = true:=by kernel_rfl
theorem jf10 : Tryz.prog.mayEnter = true:=by kernel_rfl
theorem jf11 : (Rows.fnExactSkipsRow.lifted == Tryz.prog.liftsFinal) = true:=by kernel_rfl
theorem jf12 : (Tryz.prog.make == some Rows.fnExactSkipsRow.make) = true:=by kernel_rfl
theorem jfn : Tryz.pinned.checked.prog.funcNamed Rows.fnExactSkipsRow.func = some 3:=by kernel_rfl
theorem jfall : joinedFacts Tryz.prog 3 Tryz.f3 Rows.fnExactSkipsSpec Rows.fnExactSkipsRow = true:=by
  unfold joinedFacts
  simp only [jf0,jf1,jf2,jf3,jf4,jf5,jf6,jf7,jf8,jf9,jf10,jf11,jf12,Bool.true_and,Bool.and_true]
  kernel_rfl

theorem over : Rows.fnExactSkipsRow.holds Tryz.pinned (OpenSpec.ofChange Rows.fnExactSkipsSpec) :=
  OpenClaim.holds_of_wide 3 Tryz.f3 rfl rfl rfl rfl rfl rfl rfl ⟨rfl,rfl,rfl,rfl,rfl⟩ rfl rfl rfl rfl rfl (jfn) Tryz.func3 (jfall)
    (of_decide_eq_true (by kernel_rfl)) (by unfold Func.isWrapper; first | (rw [if_pos (by decide +kernel)]; kernel_rfl) | (rw [if_neg (by decide +kernel)]; exact ⟨rfl,rfl⟩))
    (fun os started H enc _ => lifted os started H enc)

theorem proved : Rows.FnExactSkipsSaid:=over
#print axioms proved
end Go.Proofs.YtmlinnkaccgcgaaGreat.fnExactSkips
