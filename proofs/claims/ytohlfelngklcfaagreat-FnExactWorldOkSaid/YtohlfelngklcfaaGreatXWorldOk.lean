/- The law FnExactWorldOk returns true for every input, and each argument reads behind the call as it read before. No condition. -/
import Derived.Test.YtohlfelngklcfaaGreatXWSo
import Derived.Shelf.SlSortCmp.NoneTotal
import Derived.Test.YtohlfelngklcfaaGreatG3
import Derived.Test.YtohlfelngklcfaaGreatRows
import Derived.KernelRfl
import Derived.WalkKit
import Derived.ProofKit
import Derived.OpenShut
set_option linter.all false
namespace Go.Proofs
open Go.Shelf
def Tryz.alz:Go.Shelf.Ren:=⟨fun|6=>369|15=>347|14=>376|28=>367|29=>368|20=>379|21=>380|22=>381|23=>382|24=>383|25=>384|26=>385|27=>386|46=>387|47=>388|48=>389|49=>390|50=>391|57=>392|n=>n,fun|22=>92|24=>94|25=>331|3=>3|39=>252|0=>0|53=>327|55=>329|4=>4|46=>336|45=>335|50=>195|5=>5|9=>9|66=>341|70=>345|76=>347|77=>348|n=>n,fun|n=>n⟩
theorem Tryz.aly:Go.Proofs.SlLaysF0.n6 Tryz.prog Tryz.alz:={
 mixed:=by kernel_rfl
 f6:=⟨Tryz.f369.name,by decide,Tryz.func369.trans (congrArg some (by kernel_rfl))⟩
 f14:=⟨Tryz.f376.name,by decide,Tryz.func376.trans (congrArg some (by kernel_rfl))⟩
 f15:=Tryz.func347.trans (congrArg some (by kernel_rfl))
 f20:=⟨Tryz.f379.name,by decide,Tryz.func379.trans (congrArg some (by kernel_rfl))⟩
 f21:=⟨Tryz.f380.name,by decide,Tryz.func380.trans (congrArg some (by kernel_rfl))⟩
 f22:=⟨Tryz.f381.name,by decide,Tryz.func381.trans (congrArg some (by kernel_rfl))⟩
 f23:=⟨Tryz.f382.name,by decide,Tryz.func382.trans (congrArg some (by kernel_rfl))⟩
 f24:=⟨Tryz.f383.name,by decide,Tryz.func383.trans (congrArg some (by kernel_rfl))⟩
 f25:=⟨Tryz.f384.name,by decide,Tryz.func384.trans (congrArg some (by kernel_rfl))⟩
 f26:=⟨Tryz.f385.name,by decide,Tryz.func385.trans (congrArg some (by kernel_rfl))⟩
 f27:=⟨Tryz.f386.name,by decide,Tryz.func386.trans (congrArg some (by kernel_rfl))⟩
 f28:=Tryz.func367.trans (congrArg some (by kernel_rfl))
 f29:=Tryz.func368.trans (congrArg some (by kernel_rfl))
 f46:=⟨Tryz.f387.name,by decide,Tryz.func387.trans (congrArg some (by kernel_rfl))⟩
 f47:=Tryz.func388.trans (congrArg some (by kernel_rfl))
 f48:=Tryz.func389.trans (congrArg some (by kernel_rfl))
 f49:=⟨Tryz.f390.name,by decide,Tryz.func390.trans (congrArg some (by kernel_rfl))⟩
 f50:=⟨Tryz.f391.name,by decide,Tryz.func391.trans (congrArg some (by kernel_rfl))⟩
 f57:=⟨Tryz.f392.name,by decide,Tryz.func392.trans (congrArg some (by kernel_rfl))⟩
 t0:=Tryz.underlying0
 a0:=Tryz.isAgg0
 z0:=Tryz.sizeOf0
 v0:=Tryz.zeroValue0
 t3:=Tryz.underlying3
 a3:=Tryz.isAgg3
 z3:=Tryz.sizeOf3
 v3:=Tryz.zeroValue3
 t4:=Tryz.underlying4
 a4:=Tryz.isAgg4
 z4:=Tryz.sizeOf4
 v4:=Tryz.zeroValue4
 t5:=Tryz.underlying5
 a5:=Tryz.isAgg5
 z5:=Tryz.sizeOf5
 v5:=Tryz.zeroValue5
 t9:=Tryz.underlying9
 a9:=Tryz.isAgg9
 z9:=Tryz.sizeOf9
 v9:=Tryz.zeroValue9
 t22:=Tryz.underlying92
 a22:=Tryz.isAgg92
 z22:=Tryz.sizeOf92
 v22:=Tryz.zeroValue92
 t25:=Tryz.underlying331
 a25:=Tryz.isAgg331
 z25:=Tryz.sizeOf331
 v25:=Tryz.zeroValue331
 t39:=Tryz.underlying252
 a39:=Tryz.isAgg252
 z39:=Tryz.sizeOf252
 v39:=Tryz.zeroValue252
 t45:=Tryz.underlying335
 a45:=Tryz.isAgg335
 z45:=Tryz.sizeOf335
 v45:=Tryz.zeroValue335
 t46:=Tryz.underlying336
 a46:=Tryz.isAgg336
 z46:=Tryz.sizeOf336
 v46:=Tryz.zeroValue336
 t50:=Tryz.underlying195
 a50:=Tryz.isAgg195
 z50:=Tryz.sizeOf195
 v50:=Tryz.zeroValue195
 t53:=Tryz.underlying327
 a53:=Tryz.isAgg327
 z53:=Tryz.sizeOf327
 v53:=Tryz.zeroValue327
 t55:=Tryz.underlying329
 a55:=Tryz.isAgg329
 z55:=Tryz.sizeOf329
 v55:=Tryz.zeroValue329
 t66:=Tryz.underlying341
 a66:=Tryz.isAgg341
 z66:=Tryz.sizeOf341
 v66:=Tryz.zeroValue341
 t70:=Tryz.underlying345
 a70:=Tryz.isAgg345
 z70:=Tryz.sizeOf345
 v70:=Tryz.zeroValue345
 t76:=Tryz.underlying347
 a76:=Tryz.isAgg347
 z76:=Tryz.sizeOf347
 v76:=Tryz.zeroValue347
 t77:=Tryz.underlying348
 a77:=Tryz.isAgg348
 z77:=Tryz.sizeOf348
 v77:=Tryz.zeroValue348 }
end Go.Proofs
namespace Go.Proofs.YtohlfelngklcfaaGreat.OM
open Go.ChangeShapes Go.RowKit
section
variable {P:Program} {H:Type} {enc:TypeId×Value→H} {W:World}
theorem ep.et {t:TypeId} {k:IntKind} {ds:List D} (hu:P.underlying t=some (.int k)) (h:ep P t ds):∃n,ds=[.int k n]∧(Lit.int k n).wf=true:=by
 cases h with
 |int h1 h2=>rw [hu] at h1;cases h1;exact ⟨_,rfl,h2⟩
 |bool h1=>rw [hu] at h1;cases h1
 |str h1=>rw [hu] at h1;cases h1
 |sl h1=>rw [hu] at h1;cases h1
 |struct h1=>rw [hu] at h1;cases h1
theorem ep.Jm {t:TypeId} {ds:List D} (hu:P.underlying t=some .bool) (h:ep P t ds):∃b,ds=[.bool b]:=by
 cases h with
 |int h1=>rw [hu] at h1;cases h1
 |bool h1=>exact ⟨_,rfl⟩
 |str h1=>rw [hu] at h1;cases h1
 |sl h1=>rw [hu] at h1;cases h1
 |struct h1=>rw [hu] at h1;cases h1
theorem ep.acX {t:TypeId} {ds:List D} (hu:P.underlying t=some .string) (h:ep P t ds):∃s,ds=[.str s]∧s.size≤maxLen:=by
 cases h with
 |int h1=>rw [hu] at h1;cases h1
 |bool h1=>rw [hu] at h1;cases h1
 |str h1 h2=>exact ⟨_,rfl,h2⟩
 |sl h1=>rw [hu] at h1;cases h1
 |struct h1=>rw [hu] at h1;cases h1
theorem ep.mz {t e:TypeId} {ds:List D} (hu:P.underlying t=some (.slice e)) (h:ep P t ds):∃es,ds=[.sl (P.cellsOf e) es]∧es.length≤maxLen∧∀x∈es,ep P e x:=by
 cases h with
 |int h1=>rw [hu] at h1;cases h1
 |bool h1=>rw [hu] at h1;cases h1
 |str h1=>rw [hu] at h1;cases h1
 |sl h1 h2 h3=>rw [hu] at h1;cases h1;exact ⟨_,rfl,h2,h3⟩
 |struct h1=>rw [hu] at h1;cases h1
theorem ep.alV {t:TypeId} {fs:Array Field} {ds:List D} (hu:P.underlying t=some (.struct fs)) (h:ep P t ds):
 ds.length=P.cellsOf t∧∀f∈fs.toList,ep P f.type ((ds.drop f.offset).take (P.cellsOf f.type)):=by
 cases h with
 |int h1=>rw [hu] at h1;cases h1
 |bool h1=>rw [hu] at h1;cases h1
 |str h1=>rw [hu] at h1;cases h1
 |sl h1=>rw [hu] at h1;cases h1
 |struct h1 h2 h3=>rw [hu] at h1;cases h1;exact ⟨h2,h3⟩
theorem nK.int {t:TypeId} {k:IntKind} {x:V} (hu:P.underlying t=some (.int k)) (h:nK P t x):∃n,x=.one (.ro false (.int k n))∧(Lit.int k n).wf=true:=by
 obtain ⟨ds,h1,h2⟩:=h;obtain ⟨n,rfl,h3⟩:=h1.et hu;rw [hu] at h2;obtain ⟨d,e,rfl⟩:=h2;cases e;exact ⟨n,rfl,h3⟩
theorem nK.bool {t:TypeId} {x:V} (hu:P.underlying t=some .bool) (h:nK P t x):∃b,x=.one (.ro false (.bool b)):=by
 obtain ⟨ds,h1,h2⟩:=h;obtain ⟨n,rfl⟩:=h1.Jm hu;rw [hu] at h2;obtain ⟨d,e,rfl⟩:=h2;cases e;exact ⟨n,rfl⟩
theorem nK.str {t:TypeId} {x:V} (hu:P.underlying t=some .string) (h:nK P t x):∃s,x=.one (.ro false (.str s))∧s.size≤maxLen:=by
 obtain ⟨ds,h1,h2⟩:=h;obtain ⟨n,rfl,h3⟩:=h1.acX hu;rw [hu] at h2;obtain ⟨d,e,rfl⟩:=h2;cases e;exact ⟨n,rfl,h3⟩
theorem nK.sl {t e:TypeId} {x:V} (hu:P.underlying t=some (.slice e)) (h:nK P t x):∃es,x=.one (.ro false (.sl (P.cellsOf e) es))∧es.length≤maxLen∧∀y∈es,ep P e y:=by
 obtain ⟨ds,h1,h2⟩:=h;obtain ⟨es,rfl,h3⟩:=h1.mz hu;rw [hu] at h2;obtain ⟨d,e,rfl⟩:=h2;cases e;exact ⟨es,rfl,h3⟩
theorem nK.struct {t:TypeId} {fs:Array Field} {x:V} (hu:P.underlying t=some (.struct fs)) (h:nK P t x):∃ds,x=.st (ds.map (.ro false))∧ep P t ds:=by
 obtain ⟨ds,h1,h2⟩:=h;rw [hu] at h2;exact ⟨ds,h2,h1⟩
def isStr (P:Program) (t:TypeId):Bool:=match P.underlying t with
 |some (.struct _)=>true
 |_=>false
theorem nK.alU {t:TypeId} {x:V} (hu:isStr P t=true) (h:nK P t x):∃ds,x=.st (ds.map (.ro false))∧ep P t ds:=by
 unfold isStr at hu;split at hu
 ·rename_i fs hf;exact h.struct hf
 ·cases hu
theorem ep.fields {t n:Nat} {ds:List D} {l:List (Nat×Nat×Nat)} (h:ep P t ds) (hf:fieldsOf P t=some l) (hc:P.cellsOf t=n):
 ds.length=n∧∀x∈l,ep P x.1 ((ds.drop x.2.1).take x.2.2):=by
 unfold fieldsOf at hf;split at hf
 ·rename_i fs hu;simp at hf;subst hf;obtain ⟨h1,h2⟩:=h.alV hu;refine ⟨h1.trans hc,fun x hx=>?_⟩;obtain ⟨f,hf,rfl⟩:=List.mem_map.1 hx;exact h2 f hf
 ·cases hf
theorem aqZ:maxLen=9223372036854775807:=rfl
theorem qM.one {t:TypeId} {xs:List V} (h:qM P [t] xs):∃x,xs=[x]∧nK P t x:=by
 cases h with|cons h1 h2=>cases h2;exact ⟨_,rfl,h1⟩
theorem qM.cons_inv {t:TypeId} {ts:List TypeId} {xs:List V} (h:qM P (t::ts) xs):∃x va,xs=x::va∧nK P t x∧qM P ts va:=by
 cases h with|cons h1 h2=>exact ⟨_,_,rfl,h1,h2⟩
theorem qM.ajL {xs:List V} (h:qM P [] xs):xs=[]:=by cases h;rfl
def cD.ok (x:cD):Prop:=(-9223372036854775808≤x.dW∧x.dW≤9223372036854775807)∧(-9223372036854775808≤x.fW∧x.fW≤9223372036854775807)∧(-9223372036854775808≤x.At∧x.At≤9223372036854775807)
def cD.dx (l:List cD):Prop:=∀y∈l,cD.ok y
def rE.ok (x:rE):Prop:=(-9223372036854775808≤x.uC∧x.uC≤9223372036854775807)∧x.L.length≤9223372036854775807∧aL.dx x.L
def rE.dx (l:List rE):Prop:=∀y∈l,rE.ok y
def mC.dx (l:List mC):Prop:=∀y∈l,mC.ok y
def rD.ok (x:rD):Prop:=x.Bn.length≤9223372036854775807∧(∀y∈x.Bn,(-9223372036854775808≤y∧y≤9223372036854775807))∧(-9223372036854775808≤x.E5∧x.E5≤9223372036854775807)∧(-9223372036854775808≤x.E1∧x.E1≤9223372036854775807)
def rD.dx (l:List rD):Prop:=∀y∈l,rD.ok y
def ia.dx (l:List ia):Prop:=∀y∈l,ia.ok y
def mD.dx (l:List mD):Prop:=∀y∈l,mD.ok y
def uD.ok (x:uD):Prop:=rD.ok x.C∧(-9223372036854775808≤x.Time∧x.Time≤9223372036854775807)∧(-9223372036854775808≤x.T∧x.T≤9223372036854775807)∧(-9223372036854775808≤x.E∧x.E≤9223372036854775807)∧rE.ok x.Dd∧x.B.length≤9223372036854775807∧aU.dx x.B∧x.M.length≤9223372036854775807∧(∀y∈x.M,(-9223372036854775808≤y∧y≤9223372036854775807))∧x.X.length≤9223372036854775807∧cD.dx x.X∧x.P.length≤9223372036854775807∧(∀y∈x.P,(-9223372036854775808≤y∧y≤9223372036854775807))∧x.I6.length≤9223372036854775807∧bM.dx x.I6∧x.IU.length≤9223372036854775807∧ca.dx x.IU
def uD.dx (l:List uD):Prop:=∀y∈l,uD.ok y
end
end Go.Proofs.YtohlfelngklcfaaGreat.OM
namespace Go.Proofs.YtohlfelngklcfaaGreat.fnExactWorldOk
open Go.ChangeShapes Go.WideShapes Go.ChangeAt Go.RowKit Go.Proofs.YtohlfelngklcfaaGreat.OM
set_option maxRecDepth 100000
set_option maxHeartbeats 4000000
theorem ad5:((((tab.filter fun p=>p.1 !=595)).drop 0).take 65).all (fun p=>Bv Tryz.prog mh (mh p.1) p.2)=true:=by kernel_rfl
theorem aem:((((tab.filter fun p=>p.1 !=595)).drop 65).take 65).all (fun p=>Bv Tryz.prog mh (mh p.1) p.2)=true:=by kernel_rfl
theorem aen:((((tab.filter fun p=>p.1 !=595)).drop 130).take 65).all (fun p=>Bv Tryz.prog mh (mh p.1) p.2)=true:=by kernel_rfl
theorem aeA:((((tab.filter fun p=>p.1 !=595)).drop 195).take 65).all (fun p=>Bv Tryz.prog mh (mh p.1) p.2)=true:=by kernel_rfl
theorem aeC (l:List (Nat×PF)) (f:Nat×PF→Bool) (h0:((l.drop 0).take 65).all f=true) (h1:((l.drop 65).take 65).all f=true) (h2:((l.drop 130).take 65).all f=true) (h3:((l.drop 195).take 65).all f=true) (hl:l.length≤260):l.all f=true:=by
 refine List.all_eq_true.2 fun x hx=>?_
 obtain ⟨i,hi⟩:=List.mem_iff_getElem?.1 hx;have ai:=(List.getElem?_eq_some_iff.1 hi).1;have part:∀k,k≤i→i<k+65→((l.drop k).take 65).all f=true→f x=true:=fun k a b h=>List.all_eq_true.1 h x (List.mem_iff_getElem?.2 ⟨i-k,by rw [List.getElem?_take,if_pos (by omega),List.getElem?_drop,show k+(i-k)=i by omega];exact hi⟩)
 by_cases a:i<65
 ·exact part 0 (by omega) (by omega) h0
 by_cases b:i<130
 ·exact part 65 (by omega) (by omega) h1
 by_cases c:i<195
 ·exact part 130 (by omega) (by omega) h2
 exact part 195 (by omega) (by omega) h3
theorem ael:((tab.filter fun p=>p.1 !=595)).all (fun p=>Bv Tryz.prog mh (mh p.1) p.2)=true:=aeC _ _ ad5 aem aen aeA (by decide+kernel)
theorem alB:TT 595=some AQ:=by kernel_rfl
theorem alC:yg Tryz.prog (mh 595)=true:=by kernel_rfl
theorem alk (f:Nat) (xs:List V) (r:V) (us:List (Nat×Nat×C)) (h:Gw TT f xs=some (r,us)):OK Tryz.prog (mh f) xs r us:=by
 refine adK rfl (by kernel_rfl) (fun f F hF=>?_) f xs r us h;by_cases e:f=595
 ·subst e;rw [alB,Option.some.injEq] at hF;subst hF;exact .inr ⟨alC,fun Γ fuel xs r us hG h=>alE Tryz.aly rfl Tryz.isAgg94 Tryz.sizeOf94 hG h⟩
 ·exact .inl (List.all_eq_true.1 ael (f,F) (List.mem_filter.2 ⟨ajd hF,by simpa using e⟩))
theorem FL {ds:List D} (h:ep Tryz.prog 3 ds):∃n:Int,ds=ei n∧(-9223372036854775808≤n∧n≤9223372036854775807):=by
 obtain ⟨n,rfl,w⟩:=h.et (by kernel_rfl:Tryz.prog.underlying 3=some (.int .i64));exact ⟨n,rfl,wf_i64 w⟩
theorem af4 {ds:List D} (h:ep Tryz.prog 24 ds):∃x:rD,ds=x.e∧x.ok:=by
 obtain ⟨hl,hf⟩:=h.fields (by kernel_rfl:fieldsOf Tryz.prog 24=some [(22,0,1),(3,1,1),(3,2,1)]) (by kernel_rfl:Tryz.prog.cellsOf 24=3)
 match ds,hl with
 |[d0,d1,d2],_=>
  obtain ⟨rQ,e0,m0,q0⟩:=(hf (22,0,1) (by simp)).mz (by kernel_rfl:Tryz.prog.underlying 22=some (.slice 3));rw [show Tryz.prog.cellsOf 3=1 from by kernel_rfl] at e0;simp at e0;subst e0;obtain ⟨v0,rfl,l0,k0⟩:=mN (fun y hy=>FL (q0 y hy));obtain ⟨v1,e1,w1⟩:=(hf (3,1,1) (by simp)).et (by kernel_rfl:Tryz.prog.underlying 3=some (.int .i64));simp at e1;subst e1;obtain ⟨v2,e2,w2⟩:=(hf (3,2,1) (by simp)).et (by kernel_rfl:Tryz.prog.underlying 3=some (.int .i64));simp at e2;subst e2;exact ⟨⟨v0,v1,v2⟩,by simp,by simp only [rD.ok];exact ⟨Nat.le_trans (Nat.le_of_eq l0) m0,k0,wf_i64 w1,wf_i64 w2⟩⟩
theorem aaA {ds:List D} (h:ep Tryz.prog 233 ds):∃x:aL,ds=x.e∧x.ok:=by
 obtain ⟨hl,hf⟩:=h.fields (by kernel_rfl:fieldsOf Tryz.prog 233=some [(3,0,1),(3,1,1),(3,2,1),(3,3,1),(3,4,1)]) (by kernel_rfl:Tryz.prog.cellsOf 233=5)
 match ds,hl with
 |[d0,d1,d2,d3,d4],_=>
  obtain ⟨v0,e0,w0⟩:=(hf (3,0,1) (by simp)).et (by kernel_rfl:Tryz.prog.underlying 3=some (.int .i64));simp at e0;subst e0;obtain ⟨v1,e1,w1⟩:=(hf (3,1,1) (by simp)).et (by kernel_rfl:Tryz.prog.underlying 3=some (.int .i64));simp at e1;subst e1;obtain ⟨v2,e2,w2⟩:=(hf (3,2,1) (by simp)).et (by kernel_rfl:Tryz.prog.underlying 3=some (.int .i64));simp at e2;subst e2;obtain ⟨v3,e3,w3⟩:=(hf (3,3,1) (by simp)).et (by kernel_rfl:Tryz.prog.underlying 3=some (.int .i64));simp at e3;subst e3;obtain ⟨v4,e4,w4⟩:=(hf (3,4,1) (by simp)).et (by kernel_rfl:Tryz.prog.underlying 3=some (.int .i64));simp at e4;subst e4;exact ⟨⟨v0,v1,v2,v3,v4⟩,by simp,by simp only [aL.ok];exact ⟨wf_i64 w0,wf_i64 w1,wf_i64 w2,wf_i64 w3,wf_i64 w4⟩⟩
theorem af5 {ds:List D} (h:ep Tryz.prog 27 ds):∃x:rE,ds=x.e∧x.ok:=by
 obtain ⟨hl,hf⟩:=h.fields (by kernel_rfl:fieldsOf Tryz.prog 27=some [(3,0,1),(25,1,1)]) (by kernel_rfl:Tryz.prog.cellsOf 27=2)
 match ds,hl with
 |[d0,d1],_=>
  obtain ⟨v0,e0,w0⟩:=(hf (3,0,1) (by simp)).et (by kernel_rfl:Tryz.prog.underlying 3=some (.int .i64));simp at e0;subst e0;obtain ⟨CV,e1,m1,q1⟩:=(hf (25,1,1) (by simp)).mz (by kernel_rfl:Tryz.prog.underlying 25=some (.slice 233));rw [show Tryz.prog.cellsOf 233=5 from by kernel_rfl] at e1;simp at e1;subst e1;obtain ⟨v1,rfl,l1,k1⟩:=mN (fun y hy=>aaA (q1 y hy));exact ⟨⟨v0,v1⟩,by simp,by simp only [rE.ok];exact ⟨wf_i64 w0,Nat.le_trans (Nat.le_of_eq l1) m1,k1⟩⟩
theorem BC {ds:List D} (h:ep Tryz.prog 145 ds):∃x:ab,ds=x.e∧x.ok:=by
 obtain ⟨hl,hf⟩:=h.fields (by kernel_rfl:fieldsOf Tryz.prog 145=some [(3,0,1),(3,1,1),(9,2,1)]) (by kernel_rfl:Tryz.prog.cellsOf 145=3)
 match ds,hl with
 |[d0,d1,d2],_=>
  obtain ⟨v0,e0,w0⟩:=(hf (3,0,1) (by simp)).et (by kernel_rfl:Tryz.prog.underlying 3=some (.int .i64));simp at e0;subst e0;obtain ⟨v1,e1,w1⟩:=(hf (3,1,1) (by simp)).et (by kernel_rfl:Tryz.prog.underlying 3=some (.int .i64));simp at e1;subst e1;obtain ⟨v2,e2,w2⟩:=(hf (9,2,1) (by simp)).acX (by kernel_rfl:Tryz.prog.underlying 9=some .string);simp at e2;subst e2;exact ⟨⟨v0,v1,v2⟩,by simp,by simp only [ab.ok];exact ⟨wf_i64 w0,wf_i64 w1,w2⟩⟩
theorem af6 {ds:List D} (h:ep Tryz.prog 307 ds):∃x:bp,ds=x.e∧x.ok:=by
 obtain ⟨hl,hf⟩:=h.fields (by kernel_rfl:fieldsOf Tryz.prog 307=some [(3,0,1),(144,1,1)]) (by kernel_rfl:Tryz.prog.cellsOf 307=2)
 match ds,hl with
 |[d0,d1],_=>
  obtain ⟨v0,e0,w0⟩:=(hf (3,0,1) (by simp)).et (by kernel_rfl:Tryz.prog.underlying 3=some (.int .i64));simp at e0;subst e0;obtain ⟨CV,e1,m1,q1⟩:=(hf (144,1,1) (by simp)).mz (by kernel_rfl:Tryz.prog.underlying 144=some (.slice 145));rw [show Tryz.prog.cellsOf 145=3 from by kernel_rfl] at e1;simp at e1;subst e1;obtain ⟨v1,rfl,l1,k1⟩:=mN (fun y hy=>BC (q1 y hy));exact ⟨⟨v0,v1⟩,by simp,by simp only [bp.ok];exact ⟨wf_i64 w0,Nat.le_trans (Nat.le_of_eq l1) m1,k1⟩⟩
theorem afW {ds:List D} (h:ep Tryz.prog 140 ds):∃x:mC,ds=x.e∧x.ok:=by
 obtain ⟨hl,hf⟩:=h.fields (by kernel_rfl:fieldsOf Tryz.prog 140=some [(3,0,1),(138,1,1)]) (by kernel_rfl:Tryz.prog.cellsOf 140=2)
 match ds,hl with
 |[d0,d1],_=>
  obtain ⟨v0,e0,w0⟩:=(hf (3,0,1) (by simp)).et (by kernel_rfl:Tryz.prog.underlying 3=some (.int .i64));simp at e0;subst e0;obtain ⟨CV,e1,m1,q1⟩:=(hf (138,1,1) (by simp)).mz (by kernel_rfl:Tryz.prog.underlying 138=some (.slice 307));rw [show Tryz.prog.cellsOf 307=2 from by kernel_rfl] at e1;simp at e1;subst e1;obtain ⟨v1,rfl,l1,k1⟩:=mN (fun y hy=>af6 (q1 y hy));exact ⟨⟨v0,v1⟩,by simp,by simp only [mC.ok];exact ⟨wf_i64 w0,Nat.le_trans (Nat.le_of_eq l1) m1,k1⟩⟩
theorem af8 {ds:List D} (h:ep Tryz.prog 5 ds):∃n:Int,ds=eb n∧(0≤n∧n≤255):=by
 obtain ⟨n,rfl,w⟩:=h.et (by kernel_rfl:Tryz.prog.underlying 5=some (.int .u8));exact ⟨n,rfl,wf_u8 w⟩
theorem afX {ds:List D} (h:ep Tryz.prog 142 ds):∃x:aU,ds=x.e∧x.ok:=by
 obtain ⟨hl,hf⟩:=h.fields (by kernel_rfl:fieldsOf Tryz.prog 142=some [(3,0,1),(3,1,1),(140,2,2),(53,4,1)]) (by kernel_rfl:Tryz.prog.cellsOf 142=5)
 match ds,hl with
 |[d0,d1,d2,d3,d4],_=>
  obtain ⟨v0,e0,w0⟩:=(hf (3,0,1) (by simp)).et (by kernel_rfl:Tryz.prog.underlying 3=some (.int .i64));simp at e0;subst e0;obtain ⟨v1,e1,w1⟩:=(hf (3,1,1) (by simp)).et (by kernel_rfl:Tryz.prog.underlying 3=some (.int .i64));simp at e1;subst e1;obtain ⟨y2,e2,k2⟩:=afW (hf (140,2,2) (by simp));obtain ⟨anH,anG⟩:=y2;simp at e2;obtain ⟨rfl,rfl⟩:=e2;obtain ⟨WG,e3,m3,q3⟩:=(hf (53,4,1) (by simp)).mz (by kernel_rfl:Tryz.prog.underlying 53=some (.slice 5));rw [show Tryz.prog.cellsOf 5=1 from by kernel_rfl] at e3;simp at e3;subst e3;obtain ⟨v3,rfl,l3,k3⟩:=mN (fun y hy=>af8 (q3 y hy));exact ⟨⟨v0,v1,⟨anH,anG⟩,v3⟩,by simp,by simp only [aU.ok];exact ⟨wf_i64 w0,wf_i64 w1,k2,Nat.le_trans (Nat.le_of_eq l3) m3,k3⟩⟩
theorem af3 {ds:List D} (h:ep Tryz.prog 183 ds):∃x:cD,ds=x.e∧x.ok:=by
 obtain ⟨hl,hf⟩:=h.fields (by kernel_rfl:fieldsOf Tryz.prog 183=some [(3,0,1),(3,1,1),(3,2,1)]) (by kernel_rfl:Tryz.prog.cellsOf 183=3)
 match ds,hl with
 |[d0,d1,d2],_=>
  obtain ⟨v0,e0,w0⟩:=(hf (3,0,1) (by simp)).et (by kernel_rfl:Tryz.prog.underlying 3=some (.int .i64));simp at e0;subst e0;obtain ⟨v1,e1,w1⟩:=(hf (3,1,1) (by simp)).et (by kernel_rfl:Tryz.prog.underlying 3=some (.int .i64));simp at e1;subst e1;obtain ⟨v2,e2,w2⟩:=(hf (3,2,1) (by simp)).et (by kernel_rfl:Tryz.prog.underlying 3=some (.int .i64));simp at e2;subst e2;exact ⟨⟨v0,v1,v2⟩,by simp,by simp only [cD.ok];exact ⟨wf_i64 w0,wf_i64 w1,wf_i64 w2⟩⟩
theorem afZ:∀(n:Nat) (ds:List D),SizeOf.sizeOf ds<n→ep Tryz.prog 148 ds→∃x:an,ds=x.e∧x.ok:=by
 intro n;induction n with
 |zero=>intro ds h;omega
 |succ n ih=>
 intro ds dM h;obtain ⟨hl,hf⟩:=h.fields (by kernel_rfl:fieldsOf Tryz.prog 148=some [(3,0,1),(3,1,1),(3,2,1),(145,3,3),(146,6,1)]) (by kernel_rfl:Tryz.prog.cellsOf 148=7)
 match ds,hl with
 |[d0,d1,d2,d3,d4,d5,d6],_=>
  obtain ⟨v0,e0,w0⟩:=(hf (3,0,1) (by simp)).et (by kernel_rfl:Tryz.prog.underlying 3=some (.int .i64));simp at e0;subst e0;obtain ⟨v1,e1,w1⟩:=(hf (3,1,1) (by simp)).et (by kernel_rfl:Tryz.prog.underlying 3=some (.int .i64));simp at e1;subst e1;obtain ⟨v2,e2,w2⟩:=(hf (3,2,1) (by simp)).et (by kernel_rfl:Tryz.prog.underlying 3=some (.int .i64));simp at e2;subst e2;obtain ⟨y3,e3,k3⟩:=BC (hf (145,3,3) (by simp));obtain ⟨Vf,Vd,Ve⟩:=y3;simp at e3;obtain ⟨rfl,rfl,rfl⟩:=e3;obtain ⟨es4,e4,m4,q4⟩:=(hf (146,6,1) (by simp)).mz (by kernel_rfl:Tryz.prog.underlying 146=some (.slice 148));rw [show Tryz.prog.cellsOf 148=7 from by kernel_rfl] at e4;simp at e4;subst e4;obtain ⟨v4,rfl,l4,k4⟩:=mN (fun y hy=>ih y (by have h1:=List.sizeOf_lt_of_mem hy;simp at dM;omega) (q4 y hy));exact ⟨⟨v0,v1,v2,⟨Vf,Vd,Ve⟩,v4⟩,by simp,by simp only [an.ok_eq];exact ⟨wf_i64 w0,wf_i64 w1,wf_i64 w2,k3,Nat.le_trans (Nat.le_of_eq l4) m4,(by rw [an.MK];exact k4)⟩⟩
theorem afY {ds:List D} (h:ep Tryz.prog 148 ds):∃x:an,ds=x.e∧x.ok:=afZ _ ds (Nat.lt_succ_self _) h
theorem aaz {ds:List D} (h:ep Tryz.prog 150 ds):∃x:ia,ds=x.e∧x.ok:=by
 obtain ⟨hl,hf⟩:=h.fields (by kernel_rfl:fieldsOf Tryz.prog 150=some [(3,0,1),(148,1,7),(3,8,1),(22,9,1)]) (by kernel_rfl:Tryz.prog.cellsOf 150=10)
 match ds,hl with
 |[d0,d1,d2,d3,d4,d5,d6,d7,d8,d9],_=>
  obtain ⟨v0,e0,w0⟩:=(hf (3,0,1) (by simp)).et (by kernel_rfl:Tryz.prog.underlying 3=some (.int .i64));simp at e0;subst e0;obtain ⟨y1,e1,k1⟩:=afY (hf (148,1,7) (by simp));obtain ⟨anA,anz,anC,⟨anF,anD,anE⟩,anB⟩:=y1;simp at e1;obtain ⟨rfl,rfl,rfl,rfl,rfl,rfl,rfl⟩:=e1;obtain ⟨v2,e2,w2⟩:=(hf (3,8,1) (by simp)).et (by kernel_rfl:Tryz.prog.underlying 3=some (.int .i64));simp at e2;subst e2;obtain ⟨WG,e3,m3,q3⟩:=(hf (22,9,1) (by simp)).mz (by kernel_rfl:Tryz.prog.underlying 22=some (.slice 3));rw [show Tryz.prog.cellsOf 3=1 from by kernel_rfl] at e3;simp at e3;subst e3;obtain ⟨v3,rfl,l3,k3⟩:=mN (fun y hy=>FL (q3 y hy));exact ⟨⟨v0,⟨anA,anz,anC,⟨anF,anD,anE⟩,anB⟩,v2,v3⟩,by simp,by simp only [ia.ok];exact ⟨wf_i64 w0,k1,wf_i64 w2,Nat.le_trans (Nat.le_of_eq l3) m3,k3⟩⟩
theorem aaB {ds:List D} (h:ep Tryz.prog 270 ds):∃x:aA,ds=x.e∧x.ok:=by
 obtain ⟨hl,hf⟩:=h.fields (by kernel_rfl:fieldsOf Tryz.prog 270=some [(3,0,1),(144,1,1)]) (by kernel_rfl:Tryz.prog.cellsOf 270=2)
 match ds,hl with
 |[d0,d1],_=>
  obtain ⟨v0,e0,w0⟩:=(hf (3,0,1) (by simp)).et (by kernel_rfl:Tryz.prog.underlying 3=some (.int .i64));simp at e0;subst e0;obtain ⟨CV,e1,m1,q1⟩:=(hf (144,1,1) (by simp)).mz (by kernel_rfl:Tryz.prog.underlying 144=some (.slice 145));rw [show Tryz.prog.cellsOf 145=3 from by kernel_rfl] at e1;simp at e1;subst e1;obtain ⟨v1,rfl,l1,k1⟩:=mN (fun y hy=>BC (q1 y hy));exact ⟨⟨v0,v1⟩,by simp,by simp only [aA.ok];exact ⟨wf_i64 w0,Nat.le_trans (Nat.le_of_eq l1) m1,k1⟩⟩
theorem af0 {ds:List D} (h:ep Tryz.prog 153 ds):∃x:bM,ds=x.e∧x.ok:=by
 obtain ⟨hl,hf⟩:=h.fields (by kernel_rfl:fieldsOf Tryz.prog 153=some [(3,0,1),(3,1,1),(3,2,1),(144,3,1),(3,4,1),(150,5,10),(3,15,1),(3,16,1),(25,17,1),(3,18,1),(3,19,1),(3,20,1),(3,21,1),(3,22,1),(4,23,1),(151,24,1)]) (by kernel_rfl:Tryz.prog.cellsOf 153=25)
 match ds,hl with
 |[d0,d1,d2,d3,d4,d5,d6,d7,d8,d9,d10,d11,d12,d13,d14,d15,d16,d17,d18,d19,d20,d21,d22,d23,d24],_=>
  obtain ⟨v0,e0,w0⟩:=(hf (3,0,1) (by simp)).et (by kernel_rfl:Tryz.prog.underlying 3=some (.int .i64));simp at e0;subst e0;obtain ⟨v1,e1,w1⟩:=(hf (3,1,1) (by simp)).et (by kernel_rfl:Tryz.prog.underlying 3=some (.int .i64));simp at e1;subst e1;obtain ⟨v2,e2,w2⟩:=(hf (3,2,1) (by simp)).et (by kernel_rfl:Tryz.prog.underlying 3=some (.int .i64));simp at e2;subst e2;obtain ⟨WG,e3,m3,q3⟩:=(hf (144,3,1) (by simp)).mz (by kernel_rfl:Tryz.prog.underlying 144=some (.slice 145));rw [show Tryz.prog.cellsOf 145=3 from by kernel_rfl] at e3;simp at e3;subst e3;obtain ⟨v3,rfl,l3,k3⟩:=mN (fun y hy=>BC (q3 y hy));obtain ⟨v4,e4,w4⟩:=(hf (3,4,1) (by simp)).et (by kernel_rfl:Tryz.prog.underlying 3=some (.int .i64));simp at e4;subst e4;obtain ⟨y5,e5,k5⟩:=aaz (hf (150,5,10) (by simp));obtain ⟨anW,⟨an0,anZ,an2,⟨an5,an3,an4⟩,an1⟩,anU,anY⟩:=y5;simp at e5;obtain ⟨rfl,rfl,rfl,rfl,rfl,rfl,rfl,rfl,rfl,rfl⟩:=e5;obtain ⟨v6,e6,w6⟩:=(hf (3,15,1) (by simp)).et (by kernel_rfl:Tryz.prog.underlying 3=some (.int .i64));simp at e6;subst e6;obtain ⟨v7,e7,w7⟩:=(hf (3,16,1) (by simp)).et (by kernel_rfl:Tryz.prog.underlying 3=some (.int .i64));simp at e7;subst e7;obtain ⟨es8,e8,m8,q8⟩:=(hf (25,17,1) (by simp)).mz (by kernel_rfl:Tryz.prog.underlying 25=some (.slice 233));rw [show Tryz.prog.cellsOf 233=5 from by kernel_rfl] at e8;simp at e8;subst e8;obtain ⟨v8,rfl,l8,k8⟩:=mN (fun y hy=>aaA (q8 y hy));obtain ⟨v9,e9,w9⟩:=(hf (3,18,1) (by simp)).et (by kernel_rfl:Tryz.prog.underlying 3=some (.int .i64));simp at e9;subst e9;obtain ⟨v10,vA,Va⟩:=(hf (3,19,1) (by simp)).et (by kernel_rfl:Tryz.prog.underlying 3=some (.int .i64));simp at vA;subst vA;obtain ⟨v11,Ww,w11⟩:=(hf (3,20,1) (by simp)).et (by kernel_rfl:Tryz.prog.underlying 3=some (.int .i64));simp at Ww;subst Ww;obtain ⟨v12,Wx,w12⟩:=(hf (3,21,1) (by simp)).et (by kernel_rfl:Tryz.prog.underlying 3=some (.int .i64));simp at Wx;subst Wx;obtain ⟨Bf,Wy,w13⟩:=(hf (3,22,1) (by simp)).et (by kernel_rfl:Tryz.prog.underlying 3=some (.int .i64));simp at Wy;subst Wy;obtain ⟨ES,Wz⟩:=(hf (4,23,1) (by simp)).Jm (by kernel_rfl:Tryz.prog.underlying 4=some .bool);simp at Wz;subst Wz;obtain ⟨aoI,JH,m15,q15⟩:=(hf (151,24,1) (by simp)).mz (by kernel_rfl:Tryz.prog.underlying 151=some (.slice 270));rw [show Tryz.prog.cellsOf 270=2 from by kernel_rfl] at JH;simp at JH;subst JH;obtain ⟨ET,rfl,l15,k15⟩:=mN (fun y hy=>aaB (q15 y hy));exact ⟨⟨v0,v1,v2,v3,v4,⟨anW,⟨an0,anZ,an2,⟨an5,an3,an4⟩,an1⟩,anU,anY⟩,v6,v7,v8,v9,v10,v11,v12,Bf,ES,ET⟩,by simp,by simp only [bM.ok];exact ⟨wf_i64 w0,wf_i64 w1,wf_i64 w2,Nat.le_trans (Nat.le_of_eq l3) m3,k3,wf_i64 w4,k5,wf_i64 w6,wf_i64 w7,Nat.le_trans (Nat.le_of_eq l8) m8,k8,wf_i64 w9,wf_i64 Va,wf_i64 w11,wf_i64 w12,wf_i64 w13,Nat.le_trans (Nat.le_of_eq l15) m15,k15⟩⟩
theorem af1 {ds:List D} (h:ep Tryz.prog 156 ds):∃x:mD,ds=x.e∧x.ok:=by
 obtain ⟨hl,hf⟩:=h.fields (by kernel_rfl:fieldsOf Tryz.prog 156=some [(151,0,1),(3,1,1),(4,2,1),(145,3,3)]) (by kernel_rfl:Tryz.prog.cellsOf 156=6)
 match ds,hl with
 |[d0,d1,d2,d3,d4,d5],_=>
  obtain ⟨rQ,e0,m0,q0⟩:=(hf (151,0,1) (by simp)).mz (by kernel_rfl:Tryz.prog.underlying 151=some (.slice 270));rw [show Tryz.prog.cellsOf 270=2 from by kernel_rfl] at e0;simp at e0;subst e0;obtain ⟨v0,rfl,l0,k0⟩:=mN (fun y hy=>aaB (q0 y hy));obtain ⟨v1,e1,w1⟩:=(hf (3,1,1) (by simp)).et (by kernel_rfl:Tryz.prog.underlying 3=some (.int .i64));simp at e1;subst e1;obtain ⟨v2,e2⟩:=(hf (4,2,1) (by simp)).Jm (by kernel_rfl:Tryz.prog.underlying 4=some .bool);simp at e2;subst e2;obtain ⟨y3,e3,k3⟩:=BC (hf (145,3,3) (by simp));obtain ⟨Vf,Vd,Ve⟩:=y3;simp at e3;obtain ⟨rfl,rfl,rfl⟩:=e3;exact ⟨⟨v0,v1,v2,⟨Vf,Vd,Ve⟩⟩,by simp,by simp only [mD.ok];exact ⟨Nat.le_trans (Nat.le_of_eq l0) m0,k0,wf_i64 w1,k3⟩⟩
theorem af2 {ds:List D} (h:ep Tryz.prog 158 ds):∃x:ca,ds=x.e∧x.ok:=by
 obtain ⟨hl,hf⟩:=h.fields (by kernel_rfl:fieldsOf Tryz.prog 158=some [(3,0,1),(3,1,1),(144,2,1),(3,3,1),(150,4,10),(156,14,6),(3,20,1),(3,21,1),(3,22,1),(3,23,1),(3,24,1)]) (by kernel_rfl:Tryz.prog.cellsOf 158=25)
 match ds,hl with
 |[d0,d1,d2,d3,d4,d5,d6,d7,d8,d9,d10,d11,d12,d13,d14,d15,d16,d17,d18,d19,d20,d21,d22,d23,d24],_=>
  obtain ⟨v0,e0,w0⟩:=(hf (3,0,1) (by simp)).et (by kernel_rfl:Tryz.prog.underlying 3=some (.int .i64));simp at e0;subst e0;obtain ⟨v1,e1,w1⟩:=(hf (3,1,1) (by simp)).et (by kernel_rfl:Tryz.prog.underlying 3=some (.int .i64));simp at e1;subst e1;obtain ⟨WE,e2,m2,q2⟩:=(hf (144,2,1) (by simp)).mz (by kernel_rfl:Tryz.prog.underlying 144=some (.slice 145));rw [show Tryz.prog.cellsOf 145=3 from by kernel_rfl] at e2;simp at e2;subst e2;obtain ⟨v2,rfl,l2,k2⟩:=mN (fun y hy=>BC (q2 y hy));obtain ⟨v3,e3,w3⟩:=(hf (3,3,1) (by simp)).et (by kernel_rfl:Tryz.prog.underlying 3=some (.int .i64));simp at e3;subst e3;obtain ⟨y4,e4,k4⟩:=aaz (hf (150,4,10) (by simp));obtain ⟨anJ,⟨anN,anM,anP,⟨anS,anQ,anR⟩,anO⟩,anI,anL⟩:=y4;simp at e4;obtain ⟨rfl,rfl,rfl,rfl,rfl,rfl,rfl,rfl,rfl,rfl⟩:=e4;obtain ⟨y5,e5,k5⟩:=af1 (hf (156,14,6) (by simp));obtain ⟨an6,anX,anV,⟨an9,an7,an8⟩⟩:=y5;simp at e5;obtain ⟨rfl,rfl,rfl,rfl,rfl,rfl⟩:=e5;obtain ⟨v6,e6,w6⟩:=(hf (3,20,1) (by simp)).et (by kernel_rfl:Tryz.prog.underlying 3=some (.int .i64));simp at e6;subst e6;obtain ⟨v7,e7,w7⟩:=(hf (3,21,1) (by simp)).et (by kernel_rfl:Tryz.prog.underlying 3=some (.int .i64));simp at e7;subst e7;obtain ⟨v8,e8,w8⟩:=(hf (3,22,1) (by simp)).et (by kernel_rfl:Tryz.prog.underlying 3=some (.int .i64));simp at e8;subst e8;obtain ⟨v9,e9,w9⟩:=(hf (3,23,1) (by simp)).et (by kernel_rfl:Tryz.prog.underlying 3=some (.int .i64));simp at e9;subst e9;obtain ⟨v10,vA,Va⟩:=(hf (3,24,1) (by simp)).et (by kernel_rfl:Tryz.prog.underlying 3=some (.int .i64));simp at vA;subst vA;exact ⟨⟨v0,v1,v2,v3,⟨anJ,⟨anN,anM,anP,⟨anS,anQ,anR⟩,anO⟩,anI,anL⟩,⟨an6,anX,anV,⟨an9,an7,an8⟩⟩,v6,v7,v8,v9,v10⟩,by simp,by simp only [ca.ok];exact ⟨wf_i64 w0,wf_i64 w1,Nat.le_trans (Nat.le_of_eq l2) m2,k2,wf_i64 w3,k4,k5,wf_i64 w6,wf_i64 w7,wf_i64 w8,wf_i64 w9,wf_i64 Va⟩⟩
theorem af7 {ds:List D} (h:ep Tryz.prog 33 ds):∃x:uD,ds=x.e∧x.ok:=by
 obtain ⟨hl,hf⟩:=h.fields (by kernel_rfl:fieldsOf Tryz.prog 33=some [(24,0,3),(3,3,1),(3,4,1),(3,5,1),(27,6,2),(28,8,1),(22,9,1),(29,10,1),(22,11,1),(30,12,1),(31,13,1)]) (by kernel_rfl:Tryz.prog.cellsOf 33=14)
 match ds,hl with
 |[d0,d1,d2,d3,d4,d5,d6,d7,d8,d9,d10,d11,d12,d13],_=>
  obtain ⟨y0,e0,k0⟩:=af4 (hf (24,0,3) (by simp));obtain ⟨anw,anx,anv⟩:=y0;simp at e0;obtain ⟨rfl,rfl,rfl⟩:=e0;obtain ⟨v1,e1,w1⟩:=(hf (3,3,1) (by simp)).et (by kernel_rfl:Tryz.prog.underlying 3=some (.int .i64));simp at e1;subst e1;obtain ⟨v2,e2,w2⟩:=(hf (3,4,1) (by simp)).et (by kernel_rfl:Tryz.prog.underlying 3=some (.int .i64));simp at e2;subst e2;obtain ⟨v3,e3,w3⟩:=(hf (3,5,1) (by simp)).et (by kernel_rfl:Tryz.prog.underlying 3=some (.int .i64));simp at e3;subst e3;obtain ⟨y4,e4,k4⟩:=af5 (hf (27,6,2) (by simp));obtain ⟨anT,anK⟩:=y4;simp at e4;obtain ⟨rfl,rfl⟩:=e4;obtain ⟨es5,e5,m5,q5⟩:=(hf (28,8,1) (by simp)).mz (by kernel_rfl:Tryz.prog.underlying 28=some (.slice 142));rw [show Tryz.prog.cellsOf 142=5 from by kernel_rfl] at e5;simp at e5;subst e5;obtain ⟨v5,rfl,l5,k5⟩:=mN (fun y hy=>afX (q5 y hy));obtain ⟨es6,e6,m6,q6⟩:=(hf (22,9,1) (by simp)).mz (by kernel_rfl:Tryz.prog.underlying 22=some (.slice 3));rw [show Tryz.prog.cellsOf 3=1 from by kernel_rfl] at e6;simp at e6;subst e6;obtain ⟨v6,rfl,l6,k6⟩:=mN (fun y hy=>FL (q6 y hy));obtain ⟨es7,e7,m7,q7⟩:=(hf (29,10,1) (by simp)).mz (by kernel_rfl:Tryz.prog.underlying 29=some (.slice 183));rw [show Tryz.prog.cellsOf 183=3 from by kernel_rfl] at e7;simp at e7;subst e7;obtain ⟨v7,rfl,l7,k7⟩:=mN (fun y hy=>af3 (q7 y hy));obtain ⟨es8,e8,m8,q8⟩:=(hf (22,11,1) (by simp)).mz (by kernel_rfl:Tryz.prog.underlying 22=some (.slice 3));rw [show Tryz.prog.cellsOf 3=1 from by kernel_rfl] at e8;simp at e8;subst e8;obtain ⟨v8,rfl,l8,k8⟩:=mN (fun y hy=>FL (q8 y hy));obtain ⟨es9,e9,m9,q9⟩:=(hf (30,12,1) (by simp)).mz (by kernel_rfl:Tryz.prog.underlying 30=some (.slice 153));rw [show Tryz.prog.cellsOf 153=25 from by kernel_rfl] at e9;simp at e9;subst e9;obtain ⟨v9,rfl,l9,k9⟩:=mN (fun y hy=>af0 (q9 y hy));obtain ⟨aoH,vA,m10,q10⟩:=(hf (31,13,1) (by simp)).mz (by kernel_rfl:Tryz.prog.underlying 31=some (.slice 158));rw [show Tryz.prog.cellsOf 158=25 from by kernel_rfl] at vA;simp at vA;subst vA;obtain ⟨v10,rfl,l10,k10⟩:=mN (fun y hy=>af2 (q10 y hy));exact ⟨⟨⟨anw,anx,anv⟩,v1,v2,v3,⟨anT,anK⟩,v5,v6,v7,v8,v9,v10⟩,by simp,by simp only [uD.ok];exact ⟨k0,wf_i64 w1,wf_i64 w2,wf_i64 w3,k4,Nat.le_trans (Nat.le_of_eq l5) m5,k5,Nat.le_trans (Nat.le_of_eq l6) m6,k6,Nat.le_trans (Nat.le_of_eq l7) m7,k7,Nat.le_trans (Nat.le_of_eq l8) m8,k8,Nat.le_trans (Nat.le_of_eq l9) m9,k9,Nat.le_trans (Nat.le_of_eq l10) m10,k10⟩⟩
theorem own:ownKnob Tryz.prog.godebug=none:=by kernel_rfl
theorem alh (xs:List V) (h:qM Tryz.prog Tryz.f3.params.toList xs):OK Tryz.prog 3 xs (.one (.ro false (.bool true))) []:=by
 rw [show Tryz.f3.params.toList=[33] from by kernel_rfl] at h;obtain ⟨x0,xs,rfl,h0,h⟩:=h.cons_inv;obtain rfl:=h.ajL;obtain ⟨ds0,rfl,g0⟩:=h0.alU (by kernel_rfl);obtain ⟨y0,rfl,k0⟩:=af7 g0;obtain ⟨⟨mE,pg,rH⟩,ph,lb,nc,⟨rI,mF⟩,jB,oE,qO,oF,nL,p0⟩:=y0;simp only [uD.ok,rD.ok,rE.ok,and_assoc] at k0;obtain ⟨K2,aqK,ap_,apx,ap9,apw,aqc,apB,aqb,apA,aqa,apz,ap',apy,K3,aqO,K1,FV,K5,aqL,K8,aqP,K6,aqM,K7,Lv,K4,Lu⟩:=k0;exact alk 414 _ _ _ (al1 mE pg rH ph lb nc rI mF jB oE qO oF nL p0 K2 K3 K1 FV K5 K8 K6 K7 Lv K4 Lu (fun b hb=>(FV b hb).2.2.2.2))
theorem lifted (os:Os) (started:os.Started) (H:Type) (enc:TypeId×Value→H):
 ReturnsInHanded {} Tryz.checked os 3 .any (Rows.fnExactWorldOkSpec.pre6 enc Tryz.prog Tryz.f3 Rows.fnExactWorldOkRow.domain false) (Rows.fnExactWorldOkSpec.post enc Tryz.prog Tryz.f3 false true false false):=by
 refine returnsInHanded_of_change (C:=Tryz.checked) own started (by kernel_rfl) Tryz.func3
  (ChangeSpec.witness6 (enc:=enc) (C:=Tryz.checked) false ⟨#[],#[.agg #[.slice none 0 0,.int .i64 0,.int .i64 0,.int .i64 0,.int .i64 0,.int .i64 0,.int .i64 0,.slice none 0 0,.slice none 0 0,.slice none 0 0,.slice none 0 0,.slice none 0 0,.slice none 0 0,.slice none 0 0]],[]⟩ 8 (by kernel_rfl) (by kernel_rfl) (by kernel_rfl) (by kernel_rfl)) ?_
 intro W base args ds gs before ah' hW apg _;refine ai1 (S:=[33,24,22,3,27,25,233,28,142,140,138,307,144,145,9,53,5,29,183,30,153,150,148,146,4,151,270,31,158,156]) (tb:=4) (by kernel_rfl) (by kernel_rfl) (by kernel_rfl) alh (fun j t v h1 h2=>⟨_,_,ah' j t v h1 h2⟩) hW rfl (by kernel_rfl) (by kernel_rfl) (fun hl=>?_)
 match ds,hl with
 |[d0],_=>exact ⟨rfl,rfl,rfl⟩
theorem jf0:laidOutB Tryz.prog=true:=by kernel_rfl
theorem jf1:mapsRowed Tryz.prog=true:=by kernel_rfl
theorem jf2:(Tryz.prog.stops==[])=true:=by kernel_rfl
theorem jf3:(Tryz.prog.stopKnobs==[])=true:=by kernel_rfl
theorem jf4:(Rows.fnExactWorldOkRow.inPlace==Tryz.prog.inPlace 3)=true:=by kernel_rfl
theorem jf5:(Rows.fnExactWorldOkRow.unfollowed==Tryz.prog.unfollowed 3)=true:=by kernel_rfl
theorem jf6:(Rows.fnExactWorldOkRow.recurses==Tryz.prog.recurses 3)=true:=by kernel_rfl
theorem jf7:(Rows.fnExactWorldOkRow.named==Tryz.prog.varsNamed 3)=true:=by kernel_rfl
theorem jf8:(Rows.fnExactWorldOkRow.plainKeys==Tryz.prog.plainKeys)=true:=by kernel_rfl
theorem jf9:Tryz.prog.stopsHeard=true:=by kernel_rfl
theorem aiF:Tryz.prog.mayEnter=true:=by kernel_rfl
theorem aiG:(Rows.fnExactWorldOkRow.lifted==Tryz.prog.liftsFinal)=true:=by kernel_rfl
theorem aiH:(Tryz.prog.make==some Rows.fnExactWorldOkRow.make)=true:=by kernel_rfl
theorem jfn:Tryz.pinned.checked.prog.funcNamed Rows.fnExactWorldOkRow.func=some 3:=by kernel_rfl
theorem aiQ:joinedFacts Tryz.prog 3 Tryz.f3 Rows.fnExactWorldOkSpec Rows.fnExactWorldOkRow=true:=by
 unfold joinedFacts;simp only [jf0,jf1,jf2,jf3,jf4,jf5,jf6,jf7,jf8,jf9,aiF,aiG,aiH,Bool.true_and,Bool.and_true];kernel_rfl
theorem akp:Rows.fnExactWorldOkRow.holds Tryz.pinned (OpenSpec.ofChange Rows.fnExactWorldOkSpec):=
 OpenClaim.holds_of_wide 3 Tryz.f3 rfl rfl rfl rfl rfl rfl rfl ⟨rfl,rfl,rfl,rfl,rfl⟩ rfl rfl rfl rfl rfl (jfn) Tryz.func3 (aiQ)
  (of_decide_eq_true (by kernel_rfl)) (by unfold Func.isWrapper;first|(rw [if_pos (by decide+kernel)];kernel_rfl)|(rw [if_neg (by decide+kernel)];exact ⟨rfl,rfl⟩))
  (fun os started H enc _=>lifted os started H enc)
theorem proved:Rows.FnExactWorldOkSaid:=akp
#print axioms proved
end Go.Proofs.YtohlfelngklcfaaGreat.fnExactWorldOk
