/- The law FnPools returns true for every input, and each argument reads behind the call as it read before. No condition. -/
import Derived.Test.YtohlfelngklcfaaGreatXFSo
import Derived.Shelf.SlSortCmp.NoneTotal
import Derived.Test.YtohlfelngklcfaaGreatF3
import Derived.Test.YtohlfelngklcfaaGreatRows
import Derived.KernelRfl
import Derived.WalkKit
import Derived.ProofKit
import Derived.OpenShut
set_option linter.all false
namespace Go.Proofs
open Go.Shelf
def Tryz.aaz:Go.Shelf.Ren:=⟨fun|6=>369|15=>347|14=>376|28=>367|29=>368|20=>379|21=>380|22=>381|23=>382|24=>383|25=>384|26=>385|27=>386|46=>387|47=>388|48=>389|49=>390|50=>391|57=>392|n=>n,fun|22=>92|24=>94|25=>331|3=>3|39=>252|0=>0|53=>327|55=>329|4=>4|46=>336|45=>335|50=>195|5=>5|9=>9|66=>341|70=>345|76=>347|77=>348|n=>n,fun|n=>n⟩
theorem Tryz.acm:Go.Proofs.SlLaysF0.n6 Tryz.prog Tryz.aaz:={
 mixed:=by kernel_rfl
 f6:=⟨Tryz.f369.name,by decide,Tryz.func369.trans (congrArg some (by kernel_rfl))⟩
 f14:=⟨Tryz.f376.name,by decide,Tryz.func376.trans (congrArg some (by kernel_rfl))⟩
 f15:=Tryz.func347.trans (congrArg some (by kernel_rfl))
 f20:=⟨Tryz.f379.name,by decide,Tryz.func379.trans (congrArg some (by kernel_rfl))⟩
 f21:=⟨Tryz.f380.name,by decide,Tryz.func380.trans (congrArg some (by kernel_rfl))⟩
 f22:=⟨Tryz.f381.name,by decide,Tryz.func381.trans (congrArg some (by kernel_rfl))⟩
 f23:=⟨Tryz.f382.name,by decide,Tryz.func382.trans (congrArg some (by kernel_rfl))⟩
 f24:=⟨Tryz.f383.name,by decide,Tryz.func383.trans (congrArg some (by kernel_rfl))⟩
 f25:=⟨Tryz.f384.name,by decide,Tryz.func384.trans (congrArg some (by kernel_rfl))⟩
 f26:=⟨Tryz.f385.name,by decide,Tryz.func385.trans (congrArg some (by kernel_rfl))⟩
 f27:=⟨Tryz.f386.name,by decide,Tryz.func386.trans (congrArg some (by kernel_rfl))⟩
 f28:=Tryz.func367.trans (congrArg some (by kernel_rfl))
 f29:=Tryz.func368.trans (congrArg some (by kernel_rfl))
 f46:=⟨Tryz.f387.name,by decide,Tryz.func387.trans (congrArg some (by kernel_rfl))⟩
 f47:=Tryz.func388.trans (congrArg some (by kernel_rfl))
 f48:=Tryz.func389.trans (congrArg some (by kernel_rfl))
 f49:=⟨Tryz.f390.name,by decide,Tryz.func390.trans (congrArg some (by kernel_rfl))⟩
 f50:=⟨Tryz.f391.name,by decide,Tryz.func391.trans (congrArg some (by kernel_rfl))⟩
 f57:=⟨Tryz.f392.name,by decide,Tryz.func392.trans (congrArg some (by kernel_rfl))⟩
 t0:=Tryz.underlying0
 a0:=Tryz.isAgg0
 z0:=Tryz.sizeOf0
 v0:=Tryz.zeroValue0
 t3:=Tryz.underlying3
 a3:=Tryz.isAgg3
 z3:=Tryz.sizeOf3
 v3:=Tryz.zeroValue3
 t4:=Tryz.underlying4
 a4:=Tryz.isAgg4
 z4:=Tryz.sizeOf4
 v4:=Tryz.zeroValue4
 t5:=Tryz.underlying5
 a5:=Tryz.isAgg5
 z5:=Tryz.sizeOf5
 v5:=Tryz.zeroValue5
 t9:=Tryz.underlying9
 a9:=Tryz.isAgg9
 z9:=Tryz.sizeOf9
 v9:=Tryz.zeroValue9
 t22:=Tryz.underlying92
 a22:=Tryz.isAgg92
 z22:=Tryz.sizeOf92
 v22:=Tryz.zeroValue92
 t25:=Tryz.underlying331
 a25:=Tryz.isAgg331
 z25:=Tryz.sizeOf331
 v25:=Tryz.zeroValue331
 t39:=Tryz.underlying252
 a39:=Tryz.isAgg252
 z39:=Tryz.sizeOf252
 v39:=Tryz.zeroValue252
 t45:=Tryz.underlying335
 a45:=Tryz.isAgg335
 z45:=Tryz.sizeOf335
 v45:=Tryz.zeroValue335
 t46:=Tryz.underlying336
 a46:=Tryz.isAgg336
 z46:=Tryz.sizeOf336
 v46:=Tryz.zeroValue336
 t50:=Tryz.underlying195
 a50:=Tryz.isAgg195
 z50:=Tryz.sizeOf195
 v50:=Tryz.zeroValue195
 t53:=Tryz.underlying327
 a53:=Tryz.isAgg327
 z53:=Tryz.sizeOf327
 v53:=Tryz.zeroValue327
 t55:=Tryz.underlying329
 a55:=Tryz.isAgg329
 z55:=Tryz.sizeOf329
 v55:=Tryz.zeroValue329
 t66:=Tryz.underlying341
 a66:=Tryz.isAgg341
 z66:=Tryz.sizeOf341
 v66:=Tryz.zeroValue341
 t70:=Tryz.underlying345
 a70:=Tryz.isAgg345
 z70:=Tryz.sizeOf345
 v70:=Tryz.zeroValue345
 t76:=Tryz.underlying347
 a76:=Tryz.isAgg347
 z76:=Tryz.sizeOf347
 v76:=Tryz.zeroValue347
 t77:=Tryz.underlying348
 a77:=Tryz.isAgg348
 z77:=Tryz.sizeOf348
 v77:=Tryz.zeroValue348 }
end Go.Proofs
namespace Go.Proofs.YtohlfelngklcfaaGreat.fnPools
open Go.ChangeShapes Go.WideShapes Go.ChangeAt Go.RowKit Go.Proofs.YtohlfelngklcfaaGreat.OM
set_option maxRecDepth 100000
set_option maxHeartbeats 4000000
theorem PQ:(OC.filter fun p=>p.1 !=595).all (fun p=>qR Tryz.prog fI (fI p.1) p.2)=true:=by kernel_rfl
theorem V7:TT 595=some sa:=by kernel_rfl
theorem V8:pK Tryz.prog (fI 595)=true:=by kernel_rfl
theorem VU (f:Nat) (xs:List V) (r:V) (us:List (Nat×Nat×C)) (h:Gw TT f xs=some (r,us)):OK Tryz.prog (fI f) xs r us:=by
 refine JI rfl (by kernel_rfl) (fun f F hF=>?_) f xs r us h;by_cases e:f=595
 ·subst e;rw [V7,Option.some.injEq] at hF;subst hF;exact .inr ⟨V8,fun Γ fuel xs r us hG h=>V_ Tryz.acm rfl Tryz.isAgg94 Tryz.sizeOf94 hG h⟩
 ·exact .inl (List.all_eq_true.1 PQ (f,F) (List.mem_filter.2 ⟨TZ hF,by simpa using e⟩))
theorem Rj {ds:List D} (h:er Tryz.prog 5 ds):∃n:Int,ds=eb n∧(0≤n∧n≤255):=by
 obtain ⟨n,rfl,w⟩:=h.MM (by kernel_rfl:Tryz.prog.underlying 5=some (.int .u8));exact ⟨n,rfl,wf_u8 w⟩
theorem own:ownKnob Tryz.prog.godebug=none:=by kernel_rfl
theorem VR (xs:List V) (h:kX Tryz.prog Tryz.f5.params.toList xs):OK Tryz.prog 5 xs (.one (.ro false (.bool true))) []:=by
 rw [show Tryz.f5.params.toList=[53] from by kernel_rfl] at h;obtain ⟨x0,xs,rfl,h0,h⟩:=h.cons_inv;obtain rfl:=h.Ub;obtain ⟨mC,rfl,m0,q0⟩:=h0.sl (by kernel_rfl:Tryz.prog.underlying 53=some (.slice 5));rw [show Tryz.prog.cellsOf 5=1 from by kernel_rfl];obtain ⟨code,rfl,l0,k0⟩:=TV (fun y hy=>Rj (q0 y hy));have nM:code.length≤9223372036854775807:=Nat.le_trans (Nat.le_of_eq l0) m0;exact VU 420 _ _ _ (Ws code nM)
theorem lifted (os:Os) (started:os.Started) (H:Type) (enc:TypeId×Value→H):
 ReturnsInHanded {} Tryz.checked os 5 .any (Rows.fnPoolsSpec.pre6 enc Tryz.prog Tryz.f5 Rows.fnPoolsRow.domain false) (Rows.fnPoolsSpec.post enc Tryz.prog Tryz.f5 false true false false):=by
 refine returnsInHanded_of_change (C:=Tryz.checked) own started (by kernel_rfl) Tryz.func5
  (ChangeSpec.witness6 (enc:=enc) (C:=Tryz.checked) false ⟨#[],#[.slice none 0 0],[]⟩ 8 (by kernel_rfl) (by kernel_rfl) (by kernel_rfl) (by kernel_rfl)) ?_
 intro W base args ds gs before SQ hW abu _;refine TH (S:=[53,5]) (tb:=4) (by kernel_rfl) (by kernel_rfl) (by kernel_rfl) VR (fun j t v h1 h2=>⟨_,_,SQ j t v h1 h2⟩) hW rfl (by kernel_rfl) (by kernel_rfl) (fun hl=>?_)
 match ds,hl with
 |[d0],_=>exact ⟨rfl,rfl,rfl⟩
theorem Tk:laidOutB Tryz.prog=true:=by kernel_rfl
theorem Tl:mapsRowed Tryz.prog=true:=by kernel_rfl
theorem Tp:(Tryz.prog.stops==[])=true:=by kernel_rfl
theorem Tq:(Tryz.prog.stopKnobs==[])=true:=by kernel_rfl
theorem Tr:(Rows.fnPoolsRow.inPlace==Tryz.prog.inPlace 5)=true:=by kernel_rfl
theorem Tt:(Rows.fnPoolsRow.unfollowed==Tryz.prog.unfollowed 5)=true:=by kernel_rfl
theorem Tu:(Rows.fnPoolsRow.recurses==Tryz.prog.recurses 5)=true:=by kernel_rfl
theorem Tv:(Rows.fnPoolsRow.named==Tryz.prog.varsNamed 5)=true:=by kernel_rfl
theorem Tw:(Rows.fnPoolsRow.plainKeys==Tryz.prog.plainKeys)=true:=by kernel_rfl
theorem Tx:Tryz.prog.stopsHeard=true:=by kernel_rfl
theorem Tm:Tryz.prog.mayEnter=true:=by kernel_rfl
theorem Tn:(Rows.fnPoolsRow.lifted==Tryz.prog.liftsFinal)=true:=by kernel_rfl
theorem To:(Tryz.prog.make==some Rows.fnPoolsRow.make)=true:=by kernel_rfl
theorem TA:Tryz.pinned.checked.prog.funcNamed Rows.fnPoolsRow.func=some 5:=by kernel_rfl
theorem Tz:joinedFacts Tryz.prog 5 Tryz.f5 Rows.fnPoolsSpec Rows.fnPoolsRow=true:=by
 unfold joinedFacts;simp only [Tk,Tl,Tp,Tq,Tr,Tt,Tu,Tv,Tw,Tx,Tm,Tn,To,Bool.true_and,Bool.and_true];kernel_rfl
theorem UZ:Rows.fnPoolsRow.holds Tryz.pinned (OpenSpec.ofChange Rows.fnPoolsSpec):=
 OpenClaim.holds_of_wide 5 Tryz.f5 rfl rfl rfl rfl rfl rfl rfl ⟨rfl,rfl,rfl,rfl,rfl⟩ rfl rfl rfl rfl rfl (TA) Tryz.func5 (Tz)
  (of_decide_eq_true (by kernel_rfl)) (by unfold Func.isWrapper;first|(rw [if_pos (by decide+kernel)];kernel_rfl)|(rw [if_neg (by decide+kernel)];exact ⟨rfl,rfl⟩))
  (fun os started H enc _=>lifted os started H enc)
theorem proved:Rows.FnPoolsSaid:=UZ
#print axioms proved
end Go.Proofs.YtohlfelngklcfaaGreat.fnPools
