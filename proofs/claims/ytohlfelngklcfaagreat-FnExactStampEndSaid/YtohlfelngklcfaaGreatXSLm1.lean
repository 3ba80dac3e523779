/- A part of the proof. -/
import Derived.Test.YtohlfelngklcfaaGreatXSLm0
set_option linter.all false
namespace Go.Proofs.YtohlfelngklcfaaGreat.OM
open Decidable renaming not_not→za
open List renaming length_cons→zb,getElem?_eq_some_iff→zd,length_append→ze,append_nil→zf,length_nil→zg,getElem?_eq_getElem→zh,append_assoc→zj,sizeOf_lt_of_mem→zk,getElem?_eq_none→zm,set_cons_zero→zo,set_cons_succ→zp,map_set→zu
open SizeOf renaming sizeOf→zi
open Nat renaming add_zero→zn,le_refl→zq
open Int renaming lt_irrefl→zr
open Eq renaming trans→zt
set_option maxHeartbeats 4000000
set_option maxRecDepth 100000
variable (tF qu:Int) (x:aa) (k0 k1:Bool) (l aH eM:List Int) (jg tE kz:Int) (eE:List ak) (c9 qw ca ie c8 qv oC lT:Int) (lP:Bool) (dk:Int) (fj:List aC) (lS dj:Int) (gW:List Int) (lU dh lW c_ lV:Int) (aO:List ay) (gX:ByteArray) (aK:List ao) (eC:List aa) (aE:List Int) (dA:Int) (aZ:List aJ) (cb:Int) (fc ba:List Int) (oH lZ c3:Int) (az:List au) (oD cZ:Int) (aG:List an) (bq:List af) (bO:ByteArray) (id dW s eO u eQ eP eR eT eS:Int) (dq:ByteArray) (bI:List aa) (eN:Int) (bT:List Int) (eD:List ak) (oI kB fM:Int) (kA:Bool) (ae:List ay) (kD k oE kC oF:Int) (gD:ByteArray) (eG lO kx lY oG lQ:Int) (oJ:Bool) (lR:Int) (eB:List ak) (lX left:Int)
theorem UX (h0:0≤left) (h1:left≤1048576) (nq:bq.length≤9223372036854775807) (nx:af.aV bq) (np:dq.size≤9223372036854775807) (nm:bI.length≤9223372036854775807) (nv:aa.aV bI) (nk:bT.length≤9223372036854775807) (vJ:eD.length≤9223372036854775807) (vT:ak.aV eD) (vK:gD.size≤9223372036854775807):
 ∃n,Gw TT 216 [.st [.ro false (di cb),.ro false (di lZ),.ro k0 (.sl 3 (bq.map af.e)),.ro false (di dW),.ro false (di eO),.ro false (di eQ),.ro false (di eP),.ro false (di eR),.ro false (di eT),.ro false (di eS),.ro false (.str dq),.ro k0 (.sl 7 (bI.map aa.e)),.ro false (di eN),.ro k0 (.sl 1 (bT.map ei)),.ro k0 (.sl 2 (eD.map ak.e)),.ro false (di kB),.ro false (.bool kA),.ro false (di kD),.ro false (di kC),.ro false (.str gD),.ro false (di lO),.ro false (di lY),.ro false (di lQ),.ro false (di lR),.ro false (di lX)],vi left]=some (vi n,[])∧-1≤n∧n≤left∧(0≤n→aT bq+bc bI+aj bT+b_ eD≤31*(left-n)):=by
 refine cj (F:=oo) rfl rfl ?_;show Wp _ xx _ _;unfold xx;have QW:=il bq;have QV:=jl bI;have QU:=eu bT;have aaS:=mT eD;obtain ⟨n1,g1,a1,b1,s1⟩:=Bi k0 bq left (by omega) (by omega) nq nx;refine Ud g1 ?_ ?_;all_goals repeat intro hc
 ·exact ⟨-1,by simp [oo],by omega,by omega,fun h=>absurd h (by omega)⟩
 have q1:=s1 (by omega);obtain ⟨n2,g2,a2,b2,s2⟩:=Mj k0 eO eQ eP eR eT eS dq bI eN bT n1 (by omega) (by omega) np nm nv nk;refine Ud g2 ?_ ?_;all_goals repeat intro hc
 ·exact ⟨-1,by simp [oo],by omega,by omega,fun h=>absurd h (by omega)⟩
 have q2:=s2 (by omega);obtain ⟨n3,g3,a3,b3,s3⟩:=U1 k0 eD kB kA kD kC gD n2 (by omega) (by omega) vJ vT vK;refine Ud g3 ?_ ?_;all_goals repeat intro hc
 ·exact ⟨-1,by simp [oo],by omega,by omega,fun h=>absurd h (by omega)⟩
 have q3:=s3 (by omega)
 ·exact ⟨n3,by simp [oo],by omega,by omega,fun _=>by omega⟩
theorem UY (l:List an) (left:Int) (h0:0≤left) (h1:left≤1048576) (hl:l.length≤9223372036854775807) (aP:an.aV l):
 ∃n,Gw TT 217 [.one (.ro k0 (.sl 25 (l.map an.e))),vi left]=some (vi n,[])∧-1≤n∧n≤left∧(0≤n→da l≤31*(left-n)):=by
 refine cj (F:=qc) rfl rfl ?_;show Wp _ xy _ _;unfold xy;have g:=Wi (left-(l.length:Int));refine Ud g ?_ ?_;all_goals repeat intro hc
 ·exact ⟨-1,by simp [qc],by omega,by omega,fun h=>absurd h (by omega)⟩
 ·refine bn (σ:=List an×List an×Int) (fun s=>[(0,AV.v k0 (D.sl 25 (List.map an.e l)),none),(1,AV.v false (di s.2.2),none),(5,AV.v false (di (s.1.length:Nat)),none)]) (fun s=>l=s.1++s.2.1∧0≤s.2.2∧s.2.2≤left-(l.length:Int)∧da s.1≤31*(left-(l.length:Int)-s.2.2)+21*(s.1.length:Int)) (fun s=>s.2.1.length) ([],l,left-(l.length:Int)) (by simp) ⟨rfl,by simp only;omega,by simp only;omega,by simp [da]⟩ ?_;rintro ⟨pre,rest,lf⟩ ⟨h2,h3,h4,h5⟩;simp only at h2 h3 h4 h5;subst h2;simp only [ze,zb] at hl h4 h5 g;rcases rest with _|⟨⟨a_,gj,aL,br,⟨cR,⟨cT,cS,cU,⟨cX,cV,cW⟩,aY⟩,cQ,a9⟩,⟨dt,fZ,fY,⟨gf,f_,ga⟩⟩,fO,gh,fS,fU,gg⟩,rest⟩
  ·unfold x8;refine Ud Oo ?_;repeat intro hc
   simp only [zg] at h4 h5;all_goals exact ⟨lf,by simp [qc],by omega,by omega,fun _=>by simp only [zf];omega⟩
  ·unfold x8;simp only [zb] at hl h4 h5;have hw:=Wi ((pre.length:Int)+1);have lb:=JH pre ⟨a_,gj,aL,br,⟨cR,⟨cT,cS,cU,⟨cX,cV,cW⟩,aY⟩,cQ,a9⟩,⟨dt,fZ,fY,⟨gf,f_,ga⟩⟩,fO,gh,fS,fU,gg⟩;simp only [mS] at lb;have hd:=aP ⟨a_,gj,aL,br,⟨cR,⟨cT,cS,cU,⟨cX,cV,cW⟩,aY⟩,cQ,a9⟩,⟨dt,fZ,fY,⟨gf,f_,ga⟩⟩,fO,gh,fS,fU,gg⟩ (by simp);simp only [an.ok,dC.ok,aa.ok_eq,af.ok,eW.ok,and_assoc] at hd;obtain ⟨CH,Cu,QL,PU,ss,sv,vo,vl,CJ,Cw,CL,Cy,CK,Cx,CM,Cz,CO,CB,CN,CA,sr,sq,su,CI,Cv,sn,C1,CY,C4,QF,PL,QH,PN,QG,PM,CZ,Qp,Px,QK,PT,Qy,PD,QB,PH,QI,PQ⟩:=hd;obtain ⟨n1,g1,a1,b1,s1⟩:=UX k0 a_ gj aL br cR cT cS cU cX cV cW aY cQ a9 dt fZ fY gf f_ ga fO gh fS fU gg lf (by omega) (by omega) ss sv sr sq su sn CY C4 CZ;refine Ud (J2 g1 hw) ?_ ?_;all_goals repeat intro hc
   ·exact ⟨-1,by simp [qc],by omega,by omega,fun h=>absurd h (by omega)⟩
   ·have hq:=s1 (by omega);skip;exact ⟨(pre++[⟨a_,gj,aL,br,⟨cR,⟨cT,cS,cU,⟨cX,cV,cW⟩,aY⟩,cQ,a9⟩,⟨dt,fZ,fY,⟨gf,f_,ga⟩⟩,fO,gh,fS,fU,gg⟩],rest,n1),by simp,⟨by simp,by simp only;omega,by simp only [ze,zb];omega,by simp only [ze,zb,zg];omega⟩,by simp⟩
theorem Mm (h0:0≤left) (h1:left≤1048576) (vu:aH.length≤9223372036854775807) (vA:aO.length≤9223372036854775807) (vt:aK.length≤9223372036854775807) (vO:ao.aV aK) (vE:aE.length≤9223372036854775807) (vN:aZ.length≤9223372036854775807) (vG:ba.length≤9223372036854775807) (vM:az.length≤9223372036854775807) (vV:au.aV az) (vB:aG.length≤9223372036854775807) (vQ:an.aV aG):
 ∃n,Gw TT 233 [.st [.ro k0 (.sl 1 (aH.map ei)),.ro false (di c9),.ro false (di c8),.ro false (di dk),.ro false (di dj),.ro false (di dh),.ro false (di c_),.ro k0 (.sl 5 (aO.map ay.e)),.ro k0 (.sl 5 (aK.map ao.e)),.ro k0 (.sl 1 (aE.map ei)),.ro k0 (.sl 3 (aZ.map aJ.e)),.ro k0 (.sl 1 (ba.map ei)),.ro k0 (.sl 25 (az.map au.e)),.ro k0 (.sl 25 (aG.map an.e))],vi left]=some (vi n,[])∧-1≤n∧n≤left∧(0≤n→aj aH+aX aO+bD aK+aj aE+bU aZ+aj ba+db az+da aG≤31*(left-n)):=by
 refine cj (F:=gK) rfl rfl ?_;show Wp _ xN _ _;unfold xN;have KW:=eu aH;have KY:=kJ aO;have KV:=rR aK;have K0:=eu aE;have K3:=rU aZ;have K1:=eu ba;have K2:=rY az;have KZ:=rV aG;obtain ⟨n1,g1,a1,b1,s1⟩:=UU k0 aH c9 c8 left (by omega) (by omega) vu;refine Ud g1 ?_ ?_;all_goals repeat intro hc
 ·exact ⟨-1,by simp [gK],by omega,by omega,fun h=>absurd h (by omega)⟩
 have q1:=s1 (by omega);obtain ⟨n2,g2,a2,b2,s2⟩:=UZ k0 c_ aO n1 (by omega) (by omega) vA;refine Ud g2 ?_ ?_;all_goals repeat intro hc
 ·exact ⟨-1,by simp [gK],by omega,by omega,fun h=>absurd h (by omega)⟩
 have q2:=s2 (by omega);obtain ⟨n3,g3,a3,b3,s3⟩:=UR k0 aK n2 (by omega) (by omega) vt vO;refine Ud g3 ?_ ?_;all_goals repeat intro hc
 ·exact ⟨-1,by simp [gK],by omega,by omega,fun h=>absurd h (by omega)⟩
 have q3:=s3 (by omega);obtain ⟨n4,g4,a4,b4,s4⟩:=Bh k0 aE n3 (by omega) (by omega) vE;refine Ud g4 ?_ ?_;all_goals repeat intro hc
 ·exact ⟨-1,by simp [gK],by omega,by omega,fun h=>absurd h (by omega)⟩
 have q4:=s4 (by omega);obtain ⟨n5,g5,a5,b5,s5⟩:=UW k0 aZ n4 (by omega) (by omega) vN;refine Ud g5 ?_ ?_;all_goals repeat intro hc
 ·exact ⟨-1,by simp [gK],by omega,by omega,fun h=>absurd h (by omega)⟩
 have q5:=s5 (by omega);obtain ⟨n6,g6,a6,b6,s6⟩:=Bh k0 ba n5 (by omega) (by omega) vG;refine Ud g6 ?_ ?_;all_goals repeat intro hc
 ·exact ⟨-1,by simp [gK],by omega,by omega,fun h=>absurd h (by omega)⟩
 have q6:=s6 (by omega);obtain ⟨n7,g7,a7,b7,s7⟩:=U6 k0 az n6 (by omega) (by omega) vM vV;refine Ud g7 ?_ ?_;all_goals repeat intro hc
 ·exact ⟨-1,by simp [gK],by omega,by omega,fun h=>absurd h (by omega)⟩
 have q7:=s7 (by omega);obtain ⟨n8,g8,a8,b8,s8⟩:=UY k0 aG n7 (by omega) (by omega) vB vQ;refine Ud g8 ?_ ?_;all_goals repeat intro hc
 ·exact ⟨-1,by simp [gK],by omega,by omega,fun h=>absurd h (by omega)⟩
 have q8:=s8 (by omega)
 ·exact ⟨n8,by simp [gK],by omega,by omega,fun _=>by omega⟩
@[simp] theorem t72 (h:l.length≤1048576):Gw TT 72 [.one (.ro k0 (.sl 1 (l.map ei)))]=some (.one (.own (.sl 1 (l.map ei))),[]):=by
 refine dw (F:=Hm) rfl rfl ?_;show Wp _ FB _ _;unfold FB;have hq:l.length*8≤70368744177664:=by omega
 repeat' (first
  |with_reducible (first|refine wp_seq ?_|refine cJ ?_|refine wp_skip ?_|refine wp_exit ?_|refine wp_ret ?_|refine cH ?_|refine cI ?_|refine cG ?_|refine cp ?_|refine cq ?_|refine cn ?_|refine cE ?_|refine cD ?_|refine cF ?_|refine cB ?_|refine cA ?_|refine cx ?_|refine cw ?_|refine cz ?_|refine cy ?_)
  |(with_reducible refine cK fun K hK=>?_
    simp[h,hq]
    repeat' (with_reducible first|refine hK _ ?_|(refine bm ?_ ?_<;>(intro hc;(try rw [za] at hc);first|(exfalso;omega)|(try simp [hc,h,hq]))))
    all_goals (clear hK;clear K))
  |(with_reducible refine cP ?_
    refine ⟨_,rfl,?_,?_⟩<;>(intro hc;(try simp at hc);(all_goals first|(exfalso;omega)|skip))))
 all_goals first|(simp [Hm];done)|(exfalso;omega)
@[simp] theorem t75 (ae:List af) (h:ae.length≤1048576):Gw TT 75 [.st [.ro false (di dW),.ro k0 (.sl 3 (ae.map af.e))]]=some (.st [.ro false (di dW),.own (.sl 3 (ae.map af.e))],[]):=by
 refine dw (F:=Hp) rfl rfl ?_;show Wp _ FE _ _;unfold FE;have hq:ae.length*32≤70368744177664:=by omega
 repeat' first|refine Zs ?_|(refine Xk fun K k=>?_;simp [h,hq];refine k _ ?_;clear k K)|(refine We rfl ?_ ?_<;>intro hc<;>(try simp at hc)<;>first|(exfalso;omega)|skip)
 simp [Hp]
def slt (ky:Int→Int) (x y:Int):Prop:=ky x<ky y∨(ky x=ky y∧x<y)
def By (ky:Int→Int) (l:List Int):Prop:=l.Pairwise (slt ky)
theorem slt.trans {ky:Int→Int} {x y z:Int} (h1:slt ky x y) (h2:slt ky y z):slt ky x z:=by unfold slt at *;omega
theorem slt.irrefl {ky:Int→Int} {x:Int}:¬slt ky x x:=by unfold slt;omega
theorem slt.asymm {ky:Int→Int} {x y:Int} (h:slt ky x y):¬slt ky y x:=by unfold slt at *;omega
theorem slt.le {ky:Int→Int} {x y:Int} (h:slt ky x y):ky x≤ky y:=by unfold slt at h;omega
theorem abq {ky:Int→Int} {x y:Int} (h:ky x<ky y):slt ky x y:=.inl h
theorem abp {ky:Int→Int} {x y:Int} (h:ky x≤ky y) (h2:x<y):slt ky x y:=by unfold slt;omega
inductive Good (ky:Int→Int) (bs:Nat):List Int→List Int→Prop
 |short (xs l:List Int):xs.length≤bs→l.Perm xs→By ky l→Good ky bs xs l
 |app (w w' xs l:List Int):w.length=bs→w'.Perm w→By ky w'→Good ky bs xs l→Good ky bs (w++xs) (w'++l)
theorem Good.perm {ky:Int→Int} {bs:Nat} {xs l:List Int} (h:Good ky bs xs l):l.Perm xs:=by
 induction h with
 |short _ _ _ h=>exact h
 |app _ _ _ _ _ h _ _ ih=>exact h.append ih
theorem Good.le {ky:Int→Int} {bs:Nat} {xs l:List Int} (h:Good ky bs xs l) (hb:xs.length≤bs) (h0:0<bs):l.Perm xs∧By ky l:=by
 cases h with
 |short _ _ h1 h2 h3=>exact ⟨h2,h3⟩
 |app w w' xs l h1 h2 h3 h4=>
  have h5:xs=[]:=List.eq_nil_of_length_eq_zero (by simp at hb;omega);subst h5;have h6:l=[]:=List.perm_nil.1 h4.perm;subst h6;simpa using ⟨h2,h3⟩
theorem Sk:Gw TT 397 [.one (.ro k0 (.sl 2 []))]=some (.one (.own (.sl 2 [])),[]):=by
 refine dw (F:=xZ) rfl rfl ?_;show Wp _ xQ _ _;unfold xQ
 repeat' (first
  |with_reducible (first|refine wp_seq ?_|refine cJ ?_|refine wp_skip ?_|refine wp_exit ?_|refine wp_ret ?_|refine cH ?_|refine cI ?_|refine cG ?_|refine cp ?_|refine cq ?_|refine cn ?_|refine cE ?_|refine cD ?_|refine cF ?_|refine cB ?_|refine cA ?_|refine cx ?_|refine cw ?_|refine cz ?_|refine cy ?_)
  |(with_reducible refine wp_loop (c:=yd) ?_
    conv=>arg 2;unfold yd)
  |(with_reducible refine cK fun K hK=>?_
    simp[zr]
    repeat' (with_reducible first|refine hK _ ?_|(refine bm ?_ ?_<;>(intro hc;(try rw [za] at hc);first|(exfalso;omega)|(try simp [hc,zr]))))
    all_goals (clear hK;clear K))
  |(with_reducible refine cP ?_
    refine ⟨_,rfl,?_,?_⟩<;>(intro hc;(try simp at hc);(all_goals first|(exfalso;omega)|skip))))
 all_goals simp [xZ]
def Bm (x:aa):Prop:=∀k0:Bool,x.sm→Gw TT 355 [.st [.ro false (di x.Kind),.ro false (di x.eU),.ro false (di x.Op),.ro false (di x.V.Ty),.ro false (di x.V.N),.ro false (.str x.V.S),.ro k0 (.sl 7 (x.L.map aa.e))]]=some (.st [.ro false (di x.Kind),.ro false (di x.eU),.ro false (di x.Op),.ro false (di x.V.Ty),.ro false (di x.V.N),.ro false (.str x.V.S),.own (.sl 7 (x.L.map aa.e))],[])
theorem MK (IH:∀y∈x.L,Bm y):Bm x:=by
 intro k0 hx;rw [aa.fL] at hx;obtain ⟨Dv,iZ,wY⟩:=hx;obtain ⟨ca,dA,cb,⟨c3,cZ,bO⟩,ae⟩:=x;simp only at iZ wY IH;refine dw (F:=G5) rfl rfl ?_;show Wp _ Fc _ _;unfold Fc
 repeat' (first
  |with_reducible (first|refine wp_seq ?_|refine cJ ?_|refine wp_skip ?_|refine wp_exit ?_|refine wp_ret ?_|refine cH ?_|refine cI ?_|refine cG ?_|refine cp ?_|refine cq ?_|refine cn ?_|refine cE ?_|refine cD ?_|refine cF ?_|refine cB ?_|refine cA ?_|refine cx ?_|refine cw ?_|refine cz ?_|refine cy ?_)
  |(with_reducible refine cK fun K hK=>?_
    simp
    repeat' (with_reducible first|refine hK _ ?_|(refine bm ?_ ?_<;>(intro hc;(try rw [za] at hc);first|(exfalso;omega)|(try simp [hc]))))
    all_goals (clear hK;clear K))
  |(with_reducible refine cP ?_
    refine ⟨_,rfl,?_,?_⟩<;>(intro hc;(try simp at hc);(all_goals first|(exfalso;omega)|skip))))
 refine bn (σ:=List aa×List aa) (fun s=>[(1,AV.bx 1 0,some (Rt.bx [.ro false (di ca),.ro false (di dA),.ro false (di cb),.ro false (di c3),.ro false (di cZ),.ro false (.str bO),.ro k0 (.sl 7 (ae.map aa.e))])),(2,AV.bx 2 0,some (Rt.bx [.ro false (di 0),.ro false (di 0),.ro false (di 0),.ro false (di 0),.ro false (di 0),.ro false (.str ⟨#[]⟩),.own (.sl 7 [])])),(3,AV.bx 3 0,some (Rt.bx [.ro false (di ca),.ro false (di dA),.ro false (di cb),.ro false (di c3),.ro false (di cZ),.ro false (.str bO),.own (.sl 7 (s.1.map aa.e))])),(4,AV.v false (di (s.1.length:Nat)),none)]) (fun s=>ae=s.1++s.2) (fun s=>s.2.length) ([],ae) (by simp) rfl ?_;rintro ⟨pre,rest⟩ g1;simp only at g1;subst g1;simp only [ze,zb] at iZ;rcases rest with _|⟨⟨bh,dI,a_,⟨dL,dJ,dK⟩,ax⟩,rest⟩
 ·unfold Ia
  repeat' (first
   |with_reducible (first|refine wp_seq ?_|refine cJ ?_|refine wp_skip ?_|refine wp_exit ?_|refine wp_ret ?_|refine cH ?_|refine cI ?_|refine cG ?_|refine cp ?_|refine cq ?_|refine cn ?_|refine cE ?_|refine cD ?_|refine cF ?_|refine cB ?_|refine cA ?_|refine cx ?_|refine cw ?_|refine cz ?_|refine cy ?_)
   |(with_reducible refine cK fun K hK=>?_
     simp
     repeat' (with_reducible first|refine hK _ ?_|(refine bm ?_ ?_<;>(intro hc;(try rw [za] at hc);first|(exfalso;omega)|(try simp [hc]))))
     all_goals (clear hK;clear K))
   |(with_reducible refine cP ?_
     refine ⟨_,rfl,?_,?_⟩<;>(intro hc;(try simp at hc);(all_goals first|(exfalso;omega)|skip))))
  all_goals simp [G5]
 ·unfold Ia;simp only [zb] at iZ;have hw:IntKind.wrap .i64 ((pre.length:Int)+1)=(pre.length:Int)+1:=wrap_i64 (by omega) (by omega);have ih:=IH ⟨bh,dI,a_,⟨dL,dJ,dK⟩,ax⟩ (by simp) k0 (aa.tn wY ⟨bh,dI,a_,⟨dL,dJ,dK⟩,ax⟩ (by simp));simp only at ih;have hq:(pre.length+1)*80≤70368744177664:=by omega
  repeat' (first
   |with_reducible (first|refine wp_seq ?_|refine cJ ?_|refine wp_skip ?_|refine wp_exit ?_|refine wp_ret ?_|refine cH ?_|refine cI ?_|refine cG ?_|refine cp ?_|refine cq ?_|refine cn ?_|refine cE ?_|refine cD ?_|refine cF ?_|refine cB ?_|refine cA ?_|refine cx ?_|refine cw ?_|refine cz ?_|refine cy ?_)
   |(with_reducible refine cK fun K hK=>?_
     simp[hw,ih,hq]
     repeat' (with_reducible first|refine hK _ ?_|(refine bm ?_ ?_<;>(intro hc;(try rw [za] at hc);first|(exfalso;omega)|(try simp [hc,hw,ih,hq]))))
     all_goals (clear hK;clear K))
   |(with_reducible refine cP ?_
     refine ⟨_,rfl,?_,?_⟩<;>(intro hc;(try simp at hc);(all_goals first|(exfalso;omega)|skip))))
  all_goals first|exact ⟨(pre++[⟨bh,dI,a_,⟨dL,dJ,dK⟩,ax⟩],rest),by simp,by simp,by simp⟩|(exfalso;omega)
theorem IU (x:aa):Bm x:=
 MK x fun y hy=>IU y
termination_by zi x
decreasing_by
 have h1:=zk hy;have h2:zi x.L<zi x:=by cases x;simp;omega
 omega
@[simp] theorem t355 (ae:List aa) (hv:bO.size≤1048576) (hl:ae.length≤1048576) (hs:aa.aq ae):Gw TT 355 [.st [.ro false (di ca),.ro false (di dA),.ro false (di cb),.ro false (di c3),.ro false (di cZ),.ro false (.str bO),.ro k0 (.sl 7 (ae.map aa.e))]]=some (.st [.ro false (di ca),.ro false (di dA),.ro false (di cb),.ro false (di c3),.ro false (di cZ),.ro false (.str bO),.own (.sl 7 (ae.map aa.e))],[]):=
 IU ⟨ca,dA,cb,⟨c3,cZ,bO⟩,ae⟩ k0 (by simp only [aa.fL,af.sm,and_assoc];exact ⟨hv,hl,hs⟩)
@[simp] theorem t353 (wy:gX.size≤1048576) (wx:eC.length≤1048576) (wI:aa.aq eC) (wv:fc.length≤1048576):Gw TT 353 [.st [.ro false (di ca),.ro false (di lT),.ro false (di lS),.ro false (di lU),.ro false (di lW),.ro false (di lV),.ro false (.str gX),.ro k0 (.sl 7 (eC.map aa.e)),.ro false (di dA),.ro k0 (.sl 1 (fc.map ei))]]=some (.st [.ro false (di ca),.ro false (di lT),.ro false (di lS),.ro false (di lU),.ro false (di lW),.ro false (di lV),.ro false (.str gX),.own (.sl 7 (eC.map aa.e)),.ro false (di dA),.own (.sl 1 (fc.map ei))],[]):=by
 have C8:(0+fc.length)*8≤70368744177664:=by omega
 have C_:fc.length*8≤70368744177664:=by omega
 refine dw (F:=G4) rfl rfl ?_;show Wp _ Fb _ _;unfold Fb
 repeat' (first
  |with_reducible (first|refine wp_seq ?_|refine cJ ?_|refine wp_skip ?_|refine wp_exit ?_|refine wp_ret ?_|refine cH ?_|refine cI ?_|refine cG ?_|refine cp ?_|refine cq ?_|refine cn ?_|refine cE ?_|refine cD ?_|refine cF ?_|refine cB ?_|refine cA ?_|refine cx ?_|refine cw ?_|refine cz ?_|refine cy ?_)
  |(with_reducible refine cK fun K hK=>?_
    simp[wy,wx,wI,wv,C8,C_]
    repeat' (with_reducible first|refine hK _ ?_|(refine bm ?_ ?_<;>(intro hc;(try rw [za] at hc);first|(exfalso;omega)|(try simp [hc,wy,wx,wI,wv,C8,C_]))))
    all_goals (clear hK;clear K))
  |(with_reducible refine cP ?_
    refine ⟨_,rfl,?_,?_⟩<;>(intro hc;(try simp at hc);(all_goals first|(exfalso;omega)|skip))))
 all_goals simp [G4]
@[simp] theorem t356:Gw TT 356 [.st [.ro k0 (.sl 2 []),.ro false (di ie),.ro false (.bool lP),.ro false (di c3),.ro false (di cZ),.ro false (.str bO)]]=some (.st [.own (.sl 2 []),.ro false (di ie),.ro false (.bool lP),.ro false (di c3),.ro false (di cZ),.ro false (.str bO)],[]):=by
 refine dw (F:=xX) rfl rfl ?_;show Wp _ xO _ _;unfold xO
 repeat' (first
  |with_reducible (first|refine wp_seq ?_|refine cJ ?_|refine wp_skip ?_|refine wp_exit ?_|refine wp_ret ?_|refine cH ?_|refine cI ?_|refine cG ?_|refine cp ?_|refine cq ?_|refine cn ?_|refine cE ?_|refine cD ?_|refine cF ?_|refine cB ?_|refine cA ?_|refine cx ?_|refine cw ?_|refine cz ?_|refine cy ?_)
  |(with_reducible refine cK fun K hK=>?_
    simp[Sk]
    repeat' (with_reducible first|refine hK _ ?_|(refine bm ?_ ?_<;>(intro hc;(try rw [za] at hc);first|(exfalso;omega)|(try simp [hc,Sk]))))
    all_goals (clear hK;clear K))
  |(with_reducible refine cP ?_
    refine ⟨_,rfl,?_,?_⟩<;>(intro hc;(try simp at hc);(all_goals first|(exfalso;omega)|skip))))
 all_goals simp [xX]
@[simp] theorem aby (lu:bq.length≤1048576) (lx:af.aq bq) (lr:dq.size≤1048576) (lq:bI.length≤1048576) (lv:aa.aq bI) (lp:bT.length≤1048576):Gw TT 387 [.st [.ro false (di cb),.ro false (di lZ),.ro k0 (.sl 3 (bq.map af.e)),.ro false (di dW),.ro false (di eO),.ro false (di eQ),.ro false (di eP),.ro false (di eR),.ro false (di eT),.ro false (di eS),.ro false (.str dq),.ro k0 (.sl 7 (bI.map aa.e)),.ro false (di eN),.ro k0 (.sl 1 (bT.map ei)),.ro k0 (.sl 2 []),.ro false (di kB),.ro false (.bool kA),.ro false (di kD),.ro false (di kC),.ro false (.str gD),.ro false (di lO),.ro false (di lY),.ro false (di lQ),.ro false (di lR),.ro false (di lX)]]=some (.st [.ro false (di cb),.ro false (di lZ),.own (.sl 3 (bq.map af.e)),.ro false (di dW),.ro false (di eO),.ro false (di eQ),.ro false (di eP),.ro false (di eR),.ro false (di eT),.ro false (di eS),.ro false (.str dq),.own (.sl 7 (bI.map aa.e)),.ro false (di eN),.own (.sl 1 (bT.map ei)),.own (.sl 2 []),.ro false (di kB),.ro false (.bool kA),.ro false (di kD),.ro false (di kC),.ro false (.str gD),.ro false (di lO),.ro false (di lY),.ro false (di lQ),.ro false (di lR),.ro false (di lX)],[]):=by
 have fa:(0+bq.length)*32≤70368744177664:=by omega
 have j4:bq.length*32≤70368744177664:=by omega
 refine dw (F:=xY) rfl rfl ?_;show Wp _ xP _ _;unfold xP
 repeat' (first
  |with_reducible (first|refine wp_seq ?_|refine cJ ?_|refine wp_skip ?_|refine wp_exit ?_|refine wp_ret ?_|refine cH ?_|refine cI ?_|refine cG ?_|refine cp ?_|refine cq ?_|refine cn ?_|refine cE ?_|refine cD ?_|refine cF ?_|refine cB ?_|refine cA ?_|refine cx ?_|refine cw ?_|refine cz ?_|refine cy ?_)
  |(with_reducible refine cK fun K hK=>?_
    simp[lu,lx,lr,lq,lv,lp,fa,j4]
    repeat' (with_reducible first|refine hK _ ?_|(refine bm ?_ ?_<;>(intro hc;(try rw [za] at hc);first|(exfalso;omega)|(try simp [hc,lu,lx,lr,lq,lv,lp,fa,j4]))))
    all_goals (clear hK;clear K))
  |(with_reducible refine cP ?_
    refine ⟨_,rfl,?_,?_⟩<;>(intro hc;(try simp at hc);(all_goals first|(exfalso;omega)|skip))))
 all_goals simp [xY]
def Bn (x:aa):Prop:=∀k0:Bool,x.sm→Gw TT 563 [.st [.ro false (di x.Kind),.ro false (di x.eU),.ro false (di x.Op),.ro false (di x.V.Ty),.ro false (di x.V.N),.ro false (.str x.V.S),.ro k0 (.sl 7 (x.L.map aa.e))]]=some (.st [.ro false (di x.Kind),.ro false (di x.eU),.ro false (di x.Op),.ro false (di x.V.Ty),.ro false (di x.V.N),.ro false (.str x.V.S),.own (.sl 7 (x.L.map aa.e))],[])
theorem MJ (IH:∀y∈x.L,Bn y):Bn x:=by
 intro k0 hx;rw [aa.fL] at hx;obtain ⟨Dv,iZ,wY⟩:=hx;obtain ⟨ca,dA,cb,⟨c3,cZ,bO⟩,ae⟩:=x;simp only at iZ wY IH;refine Ga Hi Fw ?_;unfold Fw;refine Ud Oo ?_;refine bn (σ:=List aa×List aa) (fun s=>[(1,AV.bx 1 0,some (Rt.bx [.ro false (di ca),.ro false (di dA),.ro false (di cb),.ro false (di c3),.ro false (di cZ),.ro false (.str bO),.ro k0 (.sl 7 (ae.map aa.e))])),(2,AV.bx 2 0,some (Rt.bx [.ro false (di 0),.ro false (di 0),.ro false (di 0),.ro false (di 0),.ro false (di 0),.ro false (.str ⟨#[]⟩),.own (.sl 7 [])])),(3,AV.bx 3 0,some (Rt.bx [.ro false (di ca),.ro false (di dA),.ro false (di cb),.ro false (di c3),.ro false (di cZ),.ro false (.str bO),.own (.sl 7 (s.1.map aa.e))])),(16,AV.v k0 (.sl 7 (ae.map aa.e)),none),(17,AV.v false (di (ae.length:Nat)),none),(18,AV.v false (di (s.1.length:Nat)),none)]) (fun s=>ae=s.1++s.2) (fun s=>s.2.length) ([],ae) (by simp) rfl ?_;rintro ⟨pre,rest⟩ g1;simp only at g1;subst g1;simp only [ze,zb] at iZ;rcases rest with _|⟨⟨bh,dI,a_,⟨dL,dJ,dK⟩,ax⟩,rest⟩
 ·unfold Ik;refine Ud Oo ?_;repeat intro hc
  all_goals simp [Hi]
 ·unfold Ik;simp only [zb] at iZ;have hw:=Wi ((pre.length:Int)+1);have ih:=IH ⟨bh,dI,a_,⟨dL,dJ,dK⟩,ax⟩ (by simp) k0 (aa.tn wY ⟨bh,dI,a_,⟨dL,dJ,dK⟩,ax⟩ (by simp));simp only at ih;have hq:(pre.length+1)*80≤70368744177664:=by omega
  refine Ud (J3 hw ih hq) ?_;repeat intro hc
  exact ⟨(pre++[⟨bh,dI,a_,⟨dL,dJ,dK⟩,ax⟩],rest),by simp,by simp,by simp⟩
theorem IT (x:aa):Bn x:=
 MJ x fun y hy=>IT y
termination_by zi x
decreasing_by
 have h1:=zk hy;have h2:zi x.L<zi x:=by cases x;simp;omega
 omega
@[simp] theorem abK (ae:List aa) (hv:bO.size≤1048576) (hl:ae.length≤1048576) (hs:aa.aq ae):Gw TT 563 [.st [.ro false (di ca),.ro false (di dA),.ro false (di cb),.ro false (di c3),.ro false (di cZ),.ro false (.str bO),.ro k0 (.sl 7 (ae.map aa.e))]]=some (.st [.ro false (di ca),.ro false (di dA),.ro false (di cb),.ro false (di c3),.ro false (di cZ),.ro false (.str bO),.own (.sl 7 (ae.map aa.e))],[]):=
 IT ⟨ca,dA,cb,⟨c3,cZ,bO⟩,ae⟩ k0 (by simp only [aa.fL,af.sm,and_assoc];exact ⟨hv,hl,hs⟩)
@[simp] theorem abH (wy:gX.size≤1048576) (wx:eC.length≤1048576) (wI:aa.aq eC) (wv:fc.length≤1048576):Gw TT 532 [.st [.ro false (di ca),.ro false (di lT),.ro false (di lS),.ro false (di lU),.ro false (di lW),.ro false (di lV),.ro false (.str gX),.ro k0 (.sl 7 (eC.map aa.e)),.ro false (di dA),.ro k0 (.sl 1 (fc.map ei))]]=some (.st [.ro false (di ca),.ro false (di lT),.ro false (di lS),.ro false (di lU),.ro false (di lW),.ro false (di lV),.ro false (.str gX),.own (.sl 7 (eC.map aa.e)),.ro false (di dA),.own (.sl 1 (fc.map ei))],[]):=by
 have C8:(0+fc.length)*8≤70368744177664:=by omega
 have C_:fc.length*8≤70368744177664:=by omega
 refine Ga Hf Fs ?_;unfold Fs;refine Ud (J6 wy wx wI wv C8 C_) ?_;all_goals simp [Hf]
@[simp] theorem abI (l:List ak) (h:l.length≤1048576) (hs:ak.aq l):Gw TT 533 [.one (.ro k0 (.sl 2 (l.map ak.e)))]=some (.one (.own (.sl 2 (l.map ak.e))),[]):=by
 refine Ga Hg Ft ?_;unfold Ft;refine Ud Oo ?_;refine bn (σ:=List (ak)×List (ak)×List (ak)) (fun s=>[(3,AV.pl 3 0 [],some (Rt.aR [C.own (D.sl 2 ((s.2.2).map ak.e))])),(7,AV.v k0 (D.sl 2 (l.map ak.e)),none),(8,AV.v false (di (l.length:Nat)),none),(9,AV.v false (di ((s.1.length:Nat):Int)),none)]) (fun s=>l=s.1++s.2.1∧s.2.2++s.2.1=l∧s.2.2.length≤s.1.length) (fun s=>s.2.1.length) ([],l,[]) (by simp) ⟨rfl,by first|rfl|simp,zq _⟩ ?_;rintro ⟨pre,rest,a⟩ ⟨h1,h2,h3⟩;simp only at h1 h2 h3;subst h1;simp only [ze,zb] at h;rcases rest with _|⟨d,rest⟩
 ·unfold Ij;try simp only [zf,zf] at h2
  refine Ud Oo ?_;repeat intro hc
  simp_all [Hg]
 ·unfold Ij;simp only [zb] at h;try simp only [zf] at h2
  have hw:=Wi ((pre.length:Int)+1);have hd:=hs d (by simp);simp only [ak.sm] at hd;have hq:(a.length+1)*32≤70368744177664:=by omega
  refine Ud (J4 hw hd hd.1 hq) ?_;repeat intro hc
  (refine ⟨(pre++[d],rest,a++[d]),?_,⟨?_,?_,?_⟩,?_⟩;(focus (first|(simp;done)|(simp_all;done)));(focus (simp;done));(focus (refine zt ?_ h2;clear h2;first|(simp [*];done)|(simp_all;done)));(focus (simp only [ze,zb,zg];omega));(focus (simp;done)))
@[simp] theorem abJ (wB:eE.length≤1048576) (wK:ak.aq eE) (wC:bO.size≤1048576):Gw TT 534 [.st [.ro k0 (.sl 2 (eE.map ak.e)),.ro false (di ie),.ro false (.bool lP),.ro false (di c3),.ro false (di cZ),.ro false (.str bO)]]=some (.st [.own (.sl 2 (eE.map ak.e)),.ro false (di ie),.ro false (.bool lP),.ro false (di c3),.ro false (di cZ),.ro false (.str bO)],[]):=by
 skip;refine Ga Hh Fu ?_;unfold Fu;refine Ud (J3 wB wK wC) ?_;all_goals simp [Hh]
@[simp] theorem abF (lu:bq.length≤1048576) (lx:af.aq bq) (lr:dq.size≤1048576) (lq:bI.length≤1048576) (lv:aa.aq bI) (lp:bT.length≤1048576) (g_:ae.length≤1048576) (wu:eB.length≤1048576) (wH:ak.aq eB):Gw TT 501 [.st [.ro false (di cb),.ro false (di oH),.ro false (di oD),.ro k0 (.sl 3 (bq.map af.e)),.ro false (di dW),.ro false (di eO),.ro false (di eQ),.ro false (di eP),.ro false (di eR),.ro false (di eT),.ro false (di eS),.ro false (.str dq),.ro k0 (.sl 7 (bI.map aa.e)),.ro false (di eN),.ro k0 (.sl 1 (bT.map ei)),.ro false (di oI),.ro false (di fM),.ro k0 (.sl 5 (ae.map ay.e)),.ro false (di oE),.ro false (di oF),.ro false (di eG),.ro false (di kx),.ro false (di oG),.ro false (.bool oJ),.ro k0 (.sl 2 (eB.map ak.e))]]=some (.st [.ro false (di cb),.ro false (di oH),.ro false (di oD),.own (.sl 3 (bq.map af.e)),.ro false (di dW),.ro false (di eO),.ro false (di eQ),.ro false (di eP),.ro false (di eR),.ro false (di eT),.ro false (di eS),.ro false (.str dq),.own (.sl 7 (bI.map aa.e)),.ro false (di eN),.own (.sl 1 (bT.map ei)),.ro false (di oI),.ro false (di fM),.own (.sl 5 (ae.map ay.e)),.ro false (di oE),.ro false (di oF),.ro false (di eG),.ro false (di kx),.ro false (di oG),.ro false (.bool oJ),.own (.sl 2 (eB.map ak.e))],[]):=by
 have sy:(0+bq.length)*32≤70368744177664:=by omega
 have sB:bq.length*32≤70368744177664:=by omega
 have sx:(0+bT.length)*8≤70368744177664:=by omega
 have sA:bT.length*8≤70368744177664:=by omega
 have C7:(0+ae.length)*40≤70368744177664:=by omega
 have C9:ae.length*40≤70368744177664:=by omega
 refine Ga Hc Fp ?_;unfold Fp;refine Ud (J8 lu lx lr lq lv lp g_ (J8 wu wH sy sB sx sA C7 C9)) ?_;all_goals simp [Hc]
@[simp] theorem abG (lu:bq.length≤1048576) (lx:af.aq bq) (lr:dq.size≤1048576) (lq:bI.length≤1048576) (lv:aa.aq bI) (lp:bT.length≤1048576) (wz:eD.length≤1048576) (wJ:ak.aq eD) (wA:gD.size≤1048576):Gw TT 502 [.st [.ro false (di cb),.ro false (di lZ),.ro k0 (.sl 3 (bq.map af.e)),.ro false (di dW),.ro false (di eO),.ro false (di eQ),.ro false (di eP),.ro false (di eR),.ro false (di eT),.ro false (di eS),.ro false (.str dq),.ro k0 (.sl 7 (bI.map aa.e)),.ro false (di eN),.ro k0 (.sl 1 (bT.map ei)),.ro k0 (.sl 2 (eD.map ak.e)),.ro false (di kB),.ro false (.bool kA),.ro false (di kD),.ro false (di kC),.ro false (.str gD),.ro false (di lO),.ro false (di lY),.ro false (di lQ),.ro false (di lR),.ro false (di lX)]]=some (.st [.ro false (di cb),.ro false (di lZ),.own (.sl 3 (bq.map af.e)),.ro false (di dW),.ro false (di eO),.ro false (di eQ),.ro false (di eP),.ro false (di eR),.ro false (di eT),.ro false (di eS),.ro false (.str dq),.own (.sl 7 (bI.map aa.e)),.ro false (di eN),.own (.sl 1 (bT.map ei)),.own (.sl 2 (eD.map ak.e)),.ro false (di kB),.ro false (.bool kA),.ro false (di kD),.ro false (di kC),.ro false (.str gD),.ro false (di lO),.ro false (di lY),.ro false (di lQ),.ro false (di lR),.ro false (di lX)],[]):=by
 have sy:(0+bq.length)*32≤70368744177664:=by omega
 have sB:bq.length*32≤70368744177664:=by omega
 have sx:(0+bT.length)*8≤70368744177664:=by omega
 have sA:bT.length*8≤70368744177664:=by omega
 refine Ga He Fq ?_;unfold Fq;refine Ud (J8 lu lx lr lq lv lp wz (J6 wJ wA sy sB sx sA)) ?_;all_goals simp [He]
@[simp] theorem abA (ae:List af) (h:ae.length≤1048576):Gw TT 400 [.st [.ro false (di dW),.ro k0 (.sl 3 (ae.map af.e))]]=some (.st [.ro false (di dW),.own (.sl 3 (ae.map af.e))],[]):=by
 refine Ga G9 Fj ?_;unfold Fj;have fa:(0+ae.length)*32≤70368744177664:=by omega
 have j4:ae.length*32≤70368744177664:=by omega
 refine Ud (J2 fa j4) ?_;all_goals simp [G9]
@[simp] theorem abz (l:List ak) (h:l.length≤1048576) (hs:ak.aq l):Gw TT 397 [.one (.ro k0 (.sl 2 (l.map ak.e)))]=some (.one (.own (.sl 2 (l.map ak.e))),[]):=by
 refine Ga xZ xQ ?_;unfold xQ;refine Ud Oo ?_;refine bn (σ:=List (ak)×List (ak)×List (ak)) (fun s=>[(0,AV.v k0 (D.sl 2 (l.map ak.e)),none),(3,AV.pl 3 0 [],some (Rt.aR [C.own (D.sl 2 ((s.2.2).map ak.e))])),(4,AV.v false (di ((s.1.length:Nat):Int)),none)]) (fun s=>l=s.1++s.2.1∧s.2.2++s.2.1=l∧s.2.2.length≤s.1.length) (fun s=>s.2.1.length) ([],l,[]) (by simp) ⟨rfl,by first|rfl|simp,zq _⟩ ?_;rintro ⟨pre,rest,a⟩ ⟨h1,h2,h3⟩;simp only at h1 h2 h3;subst h1;simp only [ze,zb] at h;rcases rest with _|⟨d,rest⟩
 ·unfold yd;try simp only [zf,zf] at h2
  refine Ud Oo ?_;repeat intro hc
  simp_all [xZ]
 ·unfold yd;simp only [zb] at h;try simp only [zf] at h2
  have hw:=Wi ((pre.length:Int)+1);have hd:=hs d (by simp);simp only [ak.sm] at hd;have hq:(a.length+1)*32≤70368744177664:=by omega
  refine Ud (J4 hw hd hd.1 hq) ?_;repeat intro hc
  (refine ⟨(pre++[d],rest,a++[d]),?_,⟨?_,?_,?_⟩,?_⟩;(focus (first|(simp;done)|(simp_all;done)));(focus (simp;done));(focus (refine zt ?_ h2;clear h2;first|(simp [*];done)|(simp_all;done)));(focus (simp only [ze,zb,zg];omega));(focus (simp;done)))
theorem Sg (wB:eE.length≤1048576) (wK:ak.aq eE) (wC:bO.size≤1048576):Gw TT 356 [.st [.ro k0 (.sl 2 (eE.map ak.e)),.ro false (di ie),.ro false (.bool lP),.ro false (di c3),.ro false (di cZ),.ro false (.str bO)]]=some (.st [.own (.sl 2 (eE.map ak.e)),.ro false (di ie),.ro false (.bool lP),.ro false (di c3),.ro false (di cZ),.ro false (.str bO)],[]):=by
 skip;refine Ga xX xO ?_;unfold xO;refine Ud (J3 wB wK wC) ?_;all_goals simp [xX]
theorem Sj (lu:bq.length≤1048576) (lx:af.aq bq) (lr:dq.size≤1048576) (lq:bI.length≤1048576) (lv:aa.aq bI) (lp:bT.length≤1048576) (wz:eD.length≤1048576) (wJ:ak.aq eD) (wA:gD.size≤1048576):Gw TT 387 [.st [.ro false (di cb),.ro false (di lZ),.ro k0 (.sl 3 (bq.map af.e)),.ro false (di dW),.ro false (di eO),.ro false (di eQ),.ro false (di eP),.ro false (di eR),.ro false (di eT),.ro false (di eS),.ro false (.str dq),.ro k0 (.sl 7 (bI.map aa.e)),.ro false (di eN),.ro k0 (.sl 1 (bT.map ei)),.ro k0 (.sl 2 (eD.map ak.e)),.ro false (di kB),.ro false (.bool kA),.ro false (di kD),.ro false (di kC),.ro false (.str gD),.ro false (di lO),.ro false (di lY),.ro false (di lQ),.ro false (di lR),.ro false (di lX)]]=some (.st [.ro false (di cb),.ro false (di lZ),.own (.sl 3 (bq.map af.e)),.ro false (di dW),.ro false (di eO),.ro false (di eQ),.ro false (di eP),.ro false (di eR),.ro false (di eT),.ro false (di eS),.ro false (.str dq),.own (.sl 7 (bI.map aa.e)),.ro false (di eN),.own (.sl 1 (bT.map ei)),.own (.sl 2 (eD.map ak.e)),.ro false (di kB),.ro false (.bool kA),.ro false (di kD),.ro false (di kC),.ro false (.str gD),.ro false (di lO),.ro false (di lY),.ro false (di lQ),.ro false (di lR),.ro false (di lX)],[]):=by
 have sy:(0+bq.length)*32≤70368744177664:=by omega
 have sB:bq.length*32≤70368744177664:=by omega
 have sx:(0+bT.length)*8≤70368744177664:=by omega
 have sA:bT.length*8≤70368744177664:=by omega
 refine Ga xY xP ?_;unfold xP;refine Ud (J8 lu lx lr lq lv lp wz (J7 wJ wA sy sB sx sA @Sg)) ?_;all_goals simp [xY]
@[simp] theorem abD (lu:bq.length≤1048576) (lx:af.aq bq) (lr:dq.size≤1048576) (lq:bI.length≤1048576) (lv:aa.aq bI) (lp:bT.length≤1048576) (g_:ae.length≤1048576) (wu:eB.length≤1048576) (wH:ak.aq eB):Gw TT 499 [.st [.ro false (di cb),.ro false (di oH),.ro false (di oD),.ro k0 (.sl 3 (bq.map af.e)),.ro false (di dW),.ro false (di eO),.ro false (di eQ),.ro false (di eP),.ro false (di eR),.ro false (di eT),.ro false (di eS),.ro false (.str dq),.ro k0 (.sl 7 (bI.map aa.e)),.ro false (di eN),.ro k0 (.sl 1 (bT.map ei)),.ro false (di oI),.ro false (di fM),.ro k0 (.sl 5 (ae.map ay.e)),.ro false (di oE),.ro false (di oF),.ro false (di eG),.ro false (di kx),.ro false (di oG),.ro false (.bool oJ),.ro k0 (.sl 2 (eB.map ak.e))]]=some (.st [.ro false (di cb),.ro false (di oH),.ro false (di oD),.own (.sl 3 (bq.map af.e)),.ro false (di dW),.ro false (di eO),.ro false (di eQ),.ro false (di eP),.ro false (di eR),.ro false (di eT),.ro false (di eS),.ro false (.str dq),.own (.sl 7 (bI.map aa.e)),.ro false (di eN),.own (.sl 1 (bT.map ei)),.ro false (di oI),.ro false (di fM),.own (.sl 5 (ae.map ay.e)),.ro false (di oE),.ro false (di oF),.ro false (di eG),.ro false (di kx),.ro false (di oG),.ro false (.bool oJ),.own (.sl 2 (eB.map ak.e))],[]):=by
 have sy:(0+bq.length)*32≤70368744177664:=by omega
 have sB:bq.length*32≤70368744177664:=by omega
 have sx:(0+bT.length)*8≤70368744177664:=by omega
 have sA:bT.length*8≤70368744177664:=by omega
 have C7:(0+ae.length)*40≤70368744177664:=by omega
 have C9:ae.length*40≤70368744177664:=by omega
 refine Ga Ha Fm ?_;unfold Fm;refine Ud (J8 lu lx lr lq lv lp g_ (J8 wu wH sy sB sx sA C7 C9)) ?_;all_goals simp [Ha]
@[simp] theorem abE (l:List an) (h:l.length≤1048576) (hs:an.aq l):Gw TT 500 [.one (.ro k0 (.sl 25 (l.map an.e)))]=some (.one (.own (.sl 25 (l.map an.e))),[]):=by
 refine Ga Hb Fo ?_;unfold Fo;refine Ud Oo ?_;refine bn (σ:=List (an)×List (an)×List (an)) (fun s=>[(0,AV.v k0 (D.sl 25 (l.map an.e)),none),(3,AV.pl 3 0 [],some (Rt.aR [C.own (D.sl 25 ((s.2.2).map an.e))])),(4,AV.v false (di ((s.1.length:Nat):Int)),none)]) (fun s=>l=s.1++s.2.1∧s.2.2++s.2.1=l∧s.2.2.length≤s.1.length) (fun s=>s.2.1.length) ([],l,[]) (by simp) ⟨rfl,by first|rfl|simp,zq _⟩ ?_;rintro ⟨pre,rest,a⟩ ⟨h1,h2,h3⟩;simp only at h1 h2 h3;subst h1;simp only [ze,zb] at h;rcases rest with _|⟨d,rest⟩
 ·unfold Ii;try simp only [zf,zf] at h2
  refine Ud Oo ?_;repeat intro hc
  simp_all [Hb]
 ·unfold Ii;simp only [zb] at h;try simp only [zf] at h2
  have hw:=Wi ((pre.length:Int)+1);have hd:=hs d (by simp);simp only [an.sm,dC.sm,aa.fL,af.sm,eW.sm] at hd;have hq:(a.length+1)*280≤70368744177664:=by omega
  refine Ud (J4 hw hd hq @Sj) ?_;repeat intro hc
  (refine ⟨(pre++[d],rest,a++[d]),?_,⟨?_,?_,?_⟩,?_⟩;(focus (first|(simp;done)|(simp_all;done)));(focus (simp;done));(focus (refine zt ?_ h2;clear h2;first|(simp [*];done)|(simp_all;done)));(focus (simp only [ze,zb,zg];omega));(focus (simp;done)))
@[simp] theorem abC (iz:aH.length≤1048576) (iA:aO.length≤1048576) (iy:aK.length≤1048576) (iG:ao.aq aK) (iC:aE.length≤1048576) (iF:aZ.length≤1048576) (iD:ba.length≤1048576) (iE:az.length≤1048576) (gQ:au.aq az) (iB:aG.length≤1048576) (hD:an.aq aG):Gw TT 466 [.st [.ro k0 (.sl 1 (aH.map ei)),.ro false (di c9),.ro false (di c8),.ro false (di dk),.ro false (di dj),.ro false (di dh),.ro false (di c_),.ro k0 (.sl 5 (aO.map ay.e)),.ro k0 (.sl 5 (aK.map ao.e)),.ro k0 (.sl 1 (aE.map ei)),.ro k0 (.sl 3 (aZ.map aJ.e)),.ro k0 (.sl 1 (ba.map ei)),.ro k0 (.sl 25 (az.map au.e)),.ro k0 (.sl 25 (aG.map an.e))]]=some (.st [.own (.sl 1 (aH.map ei)),.ro false (di c9),.ro false (di c8),.ro false (di dk),.ro false (di dj),.ro false (di dh),.ro false (di c_),.own (.sl 5 (aO.map ay.e)),.own (.sl 5 (aK.map ao.e)),.own (.sl 1 (aE.map ei)),.own (.sl 3 (aZ.map aJ.e)),.own (.sl 1 (ba.map ei)),.own (.sl 25 (az.map au.e)),.own (.sl 25 (aG.map an.e))],[]):=by
 refine dw (F:=G') rfl rfl ?_;show Wp _ Fl _ _;unfold Fl;have Ay:(0+aH.length)*8≤70368744177664:=by omega
 have AF:aH.length*8≤70368744177664:=by omega
 have AA:(0+aE.length)*8≤70368744177664:=by omega
 have AG:aE.length*8≤70368744177664:=by omega
 have AD:(0+aZ.length)*24≤70368744177664:=by omega
 have AI:aZ.length*24≤70368744177664:=by omega
 have AB:(0+ba.length)*8≤70368744177664:=by omega
 have AH:ba.length*8≤70368744177664:=by omega
 repeat' (first
  |with_reducible (first|refine wp_seq ?_|refine cJ ?_|refine wp_skip ?_|refine wp_exit ?_|refine wp_ret ?_|refine cH ?_|refine cI ?_|refine cG ?_|refine cp ?_|refine cq ?_|refine cn ?_|refine cE ?_|refine cD ?_|refine cF ?_|refine cB ?_|refine cA ?_|refine cx ?_|refine cw ?_|refine cz ?_|refine cy ?_)
  |(with_reducible refine cK fun K hK=>?_
    simp[iz,iA,iy,iG,iC,iF,iD,iE,gQ,iB,hD,Ay,AF,AA,AG,AD,AI,AB,AH]
    repeat' (with_reducible first|refine hK _ ?_|(refine bm ?_ ?_<;>(intro hc;(try rw [za] at hc);first|(exfalso;omega)|(try simp [hc,iz,iA,iy,iG,iC,iF,iD,iE,gQ,iB,hD,Ay,AF,AA,AG,AD,AI,AB,AH]))))
    all_goals (clear hK;clear K))
  |(with_reducible refine cP ?_
    refine ⟨_,rfl,?_,?_⟩<;>(intro hc;(try simp at hc);(all_goals first|(exfalso;omega)|skip))))
 refine bn (σ:=List au×List au) (fun s=>[(1,AV.bx 1 0,some (Rt.bx [.ro k0 (.sl 1 (aH.map ei)),.ro false (di c9),.ro false (di c8),.ro false (di dk),.ro false (di dj),.ro false (di dh),.ro false (di c_),.ro k0 (.sl 5 (aO.map ay.e)),.ro k0 (.sl 5 (aK.map ao.e)),.ro k0 (.sl 1 (aE.map ei)),.ro k0 (.sl 3 (aZ.map aJ.e)),.ro k0 (.sl 1 (ba.map ei)),.ro k0 (.sl 25 (az.map au.e)),.ro k0 (.sl 25 (aG.map an.e))])),(2,AV.bx 2 0,some (Rt.bx [.own (.sl 1 []),.ro false (di 0),.ro false (di 0),.ro false (di 0),.ro false (di 0),.ro false (di 0),.ro false (di 0),.own (.sl 5 []),.own (.sl 5 []),.own (.sl 1 []),.own (.sl 3 []),.own (.sl 1 []),.own (.sl 25 []),.own (.sl 25 [])])),(3,AV.bx 3 0,some (Rt.bx [.own (.sl 1 (aH.map ei)),.ro false (di c9),.ro false (di c8),.ro false (di dk),.ro false (di dj),.ro false (di dh),.ro false (di c_),.own (.sl 5 (aO.map ay.e)),.own (.sl 5 (aK.map ao.e)),.own (.sl 1 (aE.map ei)),.own (.sl 3 (aZ.map aJ.e)),.own (.sl 1 (ba.map ei)),.own (.sl 25 (s.1.map au.e)),.own (.sl 25 [])])),(48,AV.v k0 (D.sl 25 (az.map au.e)),none),(49,AV.v false (di (az.length:Nat)),none),(50,AV.v false (di ((s.1.length:Nat):Int)),none)]) (fun s=>az=s.1++s.2) (fun s=>s.2.length) ([],az) (by simp) rfl ?_;rintro ⟨pre,rest⟩ g1;simp only at g1;have y3:az.length=pre.length+rest.length:=by rw [g1,ze]
 rcases rest with _|⟨d,rest⟩
 ·simp only [zg,zn] at y3;simp only [zf] at g1;subst g1;have y4:¬((az.length:Nat):Int)<(az.length:Int):=by omega
  unfold Ih
  repeat' (first
   |with_reducible (first|refine wp_seq ?_|refine cJ ?_|refine wp_skip ?_|refine wp_exit ?_|refine wp_ret ?_|refine cH ?_|refine cI ?_|refine cG ?_|refine cp ?_|refine cq ?_|refine cn ?_|refine cE ?_|refine cD ?_|refine cF ?_|refine cB ?_|refine cA ?_|refine cx ?_|refine cw ?_|refine cz ?_|refine cy ?_)
   |(with_reducible refine cK fun K hK=>?_
     simp[y4]
     repeat' (with_reducible first|refine hK _ ?_|(refine bm ?_ ?_<;>(intro hc;(try rw [za] at hc);first|(exfalso;omega)|(try simp [hc,y4]))))
     all_goals (clear hK;clear K))
   |(with_reducible refine cP ?_
     refine ⟨_,rfl,?_,?_⟩<;>(intro hc;(try simp at hc);(all_goals first|(exfalso;omega)|skip))))
  refine bn (σ:=List an×List an) (fun s=>[(1,AV.bx 1 0,some (Rt.bx [.ro k0 (.sl 1 (aH.map ei)),.ro false (di c9),.ro false (di c8),.ro false (di dk),.ro false (di dj),.ro false (di dh),.ro false (di c_),.ro k0 (.sl 5 (aO.map ay.e)),.ro k0 (.sl 5 (aK.map ao.e)),.ro k0 (.sl 1 (aE.map ei)),.ro k0 (.sl 3 (aZ.map aJ.e)),.ro k0 (.sl 1 (ba.map ei)),.ro k0 (.sl 25 (az.map au.e)),.ro k0 (.sl 25 (aG.map an.e))])),(2,AV.bx 2 0,some (Rt.bx [.own (.sl 1 []),.ro false (di 0),.ro false (di 0),.ro false (di 0),.ro false (di 0),.ro false (di 0),.ro false (di 0),.own (.sl 5 []),.own (.sl 5 []),.own (.sl 1 []),.own (.sl 3 []),.own (.sl 1 []),.own (.sl 25 []),.own (.sl 25 [])])),(3,AV.bx 3 0,some (Rt.bx [.own (.sl 1 (aH.map ei)),.ro false (di c9),.ro false (di c8),.ro false (di dk),.ro false (di dj),.ro false (di dh),.ro false (di c_),.own (.sl 5 (aO.map ay.e)),.own (.sl 5 (aK.map ao.e)),.own (.sl 1 (aE.map ei)),.own (.sl 3 (aZ.map aJ.e)),.own (.sl 1 (ba.map ei)),.own (.sl 25 (az.map au.e)),.own (.sl 25 (s.1.map an.e))])),(63,AV.v k0 (D.sl 25 (aG.map an.e)),none),(64,AV.v false (di (aG.length:Nat)),none),(65,AV.v false (di ((s.1.length:Nat):Int)),none)]) (fun s=>aG=s.1++s.2) (fun s=>s.2.length) ([],aG) (by simp) rfl ?_;rintro ⟨pre,rest⟩ g1;simp only at g1;have y3:aG.length=pre.length+rest.length:=by rw [g1,ze]
  rcases rest with _|⟨d,rest⟩
  ·simp only [zg,zn] at y3;simp only [zf] at g1;subst g1;have y4:¬((aG.length:Nat):Int)<(aG.length:Int):=by omega
   unfold Ig
   repeat' (first
    |with_reducible (first|refine wp_seq ?_|refine cJ ?_|refine wp_skip ?_|refine wp_exit ?_|refine wp_ret ?_|refine cH ?_|refine cI ?_|refine cG ?_|refine cp ?_|refine cq ?_|refine cn ?_|refine cE ?_|refine cD ?_|refine cF ?_|refine cB ?_|refine cA ?_|refine cx ?_|refine cw ?_|refine cz ?_|refine cy ?_)
    |(with_reducible refine cK fun K hK=>?_
      simp[y4]
      repeat' (with_reducible first|refine hK _ ?_|(refine bm ?_ ?_<;>(intro hc;(try rw [za] at hc);first|(exfalso;omega)|(try simp [hc,y4]))))
      all_goals (clear hK;clear K))
    |(with_reducible refine cP ?_
      refine ⟨_,rfl,?_,?_⟩<;>(intro hc;(try simp at hc);(all_goals first|(exfalso;omega)|skip))))
   all_goals first|(simp [G'];done)|(exfalso;omega)
  ·simp only [zb] at y3;have hd:=hD d (by rw [g1];simp);simp only [an.sm,dC.sm,aa.fL,af.sm,eW.sm] at hd;have fE:aG[pre.length]?=some d:=by rw [g1];simp
   obtain ⟨ah,va⟩:=zd.1 fE;have y4:(pre.length:Int)<(aG.length:Int):=by omega
   have hw:IntKind.wrap .i64 ((pre.length:Int)+1)=(pre.length:Int)+1:=wrap_i64 (by omega) (by omega);have hq:(pre.length+1)*280≤70368744177664:=by omega
   unfold Ig
   repeat' (first
    |with_reducible (first|refine wp_seq ?_|refine cJ ?_|refine wp_skip ?_|refine wp_exit ?_|refine wp_ret ?_|refine cH ?_|refine cI ?_|refine cG ?_|refine cp ?_|refine cq ?_|refine cn ?_|refine cE ?_|refine cD ?_|refine cF ?_|refine cB ?_|refine cA ?_|refine cx ?_|refine cw ?_|refine cz ?_|refine cy ?_)
    |(with_reducible refine cK fun K hK=>?_
      simp[fE,va,ah,y4,hw,hq,hd]
      repeat' (with_reducible first|refine hK _ ?_|(refine bm ?_ ?_<;>(intro hc;(try rw [za] at hc);first|(exfalso;omega)|(try simp [hc,fE,va,ah,y4,hw,hq,hd]))))
      all_goals (clear hK;clear K))
    |(with_reducible refine cP ?_
      refine ⟨_,rfl,?_,?_⟩<;>(intro hc;(try simp at hc);(all_goals first|(exfalso;omega)|skip))))
   all_goals first|exact ⟨(pre++[d],rest),by simp,(by simp only [zj];exact g1),by simp⟩|(exfalso;omega)
 ·simp only [zb] at y3;have hd:=gQ d (by rw [g1];simp);simp only [au.sm,dC.sm,aa.fL,af.sm,eW.sm] at hd;have fE:az[pre.length]?=some d:=by rw [g1];simp
  obtain ⟨ah,va⟩:=zd.1 fE;have y4:(pre.length:Int)<(az.length:Int):=by omega
  have hw:IntKind.wrap .i64 ((pre.length:Int)+1)=(pre.length:Int)+1:=wrap_i64 (by omega) (by omega);have hq:(pre.length+1)*288≤70368744177664:=by omega
  unfold Ih
  repeat' (first
   |with_reducible (first|refine wp_seq ?_|refine cJ ?_|refine wp_skip ?_|refine wp_exit ?_|refine wp_ret ?_|refine cH ?_|refine cI ?_|refine cG ?_|refine cp ?_|refine cq ?_|refine cn ?_|refine cE ?_|refine cD ?_|refine cF ?_|refine cB ?_|refine cA ?_|refine cx ?_|refine cw ?_|refine cz ?_|refine cy ?_)
   |(with_reducible refine cK fun K hK=>?_
     simp[fE,va,ah,y4,hw,hq,hd]
     repeat' (with_reducible first|refine hK _ ?_|(refine bm ?_ ?_<;>(intro hc;(try rw [za] at hc);first|(exfalso;omega)|(try simp [hc,fE,va,ah,y4,hw,hq,hd]))))
     all_goals (clear hK;clear K))
   |(with_reducible refine cP ?_
     refine ⟨_,rfl,?_,?_⟩<;>(intro hc;(try simp at hc);(all_goals first|(exfalso;omega)|skip))))
  all_goals first|exact ⟨(pre++[d],rest),by simp,(by simp only [zj];exact g1),by simp⟩|(exfalso;omega)
@[simp] theorem abB (iz:aH.length≤1048576) (iA:aO.length≤1048576) (iy:aK.length≤1048576) (iG:ao.aq aK) (iC:aE.length≤1048576) (iF:aZ.length≤1048576) (iD:ba.length≤1048576) (iE:az.length≤1048576) (gQ:au.aq az) (iB:aG.length≤1048576) (hD:an.aq aG):Gw TT 464 [.st [.ro k0 (.sl 1 (aH.map ei)),.ro false (di c9),.ro false (di c8),.ro false (di dk),.ro false (di dj),.ro false (di dh),.ro false (di c_),.ro k0 (.sl 5 (aO.map ay.e)),.ro k0 (.sl 5 (aK.map ao.e)),.ro k0 (.sl 1 (aE.map ei)),.ro k0 (.sl 3 (aZ.map aJ.e)),.ro k0 (.sl 1 (ba.map ei)),.ro k0 (.sl 25 (az.map au.e)),.ro k0 (.sl 25 (aG.map an.e))]]=some (.st [.own (.sl 1 (aH.map ei)),.ro false (di c9),.ro false (di c8),.ro false (di dk),.ro false (di dj),.ro false (di dh),.ro false (di c_),.own (.sl 5 (aO.map ay.e)),.own (.sl 5 (aK.map ao.e)),.own (.sl 1 (aE.map ei)),.own (.sl 3 (aZ.map aJ.e)),.own (.sl 1 (ba.map ei)),.own (.sl 25 (az.map au.e)),.own (.sl 25 (aG.map an.e))],[]):=by
 refine dw (F:=G_) rfl rfl ?_;show Wp _ Fk _ _;unfold Fk;have Ay:(0+aH.length)*8≤70368744177664:=by omega
 have AF:aH.length*8≤70368744177664:=by omega
 have AA:(0+aE.length)*8≤70368744177664:=by omega
 have AG:aE.length*8≤70368744177664:=by omega
 have AD:(0+aZ.length)*24≤70368744177664:=by omega
 have AI:aZ.length*24≤70368744177664:=by omega
 have AB:(0+ba.length)*8≤70368744177664:=by omega
 have AH:ba.length*8≤70368744177664:=by omega
 repeat' (first
  |with_reducible (first|refine wp_seq ?_|refine cJ ?_|refine wp_skip ?_|refine wp_exit ?_|refine wp_ret ?_|refine cH ?_|refine cI ?_|refine cG ?_|refine cp ?_|refine cq ?_|refine cn ?_|refine cE ?_|refine cD ?_|refine cF ?_|refine cB ?_|refine cA ?_|refine cx ?_|refine cw ?_|refine cz ?_|refine cy ?_)
  |(with_reducible refine cK fun K hK=>?_
    simp[iz,iA,iy,iG,iC,iF,iD,iE,gQ,iB,hD,Ay,AF,AA,AG,AD,AI,AB,AH]
    repeat' (with_reducible first|refine hK _ ?_|(refine bm ?_ ?_<;>(intro hc;(try rw [za] at hc);first|(exfalso;omega)|(try simp [hc,iz,iA,iy,iG,iC,iF,iD,iE,gQ,iB,hD,Ay,AF,AA,AG,AD,AI,AB,AH]))))
    all_goals (clear hK;clear K))
  |(with_reducible refine cP ?_
    refine ⟨_,rfl,?_,?_⟩<;>(intro hc;(try simp at hc);(all_goals first|(exfalso;omega)|skip))))
 refine bn (σ:=List au×List au) (fun s=>[(1,AV.bx 1 0,some (Rt.bx [.ro k0 (.sl 1 (aH.map ei)),.ro false (di c9),.ro false (di c8),.ro false (di dk),.ro false (di dj),.ro false (di dh),.ro false (di c_),.ro k0 (.sl 5 (aO.map ay.e)),.ro k0 (.sl 5 (aK.map ao.e)),.ro k0 (.sl 1 (aE.map ei)),.ro k0 (.sl 3 (aZ.map aJ.e)),.ro k0 (.sl 1 (ba.map ei)),.ro k0 (.sl 25 (az.map au.e)),.ro k0 (.sl 25 (aG.map an.e))])),(2,AV.bx 2 0,some (Rt.bx [.own (.sl 1 []),.ro false (di 0),.ro false (di 0),.ro false (di 0),.ro false (di 0),.ro false (di 0),.ro false (di 0),.own (.sl 5 []),.own (.sl 5 []),.own (.sl 1 []),.own (.sl 3 []),.own (.sl 1 []),.own (.sl 25 []),.own (.sl 25 [])])),(3,AV.bx 3 0,some (Rt.bx [.own (.sl 1 (aH.map ei)),.ro false (di c9),.ro false (di c8),.ro false (di dk),.ro false (di dj),.ro false (di dh),.ro false (di c_),.own (.sl 5 (aO.map ay.e)),.own (.sl 5 (aK.map ao.e)),.own (.sl 1 (aE.map ei)),.own (.sl 3 (aZ.map aJ.e)),.own (.sl 1 (ba.map ei)),.own (.sl 25 (s.1.map au.e)),.ro k0 (.sl 25 (aG.map an.e))])),(5,AV.v false (di ((s.1.length:Nat):Int)),none)]) (fun s=>az=s.1++s.2) (fun s=>s.2.length) ([],az) (by simp) rfl ?_;rintro ⟨pre,rest⟩ g1;simp only at g1;have y3:az.length=pre.length+rest.length:=by rw [g1,ze]
 rcases rest with _|⟨d,rest⟩
 ·simp only [zg,zn] at y3;simp only [zf] at g1;subst g1;have y4:¬((az.length:Nat):Int)<(az.length:Int):=by omega
  unfold Ie
  repeat' (first
   |with_reducible (first|refine wp_seq ?_|refine cJ ?_|refine wp_skip ?_|refine wp_exit ?_|refine wp_ret ?_|refine cH ?_|refine cI ?_|refine cG ?_|refine cp ?_|refine cq ?_|refine cn ?_|refine cE ?_|refine cD ?_|refine cF ?_|refine cB ?_|refine cA ?_|refine cx ?_|refine cw ?_|refine cz ?_|refine cy ?_)
   |(with_reducible refine cK fun K hK=>?_
     simp[y4,iz,iA,iy,iG,iC,iF,iD,iE,gQ,iB,hD,Ay,AF,AA,AG,AD,AI,AB,AH]
     repeat' (with_reducible first|refine hK _ ?_|(refine bm ?_ ?_<;>(intro hc;(try rw [za] at hc);first|(exfalso;omega)|(try simp [hc,y4,iz,iA,iy,iG,iC,iF,iD,iE,gQ,iB,hD,Ay,AF,AA,AG,AD,AI,AB,AH]))))
     all_goals (clear hK;clear K))
   |(with_reducible refine cP ?_
     refine ⟨_,rfl,?_,?_⟩<;>(intro hc;(try simp at hc);(all_goals first|(exfalso;omega)|skip))))
  all_goals first|(simp [G_];done)|(exfalso;omega)
 ·simp only [zb] at y3;have hd:=gQ d (by rw [g1];simp);simp only [au.sm,dC.sm,aa.fL,af.sm,eW.sm] at hd;have fE:az[pre.length]?=some d:=by rw [g1];simp
  obtain ⟨ah,va⟩:=zd.1 fE;have y4:(pre.length:Int)<(az.length:Int):=by omega
  have hw:IntKind.wrap .i64 ((pre.length:Int)+1)=(pre.length:Int)+1:=wrap_i64 (by omega) (by omega);have hq:(pre.length+1)*288≤70368744177664:=by omega
  unfold Ie
  repeat' (first
   |with_reducible (first|refine wp_seq ?_|refine cJ ?_|refine wp_skip ?_|refine wp_exit ?_|refine wp_ret ?_|refine cH ?_|refine cI ?_|refine cG ?_|refine cp ?_|refine cq ?_|refine cn ?_|refine cE ?_|refine cD ?_|refine cF ?_|refine cB ?_|refine cA ?_|refine cx ?_|refine cw ?_|refine cz ?_|refine cy ?_)
   |(with_reducible refine cK fun K hK=>?_
     simp[fE,va,ah,y4,hw,hq,hd]
     repeat' (with_reducible first|refine hK _ ?_|(refine bm ?_ ?_<;>(intro hc;(try rw [za] at hc);first|(exfalso;omega)|(try simp [hc,fE,va,ah,y4,hw,hq,hd]))))
     all_goals (clear hK;clear K))
   |(with_reducible refine cP ?_
     refine ⟨_,rfl,?_,?_⟩<;>(intro hc;(try simp at hc);(all_goals first|(exfalso;omega)|skip))))
  all_goals first|exact ⟨(pre++[d],rest),by simp,(by simp only [zj];exact g1),by simp⟩|(exfalso;omega)
def fx (D:List an) (h s u:Int):List an:=if 0≤h then (match D[h.toNat]? with
 |some d=>D.set h.toNat ⟨d.Op,d.Task,d.R,d.Id,d.Q,d.mN,1,s,d.Inv,u,d.tI⟩
 |none=>D) else D
theorem UC (D:List an) (h s u:Int):(fx D h s u).length=D.length:=by
 unfold fx;split
 ·split<;>simp
 ·rfl
theorem UD (D:List an) (hv s u:Int) (h:an.aq D):an.aq (fx D hv s u):=by
 unfold fx;split
 ·split
  ·rename_i d hd;have mo:=h d (List.mem_of_getElem? hd);intro y hy;rcases List.mem_or_eq_of_mem_set hy with hy|rfl
   ·exact h y hy
   ·exact mo
  ·exact h
 ·exact h
theorem JI:∀(l:List an) (n:Nat) (x y:an),l[n]?=some x→mS y=mS x→da (l.set n y)=da l
 |[],n,x,y,h,_=>by simp at h
 |z::l,0,x,y,h,e=>by simp at h;subst h;simp only [zo,da,e]
 |z::l,n+1,x,y,h,e=>by simp at h;simp only [zp,da,JI l n x y h e]
theorem NR (D:List an) (hv s u:Int):da (fx D hv s u)=da D:=by
 unfold fx;split
 ·split
  ·rename_i d hd;refine JI D _ d _ hd ?_;obtain ⟨a,b,c,e,⟨q,⟨x,y,z,⟨f,g,h⟩,i⟩,j,k⟩,⟨l,m,n,⟨o,p,v⟩⟩,w,r,t,s2,u2⟩:=d;simp only [mS]
  ·rfl
 ·rfl
def jQ (M:List Int) (id s:Int):Bool:=decide (0≤id)&&(match M[id.toNat]? with
 |some n=>ku n s
 |none=>false)
def lN (T:List au) (id:Int):Int:=if 0≤eA id 0 T then (match T[(eA id 0 T).toNat]? with
 |some t=>t.H
 |none=>-1) else -1
theorem IN (e:Int):∀(l:List au) (i:Int),eA e i l=-1∨(i≤eA e i l∧eA e i l<i+(l.length:Int))
 |[],i=>.inl rfl
 |d::l,i=>by
  simp only [eA];split
  ·right;simp;omega
  ·have:=IN e l (i+1);simp only [zb];omega
theorem B4 {M:List Int} {id s:Int} (h:jQ M id s=true):0≤id∧M[id.toNat]?=some (-1)∧0<s:=by
 simp only [jQ,Bool.and_eq_true,decide_eq_true_eq] at h;obtain ⟨h0,h1⟩:=h;split at h1
 ·rename_i n hn;simp only [ku,decide_eq_true_eq] at h1;exact ⟨h0,by rw [hn,h1.1],h1.2⟩
 ·cases h1
theorem JV {M:List Int} {id s:Int} (h:jQ M id s=false):¬(0≤id∧id<(M.length:Int))∨∃n,0≤id∧M[id.toNat]?=some n∧ku n s=false:=by
 by_cases h0:0≤id∧id<(M.length:Int)
 ·right;obtain ⟨n,hn⟩:∃n,M[id.toNat]?=some n:=⟨_,zh (by omega)⟩;refine ⟨n,h0.1,hn,?_⟩;simpa [jQ,h0.1,hn] using h
 ·exact .inl h0
theorem Mv (hm:aE.length≤1048576) (ht:az.length≤1048576) (hd:aG.length≤1048576) (aP:jQ aE id s=true):
 Gw TT 467 [.ptr [.own (.sl 1 (aH.map ei)),.ro false (di c9),.ro false (di c8),.ro false (di dk),.ro false (di dj),.ro false (di dh),.ro false (di c_),.own (.sl 5 (aO.map ay.e)),.own (.sl 5 (aK.map ao.e)),.own (.sl 1 (aE.map ei)),.own (.sl 3 (aZ.map aJ.e)),.own (.sl 1 (ba.map ei)),.own (.sl 25 (az.map au.e)),.own (.sl 25 (aG.map an.e))],vi id,vi s,vi u]=some (vb true,[(0,0,.own (.sl 1 (aH.map ei))),(0,1,.ro false (di c9)),(0,2,.ro false (di c8)),(0,3,.ro false (di dk)),(0,4,.ro false (di dj)),(0,5,.ro false (di dh)),(0,6,.ro false (di c_)),(0,7,.own (.sl 5 (aO.map ay.e))),(0,8,.own (.sl 5 (aK.map ao.e))),(0,9,.own (.sl 1 ((aE.set id.toNat s).map ei))),(0,10,.own (.sl 3 (aZ.map aJ.e))),(0,11,.own (.sl 1 (ba.map ei))),(0,12,.own (.sl 25 (az.map au.e))),(0,13,.own (.sl 25 ((fx aG (lN az id) s u).map an.e)))]):=by
 obtain ⟨i0,hg,s0⟩:=B4 aP;obtain ⟨ah,he⟩:=zd.1 hg;have i1:id<(aE.length:Int):=by omega
 have i2:id≤(aE.length:Int)-1:=by omega
 have hb:ku (-1) s=true:=by simp [ku,s0]
 have hv:mG (-1) s=s:=by simp [mG,s0]
 have hr:=IN id az 0;have hw:IntKind.wrap .i64 ((aE.length:Int)-1)=(aE.length:Int)-1:=wrap_i64 (by omega) (by omega)
 have hW:Gw TT 63 [.st [.ro true (.sl 1 (aH.map ei)),.ro false (di c9),.ro false (di c8),.ro false (di dk),.ro false (di dj),.ro false (di dh),.ro false (di c_),.ro true (.sl 5 (aO.map ay.e)),.ro true (.sl 5 (aK.map ao.e)),.ro true (.sl 1 ((aE.map ei).set id.toNat [.int .i64 s])),.ro true (.sl 3 (aZ.map aJ.e)),.ro true (.sl 1 (ba.map ei)),.ro true (.sl 25 (az.map au.e)),.ro true (.sl 25 (aG.map an.e))],vi id]=some (vi (eA id 0 az),[]):=by
  have:=t63 true aH c9 c8 dk dj dh c_ aO aK (aE.set id.toNat s) aZ ba az aG id ht;rw [zu] at this;exact this
 refine dw (F:=jd) rfl rfl ?_;show Wp _ xV _ _;unfold xV;by_cases hp:0≤eA id 0 az
 ·have eg:(eA id 0 az).toNat<az.length:=by omega
  have ln:eA id 0 az<(az.length:Int):=by omega
  obtain ⟨t,iV⟩:∃t,az[(eA id 0 az).toNat]?=some t:=⟨_,zh eg⟩;have ly:az[(eA id 0 az).toNat]=t:=(zd.1 iV).2;have eh:lN az id=t.H:=by simp [lN,hp,iV]
  have lz:IntKind.wrap .i64 ((aG.length:Int)-1)=(aG.length:Int)-1:=wrap_i64 (by omega) (by omega);by_cases hh:0≤t.H∧t.H<(aG.length:Int)
  ·obtain ⟨h1,h2⟩:=hh;have h3:t.H≤(aG.length:Int)-1:=by omega
   have oW:t.H.toNat<aG.length:=by omega
   obtain ⟨d,iS⟩:∃d,aG[t.H.toNat]?=some d:=⟨_,zh oW⟩;have u':aG[t.H.toNat]=d:=(zd.1 iS).2;have e2:fx aG t.H s u=aG.set t.H.toNat ⟨d.Op,d.Task,d.R,d.Id,d.Q,d.mN,1,s,d.Inv,u,d.tI⟩:=by simp [fx,h1,iS]
   repeat' (first
    |with_reducible (first|refine wp_seq ?_|refine cJ ?_|refine wp_skip ?_|refine wp_exit ?_|refine wp_ret ?_|refine cH ?_|refine cI ?_|refine cG ?_|refine cp ?_|refine cq ?_|refine cn ?_|refine cE ?_|refine cD ?_|refine cF ?_|refine cB ?_|refine cA ?_|refine cx ?_|refine cw ?_|refine cz ?_|refine cy ?_)
    |(with_reducible refine cK fun K hK=>?_
      simp[hm,ht,hd,i0,i1,i2,hw,hg,he,ah,hb,hv,hW,hp,eg,ln,iV,ly,h1,h2,h3,oW,iS,u',lz]
      repeat' (with_reducible first|refine hK _ ?_|(refine bm ?_ ?_<;>(intro hc;(try rw [za] at hc);first|(exfalso;omega)|(try simp [hc,hm,ht,hd,i0,i1,i2,hw,hg,he,ah,hb,hv,hW,hp,eg,ln,iV,ly,h1,h2,h3,oW,iS,u',lz]))))
      all_goals (clear hK;clear K))
    |(with_reducible refine cP ?_
      refine ⟨_,rfl,?_,?_⟩<;>(intro hc;(try simp at hc);(all_goals first|(exfalso;omega)|skip))))
   all_goals first|(simp [jd,eh,e2];done)|(exfalso;omega)|(simp_all [jd,eh,e2];done)
  ·have e2:fx aG t.H s u=aG:=by
    unfold fx;split
    ·rw [zm (by omega)]
    ·rfl
   by_cases h1:0≤t.H
   ·have h2:¬t.H<(aG.length:Int):=by omega
    have h3:¬t.H≤(aG.length:Int)-1:=by omega
    repeat' (first
     |with_reducible (first|refine wp_seq ?_|refine cJ ?_|refine wp_skip ?_|refine wp_exit ?_|refine wp_ret ?_|refine cH ?_|refine cI ?_|refine cG ?_|refine cp ?_|refine cq ?_|refine cn ?_|refine cE ?_|refine cD ?_|refine cF ?_|refine cB ?_|refine cA ?_|refine cx ?_|refine cw ?_|refine cz ?_|refine cy ?_)
     |(with_reducible refine cK fun K hK=>?_
       simp[hm,ht,hd,i0,i1,i2,hw,hg,he,ah,hb,hv,hW,hp,eg,ln,iV,ly,h1,h2,h3,lz,mU]
       repeat' (with_reducible first|refine hK _ ?_|(refine bm ?_ ?_<;>(intro hc;(try rw [za] at hc);first|(exfalso;omega)|(try simp [hc,hm,ht,hd,i0,i1,i2,hw,hg,he,ah,hb,hv,hW,hp,eg,ln,iV,ly,h1,h2,h3,lz,mU]))))
       all_goals (clear hK;clear K))
     |(with_reducible refine cP ?_
       refine ⟨_,rfl,?_,?_⟩<;>(intro hc;(try simp at hc);(all_goals first|(exfalso;omega)|skip))))
    all_goals first|(simp [jd,eh,e2];done)|(exfalso;omega)|(simp_all [jd,eh,e2];done)
   ·repeat' (first
     |with_reducible (first|refine wp_seq ?_|refine cJ ?_|refine wp_skip ?_|refine wp_exit ?_|refine wp_ret ?_|refine cH ?_|refine cI ?_|refine cG ?_|refine cp ?_|refine cq ?_|refine cn ?_|refine cE ?_|refine cD ?_|refine cF ?_|refine cB ?_|refine cA ?_|refine cx ?_|refine cw ?_|refine cz ?_|refine cy ?_)
     |(with_reducible refine cK fun K hK=>?_
       simp[hm,ht,hd,i0,i1,i2,hw,hg,he,ah,hb,hv,hW,hp,eg,ln,iV,ly,h1,lz,mU]
       repeat' (with_reducible first|refine hK _ ?_|(refine bm ?_ ?_<;>(intro hc;(try rw [za] at hc);first|(exfalso;omega)|(try simp [hc,hm,ht,hd,i0,i1,i2,hw,hg,he,ah,hb,hv,hW,hp,eg,ln,iV,ly,h1,lz,mU]))))
       all_goals (clear hK;clear K))
     |(with_reducible refine cP ?_
       refine ⟨_,rfl,?_,?_⟩<;>(intro hc;(try simp at hc);(all_goals first|(exfalso;omega)|skip))))
    all_goals first|(simp [jd,eh,e2];done)|(exfalso;omega)|(simp_all [jd,eh,e2];done)
 ·have e2:fx aG (lN az id) s u=aG:=by simp [fx,lN,hp]
  repeat' (first
   |with_reducible (first|refine wp_seq ?_|refine cJ ?_|refine wp_skip ?_|refine wp_exit ?_|refine wp_ret ?_|refine cH ?_|refine cI ?_|refine cG ?_|refine cp ?_|refine cq ?_|refine cn ?_|refine cE ?_|refine cD ?_|refine cF ?_|refine cB ?_|refine cA ?_|refine cx ?_|refine cw ?_|refine cz ?_|refine cy ?_)
   |(with_reducible refine cK fun K hK=>?_
     simp[hm,ht,hd,i0,i1,i2,hw,hg,he,ah,hb,hv,hW,hp]
     repeat' (with_reducible first|refine hK _ ?_|(refine bm ?_ ?_<;>(intro hc;(try rw [za] at hc);first|(exfalso;omega)|(try simp [hc,hm,ht,hd,i0,i1,i2,hw,hg,he,ah,hb,hv,hW,hp]))))
     all_goals (clear hK;clear K))
   |(with_reducible refine cP ?_
     refine ⟨_,rfl,?_,?_⟩<;>(intro hc;(try simp at hc);(all_goals first|(exfalso;omega)|skip))))
  all_goals first|(simp [jd,e2];done)|(exfalso;omega)|(simp_all [jd,e2];done)
theorem Mu (hm:aE.length≤1048576) (ht:az.length≤1048576) (hd:aG.length≤1048576) (aP:jQ aE id s=false):
 Gw TT 467 [.ptr [.own (.sl 1 (aH.map ei)),.ro false (di c9),.ro false (di c8),.ro false (di dk),.ro false (di dj),.ro false (di dh),.ro false (di c_),.own (.sl 5 (aO.map ay.e)),.own (.sl 5 (aK.map ao.e)),.own (.sl 1 (aE.map ei)),.own (.sl 3 (aZ.map aJ.e)),.own (.sl 1 (ba.map ei)),.own (.sl 25 (az.map au.e)),.own (.sl 25 (aG.map an.e))],vi id,vi s,vi u]=some (vb false,[(0,0,.own (.sl 1 (aH.map ei))),(0,1,.ro false (di c9)),(0,2,.ro false (di c8)),(0,3,.ro false (di dk)),(0,4,.ro false (di dj)),(0,5,.ro false (di dh)),(0,6,.ro false (di c_)),(0,7,.own (.sl 5 (aO.map ay.e))),(0,8,.own (.sl 5 (aK.map ao.e))),(0,9,.own (.sl 1 (aE.map ei))),(0,10,.own (.sl 3 (aZ.map aJ.e))),(0,11,.own (.sl 1 (ba.map ei))),(0,12,.own (.sl 25 (az.map au.e))),(0,13,.own (.sl 25 (aG.map an.e)))]):=by
 have hw:IntKind.wrap .i64 ((aE.length:Int)-1)=(aE.length:Int)-1:=wrap_i64 (by omega) (by omega);refine dw (F:=jd) rfl rfl ?_;show Wp _ xV _ _;unfold xV;rcases JV aP with h0|⟨n,i0,hg,hb⟩
 ·by_cases i0:0≤id
  ·have i1:¬id<(aE.length:Int):=by omega
   have i2:¬id≤(aE.length:Int)-1:=by omega
   repeat' (first
    |with_reducible (first|refine wp_seq ?_|refine cJ ?_|refine wp_skip ?_|refine wp_exit ?_|refine wp_ret ?_|refine cH ?_|refine cI ?_|refine cG ?_|refine cp ?_|refine cq ?_|refine cn ?_|refine cE ?_|refine cD ?_|refine cF ?_|refine cB ?_|refine cA ?_|refine cx ?_|refine cw ?_|refine cz ?_|refine cy ?_)
    |(with_reducible refine cK fun K hK=>?_
      simp[hm,i0,i1,i2,hw]
      repeat' (with_reducible first|refine hK _ ?_|(refine bm ?_ ?_<;>(intro hc;(try rw [za] at hc);first|(exfalso;omega)|(try simp [hc,hm,i0,i1,i2,hw]))))
      all_goals (clear hK;clear K))
    |(with_reducible refine cP ?_
      refine ⟨_,rfl,?_,?_⟩<;>(intro hc;(try simp at hc);(all_goals first|(exfalso;omega)|skip))))
   all_goals first|(simp [jd];done)|(exfalso;omega)|(simp_all [jd];done)
  ·repeat' (first
    |with_reducible (first|refine wp_seq ?_|refine cJ ?_|refine wp_skip ?_|refine wp_exit ?_|refine wp_ret ?_|refine cH ?_|refine cI ?_|refine cG ?_|refine cp ?_|refine cq ?_|refine cn ?_|refine cE ?_|refine cD ?_|refine cF ?_|refine cB ?_|refine cA ?_|refine cx ?_|refine cw ?_|refine cz ?_|refine cy ?_)
    |(with_reducible refine cK fun K hK=>?_
      simp[hm,i0,hw]
      repeat' (with_reducible first|refine hK _ ?_|(refine bm ?_ ?_<;>(intro hc;(try rw [za] at hc);first|(exfalso;omega)|(try simp [hc,hm,i0,hw]))))
      all_goals (clear hK;clear K))
    |(with_reducible refine cP ?_
      refine ⟨_,rfl,?_,?_⟩<;>(intro hc;(try simp at hc);(all_goals first|(exfalso;omega)|skip))))
   all_goals first|(simp [jd];done)|(exfalso;omega)|(simp_all [jd];done)
 ·obtain ⟨ah,he⟩:=zd.1 hg;have i1:id<(aE.length:Int):=by omega
  have i2:id≤(aE.length:Int)-1:=by omega
  repeat' (first
   |with_reducible (first|refine wp_seq ?_|refine cJ ?_|refine wp_skip ?_|refine wp_exit ?_|refine wp_ret ?_|refine cH ?_|refine cI ?_|refine cG ?_|refine cp ?_|refine cq ?_|refine cn ?_|refine cE ?_|refine cD ?_|refine cF ?_|refine cB ?_|refine cA ?_|refine cx ?_|refine cw ?_|refine cz ?_|refine cy ?_)
   |(with_reducible refine cK fun K hK=>?_
     simp[hm,i0,i1,i2,hw,hg,he,ah,hb]
     repeat' (with_reducible first|refine hK _ ?_|(refine bm ?_ ?_<;>(intro hc;(try rw [za] at hc);first|(exfalso;omega)|(try simp [hc,hm,i0,i1,i2,hw,hg,he,ah,hb]))))
     all_goals (clear hK;clear K))
   |(with_reducible refine cP ?_
     refine ⟨_,rfl,?_,?_⟩<;>(intro hc;(try simp at hc);(all_goals first|(exfalso;omega)|skip))))
  all_goals first|(simp [jd];done)|(exfalso;omega)|(simp_all [jd];done)
theorem Mt (hm:aE.length≤1048576) (ht:az.length≤1048576) (hd:aG.length≤1048576) (aP:jQ aE id s=true):
 Gw TT 465 [.ptr [.own (.sl 1 (aH.map ei)),.ro false (di c9),.ro false (di c8),.ro false (di dk),.ro false (di dj),.ro false (di dh),.ro false (di c_),.own (.sl 5 (aO.map ay.e)),.own (.sl 5 (aK.map ao.e)),.own (.sl 1 (aE.map ei)),.own (.sl 3 (aZ.map aJ.e)),.own (.sl 1 (ba.map ei)),.own (.sl 25 (az.map au.e)),.own (.sl 25 (aG.map an.e))],vi id,vi s,vi u]=some (vb true,[(0,0,.own (.sl 1 (aH.map ei))),(0,1,.ro false (di c9)),(0,2,.ro false (di c8)),(0,3,.ro false (di dk)),(0,4,.ro false (di dj)),(0,5,.ro false (di dh)),(0,6,.ro false (di c_)),(0,7,.own (.sl 5 (aO.map ay.e))),(0,8,.own (.sl 5 (aK.map ao.e))),(0,9,.own (.sl 1 ((aE.set id.toNat s).map ei))),(0,10,.own (.sl 3 (aZ.map aJ.e))),(0,11,.own (.sl 1 (ba.map ei))),(0,12,.own (.sl 25 (az.map au.e))),(0,13,.own (.sl 25 ((fx aG (lN az id) s u).map an.e)))]):=by
 obtain ⟨i0,hg,s0⟩:=B4 aP;obtain ⟨ah,he⟩:=zd.1 hg;have i1:id<(aE.length:Int):=by omega
 have i2:id≤(aE.length:Int)-1:=by omega
 have hb:ku (-1) s=true:=by simp [ku,s0]
 have hv:mG (-1) s=s:=by simp [mG,s0]
 have hr:=IN id az 0;have hw:IntKind.wrap .i64 ((aE.length:Int)-1)=(aE.length:Int)-1:=wrap_i64 (by omega) (by omega)
 have hW:Gw TT 344 [.st [.ro true (.sl 1 (aH.map ei)),.ro false (di c9),.ro false (di c8),.ro false (di dk),.ro false (di dj),.ro false (di dh),.ro false (di c_),.ro true (.sl 5 (aO.map ay.e)),.ro true (.sl 5 (aK.map ao.e)),.ro true (.sl 1 ((aE.map ei).set id.toNat [.int .i64 s])),.ro true (.sl 3 (aZ.map aJ.e)),.ro true (.sl 1 (ba.map ei)),.ro true (.sl 25 (az.map au.e)),.ro true (.sl 25 (aG.map an.e))],vi id]=some (vi (eA id 0 az),[]):=by
  have:=t344 true aH c9 c8 dk dj dh c_ aO aK (aE.set id.toNat s) aZ ba az aG id ht;rw [zu] at this;exact this
 refine dw (F:=jc) rfl rfl ?_;show Wp _ xU _ _;unfold xU;by_cases hp:0≤eA id 0 az
 ·have eg:(eA id 0 az).toNat<az.length:=by omega
  have ln:eA id 0 az<(az.length:Int):=by omega
  obtain ⟨t,iV⟩:∃t,az[(eA id 0 az).toNat]?=some t:=⟨_,zh eg⟩;have ly:az[(eA id 0 az).toNat]=t:=(zd.1 iV).2;have eh:lN az id=t.H:=by simp [lN,hp,iV]
  have lz:IntKind.wrap .i64 ((aG.length:Int)-1)=(aG.length:Int)-1:=wrap_i64 (by omega) (by omega);by_cases hh:0≤t.H∧t.H<(aG.length:Int)
  ·obtain ⟨h1,h2⟩:=hh;have h3:t.H≤(aG.length:Int)-1:=by omega
   have oW:t.H.toNat<aG.length:=by omega
   obtain ⟨d,iS⟩:∃d,aG[t.H.toNat]?=some d:=⟨_,zh oW⟩;have u':aG[t.H.toNat]=d:=(zd.1 iS).2;have e2:fx aG t.H s u=aG.set t.H.toNat ⟨d.Op,d.Task,d.R,d.Id,d.Q,d.mN,1,s,d.Inv,u,d.tI⟩:=by simp [fx,h1,iS]
   repeat' (first
    |with_reducible (first|refine wp_seq ?_|refine cJ ?_|refine wp_skip ?_|refine wp_exit ?_|refine wp_ret ?_|refine cH ?_|refine cI ?_|refine cG ?_|refine cp ?_|refine cq ?_|refine cn ?_|refine cE ?_|refine cD ?_|refine cF ?_|refine cB ?_|refine cA ?_|refine cx ?_|refine cw ?_|refine cz ?_|refine cy ?_)
    |(with_reducible refine cK fun K hK=>?_
      simp[hm,ht,hd,i0,i1,i2,hw,hg,he,ah,hb,hv,hW,hp,eg,ln,iV,ly,h1,h2,h3,oW,iS,u',lz]
      repeat' (with_reducible first|refine hK _ ?_|(refine bm ?_ ?_<;>(intro hc;(try rw [za] at hc);first|(exfalso;omega)|(try simp [hc,hm,ht,hd,i0,i1,i2,hw,hg,he,ah,hb,hv,hW,hp,eg,ln,iV,ly,h1,h2,h3,oW,iS,u',lz]))))
      all_goals (clear hK;clear K))
    |(with_reducible refine cP ?_
      refine ⟨_,rfl,?_,?_⟩<;>(intro hc;(try simp at hc);(all_goals first|(exfalso;omega)|skip))))
   all_goals first|(simp [jc,eh,e2];done)|(exfalso;omega)|(simp_all [jc,eh,e2];done)
  ·have e2:fx aG t.H s u=aG:=by
    unfold fx;split
    ·rw [zm (by omega)]
    ·rfl
   by_cases h1:0≤t.H
   ·have h2:¬t.H<(aG.length:Int):=by omega
    have h3:¬t.H≤(aG.length:Int)-1:=by omega
    repeat' (first
     |with_reducible (first|refine wp_seq ?_|refine cJ ?_|refine wp_skip ?_|refine wp_exit ?_|refine wp_ret ?_|refine cH ?_|refine cI ?_|refine cG ?_|refine cp ?_|refine cq ?_|refine cn ?_|refine cE ?_|refine cD ?_|refine cF ?_|refine cB ?_|refine cA ?_|refine cx ?_|refine cw ?_|refine cz ?_|refine cy ?_)
     |(with_reducible refine cK fun K hK=>?_
       simp[hm,ht,hd,i0,i1,i2,hw,hg,he,ah,hb,hv,hW,hp,eg,ln,iV,ly,h1,h2,h3,lz,mU]
       repeat' (with_reducible first|refine hK _ ?_|(refine bm ?_ ?_<;>(intro hc;(try rw [za] at hc);first|(exfalso;omega)|(try simp [hc,hm,ht,hd,i0,i1,i2,hw,hg,he,ah,hb,hv,hW,hp,eg,ln,iV,ly,h1,h2,h3,lz,mU]))))
       all_goals (clear hK;clear K))
     |(with_reducible refine cP ?_
       refine ⟨_,rfl,?_,?_⟩<;>(intro hc;(try simp at hc);(all_goals first|(exfalso;omega)|skip))))
    all_goals first|(simp [jc,eh,e2];done)|(exfalso;omega)|(simp_all [jc,eh,e2];done)
   ·repeat' (first
     |with_reducible (first|refine wp_seq ?_|refine cJ ?_|refine wp_skip ?_|refine wp_exit ?_|refine wp_ret ?_|refine cH ?_|refine cI ?_|refine cG ?_|refine cp ?_|refine cq ?_|refine cn ?_|refine cE ?_|refine cD ?_|refine cF ?_|refine cB ?_|refine cA ?_|refine cx ?_|refine cw ?_|refine cz ?_|refine cy ?_)
     |(with_reducible refine cK fun K hK=>?_
       simp[hm,ht,hd,i0,i1,i2,hw,hg,he,ah,hb,hv,hW,hp,eg,ln,iV,ly,h1,lz,mU]
       repeat' (with_reducible first|refine hK _ ?_|(refine bm ?_ ?_<;>(intro hc;(try rw [za] at hc);first|(exfalso;omega)|(try simp [hc,hm,ht,hd,i0,i1,i2,hw,hg,he,ah,hb,hv,hW,hp,eg,ln,iV,ly,h1,lz,mU]))))
       all_goals (clear hK;clear K))
     |(with_reducible refine cP ?_
       refine ⟨_,rfl,?_,?_⟩<;>(intro hc;(try simp at hc);(all_goals first|(exfalso;omega)|skip))))
    all_goals first|(simp [jc,eh,e2];done)|(exfalso;omega)|(simp_all [jc,eh,e2];done)
 ·have e2:fx aG (lN az id) s u=aG:=by simp [fx,lN,hp]
  repeat' (first
   |with_reducible (first|refine wp_seq ?_|refine cJ ?_|refine wp_skip ?_|refine wp_exit ?_|refine wp_ret ?_|refine cH ?_|refine cI ?_|refine cG ?_|refine cp ?_|refine cq ?_|refine cn ?_|refine cE ?_|refine cD ?_|refine cF ?_|refine cB ?_|refine cA ?_|refine cx ?_|refine cw ?_|refine cz ?_|refine cy ?_)
   |(with_reducible refine cK fun K hK=>?_
     simp[hm,ht,hd,i0,i1,i2,hw,hg,he,ah,hb,hv,hW,hp]
     repeat' (with_reducible first|refine hK _ ?_|(refine bm ?_ ?_<;>(intro hc;(try rw [za] at hc);first|(exfalso;omega)|(try simp [hc,hm,ht,hd,i0,i1,i2,hw,hg,he,ah,hb,hv,hW,hp]))))
     all_goals (clear hK;clear K))
   |(with_reducible refine cP ?_
     refine ⟨_,rfl,?_,?_⟩<;>(intro hc;(try simp at hc);(all_goals first|(exfalso;omega)|skip))))
  all_goals first|(simp [jc,e2];done)|(exfalso;omega)|(simp_all [jc,e2];done)
theorem Mr (hm:aE.length≤1048576) (ht:az.length≤1048576) (hd:aG.length≤1048576) (aP:jQ aE id s=false):
 Gw TT 465 [.ptr [.own (.sl 1 (aH.map ei)),.ro false (di c9),.ro false (di c8),.ro false (di dk),.ro false (di dj),.ro false (di dh),.ro false (di c_),.own (.sl 5 (aO.map ay.e)),.own (.sl 5 (aK.map ao.e)),.own (.sl 1 (aE.map ei)),.own (.sl 3 (aZ.map aJ.e)),.own (.sl 1 (ba.map ei)),.own (.sl 25 (az.map au.e)),.own (.sl 25 (aG.map an.e))],vi id,vi s,vi u]=some (vb false,[(0,0,.own (.sl 1 (aH.map ei))),(0,1,.ro false (di c9)),(0,2,.ro false (di c8)),(0,3,.ro false (di dk)),(0,4,.ro false (di dj)),(0,5,.ro false (di dh)),(0,6,.ro false (di c_)),(0,7,.own (.sl 5 (aO.map ay.e))),(0,8,.own (.sl 5 (aK.map ao.e))),(0,9,.own (.sl 1 (aE.map ei))),(0,10,.own (.sl 3 (aZ.map aJ.e))),(0,11,.own (.sl 1 (ba.map ei))),(0,12,.own (.sl 25 (az.map au.e))),(0,13,.own (.sl 25 (aG.map an.e)))]):=by
 have hw:IntKind.wrap .i64 ((aE.length:Int)-1)=(aE.length:Int)-1:=wrap_i64 (by omega) (by omega);refine dw (F:=jc) rfl rfl ?_;show Wp _ xU _ _;unfold xU;rcases JV aP with h0|⟨n,i0,hg,hb⟩
 ·by_cases i0:0≤id
  ·have i1:¬id<(aE.length:Int):=by omega
   have i2:¬id≤(aE.length:Int)-1:=by omega
   repeat' (first
    |with_reducible (first|refine wp_seq ?_|refine cJ ?_|refine wp_skip ?_|refine wp_exit ?_|refine wp_ret ?_|refine cH ?_|refine cI ?_|refine cG ?_|refine cp ?_|refine cq ?_|refine cn ?_|refine cE ?_|refine cD ?_|refine cF ?_|refine cB ?_|refine cA ?_|refine cx ?_|refine cw ?_|refine cz ?_|refine cy ?_)
    |(with_reducible refine cK fun K hK=>?_
      simp[hm,i0,i1,i2,hw]
      repeat' (with_reducible first|refine hK _ ?_|(refine bm ?_ ?_<;>(intro hc;(try rw [za] at hc);first|(exfalso;omega)|(try simp [hc,hm,i0,i1,i2,hw]))))
      all_goals (clear hK;clear K))
    |(with_reducible refine cP ?_
      refine ⟨_,rfl,?_,?_⟩<;>(intro hc;(try simp at hc);(all_goals first|(exfalso;omega)|skip))))
   all_goals first|(simp [jc];done)|(exfalso;omega)|(simp_all [jc];done)
  ·repeat' (first
    |with_reducible (first|refine wp_seq ?_|refine cJ ?_|refine wp_skip ?_|refine wp_exit ?_|refine wp_ret ?_|refine cH ?_|refine cI ?_|refine cG ?_|refine cp ?_|refine cq ?_|refine cn ?_|refine cE ?_|refine cD ?_|refine cF ?_|refine cB ?_|refine cA ?_|refine cx ?_|refine cw ?_|refine cz ?_|refine cy ?_)
    |(with_reducible refine cK fun K hK=>?_
      simp[hm,i0,hw]
      repeat' (with_reducible first|refine hK _ ?_|(refine bm ?_ ?_<;>(intro hc;(try rw [za] at hc);first|(exfalso;omega)|(try simp [hc,hm,i0,hw]))))
      all_goals (clear hK;clear K))
    |(with_reducible refine cP ?_
      refine ⟨_,rfl,?_,?_⟩<;>(intro hc;(try simp at hc);(all_goals first|(exfalso;omega)|skip))))
   all_goals first|(simp [jc];done)|(exfalso;omega)|(simp_all [jc];done)
 ·obtain ⟨ah,he⟩:=zd.1 hg;have i1:id<(aE.length:Int):=by omega
  have i2:id≤(aE.length:Int)-1:=by omega
  repeat' (first
   |with_reducible (first|refine wp_seq ?_|refine cJ ?_|refine wp_skip ?_|refine wp_exit ?_|refine wp_ret ?_|refine cH ?_|refine cI ?_|refine cG ?_|refine cp ?_|refine cq ?_|refine cn ?_|refine cE ?_|refine cD ?_|refine cF ?_|refine cB ?_|refine cA ?_|refine cx ?_|refine cw ?_|refine cz ?_|refine cy ?_)
   |(with_reducible refine cK fun K hK=>?_
     simp[hm,i0,i1,i2,hw,hg,he,ah,hb]
     repeat' (with_reducible first|refine hK _ ?_|(refine bm ?_ ?_<;>(intro hc;(try rw [za] at hc);first|(exfalso;omega)|(try simp [hc,hm,i0,i1,i2,hw,hg,he,ah,hb]))))
     all_goals (clear hK;clear K))
   |(with_reducible refine cP ?_
     refine ⟨_,rfl,?_,?_⟩<;>(intro hc;(try simp at hc);(all_goals first|(exfalso;omega)|skip))))
  all_goals first|(simp [jc];done)|(exfalso;omega)|(simp_all [jc];done)
theorem Mq (iz:aH.length≤1048576) (iA:aO.length≤1048576) (iy:aK.length≤1048576) (iG:ao.aq aK) (iC:aE.length≤1048576) (iF:aZ.length≤1048576) (iD:ba.length≤1048576) (iE:az.length≤1048576) (gQ:au.aq az) (iB:aG.length≤1048576) (hD:an.aq aG) (aP:jQ aE id s=true):
 Gw TT 432 [.st [.ro k0 (.sl 1 (aH.map ei)),.ro false (di c9),.ro false (di c8),.ro false (di dk),.ro false (di dj),.ro false (di dh),.ro false (di c_),.ro k0 (.sl 5 (aO.map ay.e)),.ro k0 (.sl 5 (aK.map ao.e)),.ro k0 (.sl 1 (aE.map ei)),.ro k0 (.sl 3 (aZ.map aJ.e)),.ro k0 (.sl 1 (ba.map ei)),.ro k0 (.sl 25 (az.map au.e)),.ro k0 (.sl 25 (aG.map an.e))],vi id,vi s,vi u]=some (.bu [.st [.own (.sl 1 (aH.map ei)),.ro false (di c9),.ro false (di c8),.ro false (di dk),.ro false (di dj),.ro false (di dh),.ro false (di c_),.own (.sl 5 (aO.map ay.e)),.own (.sl 5 (aK.map ao.e)),.own (.sl 1 ((aE.set id.toNat s).map ei)),.own (.sl 3 (aZ.map aJ.e)),.own (.sl 1 (ba.map ei)),.own (.sl 25 (az.map au.e)),.own (.sl 25 ((fx aG (lN az id) s u).map an.e))],vb true],[]):=by
 refine dw (F:=x5) rfl rfl ?_;show Wp _ xT _ _;unfold xT
 repeat' (first
  |with_reducible (first|refine wp_seq ?_|refine cJ ?_|refine wp_skip ?_|refine wp_exit ?_|refine wp_ret ?_|refine cH ?_|refine cI ?_|refine cG ?_|refine cp ?_|refine cq ?_|refine cn ?_|refine cE ?_|refine cD ?_|refine cF ?_|refine cB ?_|refine cA ?_|refine cx ?_|refine cw ?_|refine cz ?_|refine cy ?_)
  |(with_reducible refine cK fun K hK=>?_
    simp[iz,iA,iy,iG,iC,iF,iD,iE,gQ,iB,hD,aP,Mv]
    repeat' (with_reducible first|refine hK _ ?_|(refine bm ?_ ?_<;>(intro hc;(try rw [za] at hc);first|(exfalso;omega)|(try simp [hc,iz,iA,iy,iG,iC,iF,iD,iE,gQ,iB,hD,aP,Mv]))))
    all_goals (clear hK;clear K))
  |(with_reducible refine cP ?_
    refine ⟨_,rfl,?_,?_⟩<;>(intro hc;(try simp at hc);(all_goals first|(exfalso;omega)|skip))))
 all_goals simp [x5]
theorem Mp (iz:aH.length≤1048576) (iA:aO.length≤1048576) (iy:aK.length≤1048576) (iG:ao.aq aK) (iC:aE.length≤1048576) (iF:aZ.length≤1048576) (iD:ba.length≤1048576) (iE:az.length≤1048576) (gQ:au.aq az) (iB:aG.length≤1048576) (hD:an.aq aG) (aP:jQ aE id s=false):
 Gw TT 432 [.st [.ro k0 (.sl 1 (aH.map ei)),.ro false (di c9),.ro false (di c8),.ro false (di dk),.ro false (di dj),.ro false (di dh),.ro false (di c_),.ro k0 (.sl 5 (aO.map ay.e)),.ro k0 (.sl 5 (aK.map ao.e)),.ro k0 (.sl 1 (aE.map ei)),.ro k0 (.sl 3 (aZ.map aJ.e)),.ro k0 (.sl 1 (ba.map ei)),.ro k0 (.sl 25 (az.map au.e)),.ro k0 (.sl 25 (aG.map an.e))],vi id,vi s,vi u]=some (.bu [.st [.own (.sl 1 (aH.map ei)),.ro false (di c9),.ro false (di c8),.ro false (di dk),.ro false (di dj),.ro false (di dh),.ro false (di c_),.own (.sl 5 (aO.map ay.e)),.own (.sl 5 (aK.map ao.e)),.own (.sl 1 (aE.map ei)),.own (.sl 3 (aZ.map aJ.e)),.own (.sl 1 (ba.map ei)),.own (.sl 25 (az.map au.e)),.own (.sl 25 (aG.map an.e))],vb false],[]):=by
 refine dw (F:=x5) rfl rfl ?_;show Wp _ xT _ _;unfold xT
 repeat' (first
  |with_reducible (first|refine wp_seq ?_|refine cJ ?_|refine wp_skip ?_|refine wp_exit ?_|refine wp_ret ?_|refine cH ?_|refine cI ?_|refine cG ?_|refine cp ?_|refine cq ?_|refine cn ?_|refine cE ?_|refine cD ?_|refine cF ?_|refine cB ?_|refine cA ?_|refine cx ?_|refine cw ?_|refine cz ?_|refine cy ?_)
  |(with_reducible refine cK fun K hK=>?_
    simp[iz,iA,iy,iG,iC,iF,iD,iE,gQ,iB,hD,aP,Mu]
    repeat' (with_reducible first|refine hK _ ?_|(refine bm ?_ ?_<;>(intro hc;(try rw [za] at hc);first|(exfalso;omega)|(try simp [hc,iz,iA,iy,iG,iC,iF,iD,iE,gQ,iB,hD,aP,Mu]))))
    all_goals (clear hK;clear K))
  |(with_reducible refine cP ?_
    refine ⟨_,rfl,?_,?_⟩<;>(intro hc;(try simp at hc);(all_goals first|(exfalso;omega)|skip))))
 all_goals simp [x5]
theorem Mo (iz:aH.length≤1048576) (iA:aO.length≤1048576) (iy:aK.length≤1048576) (iG:ao.aq aK) (iC:aE.length≤1048576) (iF:aZ.length≤1048576) (iD:ba.length≤1048576) (iE:az.length≤1048576) (gQ:au.aq az) (iB:aG.length≤1048576) (hD:an.aq aG) (aP:jQ aE id s=true):
 Gw TT 431 [.st [.ro k0 (.sl 1 (aH.map ei)),.ro false (di c9),.ro false (di c8),.ro false (di dk),.ro false (di dj),.ro false (di dh),.ro false (di c_),.ro k0 (.sl 5 (aO.map ay.e)),.ro k0 (.sl 5 (aK.map ao.e)),.ro k0 (.sl 1 (aE.map ei)),.ro k0 (.sl 3 (aZ.map aJ.e)),.ro k0 (.sl 1 (ba.map ei)),.ro k0 (.sl 25 (az.map au.e)),.ro k0 (.sl 25 (aG.map an.e))],vi id,vi s,vi u]=some (.bu [.st [.own (.sl 1 (aH.map ei)),.ro false (di c9),.ro false (di c8),.ro false (di dk),.ro false (di dj),.ro false (di dh),.ro false (di c_),.own (.sl 5 (aO.map ay.e)),.own (.sl 5 (aK.map ao.e)),.own (.sl 1 ((aE.set id.toNat s).map ei)),.own (.sl 3 (aZ.map aJ.e)),.own (.sl 1 (ba.map ei)),.own (.sl 25 (az.map au.e)),.own (.sl 25 ((fx aG (lN az id) s u).map an.e))],vb true],[]):=by
 refine dw (F:=x4) rfl rfl ?_;show Wp _ xS _ _;unfold xS
 repeat' (first
  |with_reducible (first|refine wp_seq ?_|refine cJ ?_|refine wp_skip ?_|refine wp_exit ?_|refine wp_ret ?_|refine cH ?_|refine cI ?_|refine cG ?_|refine cp ?_|refine cq ?_|refine cn ?_|refine cE ?_|refine cD ?_|refine cF ?_|refine cB ?_|refine cA ?_|refine cx ?_|refine cw ?_|refine cz ?_|refine cy ?_)
  |(with_reducible refine cK fun K hK=>?_
    simp[iz,iA,iy,iG,iC,iF,iD,iE,gQ,iB,hD,aP,Mt]
    repeat' (with_reducible first|refine hK _ ?_|(refine bm ?_ ?_<;>(intro hc;(try rw [za] at hc);first|(exfalso;omega)|(try simp [hc,iz,iA,iy,iG,iC,iF,iD,iE,gQ,iB,hD,aP,Mt]))))
    all_goals (clear hK;clear K))
  |(with_reducible refine cP ?_
    refine ⟨_,rfl,?_,?_⟩<;>(intro hc;(try simp at hc);(all_goals first|(exfalso;omega)|skip))))
 all_goals simp [x4]
theorem Mn (iz:aH.length≤1048576) (iA:aO.length≤1048576) (iy:aK.length≤1048576) (iG:ao.aq aK) (iC:aE.length≤1048576) (iF:aZ.length≤1048576) (iD:ba.length≤1048576) (iE:az.length≤1048576) (gQ:au.aq az) (iB:aG.length≤1048576) (hD:an.aq aG) (aP:jQ aE id s=false):
 Gw TT 431 [.st [.ro k0 (.sl 1 (aH.map ei)),.ro false (di c9),.ro false (di c8),.ro false (di dk),.ro false (di dj),.ro false (di dh),.ro false (di c_),.ro k0 (.sl 5 (aO.map ay.e)),.ro k0 (.sl 5 (aK.map ao.e)),.ro k0 (.sl 1 (aE.map ei)),.ro k0 (.sl 3 (aZ.map aJ.e)),.ro k0 (.sl 1 (ba.map ei)),.ro k0 (.sl 25 (az.map au.e)),.ro k0 (.sl 25 (aG.map an.e))],vi id,vi s,vi u]=some (.bu [.st [.own (.sl 1 (aH.map ei)),.ro false (di c9),.ro false (di c8),.ro false (di dk),.ro false (di dj),.ro false (di dh),.ro false (di c_),.own (.sl 5 (aO.map ay.e)),.own (.sl 5 (aK.map ao.e)),.own (.sl 1 (aE.map ei)),.own (.sl 3 (aZ.map aJ.e)),.own (.sl 1 (ba.map ei)),.own (.sl 25 (az.map au.e)),.own (.sl 25 (aG.map an.e))],vb false],[]):=by
 refine dw (F:=x4) rfl rfl ?_;show Wp _ xS _ _;unfold xS
 repeat' (first
  |with_reducible (first|refine wp_seq ?_|refine cJ ?_|refine wp_skip ?_|refine wp_exit ?_|refine wp_ret ?_|refine cH ?_|refine cI ?_|refine cG ?_|refine cp ?_|refine cq ?_|refine cn ?_|refine cE ?_|refine cD ?_|refine cF ?_|refine cB ?_|refine cA ?_|refine cx ?_|refine cw ?_|refine cz ?_|refine cy ?_)
  |(with_reducible refine cK fun K hK=>?_
    simp[iz,iA,iy,iG,iC,iF,iD,iE,gQ,iB,hD,aP,Mr]
    repeat' (with_reducible first|refine hK _ ?_|(refine bm ?_ ?_<;>(intro hc;(try rw [za] at hc);first|(exfalso;omega)|(try simp [hc,iz,iA,iy,iG,iC,iF,iD,iE,gQ,iB,hD,aP,Mr]))))
    all_goals (clear hK;clear K))
  |(with_reducible refine cP ?_
    refine ⟨_,rfl,?_,?_⟩<;>(intro hc;(try simp at hc);(all_goals first|(exfalso;omega)|skip))))
 all_goals simp [x4]
theorem JK:∀(l:List Int) (n:Nat) (x y:Int),l[n]?=some x→aj (l.set n y)=aj l
 |[],n,x,y,h=>by simp at h
 |z::l,0,x,y,h=>by simp at h;subst h;simp only [zo,aj,qF]
 |z::l,n+1,x,y,h=>by simp at h;simp only [zp,aj,JK l n x y h]
theorem U8 (iN:List Int) (oN oM:Int) (oR oQ:Int) (oP oO:Int) (iO:List ay) (gY:List ao) (fB:List Int) (iQ:List aJ) (iP:List Int) (gN:List au) (fA:List an) (kY aS mO:Int) (qU:iN.length≤9223372036854775807) (qV:iO.length≤9223372036854775807) (qT:gY.length≤9223372036854775807) (rb:ao.aV gY) (qX:fB.length≤9223372036854775807) (q_:iQ.length≤9223372036854775807) (qY:iP.length≤9223372036854775807) (qZ:gN.length≤9223372036854775807) (rh:au.aV gN) (qW:fA.length≤9223372036854775807) (re:an.aV fA) (aP:jQ fB kY aS=true):Gw TT 416 [.st [.ro false (.sl 1 (iN.map ei)),.ro false (di oN),.ro false (di oM),.ro false (di oR),.ro false (di oQ),.ro false (di oP),.ro false (di oO),.ro false (.sl 5 (iO.map ay.e)),.ro false (.sl 5 (gY.map ao.e)),.ro false (.sl 1 (fB.map ei)),.ro false (.sl 3 (iQ.map aJ.e)),.ro false (.sl 1 (iP.map ei)),.ro false (.sl 25 (gN.map au.e)),.ro false (.sl 25 (fA.map an.e))],.one (.ro false (di kY)),.one (.ro false (di aS)),.one (.ro false (di mO))]=some (vb true,[]):=by
 refine dw (F:=qk) rfl rfl ?_;show Wp _ xR _ _;unfold xR;obtain ⟨n1,g1,a1,b1,s1⟩:=t233 false iN oN oM oR oQ oP oO iO gY fB iQ iP gN fA 1048576 (by omega) (by omega) qU qV qT rb qX q_ qY qZ rh qW re
 repeat' (first
  |with_reducible (first|refine wp_seq ?_|refine cJ ?_|refine wp_skip ?_|refine wp_exit ?_|refine wp_ret ?_|refine cH ?_|refine cI ?_|refine cG ?_|refine cp ?_|refine cq ?_|refine cn ?_|refine cE ?_|refine cD ?_|refine cF ?_|refine cB ?_|refine cA ?_|refine cx ?_|refine cw ?_|refine cz ?_|refine cy ?_)
  |(with_reducible refine cK fun K hK=>?_
    simp[g1]
    repeat' (with_reducible first|refine hK _ ?_|(refine bm ?_ ?_<;>(intro hc;(try rw [za] at hc);first|(exfalso;omega)|(try simp [hc,g1]))))
    all_goals (clear hK;clear K))
  |(with_reducible refine cP ?_
    refine ⟨_,rfl,?_,?_⟩<;>(intro hc;(try simp at hc);(all_goals first|(exfalso;omega)|skip))))
 ·simp [qk]
 have q1:=s1 (by omega);obtain ⟨wh,wi,wg,wF,wk,wq,wm,wo,wG,wj,um⟩:=q1;obtain ⟨nb,gb,ab,bb,sb⟩:=Mm false iN oN oM oR oQ oP oO iO gY fB iQ iP gN fA 1048576 (by omega) (by omega) qU qV qT rb qX q_ qY qZ rh qW re;have eb:n1=nb:=by have:=g1.symm.trans gb;simpa using this
 have qb:=sb (by omega);have ND:=eu iN;have NF:=kJ iO;have NG:=rR gY;have NH:=eu fB;have NI:=rU iQ;have NJ:=eu iP;have NK:=rY gN;have NL:=rV fA;have uP:1+aj iN+aX iO+bD gY+aj fB+bU iQ+aj iP+db gN+da fA≤4611686018427387904:=by omega
 obtain ⟨_,Po,_⟩:=B4 aP;have Oy:(fB.set kY.toNat aS).length=fB.length:=by simp
 have Oz:=JK fB kY.toNat _ aS Po;generalize Ld:lN gN kY=pv;have hD1:=UC fA pv aS mO;have Kw:=UD fA pv aS mO um;have hD3:=NR fA pv aS mO;generalize jY:fB.set kY.toNat aS=nM at Oy Oz;have Kz:nM.length≤1048576:=by omega
 have Kx:(fx fA pv aS mO).length≤1048576:=by omega
 have Jm:1+aj iN+aX iO+bD gY+aj nM+bU iQ+aj iP+db gN+da (fx fA pv aS mO)≤4611686018427387904:=by omega
 repeat' (first
  |with_reducible (first|refine wp_seq ?_|refine cJ ?_|refine wp_skip ?_|refine wp_exit ?_|refine wp_ret ?_|refine cH ?_|refine cI ?_|refine cG ?_|refine cp ?_|refine cq ?_|refine cn ?_|refine cE ?_|refine cD ?_|refine cF ?_|refine cB ?_|refine cA ?_|refine cx ?_|refine cw ?_|refine cz ?_|refine cy ?_)
  |(with_reducible refine cK fun K hK=>?_
    simp[wh,wi,wg,wF,wk,wq,wm,wo,wG,wj,um,uP,Jm,Kz,Kw,Kx,Ld,jY,aP,Mo,Mq]
    repeat' (with_reducible first|refine hK _ ?_|(refine bm ?_ ?_<;>(intro hc;(try rw [za] at hc);first|(exfalso;omega)|(try simp [hc,wh,wi,wg,wF,wk,wq,wm,wo,wG,wj,um,uP,Jm,Kz,Kw,Kx,Ld,jY,aP,Mo,Mq]))))
    all_goals (clear hK;clear K))
  |(with_reducible refine cP ?_
    refine ⟨_,rfl,?_,?_⟩<;>(intro hc;(try simp at hc);(all_goals first|(exfalso;omega)|skip))))
 all_goals first|(simp [qk];done)|(simp_all [qk];done)
theorem U7 (iN:List Int) (oN oM:Int) (oR oQ:Int) (oP oO:Int) (iO:List ay) (gY:List ao) (fB:List Int) (iQ:List aJ) (iP:List Int) (gN:List au) (fA:List an) (kY aS mO:Int) (qU:iN.length≤9223372036854775807) (qV:iO.length≤9223372036854775807) (qT:gY.length≤9223372036854775807) (rb:ao.aV gY) (qX:fB.length≤9223372036854775807) (q_:iQ.length≤9223372036854775807) (qY:iP.length≤9223372036854775807) (qZ:gN.length≤9223372036854775807) (rh:au.aV gN) (qW:fA.length≤9223372036854775807) (re:an.aV fA) (aP:jQ fB kY aS=false):Gw TT 416 [.st [.ro false (.sl 1 (iN.map ei)),.ro false (di oN),.ro false (di oM),.ro false (di oR),.ro false (di oQ),.ro false (di oP),.ro false (di oO),.ro false (.sl 5 (iO.map ay.e)),.ro false (.sl 5 (gY.map ao.e)),.ro false (.sl 1 (fB.map ei)),.ro false (.sl 3 (iQ.map aJ.e)),.ro false (.sl 1 (iP.map ei)),.ro false (.sl 25 (gN.map au.e)),.ro false (.sl 25 (fA.map an.e))],.one (.ro false (di kY)),.one (.ro false (di aS)),.one (.ro false (di mO))]=some (vb true,[]):=by
 refine dw (F:=qk) rfl rfl ?_;show Wp _ xR _ _;unfold xR;obtain ⟨n1,g1,a1,b1,s1⟩:=t233 false iN oN oM oR oQ oP oO iO gY fB iQ iP gN fA 1048576 (by omega) (by omega) qU qV qT rb qX q_ qY qZ rh qW re
 repeat' (first
  |with_reducible (first|refine wp_seq ?_|refine cJ ?_|refine wp_skip ?_|refine wp_exit ?_|refine wp_ret ?_|refine cH ?_|refine cI ?_|refine cG ?_|refine cp ?_|refine cq ?_|refine cn ?_|refine cE ?_|refine cD ?_|refine cF ?_|refine cB ?_|refine cA ?_|refine cx ?_|refine cw ?_|refine cz ?_|refine cy ?_)
  |(with_reducible refine cK fun K hK=>?_
    simp[g1]
    repeat' (with_reducible first|refine hK _ ?_|(refine bm ?_ ?_<;>(intro hc;(try rw [za] at hc);first|(exfalso;omega)|(try simp [hc,g1]))))
    all_goals (clear hK;clear K))
  |(with_reducible refine cP ?_
    refine ⟨_,rfl,?_,?_⟩<;>(intro hc;(try simp at hc);(all_goals first|(exfalso;omega)|skip))))
 ·simp [qk]
 have q1:=s1 (by omega);obtain ⟨wh,wi,wg,wF,wk,wq,wm,wo,wG,wj,um⟩:=q1;obtain ⟨nb,gb,ab,bb,sb⟩:=Mm false iN oN oM oR oQ oP oO iO gY fB iQ iP gN fA 1048576 (by omega) (by omega) qU qV qT rb qX q_ qY qZ rh qW re;have eb:n1=nb:=by have:=g1.symm.trans gb;simpa using this
 have qb:=sb (by omega);have ND:=eu iN;have NF:=kJ iO;have NG:=rR gY;have NH:=eu fB;have NI:=rU iQ;have NJ:=eu iP;have NK:=rY gN;have NL:=rV fA;have uP:1+aj iN+aX iO+bD gY+aj fB+bU iQ+aj iP+db gN+da fA≤4611686018427387904:=by omega
 repeat' (first
  |with_reducible (first|refine wp_seq ?_|refine cJ ?_|refine wp_skip ?_|refine wp_exit ?_|refine wp_ret ?_|refine cH ?_|refine cI ?_|refine cG ?_|refine cp ?_|refine cq ?_|refine cn ?_|refine cE ?_|refine cD ?_|refine cF ?_|refine cB ?_|refine cA ?_|refine cx ?_|refine cw ?_|refine cz ?_|refine cy ?_)
  |(with_reducible refine cK fun K hK=>?_
    simp[wh,wi,wg,wF,wk,wq,wm,wo,wG,wj,um,uP,aP,Mn,Mp]
    repeat' (with_reducible first|refine hK _ ?_|(refine bm ?_ ?_<;>(intro hc;(try rw [za] at hc);first|(exfalso;omega)|(try simp [hc,wh,wi,wg,wF,wk,wq,wm,wo,wG,wj,um,uP,aP,Mn,Mp]))))
    all_goals (clear hK;clear K))
  |(with_reducible refine cP ?_
    refine ⟨_,rfl,?_,?_⟩<;>(intro hc;(try simp at hc);(all_goals first|(exfalso;omega)|skip))))
 all_goals first|(simp [qk];done)|(simp_all [qk];done)
structure I9 where
 V:af
 K:Int
 deriving Inhabited
@[simp] def I9.e (x:I9):List D:=[di x.V.Ty,di x.V.N,.str x.V.S,di x.K]
end Go.Proofs.YtohlfelngklcfaaGreat.OM
