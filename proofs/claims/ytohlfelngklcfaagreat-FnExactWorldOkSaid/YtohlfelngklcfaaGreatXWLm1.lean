/- A part of the proof. -/
import Derived.Test.YtohlfelngklcfaaGreatXWLm0
set_option linter.all false
namespace Go.Proofs.YtohlfelngklcfaaGreat.OM
open List renaming getElem?_eq_some_iff→za,length_append→zb,length_cons→zd,length_nil→ze,map→zg,append_nil→zh,getElem?_eq_getElem→zi,mem_cons→zj,mem_of_getElem?→zk,replicate→zq,pairwise_cons→zr,map_nil→zu,length_drop→zw,drop→zx,getElem?_eq_none→zy,mem_append→zz,mem_map→zA,append_assoc→zB,flatMap_nil→zD,take_of_length_le→zF,take→zG,length_eq_zero_iff→zH,map_drop→zI,replicate_succ'→zJ,map_append→zL,getElem?_append_left→zM,length→zN,drop_of_length_le→zO,length_take→zP,flatMap_cons→zT,filterMap_cons_some→zV,drop_drop→zX,drop_zero→zZ,take_append_drop→z_,set_append_right→Za,length_pos_iff→Zb,filterMap_cons→Zc,mem_flatMap→Zh,cons_append→Zi,take_left→Zk,map_take→Zl
open Int renaming eq_ofNat_of_zero_le→zf,toNat_natCast→zo,add_sub_cancel→zt,tdiv_eq_ediv_of_nonneg→zK,fdiv_eq_ediv_of_nonneg→zR,tmod_eq_emod_of_nonneg→zS,toNat_zero→zY,le_refl→Zg
open Option.some renaming injEq→zm
open Bool renaming and_eq_true→zn,eq_false_iff→Zf
open Prod.mk renaming injEq→zp
open Decidable renaming not_not→zC
open Nat renaming mul_le_mul→zQ,zero_add→zU,le_refl→zW,succ_mul→Zd,or_lt_two_pow→Ze,div_le_self→Zj
open UInt8 renaming not_lt→Zm,ofNat→Zn
set_option maxHeartbeats 4000000
set_option maxRecDepth 100000
variable (oB:Int) (x:an) (s:ByteArray) (cols:List Int) (k0 k1:Bool) (b:List Int) (d:List ab) (af rA:List Int) (iL xZ eu:Int) (oC:List aA) (n u w dB ax x8 fP cd ty du aM xX iy sA nG k:Int) (xY:Bool) (bJ:ByteArray) (aG:Int) (fA:List bp) (qL nF kN ak:Int) (eI:List Int) (nH kL aI nJ:Int) (ft:ByteArray) (aK nI:Int) (au:List aL) (ke:ByteArray) (ae:List aU) (ik:List an) (aj:List Int) (cH:Int) (aw:List cD) (cG:Int) (j_ aH:List Int) (jl sF dG cO:Int) (aq:List bM) (jO dF:Int) (az:List ca) (dU:List ab) (cV:ByteArray) (bo aW fB bz ay iN bV dO iP bj:Int) (bq:List ab) (iO aZ bf iQ bB iS bD iR bC:Int) (fD:ByteArray) (bE:Int) (dQ:List an) (bH iM bF:Int) (fC:List Int) (bw:ByteArray) (mX:List aA) (jR:Int) (br:List an) (uv ef bA:Int) (uu:Bool) (ao:List aL) (bu:List Int) (ux jP bt uw jQ bY:Int) (pX:ByteArray) (aF:List aL) (sy aR sE bm sB bX sC bW sD aO:Int) (b_:Bool) (b9:List aA) (cQ kd cS:Int) (l cj:List ab) (left cp cx cz cy cA cC cB:Int) (ct:ByteArray) (cg:List an) (cw:Int) (cq:List Int) (de:List aA) (dc:Int) (db:Bool) (dj dg:Int) (dh:ByteArray) (cZ dm c9 c_ cR:Int)
@[simp] theorem asq (l:List Int) (w:Int) (h:l.length≤1048576):Gw TT 574 [.one (rl k0 1 (l.map ei)),vi w]=some (.one (.own (.sl 1 ((ji l w).map eb))),[]):=by
 refine Ga Hl Qz ?_;unfold Qz;by_cases q1:ln w l=true∧(0≤w∧w≤31)
 ·obtain ⟨q2,q3⟩:=q1;obtain ⟨wn,rfl⟩:=zf q3.1;have q4:(wn:Int)≤31:=q3.2;have qv:ji l (wn:Int)=ou wn l [] 0:=by simp [ji,q2,q4]
  refine Uw (J3 q2 q4 h) ?_;refine ba (σ:=(List Int×List Int)×(List Int×Nat)) (fun s=>[(0,AV.v k0 (D.sl 1 (l.map ei)),none),(1,vn (wn:Nat),none),(5,AV.pl 5 0 [],some (Rt.aX [C.own (D.sl 1 ((s.2.1).map eb))])),(6,vn (s.2.2:Nat),none),(7,vn (s.1.1.length:Nat),none)]) (fun s=>l=s.1.1++s.1.2∧s.2.2=s.1.1.length*wn∧s.2.1.length=(s.2.2+7)/8∧bI s.2.1∧ou wn l [] 0=ou wn s.1.2 s.2.1 s.2.2) (fun s=>s.1.2.length) (([],l),([],0)) (by simp) ⟨rfl,by simp,by simp,qd,rfl⟩ ?_;rintro ⟨⟨pre,rest⟩,⟨o,p⟩⟩ ⟨y1,y2,y3,y4,y5⟩;simp only at y1 y2 y3 y4 y5;have fc:l.length=pre.length+rest.length:=by rw [y1,zb]
  cases rest with
  |nil=>
   have c1:¬(pre.length:Int)<(l.length:Int):=by simp at fc;omega
   simp only [ou] at y5;unfold T6;refine Uw c1 ?_;simp [Hl,qv,y5]
  |cons x rest=>
   have c1:(pre.length:Int)<(l.length:Int):=by simp at fc;omega
   have hx:=JP q2 x (by rw [y1];simp);obtain ⟨xn,rfl⟩:=zf hx.1;simp only [ou,zo] at y5;have mc:l[pre.length]?=some (xn:Int):=by rw [y1];simp
   obtain ⟨iF,mg⟩:=za.1 mc;have cJ:p≤1048576*31:=by rw [y2];exact zQ (by simp at fc;omega) (by omega)
   have fZ:=Wi ((pre.length:Int)+1);obtain ⟨O,hO⟩:∃O,O=qE xn wn 0 o p:=⟨_,rfl⟩;have Km:O.length=(p+wn+7)/8:=by rw [hO];exact HC xn wn 0 o p y3
   have Kl:bI O:=by rw [hO];exact HD xn wn 0 o p y4
   rw [←hO] at y5;unfold T6;refine Uw c1 ?_;refine ba (σ:=Nat×List Int) (fun s=>[(0,AV.v k0 (D.sl 1 (l.map ei)),none),(1,vn (wn:Nat),none),(5,AV.pl 5 0 [],some (Rt.aX [C.own (D.sl 1 ((s.2).map eb))])),(6,vn (p+s.1:Nat),none),(7,vn (pre.length:Nat),none),(8,vn (s.1:Nat),none)]) (fun s=>s.1≤wn∧s.2.length=(p+s.1+7)/8∧bI s.2∧O=qE xn (wn-s.1) s.1 s.2 (p+s.1)) (fun s=>wn-s.1) (0,o) (by simp) ⟨by simp,y3,y4,by simpa using hO⟩ ?_;rintro ⟨k,s⟩ ⟨x1,x2,x3,x4⟩;simp only at x1 x2 x3 x4;by_cases e1:k=wn
   ·subst e1;simp only [Nat.sub_self,qE] at x4;subst x4;unfold T5;refine Uw fZ ?_;exact ⟨((pre++[(xn:Int)],rest),(O,p+k)),by simp,⟨by rw [y1];simp,by simp [y2,Zd],Km,Kl,y5⟩,by simp⟩
   ·have e2:(k:Int)<(wn:Int):=by omega
    rw [show wn-k=(wn-(k+1))+1 by omega] at x4;simp only [qE] at x4;have z1:=Wi ((p:Int)+(k:Int)+1);have z2:=Wi ((k:Int)+1);obtain ⟨n,hn⟩:∃n,n=p+k:=⟨_,rfl⟩;have oQ:(p:Int)+(k:Int)=(n:Int):=by omega
    rw [←hn] at x2 x4;rw [oQ] at z1;have BW:¬(k:Int)<0:=by omega
    have b1:min k IntKind.i64.bits=k:=by simp [IntKind.bits];omega
    obtain ⟨q,hq⟩:∃q,q=xn/2^k:=⟨_,rfl⟩;have hql:q≤xn:=by rw [hq];exact Zj _ _
    have b2:(xn:Int).fdiv (2^k)=(q:Int):=by rw [zR _ (Int.le_of_lt (Int.pow_pos (by omega))),hq];simp
    have b3:q%2^IntKind.i64.bits=q:=by simp only [IntKind.bits];omega
    have b4:1%2^IntKind.i64.bits=1:=by simp [IntKind.bits]
    have b5:=Wi ((q:Int)%2);obtain ⟨v,hv⟩:∃v,v=q%2:=⟨_,rfl⟩;have b6:(q:Int)%2=(v:Int):=by rw [hv];simp
    have pL:v≤1:=by omega
    obtain ⟨m,hm⟩:∃m,m=n%8:=⟨_,rfl⟩;have nW:m≤7:=by omega
    have d1:=Wi ((n:Int)/8);have d2:(n:Int).tdiv 8=(n:Int)/8:=zK (by omega);have d3:(n:Int).tmod 8=(m:Int):=by rw [zS (by omega),hm];simp
    have d5:(n:Int)%8=(m:Int):=by rw [hm];simp
    have d4:((n:Int)/8).toNat=n/8:=by omega
    have m0:¬(m:Int)<0:=by omega
    have m1:min m IntKind.i64.bits=m:=by simp [IntKind.bits];omega
    have m2:min m IntKind.u8.bits=m:=by simp [IntKind.bits];omega
    have m3:IntKind.wrap .i64 (m:Int)=(m:Int):=wrap_i64 (by omega) (by omega);rw [←hq,←hv] at x4;have BI:=Ka x2;have hgo:=aad (n:=n) x3;obtain ⟨G,hG⟩:∃G,G=grow s n:=⟨_,rfl⟩;rw [←hG] at BI hgo;have xf:n/8<G.length:=by omega
    obtain ⟨c,eX⟩:∃c,G[n/8]?=some c:=⟨_,zi xf⟩;have aB:G[n/8]=c:=(za.1 eX).2;have fT:=hgo c (zk eX);obtain ⟨cn,rfl⟩:=zf fT.1
    have d_:rz s n v=G.set (n/8) ((cn ||| v*2^m:Nat):Int):=by
     unfold rz tT;rw [←hG,eX,hm];simp
    have g1:(0:Int)≤(n:Int)/8:=by omega
    have g2:(n:Int)/8<(G.length:Int):=by omega
    have lC:(s.length+1)*1≤70368744177664:=by omega
    have F0:s.length+1≤70368744177664:=by omega
    obtain ⟨t,ht⟩:∃t,t=2^m:=⟨_,rfl⟩;have Dy:t≤128:=by rw [ht];exact Nat.pow_le_pow_right (by omega) nW
    have t1:IntKind.wrap .u8 (2^m)=(t:Int):=by rw [show (2:Int)^m=(t:Int) by rw [ht];simp];exact wrap_u8 (by omega) (by omega)
    have t2:cn%2^IntKind.u8.bits=cn:=by simp only [IntKind.bits];omega
    have t3:t%2^IntKind.u8.bits=t:=by simp only [IntKind.bits];omega
    have hor:cn ||| t<2^8:=Ze (by omega) (by omega)
    have t4:IntKind.wrap .u8 ((cn ||| t:Nat):Int)=((cn ||| t:Nat):Int):=wrap_u8 (by omega) (by omega);have qz:=UT (v:=v) x2;have tJ:=UU (n:=n) x3 pL;unfold T5;by_cases u3:v=1
    ·by_cases u1:m=0
     ·skip;have u2:G=s++[0]:=by rw [hG];unfold grow;rw [if_pos (by omega)]
      have u4:zg eb s++[[D.int IntKind.u8 0]]=zg eb G:=by rw [u2];simp
      subst u3;rw [Nat.one_mul,←ht] at d_;have t5:t=1:=by simp [ht,u1]
      subst t5;have r7:1%2^IntKind.u8.bits=1:=by simp [IntKind.bits]
      refine Uw (J8 e2 oQ z1 z2 BW b1 b2 (J8 b3 b4 b5 b6 d1 d2 d3 (J8 d5 d4 m0 m1 m2 m3 mc (J8 iF mg xf eX aB g1 g2 (J8 lC F0 u1 u4 @t1 @t2 @t3 (J2 @t4 r7)))))) ?_;exact ⟨(k+1,G.set (n/8) ((cn ||| 1:Nat):Int)),(by simp;try omega),⟨by omega,by rw [←d_,qz];first|(congr 1;omega)|rfl,by rw [←d_];exact tJ,by rw [←d_];rw [show p+(k+1)=n+1 by omega];exact x4⟩,by show wn-(k+1)<wn-k;omega⟩
     ·skip;have u2:G=s:=by rw [hG];unfold grow;rw [if_neg (by omega)]
      subst u2;have u5:¬(m:Int)=0:=by omega
      have u4:True:=trivial;subst u3;rw [Nat.one_mul,←ht] at d_;have r7:True:=trivial;refine Uw (J8 e2 oQ z1 z2 BW b1 b2 (J8 b3 b4 b5 b6 d1 d2 d3 (J8 d5 d4 m0 m1 m2 m3 mc (J8 iF mg xf eX aB g1 g2 (J8 lC F0 u1 u5 u4 @t1 @t2 (J3 @t3 @t4 r7)))))) ?_;repeat intro hc
      exact ⟨(k+1,G.set (n/8) ((cn ||| t:Nat):Int)),(by simp;try omega),⟨by omega,by rw [←d_,qz];first|(congr 1;omega)|rfl,by rw [←d_];exact tJ,by rw [←d_];rw [show p+(k+1)=n+1 by omega];exact x4⟩,by show wn-(k+1)<wn-k;omega⟩
    ·by_cases u1:m=0
     ·skip;have u2:G=s++[0]:=by rw [hG];unfold grow;rw [if_pos (by omega)]
      have u4:zg eb s++[[D.int IntKind.u8 0]]=zg eb G:=by rw [u2];simp
      have u6:v=0:=by omega
      subst u6;have Ad:rz s n 0=G:=by rw [d_];simp only [Nat.zero_mul,Nat.or_zero];rw [←aB];first|done|simp
      refine Uw (J8 e2 oQ z1 z2 BW b1 b2 (J8 b3 b4 b5 b6 d1 d2 d3 (J8 d5 d4 m0 m1 m2 m3 mc (J8 iF mg xf eX aB g1 g2 (J4 lC F0 u1 u4))))) ?_;exact ⟨(k+1,G),(by simp;try omega),⟨by omega,by rw [←Ad,qz];first|(congr 1;omega)|rfl,by rw [←Ad];exact tJ,by rw [←Ad];rw [show p+(k+1)=n+1 by omega];exact x4⟩,by show wn-(k+1)<wn-k;omega⟩
     ·skip;have u2:G=s:=by rw [hG];unfold grow;rw [if_neg (by omega)]
      subst u2;have u5:¬(m:Int)=0:=by omega
      have u4:True:=trivial;have u6:v=0:=by omega
      subst u6;have Ad:rz G n 0=G:=by rw [d_];simp only [Nat.zero_mul,Nat.or_zero];rw [←aB];first|done|simp
      refine Uw (J8 e2 oQ z1 z2 BW b1 b2 (J8 b3 b4 b5 b6 d1 d2 d3 (J8 d5 d4 m0 m1 m2 m3 mc (J8 iF mg xf eX aB g1 g2 (J5 lC F0 u1 u5 u4))))) ?_;repeat intro hc
      exact ⟨(k+1,G),(by simp;try omega),⟨by omega,by rw [←Ad,qz];first|(congr 1;omega)|rfl,by rw [←Ad];exact tJ,by rw [←Ad];rw [show p+(k+1)=n+1 by omega];exact x4⟩,by show wn-(k+1)<wn-k;omega⟩
 ·have qv:ji l w=[]:=by unfold ji;rw [if_neg q1]
  have q5:(ln w l&&(decide (0≤w)&&decide (w≤31)))=false:=by
   cases hf:ln w l with
   |false=>rfl
   |true=>simp;intro h0;have:¬(0≤w∧w≤31):=fun e=>q1 ⟨hf,e⟩;omega
  refine Uw (J2 q5 h) ?_;simp [Hl,qv]
@[simp] theorem asz (l:List Int) (w:Int) (h:l.length≤1048576):Gw TT 586 [.one (rl k0 1 (l.map ei)),vi w]=some (.one (.own (.sl 1 ((ji l w).map eb))),[]):=by
 refine Ga Cj QM ?_;unfold QM;by_cases q3:0≤w∧w≤31
 ·obtain ⟨wn,rfl⟩:=zf q3.1;have q4:(wn:Int)≤31:=q3.2;refine Ud (J2 q4 h) ?_;refine ba (σ:=List Int×List Int) (fun s=>[(0,AV.v k0 (D.sl 1 (l.map ei)),none),(1,vn (wn:Nat),none),(15,AV.v k0 (D.sl 1 (l.map ei)),none),(16,vn (l.length:Nat),none),(17,vn (s.1.length:Nat),none)]) (fun s=>l=s.1++s.2∧ln wn l=ln wn s.2) (fun s=>s.2.length) ([],l) (by simp) ⟨rfl,rfl⟩ ?_;rintro ⟨pre,rest⟩ ⟨y1,y2⟩;simp only at y1 y2;have fc:l.length=pre.length+rest.length:=by rw [y1,zb]
  cases rest with
  |cons x rest=>
   have c1:(pre.length:Int)<(l.length:Int):=by simp at fc;omega
   have mc:l[pre.length]?=some x:=by rw [y1];simp
   obtain ⟨iF,mg⟩:=za.1 mc;have fZ:=Wi ((pre.length:Int)+1);by_cases g1:0≤x∧x≤2147483647
   ·by_cases g2:gI x≤(wn:Int)
    ·have g3:¬(wn:Int)<gI x:=by omega
     simp only [ln] at y2;rw [if_pos ⟨g1,g2⟩] at y2;unfold EF;refine Ud (J8 c1 mc iF mg fZ g1.1 g1.2 (J2 g2 g3)) ?_;exact ⟨(pre++[x],rest),by simp,⟨by rw [y1];simp,by simp only [ln];exact y2⟩,by simp⟩
    ·have g3:(wn:Int)<gI x:=by omega
     simp only [ln] at y2;rw [if_neg (fun e=>g2 e.2)] at y2;have qv:ji l (wn:Int)=[]:=by unfold ji;rw [if_neg (fun e=>by have:=e.1;rw [show ln (wn:Int) l=false from y2] at this;cases this)]
     unfold EF;refine Ud (J8 c1 mc iF mg fZ g1.1 g1.2 (J2 g3 qv)) ?_;simp [Cj,qv]
   ·simp only [ln] at y2;rw [if_neg (fun e=>g1 e.1)] at y2;have qv:ji l (wn:Int)=[]:=by unfold ji;rw [if_neg (fun e=>by have:=e.1;rw [show ln (wn:Int) l=false from y2] at this;cases this)]
    unfold EF;refine Ud (J6 c1 mc iF mg fZ qv) ?_;repeat intro hc
    simp [Cj,qv]
  |nil=>
   have q2:ln (wn:Int) l=true:=y2;have c1:¬(pre.length:Int)<(l.length:Int):=by simp at fc;omega
   have qv:ji l (wn:Int)=ou wn l [] 0:=by simp [ji,q2,q4]
   obtain ⟨T,hT⟩:∃T,T=l.length*wn:=⟨_,rfl⟩;have yv:(l.length:Int)*(wn:Int)=(T:Int):=by rw [hT];simp
   have hTl:T≤1048576*31:=by rw [hT];exact zQ (by omega) (by omega)
   obtain ⟨L,hL⟩:∃L,L=(T+7)/8:=⟨_,rfl⟩;have v1:IntKind.wrap .i64 ((l.length:Int)*(wn:Int))=(T:Int):=by rw [yv];exact wrap_i64 (by omega) (by omega)
   have v2:=Wi ((T:Int)+7);have v3:((T:Int)+7).tdiv 8=(L:Int):=by rw [zK (by omega)];omega
   have v4:IntKind.wrap .i64 (L:Int)=(L:Int):=wrap_i64 (by omega) (by omega);have v5:L*1≤140737488355328:=by omega
   have v6:L≤140737488355328:=by omega
   have yP:mm L []=zq L 0:=by simp [mm]
   clear y1 fc y2;unfold EF;refine Ud (J7 c1 v1 v2 v3 v4 v5 v6) ?_;refine ba (σ:=(List Int×List Int)×(List Int×Nat)) (fun s=>[(1,vn (wn:Nat),none),(7,AV.pl 7 0 [],some (Rt.aX [C.own (D.sl 1 ((mm L s.2.1).map eb))])),(38,AV.v k0 (D.sl 1 (l.map ei)),none),(39,vn (l.length:Nat),none),(40,vn (s.1.1.length:Nat),none)]) (fun s=>l=s.1.1++s.1.2∧s.2.2=s.1.1.length*wn∧s.2.1.length=(s.2.2+7)/8∧bI s.2.1∧ou wn l [] 0=ou wn s.1.2 s.2.1 s.2.2) (fun s=>s.1.2.length) (([],l),([],0)) (by simp [yP]) ⟨rfl,by simp,by simp,qd,rfl⟩ ?_;clear c1;rintro ⟨⟨pre,rest⟩,⟨o,p⟩⟩ ⟨y1,y2,y3,y4,y5⟩;simp only at y1 y2 y3 y4 y5;have fc:l.length=pre.length+rest.length:=by rw [y1,zb]
   cases rest with
   |nil=>
    have c1:¬(pre.length:Int)<(l.length:Int):=by simp at fc;omega
    simp only [ou] at y5
    have xr:mm L o=o:=by
     have:o.length=L:=by rw [y3,y2,hL,hT];simp at fc;rw [fc]
     simp [mm,this]
    unfold Ub;refine Ud (J2 c1 xr) ?_;simp [Cj,qv,y5,xr]
   |cons x rest=>
    have c1:(pre.length:Int)<(l.length:Int):=by simp at fc;omega
    have hx:=JP q2 x (by rw [y1];simp);obtain ⟨xn,rfl⟩:=zf hx.1;simp only [ou,zo] at y5;have mc:l[pre.length]?=some (xn:Int):=by rw [y1];simp
    obtain ⟨iF,mg⟩:=za.1 mc;have cJ:p≤1048576*31:=by rw [y2];exact zQ (by simp at fc;omega) (by omega)
    have qx:p+wn≤T:=by
     have:(pre.length+1)*wn≤l.length*wn:=zQ (by simp at fc;omega) (zW _);rw [Zd] at this;omega
    have yQ:(pre.length:Int)*(wn:Int)=(p:Int):=by rw [y2];simp
    have v7:IntKind.wrap .i64 ((pre.length:Int)*(wn:Int))=(p:Int):=by rw [yQ];exact wrap_i64 (by omega) (by omega)
    have fZ:=Wi ((pre.length:Int)+1);obtain ⟨O,hO⟩:∃O,O=qE xn wn 0 o p:=⟨_,rfl⟩;have Km:O.length=(p+wn+7)/8:=by rw [hO];exact HC xn wn 0 o p y3
    have Kl:bI O:=by rw [hO];exact HD xn wn 0 o p y4
    rw [←hO] at y5;unfold Ub;refine Ud (J4 c1 mc iF mg) ?_;refine ba (σ:=Nat×List Int) (fun s=>[(1,vn (wn:Nat),none),(7,AV.pl 7 0 [],some (Rt.aX [C.own (D.sl 1 ((mm L s.2).map eb))])),(8,vn (pre.length:Nat),none),(9,vn (xn:Nat),none),(10,vn (s.1:Nat),none),(38,AV.v k0 (D.sl 1 (l.map ei)),none),(39,vn (l.length:Nat),none),(40,vn (pre.length:Nat),none)]) (fun s=>s.1≤wn∧s.2.length=(p+s.1+7)/8∧bI s.2∧O=qE xn (wn-s.1) s.1 s.2 (p+s.1)) (fun s=>wn-s.1) (0,o) (by simp) ⟨by simp,y3,y4,by simpa using hO⟩ ?_;rintro ⟨k,s⟩ ⟨x1,x2,x3,x4⟩;simp only at x1 x2 x3 x4;by_cases e1:k=wn
    ·subst e1;simp only [Nat.sub_self,qE] at x4;subst x4;unfold T';refine Ud fZ ?_;exact ⟨((pre++[(xn:Int)],rest),(O,p+k)),by simp,⟨by rw [y1];simp,by simp [y2,Zd],Km,Kl,y5⟩,by simp⟩
    ·have e2:(k:Int)<(wn:Int):=by omega
     rw [show wn-k=(wn-(k+1))+1 by omega] at x4;simp only [qE] at x4;have z2:=Wi ((k:Int)+1);obtain ⟨n,hn⟩:∃n,n=p+k:=⟨_,rfl⟩;have oQ:(p:Int)+(k:Int)=(n:Int):=by omega
     have z1:IntKind.wrap .i64 ((p:Int)+(k:Int))=(n:Int):=by rw [oQ];exact wrap_i64 (by omega) (by omega)
     rw [←hn] at x2 x4;have BW:¬(k:Int)<0:=by omega
     have b1:min k IntKind.i64.bits=k:=by simp [IntKind.bits];omega
     obtain ⟨q,hq⟩:∃q,q=xn/2^k:=⟨_,rfl⟩;have hql:q≤xn:=by rw [hq];exact Zj _ _
     have b2:(xn:Int).fdiv (2^k)=(q:Int):=by rw [zR _ (Int.le_of_lt (Int.pow_pos (by omega))),hq];simp
     have b3:q%2^IntKind.i64.bits=q:=by simp only [IntKind.bits];omega
     have b4:1%2^IntKind.i64.bits=1:=by simp [IntKind.bits]
     have b5:=Wi ((q:Int)%2);obtain ⟨v,hv⟩:∃v,v=q%2:=⟨_,rfl⟩;have b6:(q:Int)%2=(v:Int):=by rw [hv];simp
     have pL:v≤1:=by omega
     obtain ⟨m,hm⟩:∃m,m=n%8:=⟨_,rfl⟩;have nW:m≤7:=by omega
     have d1:=Wi ((n:Int)/8);have d2:(n:Int).tdiv 8=(n:Int)/8:=zK (by omega);have d3:(n:Int).tmod 8=(m:Int):=by rw [zS (by omega),hm];simp
     have d5:(n:Int)%8=(m:Int):=by rw [hm];simp
     have d4:((n:Int)/8).toNat=n/8:=by omega
     have m0:¬(m:Int)<0:=by omega
     have m1:min m IntKind.i64.bits=m:=by simp [IntKind.bits];omega
     have m2:min m IntKind.u8.bits=m:=by simp [IntKind.bits];omega
     have m3:IntKind.wrap .i64 (m:Int)=(m:Int):=wrap_i64 (by omega) (by omega);rw [←hq,←hv] at x4;have qz:=UT (v:=v) x2;have tJ:=UU (n:=n) x3 pL;have Ds:=aku (L:=L) (v:=v) x2 (by omega);have hGl:=akt (L:=L) (o:=s) (by omega)
     have hGk:bI (mm L s):=by
      intro y hy;simp only [mm,zz,List.mem_replicate] at hy;rcases hy with hy|hy
      ·exact x3 y hy
      ·omega
     obtain ⟨G,hG⟩:∃G,G=mm L s:=⟨_,rfl⟩;rw [←hG] at hGl hGk Ds;have xf:n/8<G.length:=by omega
     obtain ⟨c,eX⟩:∃c,G[n/8]?=some c:=⟨_,zi xf⟩;have aB:G[n/8]=c:=(za.1 eX).2;have fT:=hGk c (zk eX);obtain ⟨cn,rfl⟩:=zf fT.1;obtain ⟨t,ht⟩:∃t,t=v*2^m:=⟨_,rfl⟩;have Dy:t≤128:=by rw [ht];exact VP pL nW
     have d_:mm L (rz s n v)=G.set (n/8) ((cn ||| t:Nat):Int):=by
      rw [Ds];unfold tT;rw [eX,←hm,ht];simp
     have g1:(0:Int)≤(n:Int)/8:=by omega
     have g2:(n:Int)/8<(G.length:Int):=by omega
     have t0:(v:Int)*2^m=(t:Int):=by rw [ht];simp
     have t1:IntKind.wrap .i64 ((v:Int)*2^m)=(t:Int):=by rw [t0];exact wrap_i64 (by omega) (by omega)
     have t5:IntKind.wrap .u8 (t:Int)=(t:Int):=wrap_u8 (by omega) (by omega);have t6:IntKind.wrap .i64 (v:Int)=(v:Int):=wrap_i64 (by omega) (by omega);have t7:(t:Int)%2^IntKind.u8.bits=(t:Int):=by simp only [IntKind.bits];omega
     have t2:cn%2^IntKind.u8.bits=cn:=by simp only [IntKind.bits];omega
     have t3:t%2^IntKind.u8.bits=t:=by simp only [IntKind.bits];omega
     have hor:cn ||| t<2^8:=Ze (by omega) (by omega)
     have t4:IntKind.wrap .u8 ((cn ||| t:Nat):Int)=((cn ||| t:Nat):Int):=wrap_u8 (by omega) (by omega);have ah7:zg eb (mm L (rz s n v))=(zg eb G).set (n/8) [D.int IntKind.u8 ((cn ||| t:Nat):Int)]:=by rw [d_];simp
     clear d_ Ds;rw [←hG];unfold T';refine Ud (J8 e2 v7 z1 z2 BW b1 b2 (J8 b3 b4 b5 b6 d1 d2 d3 (J8 d5 d4 m0 m1 m2 m3 xf (J8 eX aB g1 g2 @t1 @t5 @t6 (J4 @t7 @t2 @t3 @t4))))) ?_;exact ⟨(k+1,rz s n v),by simp [ah7],⟨by omega,by rw [qz];first|(congr 1;omega)|rfl,tJ,by rw [show p+(k+1)=n+1 by omega];exact x4⟩,by show wn-(k+1)<wn-k;omega⟩
 ·have qv:ji l w=[]:=by unfold ji;rw [if_neg (fun e=>q3 e.2)]
  refine Ud qv ?_;repeat intro hc
  simp [Cj,qv]
def sR (s:ByteArray):List Int:=s.toList.map fun b=>(b.toNat:Int)
theorem CI:s.toList=s.data.toList:=ByteArray.toList_eq s
theorem aea:bI (sR s):=by
 intro c hc;simp only [sR,zA] at hc;obtain ⟨b,_,rfl⟩:=hc;have:=b.toNat_lt;omega
theorem Fb:(sR s).length=s.size:=by simp [sR,Jj]
theorem Bt {l:List Int} (h:bI l):sR (strOf l)=l:=by
 simp only [sR,strOf,CI,List.map_map]
 conv=>rhs;rw [←List.map_id l]
 apply List.map_congr_left;intro c hc;have:=h c hc;simp;omega
theorem CJ {s t:ByteArray} (h:s.toList=t.toList):s=t:=by
 apply ByteArray.ext;apply Array.toList_inj.1;rw [←CI,←CI];exact h
theorem alS {l m:List Int} (hl:bI l) (hm:bI m) (h:strOf l=strOf m):l=m:=by
 rw [←Bt hl,←Bt hm,h]
theorem ui {l m:List Int} (hl:bI l) (hm:bI m):((strOf l).toList==(strOf m).toList)=decide (l=m):=by
 by_cases h:l=m
 ·subst h;simp
 ·rw [decide_eq_false h];apply Zf.2;intro e;have:=CJ (eq_of_beq e);exact h (alS hl hm this)
theorem pe {a b:ab}:cU a b=true↔a=b:=by
 obtain ⟨t,n,s⟩:=a;obtain ⟨t',n',s'⟩:=b;simp only [cU,zn,beq_iff_eq,ab.mk.injEq];constructor
 ·rintro ⟨h1,h2,h3⟩;exact ⟨h1,h2,CJ h3⟩
 ·rintro ⟨h1,h2,h3⟩;exact ⟨h1,h2,by rw [h3]⟩
theorem vl {a b:List Int} (ha:bI a) (hb:bI b):bI (a++b):=by
 intro c hc;rcases zz.1 hc with h|h
 ·exact ha c h
 ·exact hb c h
theorem sS {b:List Int} (n:Nat) (h:bI b):bI (b.drop n):=fun c hc=>h c (List.mem_of_mem_drop hc)
theorem Bu {b:List Int} (n:Nat) (h:bI b):bI (b.take n):=fun c hc=>h c (List.mem_of_mem_take hc)
theorem Jn {a:Int} {b:List Int} (ha:0≤a∧a≤255) (hb:bI b):bI (a::b):=by
 intro c hc;rcases zj.1 hc with rfl|h
 ·exact ha
 ·exact hb c h
theorem Jo {α:Type} {f:α→List Int} (h:∀x,bI (f x)) (l:List α):bI (l.flatMap f):=by
 intro c hc;obtain ⟨x,_,hx⟩:=Zh.1 hc;exact h x c hx
theorem adq {ty n:Int} {s:ByteArray} (h:ec ty n s=true):ty=1∨ty=2:=by
 unfold ec at h;split at h
 ·left;assumption
 ·simp only [zn,decide_eq_true_eq] at h;exact .inr h.1
theorem xV {ty n:Int} {s:ByteArray} (h:ec ty n s=true):s.size≤6:=by
 unfold ec at h;split at h
 ·simp only [zn,beq_iff_eq] at h;have:=CJ h.2;rw [this];decide
 ·simp only [zn,decide_eq_true_eq] at h;exact h.2.2.1
theorem IJ {n:Int} (h:-1000000000≤n∧n≤1000000000):ec 1 n ⟨#[]⟩=true:=by
 simp [ec,jK,h]
theorem am4 {n:Int} {s:ByteArray} (h:ec 1 n s=true):(-1000000000≤n∧n≤1000000000)∧s=⟨#[]⟩:=by
 simp only [ec,if_true,jK,zn,decide_eq_true_eq,beq_iff_eq] at h;exact ⟨h.1,CJ h.2⟩
def i_ (v:ab):List Int:=if ec v.Ty v.N v.S=true then (if v.Ty=1 then cI v.N else (v.S.size:Int)::sR v.S) else []
def ic (l:List ab):List Int:=l.flatMap i_
theorem ab6 (v:ab):bI (i_ v):=by
 unfold i_;split
 ·rename_i h;have:=xV h;split
  ·exact w_ _
  ·exact Jn (by omega) (aea _)
 ·exact qd
theorem xJ (v:ab):(i_ v).length≤7:=by
 unfold i_;split
 ·rename_i h;have:=xV h;split
  ·have:=ma v.N;omega
  ·simp [Fb];omega
 ·simp
theorem WC (l:List ab):bI (ic l):=Jo ab6 l
theorem JN:∀l:List ab,(ic l).length≤7*l.length
 |[]=>by simp [ic]
 |v::l=>by
  have h1:=xJ v;have h2:=JN l;simp only [ic] at h2;simp only [ic,zT,zb,zd];omega
def kK (t:Int):List ab→Bool
 |[]=>true
 |v::l=>if ec v.Ty v.N v.S=true∧v.Ty=t then kK t l else false
def cM:List ab→Int
 |[]=>0
 |v::r=>if r.length<64∧kK v.Ty (v::r)=true then v.Ty else 0
theorem wL {t:Int}:∀{l:List ab},kK t l=true→∀v∈l,ec v.Ty v.N v.S=true∧v.Ty=t
 |[],_,v,hv=>by simp at hv
 |x::l,h,v,hv=>by
  simp only [kK] at h;split at h
  ·rename_i hx;rcases zj.1 hv with rfl|hv
   ·exact hx
   ·exact wL h v hv
  ·cases h
theorem adi {t:Int}:∀{l:List ab},(∀v∈l,ec v.Ty v.N v.S=true∧v.Ty=t)→kK t l=true
 |[],_=>rfl
 |x::l,h=>by
  simp only [kK];rw [if_pos (h x (by simp))];exact adi fun v hv=>h v (by simp [hv])
theorem asO {t:Int} {a b:List ab} (ha:kK t a=true) (hb:kK t b=true):kK t (a++b)=true:=
 adi fun v hv=>by
  rcases zz.1 hv with h|h
  ·exact wL ha v h
  ·exact wL hb v h
theorem amU {l:List ab} {t:Int} (h0:0<l.length) (h:l.length≤64) (ha:kK t l=true):cM l=t:=by
 cases l with
 |nil=>simp at h0
 |cons v r=>
  have hv:=wL ha v (by simp);simp only [cM];rw [hv.2,if_pos ⟨by simp at h;omega,ha⟩]
theorem qI {l:List ab} (h:cM l≠0):1≤l.length∧l.length≤64∧kK (cM l) l=true∧(cM l=1∨cM l=2):=by
 cases l with
 |nil=>simp [cM] at h
 |cons v r=>
  simp only [cM] at h ⊢;split at h
  ·rename_i hh;rw [if_pos hh];exact ⟨by simp,by simp;omega,hh.2,adq (wL hh.2 v (by simp)).1⟩
  ·exact absurd rfl h
def kS (l:List ab):List Int:=if cM l=0 then [] else ic l
theorem JL (l:List ab):bI (kS l):=by unfold kS;split;exact qd;exact WC l
theorem aeU (l:List ab):(kS l).length≤448:=by
 unfold kS;split
 ·simp
 ·rename_i h;have:=(qI h).2.1;have:=JN l;omega
theorem rR {b:List Int} {u n t:Int} (hb:bI b) (h:gN b u=some (n,t)):
 (-1000000000≤n∧n≤1000000000)∧0≤u∧u<t∧t≤(b.length:Int)∧b.drop u.toNat=cI n++b.drop t.toNat:=by
 unfold gN at h;split at h
 ·rename_i hu;split at h
  ·rename_i n' k hg;simp only [zm,zp] at h;obtain ⟨rfl,rfl⟩:=h;obtain ⟨h1,r,h2,h3⟩:=afa (sS _ hb) hg;have hl:=congrArg zN h2;simp only [zw,zb] at hl
   have hp:1≤(cI n').length:=by
    unfold cI;rw [if_pos h1];exact IK _
   refine ⟨h1,hu.1,by omega,by omega,?_⟩;have e:(u+(k:Int)).toNat=u.toNat+k:=by omega
   rw [e,←zX,h2,←h3];simp
  ·cases h
 ·cases h
theorem ae_ {n:Int} (h:-1000000000≤n∧n≤1000000000) (r:List Int):gN (cI n++r) 0=some (n,((cI n).length:Int)):=by
 have hp:1≤(cI n).length:=by
  unfold cI;rw [if_pos h];exact IK _
 unfold gN;rw [if_pos ⟨by omega,by simp only [zb];omega⟩];simp only [zY,zZ];rw [afb h r];simp
def fi (b:List Int) (u ty:Int):Option (ab×Int):=
 if ty=1 then (match gN b u with
  |some (n,t)=>some (⟨1,n,⟨#[]⟩⟩,t)
  |none=>none)
 else if ty=2∧0≤u then (match b[u.toNat]? with
  |some k=>if u+1+k≤(b.length:Int) then
   (if ec 2 0 (strOf ((b.take (u+1+k).toNat).drop (u+1).toNat))=true then some (⟨2,0,strOf ((b.take (u+1+k).toNat).drop (u+1).toNat)⟩,u+1+k) else none)
   else none
  |none=>none)
 else none
theorem W3 {b:List Int} {u ty t:Int} {v:ab} (hb:bI b) (h:fi b u ty=some (v,t)):
 (ec v.Ty v.N v.S=true∧v.Ty=ty)∧0≤u∧u<t∧t≤(b.length:Int)∧b.drop u.toNat=i_ v++b.drop t.toNat:=by
 unfold fi at h;split at h
 ·rename_i fN;subst fN;split at h
  ·rename_i n t' hg;simp only [zm,zp] at h;obtain ⟨rfl,rfl⟩:=h;obtain ⟨h1,h2,h3,h4,h5⟩:=rR hb hg;refine ⟨⟨IJ h1,rfl⟩,h2,h3,h4,?_⟩;simp only [i_];rw [if_pos (IJ h1)];simpa using h5
  ·cases h
 ·split at h
  ·rename_i fN;obtain ⟨rfl,hu⟩:=fN;split at h
   ·rename_i k hk;split at h
    ·rename_i hl;split at h
     ·rename_i hv;simp only [zm,zp] at h;obtain ⟨rfl,rfl⟩:=h;have KO:=hb k (zk hk);obtain ⟨kn,rfl⟩:=zf KO.1;obtain ⟨un,rfl⟩:=zf hu;have e1:((un:Int)+1+(kn:Int)).toNat=un+1+kn:=by omega
      have e2:((un:Int)+1).toNat=un+1:=by omega
      have e3:((un:Int)).toNat=un:=by omega
      rw [e1,e2] at hv;rw [e3] at hk;refine ⟨⟨by rw [e1,e2];exact hv,rfl⟩,by omega,by omega,by omega,?_⟩;simp only [i_];rw [e1,e2,e3,if_pos hv,if_neg (by omega)];have ai:=(za.1 hk).1;have gK:bI ((b.take (un+1+kn)).drop (un+1)):=sS _ (Bu _ hb)
      have dM:(strOf ((b.take (un+1+kn)).drop (un+1))).size=kn:=by
       rw [←Fb,Bt gK];simp only [zw,zP];omega
      rw [Bt gK,dM,List.drop_eq_getElem_cons ai,(za.1 hk).2];simp only [Zi,List.cons.injEq,true_and];have e4:b.drop (un+1)=(b.drop (un+1)).take kn++(b.drop (un+1)).drop kn:=(z_ _ _).symm;rw [e4,zX,List.take_drop]
     ·cases h
    ·cases h
   ·cases h
  ·cases h
def iD (b:List Int) (ty:Int):Nat→Int→Option (List ab×Int)
 |0,u=>some ([],u)
 |k+1,u=>match fi b u ty with
  |some (v,t)=>match iD b ty k t with
   |some (l,t2)=>some (v::l,t2)
   |none=>none
  |none=>none
theorem CY {b:List Int} {ty:Int} (hb:bI b):∀{k:Nat} {u t:Int} {l:List ab},0≤u→u≤(b.length:Int)→iD b ty k u=some (l,t)→
 l.length=k∧kK ty l=true∧u≤t∧t≤(b.length:Int)∧b.drop u.toNat=ic l++b.drop t.toNat
 |0,u,t,l,h0,h1,h=>by
  simp only [iD,zm,zp] at h;obtain ⟨rfl,rfl⟩:=h;exact ⟨rfl,rfl,by omega,h1,by simp [ic]⟩
 |k+1,u,t,l,h0,h1,h=>by
  simp only [iD] at h;split at h
  ·rename_i v t1 hv;split at h
   ·rename_i l' t2 hl;simp only [zm,zp] at h;obtain ⟨rfl,rfl⟩:=h;obtain ⟨a1,a2,a3,a4,a5⟩:=W3 hb hv;obtain ⟨b1,b2,b3,b4,b5⟩:=CY hb (by omega) a4 hl;refine ⟨by simp [b1],by simp only [kK];rw [if_pos a1];exact b2,by omega,b4,?_⟩;rw [a5,b5];simp [ic]
   ·cases h
  ·cases h
theorem J0 {b:List Int} {ty:Int} {a:List ab} {k:Nat} {u t:Int} {v:ab} (h:fi b u ty=some (v,t)):kX a (iD b ty (k+1) u)=kX (a++[v]) (iD b ty k t):=by
 simp only [iD,h];cases iD b ty k t with
 |none=>rfl
 |some x=>simp [kX]
theorem JZ {b:List Int} {ty:Int} {a:List ab} {k:Nat} {u:Int} (h:fi b u ty=none):kX a (iD b ty (k+1) u)=none:=by
 simp only [iD,h];rfl
def mG (b:List Int) (ty k:Int):Option (List ab):=if 1≤k∧k≤64 then (match iD b ty k.toNat 0 with
 |some (l,t)=>if t=(b.length:Int) then some l else none
 |none=>none) else none
theorem Wj {b:List Int} {ty k:Int} (hb:bI b) {l:List ab} {t:Int} (hk:1≤k∧k≤64) (h:iD b ty k.toNat 0=some (l,t)):
 ((l.length:Int)=k)∧cM l=ty∧(b=kS l↔t=(b.length:Int)):=by
 obtain ⟨h1,h2,h3,h4,h5⟩:=CY hb (Zg _) (by omega) h;have hl:0<l.length:=by omega
 have ht:=amU hl (by omega) h2
 have cE:cM l≠0:=by
  cases l with
  |nil=>simp at hl
  |cons v r=>
   have:=wL h2 v (by simp);have:=adq this.1;omega
 refine ⟨by omega,ht,?_⟩;unfold kS;rw [if_neg cE];simp only [zY,zZ] at h5;constructor
 ·intro e;have dy:=congrArg zN h5;rw [←e] at dy;simp only [zb,zw] at dy;omega
 ·intro e;rw [e] at h5;simpa using h5
structure dv where
 V:ab
 K:Int
 deriving Inhabited
@[simp] def dv.e (x:dv):List D:=[di x.V.Ty,di x.V.N,.str x.V.S,di x.K]
def uZ (o:List dv) (v:ab):List dv:=match o.getLast? with
 |some r=>if cU r.V v=true then o.dropLast++[⟨r.V,r.K+1⟩] else o++[⟨v,1⟩]
 |none=>[⟨v,1⟩]
def ss (o:List dv):List ab→List dv
 |[]=>o
 |v::l=>ss (uZ o v) l
def mT (l:List ab):List dv:=ss [] l
def Cr (r:dv):List Int:=cI r.K++i_ r.V
theorem akI (r:dv):bI (Cr r):=vl (w_ _) (ab6 _)
theorem akH (r:dv):(Cr r).length≤12:=by
 have:=ma r.K;have:=xJ r.V;simp only [Cr,zb];omega
theorem ak1 (o:List dv) (v:ab):(uZ o v).length≤o.length+1:=by
 unfold uZ;split
 ·split
  ·rename_i r hr _;have:o≠[]:=fun e=>by rw [e] at hr;simp at hr
   have:=Zb.2 this;simp<;>omega
  ·simp
 ·simp
theorem acB:∀(l:List ab) (o:List dv),(ss o l).length≤o.length+l.length
 |[],o=>by simp [ss]
 |v::l,o=>by
  have:=acB l (uZ o v);have:=ak1 o v;simp only [ss,zd];omega
theorem UH (l:List ab):(mT l).length≤l.length:=by
 have:=acB l [];simpa [mT] using this
def qQ (l:List dv):List Int:=l.flatMap Cr
theorem WA:∀l:List dv,(qQ l).length≤12*l.length
 |[]=>by simp [qQ]
 |v::l=>by
  have h1:=akH v;have h2:=WA l;simp only [qQ] at h2;simp only [qQ,zT,zb,zd];omega
def jF (l:List ab):List Int:=if cM l=0 then [] else cI (mT l).length++qQ (mT l)
theorem JM (l:List ab):bI (jF l):=by
 unfold jF;split;exact qd;exact vl (w_ _) (Jo akI _)
theorem aeV (l:List ab):(jF l).length≤1000:=by
 unfold jF;split
 ·simp
 ·rename_i h;have:=(qI h).2.1;have:=UH l;have:=WA (mT l);have:=ma ((mT l).length:Int);simp only [zb];omega
def sv (o:List ab):List dv→List ab
 |[]=>o
 |r::l=>if r.K<1∨64-(o.length:Int)<r.K then [] else sv (o++zq r.K.toNat r.V) l
def ug (l:List dv):List ab:=sv [] l
theorem acK:∀(l:List dv) (o:List ab),o.length≤64→(sv o l).length≤64
 |[],o,h=>h
 |r::l,o,h=>by
  simp only [sv];split
  ·simp
  ·exact acK l _ (by simp;omega)
theorem acM (l:List dv):(ug l).length≤64:=acK l [] (by simp)
def xd (b:List Int) (u ty:Int):Option (dv×Int):=match gN b u with
 |some (n,t)=>match fi b t ty with
  |some (v,t2)=>some (⟨v,n⟩,t2)
  |none=>none
 |none=>none
def lr (b:List Int) (ty:Int):Nat→Int→Option (List dv×Int)
 |0,u=>some ([],u)
 |k+1,u=>match xd b u ty with
  |some (v,t)=>match lr b ty k t with
   |some (l,t2)=>some (v::l,t2)
   |none=>none
  |none=>none
theorem W1 {b:List Int} {ty:Int} {a:List dv} {k:Nat} {u t:Int} {v:dv} (h:xd b u ty=some (v,t)):kX a (lr b ty (k+1) u)=kX (a++[v]) (lr b ty k t):=by
 simp only [lr,h];cases lr b ty k t with
 |none=>rfl
 |some x=>simp [kX]
theorem FE {b:List Int} {ty:Int} {a:List dv} {k:Nat} {u:Int} (h:xd b u ty=none):kX a (lr b ty (k+1) u)=none:=by
 simp only [lr,h];rfl
def eU (b:List Int) (k:Int) (e:List ab→List Int) (l:List ab):Option (List ab):=if (1≤k∧k≤64)∧(l.length:Int)=k∧b=e l then some l else none
def iU (b:List Int) (ty k:Int):Option (List ab):=match gN b 0 with
 |some (n,u)=>if 1≤n∧n≤64 then (match lr b ty n.toNat u with
  |some (r,_)=>eU b k jF (ug r)
  |none=>none) else none
 |none=>none
def oX (t n:Int) (s:ByteArray) (t' n':Int) (s':ByteArray):Bool:=if t=t' then (if n=n' then Op.bytesLess s.toList s'.toList else decide (n<n')) else decide (t<t')
def eD (a b:ab):Bool:=oX a.Ty a.N a.S b.Ty b.N b.S
theorem VS:∀x:List UInt8,Op.bytesLess x x=false
 |[]=>rfl
 |a::x=>by simp [Op.bytesLess,VS x]
theorem VT:∀x y z:List UInt8,Op.bytesLess x y=true→Op.bytesLess y z=true→Op.bytesLess x z=true
 |_,[],_,h,_=>by simp [Op.bytesLess] at h
 |_,_::_,[],_,h=>by simp [Op.bytesLess] at h
 |[],_::_,_::_,_,_=>rfl
 |a::x,b::y,c::z,h1,h2=>by
  simp only [Op.bytesLess,Bool.or_eq_true,zn,decide_eq_true_eq,beq_iff_eq] at h1 h2 ⊢;rcases h1 with h1|⟨rfl,h1⟩
  ·rcases h2 with h2|⟨rfl,h2⟩
   ·exact .inl (UInt8.lt_trans h1 h2)
   ·exact .inl h1
  ·rcases h2 with h2|⟨rfl,h2⟩
   ·exact .inl h2
   ·exact .inr ⟨rfl,VT x y z h1 h2⟩
theorem VU:∀x y:List UInt8,Op.bytesLess x y=false→Op.bytesLess y x=false→x=y
 |[],[],_,_=>rfl
 |[],_::_,h,_=>by simp [Op.bytesLess] at h
 |_::_,[],_,h=>by simp [Op.bytesLess] at h
 |a::x,b::y,h1,h2=>by
  simp only [Op.bytesLess,Bool.or_eq_false_iff,Bool.and_eq_false_iff,decide_eq_false_iff_not,beq_eq_false_iff_ne] at h1 h2
  have e:a=b:=by
   apply UInt8.le_antisymm
   ·exact Zm.1 h2.1
   ·exact Zm.1 h1.1
  subst e;rw [VU x y (h1.2.resolve_left (fun h=>h rfl)) (h2.2.resolve_left (fun h=>h rfl))]
theorem abC (a b:ab):eD a b=true↔a.Ty<b.Ty∨(a.Ty=b.Ty∧(a.N<b.N∨(a.N=b.N∧Op.bytesLess a.S.toList b.S.toList=true))):=by
 unfold eD oX;split
 ·split
  ·constructor
   ·intro h;exact .inr ⟨by assumption,.inr ⟨by assumption,h⟩⟩
   ·rintro (h|⟨_,h|h⟩)
    ·omega
    ·omega
    ·exact h.2
  ·simp only [decide_eq_true_eq];constructor
   ·intro h;exact .inr ⟨by assumption,.inl h⟩
   ·rintro (h|⟨_,h|h⟩)
    ·omega
    ·exact h
    ·exact absurd h.1 (by assumption)
 ·simp only [decide_eq_true_eq];constructor
  ·intro h;exact .inl h
  ·rintro (h|⟨h,_⟩)
   ·exact h
   ·exact absurd h (by assumption)
theorem F' (a:ab):eD a a=false:=by
 simp [eD,oX,VS]
theorem DO {a b c:ab} (h1:eD a b=true) (h2:eD b c=true):eD a c=true:=by
 rw [abC] at *;rcases h1 with h1|⟨e1,h1⟩<;>rcases h2 with h2|⟨e2,h2⟩
 ·left;omega
 ·left;omega
 ·left;omega
 ·right;refine ⟨by omega,?_⟩;rcases h1 with h1|⟨f1,h1⟩<;>rcases h2 with h2|⟨f2,h2⟩
  ·left;omega
  ·left;omega
  ·left;omega
  ·exact .inr ⟨by omega,VT _ _ _ h1 h2⟩
theorem BZ {a b:ab} (h1:eD a b=false) (h2:eD b a=false):a=b:=by
 rw [Zf,ne_eq,abC] at h1 h2;obtain ⟨t,n,s⟩:=a;obtain ⟨t',n',s'⟩:=b;simp only at h1 h2;have e1:t=t':=by omega
 subst e1
 have e2:n=n':=by
  rcases Int.lt_trichotomy n n' with h|h|h
  ·exact absurd (.inr ⟨rfl,.inl h⟩) h1
  ·exact h
  ·exact absurd (.inr ⟨rfl,.inl h⟩) h2
 subst e2
 have e3:s.toList=s'.toList:=by
  apply VU
  ·cases hh:Op.bytesLess s.toList s'.toList with
   |false=>rfl
   |true=>exact absurd (.inr ⟨rfl,.inr ⟨rfl,hh⟩⟩) h1
  ·cases hh:Op.bytesLess s'.toList s.toList with
   |false=>rfl
   |true=>exact absurd (.inr ⟨rfl,.inr ⟨rfl,hh⟩⟩) h2
 rw [CJ e3]
theorem abB {a b:ab} (h:eD a b=true):eD b a=false:=by
 cases hh:eD b a with
 |false=>rfl
 |true=>have:=DO h hh;rw [F'] at this;cases this
def vq (a b:ab):Int:=if eD a b=true then -1 else if eD b a=true then 1 else 0
def pZ (l:List ab):Prop:=l.Pairwise fun a b=>eD a b=true
def mM (v:ab):List ab→List ab
 |[]=>[v]
 |x::l=>if eD x v=true then x::mM v l else if cU x v=true then x::l else v::x::l
def rO (d:List ab):List ab→List ab
 |[]=>d
 |v::l=>rO (mM v d) l
def gJ (l:List ab):List ab:=rO [] l
theorem Mw {v:ab}:∀{d:List ab} {x:ab},x∈mM v d↔x=v∨x∈d
 |[],x=>by simp [mM]
 |y::d,x=>by
  simp only [mM];split
  ·simp only [zj,Mw (d:=d)];constructor
   ·rintro (h|h|h)
    ·exact .inr (.inl h)
    ·exact .inl h
    ·exact .inr (.inr h)
   ·rintro (h|h|h)
    ·exact .inr (.inl h)
    ·exact .inl h
    ·exact .inr (.inr h)
  ·split
   ·rename_i h;have:=pe.1 h;subst this;simp only [zj];constructor
    ·exact fun h=>.inr h
    ·rintro (h|h)
     ·exact .inl h
     ·exact h
   ·simp only [zj]
theorem abp {v:ab}:∀{d:List ab},pZ d→pZ (mM v d)
 |[],_=>by simp [mM,pZ]
 |y::d,h=>by
  unfold pZ at h;rw [zr] at h;simp only [mM];split
  ·rename_i h1;refine zr.2 ⟨fun x hx=>?_,abp h.2⟩;rcases Mw.1 hx with rfl|hx
   ·exact h1
   ·exact h.1 x hx
  ·split
   ·exact zr.2 h
   ·rename_i h1 h2
    have h3:eD v y=true:=by
     cases hh:eD v y with
     |true=>rfl
     |false=>exact absurd (pe.2 (BZ (by simpa using h1) hh)) h2
    refine zr.2 ⟨fun x hx=>?_,zr.2 h⟩;rcases zj.1 hx with rfl|hx
    ·exact h3
    ·exact DO h3 (h.1 x hx)
theorem Mv (v:ab):∀d:List ab,(mM v d).length≤d.length+1
 |[]=>by simp [mM]
 |y::d=>by
  have:=Mv v d;simp only [mM];split
  ·simp;omega
  ·split<;>simp
theorem Wl:∀{l d:List ab} {x:ab},x∈rO d l↔x∈d∨x∈l
 |[],d,x=>by simp [rO]
 |v::l,d,x=>by
  simp only [rO,Wl (l:=l),Mw,zj];constructor
  ·rintro ((h|h)|h)
   ·exact .inr (.inl h)
   ·exact .inl h
   ·exact .inr (.inr h)
  ·rintro (h|h|h)
   ·exact .inl (.inr h)
   ·exact .inl (.inl h)
   ·exact .inr h
theorem Wm:∀{l d:List ab},pZ d→pZ (rO d l)
 |[],_,h=>h
 |_::l,_,h=>Wm (l:=l) (abp h)
theorem Wk:∀l d:List ab,(rO d l).length≤d.length+l.length
 |[],d=>by simp [rO]
 |v::l,d=>by
  have:=Wk l (mM v d);have:=Mv v d;simp only [rO,zd];omega
theorem CS {l:List ab} {x:ab}:x∈gJ l↔x∈l:=by simp [gJ,Wl]
theorem aeN (l:List ab):pZ (gJ l):=Wm (by simp [pZ])
theorem Fu (l:List ab):(gJ l).length≤l.length:=by simpa [gJ] using Wk l []
theorem acO:∀{A B:List ab},(∀x,x∈A↔x∈B)→pZ A→pZ B→A=B
 |[],[],_,_,_=>rfl
 |[],b::B,h,_,_=>by have:=(h b).2 (by simp);simp at this
 |a::A,[],h,_,_=>by have:=(h a).1 (by simp);simp at this
 |a::A,b::B,h,h1,h2=>by
  unfold pZ at h1 h2;rw [zr] at h1 h2
  have e:a=b:=by
   rcases zj.1 ((h a).1 (by simp)) with e|ha
   ·exact e
   ·rcases zj.1 ((h b).2 (by simp)) with e|hb
    ·exact e.symm
    ·have:=abB (h1.1 b hb);rw [h2.1 a ha] at this;cases this
  subst e;rw [acO (A:=A) (B:=B) (fun x=>?_) h1.2 h2.2];constructor
  ·intro hx;rcases zj.1 ((h x).1 (by simp [hx])) with e|hb
   ·subst e;have:=h1.1 x hx;rw [F'] at this;cases this
   ·exact hb
  ·intro hx;rcases zj.1 ((h x).2 (by simp [hx])) with e|hb
   ·subst e;have:=h2.1 x hx;rw [F'] at this;cases this
   ·exact hb
def qf (p:ab):List ab→List ab
 |[]=>[p]
 |v::l=>if cU v p=true then qf p l else p::qf v l
def vr:List ab→List ab
 |[]=>[]
 |v::l=>qf v l
theorem Fo:∀{l:List ab} {p x:ab},x∈qf p l↔x=p∨x∈l
 |[],p,x=>by simp [qf]
 |v::l,p,x=>by
  simp only [qf];split
  ·rename_i h;have:=pe.1 h;subst this;rw [Fo];simp only [zj];constructor
   ·rintro (h|h)
    ·exact .inl h
    ·exact .inr (.inr h)
   ·rintro (h|h|h)
    ·exact .inl h
    ·exact .inl h
    ·exact .inr h
  ·simp only [zj,Fo (l:=l)]
theorem Jy:∀{l:List ab} {p:ab},(p::l).Pairwise (fun a b=>eD b a=false)→pZ (qf p l)
 |[],p,_=>by simp [qf,pZ]
 |v::l,p,h=>by
  rw [zr] at h;simp only [qf];split
  ·rename_i hv;have:=pe.1 hv;subst this;exact Jy h.2
  ·rename_i hv
   have hp:eD p v=true:=by
    cases hh:eD p v with
    |true=>rfl
    |false=>exact absurd (pe.2 (BZ (h.1 v (by simp)) hh)) hv
   refine zr.2 ⟨fun x hx=>?_,Jy h.2⟩;rcases Fo.1 hx with rfl|hx
   ·exact hp
   ·have h2:=(zr.1 h.2).1 x hx;cases hh:eD p x with
    |true=>rfl
    |false=>
     have:=BZ hh (h.1 x (by simp [hx]));subst this;rw [hp] at h2;cases h2
def nD (l:List ab):List ab:=l.mergeSort fun x y=>!eD y x
theorem alw {l:List ab} {x:ab}:x∈nD l↔x∈l:=(List.mergeSort_perm _ _).mem_iff
theorem IB (l:List ab):(nD l).length=l.length:=List.length_mergeSort _
theorem alx (l:List ab):(nD l).Pairwise fun a b=>eD b a=false:=by
 have:=List.pairwise_mergeSort (le:=fun x y=>!eD y x) (fun a b c h1 h2=>by
  simp only [Bool.not_eq_true'] at h1 h2 ⊢;cases hh:eD c a with
  |false=>rfl
  |true=>
   cases h3:eD a b with
   |true=>rw [DO hh h3] at h2;cases h2
   |false=>
    have:=BZ h3 h1;subst this
    rw [hh] at h2;cases h2) (fun a b=>by
  cases hh:eD b a with
  |false=>simp
  |true=>simp [abB hh]) l
 exact this.imp (by intro a b h;simpa using h)
theorem aez:vr (nD l)=gJ l:=by
 apply acO _ _ (aeN l)
 ·intro x;rw [CS];have hm:=alw (l:=l) (x:=x);cases h:nD l with
  |nil=>rw [h] at hm;rw [←hm];simp [vr]
  |cons v r=>rw [h] at hm;rw [←hm];simp [vr,Fo]
 ·have:=alx l;cases h:nD l with
  |nil=>simp [vr,pZ]
  |cons v r=>rw [h] at this;exact Jy this
def jh (v:ab):List ab→Int→Int
 |[],_=>-1
 |x::d,i=>if cU x v=true then i else jh v d (i+1)
theorem aiv (v:ab):∀(d:List ab) (i:Int),0≤i→jh v d i=-1∨(0≤jh v d i∧jh v d i<i+(d.length:Int))
 |[],i,_=>.inl rfl
 |x::d,i,hi=>by
  simp only [jh];split
  ·right;simp;omega
  ·have:=aiv v d (i+1) (by omega);simp only [zd];omega
def lI (d:List ab):List ab→Option (List Int)
 |[]=>some []
 |v::l=>if jh v d 0<0 then none else match lI d l with
  |some p=>some (jh v d 0::p)
  |none=>none
def xG (d l:List ab):List Int:=match lI d l with
 |some p=>p
 |none=>[]
theorem Io (d:List ab):∀{l:List ab} {p:List Int},lI d l=some p→p.length=l.length
 |[],p,h=>by simp [lI] at h;subst h;rfl
 |v::l,p,h=>by
  simp only [lI] at h;split at h
  ·cases h
  ·split at h
   ·rename_i q hq;simp at h;subst h;simp [Io d hq]
   ·cases h
theorem akA (d l:List ab):(xG d l).length≤l.length:=by
 unfold xG;split
 ·rename_i p hp;rw [Io d hp];omega
 ·simp
def jj (d:List ab):List Int→Option (List ab)
 |[]=>some []
 |i::l=>if 0≤i then (match d[i.toNat]? with
  |some v=>match jj d l with
   |some r=>some (v::r)
   |none=>none
  |none=>none) else none
theorem SG (d:List ab):∀{l:List Int} {r:List ab},jj d l=some r→r.length=l.length
 |[],r,h=>by simp [jj] at h;subst h;rfl
 |i::l,r,h=>by
  simp only [jj] at h;split at h
  ·split at h
   ·split at h
    ·rename_i q hq;simp at h;subst h;simp [SG d hq]
    ·cases h
   ·cases h
  ·cases h
def iC (l:List ab):List Int:=if cM l=0 then [] else
 cI (gJ l).length++ic (gJ l)++ji (xG (gJ l) l) (gI ((gJ l).length-1))
theorem Fy (l:List ab):bI (iC l):=by
 unfold iC;split;exact qd;exact vl (vl (w_ _) (WC _)) (abS _ _)
theorem aeS (l:List ab):(iC l).length≤1000:=by
 unfold iC;split
 ·simp
 ·rename_i h;have:=(qI h).2.1;have:=Fu l;have:=JN (gJ l);have:=ma ((gJ l).length:Int);have:=B5 (xG (gJ l) l) (gI ((gJ l).length-1));have:=akA (gJ l) l;simp only [zb];omega
def oJ (B0:Int) (b:List Int) (ty k:Int):Option (List ab):=match gN b 0 with
 |some (n,u)=>if 1≤n∧n≤B0 then (match iD b ty n.toNat u with
  |some (d,t)=>match ix (b.drop t.toNat) (gI (n-1)) k with
   |some p=>match jj d p with
    |some l=>eU b k iC l
    |none=>none
   |none=>none
  |none=>none) else none
 |none=>none
def ll (b:List Int) (ty k:Int):Option (List ab):=oJ k b ty k
theorem CP {b:List Int} {k:Int} {e:List ab→List Int} {l l':List ab} (h:eU b k e l=some l'):l'=l∧(1≤k∧k≤64)∧(l.length:Int)=k∧b=e l:=by
 unfold eU at h;split at h
 ·simp at h;exact ⟨h.symm,by assumption⟩
 ·cases h
theorem aeF (hk:1≤k∧k≤64):oJ 64 b ty k=ll b ty k:=by
 unfold ll oJ;cases hg:gN b 0 with
 |none=>rfl
 |some q=>
  obtain ⟨n,u⟩:=q;simp only;by_cases h1:1≤n∧n≤64
  ·rw [if_pos h1];by_cases h2:n≤k
   ·rw [if_pos ⟨h1.1,h2⟩]
   ·rw [if_neg (fun e=>h2 e.2)];cases hv:iD b ty n.toNat u with
    |none=>rfl
    |some q=>
     obtain ⟨d,t⟩:=q;simp only;cases hu:ix (b.drop t.toNat) (gI (n-1)) k with
     |none=>rfl
     |some p=>
      simp only;cases hp:jj d p with
      |none=>rfl
      |some l=>
       simp only;cases hc:eU b k iC l with
       |none=>rfl
       |some l'=>
        exfalso;obtain ⟨rfl,_,hl,he⟩:=CP hc
        have cE:cM l'≠0:=by
         intro e;rw [iC,if_pos e] at he;subst he;simp [gN] at hg
        have:=Fu l';have:=(qI cE).2.1;rw [iC,if_neg cE,zB] at he;rw [he,ae_ (by omega)] at hg;simp at hg;omega
  ·rw [if_neg h1,if_neg (fun e=>h1 ⟨e.1,by omega⟩)]
def nM (m:Int):List ab→Int
 |[]=>m
 |v::l=>nM (if v.N<m then v.N else m) l
def gj:List ab→Int
 |[]=>0
 |v::l=>nM v.N l
theorem VO:∀(l:List ab) (m:Int),nM m l≤m∧(∀v∈l,nM m l≤v.N)∧(nM m l=m∨∃v∈l,nM m l=v.N)
 |[],m=>by simp [nM]
 |x::l,m=>by
  obtain ⟨h1,h2,h3⟩:=VO l (if x.N<m then x.N else m);simp only [nM];refine ⟨?_,?_,?_⟩
  ·revert h1;split<;>intro h1<;>omega
  ·intro v hv;rcases zj.1 hv with rfl|hv
   ·revert h1;split<;>intro h1<;>omega
   ·exact h2 v hv
  ·rcases h3 with h3|⟨v,hv,h3⟩
   ·rw [h3];split
    ·exact .inr ⟨x,by simp,rfl⟩
    ·exact .inl rfl
   ·exact .inr ⟨v,by simp [hv],h3⟩
theorem ad7 {l:List ab} (h:0<l.length):(∀v∈l,gj l≤v.N)∧∃v∈l,gj l=v.N:=by
 cases l with
 |nil=>simp at h
 |cons x l=>
  obtain ⟨h1,h2,h3⟩:=VO l x.N;simp only [gj];refine ⟨fun v hv=>?_,?_⟩
  ·rcases zj.1 hv with rfl|hv
   ·exact h1
   ·exact h2 v hv
  ·rcases h3 with h3|⟨v,hv,h3⟩
   ·exact ⟨x,by simp,h3⟩
   ·exact ⟨v,by simp [hv],h3⟩
def ig (l:List ab):List Int:=l.map fun v=>v.N-gj l
theorem Cy {l:List ab} (h:cM l=1):1≤l.length∧l.length≤64∧∀v∈l,v.Ty=1∧v.S=⟨#[]⟩∧(-1000000000≤v.N∧v.N≤1000000000):=by
 obtain ⟨h1,h2,h3,_⟩:=qI (l:=l) (by omega);rw [h] at h3;refine ⟨h1,h2,fun v hv=>?_⟩;obtain ⟨h4,h5⟩:=wL h3 v hv;rw [h5] at h4;have:=am4 h4;exact ⟨h5,this.2,this.1⟩
def jW (l:List ab):List Int:=if cM l=1 then cI (gj l)++j9 0 (ig l)::ji (ig l) (j9 0 (ig l)) else []
theorem Vb (l:List Int):0≤j9 0 l∧j9 0 l≤31:=adt l 0 (by omega)
theorem Fz (l:List ab):bI (jW l):=by
 unfold jW;split
 ·have:=Vb (ig l);exact vl (w_ _) (Jn (by omega) (abS _ _))
 ·exact qd
theorem aeT (l:List ab):(jW l).length≤1000:=by
 unfold jW;split
 ·rename_i h;have:=(Cy h).2.1;have:=ma (gj l);have:=B5 (ig l) (j9 0 (ig l));have:(ig l).length=l.length:=by simp [ig]
  simp only [zb,zd];omega
 ·simp
def kZ (base:Int):List Int→Option (List ab)
 |[]=>some []
 |x::l=>if (0≤x∧x≤2000000000)∧base+x≤1000000000 then (match kZ base l with
  |some r=>some (⟨1,base+x,⟨#[]⟩⟩::r)
  |none=>none) else none
def pa (base:Int) (l:List Int):Option (List ab):=if jK base=true then kZ base l else none
theorem acg (base:Int):∀{l:List Int} {r:List ab},kZ base l=some r→r.length=l.length
 |[],r,h=>by simp [kZ] at h;subst h;rfl
 |i::l,r,h=>by
  simp only [kZ] at h;split at h
  ·split at h
   ·rename_i q hq;simp at h;subst h;simp [acg base hq]
   ·cases h
  ·cases h
def kR (b:List Int) (k:Int):Option (List ab):=match gN b 0 with
 |some (n,u)=>match b[u.toNat]? with
  |some w=>match ix (b.drop (u+1).toNat) w k with
   |some p=>match pa n p with
    |some l=>eU b k jW l
    |none=>none
   |none=>none
  |none=>none
 |none=>none
def kD (kind:Int) (l:List ab):List Int:=if kind=0 then kS l else if kind=1 then jF l else if kind=2 then iC l else if kind=3 then jW l else []
theorem aeQ (kind:Int) (l:List ab):bI (kD kind l):=by
 unfold kD;split;exact JL l;split;exact JM l;split;exact Fy l;split;exact Fz l;exact qd
theorem JJ (kind:Int) (l:List ab):(kD kind l).length≤1000:=by
 unfold kD;split;exact Nat.le_trans (aeU l) (by omega);split;exact aeV l;split;exact aeS l;split;exact aeT l;simp
def dD (kind:Int) (l:List ab):Int:=((kD kind l).length:Int)
def iB (l:List ab):Int:=
 let t:=cM l
 if t=0 then -1 else
 let b1:=if dD 1 l<dD 0 l then 1 else 0
 let b2:=if dD 2 l<dD b1 l then 2 else b1
 if t=1∧dD 3 l<dD b2 l then 3 else b2
theorem Ji (l:List ab):iB l=-1∨(0≤iB l∧iB l≤3):=by
 unfold iB;simp only;split
 ·exact .inl rfl
 ·right;split
  ·omega
  ·split
   ·omega
   ·split<;>omega
def dC (l:List ab):List Int:=if iB l<0 then [] else iB l::kD (iB l) l
theorem vB (l:List ab):bI (dC l):=by
 unfold dC;split
 ·exact qd
 ·have:=Ji l;exact Jn (by omega) (aeQ _ _)
theorem aeR (l:List ab):(dC l).length≤1001:=by
 unfold dC;split
 ·simp
 ·have:=JJ (iB l) l;simp;omega
def gW (kind:Int) (b:List Int) (ty k:Int):Option (List ab):=if kind=0 then mG b ty k else if kind=1 then iU b ty k else if kind=2 then ll b ty k else if kind=3 then kR b k else none
def fh (b:List Int) (ty k:Int):Option (List ab):=match b with
 |[]=>none
 |c::r=>match gW c r ty k with
  |some l=>if cM l=ty∧b=dC l then some l else none
  |none=>none
theorem aeK {b:List Int} {ty k:Int} {l:List ab} (hb:bI b) (h:mG b ty k=some l):(l.length:Int)=k:=by
 unfold mG at h;split at h
 ·rename_i hk;split at h
  ·rename_i l' t hg;split at h
   ·simp at h;subst h;exact (Wj hb hk hg).1
   ·cases h
  ·cases h
 ·cases h
theorem aeM {b:List Int} {ty k:Int} {l:List ab} (h:iU b ty k=some l):(l.length:Int)=k:=by
 unfold iU at h;split at h
 ·split at h
  ·split at h
   ·obtain ⟨rfl,_,h1,_⟩:=CP h;exact h1
   ·cases h
  ·cases h
 ·cases h
theorem aeG {b:List Int} {ty k:Int} {l:List ab} (h:ll b ty k=some l):(l.length:Int)=k:=by
 unfold ll oJ at h;split at h
 ·split at h
  ·split at h
   ·split at h
    ·split at h
     ·obtain ⟨rfl,_,h1,_⟩:=CP h;exact h1
     ·cases h
    ·cases h
   ·cases h
  ·cases h
 ·cases h
theorem aeH {b:List Int} {k:Int} {l:List ab} (h:kR b k=some l):(l.length:Int)=k:=by
 unfold kR at h;split at h
 ·split at h
  ·split at h
   ·split at h
    ·obtain ⟨rfl,_,h1,_⟩:=CP h;exact h1
    ·cases h
   ·cases h
  ·cases h
 ·cases h
theorem vu {kind:Int} {b:List Int} {ty k:Int} {l:List ab} (hb:bI b) (h:gW kind b ty k=some l):(l.length:Int)=k:=by
 unfold gW at h;split at h;exact aeK hb h;split at h;exact aeM h;split at h;exact aeG h;split at h;exact aeH h;cases h
theorem Ft {b:List Int} {ty k:Int} {l:List ab} (hb:bI b) (h:fh b ty k=some l):(l.length:Int)=k∧cM l=ty∧b=dC l:=by
 unfold fh at h;split at h
 ·cases h
 ·rename_i c r;split at h
  ·rename_i l' hl;split at h
   ·rename_i hh;simp at h;subst h;exact ⟨vu (fun x hx=>hb x (by simp [hx])) hl,hh⟩
   ·cases h
  ·cases h
@[simp] theorem ac_ (h:l.length≤1048576) (hs:ab.aJ l):Gw TT 526 [.one (rl k0 3 (l.map ab.e))]=some (vi (cM l),[]):=by
 refine Ga Ci PJ ?_;unfold PJ;by_cases q:1≤l.length∧l.length≤64
 ·have q1:(1:Int)≤(l.length:Int):=by omega
  have q2:(l.length:Int)≤64:=by omega
  obtain ⟨v0,fM⟩:∃v,l[0]?=some v:=⟨_,zi (by omega)⟩;obtain ⟨nU,pE⟩:=za.1 fM
  have fN:cM l=if kK v0.Ty l=true then v0.Ty else 0:=by
   cases l with
   |nil=>simp at nU
   |cons x r=>
    simp at fM;subst fM;simp only [cM];have:r.length<64:=by simp at q;omega
    simp [this]
  refine Uw (J5 q1 q2 nU fM pE) ?_;refine ba (σ:=List ab×List ab) (fun s=>[(0,AV.v k0 (D.sl 3 (l.map ab.e)),none),(9,AV.v k0 (D.sl 3 (l.map ab.e)),none),(10,vn (l.length:Nat),none),(11,vn ((s.1.length:Nat):Int),none)]) (fun s=>l=s.1++s.2∧kK v0.Ty s.2=kK v0.Ty l) (fun s=>s.2.length) ([],l) (by simp) ⟨rfl,rfl⟩ ?_;rintro ⟨pre,rest⟩ ⟨y1,y2⟩;simp only at y1 y2;have y3:l.length=pre.length+rest.length:=by rw [y1,zb]
  rcases rest with _|⟨d,rest⟩
  ·simp only [ze] at y3;simp only [kK] at y2;rw [←y2,if_pos rfl] at fN;have c1:¬(pre.length:Int)<(l.length:Int):=by omega
   unfold TH;refine Uw (J5 c1 nU fM pE fN) ?_;simp [Ci,fN]
  ·simp only [zd] at y3;have hd:=hs d (by rw [y1];simp);simp only [ab.sm] at hd;simp only [kK] at y2;have hg:l[pre.length]?=some d:=by rw [y1];simp
   obtain ⟨ai,he⟩:=za.1 hg;have c1:(pre.length:Int)<(l.length:Int):=by omega
   have hw:=Wi ((pre.length:Int)+1);unfold TH;by_cases o1:ec d.Ty d.N d.S=true
   ·by_cases o2:d.Ty=v0.Ty
    ·rw [if_pos ⟨o1,o2⟩] at y2;have o3:ec v0.Ty d.N d.S=true:=o2▸o1;refine Uw (J8 hg he ai c1 hw hd o1 (J5 o2 o3 nU fM pE)) ?_;exact ⟨(pre++[d],rest),by simp,⟨by rw [y1];simp,y2⟩,by simp⟩
    ·rw [if_neg (fun q=>o2 q.2)] at y2;rw [←y2,if_neg (by simp)] at fN;have o4:(d.Ty==v0.Ty)=false:=by simpa using o2
     have o5:(d.Ty !=v0.Ty)=true:=by simpa using o2
     refine Uw (J8 hg he ai c1 hw hd o1 (J6 o4 o5 nU fM pE fN)) ?_;simp [Ci,fN]
   ·rw [if_neg (fun q=>o1 q.1)] at y2;rw [←y2,if_neg (by simp)] at fN;have o3:ec d.Ty d.N d.S=false:=by simpa using o1
    refine Uw (J8 hg he ai c1 hw hd o3 (J4 nU fM pE fN)) ?_;simp [Ci,fN]
 ·have fN:cM l=0:=by
   cases l with
   |nil=>rfl
   |cons x r=>
    simp only [cM];rw [if_neg (fun e=>q ⟨by simp,by simp;omega⟩)]
  refine Uw fN ?_;repeat intro hc
  simp [Ci,fN]
@[simp] theorem ac5 (h:l.length≤1048576) (hs:ab.aJ l):Gw TT 518 [.one (rl k0 3 (l.map ab.e))]=some (vi (cM l),[]):=by
 refine Ga Cg Py ?_;unfold Py;by_cases q:1≤l.length∧l.length≤64
 ·have q1:(1:Int)≤(l.length:Int):=by omega
  have q2:(l.length:Int)≤64:=by omega
  obtain ⟨v0,fM⟩:∃v,l[0]?=some v:=⟨_,zi (by omega)⟩;obtain ⟨nU,pE⟩:=za.1 fM
  have fN:cM l=if kK v0.Ty l=true then v0.Ty else 0:=by
   cases l with
   |nil=>simp at nU
   |cons x r=>
    simp at fM;subst fM;simp only [cM];have:r.length<64:=by simp at q;omega
    simp [this]
  refine Uw (J5 q1 q2 nU fM pE) ?_;refine ba (σ:=List ab×List ab) (fun s=>[(0,AV.v k0 (D.sl 3 (l.map ab.e)),none),(3,vn ((s.1.length:Nat):Int),none)]) (fun s=>l=s.1++s.2∧kK v0.Ty s.2=kK v0.Ty l) (fun s=>s.2.length) ([],l) (by simp) ⟨rfl,rfl⟩ ?_;rintro ⟨pre,rest⟩ ⟨y1,y2⟩;simp only at y1 y2;have y3:l.length=pre.length+rest.length:=by rw [y1,zb]
  rcases rest with _|⟨d,rest⟩
  ·simp only [ze] at y3;simp only [kK] at y2;rw [←y2,if_pos rfl] at fN;have c1:¬(pre.length:Int)<(l.length:Int):=by omega
   unfold TG;refine Uw (J5 c1 nU fM pE fN) ?_;simp [Cg,fN]
  ·simp only [zd] at y3;have hd:=hs d (by rw [y1];simp);simp only [ab.sm] at hd;simp only [kK] at y2;have hg:l[pre.length]?=some d:=by rw [y1];simp
   obtain ⟨ai,he⟩:=za.1 hg;have c1:(pre.length:Int)<(l.length:Int):=by omega
   have hw:=Wi ((pre.length:Int)+1);unfold TG;by_cases o1:ec d.Ty d.N d.S=true
   ·by_cases o2:d.Ty=v0.Ty
    ·rw [if_pos ⟨o1,o2⟩] at y2;have o3:ec v0.Ty d.N d.S=true:=o2▸o1;refine Uw (J8 hg he ai c1 hw hd o1 (J5 o2 o3 nU fM pE)) ?_;exact ⟨(pre++[d],rest),by simp,⟨by rw [y1];simp,y2⟩,by simp⟩
    ·rw [if_neg (fun q=>o2 q.2)] at y2;rw [←y2,if_neg (by simp)] at fN;have o4:(d.Ty==v0.Ty)=false:=by simpa using o2
     have o5:(d.Ty !=v0.Ty)=true:=by simpa using o2
     refine Uw (J8 hg he ai c1 hw hd o1 (J6 o4 o5 nU fM pE fN)) ?_;simp [Cg,fN]
   ·rw [if_neg (fun q=>o1 q.1)] at y2;rw [←y2,if_neg (by simp)] at fN;have o3:ec d.Ty d.N d.S=false:=by simpa using o1
    refine Uw (J8 hg he ai c1 hw hd o3 (J4 nU fM pE fN)) ?_;simp [Cg,fN]
 ·have fN:cM l=0:=by
   cases l with
   |nil=>rfl
   |cons x r=>
    simp only [cM];rw [if_neg (fun e=>q ⟨by simp,by simp;omega⟩)]
  refine Uw fN ?_;repeat intro hc
  simp [Cg,fN]
@[simp] theorem amy (h:b.length≤1048000) (hs:bJ.size≤1048576):Gw TT 579 [.one (rl k0 1 (b.map eb)),.st (kO dB du bJ)]=some (.one (.own (.sl 1 ((b++i_ ⟨dB,du,bJ⟩).map eb))),[]):=by
 refine Ga Es QE ?_;unfold QE;have qY:(0+b.length)*1≤70368744177664:=by omega
 have jt:b.length≤70368744177664:=by omega
 have mf:b.length≤1048576:=by omega
 cases hv:ec dB du bJ with
 |false=>
  have hp:i_ ⟨dB,du,bJ⟩=[]:=by simp [i_,hv]
  refine Uw (J6 h hs hv qY jt mf) ?_;simp [Es,hp]
 |true=>
  have hl:=xV hv;by_cases u:dB=1
  ·subst u;have hp:i_ ⟨1,du,bJ⟩=cI du:=by simp [i_,hv]
   refine Uw (J6 h hs hv qY jt mf) ?_;simp [Es,hp]
  ·have hp:i_ ⟨dB,du,bJ⟩=(bJ.size:Int)::sR bJ:=by simp [i_,hv,u]
   have hu:IntKind.wrap .u8 (bJ.size:Int)=(bJ.size:Int):=wrap_u8 (by omega) (by omega);have lB:(b.length+1)*1≤70368744177664:=by omega
   have qy:b.length+1≤70368744177664:=by omega
   have vP:b.length+1+bJ.size≤70368744177664:=by omega
   refine Uw (J8 h hs hv qY jt mf u (J4 hu lB qy vP)) ?_;repeat intro hc
   simp [Es,hp,sR]
@[simp] theorem amw (h:b.length≤1048000) (hs:bJ.size≤1048576):Gw TT 569 [.one (rl k0 1 (b.map eb)),.st (kO dB du bJ)]=some (.one (.own (.sl 1 ((b++i_ ⟨dB,du,bJ⟩).map eb))),[]):=by
 refine Ga Er Qr ?_;unfold Qr;have qY:(0+b.length)*1≤70368744177664:=by omega
 have jt:b.length≤70368744177664:=by omega
 have mf:b.length≤1048576:=by omega
 cases hv:ec dB du bJ with
 |false=>
  have hp:i_ ⟨dB,du,bJ⟩=[]:=by simp [i_,hv]
  refine Uw (J6 h hs hv qY jt mf) ?_;simp [Er,hp]
 |true=>
  have hl:=xV hv;by_cases u:dB=1
  ·subst u;have hp:i_ ⟨1,du,bJ⟩=cI du:=by simp [i_,hv]
   refine Uw (J6 h hs hv qY jt mf) ?_;simp [Er,hp]
  ·have hp:i_ ⟨dB,du,bJ⟩=(bJ.size:Int)::sR bJ:=by simp [i_,hv,u]
   have hu:IntKind.wrap .u8 (bJ.size:Int)=(bJ.size:Int):=wrap_u8 (by omega) (by omega);have lB:(b.length+1)*1≤70368744177664:=by omega
   have qy:b.length+1≤70368744177664:=by omega
   have vP:b.length+1+bJ.size≤70368744177664:=by omega
   refine Uw (J8 h hs hv qY jt mf u (J4 hu lB qy vP)) ?_;repeat intro hc
   simp [Er,hp,sR]
def FI (r:Option (ab×Int)):V:=match r with
 |some (v,t)=>.cf [.st [.ro false (di v.Ty),.ro false (di v.N),.ro false (.str v.S)],vi t,vb true]
 |none=>.cf [.st [.ro false (di 0),.ro false (di 0),.ro false (.str ⟨#[]⟩)],vi 0,vb false]
@[simp] theorem ao9 (v:ab) (t:Int):FI (some (v,t))=.cf [.st [.ro false (di v.Ty),.ro false (di v.N),.ro false (.str v.S)],vi t,vb true]:=rfl
@[simp] theorem ao8:FI none=.cf [.st [.ro false (di 0),.ro false (di 0),.ro false (.str ⟨#[]⟩)],vi 0,vb false]:=rfl
@[simp] theorem asb (h:b.length≤1048576) (hb:bI b):Gw TT 551 [.one (rl k0 1 (b.map eb)),vi u,vi ty]=some (FI (fi b u ty),[]):=by
 refine Ga wy P6 ?_;unfold P6;have hz:(⟨#[]⟩:ByteArray).size≤1048576:=by decide
 by_cases q1:ty=1
 ·subst q1;cases hg:gN b u with
  |none=>
   have hr:fi b u 1=none:=by simp [fi,hg]
   refine Ud (J4 h hb hg hr) ?_;simp [wy,hr]
  |some q=>
   obtain ⟨n,t⟩:=q;have hr:fi b u 1=some (⟨1,n,⟨#[]⟩⟩,t):=by simp [fi,hg]
   obtain ⟨c1,c2,c3,_⟩:=rR hb hg;have hv:=IJ c1;have ht:¬t=0:=by omega
   refine Ud (J7 h hb hg hr hz hv ht) ?_;repeat intro hc
   simp [wy,hr]
 ·by_cases q2:ty=2
  ·subst q2;by_cases q3:0≤u∧u<(b.length:Int)
   ·obtain ⟨m,rfl⟩:=zf q3.1;have hm:m<b.length:=by omega
    obtain ⟨c,hc⟩:∃c,b[m]?=some c:=⟨_,zi hm⟩;have jX:b[m]=c:=(za.1 hc).2;have fT:=hb c (zk hc);obtain ⟨kn,rfl⟩:=zf fT.1;have w1:=Wi ((m:Int)+1);have w2:IntKind.wrap .i64 (kn:Int)=(kn:Int):=wrap_i64 (by omega) (by omega);have w3:=Wi ((m:Int)+1+(kn:Int));have w4:=Wi ((b.length:Int)-(m:Int));have w5:=Wi ((b.length:Int)-(m:Int)-1);have w6:=Wi ((b.length:Int)-1);have p1:(m:Int)<(b.length:Int):=by omega
    have p2:(m:Int)≤(b.length:Int)-1:=by omega
    have p3:(0:Int)≤(m:Int)+1:=by omega
    have p4:(0:Int)≤(m:Int)+1+(kn:Int):=by omega
    have p5:((m:Int)+1).toNat=m+1:=by omega
    have p6:((m:Int)+1+(kn:Int)).toNat=m+1+kn:=by omega
    have p7:m+1≤m+1+kn:=by omega
    have DV:(m:Int)+1≤(m:Int)+1+(kn:Int):=by omega
    by_cases q4:m+1+kn≤b.length
    ·obtain ⟨S,hS⟩:∃S,S=strOf ((b.take (m+1+kn)).drop (m+1)):=⟨_,rfl⟩;obtain ⟨L,hL⟩:∃L,L=((b.take (m+1+kn)).drop (m+1)).map (fun n=>Zn n.toNat):=⟨_,rfl⟩;have gK:sT (zx (m+1) (zG (m+1+kn) (zg eb b)))=some L:=by rw [hL,←V1,zI,Zl]
     have C3:(⟨L.toArray⟩:ByteArray)=S:=by rw [hL,hS];try rfl
     have dM:S.size≤1048576:=by
      rw [←Fb,hS,Bt (sS _ (Bu _ hb))];simp only [zw,zP];omega
     have p8:¬(b.length:Int)<(m:Int)+1+(kn:Int):=by omega
     have p9:¬(b.length:Int)-(m:Int)-1<(kn:Int):=by omega
     have wm:(m:Int)+1+(kn:Int)≤(b.length:Int):=by omega
     have DT:(m:Int)+1≤(b.length:Int):=by omega
     have DU:¬(m:Int)+1+(kn:Int)=0:=by omega
     cases hv:ec 2 0 S with
     |true=>
      have hr:fi b (m:Int) 2=some (⟨2,0,S⟩,(m:Int)+1+(kn:Int)):=by
       unfold fi;rw [if_neg (by omega),if_pos ⟨rfl,by omega⟩];simp only [zo,hc];rw [if_pos wm,p5,p6,←hS,if_pos hv]
      refine Ud (J8 h hc jX hm w1 w2 w3 (J8 w4 w5 w6 p1 p2 p3 p4 (J8 p5 p6 p7 DV p8 p9 wm (J8 DT DU q4 gK C3 dM hv hr)))) ?_;repeat intro hc
      simp [wy,hr]
     |false=>
      have hr:fi b (m:Int) 2=none:=by
       unfold fi;rw [if_neg (by omega),if_pos ⟨rfl,by omega⟩];simp only [zo,hc];rw [if_pos wm,p5,p6,←hS,if_neg (by rw [hv];simp)]
      refine Ud (J8 h hc jX hm w1 w2 w3 (J8 w4 w5 w6 p1 p2 p3 p4 (J8 p5 p6 p7 DV p8 p9 wm (J8 DT DU q4 gK C3 dM hv hr)))) ?_;simp [wy,hr]
    ·have p8:(b.length:Int)<(m:Int)+1+(kn:Int):=by omega
     have p9:(b.length:Int)-(m:Int)-1<(kn:Int):=by omega
     have hr:fi b (m:Int) 2=none:=by
      unfold fi;rw [if_neg (by omega),if_pos ⟨rfl,by omega⟩];simp only [zo,hc];rw [if_neg (by omega)]
     refine Ud (J8 h hc jX hm w1 w2 w3 (J8 w4 w5 w6 p1 p2 p3 p4 (J6 p5 p6 p7 p8 p9 hr))) ?_;simp [wy,hr]
   ·have hr:fi b u 2=none:=by
     unfold fi;rw [if_neg (by omega)];split
     ·rename_i hh;rw [zy (by omega)]
     ·rfl
    have w6:=Wi ((b.length:Int)-1);have fM:ec 2 0 ⟨#[]⟩=true:=by simp [ec,sw,CI];decide
    refine Ud (J4 hr hz w6 fM) ?_ ?_;all_goals repeat intro hc
    all_goals simp [wy,hr]
  ·have hr:fi b u ty=none:=by simp [fi,q1,q2]
   have fM:ec ty 0 ⟨#[]⟩=false:=by simp [ec,q1,q2]
   refine Ud (J5 hr hz q1 q2 fM) ?_;repeat intro hc
   simp [wy,hr]
@[simp] theorem ar4 (h:b.length≤1048576) (hb:bI b):Gw TT 538 [.one (rl k0 1 (b.map eb)),vi u,vi ty]=some (FI (fi b u ty),[]):=by
 refine Ga wv PS ?_;unfold PS;have hz:(⟨#[]⟩:ByteArray).size≤1048576:=by decide
 by_cases q1:ty=1
 ·subst q1;cases hg:gN b u with
  |none=>
   have hr:fi b u 1=none:=by simp [fi,hg]
   refine Uw (J4 h hb hg hr) ?_;simp [wv,hr]
  |some q=>
   obtain ⟨n,t⟩:=q;have hr:fi b u 1=some (⟨1,n,⟨#[]⟩⟩,t):=by simp [fi,hg]
   obtain ⟨c1,c2,c3,_⟩:=rR hb hg;have hv:=IJ c1;have ht:¬t=0:=by omega
   refine Uw (J7 h hb hg hr hz hv ht) ?_;simp [wv,hr]
 ·by_cases q2:ty=2
  ·subst q2;by_cases q3:0≤u∧u<(b.length:Int)
   ·obtain ⟨m,rfl⟩:=zf q3.1;have hm:m<b.length:=by omega
    obtain ⟨c,hc⟩:∃c,b[m]?=some c:=⟨_,zi hm⟩;have jX:b[m]=c:=(za.1 hc).2;have fT:=hb c (zk hc);obtain ⟨kn,rfl⟩:=zf fT.1;have w1:=Wi ((m:Int)+1);have w2:IntKind.wrap .i64 (kn:Int)=(kn:Int):=wrap_i64 (by omega) (by omega);have w3:=Wi ((m:Int)+1+(kn:Int));have w4:=Wi ((b.length:Int)-(m:Int));have w5:=Wi ((b.length:Int)-(m:Int)-1);have w6:=Wi ((b.length:Int)-1);have p1:(m:Int)<(b.length:Int):=by omega
    have p2:(m:Int)≤(b.length:Int)-1:=by omega
    have p3:(0:Int)≤(m:Int)+1:=by omega
    have p4:(0:Int)≤(m:Int)+1+(kn:Int):=by omega
    have p5:((m:Int)+1).toNat=m+1:=by omega
    have p6:((m:Int)+1+(kn:Int)).toNat=m+1+kn:=by omega
    have p7:m+1≤m+1+kn:=by omega
    have DV:(m:Int)+1≤(m:Int)+1+(kn:Int):=by omega
    by_cases q4:m+1+kn≤b.length
    ·obtain ⟨S,hS⟩:∃S,S=strOf ((b.take (m+1+kn)).drop (m+1)):=⟨_,rfl⟩;obtain ⟨L,hL⟩:∃L,L=((b.take (m+1+kn)).drop (m+1)).map (fun n=>Zn n.toNat):=⟨_,rfl⟩;have gK:sT (zx (m+1) (zG (m+1+kn) (zg eb b)))=some L:=by rw [hL,←V1,zI,Zl]
     have C3:(⟨L.toArray⟩:ByteArray)=S:=by rw [hL,hS];try rfl
     have dM:S.size≤1048576:=by
      rw [←Fb,hS,Bt (sS _ (Bu _ hb))];simp only [zw,zP];omega
     have p8:¬(b.length:Int)<(m:Int)+1+(kn:Int):=by omega
     have p9:¬(b.length:Int)-(m:Int)-1<(kn:Int):=by omega
     have wm:(m:Int)+1+(kn:Int)≤(b.length:Int):=by omega
     have DT:(m:Int)+1≤(b.length:Int):=by omega
     have DU:¬(m:Int)+1+(kn:Int)=0:=by omega
     cases hv:ec 2 0 S with
     |true=>
      have hr:fi b (m:Int) 2=some (⟨2,0,S⟩,(m:Int)+1+(kn:Int)):=by
       unfold fi;rw [if_neg (by omega),if_pos ⟨rfl,by omega⟩];simp only [zo,hc];rw [if_pos wm,p5,p6,←hS,if_pos hv]
      refine Uw (J8 h hc jX hm w1 w2 w3 (J8 w4 w5 w6 p1 p2 p3 p4 (J8 p5 p6 p7 DV p8 p9 wm (J8 DT DU q4 gK C3 dM hv hr)))) ?_;simp [wv,hr]
     |false=>
      have hr:fi b (m:Int) 2=none:=by
       unfold fi;rw [if_neg (by omega),if_pos ⟨rfl,by omega⟩];simp only [zo,hc];rw [if_pos wm,p5,p6,←hS,if_neg (by rw [hv];simp)]
      refine Uw (J8 h hc jX hm w1 w2 w3 (J8 w4 w5 w6 p1 p2 p3 p4 (J8 p5 p6 p7 DV p8 p9 wm (J8 DT DU q4 gK C3 dM hv hr)))) ?_;simp [wv,hr]
    ·have p8:(b.length:Int)<(m:Int)+1+(kn:Int):=by omega
     have p9:(b.length:Int)-(m:Int)-1<(kn:Int):=by omega
     have hr:fi b (m:Int) 2=none:=by
      unfold fi;rw [if_neg (by omega),if_pos ⟨rfl,by omega⟩];simp only [zo,hc];rw [if_neg (by omega)]
     refine Uw (J8 h hc jX hm w1 w2 w3 (J8 w4 w5 w6 p1 p2 p3 p4 (J6 p5 p6 p7 p8 p9 hr))) ?_;simp [wv,hr]
   ·have hr:fi b u 2=none:=by
     unfold fi;rw [if_neg (by omega)];split
     ·rename_i hh;rw [zy (by omega)]
     ·rfl
    have w6:=Wi ((b.length:Int)-1);have fM:ec 2 0 ⟨#[]⟩=true:=by simp [ec,sw,CI];decide
    refine Uw (J4 hr hz w6 fM) ?_;repeat intro hc
    simp [wv,hr]
  ·have hr:fi b u ty=none:=by simp [fi,q1,q2]
   have fM:ec ty 0 ⟨#[]⟩=false:=by simp [ec,q1,q2]
   refine Uw (J5 hr hz q1 q2 fM) ?_;repeat intro hc
   simp [wv,hr]
@[simp] theorem ams (h:l.length≤1048576) (hs:ab.aJ l):Gw TT 550 [.one (rl k0 3 (l.map ab.e))]=some (.one (.own (.sl 1 ((kS l).map eb))),[]):=by
 refine Ga G' P5 ?_;unfold P5;by_cases q:cM l=0
 ·have he:kS l=[]:=by simp [kS,q]
  refine Uw (J4 h hs q he) ?_;simp [G',he]
 ·have he:kS l=ic l:=by simp [kS,q]
  obtain ⟨q1,q2,_,_⟩:=qI q;refine Uw (J4 h hs q he) ?_;repeat intro hc
  refine ba (σ:=List ab×List ab×List Int) (fun s=>[(3,AV.pl 3 0 [],some (Rt.aX [C.own (D.sl 1 ((s.2.2).map eb))])),(11,AV.v k0 (D.sl 3 (l.map ab.e)),none),(12,vn (l.length:Nat),none),(13,vn ((s.1.length:Nat):Int),none)]) (fun s=>l=s.1++s.2.1∧s.2.2++ic s.2.1=ic l∧s.2.2.length≤7*s.1.length) (fun s=>s.2.1.length) ([],l,[]) (by simp) ⟨rfl,rfl,by simp⟩ ?_;rintro ⟨pre,rest,a⟩ ⟨y1,y2,y4⟩;simp only at y1 y2 y4;have y3:l.length=pre.length+rest.length:=by rw [y1,zb]
  rcases rest with _|⟨⟨dT,dN,dS⟩,rest⟩
  ·simp only [ze] at y3;simp only [ic,zD,zh] at y2;have c1:¬(pre.length:Int)<(l.length:Int):=by omega
   unfold TS;refine Uw c1 ?_;simp [G',he,ic,y2]
  ·simp only [zd] at y3;have hd:=hs ⟨dT,dN,dS⟩ (by rw [y1];simp);simp only [ab.sm] at hd;have hg:l[pre.length]?=some ⟨dT,dN,dS⟩:=by rw [y1];simp
   obtain ⟨ai,aB⟩:=za.1 hg;have c1:(pre.length:Int)<(l.length:Int):=by omega
   have hw:=Wi ((pre.length:Int)+1);have ha:a.length≤1048000:=by omega
   have hp:=xJ ⟨dT,dN,dS⟩;unfold TS;refine Uw (J7 hg aB ai c1 hw hd ha) ?_;exact ⟨(pre++[⟨dT,dN,dS⟩],rest,a++i_ ⟨dT,dN,dS⟩),by simp,⟨by rw [y1];simp,by rw [←y2];simp [ic],by simp only [zb,zd,ze];omega⟩,by simp⟩
@[simp] theorem asu (h:l.length≤1048576) (hs:ab.aJ l):Gw TT 578 [.one (rl k0 3 (l.map ab.e))]=some (.one (.own (.sl 1 ((kS l).map eb))),[]):=by
 refine Ga Hn QD ?_;unfold QD;by_cases q:cM l=0
 ·have he:kS l=[]:=by simp [kS,q]
  refine Uw (J4 h hs q he) ?_;simp [Hn,he]
 ·have he:kS l=ic l:=by simp [kS,q]
  obtain ⟨q1,q2,_,_⟩:=qI q;refine Uw (J4 h hs q he) ?_;repeat intro hc
  refine ba (σ:=List ab×List ab×List Int) (fun s=>[(0,AV.v k0 (D.sl 3 (l.map ab.e)),none),(3,AV.pl 3 0 [],some (Rt.aX [C.own (D.sl 1 ((s.2.2).map eb))])),(4,vn ((s.1.length:Nat):Int),none)]) (fun s=>l=s.1++s.2.1∧s.2.2++ic s.2.1=ic l∧s.2.2.length≤7*s.1.length) (fun s=>s.2.1.length) ([],l,[]) (by simp) ⟨rfl,rfl,by simp⟩ ?_;rintro ⟨pre,rest,a⟩ ⟨y1,y2,y4⟩;simp only at y1 y2 y4;have y3:l.length=pre.length+rest.length:=by rw [y1,zb]
  rcases rest with _|⟨⟨dT,dN,dS⟩,rest⟩
  ·simp only [ze] at y3;simp only [ic,zD,zh] at y2;have c1:¬(pre.length:Int)<(l.length:Int):=by omega
   unfold T9;refine Uw c1 ?_;simp [Hn,he,ic,y2]
  ·simp only [zd] at y3;have hd:=hs ⟨dT,dN,dS⟩ (by rw [y1];simp);simp only [ab.sm] at hd;have hg:l[pre.length]?=some ⟨dT,dN,dS⟩:=by rw [y1];simp
   obtain ⟨ai,aB⟩:=za.1 hg;have c1:(pre.length:Int)<(l.length:Int):=by omega
   have hw:=Wi ((pre.length:Int)+1);have ha:a.length≤1048000:=by omega
   have hp:=xJ ⟨dT,dN,dS⟩;unfold T9;refine Uw (J7 hg aB ai c1 hw hd ha) ?_;exact ⟨(pre++[⟨dT,dN,dS⟩],rest,a++i_ ⟨dT,dN,dS⟩),by simp,⟨by rw [y1];simp,by rw [←y2];simp [ic],by simp only [zb,zd,ze];omega⟩,by simp⟩
def Ke (r:Option (List ab×Int)):V:=match r with
 |some (l,t)=>.cf [.one (.own (.sl 3 (l.map ab.e))),vi t,vb true]
 |none=>.cf [.one (.own (.sl 3 [])),vi 0,vb false]
@[simp] theorem ao' (l:List ab) (t:Int):Ke (some (l,t))=.cf [.one (.own (.sl 3 (l.map ab.e))),vi t,vb true]:=rfl
@[simp] theorem ao_:Ke none=.cf [.one (.own (.sl 3 [])),vi 0,vb false]:=rfl
def mj (r:Option (List ab)):V:=match r with
 |some l=>.cf [.one (.own (.sl 3 (l.map ab.e))),vb true]
 |none=>.cf [.one (.own (.sl 3 [])),vb false]
@[simp] theorem ajO (l:List ab):mj (some l)=.cf [.one (.own (.sl 3 (l.map ab.e))),vb true]:=rfl
@[simp] theorem aq9:mj none=.cf [.one (.own (.sl 3 [])),vb false]:=rfl
@[simp] theorem ac' (u0 ty k:Int) (h:b.length≤1048576) (hb:bI b) (KO:0≤k) (hk:k≤64):Gw TT 549 [.one (rl k0 1 (b.map eb)),vi u0,vi ty,vi k]=some (Ke (iD b ty k.toNat u0),[]):=by
 refine Ga G_ P4 ?_;unfold P4;obtain ⟨kn,rfl⟩:=zf KO;have hkn:((kn:Int)).toNat=kn:=by omega
 rw [hkn];refine Ua Oo ?_;refine ba (σ:=List ab×(Nat×Int)) (fun s=>[(0,AV.v k0 (D.sl 1 (b.map eb)),none),(1,vn s.2.2,none),(2,vn ty,none),(3,vn (kn:Nat),none),(11,AV.pl 11 0 [],some (Rt.aX [C.own (D.sl 3 ((s.1).map ab.e))])),(12,vn (s.1.length:Nat),none)]) (fun s=>s.1.length+s.2.1=kn∧iD b ty kn u0=kX s.1 (iD b ty s.2.1 s.2.2)) (fun s=>s.2.1) ([],(kn,u0)) (by simp) ⟨by simp,by rw [AX]⟩ ?_;rintro ⟨a,⟨i,v⟩⟩ ⟨y1,y2⟩;simp only at y1 y2;have hq:(a.length+1)*32≤70368744177664:=by omega
 cases i with
 |zero=>
  have c1:¬(a.length:Int)<(kn:Int):=by omega
  simp only [iD,AY,zh] at y2;unfold Ic;refine Ua (J2 c1 y2) ?_;simp [G_,y2]
 |succ i=>
  have c1:(a.length:Int)<(kn:Int):=by omega
  have hw:=Wi ((a.length:Int)+1);cases hv:fi b v ty with
  |none=>
   rw [JZ hv] at y2;unfold Ic;refine Ua (J6 c1 hw h hb hv y2) ?_;simp [G_,y2]
  |some q=>
   obtain ⟨⟨dT,dN,dS⟩,t⟩:=q;rw [J0 hv] at y2;unfold Ic;refine Ua (J6 c1 hw h hb hv hq) ?_;exact ⟨(a++[⟨dT,dN,dS⟩],(i,t)),by simp,⟨by simp;omega,y2⟩,by simp⟩
@[simp] theorem ac1 (h:b.length≤1048576) (hb:bI b):Gw TT 514 [.one (rl k0 1 (b.map eb)),vi ty,vi k]=some (mj (mG b ty k),[]):=by
 refine Ga Cf Pu ?_;unfold Pu;by_cases q:1≤k∧k≤64
 ·obtain ⟨kn,rfl⟩:=zf (show 0≤k by omega);have q1:(1:Int)≤(kn:Int):=q.1;have q2:(kn:Int)≤64:=q.2
  have oN:mG b ty (kn:Int)=match iD b ty kn 0 with
   |some (l,t)=>if t=(b.length:Int) then some l else none
   |none=>none:=by unfold mG;rw [if_pos q,show ((kn:Int)).toNat=kn by omega];try rfl
  obtain ⟨u0,hu0⟩:∃u0:Int,u0=0:=⟨_,rfl⟩;rw [←hu0] at oN;refine Uw (J2 q1 q2) ?_;refine ba (σ:=List ab×(Nat×Int)) (fun s=>[(0,AV.v k0 (D.sl 1 (b.map eb)),none),(1,vn ty,none),(2,vn (kn:Nat),none),(8,AV.pl 8 0 [],some (Rt.aX [C.own (D.sl 3 ((s.1).map ab.e))])),(9,vn s.2.2,none),(10,vn (s.1.length:Nat),none)]) (fun s=>s.1.length+s.2.1=kn∧iD b ty kn u0=kX s.1 (iD b ty s.2.1 s.2.2)) (fun s=>s.2.1) ([],(kn,u0)) (by simp [hu0]) ⟨by simp,by rw [AX]⟩ ?_;rintro ⟨a,⟨i,v⟩⟩ ⟨y1,y2⟩;simp only at y1 y2;have hq:(a.length+1)*32≤70368744177664:=by omega
  cases i with
  |zero=>
   have c1:¬(a.length:Int)<(kn:Int):=by omega
   simp only [iD,AY,zh] at y2;rw [y2] at oN;simp only at oN;unfold H';by_cases e1:v=(b.length:Int)
   ·rw [if_pos e1] at oN;refine Uw (J3 c1 e1 oN) ?_;simp [Cf,oN]
   ·rw [if_neg e1] at oN;refine Uw (J3 c1 e1 oN) ?_;repeat intro hc
    simp [Cf,oN]
  |succ i=>
   have c1:(a.length:Int)<(kn:Int):=by omega
   have hw:=Wi ((a.length:Int)+1);cases hv:fi b v ty with
   |none=>
    rw [JZ hv] at y2;rw [y2] at oN;simp only at oN;unfold H';refine Uw (J6 c1 hw h hb hv oN) ?_;simp [Cf,oN]
   |some q=>
    obtain ⟨⟨dT,dN,dS⟩,t⟩:=q;rw [J0 hv] at y2;unfold H';refine Uw (J6 c1 hw h hb hv hq) ?_;exact ⟨(a++[⟨dT,dN,dS⟩],(i,t)),by simp,⟨by simp;omega,y2⟩,by simp⟩
 ·have oN:mG b ty k=none:=by unfold mG;rw [if_neg q]
  refine Uw oN ?_;repeat intro hc
  simp [Cf,oN]
theorem Iy {α:Type} (f:α→List D) (o:List α) (a b:List D):(zg f o++[a]).set o.length b=zg f o++[b]:=by
 have:o.length=(zg f o).length:=by simp
 rw [this,Za _ _ (zW _)];simp
theorem C0 {α:Type} (f:α→List D) (o:List α) (a:List D):(zg f o++[a])[o.length]?=some a:=by
 rw [List.getElem?_append_right (by simp)];simp
theorem FF {α:Type} (f:α→List D) (o:List α) (a:List D) (h:o.length<(zg f o++[a]).length):(zg f o++[a])[o.length]=a:=by
 have:=C0 f o a;rw [zi h] at this;simpa using this
theorem acx (o:List dv) (v:ab) (c:Int):uZ (o++[⟨v,c⟩]) v=o++[⟨v,c+1⟩]:=by
 have:cU v v=true:=pe.2 rfl;simp [uZ,this]
theorem acy (o:List dv) (x v:ab) (c:Int) (h:cU x v=false):uZ (o++[⟨x,c⟩]) v=o++[⟨x,c⟩]++[⟨v,1⟩]:=by
 simp [uZ,h]
@[simp] theorem asv (h:l.length≤1048576):Gw TT 580 [.one (rl k0 3 (l.map ab.e))]=some (.one (.own (.sl 4 ((mT l).map dv.e))),[]):=by
 refine Ga Sv QG ?_;unfold QG;refine Ud Oo ?_;refine ba (σ:=List ab×List ab×List dv) (fun s=>[(0,AV.v k0 (D.sl 3 (l.map ab.e)),none),(3,AV.pl 3 0 [],some (Rt.aX [C.own (D.sl 4 (s.2.2.map dv.e))])),(7,AV.v k0 (D.sl 3 (l.map ab.e)),none),(8,vn (l.length:Nat),none),(9,vn ((s.1.length:Nat):Int),none)]) (fun s=>l=s.1++s.2.1∧mT l=ss s.2.2 s.2.1∧s.2.2.length≤s.1.length∧((s.1=[]∧s.2.2=[])∨∃p x o c,s.1=p++[x]∧s.2.2=o++[⟨x,c⟩]∧1≤c∧c≤(s.1.length:Int))) (fun s=>s.2.1.length) ([],l,[]) (by simp) ⟨rfl,rfl,by simp,.inl ⟨rfl,rfl⟩⟩ ?_;rintro ⟨pre,rest,o⟩ ⟨y1,y2,y4,y5⟩;simp only at y1 y2 y4 y5;have y3:l.length=pre.length+rest.length:=by rw [y1,zb]
 rcases rest with _|⟨⟨dT,dN,dS⟩,rest⟩
 ·simp only [ze] at y3;simp only [ss] at y2;have c1:¬(pre.length:Int)<(l.length:Int):=by omega
  unfold Ik;refine Ud c1 ?_;repeat intro hc
  simp [Sv,y2]
 ·simp only [zd] at y3;simp only [ss] at y2;have hg:l[pre.length]?=some ⟨dT,dN,dS⟩:=by rw [y1];simp
  obtain ⟨ai,aB⟩:=za.1 hg;have c1:(pre.length:Int)<(l.length:Int):=by omega
  have hw:=Wi ((pre.length:Int)+1);have hq:(o.length+1)*40≤70368744177664:=by omega
  rcases y5 with ⟨rfl,rfl⟩|⟨p,⟨xT,xN,xS⟩,o,c,rfl,rfl,h1,h2⟩
  ·simp only [ze,zU] at y3 hg aB ai c1 hw hq;unfold Ik;refine Ud (J6 hg aB ai c1 hw hq) ?_;repeat intro hc
   exact ⟨([⟨dT,dN,dS⟩],rest,[⟨⟨dT,dN,dS⟩,1⟩]),by simp,⟨by rw [y1];simp,by rw [y2];rfl,by simp,.inr ⟨[],⟨dT,dN,dS⟩,[],1,rfl,rfl,by omega,by simp⟩⟩,by simp⟩
  ·simp only [zb,zd,ze,zU] at y3 y4 hg aB ai c1 hw hq h2;have kT:l[p.length]?=some ⟨xT,xN,xS⟩:=by rw [y1];simp
   obtain ⟨vL,vI⟩:=za.1 kT;have nV:IntKind.wrap .i64 (p.length:Int)=(p.length:Int):=wrap_i64 (by omega) (by omega);have tB:IntKind.wrap .i64 (o.length:Int)=(o.length:Int):=wrap_i64 (by omega) (by omega);have Df:=Wi (c+1);have yx:(0:Int)<(p.length:Int)+1:=by omega
   have gL:(0:Int)<(o.length:Int)+1:=by omega
   have mf:(o.length+1+1)*40≤70368744177664:=by omega
   have cJ:(p.length:Int)<(l.length:Int):=by omega
   push_cast at *
   unfold Ik;by_cases hv:cU ⟨xT,xN,xS⟩ ⟨dT,dN,dS⟩=true
   ·have e:=pe.1 hv;simp only [ab.mk.injEq] at e;obtain ⟨rfl,rfl,rfl⟩:=e;rw [acx] at y2;refine Ud (J8 hg aB ai c1 hw hq kT (J8 vI vL nV tB Df yx gL (J5 cJ @Iy @C0 @FF @zt))) ?_;repeat intro hc
    exact ⟨(p++[⟨xT,xN,xS⟩]++[⟨xT,xN,xS⟩],rest,o++[⟨⟨xT,xN,xS⟩,c+1⟩]),(by simp;try omega),⟨by rw [y1];simp,y2,by simp;omega,.inr ⟨p++[⟨xT,xN,xS⟩],⟨xT,xN,xS⟩,o,c+1,rfl,rfl,by omega,by simp;omega⟩⟩,by simp⟩
   ·rw [acy _ _ _ _ (by simpa using hv)] at y2;have hb:(xT==dT&&(xN==dN&&xS.toList==dS.toList))=false:=by simpa [cU] using hv
    refine Ud (J8 hg aB ai c1 hw hq mf (J8 kT vI vL nV tB Df yx (J7 gL cJ @Iy @C0 @FF @zt hb))) ?_;repeat intro hc
    exact ⟨(p++[⟨xT,xN,xS⟩]++[⟨dT,dN,dS⟩],rest,o++[⟨⟨xT,xN,xS⟩,c⟩]++[⟨⟨dT,dN,dS⟩,1⟩]),(by simp;try omega),⟨by rw [y1];simp,y2,by simp;omega,.inr ⟨p++[⟨xT,xN,xS⟩],⟨dT,dN,dS⟩,o++[⟨⟨xT,xN,xS⟩,c⟩],1,rfl,rfl,by omega,by simp;omega⟩⟩,by simp⟩
@[simp] theorem asm (h:l.length≤1048576):Gw TT 568 [.one (rl k0 3 (l.map ab.e))]=some (.one (.own (.sl 4 ((mT l).map dv.e))),[]):=by
 refine Ga Sq Qp ?_;unfold Qp;refine Ud Oo ?_;refine ba (σ:=List ab×List ab×List dv) (fun s=>[(0,AV.v k0 (D.sl 3 (l.map ab.e)),none),(3,AV.pl 3 0 [],some (Rt.aX [C.own (D.sl 4 (s.2.2.map dv.e))])),(4,vn ((s.1.length:Nat):Int),none)]) (fun s=>l=s.1++s.2.1∧mT l=ss s.2.2 s.2.1∧s.2.2.length≤s.1.length∧((s.1=[]∧s.2.2=[])∨∃p x o c,s.1=p++[x]∧s.2.2=o++[⟨x,c⟩]∧1≤c∧c≤(s.1.length:Int))) (fun s=>s.2.1.length) ([],l,[]) (by simp) ⟨rfl,rfl,by simp,.inl ⟨rfl,rfl⟩⟩ ?_;rintro ⟨pre,rest,o⟩ ⟨y1,y2,y4,y5⟩;simp only at y1 y2 y4 y5;have y3:l.length=pre.length+rest.length:=by rw [y1,zb]
 rcases rest with _|⟨⟨dT,dN,dS⟩,rest⟩
 ·simp only [ze] at y3;simp only [ss] at y2;have c1:¬(pre.length:Int)<(l.length:Int):=by omega
  unfold Ii;refine Ud c1 ?_;repeat intro hc
  simp [Sq,y2]
 ·simp only [zd] at y3;simp only [ss] at y2;have hg:l[pre.length]?=some ⟨dT,dN,dS⟩:=by rw [y1];simp
  obtain ⟨ai,aB⟩:=za.1 hg;have c1:(pre.length:Int)<(l.length:Int):=by omega
  have hw:=Wi ((pre.length:Int)+1);have hq:(o.length+1)*40≤70368744177664:=by omega
  rcases y5 with ⟨rfl,rfl⟩|⟨p,⟨xT,xN,xS⟩,o,c,rfl,rfl,h1,h2⟩
  ·simp only [ze,zU] at y3 hg aB ai c1 hw hq;unfold Ii;refine Ud (J6 hg aB ai c1 hw hq) ?_;repeat intro hc
   exact ⟨([⟨dT,dN,dS⟩],rest,[⟨⟨dT,dN,dS⟩,1⟩]),by simp,⟨by rw [y1];simp,by rw [y2];rfl,by simp,.inr ⟨[],⟨dT,dN,dS⟩,[],1,rfl,rfl,by omega,by simp⟩⟩,by simp⟩
  ·simp only [zb,zd,ze,zU] at y3 y4 hg aB ai c1 hw hq h2;have kT:l[p.length]?=some ⟨xT,xN,xS⟩:=by rw [y1];simp
   obtain ⟨vL,vI⟩:=za.1 kT;have nV:IntKind.wrap .i64 (p.length:Int)=(p.length:Int):=wrap_i64 (by omega) (by omega);have tB:IntKind.wrap .i64 (o.length:Int)=(o.length:Int):=wrap_i64 (by omega) (by omega);have Df:=Wi (c+1);have yx:(0:Int)<(p.length:Int)+1:=by omega
   have gL:(0:Int)<(o.length:Int)+1:=by omega
   have mf:(o.length+1+1)*40≤70368744177664:=by omega
   have cJ:(p.length:Int)<(l.length:Int):=by omega
   push_cast at *
   unfold Ii;by_cases hv:cU ⟨xT,xN,xS⟩ ⟨dT,dN,dS⟩=true
   ·have e:=pe.1 hv;simp only [ab.mk.injEq] at e;obtain ⟨rfl,rfl,rfl⟩:=e;rw [acx] at y2;refine Ud (J8 hg aB ai c1 hw hq kT (J8 vI vL nV tB Df yx gL (J5 cJ @Iy @C0 @FF @zt))) ?_;repeat intro hc
    exact ⟨(p++[⟨xT,xN,xS⟩]++[⟨xT,xN,xS⟩],rest,o++[⟨⟨xT,xN,xS⟩,c+1⟩]),(by simp;try omega),⟨by rw [y1];simp,y2,by simp;omega,.inr ⟨p++[⟨xT,xN,xS⟩],⟨xT,xN,xS⟩,o,c+1,rfl,rfl,by omega,by simp;omega⟩⟩,by simp⟩
   ·rw [acy _ _ _ _ (by simpa using hv)] at y2;have hb:(xT==dT&&(xN==dN&&xS.toList==dS.toList))=false:=by simpa [cU] using hv
    refine Ud (J8 hg aB ai c1 hw hq mf (J8 kT vI vL nV tB Df yx (J7 gL cJ @Iy @C0 @FF @zt hb))) ?_;repeat intro hc
    exact ⟨(p++[⟨xT,xN,xS⟩]++[⟨dT,dN,dS⟩],rest,o++[⟨⟨xT,xN,xS⟩,c⟩]++[⟨⟨dT,dN,dS⟩,1⟩]),(by simp;try omega),⟨by rw [y1];simp,y2,by simp;omega,.inr ⟨p++[⟨xT,xN,xS⟩],⟨dT,dN,dS⟩,o++[⟨⟨xT,xN,xS⟩,c⟩],1,rfl,rfl,by omega,by simp;omega⟩⟩,by simp⟩
@[simp] theorem asc (l:List dv) (h:l.length≤1048576):Gw TT 552 [.one (rl k0 4 (l.map dv.e))]=some (.one (.own (.sl 3 ((ug l).map ab.e))),[]):=by
 refine Ga En P7 ?_;unfold P7;refine Ua Oo ?_;refine ba (σ:=List dv×List dv×List ab) (fun s=>[(3,AV.pl 3 0 [],some (Rt.aX [C.own (D.sl 3 ((s.2.2).map ab.e))])),(8,AV.v k0 (D.sl 4 (l.map dv.e)),none),(9,vn (l.length:Nat),none),(10,vn ((s.1.length:Nat):Int),none)]) (fun s=>l=s.1++s.2.1∧ug l=sv s.2.2 s.2.1∧s.2.2.length≤64) (fun s=>s.2.1.length) ([],l,[]) (by simp) ⟨rfl,rfl,by simp⟩ ?_;rintro ⟨pre,rest,o⟩ ⟨y1,y2,y4⟩;simp only at y1 y2 y4;have y3:l.length=pre.length+rest.length:=by rw [y1,zb]
 rcases rest with _|⟨⟨⟨dT,dN,dS⟩,K⟩,rest⟩
 ·simp only [ze] at y3;simp only [sv] at y2;have c1:¬(pre.length:Int)<(l.length:Int):=by omega
  unfold Ie;refine Ua c1 ?_;simp [En,y2]
 ·simp only [zd] at y3;simp only [sv] at y2;have hg:l[pre.length]?=some ⟨⟨dT,dN,dS⟩,K⟩:=by rw [y1];simp
  obtain ⟨ai,aB⟩:=za.1 hg;have c1:(pre.length:Int)<(l.length:Int):=by omega
  have hw:=Wi ((pre.length:Int)+1);have hm:=Wi (64-(o.length:Int));by_cases q:K<1∨64-(o.length:Int)<K
  ·rw [if_pos q] at y2;unfold Ie;by_cases q1:K<1
   ·refine Ua (J8 hg aB ai c1 hw hm q1 y2) ?_;simp [En,y2]
   ·have q2:64-(o.length:Int)<K:=by omega
    refine Ua (J8 hg aB ai c1 hw hm q1 (J2 q2 y2)) ?_;simp [En,y2]
  ·rw [if_neg q] at y2;obtain ⟨c,rfl⟩:=zf (show 0≤K by omega);have q1:¬(c:Int)<1:=by omega
   have q2:¬64-(o.length:Int)<(c:Int):=by omega
   have hc:((c:Int)).toNat=c:=by omega
   rw [hc] at y2;unfold Ie;refine Ua (J8 hg aB ai c1 hw hm q1 q2) ?_;refine ba (σ:=Nat) (fun s=>[(3,AV.pl 3 0 [],some (Rt.aX [C.own (D.sl 3 ((o++zq s (⟨dT,dN,dS⟩:ab)).map ab.e))])),(5,AV.bx 5 0,some (Rt.bx [ri dT,ri dN,.ro false (.str dS),ri (c:Nat)])),(6,vn ((s:Nat):Int),none),(8,AV.v k0 (D.sl 4 (l.map dv.e)),none),(9,vn (l.length:Nat),none),(10,vn ((pre.length:Nat):Int),none)]) (fun s=>s≤c) (fun s=>c-s) 0 (by simp) (by omega) ?_;intro m hmc;by_cases e:m=c
   ·subst e;have e1:¬(m:Int)<(m:Int):=by omega
    unfold TU;refine Ua (J5 e1 hw hg aB ai) ?_;exact ⟨(pre++[⟨⟨dT,dN,dS⟩,(m:Int)⟩],rest,o++zq m ⟨dT,dN,dS⟩),(by simp;try omega),⟨by rw [y1];simp,y2,by simp;omega⟩,by simp⟩
   ·have e1:(m:Int)<(c:Int):=by omega
    have eF:=Wi ((m:Int)+1);have hq:(o.length+m+1)*32≤70368744177664:=by omega
    have hr:zq (m+1) (⟨dT,dN,dS⟩:ab)=zq m ⟨dT,dN,dS⟩++[⟨dT,dN,dS⟩]:=zJ;unfold TU;refine Ua (J7 e1 eF hq hg aB ai c1) ?_;exact ⟨m+1,(by simp [zJ];try omega),by show m+1≤c;omega,by show c-(m+1)<c-m;omega⟩
@[simp] theorem ar5 (l:List dv) (h:l.length≤1048576):Gw TT 539 [.one (rl k0 4 (l.map dv.e))]=some (.one (.own (.sl 3 ((ug l).map ab.e))),[]):=by
 refine Ga El PT ?_;unfold PT;refine Ua Oo ?_;refine ba (σ:=List dv×List dv×List ab) (fun s=>[(0,AV.v k0 (D.sl 4 (l.map dv.e)),none),(3,AV.pl 3 0 [],some (Rt.aX [C.own (D.sl 3 ((s.2.2).map ab.e))])),(4,vn ((s.1.length:Nat):Int),none)]) (fun s=>l=s.1++s.2.1∧ug l=sv s.2.2 s.2.1∧s.2.2.length≤64) (fun s=>s.2.1.length) ([],l,[]) (by simp) ⟨rfl,rfl,by simp⟩ ?_;rintro ⟨pre,rest,o⟩ ⟨y1,y2,y4⟩;simp only at y1 y2 y4;have y3:l.length=pre.length+rest.length:=by rw [y1,zb]
 rcases rest with _|⟨⟨⟨dT,dN,dS⟩,K⟩,rest⟩
 ·simp only [ze] at y3;simp only [sv] at y2;have c1:¬(pre.length:Int)<(l.length:Int):=by omega
  unfold Ia;refine Ua c1 ?_;simp [El,y2]
 ·simp only [zd] at y3;simp only [sv] at y2;have hg:l[pre.length]?=some ⟨⟨dT,dN,dS⟩,K⟩:=by rw [y1];simp
  obtain ⟨ai,aB⟩:=za.1 hg;have c1:(pre.length:Int)<(l.length:Int):=by omega
  have hw:=Wi ((pre.length:Int)+1);have hm:=Wi (64-(o.length:Int));by_cases q:K<1∨64-(o.length:Int)<K
  ·rw [if_pos q] at y2;unfold Ia;by_cases q1:K<1
   ·refine Ua (J8 hg aB ai c1 hw hm q1 y2) ?_;simp [El,y2]
   ·have q2:64-(o.length:Int)<K:=by omega
    refine Ua (J8 hg aB ai c1 hw hm q1 (J2 q2 y2)) ?_;simp [El,y2]
  ·rw [if_neg q] at y2;obtain ⟨c,rfl⟩:=zf (show 0≤K by omega);have q1:¬(c:Int)<1:=by omega
   have q2:¬64-(o.length:Int)<(c:Int):=by omega
   have hc:((c:Int)).toNat=c:=by omega
   rw [hc] at y2;unfold Ia;refine Ua (J8 hg aB ai c1 hw hm q1 q2) ?_;refine ba (σ:=Nat) (fun s=>[(0,AV.v k0 (D.sl 4 (l.map dv.e)),none),(3,AV.pl 3 0 [],some (Rt.aX [C.own (D.sl 3 ((o++zq s (⟨dT,dN,dS⟩:ab)).map ab.e))])),(4,vn ((pre.length:Nat):Int),none),(5,vn ((s:Nat):Int),none)]) (fun s=>s≤c) (fun s=>c-s) 0 (by simp) (by omega) ?_;intro m hmc;by_cases e:m=c
   ·subst e;have e1:¬(m:Int)<(m:Int):=by omega
    unfold TL;refine Ua (J5 e1 hw hg aB ai) ?_;exact ⟨(pre++[⟨⟨dT,dN,dS⟩,(m:Int)⟩],rest,o++zq m ⟨dT,dN,dS⟩),(by simp;try omega),⟨by rw [y1];simp,y2,by simp;omega⟩,by simp⟩
   ·have e1:(m:Int)<(c:Int):=by omega
    have eF:=Wi ((m:Int)+1);have hq:(o.length+m+1)*32≤70368744177664:=by omega
    have hr:zq (m+1) (⟨dT,dN,dS⟩:ab)=zq m ⟨dT,dN,dS⟩++[⟨dT,dN,dS⟩]:=zJ;unfold TL;refine Ua (J7 e1 eF hq hg aB ai c1) ?_;exact ⟨m+1,(by simp [zJ];try omega),by show m+1≤c;omega,by show c-(m+1)<c-m;omega⟩
@[simp] theorem aq2:Gw TT 531 [.one (rl k0 1 []),vi n]=some (.one (.own (.sl 1 ((cI n).map eb))),[]):=by
 have:=UY k0 [] n (by simp);simpa using this
@[simp] theorem aq3:Gw TT 566 [.one (rl k0 1 []),vi n]=some (.one (.own (.sl 1 ((cI n).map eb))),[]):=by
 have:=amv k0 [] n (by simp);simpa using this
theorem ak2 {o:List dv} {v:ab} {r:dv} (h:r∈uZ o v):(∃q∈o,q.V=r.V)∨r.V=v:=by
 unfold uZ at h;split at h
 ·rename_i q hq;have hqm:=List.mem_of_getLast? hq;split at h
  ·rcases zz.1 h with h|h
   ·exact .inl ⟨r,(List.dropLast_sublist o).subset h,rfl⟩
   ·simp at h;subst h;exact .inl ⟨q,hqm,rfl⟩
  ·rcases zz.1 h with h|h
   ·exact .inl ⟨r,h,rfl⟩
   ·simp at h;subst h;exact .inr rfl
 ·simp at h;subst h;exact .inr rfl
theorem acC:∀{l:List ab} {o:List dv} {r:dv},r∈ss o l→(∃q∈o,q.V=r.V)∨r.V∈l
 |[],o,r,h=>.inl ⟨r,h,rfl⟩
 |v::l,o,r,h=>by
  rcases acC (l:=l) h with ⟨q,hq,e⟩|h
  ·rcases ak2 hq with ⟨q',hq',e'⟩|e'
   ·exact .inl ⟨q',hq',e'.trans e⟩
   ·exact .inr (by rw [←e,e'];simp)
  ·exact .inr (by simp [h])
theorem acA {l:List ab} {r:dv} (h:r∈mT l):r.V∈l:=by
 rcases acC h with ⟨q,hq,_⟩|h
 ·simp at hq
 ·exact h
theorem EP {l:List ab} (h:cM l≠0):∀v∈l,v.S.size≤6:=fun v hv=>xV (wL (qI h).2.2.1 v hv).1
@[simp] theorem asd (h:l.length≤1048576) (hs:ab.aJ l):Gw TT 553 [.one (rl k0 3 (l.map ab.e))]=some (.one (.own (.sl 1 ((jF l).map eb))),[]):=by
 refine Ga Ha P8 ?_;unfold P8;by_cases q:cM l=0
 ·have he:jF l=[]:=by simp [jF,q]
  refine Uw (J4 h hs q he) ?_;simp [Ha,he]
 ·have he:jF l=cI (mT l).length++qQ (mT l):=by simp [jF,q]
  obtain ⟨q1,q2,_,_⟩:=qI q;have hm:∀r∈mT l,r.V.S.size≤6:=fun r hr=>EP q _ (acA hr)
  have qZ:=UH l;obtain ⟨R,hR⟩:∃R,R=mT l:=⟨_,rfl⟩;rw [←hR] at he hm qZ;have hn:=ma (R.length:Int)
  repeat' first|refine Zs ?_|((with_reducible refine Xk fun K k=>?_);simp [h,hs,q,he,←hR];refine k _ ?_;clear k K)|refine Xt rfl ?_|refine Xf rfl ?_|(refine We rfl ?_ ?_<;>(intro hc;(try simp at hc);(all_goals first|(exfalso;omega)|skip)))
  refine ba (σ:=List dv×List dv×List Int) (fun s=>[(3,AV.pl 3 0 [],some (Rt.aX [C.own (D.sl 1 ((s.2.2).map eb))])),(4,AV.pl 4 0 [],some (Rt.aX [C.own (D.sl 4 (R.map dv.e))])),(18,AV.pl 4 0 [],none),(19,vn (R.length:Nat),none),(20,vn ((s.1.length:Nat):Int),none)]) (fun s=>R=s.1++s.2.1∧s.2.2++qQ s.2.1=jF l∧s.2.2.length≤5+12*s.1.length) (fun s=>s.2.1.length) ([],R,cI R.length) (by simp) ⟨rfl,he.symm,by simp;omega⟩ ?_;rintro ⟨pre,rest,a⟩ ⟨y1,y2,y4⟩;simp only at y1 y2 y4;have y3:R.length=pre.length+rest.length:=by rw [y1,zb]
  rcases rest with _|⟨⟨⟨dT,dN,dS⟩,K⟩,rest⟩
  ·simp only [ze] at y3;simp only [qQ,zD,zh] at y2;have c1:¬(pre.length:Int)<(R.length:Int):=by omega
   unfold TV;refine Uw c1 ?_;simp [Ha,y2]
  ·simp only [zd] at y3;have hd:=hm ⟨⟨dT,dN,dS⟩,K⟩ (by rw [y1];simp);simp only at hd;have ck:dS.size≤1048576:=by omega
   have hg:R[pre.length]?=some ⟨⟨dT,dN,dS⟩,K⟩:=by rw [y1];simp
   obtain ⟨ai,aB⟩:=za.1 hg;have c1:(pre.length:Int)<(R.length:Int):=by omega
   have hw:=Wi ((pre.length:Int)+1);have hk:=ma K;have hp:=xJ ⟨dT,dN,dS⟩;have ha:a.length≤1048576:=by omega
   have uI:a.length+(cI K).length≤1048000:=by omega
   have h5:=amy true (a++cI K) dT dN dS (by simp only [zb];exact uI) ck;simp only [zL] at h5;unfold TV;refine Uw (J8 hg aB ai c1 hw ck ha (J2 uI h5)) ?_;exact ⟨(pre++[⟨⟨dT,dN,dS⟩,K⟩],rest,a++(cI K++i_ ⟨dT,dN,dS⟩)),(by simp;try omega),⟨by rw [y1];simp,by rw [←y2];simp [qQ,Cr],by simp only [zb,zd,ze];omega⟩,by simp⟩
@[simp] theorem ar6 (h:l.length≤1048576) (hs:ab.aJ l):Gw TT 540 [.one (rl k0 3 (l.map ab.e))]=some (.one (.own (.sl 1 ((jF l).map eb))),[]):=by
 refine Ga G5 PU ?_;unfold PU;by_cases q:cM l=0
 ·have he:jF l=[]:=by simp [jF,q]
  refine Uw (J4 h hs q he) ?_;simp [G5,he]
 ·have he:jF l=cI (mT l).length++qQ (mT l):=by simp [jF,q]
  obtain ⟨q1,q2,_,_⟩:=qI q;have hm:∀r∈mT l,r.V.S.size≤6:=fun r hr=>EP q _ (acA hr)
  have qZ:=UH l;obtain ⟨R,hR⟩:∃R,R=mT l:=⟨_,rfl⟩;rw [←hR] at he hm qZ;have hn:=ma (R.length:Int)
  repeat' first|refine Zs ?_|((with_reducible refine Xk fun K k=>?_);simp [h,hs,q,he,←hR];refine k _ ?_;clear k K)|refine Xt rfl ?_|refine Xf rfl ?_|(refine We rfl ?_ ?_<;>(intro hc;(try simp at hc);(all_goals first|(exfalso;omega)|skip)))
  refine ba (σ:=List dv×List dv×List Int) (fun s=>[(3,AV.pl 3 0 [],some (Rt.aX [C.own (D.sl 4 (R.map dv.e))])),(4,AV.pl 4 0 [],some (Rt.aX [C.own (D.sl 1 ((s.2.2).map eb))])),(5,vn ((s.1.length:Nat):Int),none)]) (fun s=>R=s.1++s.2.1∧s.2.2++qQ s.2.1=jF l∧s.2.2.length≤5+12*s.1.length) (fun s=>s.2.1.length) ([],R,cI R.length) (by simp) ⟨rfl,he.symm,by simp;omega⟩ ?_;rintro ⟨pre,rest,a⟩ ⟨y1,y2,y4⟩;simp only at y1 y2 y4;have y3:R.length=pre.length+rest.length:=by rw [y1,zb]
  rcases rest with _|⟨⟨⟨dT,dN,dS⟩,K⟩,rest⟩
  ·simp only [ze] at y3;simp only [qQ,zD,zh] at y2;have c1:¬(pre.length:Int)<(R.length:Int):=by omega
   unfold TM;refine Uw c1 ?_;simp [G5,y2]
  ·simp only [zd] at y3;have hd:=hm ⟨⟨dT,dN,dS⟩,K⟩ (by rw [y1];simp);simp only at hd;have ck:dS.size≤1048576:=by omega
   have hg:R[pre.length]?=some ⟨⟨dT,dN,dS⟩,K⟩:=by rw [y1];simp
   obtain ⟨ai,aB⟩:=za.1 hg;have c1:(pre.length:Int)<(R.length:Int):=by omega
   have hw:=Wi ((pre.length:Int)+1);have hk:=ma K;have hp:=xJ ⟨dT,dN,dS⟩;have ha:a.length≤1048576:=by omega
   have uI:a.length+(cI K).length≤1048000:=by omega
   have h5:=amw true (a++cI K) dT dN dS (by simp only [zb];exact uI) ck;simp only [zL] at h5;unfold TM;refine Uw (J8 hg aB ai c1 hw ck ha (J2 uI h5)) ?_;exact ⟨(pre++[⟨⟨dT,dN,dS⟩,K⟩],rest,a++(cI K++i_ ⟨dT,dN,dS⟩)),(by simp;try omega),⟨by rw [y1];simp,by rw [←y2];simp [qQ,Cr],by simp only [zb,zd,ze];omega⟩,by simp⟩
theorem W0 {b:List Int} {u ty n t:Int} (h:gN b u=some (n,t)):xd b u ty=match fi b t ty with
 |some (v,t2)=>some (⟨v,n⟩,t2)
 |none=>none:=by unfold xd;rw [h];try rfl
theorem WZ {b:List Int} {u ty:Int} (h:gN b u=none):xd b u ty=none:=by unfold xd;rw [h]
theorem afc {b:List Int} {u ty t:Int} {v:ab} (hb:bI b) (h:fi b u ty=some (v,t)):v.S.size≤6:=xV (W3 hb h).1.1
theorem JY {b:List Int} {ty:Int} (hb:bI b):∀{k:Nat} {u t:Int} {l:List dv},lr b ty k u=some (l,t)→∀r∈l,r.V.S.size≤6
 |0,u,t,l,h,r,hr=>by simp only [lr,zm,zp] at h;rw [←h.1] at hr;simp at hr
 |k+1,u,t,l,h,r,hr=>by
  simp only [lr] at h;split at h
  ·rename_i v t1 hv;split at h
   ·rename_i hl;simp only [zm,zp] at h;rw [←h.1] at hr;rcases zj.1 hr with rfl|hr
    ·unfold xd at hv;split at hv
     ·split at hv
      ·rename_i hg;simp only [zm,zp] at hv;rw [←hv.1];exact afc hb hg
      ·cases hv
     ·cases hv
    ·exact JY hb hl r hr
   ·cases h
  ·cases h
theorem acL:∀{l:List dv} {o:List ab} {v:ab},v∈sv o l→v∈o∨∃r∈l,r.V=v
 |[],o,v,h=>.inl h
 |r::l,o,v,h=>by
  simp only [sv] at h;split at h
  ·simp at h
  ·rcases acL h with h|⟨q,hq,e⟩
   ·rcases zz.1 h with h|h
    ·exact .inl h
    ·exact .inr ⟨r,by simp,(List.eq_of_mem_replicate h).symm⟩
   ·exact .inr ⟨q,by simp [hq],e⟩
theorem acN {l:List dv} (h:∀r∈l,r.V.S.size≤6):ab.aJ (ug l):=fun v hv=>by
 rcases acL hv with hv|⟨r,hr,e⟩
 ·simp at hv
 ·have:=h r hr;simp only [ab.sm];rw [←e];omega
@[simp] theorem ac2 (h:b.length≤1048576) (hb:bI b):Gw TT 515 [.one (rl k0 1 (b.map eb)),vi ty,vi k]=some (mj (iU b ty k),[]):=by
 refine Ga sj Pv ?_;unfold Pv;cases hg:gN b 0 with
 |none=>
  have hdr:iU b ty k=none:=by unfold iU;rw [hg]
  refine Ud (J4 h hb hg hdr) ?_;simp [sj,hdr]
 |some q=>
  obtain ⟨n,u⟩:=q;by_cases q1:1≤n∧n≤64
  ·obtain ⟨m,rfl⟩:=zf (show 0≤n by omega);have q2:(1:Int)≤(m:Int):=q1.1;have q3:(m:Int)≤64:=q1.2;by_cases q4:1≤k∧k≤64
   ·have hdr:∀{r:List dv} {t:Int},lr b ty m u=some (r,t)→iU b ty k=eU b k jF (ug r):=fun {r t} hr=>by
     unfold iU;rw [hg];simp only;rw [if_pos q1,show ((m:Int)).toNat=m by omega,hr]
    have yz:lr b ty m u=none→iU b ty k=none:=fun hr=>by
     unfold iU;rw [hg];simp only;rw [if_pos q1,show ((m:Int)).toNat=m by omega,hr]
    refine Ud (J7 h hb hg q2 q3 q4.1 q4.2) ?_;refine ba (σ:=List dv×(Nat×Int)) (fun s=>[(0,AV.v k0 (D.sl 1 (b.map eb)),none),(1,vn ty,none),(2,vn k,none),(8,AV.pl 8 0 [],some (Rt.aX [C.own (D.sl 3 [])])),(9,vn (m:Nat),none),(10,vn s.2.2,none),(12,AV.pl 12 0 [],some (Rt.aX [C.own (D.sl 4 (s.1.map dv.e))])),(13,vn (s.1.length:Nat),none)]) (fun s=>s.1.length+s.2.1=m∧lr b ty m u=kX s.1 (lr b ty s.2.1 s.2.2)) (fun s=>s.2.1) ([],(m,u)) (by simp) ⟨by simp,by rw [AX]⟩ ?_;rintro ⟨a,⟨i,v⟩⟩ ⟨y1,y2⟩;simp only at y1 y2;have hq:(a.length+1)*40≤70368744177664:=by omega
    cases i with
    |zero=>
     have c1:¬(a.length:Int)<(m:Int):=by omega
     simp only [lr,AY,zh] at y2;have hd:=hdr y2;have hS:=acN (JY hb y2);have Kp:=acM a;obtain ⟨S,tj⟩:∃S,S=ug a:=⟨_,rfl⟩;rw [←tj] at hd hS Kp;have vD:S.length≤1048576:=by omega
     have ha:a.length≤1048576:=by omega
     have fx:=ui (JM S) hb;unfold EC;by_cases e1:(S.length:Int)=k
     ·have e2:¬k=(S.length:Int)→False:=fun e=>e e1.symm
      by_cases e3:jF S=b
      ·have e4:((strOf (jF S)).toList==(strOf b).toList)=true:=by rw [fx];simpa using e3
       have ck:iU b ty k=some S:=by rw [hd];unfold eU;rw [if_pos ⟨q4,e1,e3.symm⟩]
       repeat' first|refine Zs ?_|((with_reducible refine Xk fun K k=>?_);simp [c1,ha,←tj,hS,vD,e1,e4,ck];(repeat' (with_reducible first|refine k _ ?_|(refine fq ?_ ?_<;>(intro hc;(try rw [zC] at hc);first|(exfalso;omega)|(try simp [hc,c1,ha,←tj,hS,vD,e1,e4,ck])))));all_goals clear k K)|refine Xt rfl ?_|refine Xf rfl ?_|(refine We rfl ?_ ?_<;>(intro hc;(try simp at hc);(all_goals first|(exfalso;omega)|skip)))
       simp [sj,ck]
      ·have e4:((strOf (jF S)).toList==(strOf b).toList)=false:=by rw [fx];simpa using e3
       have ck:iU b ty k=none:=by rw [hd];unfold eU;rw [if_neg (fun e=>e3 e.2.2.symm)]
       repeat' first|refine Zs ?_|((with_reducible refine Xk fun K k=>?_);simp [c1,ha,←tj,hS,vD,e1,e4,ck];(repeat' (with_reducible first|refine k _ ?_|(refine fq ?_ ?_<;>(intro hc;(try rw [zC] at hc);first|(exfalso;omega)|(try simp [hc,c1,ha,←tj,hS,vD,e1,e4,ck])))));all_goals clear k K)|refine Xt rfl ?_|refine Xf rfl ?_|(refine We rfl ?_ ?_<;>(intro hc;(try simp at hc);(all_goals first|(exfalso;omega)|skip)))
       simp [sj,ck]
     ·have ck:iU b ty k=none:=by rw [hd];unfold eU;rw [if_neg (fun e=>e1 e.2.1)]
      repeat' first|refine Zs ?_|((with_reducible refine Xk fun K k=>?_);simp [c1,ha,←tj,hS,vD,e1,ck];(repeat' (with_reducible first|refine k _ ?_|(refine fq ?_ ?_<;>(intro hc;(try rw [zC] at hc);first|(exfalso;omega)|(try simp [hc,c1,ha,←tj,hS,vD,e1,ck])))));all_goals clear k K)|refine Xt rfl ?_|refine Xf rfl ?_|(refine We rfl ?_ ?_<;>(intro hc;(try simp at hc);(all_goals first|(exfalso;omega)|skip)))
      simp [sj,ck]
    |succ i=>
     have c1:(a.length:Int)<(m:Int):=by omega
     have hw:=Wi ((a.length:Int)+1);cases hv:gN b v with
     |none=>
      rw [FE (WZ hv)] at y2;have ck:=yz y2;unfold EC;cases fM:fi b 0 ty with
      |none=>
       refine Ud (J7 c1 hw h hb hv fM ck) ?_;simp [sj,ck]
      |some q=>
       obtain ⟨⟨dT,dN,dS⟩,t⟩:=q;refine Ud (J7 c1 hw h hb hv fM ck) ?_;simp [sj,ck]
     |some q=>
      obtain ⟨c,t1⟩:=q;have lB:=W0 (ty:=ty) hv;cases fO:fi b t1 ty with
      |none=>
       rw [fO] at lB;rw [FE lB] at y2;have ck:=yz y2;unfold EC;refine Ud (J7 c1 hw h hb hv fO ck) ?_;simp [sj,ck]
      |some q=>
       obtain ⟨⟨dT,dN,dS⟩,t⟩:=q;rw [fO] at lB;rw [W1 lB] at y2;unfold EC;refine Ud (J7 c1 hw h hb hv fO hq) ?_;exact ⟨(a++[⟨⟨dT,dN,dS⟩,c⟩],(i,t)),(by simp;try omega),⟨by simp;omega,y2⟩,by simp⟩
   ·have ck:iU b ty k=none:=by
     unfold iU;rw [hg];simp only;rw [if_pos q1];split
     ·unfold eU;rw [if_neg (fun e=>q4 e.1)]
     ·rfl
    refine Ud (J6 h hb hg q2 q3 ck) ?_;repeat intro hc
    simp [sj,ck]
  ·have ck:iU b ty k=none:=by
    unfold iU;rw [hg];simp only;rw [if_neg q1]
   by_cases q4:1≤k∧k≤64
   ·refine Ud (J6 h hb hg q4.1 q4.2 ck) ?_;repeat intro hc
    simp [sj,ck]
   ·refine Ud (J4 h hb hg ck) ?_;repeat intro hc
    simp [sj,ck]
@[simp] theorem arU:Gw TT 508 [.st (kO dB du bJ),.st (kO kN kL ft)]=some (vb (oX dB du bJ kN kL ft),[]):=by
 refine Ga Ei Pq ?_;unfold Pq;by_cases q1:dB=kN
 ·by_cases q2:du=kL
  ·subst q1;subst q2;refine Uw Oo ?_;simp [Ei,oX]
  ·subst q1;refine Uw q2 ?_;repeat intro hc
   simp [Ei,oX,q2]
 ·refine Uw q1 ?_;repeat intro hc
  simp [Ei,oX,q1]
@[simp] theorem arT:Gw TT 505 [.st (kO dB du bJ),.st (kO kN kL ft)]=some (vb (oX dB du bJ kN kL ft),[]):=by
 refine Ga Eh Pp ?_;unfold Pp;by_cases q1:dB=kN
 ·by_cases q2:du=kL
  ·subst q1;subst q2;refine Uw Oo ?_;simp [Eh,oX]
  ·subst q1;refine Uw q2 ?_;repeat intro hc
   simp [Eh,oX,q2]
 ·refine Uw q1 ?_;repeat intro hc
  simp [Eh,oX,q1]
def Fj (t n:Int) (s:ByteArray) (t' n':Int) (s':ByteArray):Int:=if oX t n s t' n' s'=true then -1 else if oX t' n' s' t n s=true then 1 else 0
@[simp] theorem amC:Gw TT 596 [.st (kO dB du bJ),.st (kO kN kL ft)]=some (vi (Fj dB du bJ kN kL ft),[]):=by
 refine Ga Eu QV ?_;unfold QV;cases q1:oX dB du bJ kN kL ft with
 |true=>
  refine Ua q1 ?_;simp [Eu,Fj,q1]
 |false=>
  cases q2:oX kN kL ft dB du bJ with
  |true=>
   refine Ua (J2 q1 q2) ?_;simp [Eu,Fj,q1,q2]
  |false=>
   refine Ua (J2 q1 q2) ?_;simp [Eu,Fj,q1,q2]
theorem adp (a b:ab):cU a b=cU b a:=by
 cases h:cU a b with
 |true=>have:=pe.1 h;subst this;exact h.symm
 |false=>
  cases h2:cU b a with
  |true=>have:=pe.1 h2;subst this;rw [h2] at h;cases h
  |false=>rfl
@[simp] theorem asI (h:d.length≤1048576):Gw TT 600 [.one (rl k0 3 (d.map ab.e)),.st (kO dB du bJ)]=some (vi (jh ⟨dB,du,bJ⟩ d 0),[]):=by
 refine Ga Hw QZ ?_;unfold QZ;refine Ua Oo ?_;refine ba (σ:=List ab×List ab) (fun s=>[(0,AV.v k0 (D.sl 3 (d.map ab.e)),none),(3,AV.bx 3 0,some (Rt.bx (kO dB du bJ))),(7,vn (d.length:Nat),none),(8,vn ((s.1.length:Nat):Int),none)]) (fun s=>d=s.1++s.2∧jh ⟨dB,du,bJ⟩ d 0=jh ⟨dB,du,bJ⟩ s.2 s.1.length) (fun s=>s.2.length) ([],d) (by simp) ⟨rfl,rfl⟩ ?_;rintro ⟨pre,rest⟩ ⟨y1,y2⟩;simp only at y1 y2;have y3:d.length=pre.length+rest.length:=by rw [y1,zb]
 rcases rest with _|⟨⟨dT,dN,dS⟩,rest⟩
 ·simp only [ze] at y3;simp only [jh] at y2;have c1:¬(pre.length:Int)<(d.length:Int):=by omega
  unfold Ul;refine Ua (J2 c1 y2) ?_;simp [Hw,y2]
 ·simp only [zd] at y3;simp only [jh] at y2;have hg:d[pre.length]?=some ⟨dT,dN,dS⟩:=by rw [y1];simp
  obtain ⟨ai,aB⟩:=za.1 hg;have c1:(pre.length:Int)<(d.length:Int):=by omega
  have hw:=Wi ((pre.length:Int)+1);unfold Ul;cases hv:cU ⟨dT,dN,dS⟩ ⟨dB,du,bJ⟩ with
  |true=>
   rw [if_pos hv] at y2;have e:=pe.1 hv;simp only [ab.mk.injEq] at e;obtain ⟨rfl,rfl,rfl⟩:=e;refine Ua (J6 hg aB ai c1 hw y2) ?_;simp [Hw,y2]
  |false=>
   rw [if_neg (by rw [hv];simp)] at y2;have iV:(dT==dB&&(dN==du&&dS.toList==bJ.toList))=false:=hv;have lv:(dB==dT&&(du==dN&&bJ.toList==dS.toList))=false:=(adp ⟨dB,du,bJ⟩ ⟨dT,dN,dS⟩).trans hv;refine Ua (J7 hg aB ai c1 hw iV lv) ?_;exact ⟨(pre++[⟨dT,dN,dS⟩],rest),(by simp;try omega),⟨by rw [y1];simp,by rw [y2];simp⟩,by simp⟩
@[simp] theorem asE (h:d.length≤1048576):Gw TT 591 [.one (rl k0 3 (d.map ab.e)),.st (kO dB du bJ)]=some (vi (jh ⟨dB,du,bJ⟩ d 0),[]):=by
 refine Ga Hu QS ?_;unfold QS;refine Ua Oo ?_;refine ba (σ:=List ab×List ab) (fun s=>[(0,AV.v k0 (D.sl 3 (d.map ab.e)),none),(3,AV.bx 3 0,some (Rt.bx (kO dB du bJ))),(5,vn ((s.1.length:Nat):Int),none)]) (fun s=>d=s.1++s.2∧jh ⟨dB,du,bJ⟩ d 0=jh ⟨dB,du,bJ⟩ s.2 s.1.length) (fun s=>s.2.length) ([],d) (by simp) ⟨rfl,rfl⟩ ?_;rintro ⟨pre,rest⟩ ⟨y1,y2⟩;simp only at y1 y2;have y3:d.length=pre.length+rest.length:=by rw [y1,zb]
 rcases rest with _|⟨⟨dT,dN,dS⟩,rest⟩
 ·simp only [ze] at y3;simp only [jh] at y2;have c1:¬(pre.length:Int)<(d.length:Int):=by omega
  unfold Uj;refine Ua (J2 c1 y2) ?_;simp [Hu,y2]
 ·simp only [zd] at y3;simp only [jh] at y2;have hg:d[pre.length]?=some ⟨dT,dN,dS⟩:=by rw [y1];simp
  obtain ⟨ai,aB⟩:=za.1 hg;have c1:(pre.length:Int)<(d.length:Int):=by omega
  have hw:=Wi ((pre.length:Int)+1);unfold Uj;cases hv:cU ⟨dT,dN,dS⟩ ⟨dB,du,bJ⟩ with
  |true=>
   rw [if_pos hv] at y2;have e:=pe.1 hv;simp only [ab.mk.injEq] at e;obtain ⟨rfl,rfl,rfl⟩:=e;refine Ua (J6 hg aB ai c1 hw y2) ?_;simp [Hu,y2]
  |false=>
   rw [if_neg (by rw [hv];simp)] at y2;have iV:(dT==dB&&(dN==du&&dS.toList==bJ.toList))=false:=hv;have lv:(dB==dT&&(du==dN&&bJ.toList==dS.toList))=false:=(adp ⟨dB,du,bJ⟩ ⟨dT,dN,dS⟩).trans hv;refine Ua (J7 hg aB ai c1 hw iV lv) ?_;exact ⟨(pre++[⟨dT,dN,dS⟩],rest),(by simp;try omega),⟨by rw [y1];simp,by rw [y2];simp⟩,by simp⟩
@[simp] theorem asH (h:d.length≤1048576):Gw TT 598 [.one (rl k0 3 (d.map ab.e)),.st (kO dB du bJ)]=some (vi (jh ⟨dB,du,bJ⟩ d 0),[]):=by
 refine Ga SA QX ?_;unfold QX;refine Ua h ?_;simp [SA]
def lJ {α:Type} (a:List α) (r:Option (List α)):Option (List α):=match r with
 |some l=>some (a++l)
 |none=>none
@[simp] theorem are {α:Type} (a:List α):lJ a none=none:=rfl
@[simp] theorem Cq {α:Type} (a l:List α):lJ a (some l)=some (a++l):=rfl
theorem Cp {α:Type} (r:Option (List α)):lJ [] r=r:=by cases r<;>rfl
theorem ab0 {d l:List ab} {a:List Int} {v:ab} (h:jh v d 0<0):lJ a (lI d (v::l))=none:=by
 simp only [lI];rw [if_pos h];try rfl
theorem ab1 {d l:List ab} {a:List Int} {v:ab} (h:¬jh v d 0<0):lJ a (lI d (v::l))=lJ (a++[jh v d 0]) (lI d l):=by
 simp only [lI];rw [if_neg h];cases lI d l with
 |none=>rfl
 |some p=>simp [lJ]
@[simp] theorem asy (h:d.length≤1048576) (h2:l.length≤1048576):Gw TT 585 [.one (rl k0 3 (d.map ab.e)),.one (rl k1 3 (l.map ab.e))]=some (B2 (lI d l),[]):=by
 refine Ga Hq QL ?_;unfold QL;refine Ua Oo ?_;refine ba (σ:=List ab×List ab×List Int) (fun s=>[(0,AV.v k0 (D.sl 3 (d.map ab.e)),none),(6,AV.pl 6 0 [],some (Rt.aX [C.own (D.sl 1 ((s.2.2).map ei))])),(11,AV.v k1 (D.sl 3 (l.map ab.e)),none),(12,vn (l.length:Nat),none),(13,vn ((s.1.length:Nat):Int),none)]) (fun s=>l=s.1++s.2.1∧lI d l=lJ s.2.2 (lI d s.2.1)∧s.2.2.length≤s.1.length) (fun s=>s.2.1.length) ([],l,[]) (by simp) ⟨rfl,by rw [Cp],by simp⟩ ?_;rintro ⟨pre,rest,a⟩ ⟨y1,y2,y4⟩;simp only at y1 y2 y4;have y3:l.length=pre.length+rest.length:=by rw [y1,zb]
 rcases rest with _|⟨⟨dT,dN,dS⟩,rest⟩
 ·simp only [ze] at y3;simp only [lI,Cq,zh] at y2;have c1:¬(pre.length:Int)<(l.length:Int):=by omega
  unfold T_;refine Ua (J2 c1 y2) ?_;simp [Hq,y2]
 ·simp only [zd] at y3;have hg:l[pre.length]?=some ⟨dT,dN,dS⟩:=by rw [y1];simp
  obtain ⟨ai,aB⟩:=za.1 hg;have c1:(pre.length:Int)<(l.length:Int):=by omega
  have hw:=Wi ((pre.length:Int)+1);have hq:(a.length+1)*8≤70368744177664:=by omega
  unfold T_;by_cases q:jh ⟨dT,dN,dS⟩ d 0<0
  ·rw [ab0 q] at y2;refine Ua (J8 hg aB ai c1 hw h q y2) ?_;simp [Hq,y2]
  ·rw [ab1 q] at y2;refine Ua (J8 hg aB ai c1 hw h q hq) ?_;exact ⟨(pre++[⟨dT,dN,dS⟩],rest,a++[jh ⟨dT,dN,dS⟩ d 0]),(by simp;try omega),⟨by rw [y1];simp,y2,by simp;omega⟩,by simp⟩
@[simp] theorem asp (h:d.length≤1048576) (h2:l.length≤1048576):Gw TT 573 [.one (rl k0 3 (d.map ab.e)),.one (rl k1 3 (l.map ab.e))]=some (B2 (lI d l),[]):=by
 refine Ga Hk Qy ?_;unfold Qy;refine Ua Oo ?_;refine ba (σ:=List ab×List ab×List Int) (fun s=>[(0,AV.v k0 (D.sl 3 (d.map ab.e)),none),(1,AV.v k1 (D.sl 3 (l.map ab.e)),none),(6,AV.pl 6 0 [],some (Rt.aX [C.own (D.sl 1 ((s.2.2).map ei))])),(7,vn ((s.1.length:Nat):Int),none)]) (fun s=>l=s.1++s.2.1∧lI d l=lJ s.2.2 (lI d s.2.1)∧s.2.2.length≤s.1.length) (fun s=>s.2.1.length) ([],l,[]) (by simp) ⟨rfl,by rw [Cp],by simp⟩ ?_;rintro ⟨pre,rest,a⟩ ⟨y1,y2,y4⟩;simp only at y1 y2 y4;have y3:l.length=pre.length+rest.length:=by rw [y1,zb]
 rcases rest with _|⟨⟨dT,dN,dS⟩,rest⟩
 ·simp only [ze] at y3;simp only [lI,Cq,zh] at y2;have c1:¬(pre.length:Int)<(l.length:Int):=by omega
  unfold T4;refine Ua (J2 c1 y2) ?_;simp [Hk,y2]
 ·simp only [zd] at y3;have hg:l[pre.length]?=some ⟨dT,dN,dS⟩:=by rw [y1];simp
  obtain ⟨ai,aB⟩:=za.1 hg;have c1:(pre.length:Int)<(l.length:Int):=by omega
  have hw:=Wi ((pre.length:Int)+1);have hq:(a.length+1)*8≤70368744177664:=by omega
  unfold T4;by_cases q:jh ⟨dT,dN,dS⟩ d 0<0
  ·rw [ab0 q] at y2;refine Ua (J8 hg aB ai c1 hw h q y2) ?_;simp [Hk,y2]
  ·rw [ab1 q] at y2;refine Ua (J8 hg aB ai c1 hw h q hq) ?_;exact ⟨(pre++[⟨dT,dN,dS⟩],rest,a++[jh ⟨dT,dN,dS⟩ d 0]),(by simp;try omega),⟨by rw [y1];simp,y2,by simp;omega⟩,by simp⟩
theorem abW {d:List ab} {l:List Int} {a:List ab} {i:Int} (h:¬(0≤i∧i<(d.length:Int))):lJ a (jj d (i::l))=none:=by
 simp only [jj];split
 ·rw [zy (by omega)];try rfl
 ·rfl
theorem abX {d:List ab} {l:List Int} {a:List ab} {i:Nat} {v:ab} (h:d[i]?=some v):lJ a (jj d ((i:Int)::l))=lJ (a++[v]) (jj d l):=by
 simp only [jj];rw [if_pos (by omega),show ((i:Int)).toNat=i by omega,h];simp only;cases jj d l with
 |none=>rfl
 |some p=>simp [lJ]
@[simp] theorem asg (l:List Int) (h:d.length≤1048576) (h2:l.length≤1048576):Gw TT 556 [.one (rl k0 3 (d.map ab.e)),.one (rl k1 1 (l.map ei))]=some (mj (jj d l),[]):=by
 refine Ga Eo P' ?_;unfold P';refine Ud Oo ?_;refine ba (σ:=List Int×List Int×List ab) (fun s=>[(0,AV.v k0 (D.sl 3 (d.map ab.e)),none),(6,AV.pl 6 0 [],some (Rt.aX [C.own (D.sl 3 ((s.2.2).map ab.e))])),(10,AV.v k1 (D.sl 1 (l.map ei)),none),(11,vn (l.length:Nat),none),(12,vn ((s.1.length:Nat):Int),none)]) (fun s=>l=s.1++s.2.1∧jj d l=lJ s.2.2 (jj d s.2.1)∧s.2.2.length≤s.1.length) (fun s=>s.2.1.length) ([],l,[]) (by simp) ⟨rfl,by rw [Cp],by simp⟩ ?_;rintro ⟨pre,rest,a⟩ ⟨y1,y2,y4⟩;simp only at y1 y2 y4;have y3:l.length=pre.length+rest.length:=by rw [y1,zb]
 rcases rest with _|⟨i,rest⟩
 ·simp only [ze] at y3;simp only [jj,Cq,zh] at y2;have c1:¬(pre.length:Int)<(l.length:Int):=by omega
  unfold TY;refine Ud (J2 c1 y2) ?_;simp [Eo,y2]
 ·simp only [zd] at y3;have hg:l[pre.length]?=some i:=by rw [y1];simp
  obtain ⟨ai,aB⟩:=za.1 hg;have c1:(pre.length:Int)<(l.length:Int):=by omega
  have hw:=Wi ((pre.length:Int)+1);have eF:=Wi ((d.length:Int)-1);have hq:(a.length+1)*32≤70368744177664:=by omega
  unfold TY;by_cases q:0≤i∧i<(d.length:Int)
  ·obtain ⟨m,rfl⟩:=zf q.1;have hm:m<d.length:=by omega
   obtain ⟨⟨dT,dN,dS⟩,hv⟩:∃v,d[m]?=some v:=⟨_,zi hm⟩;have lE:=(za.1 hv).2;rw [abX hv] at y2;have p1:¬(d.length:Int)≤(m:Int):=by omega
   have p2:(m:Int)≤(d.length:Int)-1:=by omega
   have p3:(m:Int)<(d.length:Int):=by omega
   refine Ud (J8 hg aB ai c1 hw eF hq (J6 hm hv lE p1 p2 p3)) ?_;repeat intro hc
   exact ⟨(pre++[(m:Int)],rest,a++[⟨dT,dN,dS⟩]),(by simp;try omega),⟨by rw [y1];simp,y2,by simp;omega⟩,by simp⟩
  ·rw [abW q] at y2;by_cases q2:0≤i
   ·have p1:(d.length:Int)≤i:=by omega
    have p2:¬i≤(d.length:Int)-1:=by omega
    refine Ud (J8 hg aB ai c1 hw eF h (J4 q2 p1 p2 y2)) ?_;repeat intro hc
    simp [Eo,y2]
   ·have p1:i<0:=by omega
    refine Ud (J8 hg aB ai c1 hw eF h (J3 q2 p1 y2)) ?_;simp [Eo,y2]
@[simp] theorem amq (l:List Int) (h:d.length≤1048576) (h2:l.length≤1048576):Gw TT 543 [.one (rl k0 3 (d.map ab.e)),.one (rl k1 1 (l.map ei))]=some (mj (jj d l),[]):=by
 refine Ga Em PY ?_;unfold PY;refine Ua Oo ?_;refine ba (σ:=List Int×List Int×List ab) (fun s=>[(0,AV.v k0 (D.sl 3 (d.map ab.e)),none),(1,AV.v k1 (D.sl 1 (l.map ei)),none),(6,AV.pl 6 0 [],some (Rt.aX [C.own (D.sl 3 ((s.2.2).map ab.e))])),(7,vn ((s.1.length:Nat):Int),none)]) (fun s=>l=s.1++s.2.1∧jj d l=lJ s.2.2 (jj d s.2.1)∧s.2.2.length≤s.1.length) (fun s=>s.2.1.length) ([],l,[]) (by simp) ⟨rfl,by rw [Cp],by simp⟩ ?_;rintro ⟨pre,rest,a⟩ ⟨y1,y2,y4⟩;simp only at y1 y2 y4;have y3:l.length=pre.length+rest.length:=by rw [y1,zb]
 rcases rest with _|⟨i,rest⟩
 ·simp only [ze] at y3;simp only [jj,Cq,zh] at y2;have c1:¬(pre.length:Int)<(l.length:Int):=by omega
  unfold TQ;refine Ua (J2 c1 y2) ?_;simp [Em,y2]
 ·simp only [zd] at y3;have hg:l[pre.length]?=some i:=by rw [y1];simp
  obtain ⟨ai,aB⟩:=za.1 hg;have c1:(pre.length:Int)<(l.length:Int):=by omega
  have hw:=Wi ((pre.length:Int)+1);have eF:=Wi ((d.length:Int)-1);have hq:(a.length+1)*32≤70368744177664:=by omega
  unfold TQ;by_cases q:0≤i∧i<(d.length:Int)
  ·obtain ⟨m,rfl⟩:=zf q.1;have hm:m<d.length:=by omega
   obtain ⟨⟨dT,dN,dS⟩,hv⟩:∃v,d[m]?=some v:=⟨_,zi hm⟩;have lE:=(za.1 hv).2;rw [abX hv] at y2;have p1:¬(d.length:Int)≤(m:Int):=by omega
   have p2:(m:Int)≤(d.length:Int)-1:=by omega
   have p3:(m:Int)<(d.length:Int):=by omega
   refine Ua (J8 hg aB ai c1 hw eF hq (J6 hm hv lE p1 p2 p3)) ?_;exact ⟨(pre++[(m:Int)],rest,a++[⟨dT,dN,dS⟩]),(by simp;try omega),⟨by rw [y1];simp,y2,by simp;omega⟩,by simp⟩
  ·rw [abW q] at y2;by_cases q2:0≤i
   ·have p1:(d.length:Int)≤i:=by omega
    have p2:¬i≤(d.length:Int)-1:=by omega
    refine Ua (J8 hg aB ai c1 hw eF h (J4 q2 p1 p2 y2)) ?_;simp [Em,y2]
   ·have p1:i<0:=by omega
    refine Ua (J8 hg aB ai c1 hw eF h (J3 q2 p1 y2)) ?_;simp [Em,y2]
theorem acI:UM (l.map ab.e)=(nD l).map ab.e:=by
 unfold UM nD;rw [List.map_mergeSort (s:=fun x y=>!F9 y x)];intro a _ b _;rfl
theorem am3:(l.map ab.e).all U_=true:=by
 rw [List.all_eq_true];intro x hx;obtain ⟨v,_,rfl⟩:=zA.1 hx;rfl
@[simp] theorem asG (h:l.length≤1048576):Gw TT 595 [.one (.own (.sl 3 (l.map ab.e))),.one (.ro k0 (.fn 596 []))]=some (.cf [],[(0,0,.own (.sl 3 ((nD l).map ab.e)))]):=by
 refine Ga AQ Gj ?_;unfold Gj;have hL:f_ 0 [.one (.own (.sl 3 (l.map ab.e))),.one (.ro k0 (.fn 596 []))]=[(0,.pl 0 0 [],some (.aX [.own (.sl 3 (l.map ab.e))])),(1,.v k0 (.fn 596 []),none)]:=by simp
 rw [hL];have hlen:(l.map ab.e).length<4611686018427387904:=by simp;omega
 refine anq (L':=[(0,.pl 0 0 [],some (.aX [.own (.sl 3 ((nD l).map ab.e))])),(1,.v k0 (.fn 596 []),none)]) ?_ ?_ ?_
 ·simp only [IA];rw [if_pos ⟨am3 l,hlen⟩];intro c hc;obtain ⟨x,hx,hc⟩:=Zh.1 hc;obtain ⟨y,hy,rfl⟩:=zA.1 hc;obtain ⟨⟨a,b,s⟩,_,rfl⟩:=zA.1 hx;obtain ⟨⟨a',b',s'⟩,_,rfl⟩:=zA.1 hy;exact amC a b s a' b' s'
 ·simp only [UN,acI]
 ·simp [yp,finish,AQ,AG,wk,se,um]
theorem abo {v:ab}:∀{A B:List ab},(∀x∈A,eD x v=true)→mM v (A++B)=A++mM v B
 |[],B,_=>rfl
 |x::A,B,h=>by
  simp only [Zi,mM];rw [if_pos (h x (by simp)),abo (fun y hy=>h y (by simp [hy]))]
theorem amI {α:Type} (f:α→List D) (A:List α) (L:List (List D)):zG A.length (zg f A++L)=zg f A:=by
 have:A.length=(zg f A).length:=by simp
 rw [this,Zk]
theorem aeO {α:Type} (f:α→List D) (A:List α) (L:List (List D)):zx A.length (zg f A++L)=L:=by
 have:A.length=(zg f A).length:=by simp
 rw [this,List.drop_left]
theorem asM {α:Type} (f:α→List D) (A B:List α):zG (A.length+B.length) (zg f A++zg f B)=zg f A++zg f B:=by
 rw [zF (by simp)]
@[simp] theorem aso (h:l.length≤1048576):Gw TT 572 [.one (rl k0 3 (l.map ab.e))]=some (.one (.own (.sl 3 ((gJ l).map ab.e))),[]):=by
 refine Ga Sr Qw ?_;unfold Qw;refine Ua Oo ?_;refine ba (σ:=List ab×List ab×List ab) (fun s=>[(0,AV.v k0 (D.sl 3 (l.map ab.e)),none),(3,AV.pl 3 0 [],some (Rt.aX [C.own (D.sl 3 ((s.2.2).map ab.e))])),(4,vn ((s.1.length:Nat):Int),none)]) (fun s=>l=s.1++s.2.1∧gJ l=rO s.2.2 s.2.1∧s.2.2.length≤s.1.length) (fun s=>s.2.1.length) ([],l,[]) (by simp) ⟨rfl,rfl,by simp⟩ ?_;rintro ⟨pre,rest,o⟩ ⟨y1,y2,y4⟩;simp only at y1 y2 y4;have y3:l.length=pre.length+rest.length:=by rw [y1,zb]
 rcases rest with _|⟨⟨dT,dN,dS⟩,rest⟩
 ·simp only [ze] at y3;simp only [rO] at y2;have c1:¬(pre.length:Int)<(l.length:Int):=by omega
  unfold T3;refine Ua (J2 c1 y2) ?_;simp [Sr,y2]
 ·simp only [zd] at y3;simp only [rO] at y2;have hg:l[pre.length]?=some ⟨dT,dN,dS⟩:=by rw [y1];simp
  obtain ⟨ai,aB⟩:=za.1 hg;have c1:(pre.length:Int)<(l.length:Int):=by omega
  have hw:=Wi ((pre.length:Int)+1);have yE:=Mv ⟨dT,dN,dS⟩ o;unfold T3;refine Ua (J5 hg aB ai c1 hw) ?_;refine ba (σ:=List ab×List ab) (fun s=>[(0,AV.v k0 (D.sl 3 (l.map ab.e)),none),(3,AV.pl 3 0 [],some (Rt.aX [C.own (D.sl 3 ((o).map ab.e))])),(4,vn ((pre.length:Nat):Int),none),(5,vn ((s.1.length:Nat):Int),none)]) (fun s=>o=s.1++s.2∧∀x∈s.1,eD x ⟨dT,dN,dS⟩=true) (fun s=>s.2.length) ([],o) (by simp) ⟨rfl,by simp⟩ ?_;rintro ⟨A,B⟩ ⟨z1,z2⟩;simp only at z1 z2;have xl:mM ⟨dT,dN,dS⟩ o=A++mM ⟨dT,dN,dS⟩ B:=by rw [z1];exact abo z2
  have tC:o.length=A.length+B.length:=by rw [z1,zb]
  have jt:A.length*32≤70368744177664:=by omega
  have mf:(A.length+1)*32≤70368744177664:=by omega
  have hq3:(A.length+1+B.length)*32≤70368744177664:=by omega
  have hfA:lq (zg ab.e A)=true:=FA _ _ (fun x=>rfl);have hfB:lq (zg ab.e B)=true:=FA _ _ (fun x=>rfl);rcases B with _|⟨⟨bT,bN,bS⟩,B⟩
  ·have c2:¬(A.length:Int)<(o.length:Int):=by simp at tC;omega
   have c3:(A.length:Int)=(o.length:Int):=by simp at tC;omega
   have hAo:A.length=o.length:=by simp at tC;omega
   have hAe:o=A:=by simpa using z1
   subst hAe;simp only [mM] at xl;rw [xl] at y2;have Kr:zG o.length (zg ab.e o)=zg ab.e o:=zF (by simp);have hDo:zx o.length (zg ab.e o)=[]:=zO (by simp);unfold EE;refine Ua (J8 c1 hg aB ai hw jt mf (J3 hfA Kr hDo)) ?_;exact ⟨(pre++[⟨dT,dN,dS⟩],rest,o++[⟨dT,dN,dS⟩]),(by simp;try omega),⟨by rw [y1];simp,y2,by simp;omega⟩,by simp⟩
  ·have FQ:o[A.length]?=some ⟨bT,bN,bS⟩:=by rw [z1];simp
   obtain ⟨KT,KH⟩:=za.1 FQ;have c2:(A.length:Int)<(o.length:Int):=by omega
   have c3:¬(A.length:Int)=(o.length:Int):=by omega
   have hwA:=Wi ((A.length:Int)+1);cases pH:oX bT bN bS dT dN dS with
   |true=>
    unfold EE;refine Ua (J8 c1 hg aB ai hw c2 FQ (J4 KH KT hwA pH)) ?_
    all_goals first|exact ⟨(A++[⟨bT,bN,bS⟩],B),(by simp;try omega),⟨by rw [z1];simp,fun x hx=>by
     rcases zz.1 hx with hx|hx
     ·exact z2 x hx
     ·simp at hx;subst hx;exact pH⟩,by simp⟩|(exfalso;omega)
   |false=>
    have kU:¬eD ⟨bT,bN,bS⟩ ⟨dT,dN,dS⟩=true:=by simp only [eD];rw [pH];simp
    simp only [mM] at xl;rw [if_neg kU] at xl;cases hv:cU ⟨bT,bN,bS⟩ ⟨dT,dN,dS⟩ with
    |true=>
     rw [if_pos hv,←z1] at xl;rw [xl] at y2;have e:=pe.1 hv;simp only [ab.mk.injEq] at e;obtain ⟨rfl,rfl,rfl⟩:=e;unfold EE;refine Ua (J8 c1 hg aB ai hw c2 c3 (J4 FQ KH KT pH)) ?_;exact ⟨(pre++[⟨bT,bN,bS⟩],rest,o),(by simp;try omega),⟨by rw [y1];simp,y2,by simp;omega⟩,by simp⟩
    |false=>
     rw [if_neg (by rw [hv];simp)] at xl;rw [xl] at y2;have hb:(bT==dT&&(bN==dN&&bS.toList==dS.toList))=false:=hv;have hT:zG A.length (zg ab.e o)=zg ab.e A:=by rw [z1,zL];exact amI _ _ _
     have hD:zx A.length (zg ab.e o)=zg ab.e (⟨bT,bN,bS⟩::B):=by rw [z1,zL];exact aeO _ _ _
     have Kr:zG o.length (zg ab.e o)=zg ab.e o:=zF (by simp);have hAo:A.length≤o.length:=by omega
     simp only [zd] at hq3;unfold EE;refine Ua (J8 c1 hg aB ai hw c2 c3 (J8 FQ KH KT pH hb hT hD (J7 Kr hAo jt mf hq3 hfA hfB))) ?_;exact ⟨(pre++[⟨dT,dN,dS⟩],rest,A++⟨dT,dN,dS⟩::⟨bT,bN,bS⟩::B),(by simp;try omega),⟨by rw [y1];simp,y2,by simp at *;omega⟩,by simp⟩
theorem adf {α:Type} (f:α→List D) (A:List α) (L:List (List D)):zG A.length (zg f A++L)=zg f A:=by
 have:A.length=(zg f A).length:=by simp
 rw [this,Zk]
theorem J1 {α:Type} (A:List α) (x:α) (B:List α):(A++x::B)[A.length]?=some x:=by simp
theorem aes (W G:List ab) (p v:ab) (r:List ab) (g:ab) (G1:List ab) (h:G++[p]=g::G1):(W++[p]++G++[p]++v::r).set (W.length+1) v=(W++[p])++[v]++G1++v::r:=by
 have e:W++[p]++G++[p]++v::r=(W++[p])++g::(G1++v::r):=by
  rw [show W++[p]++G++[p]++v::r=(W++[p])++((G++[p])++v::r) by simp [zB],h];try rfl
 rw [e];have hl:(W++[p]).length=W.length+1:=by simp
 rw [←hl,Za _ _ (zW _)];simp
@[simp] theorem amD (h:l.length≤1048576):Gw TT 597 [.one (.own (.sl 3 (l.map ab.e)))]=some (.one (.own (.sl 3 ((vr l).map ab.e))),[(0,0,.own .dead)]):=by
 refine Ga Ev QW ?_;unfold QW;by_cases q:l.length<2
 ·have aD:vr l=l:=by
   rcases l with _|⟨x,l⟩
   ·rfl
   ·rcases l with _|⟨y,l⟩
    ·rfl
    ·simp at q;omega
  have q1:(l.length:Int)<2:=by omega
  refine Ua (J2 q1 aD) ?_;simp [Ev,aD]
 ·have q1:¬(l.length:Int)<2:=by omega
  refine Ua q1 ?_
  refine ba (σ:=List ab×(ab×List ab)) (fun s=>[(0,AV.pl 0 0 [],some (Rt.aX [C.own (D.sl 3 (l.map ab.e))])),(3,vn (((s.1.length:Nat):Int)+1),none)]) (fun s=>l=s.1++s.2.1::s.2.2∧vr l=s.1++qf s.2.1 s.2.2) (fun s=>s.2.2.length) ([],(l.headD default,l.tail)) (by simp) (by
   rcases l with _|⟨x,l⟩
   ·simp at q
   ·exact ⟨rfl,rfl⟩) ?_
  rintro ⟨P,⟨⟨xT,xN,xS⟩,rest⟩⟩ ⟨y1,y2⟩;simp only at y1 y2;have y3:l.length=P.length+(rest.length+1):=by rw [y1];simp
  rcases rest with _|⟨⟨dT,dN,dS⟩,rest⟩
  ·simp only [ze] at y3;have aD:vr l=l:=by rw [y2,y1];try rfl
   have c1:¬(P.length:Int)+1<(l.length:Int):=by omega
   unfold Im;refine Ua (J2 c1 aD) ?_;simp [Ev,aD]
  ·simp only [zd] at y3;simp only [qf] at y2;have c1:(P.length:Int)+1<(l.length:Int):=by omega
   have e_:l[P.length]?=some ⟨xT,xN,xS⟩:=by rw [y1];simp
   obtain ⟨fJ,fI⟩:=za.1 e_;have kT:l[P.length+1]?=some ⟨dT,dN,dS⟩:=by rw [y1];simp
   obtain ⟨vL,vI⟩:=za.1 kT;have fZ:=Wi ((P.length:Int)+1+1);have lF:IntKind.wrap .i64 (P.length:Int)=(P.length:Int):=wrap_i64 (by omega) (by omega);have pI:((P.length:Int)+1).toNat=P.length+1:=by omega
   have fK:(0:Int)≤(P.length:Int)+1:=by omega
   have yH:(P.length:Int)<(l.length:Int):=by omega
   have fL:(P.length:Int)+1≤(l.length:Int):=by omega
   have fR:P.length+1≤l.length:=by omega
   cases hv:cU ⟨dT,dN,dS⟩ ⟨xT,xN,xS⟩ with
   |false=>
    rw [if_neg (by rw [hv];simp)] at y2;have hb:(dT==xT&&(dN==xN&&dS.toList==xS.toList))=false:=hv;unfold Im;refine Ua (J8 c1 e_ fJ fI kT vL vI (J7 fZ lF pI fK yH hb @zt)) ?_;exact ⟨(P++[⟨xT,xN,xS⟩],(⟨dT,dN,dS⟩,rest)),(by simp;try omega),⟨by rw [y1];simp,by rw [y2];simp⟩,by simp⟩
   |true=>
    rw [if_pos hv] at y2;have e:=pe.1 hv;simp only [ab.mk.injEq] at e;obtain ⟨rfl,rfl,rfl⟩:=e;unfold Im;refine Ua (J8 c1 e_ fJ fI kT vL vI (J8 fZ lF pI fK yH fL fR @zt)) ?_;refine ba (σ:=List ab×(List ab×(ab×List ab))) (fun s=>[(0,AV.pl 0 0 [],some (Rt.aX [C.own (D.sl 3 ((s.1++[s.2.2.1]++s.2.1++[s.2.2.1]++s.2.2.2).map ab.e))])),(3,vn (((s.1.length:Nat):Int)+1),none),(4,AV.rg 0 0 [] 3 (P.length+1) l.length,none),(5,vn ((s.1.length+1+s.2.1.length+1-(P.length+1):Nat):Int),none)]) (fun s=>l.length=(s.1++[s.2.2.1]++s.2.1++[s.2.2.1]++s.2.2.2).length∧P.length≤s.1.length∧vr l=s.1++qf s.2.2.1 s.2.2.2) (fun s=>s.2.2.2.length) (P,([],(⟨dT,dN,dS⟩,rest))) (by simp [y1];try omega) ⟨by simp [y1],zW _,y2⟩ ?_;clear e_ fJ fI kT vL vI hv fZ pI fK;rintro ⟨W,⟨G,⟨⟨pT,pN,pS⟩,r⟩⟩⟩ ⟨z1,z2,z3⟩;dsimp only at z1 z2 z3 ⊢;obtain ⟨M,hM⟩:∃M,M=W++[⟨pT,pN,pS⟩]++G++[⟨pT,pN,pS⟩]++r:=⟨_,rfl⟩;rw [←hM] at z1 ⊢;have hMl:M.length=W.length+1+G.length+1+r.length:=by rw [hM];simp;omega
    obtain ⟨K,hK⟩:∃K,W.length+1+G.length+1-(P.length+1)=K+1:=⟨W.length+G.length-P.length,by omega⟩;rw [hK];have hPK:P.length+1+K=W.length+1+G.length:=by omega
    have Kj:M.length=l.length:=z1.symm;have m0:(0:Int)≤(W.length:Int)+1:=by omega
    have m1:(W.length:Int)+1≤(l.length:Int):=by omega
    have m2:((W.length:Int)+1).toNat=W.length+1:=by omega
    have m3:W.length+1≤l.length:=by omega
    have m4:W.length+1<l.length:=by omega
    have m5:(W.length:Int)+1<(l.length:Int):=by omega
    have m6:((K:Int)+1).toNat=K+1:=by omega
    have m7:(0:Int)≤(K:Int)+1:=by omega
    have m8:IntKind.wrap .i64 (K:Int)=(K:Int):=wrap_i64 (by omega) (by omega);have m9:=Wi ((K:Int)+1+1);have MF:=Wi ((W.length:Int)+1+1);have MG:P.length+1≤l.length:=by omega
    have Kq:zG l.length (zg ab.e M)=zg ab.e M:=zF (by simp;omega);have hDM:zx l.length (zg ab.e M)=[]:=zO (by simp;omega)
    have hTW:zG (W.length+1) (zg ab.e M)=zg ab.e (W++[⟨pT,pN,pS⟩]):=by
     rw [hM,zB,zB,zL];have:=adf ab.e (W++[⟨pT,pN,pS⟩]) (zg ab.e (G++([⟨pT,pN,pS⟩]++r)));rw [show (W++[(⟨pT,pN,pS⟩:ab)]).length=W.length+1 by simp] at this;exact this
    rcases r with _|⟨⟨vT,vN,vS⟩,r⟩
    ·simp only [ze,Nat.add_zero] at hMl;simp only [qf] at z3;have d1:¬(K:Int)+1<((l.length-(P.length+1):Nat):Int):=by omega
     have d2:W.length+1+(l.length-(W.length+1))=l.length:=by omega
     have oO:lq (zx (W.length+1) (zg ab.e M))=true:=ae5 _ _ _ (fun x=>rfl);have d3:W.length+(l.length-(W.length+1)+1)=l.length:=by omega
     have agX:zG (W.length+1) (zg ab.e W++[di pT,di pN,.str pS]::zq (l.length-(W.length+1)) [di 0,di 0,.str ⟨#[]⟩])=zg ab.e W++[[di pT,di pN,.str pS]]:=by
      have:=adf ab.e (W++[⟨pT,pN,pS⟩]) (zq (l.length-(W.length+1)) [di 0,di 0,.str ⟨#[]⟩]);rw [show (W++[(⟨pT,pN,pS⟩:ab)]).length=W.length+1 by simp] at this;simpa using this
     unfold Il;refine Ua (J8 Kj Kq hDM hTW m0 m1 m2 (J8 m3 m4 m5 m6 m7 m8 MG (J4 d1 d2 d3 oO))) ?_;simp [Ev,z3,agX]
    ·simp only [zd] at hMl;simp only [qf] at z3;have d1:(K:Int)+1<((l.length-(P.length+1):Nat):Int):=by omega
     have KI:M[P.length+1+K]?=some ⟨pT,pN,pS⟩:=by
      rw [hPK,hM,zB _ [_] (_::r)];have:=J1 (W++[⟨pT,pN,pS⟩]++G) ⟨pT,pN,pS⟩ (⟨vT,vN,vS⟩::r);rw [show (W++[(⟨pT,pN,pS⟩:ab)]++G).length=W.length+1+G.length by simp;omega] at this;simpa using this
     have ly:M[P.length+1+(K+1)]?=some ⟨vT,vN,vS⟩:=by
      rw [←Nat.add_assoc,hPK,hM];have:=J1 (W++[⟨pT,pN,pS⟩]++G++[⟨pT,pN,pS⟩]) ⟨vT,vN,vS⟩ r;rw [show (W++[(⟨pT,pN,pS⟩:ab)]++G++[(⟨pT,pN,pS⟩:ab)]).length=W.length+1+G.length+1 by simp;omega] at this;exact this
     obtain ⟨cJ,ku⟩:=za.1 KI;obtain ⟨pL,lE⟩:=za.1 ly;have BO:P.length+1+K<l.length:=by omega
     have fO:P.length+1+(K+1)<l.length:=by omega
     have k1:(K:Int)<((l.length-(P.length+1):Nat):Int):=by omega
     cases hv:cU ⟨vT,vN,vS⟩ ⟨pT,pN,pS⟩ with
     |true=>
      rw [if_pos hv] at z3;have e:=pe.1 hv;simp only [ab.mk.injEq] at e;obtain ⟨rfl,rfl,rfl⟩:=e;have hM2:M=W++[⟨vT,vN,vS⟩]++(G++[⟨vT,vN,vS⟩])++[⟨vT,vN,vS⟩]++r:=by rw [hM];simp
      unfold Il;refine Ua (J8 Kj Kq m0 m1 m2 m3 m4 (J8 m5 m6 m7 m8 m9 MG d1 (J8 KI ly cJ ku pL lE BO (J3 fO k1 @zt)))) ?_;exact ⟨(W,(G++[⟨vT,vN,vS⟩],(⟨vT,vN,vS⟩,r))),(by rw [hM2];simp;try omega),⟨by rw [←hM2];exact z1,z2,z3⟩,by simp⟩
     |false=>
      rw [if_neg (by rw [hv];simp)] at z3;have hb:(vT==pT&&(vN==pN&&vS.toList==pS.toList))=false:=hv
      obtain ⟨⟨gT,gN,gS⟩,G1,hG⟩:∃g G1,G++[(⟨pT,pN,pS⟩:ab)]=g::G1:=by
       cases G with
       |nil=>exact ⟨_,_,rfl⟩
       |cons g G=>exact ⟨_,_,rfl⟩
      have BP:(zg ab.e M).set (W.length+1) [di vT,di vN,.str vS]=zg ab.e ((W++[⟨pT,pN,pS⟩])++[⟨vT,vN,vS⟩]++G1++⟨vT,vN,vS⟩::r):=by
       rw [←aes W G ⟨pT,pN,pS⟩ ⟨vT,vN,vS⟩ r ⟨gT,gN,gS⟩ G1 hG,List.map_set,hM];try rfl
      have uK:M[W.length+1]?=some ⟨gT,gN,gS⟩:=by
       rw [hM,show W++[(⟨pT,pN,pS⟩:ab)]++G++[⟨pT,pN,pS⟩]++⟨vT,vN,vS⟩::r=(W++[⟨pT,pN,pS⟩])++((G++[⟨pT,pN,pS⟩])++⟨vT,vN,vS⟩::r) by simp,hG];have:=J1 (W++[⟨pT,pN,pS⟩]) ⟨gT,gN,gS⟩ (G1++⟨vT,vN,vS⟩::r);rw [show (W++[(⟨pT,pN,pS⟩:ab)]).length=W.length+1 by simp] at this;exact this
      obtain ⟨BI,aB⟩:=za.1 uK;have qn:=congrArg zN hG;simp at qn;unfold Il;refine Ua (J8 Kj Kq m0 m1 m2 m3 m4 (J8 m5 m6 m7 m8 m9 MF MG (J8 d1 KI ly cJ ku pL lE (J8 BO fO k1 hb BP uK BI (J2 aB @zt))))) ?_;exact ⟨(W++[⟨pT,pN,pS⟩],(G1,(⟨vT,vN,vS⟩,r))),(by simp;try omega),⟨by simp at *;omega,by simp;omega,by rw [z3];simp⟩,by simp⟩
@[simp] theorem asx (h:l.length≤1048576):Gw TT 584 [.one (rl k0 3 (l.map ab.e))]=some (.one (.own (.sl 3 ((gJ l).map ab.e))),[]):=by
 refine Ga Sy QK ?_;unfold QK;have h1:(nD l).length≤1048576:=by rw [IB];exact h
 have h2:=amD (nD l) h1;rw [aez] at h2;refine Ua (J3 h h1 h2) ?_;simp [Sy]
theorem abm {v:ab}:∀{d:List ab} {i:Int},0≤i→v∈d→0≤jh v d i
 |[],i,_,h=>by simp at h
 |x::d,i,hi,h=>by
  simp only [jh];split
  ·exact hi
  ·rename_i hx;rcases zj.1 h with rfl|h
   ·exact absurd (pe.2 rfl) hx
   ·exact abm (by omega) h
theorem Ur {d:List ab}:∀{l:List ab},(∀v∈l,v∈d)→∃p,lI d l=some p
 |[],_=>⟨[],rfl⟩
 |v::l,h=>by
  obtain ⟨p,hp⟩:=Ur (l:=l) (fun x hx=>h x (by simp [hx]));refine ⟨jh v d 0::p,?_⟩;have:=abm (i:=0) (by omega) (h v (by simp));simp only [lI];rw [if_neg (by omega),hp]
@[simp] theorem amt (h:l.length≤1048576) (hs:ab.aJ l):Gw TT 557 [.one (rl k0 3 (l.map ab.e))]=some (.one (.own (.sl 1 ((iC l).map eb))),[]):=by
 refine Ga Hc Qa ?_;unfold Qa;by_cases q:cM l=0
 ·have he:iC l=[]:=by simp [iC,q]
  refine Uw (J4 h hs q he) ?_;simp [Hc,he]
 ·obtain ⟨q1,q2,_,_⟩:=qI q;have hm:∀r∈gJ l,r.S.size≤6:=fun r hr=>EP q _ (CS.1 hr)
  have qZ:=Fu l;obtain ⟨p,hp⟩:=Ur (d:=gJ l) (l:=l) (fun v hv=>CS.2 hv);have cJ:=Io (gJ l) hp;have LJ:xG (gJ l) l=p:=by simp [xG,hp]
  have he:iC l=cI (gJ l).length++ic (gJ l)++ji p (gI ((gJ l).length-1)):=by simp [iC,q,LJ]
  obtain ⟨R,hR⟩:∃R,R=gJ l:=⟨_,rfl⟩;rw [←hR] at he hm qZ hp;have hn:=ma (R.length:Int);have C4:R.length≤1048576:=by omega
  have BO:p.length≤1048576:=by omega
  have vO:=B5 p (gI ((R.length:Int)-1));have Mk:=Wi ((R.length:Int)-1);obtain ⟨pk,Dr⟩:∃pk,pk=ji p (gI ((R.length:Int)-1)):=⟨_,rfl⟩;rw [←Dr] at he vO
  repeat' first|refine Zs ?_|((with_reducible refine Xk fun K k=>?_);simp [h,hs,q,←hR,C4,hp];refine k _ ?_;clear k K)|refine Xt rfl ?_|refine Xf rfl ?_|(refine We rfl ?_ ?_<;>(intro hc;(try simp at hc);(all_goals first|(exfalso;omega)|skip)))
  refine ba (σ:=List ab×List ab×List Int) (fun s=>[(0,AV.v k0 (D.sl 3 (l.map ab.e)),none),(3,AV.pl 3 0 [],some (Rt.aX [C.own (D.sl 1 ((s.2.2).map eb))])),(4,AV.pl 4 0 [],some (Rt.aX [C.own (D.sl 3 (R.map ab.e))])),(20,AV.pl 4 0 [],none),(21,vn (R.length:Nat),none),(22,vn ((s.1.length:Nat):Int),none)]) (fun s=>R=s.1++s.2.1∧s.2.2++ic s.2.1=cI R.length++ic R∧s.2.2.length≤5+7*s.1.length) (fun s=>s.2.1.length) ([],R,cI R.length) (by simp) ⟨rfl,rfl,by simp;omega⟩ ?_;rintro ⟨pre,rest,a⟩ ⟨y1,y2,y4⟩;simp only at y1 y2 y4;have y3:R.length=pre.length+rest.length:=by rw [y1,zb]
  rcases rest with _|⟨⟨dT,dN,dS⟩,rest⟩
  ·simp only [ze] at y3;simp only [ic,zD,zh] at y2;have c1:¬(pre.length:Int)<(R.length:Int):=by omega
   have gZ:iC l=a++pk:=by rw [he,y2];try rfl
   have ha:(a.length+pk.length)*1≤70368744177664:=by omega
   have uI:a.length+pk.length≤70368744177664:=by omega
   unfold TZ
   repeat' first|refine Zs ?_|((with_reducible refine Xk fun K k=>?_);simp [c1,hp,BO,h,C4,Mk,←Dr,ha,uI];refine k _ ?_;clear k K)|refine Xt rfl ?_|refine Xf rfl ?_|(refine We rfl ?_ ?_<;>(intro hc;(try simp at hc);(all_goals first|(exfalso;omega)|skip)))
   simp [Hc,gZ]
  ·simp only [zd] at y3;have hd:=hm ⟨dT,dN,dS⟩ (by rw [y1];simp);simp only at hd;have ck:dS.size≤1048576:=by omega
   have hg:R[pre.length]?=some ⟨dT,dN,dS⟩:=by rw [y1];simp
   obtain ⟨ai,aB⟩:=za.1 hg;have c1:(pre.length:Int)<(R.length:Int):=by omega
   have hw:=Wi ((pre.length:Int)+1);have hpv:=xJ ⟨dT,dN,dS⟩;have ha:a.length≤1048000:=by omega
   unfold TZ;refine Uw (J7 hg aB ai c1 hw ck ha) ?_;exact ⟨(pre++[⟨dT,dN,dS⟩],rest,a++i_ ⟨dT,dN,dS⟩),(by simp;try omega),⟨by rw [y1];simp,by rw [←y2];simp [ic],by simp only [zb,zd,ze];omega⟩,by simp⟩
@[simp] theorem ar9 (h:l.length≤1048576) (hs:ab.aJ l):Gw TT 544 [.one (rl k0 3 (l.map ab.e))]=some (.one (.own (.sl 1 ((iC l).map eb))),[]):=by
 refine Ga G7 PZ ?_;unfold PZ;by_cases q:cM l=0
 ·have he:iC l=[]:=by simp [iC,q]
  refine Uw (J4 h hs q he) ?_;simp [G7,he]
 ·obtain ⟨q1,q2,_,_⟩:=qI q;have hm:∀r∈gJ l,r.S.size≤6:=fun r hr=>EP q _ (CS.1 hr)
  have qZ:=Fu l;obtain ⟨p,hp⟩:=Ur (d:=gJ l) (l:=l) (fun v hv=>CS.2 hv);have cJ:=Io (gJ l) hp;have LJ:xG (gJ l) l=p:=by simp [xG,hp]
  have he:iC l=cI (gJ l).length++ic (gJ l)++ji p (gI ((gJ l).length-1)):=by simp [iC,q,LJ]
  obtain ⟨R,hR⟩:∃R,R=gJ l:=⟨_,rfl⟩;rw [←hR] at he hm qZ hp;have hn:=ma (R.length:Int);have C4:R.length≤1048576:=by omega
  have BO:p.length≤1048576:=by omega
  have vO:=B5 p (gI ((R.length:Int)-1));have Mk:=Wi ((R.length:Int)-1);obtain ⟨pk,Dr⟩:∃pk,pk=ji p (gI ((R.length:Int)-1)):=⟨_,rfl⟩;rw [←Dr] at he vO
  repeat' first|refine Zs ?_|((with_reducible refine Xk fun K k=>?_);simp [h,hs,q,←hR,C4,hp];refine k _ ?_;clear k K)|refine Xt rfl ?_|refine Xf rfl ?_|(refine We rfl ?_ ?_<;>(intro hc;(try simp at hc);(all_goals first|(exfalso;omega)|skip)))
  refine ba (σ:=List ab×List ab×List Int) (fun s=>[(3,AV.pl 3 0 [],some (Rt.aX [C.own (D.sl 3 (R.map ab.e))])),(4,AV.pl 4 0 [],some (Rt.aX [C.own (D.sl 1 (p.map ei)),C.ro false (.bool true)])),(6,AV.pl 6 0 [],some (Rt.aX [C.own (D.sl 1 ((s.2.2).map eb))])),(7,vn ((s.1.length:Nat):Int),none)]) (fun s=>R=s.1++s.2.1∧s.2.2++ic s.2.1=cI R.length++ic R∧s.2.2.length≤5+7*s.1.length) (fun s=>s.2.1.length) ([],R,cI R.length) (by simp) ⟨rfl,rfl,by simp;omega⟩ ?_;rintro ⟨pre,rest,a⟩ ⟨y1,y2,y4⟩;simp only at y1 y2 y4;have y3:R.length=pre.length+rest.length:=by rw [y1,zb]
  rcases rest with _|⟨⟨dT,dN,dS⟩,rest⟩
  ·simp only [ze] at y3;simp only [ic,zD,zh] at y2;have c1:¬(pre.length:Int)<(R.length:Int):=by omega
   have gZ:iC l=a++pk:=by rw [he,y2];try rfl
   have ha:(a.length+pk.length)*1≤70368744177664:=by omega
   have uI:a.length+pk.length≤70368744177664:=by omega
   unfold TR
   repeat' first|refine Zs ?_|((with_reducible refine Xk fun K k=>?_);simp [c1,hp,BO,h,C4,Mk,←Dr,ha,uI];refine k _ ?_;clear k K)|refine Xt rfl ?_|refine Xf rfl ?_|(refine We rfl ?_ ?_<;>(intro hc;(try simp at hc);(all_goals first|(exfalso;omega)|skip)))
   simp [G7,gZ]
  ·simp only [zd] at y3;have hd:=hm ⟨dT,dN,dS⟩ (by rw [y1];simp);simp only at hd;have ck:dS.size≤1048576:=by omega
   have hg:R[pre.length]?=some ⟨dT,dN,dS⟩:=by rw [y1];simp
   obtain ⟨ai,aB⟩:=za.1 hg;have c1:(pre.length:Int)<(R.length:Int):=by omega
   have hw:=Wi ((pre.length:Int)+1);have hpv:=xJ ⟨dT,dN,dS⟩;have ha:a.length≤1048000:=by omega
   unfold TR;refine Uw (J7 hg aB ai c1 hw ck ha) ?_;exact ⟨(pre++[⟨dT,dN,dS⟩],rest,a++i_ ⟨dT,dN,dS⟩),(by simp;try omega),⟨by rw [y1];simp,by rw [←y2];simp [ic],by simp only [zb,zd,ze];omega⟩,by simp⟩
theorem amo (e:List Int) (h1:1≤k) (h2:k≤64) (h3:(l.length:Int)=k) (h4:((strOf b).toList==(strOf e).toList)=true):
 Gw TT 527 [.one (rl k0 1 (b.map eb)),vi k,.one (.own (.sl 3 (l.map ab.e))),.one (rl k1 1 (e.map eb))]=some (mj (some l),[(2,0,.own .dead)]):=by
 refine Ga AJ D0 ?_;unfold D0;refine Ua (J4 h1 h2 h3 h4) ?_;simp [AJ]
theorem amn (e:List Int) (h:¬((1≤k∧k≤64)∧(l.length:Int)=k∧((strOf b).toList==(strOf e).toList)=true)):
 Gw TT 527 [.one (rl k0 1 (b.map eb)),vi k,.one (.own (.sl 3 (l.map ab.e))),.one (rl k1 1 (e.map eb))]=some (mj none,[(2,0,.own (.sl 3 (l.map ab.e)))]):=by
 refine Ga AJ D0 ?_;unfold D0;by_cases q1:1≤k∧k≤64
 ·by_cases q2:(l.length:Int)=k
  ·have q3:((strOf b).toList==(strOf e).toList)=false:=by
    cases hh:((strOf b).toList==(strOf e).toList) with
    |false=>rfl
    |true=>exact absurd ⟨q1,q2,hh⟩ h
   clear h;refine Ud (J4 q1.1 q1.2 q2 q3) ?_;simp [AJ]
  ·clear h;refine Ud (J3 q1.1 q1.2 q2) ?_;simp [AJ]
 ·clear h;refine Ud Oo ?_;repeat intro hc
  simp [AJ]
theorem uj (k0 k1:Bool) (b:List Int) (k:Int) (l:List ab) (E:List ab→List Int) (hb:bI b) (he:bI (E l)):
 ∃us,Gw TT 527 [.one (rl k0 1 (b.map eb)),vi k,.one (.own (.sl 3 (l.map ab.e))),.one (rl k1 1 ((E l).map eb))]=some (mj (eU b k E l),us):=by
 by_cases q:(1≤k∧k≤64)∧(l.length:Int)=k∧b=E l
 ·have h4:((strOf b).toList==(strOf (E l)).toList)=true:=by rw [ui hb he];simpa using q.2.2
  have e1:eU b k E l=some l:=by unfold eU;rw [if_pos q]
  rw [e1];exact ⟨_,amo k0 k1 b k l (E l) q.1.1 q.1.2 q.2.1 h4⟩
 ·have e1:eU b k E l=none:=by unfold eU;rw [if_neg q]
  rw [e1];refine ⟨_,amn k0 k1 b k l (E l) (fun e=>q ⟨e.1,e.2.1,?_⟩)⟩;have:=e.2.2;rw [ui hb he] at this;simpa using this
theorem CZ {b:List Int} {ty:Int} {k:Nat} {u t:Int} {l:List ab} (hb:bI b) (h0:0≤u) (h1:u≤(b.length:Int)) (h:iD b ty k u=some (l,t)):ab.aJ l∧l.length=k:=by
 obtain ⟨a1,a2,_⟩:=CY hb h0 h1 h;refine ⟨fun v hv=>?_,a1⟩;have:=xV (wL a2 v hv).1;simp only [ab.sm];omega
theorem aeJ {b:List Int} {ty k:Int} (hb:bI b) (hk:1≤k∧k≤64) {l:List ab} {t:Int} (h:iD b ty k.toNat 0=some (l,t)):mG b ty k=eU b k kS l:=by
 obtain ⟨h1,_,h3⟩:=Wj hb hk h;unfold mG eU;rw [if_pos hk,h];simp only;by_cases e:t=(b.length:Int)
 ·rw [if_pos e,if_pos ⟨hk,h1,h3.2 e⟩]
 ·rw [if_neg e,if_neg (fun q=>e (h3.1 q.2.2))]
theorem Jw {b:List Int} {k:Int} {E:List ab→List Int}:eU b k E []=none:=by
 unfold eU;rw [if_neg (fun q=>by have:=q.2.1;simp at this;omega)]
@[simp] theorem ac6 (h:b.length≤1048576) (hb:bI b):Gw TT 522 [.one (rl k0 1 (b.map eb)),vi ty,vi k]=some (mj (mG b ty k),[]):=by
 refine Ga Ch PE ?_;unfold PE;by_cases q:1≤k∧k≤64
 ·have q0:0≤k:=by omega
  have hg:=ac' k0 b 0 ty k h hb q0 q.2;cases hv:iD b ty k.toNat 0 with
  |none=>
   have hd:mG b ty k=none:=by unfold mG;rw [if_pos q,hv]
   rw [hv] at hg;obtain ⟨us,hu⟩:=uj k0 true b k [] kS hb (JL []);have he:=ams true [] (by simp) (fun v hv=>by simp at hv);have hn:kS []=[]:=rfl;rw [Jw] at hu;simp only [hn,zu] at hu he;refine Uw (J6 q.1 q.2 hg he hu hd) ?_;simp [Ch,hd]
  |some w=>
   obtain ⟨l,t⟩:=w;rw [hv] at hg;obtain ⟨hs,hl⟩:=CZ hb (Zg _) (by omega) hv;have dy:l.length≤1048576:=by omega
   obtain ⟨us,hu⟩:=uj k0 true b k l kS hb (JL l);rw [aeJ hb q hv];cases hc:eU b k kS l with
   |none=>
    rw [hc] at hu;refine Uw (J6 q.1 q.2 hg hs dy hu) ?_;simp [Ch]
   |some l'=>
    rw [hc] at hu;refine Uw (J6 q.1 q.2 hg hs dy hu) ?_;simp [Ch]
 ·have hd:mG b ty k=none:=by unfold mG;rw [if_neg q]
  refine Uw hd ?_;repeat intro hc
  simp [Ch,hd]
@[simp] theorem ac7 (h:b.length≤1048576) (hb:bI b):Gw TT 523 [.one (rl k0 1 (b.map eb)),vi ty,vi k]=some (mj (iU b ty k),[]):=by
 refine Ga xC PG ?_;unfold PG;cases hg:gN b 0 with
 |none=>
  have hdr:iU b ty k=none:=by unfold iU;rw [hg]
  refine Uw (J4 h hb hg hdr) ?_;simp [xC,hdr]
 |some q=>
  obtain ⟨n,u⟩:=q;by_cases q1:1≤n∧n≤64
  ·obtain ⟨m,rfl⟩:=zf (show 0≤n by omega);have q2:(1:Int)≤(m:Int):=q1.1;have q3:(m:Int)≤64:=q1.2
   have hdr:∀{r:List dv} {t:Int},lr b ty m u=some (r,t)→iU b ty k=eU b k jF (ug r):=fun {r t} hr=>by
    unfold iU;rw [hg];simp only;rw [if_pos q1,show ((m:Int)).toNat=m by omega,hr]
   have yz:lr b ty m u=none→iU b ty k=none:=fun hr=>by
    unfold iU;rw [hg];simp only;rw [if_pos q1,show ((m:Int)).toNat=m by omega,hr]
   refine Uw (J5 h hb hg q2 q3) ?_;refine ba (σ:=List dv×(Nat×Int)) (fun s=>[(0,AV.v k0 (D.sl 1 (b.map eb)),none),(1,vn ty,none),(2,vn k,none),(8,vn (m:Nat),none),(9,vn s.2.2,none),(11,AV.pl 11 0 [],some (Rt.aX [C.own (D.sl 4 (s.1.map dv.e))])),(12,vn (s.1.length:Nat),none)]) (fun s=>s.1.length+s.2.1=m∧lr b ty m u=kX s.1 (lr b ty s.2.1 s.2.2)) (fun s=>s.2.1) ([],(m,u)) (by simp) ⟨by simp,by rw [AX]⟩ ?_;rintro ⟨a,⟨i,v⟩⟩ ⟨y1,y2⟩;simp only at y1 y2;have hq:(a.length+1)*40≤70368744177664:=by omega
   cases i with
   |zero=>
    have c1:¬(a.length:Int)<(m:Int):=by omega
    simp only [lr,AY,zh] at y2;have hd:=hdr y2;have hS:=acN (JY hb y2);have Kp:=acM a;obtain ⟨S,tj⟩:∃S,S=ug a:=⟨_,rfl⟩;rw [←tj] at hd hS Kp;have vD:S.length≤1048576:=by omega
    have ha:a.length≤1048576:=by omega
    obtain ⟨us,hu⟩:=uj k0 true b k S jF hb (JM S);rw [hd];unfold ED;cases hc:eU b k jF S with
    |none=>
     rw [hc] at hu
     repeat' first|refine Zs ?_|((with_reducible refine Xk fun K k=>?_);simp [c1,ha,←tj,hS,vD,hu];refine k _ ?_;clear k K)|refine Xt rfl ?_|refine Xf rfl ?_|(refine We rfl ?_ ?_<;>(intro hc;(try simp at hc);(all_goals first|(exfalso;omega)|skip)))
     simp [xC]
    |some l'=>
     rw [hc] at hu
     repeat' first|refine Zs ?_|((with_reducible refine Xk fun K k=>?_);simp [c1,ha,←tj,hS,vD,hu];refine k _ ?_;clear k K)|refine Xt rfl ?_|refine Xf rfl ?_|(refine We rfl ?_ ?_<;>(intro hc;(try simp at hc);(all_goals first|(exfalso;omega)|skip)))
     simp [xC]
   |succ i=>
    have c1:(a.length:Int)<(m:Int):=by omega
    have hw:=Wi ((a.length:Int)+1);cases hv:gN b v with
    |none=>
     rw [FE (WZ hv)] at y2;have ck:=yz y2;unfold ED;refine Uw (J6 c1 hw h hb hv ck) ?_;simp [xC,ck]
    |some q=>
     obtain ⟨c,t1⟩:=q;have lB:=W0 (ty:=ty) hv;cases fO:fi b t1 ty with
     |none=>
      rw [fO] at lB;rw [FE lB] at y2;have ck:=yz y2;unfold ED;refine Uw (J7 c1 hw h hb hv fO ck) ?_;simp [xC,ck]
     |some q=>
      obtain ⟨⟨dT,dN,dS⟩,t⟩:=q;rw [fO] at lB;rw [W1 lB] at y2;unfold ED;refine Uw (J7 c1 hw h hb hv fO hq) ?_;exact ⟨(a++[⟨⟨dT,dN,dS⟩,c⟩],(i,t)),(by simp;try omega),⟨by simp;omega,y2⟩,by simp⟩
  ·have ck:iU b ty k=none:=by
    unfold iU;rw [hg];simp only;rw [if_neg q1]
   refine Uw (J4 h hb hg ck) ?_;repeat intro hc
   simp [xC,ck]
theorem JA {m:Int} {b:List Int} {ty k:Int} (hk:¬(1≤k∧k≤64)):oJ m b ty k=none:=by
 unfold oJ;split
 ·split
  ·split
   ·split
    ·split
     ·unfold eU;rw [if_neg (fun e=>hk e.1)]
     ·rfl
    ·rfl
   ·rfl
  ·rfl
 ·rfl
theorem aeE:ll b ty k=oJ 64 b ty k:=by
 by_cases hk:1≤k∧k≤64
 ·exact (aeF b ty k hk).symm
 ·unfold ll;rw [JA hk,JA hk]
theorem IF {b:List Int} {w k:Int} {p:List Int} (h:ix b w k=some p):(p.length:Int)=k:=by
 unfold ix at h;split at h
 ·rename_i hh;split at h
  ·simp at h;subst h;rw [adk];omega
  ·cases h
 ·cases h
theorem Wg {m:Int} {b:List Int} {ty k n u:Int} (hg:gN b 0=some (n,u)) (hn:1≤n∧n≤m):oJ m b ty k=match iD b ty n.toNat u with
 |some (d,t)=>(match ix (b.drop t.toNat) (gI (n-1)) k with
  |some p=>(match jj d p with
   |some l=>eU b k iC l
   |none=>none)
  |none=>none)
 |none=>none:=by
 unfold oJ;rw [hg];simp only;rw [if_pos hn];try rfl
theorem SH {d:List ab}:∀{l:List Int} {r:List ab},jj d l=some r→∀v∈r,v∈d
 |[],r,h,v,hv=>by simp [jj] at h;subst h;simp at hv
 |i::l,r,h,v,hv=>by
  simp only [jj] at h;split at h
  ·split at h
   ·rename_i x hx;split at h
    ·rename_i q hq;simp at h;subst h;rcases zj.1 hv with rfl|hv
     ·exact zk hx
     ·exact SH hq v hv
    ·cases h
   ·cases h
  ·cases h
theorem Wv (n:Nat):zx n (zG b.length (zg eb b))=zg eb (b.drop n):=by
 rw [zF (by simp),zI]
@[simp] theorem ac3 (h:b.length≤1048576) (hb:bI b):Gw TT 516 [.one (rl k0 1 (b.map eb)),vi ty,vi k]=some (mj (ll b ty k),[]):=by
 refine Ga tX Pw ?_;unfold Pw;by_cases q4:1≤k∧k≤64
 ·cases hg:gN b 0 with
  |none=>
   have hd:ll b ty k=none:=by unfold ll oJ;rw [hg]
   refine Ud (J4 h hb hg hd) ?_;simp [tX,hd]
  |some q=>
   obtain ⟨n,u⟩:=q;by_cases q1:1≤n∧n≤k
   ·obtain ⟨m,rfl⟩:=zf (show 0≤n by omega);have q2:(1:Int)≤(m:Int):=q1.1;have q3:(m:Int)≤k:=q1.2;obtain ⟨_,_,lD,nY,_⟩:=rR hb hg;have hdr:=Wg (m:=k) (ty:=ty) (k:=k) hg q1;change ll b ty k=_ at hdr;rw [show ((m:Int)).toNat=m by omega] at hdr;refine Ud (J7 h hb hg q2 q3 q4.1 q4.2) ?_;refine ba (σ:=List ab×(Nat×Int)) (fun s=>[(0,AV.v k0 (D.sl 1 (b.map eb)),none),(1,vn ty,none),(2,vn k,none),(8,AV.pl 8 0 [],some (Rt.aX [C.own (D.sl 3 [])])),(9,vn (m:Nat),none),(10,vn s.2.2,none),(12,AV.pl 12 0 [],some (Rt.aX [C.own (D.sl 3 (s.1.map ab.e))])),(13,vn (s.1.length:Nat),none)]) (fun s=>s.1.length+s.2.1=m∧iD b ty m u=kX s.1 (iD b ty s.2.1 s.2.2)) (fun s=>s.2.1) ([],(m,u)) (by simp) ⟨by simp,by rw [AX]⟩ ?_;rintro ⟨a,⟨i,v⟩⟩ ⟨y1,y2⟩;simp only at y1 y2;have hq:(a.length+1)*32≤70368744177664:=by omega
    cases i with
    |zero=>
     have c1:¬(a.length:Int)<(m:Int):=by omega
     simp only [iD,AY,zh] at y2;obtain ⟨mJ,dL⟩:=CZ hb (by omega) (by omega) y2;obtain ⟨_,_,pK,tM,_⟩:=CY hb (by omega) (by omega) y2;obtain ⟨tn,rfl⟩:=zf (show 0≤v by omega);rw [y2] at hdr;simp only [zo] at hdr;have s1:(0:Int)≤(tn:Int):=by omega
     have s2:(tn:Int)≤(b.length:Int):=by omega
     have s3:tn≤b.length:=by omega
     have s4:=Wv b tn;have s5:(b.drop tn).length≤1048576:=by simp;omega
     have s6:=sS tn hb;have s7:b.length-tn≤1048576:=by omega
     have s8:=Wi ((m:Int)-1);obtain ⟨B,hB⟩:∃B,B=b.drop tn:=⟨_,rfl⟩;rw [←hB] at hdr s4 s5 s6;have s9:zx tn (zg eb b)=zg eb B:=by rw [hB,zI]
     have da:a.length≤1048576:=by omega
     cases eB:ix B (gI ((m:Int)-1)) k with
     |none=>
      rw [eB] at hdr;simp only at hdr;unfold Cn;obtain ⟨rr,hr⟩:∃rr,jj a []=some rr:=⟨_,rfl⟩;have rW:rr=[]:=by simp [jj] at hr;first|exact hr|exact hr.symm
      subst rW;have vO:=amq true true a [] da (by simp);simp only [zu,hr,ajO] at vO;refine Ud (J8 c1 s1 s2 s3 s9 s5 s6 (J4 s8 eB vO hdr)) ?_;simp [tX,hdr]
     |some p=>
      have cJ:=IF eB;rw [eB] at hdr;simp only at hdr;have pU:p.length≤1048576:=by omega
      cases gA:jj a p with
      |none=>
       rw [gA] at hdr;simp only at hdr;unfold Cn;refine Ud (J8 c1 s1 s2 s3 s9 s5 s6 (J6 s8 eB da pU gA hdr)) ?_;simp [tX,hdr]
      |some l=>
       rw [gA] at hdr;simp only at hdr;have fc:=SG a gA;have fo:ab.aJ l:=fun x hx=>mJ x (SH gA x hx)
       have dy:l.length≤1048576:=by omega
       have KR:(l.length:Int)=k:=by omega
       have fx:=ui (Fy l) hb;unfold Cn;by_cases e3:iC l=b
       ·have e4:((strOf (iC l)).toList==(strOf b).toList)=true:=by rw [fx];simpa using e3
        have ck:ll b ty k=some l:=by rw [hdr];unfold eU;rw [if_pos ⟨q4,KR,e3.symm⟩]
        refine Ud (J8 c1 s1 s2 s3 s9 s5 s6 (J8 s8 eB da pU gA fo dy (J2 e4 ck))) ?_;simp [tX,ck]
       ·have e4:((strOf (iC l)).toList==(strOf b).toList)=false:=by rw [fx];simpa using e3
        have ck:ll b ty k=none:=by rw [hdr];unfold eU;rw [if_neg (fun e=>e3 e.2.2.symm)]
        refine Ud (J8 c1 s1 s2 s3 s9 s5 s6 (J8 s8 eB da pU gA fo dy (J2 e4 ck))) ?_;simp [tX,ck]
    |succ i=>
     have c1:(a.length:Int)<(m:Int):=by omega
     have hw:=Wi ((a.length:Int)+1);cases hv:fi b v ty with
     |none=>
      rw [JZ hv] at y2;rw [y2] at hdr;simp only at hdr;unfold Cn;refine Ud (J6 c1 hw h hb hv hdr) ?_;simp [tX,hdr]
     |some q=>
      obtain ⟨⟨dT,dN,dS⟩,t⟩:=q;rw [J0 hv] at y2;unfold Cn;refine Ud (J6 c1 hw h hb hv hq) ?_;exact ⟨(a++[⟨dT,dN,dS⟩],(i,t)),(by simp;try omega),⟨by simp;omega,y2⟩,by simp⟩
   ·have hd:ll b ty k=none:=by unfold ll oJ;rw [hg];simp only;rw [if_neg q1]
    refine Ud (J6 h hb hg q4.1 q4.2 hd) ?_;repeat intro hc
    simp [tX,hd]
 ·have hd:ll b ty k=none:=by unfold ll;exact JA q4
  cases hg:gN b 0 with
  |none=>
   refine Ud (J4 h hb hg hd) ?_;simp [tX,hd]
  |some q=>
   obtain ⟨n,u⟩:=q;refine Ud (J4 h hb hg hd) ?_;repeat intro hc
   simp [tX,hd]
@[simp] theorem ac8 (h:b.length≤1048576) (hb:bI b):Gw TT 524 [.one (rl k0 1 (b.map eb)),vi ty,vi k]=some (mj (ll b ty k),[]):=by
 refine Ga wu PH ?_;unfold PH;rw [aeE];cases hg:gN b 0 with
 |none=>
  have hd:oJ 64 b ty k=none:=by unfold oJ;rw [hg]
  refine Uw (J4 h hb hg hd) ?_;simp [wu,hd]
 |some q=>
  obtain ⟨n,u⟩:=q;by_cases q1:1≤n∧n≤64
  ·obtain ⟨m,rfl⟩:=zf (show 0≤n by omega);have q2:(1:Int)≤(m:Int):=q1.1;have q3:(m:Int)≤64:=q1.2;have q5:(0:Int)≤(m:Int):=by omega
   obtain ⟨_,_,lD,nY,_⟩:=rR hb hg;have hdr:=Wg (m:=64) (ty:=ty) (k:=k) hg q1;rw [show ((m:Int)).toNat=m by omega] at hdr;have ly:=ac' k0 b u ty (m:Int) h hb q5 q3;rw [show ((m:Int)).toNat=m by omega] at ly;cases hy:iD b ty m u with
   |none=>
    rw [hy] at ly hdr;simp only at hdr;refine Uw (J7 h hb hg q2 q3 ly hdr) ?_;simp [wu,hdr]
   |some w=>
    obtain ⟨a,v⟩:=w;have y2:=hy;rw [hy] at ly;have y1:=(CZ hb (by omega) (by omega) y2).2;obtain ⟨mJ,dL⟩:=CZ hb (by omega) (by omega) y2;obtain ⟨_,_,pK,tM,_⟩:=CY hb (by omega) (by omega) y2;obtain ⟨tn,rfl⟩:=zf (show 0≤v by omega);rw [y2] at hdr;simp only [zo] at hdr;have s1:(0:Int)≤(tn:Int):=by omega
    have s2:(tn:Int)≤(b.length:Int):=by omega
    have s3:tn≤b.length:=by omega
    have s4:=Wv b tn;have s5:(b.drop tn).length≤1048576:=by simp;omega
    have s6:=sS tn hb;have s7:b.length-tn≤1048576:=by omega
    have s8:=Wi ((m:Int)-1);obtain ⟨B,hB⟩:∃B,B=b.drop tn:=⟨_,rfl⟩;rw [←hB] at hdr s4 s5 s6;have s9:zx tn (zg eb b)=zg eb B:=by rw [hB,zI]
    have da:a.length≤1048576:=by omega
    cases eB:ix B (gI ((m:Int)-1)) k with
    |none=>
     rw [eB] at hdr;simp only at hdr;refine Uw (J8 h hb hg q2 q3 ly s1 (J8 s2 s3 s9 s5 s6 s8 eB hdr)) ?_;simp [wu,hdr]
    |some p=>
     have cJ:=IF eB;rw [eB] at hdr;simp only at hdr
     have agR:k≤64:=by
      have:=eB;unfold ix at this;split at this
      ·rename_i hh;exact hh.1.2.2
      ·cases this
     have pU:p.length≤1048576:=by omega
     cases gA:jj a p with
     |none=>
      rw [gA] at hdr;simp only at hdr;obtain ⟨us,hu⟩:=uj k0 true b k [] iC hb (Fy []);have he:=amt true [] (by simp) (fun v hv=>by simp at hv);have hn:iC []=[]:=rfl;rw [Jw] at hu;simp only [hn,zu] at hu he;refine Uw (J8 h hb hg q2 q3 ly s1 (J8 s2 s3 s9 s5 s6 s8 eB (J6 da pU gA he hu hdr))) ?_;simp [wu,hdr]
     |some l=>
      rw [gA] at hdr;simp only at hdr;have fc:=SG a gA;have fo:ab.aJ l:=fun x hx=>mJ x (SH gA x hx)
      have dy:l.length≤1048576:=by omega
      obtain ⟨us,hu⟩:=uj k0 true b k l iC hb (Fy l);rw [hdr];cases hc:eU b k iC l with
      |none=>
       rw [hc] at hu;refine Uw (J8 h hb hg q2 q3 ly s1 (J8 s2 s3 s9 s5 s6 s8 eB (J6 da pU gA fo dy hu))) ?_;simp [wu]
      |some l'=>
       rw [hc] at hu;refine Uw (J8 h hb hg q2 q3 ly s1 (J8 s2 s3 s9 s5 s6 s8 eB (J6 da pU gA fo dy hu))) ?_;simp [wu]
  ·have hd:oJ 64 b ty k=none:=by unfold oJ;rw [hg];simp only;rw [if_neg q1]
   refine Uw (J4 h hb hg hd) ?_;repeat intro hc
   simp [wu,hd]
@[simp] theorem asC (h:l.length≤1048576):Gw TT 589 [.one (rl k0 3 (l.map ab.e))]=some (vi (gj l),[]):=by
 refine Ga Hs QP ?_;unfold QP;rcases l with _|⟨⟨aT,aN,aS⟩,l0⟩
 ·have hb:gj []=0:=rfl;refine Ua hb ?_;simp [Hs,hb]
 ·obtain ⟨l,hl⟩:∃l,l=(⟨aT,aN,aS⟩:ab)::l0:=⟨_,rfl⟩;have hb:gj l=nM aN l:=by rw [hl];simp [gj,nM]
  rw [←hl];have e_:l[0]?=some ⟨aT,aN,aS⟩:=by rw [hl];try rfl
  obtain ⟨fJ,fI⟩:=za.1 e_;have hn:¬(l.length:Int)=0:=by omega
  have yH:l≠[]:=by rw [hl];simp
  have fL:l.isEmpty=false:=by rw [hl];try rfl
  have fR:((l.length:Int)==0)=false:=by simpa using yH
  refine Ua (J7 hn yH fL fR e_ fJ fI) ?_;refine ba (σ:=List ab×List ab×Int) (fun s=>[(3,vn s.2.2,none),(13,AV.v k0 (D.sl 3 (l.map ab.e)),none),(14,vn (l.length:Nat),none),(15,vn ((s.1.length:Nat):Int),none)]) (fun s=>l=s.1++s.2.1∧gj l=nM s.2.2 s.2.1) (fun s=>s.2.1.length) ([],l,aN) (by simp) ⟨rfl,hb⟩ ?_;rintro ⟨pre,rest,m⟩ ⟨y1,y2⟩;simp only at y1 y2;have y3:l.length=pre.length+rest.length:=by rw [y1,zb]
  rcases rest with _|⟨⟨dT,dN,dS⟩,rest⟩
  ·simp only [ze] at y3;simp only [nM] at y2;have c1:¬(pre.length:Int)<(l.length:Int):=by omega
   unfold Ug;refine Ua (J2 c1 y2) ?_;simp [Hs,y2]
  ·simp only [zd] at y3 h;simp only [nM] at y2;have hg:l[pre.length]?=some ⟨dT,dN,dS⟩:=by rw [y1];simp
   obtain ⟨ai,aB⟩:=za.1 hg;have c1:(pre.length:Int)<(l.length:Int):=by omega
   have fc:l.length≤1048576:=by rw [hl];simpa using h
   have hw:=Wi ((pre.length:Int)+1);unfold Ug;refine Ua (J5 hg aB ai c1 hw) ?_;exact ⟨(pre++[⟨dT,dN,dS⟩],rest,if dN<m then dN else m),(by simp;try omega),⟨by rw [y1];simp,y2⟩,by simp⟩
@[simp] theorem ast (h:l.length≤1048576):Gw TT 577 [.one (rl k0 3 (l.map ab.e))]=some (vi (gj l),[]):=by
 refine Ga Su QC ?_;unfold QC;refine Ua Oo ?_;refine ba (σ:=List ab×List ab×Int) (fun s=>[(0,AV.v k0 (D.sl 3 (l.map ab.e)),none),(3,vn s.2.2,none),(4,vn ((s.1.length:Nat):Int),none)]) (fun s=>l=s.1++s.2.1∧((s.1=[]∧s.2.2=0)∨(s.1≠[]∧gj l=nM s.2.2 s.2.1))) (fun s=>s.2.1.length) ([],l,0) (by simp) ⟨rfl,.inl ⟨rfl,rfl⟩⟩ ?_;rintro ⟨pre,rest,m⟩ ⟨y1,y2⟩;simp only at y1 y2;have y3:l.length=pre.length+rest.length:=by rw [y1,zb]
 rcases rest with _|⟨⟨dT,dN,dS⟩,rest⟩
 ·simp only [ze] at y3;have c1:¬(pre.length:Int)<(l.length:Int):=by omega
  have hb:gj l=m:=by
   rcases y2 with ⟨rfl,rfl⟩|⟨_,y2⟩
   ·simp at y1;subst y1;rfl
   ·simpa [nM] using y2
  unfold Ij;refine Ua (J2 c1 hb) ?_;simp [Su,hb]
 ·simp only [zd] at y3;have hg:l[pre.length]?=some ⟨dT,dN,dS⟩:=by rw [y1];simp
  obtain ⟨ai,aB⟩:=za.1 hg;have c1:(pre.length:Int)<(l.length:Int):=by omega
  have hw:=Wi ((pre.length:Int)+1);rcases y2 with ⟨rfl,rfl⟩|⟨yn,y2⟩
  ·have hb:gj l=nM dN rest:=by rw [y1];try rfl
   simp only [ze] at hg aB ai c1 hw;unfold Ij;refine Ua (J5 hg aB ai c1 hw) ?_;exact ⟨([⟨dT,dN,dS⟩],rest,dN),(by simp;try omega),⟨by rw [y1];simp,.inr ⟨by simp,hb⟩⟩,by simp⟩
  ·have cJ:0<pre.length:=Zb.2 yn;have c2:¬(pre.length:Int)=0:=by omega
   simp only [nM] at y2;unfold Ij;by_cases e:dN<m
   ·rw [if_pos e] at y2;refine Ua (J8 hg aB ai c1 hw c2 yn e) ?_;exact ⟨(pre++[⟨dT,dN,dS⟩],rest,dN),(by simp;try omega),⟨by rw [y1];simp,.inr ⟨by simp,y2⟩⟩,by simp⟩
   ·rw [if_neg e] at y2;refine Ua (J8 hg aB ai c1 hw c2 yn e) ?_;exact ⟨(pre++[⟨dT,dN,dS⟩],rest,m),(by simp;try omega),⟨by rw [y1];simp,.inr ⟨by simp,y2⟩⟩,by simp⟩
theorem Gg {l:List ab} (h:cM l=1):(-1000000000≤gj l∧gj l≤1000000000)∧∀v∈l,0≤v.N-gj l∧v.N-gj l≤2000000000:=by
 obtain ⟨h1,h2,h3⟩:=Cy h;obtain ⟨h4,v0,fM,h5⟩:=ad7 (l:=l) (by omega);have h6:=(h3 v0 fM).2.2;refine ⟨by omega,fun v hv=>?_⟩;have:=(h3 v hv).2.2;have:=h4 v hv;omega
@[simp] theorem asA (h:l.length≤1048576) (hs:ab.aJ l):Gw TT 587 [.one (rl k0 3 (l.map ab.e))]=some (.one (.own (.sl 1 ((if cM l=1 then ig l else []).map ei))),[]):=by
 refine Ga Hr QN ?_;unfold QN;by_cases q:cM l=1
 ·rw [if_pos q];obtain ⟨hb,hr⟩:=Gg q;have q2:=(Cy q).2.1;refine Uw (J3 h hs q) ?_;refine ba (σ:=List ab×List ab×List Int) (fun s=>[(0,AV.v k0 (D.sl 3 (l.map ab.e)),none),(3,AV.pl 3 0 [],some (Rt.aX [C.own (D.sl 1 ((s.2.2).map ei))])),(11,AV.v k0 (D.sl 3 (l.map ab.e)),none),(12,vn (l.length:Nat),none),(13,vn ((s.1.length:Nat):Int),none)]) (fun s=>l=s.1++s.2.1∧s.2.2++s.2.1.map (fun v=>v.N-gj l)=ig l∧s.2.2.length≤s.1.length) (fun s=>s.2.1.length) ([],l,[]) (by simp) ⟨rfl,rfl,by simp⟩ ?_;rintro ⟨pre,rest,a⟩ ⟨y1,y2,y4⟩;simp only at y1 y2 y4;have y3:l.length=pre.length+rest.length:=by rw [y1,zb]
  rcases rest with _|⟨⟨dT,dN,dS⟩,rest⟩
  ·simp only [ze] at y3;simp only [zu,zh] at y2;have c1:¬(pre.length:Int)<(l.length:Int):=by omega
   unfold Ue;refine Uw c1 ?_;simp [Hr,y2]
  ·simp only [zd] at y3;have hd:=hr ⟨dT,dN,dS⟩ (by rw [y1];simp);simp only at hd;have hg:l[pre.length]?=some ⟨dT,dN,dS⟩:=by rw [y1];simp
   obtain ⟨ai,aB⟩:=za.1 hg;have c1:(pre.length:Int)<(l.length:Int):=by omega
   have hw:=Wi ((pre.length:Int)+1);have eF:=Wi (dN-gj l);have hq:(a.length+1)*8≤70368744177664:=by omega
   unfold Ue;refine Uw (J8 hg aB ai c1 hw eF hq h) ?_;exact ⟨(pre++[⟨dT,dN,dS⟩],rest,a++[dN-gj l]),(by simp;try omega),⟨by rw [y1];simp,by rw [←y2];simp,by simp;omega⟩,by simp⟩
 ·rw [if_neg q];refine Uw (J3 h hs q) ?_;repeat intro hc
  simp [Hr]
@[simp] theorem asr (h:l.length≤1048576) (hs:ab.aJ l):Gw TT 575 [.one (rl k0 3 (l.map ab.e))]=some (.one (.own (.sl 1 ((if cM l=1 then ig l else []).map ei))),[]):=by
 refine Ga Hm QA ?_;unfold QA;by_cases q:cM l=1
 ·rw [if_pos q];obtain ⟨hb,hr⟩:=Gg q;have q2:=(Cy q).2.1;refine Uw (J3 h hs q) ?_;refine ba (σ:=List ab×List ab×List Int) (fun s=>[(0,AV.v k0 (D.sl 3 (l.map ab.e)),none),(3,AV.pl 3 0 [],some (Rt.aX [C.own (D.sl 1 ((s.2.2).map ei))])),(4,vn (gj l),none),(5,vn ((s.1.length:Nat):Int),none)]) (fun s=>l=s.1++s.2.1∧s.2.2++s.2.1.map (fun v=>v.N-gj l)=ig l∧s.2.2.length≤s.1.length) (fun s=>s.2.1.length) ([],l,[]) (by simp) ⟨rfl,rfl,by simp⟩ ?_;rintro ⟨pre,rest,a⟩ ⟨y1,y2,y4⟩;simp only at y1 y2 y4;have y3:l.length=pre.length+rest.length:=by rw [y1,zb]
  rcases rest with _|⟨⟨dT,dN,dS⟩,rest⟩
  ·simp only [ze] at y3;simp only [zu,zh] at y2;have c1:¬(pre.length:Int)<(l.length:Int):=by omega
   unfold T7;refine Uw c1 ?_;simp [Hm,y2]
  ·simp only [zd] at y3;have hd:=hr ⟨dT,dN,dS⟩ (by rw [y1];simp);simp only at hd;have hg:l[pre.length]?=some ⟨dT,dN,dS⟩:=by rw [y1];simp
   obtain ⟨ai,aB⟩:=za.1 hg;have c1:(pre.length:Int)<(l.length:Int):=by omega
   have hw:=Wi ((pre.length:Int)+1);have eF:=Wi (dN-gj l);have hq:(a.length+1)*8≤70368744177664:=by omega
   unfold T7;refine Uw (J8 hg aB ai c1 hw eF hq h) ?_;exact ⟨(pre++[⟨dT,dN,dS⟩],rest,a++[dN-gj l]),(by simp;try omega),⟨by rw [y1];simp,by rw [←y2];simp,by simp;omega⟩,by simp⟩
 ·rw [if_neg q];refine Uw (J3 h hs q) ?_;repeat intro hc
  simp [Hm]
@[simp] theorem amu (h:l.length≤1048576) (hs:ab.aJ l):Gw TT 559 [.one (rl k0 3 (l.map ab.e))]=some (.one (.own (.sl 1 ((jW l).map eb))),[]):=by
 refine Ga He Qf ?_;unfold Qf;by_cases q:cM l=1
 ·obtain ⟨hb,hr⟩:=Gg q;have q2:=(Cy q).2.1;have tC:(ig l).length=l.length:=by simp [ig]
  have Dl:(ig l).length≤1048576:=by omega
  have he:jW l=cI (gj l)++j9 0 (ig l)::ji (ig l) (j9 0 (ig l)):=by simp [jW,q]
  have Mn:=Vb (ig l);obtain ⟨w,hw⟩:∃w,w=j9 0 (ig l):=⟨_,rfl⟩;have cJ:=B5 (ig l) w;obtain ⟨p,hp⟩:∃p,p=ji (ig l) w:=⟨_,rfl⟩;rw [←hw] at he Mn;rw [←hp] at he cJ;have hu:IntKind.wrap .u8 w=w:=wrap_u8 (by omega) (by omega);have hn:=ma (gj l);have r1:((cI (gj l)).length+1)*1≤70368744177664:=by omega
  have r2:(cI (gj l)).length+1≤70368744177664:=by omega
  have r3:(cI (gj l)).length+1+p.length≤70368744177664:=by omega
  repeat' first|refine Zs ?_|((with_reducible refine Xk fun K k=>?_);simp [h,hs,q,Dl,←hw,←hp,hu,r1,r2,r3];refine k _ ?_;clear k K)|refine Xt rfl ?_|refine Xf rfl ?_|(refine We rfl ?_ ?_<;>(intro hc;(try simp at hc);(all_goals first|(exfalso;omega)|skip)))
  simp [He,he]
 ·have he:jW l=[]:=by simp [jW,q]
  refine Uw (J4 h hs q he) ?_;repeat intro hc
  simp [He,he]
@[simp] theorem ar_ (h:l.length≤1048576) (hs:ab.aJ l):Gw TT 546 [.one (rl k0 3 (l.map ab.e))]=some (.one (.own (.sl 1 ((jW l).map eb))),[]):=by
 refine Ga G8 P1 ?_;unfold P1;by_cases q:cM l=1
 ·obtain ⟨hb,hr⟩:=Gg q;have q2:=(Cy q).2.1;have tC:(ig l).length=l.length:=by simp [ig]
  have Dl:(ig l).length≤1048576:=by omega
  have he:jW l=cI (gj l)++j9 0 (ig l)::ji (ig l) (j9 0 (ig l)):=by simp [jW,q]
  have Mn:=Vb (ig l);obtain ⟨w,hw⟩:∃w,w=j9 0 (ig l):=⟨_,rfl⟩;have cJ:=B5 (ig l) w;obtain ⟨p,hp⟩:∃p,p=ji (ig l) w:=⟨_,rfl⟩;rw [←hw] at he Mn;rw [←hp] at he cJ;have hu:IntKind.wrap .u8 w=w:=wrap_u8 (by omega) (by omega);have hn:=ma (gj l);have r1:((cI (gj l)).length+1)*1≤70368744177664:=by omega
  have r2:(cI (gj l)).length+1≤70368744177664:=by omega
  have r3:(cI (gj l)).length+1+p.length≤70368744177664:=by omega
  repeat' first|refine Zs ?_|((with_reducible refine Xk fun K k=>?_);simp [h,hs,q,Dl,←hw,←hp,hu,r1,r2,r3];refine k _ ?_;clear k K)|refine Xt rfl ?_|refine Xf rfl ?_|(refine We rfl ?_ ?_<;>(intro hc;(try simp at hc);(all_goals first|(exfalso;omega)|skip)))
  simp [G8,he]
 ·have he:jW l=[]:=by simp [jW,q]
  refine Uw (J4 h hs q he) ?_;repeat intro hc
  simp [G8,he]
theorem Is {base x:Int} {l:List Int} {a:List ab} (h:¬((0≤x∧x≤2000000000)∧base+x≤1000000000)):lJ a (kZ base (x::l))=none:=by
 simp only [kZ];rw [if_neg h];try rfl
theorem aci {base x:Int} {l:List Int} {a:List ab} (h:(0≤x∧x≤2000000000)∧base+x≤1000000000):lJ a (kZ base (x::l))=lJ (a++[⟨1,base+x,⟨#[]⟩⟩]) (kZ base l):=by
 simp only [kZ];rw [if_pos h];cases kZ base l with
 |none=>rfl
 |some p=>simp [lJ]
theorem ach {base:Int}:∀{l:List Int} {r:List ab},kZ base l=some r→ab.aJ r
 |[],r,h,v,hv=>by simp [kZ] at h;subst h;simp at hv
 |x::l,r,h,v,hv=>by
  simp only [kZ] at h;split at h
  ·split at h
   ·rename_i q hq;simp at h;subst h;rcases zj.1 hv with rfl|hv
    ·simp only [ab.sm];decide
    ·exact ach hq v hv
   ·cases h
  ·cases h
@[simp] theorem ash (base:Int) (l:List Int) (h2:l.length≤1048576):Gw TT 558 [vi base,.one (rl k1 1 (l.map ei))]=some (mj (pa base l),[]):=by
 refine Ga xF Qe ?_;unfold Qe;cases hb:jK base with
 |false=>
  have hr:pa base l=none:=by unfold pa;rw [hb];try rfl
  rcases l with _|⟨x,l⟩
  ·repeat' (first
    |with_reducible (first|refine wp_seq ?_|refine uq ?_|refine wp_skip ?_|refine wp_exit ?_|refine wp_ret ?_|refine ud ?_|refine ue ?_|refine uc ?_|refine sP ?_|refine sQ ?_|refine sO ?_|refine tQ ?_|refine tP ?_|refine tR ?_|refine tg ?_|refine tf ?_|refine tc ?_|refine ta ?_|refine te ?_|refine td ?_)
    |(with_reducible refine wp_loop (c:=AU) ?_
      conv=>arg 2;unfold AU)
    |(with_reducible refine ur fun K hK=>?_
      simp[hb,hr]
      repeat' (with_reducible first|refine hK _ ?_|(refine fq ?_ ?_<;>(intro hc;(try rw [zC] at hc);first|(exfalso;omega)|(try simp [hc,hb,hr]))))
      all_goals (clear hK;clear K))
    |(with_reducible refine u' ?_
      refine ⟨_,rfl,?_,?_⟩<;>(intro hc;(try simp at hc);(all_goals first|(exfalso;omega)|skip))))
   simp [xF,hr]
  ·repeat' (first
    |with_reducible (first|refine wp_seq ?_|refine uq ?_|refine wp_skip ?_|refine wp_exit ?_|refine wp_ret ?_|refine ud ?_|refine ue ?_|refine uc ?_|refine sP ?_|refine sQ ?_|refine sO ?_|refine tQ ?_|refine tP ?_|refine tR ?_|refine tg ?_|refine tf ?_|refine tc ?_|refine ta ?_|refine te ?_|refine td ?_)
    |(with_reducible refine wp_loop (c:=AU) ?_
      conv=>arg 2;unfold AU)
    |(with_reducible refine ur fun K hK=>?_
      simp[hb,hr]
      repeat' (with_reducible first|refine hK _ ?_|(refine fq ?_ ?_<;>(intro hc;(try rw [zC] at hc);first|(exfalso;omega)|(try simp [hc,hb,hr]))))
      all_goals (clear hK;clear K))
    |(with_reducible refine u' ?_
      refine ⟨_,rfl,?_,?_⟩<;>(intro hc;(try simp at hc);(all_goals first|(exfalso;omega)|skip))))
   simp [xF,hr]
 |true=>
  have lv:=hb;simp only [jK,zn,decide_eq_true_eq] at lv;have hr:pa base l=kZ base l:=by unfold pa;rw [hb];try rfl
  rw [hr];refine Ua hb ?_;refine ba (σ:=List Int×List Int×List ab) (fun s=>[(0,vn base,none),(6,AV.pl 6 0 [],some (Rt.aX [C.own (D.sl 3 ((s.2.2).map ab.e))])),(13,AV.v k1 (D.sl 1 (l.map ei)),none),(14,vn (l.length:Nat),none),(15,vn ((s.1.length:Nat):Int),none)]) (fun s=>l=s.1++s.2.1∧kZ base l=lJ s.2.2 (kZ base s.2.1)∧s.2.2.length≤s.1.length) (fun s=>s.2.1.length) ([],l,[]) (by simp) ⟨rfl,by rw [Cp],by simp⟩ ?_;rintro ⟨pre,rest,a⟩ ⟨y1,y2,y4⟩;simp only at y1 y2 y4;have y3:l.length=pre.length+rest.length:=by rw [y1,zb]
  rcases rest with _|⟨x,rest⟩
  ·simp only [ze] at y3;simp only [kZ,Cq,zh] at y2;have c1:¬(pre.length:Int)<(l.length:Int):=by omega
   unfold AU;refine Ua (J3 c1 y2 hb) ?_;simp [xF,y2]
  ·simp only [zd] at y3;have hg:l[pre.length]?=some x:=by rw [y1];simp
   obtain ⟨ai,aB⟩:=za.1 hg;have c1:(pre.length:Int)<(l.length:Int):=by omega
   have hw:IntKind.wrap .i64 ((pre.length:Int)+1)=(pre.length:Int)+1:=wrap_i64 (by omega) (by omega);have hq:(a.length+1)*32≤70368744177664:=by omega
   unfold AU;by_cases q1:0≤x∧x≤2000000000
   ·have eF:IntKind.wrap .i64 (base+x)=base+x:=wrap_i64 (by omega) (by omega);by_cases q2:base+x≤1000000000
    ·have q3:¬1000000000<base+x:=by omega
     rw [aci ⟨q1,q2⟩] at y2;refine Ua (J8 hg aB ai c1 hw eF hq (J4 q1.1 q1.2 q3 hb)) ?_;exact ⟨(pre++[x],rest,a++[⟨1,base+x,⟨#[]⟩⟩]),(by simp;try omega),⟨by rw [y1];simp,y2,by simp;omega⟩,by simp⟩
    ·have q3:1000000000<base+x:=by omega
     rw [Is (fun e=>q2 e.2)] at y2;refine Ua (J8 hg aB ai c1 hw eF q1.1 (J4 q1.2 q3 y2 hb)) ?_;simp [xF,y2]
   ·rw [Is (fun e=>q1 e.1)] at y2;by_cases q2:0≤x
    ·have q3:¬x≤2000000000:=by omega
     refine Ua (J8 hg aB ai c1 hw q2 q3 (J2 y2 hb)) ?_;simp [xF,y2]
    ·refine Ua (J8 hg aB ai c1 hw q2 y2 hb) ?_;simp [xF,y2]
@[simp] theorem amr (base:Int) (l:List Int) (h2:l.length≤1048576):Gw TT 545 [vi base,.one (rl k1 1 (l.map ei))]=some (mj (pa base l),[]):=by
 refine Ga xE P0 ?_;unfold P0;cases hb:jK base with
 |false=>
  have hr:pa base l=none:=by unfold pa;rw [hb];try rfl
  rcases l with _|⟨x,l⟩
  ·repeat' (first
    |with_reducible (first|refine wp_seq ?_|refine uq ?_|refine wp_skip ?_|refine wp_exit ?_|refine wp_ret ?_|refine ud ?_|refine ue ?_|refine uc ?_|refine sP ?_|refine sQ ?_|refine sO ?_|refine tQ ?_|refine tP ?_|refine tR ?_|refine tg ?_|refine tf ?_|refine tc ?_|refine ta ?_|refine te ?_|refine td ?_)
    |(with_reducible refine wp_loop (c:=AS) ?_
      conv=>arg 2;unfold AS)
    |(with_reducible refine ur fun K hK=>?_
      simp[hb,hr]
      repeat' (with_reducible first|refine hK _ ?_|(refine fq ?_ ?_<;>(intro hc;(try rw [zC] at hc);first|(exfalso;omega)|(try simp [hc,hb,hr]))))
      all_goals (clear hK;clear K))
    |(with_reducible refine u' ?_
      refine ⟨_,rfl,?_,?_⟩<;>(intro hc;(try simp at hc);(all_goals first|(exfalso;omega)|skip))))
   simp [xE,hr]
  ·repeat' (first
    |with_reducible (first|refine wp_seq ?_|refine uq ?_|refine wp_skip ?_|refine wp_exit ?_|refine wp_ret ?_|refine ud ?_|refine ue ?_|refine uc ?_|refine sP ?_|refine sQ ?_|refine sO ?_|refine tQ ?_|refine tP ?_|refine tR ?_|refine tg ?_|refine tf ?_|refine tc ?_|refine ta ?_|refine te ?_|refine td ?_)
    |(with_reducible refine wp_loop (c:=AS) ?_
      conv=>arg 2;unfold AS)
    |(with_reducible refine ur fun K hK=>?_
      simp[hb,hr]
      repeat' (with_reducible first|refine hK _ ?_|(refine fq ?_ ?_<;>(intro hc;(try rw [zC] at hc);first|(exfalso;omega)|(try simp [hc,hb,hr]))))
      all_goals (clear hK;clear K))
    |(with_reducible refine u' ?_
      refine ⟨_,rfl,?_,?_⟩<;>(intro hc;(try simp at hc);(all_goals first|(exfalso;omega)|skip))))
   simp [xE,hr]
 |true=>
  have lv:=hb;simp only [jK,zn,decide_eq_true_eq] at lv;have hr:pa base l=kZ base l:=by unfold pa;rw [hb];try rfl
  rw [hr];refine Ua hb ?_;refine ba (σ:=List Int×List Int×List ab) (fun s=>[(0,vn base,none),(1,AV.v k1 (D.sl 1 (l.map ei)),none),(6,AV.pl 6 0 [],some (Rt.aX [C.own (D.sl 3 ((s.2.2).map ab.e))])),(7,vn ((s.1.length:Nat):Int),none)]) (fun s=>l=s.1++s.2.1∧kZ base l=lJ s.2.2 (kZ base s.2.1)∧s.2.2.length≤s.1.length) (fun s=>s.2.1.length) ([],l,[]) (by simp) ⟨rfl,by rw [Cp],by simp⟩ ?_;rintro ⟨pre,rest,a⟩ ⟨y1,y2,y4⟩;simp only at y1 y2 y4;have y3:l.length=pre.length+rest.length:=by rw [y1,zb]
  rcases rest with _|⟨x,rest⟩
  ·simp only [ze] at y3;simp only [kZ,Cq,zh] at y2;have c1:¬(pre.length:Int)<(l.length:Int):=by omega
   unfold AS;refine Ua (J3 c1 y2 hb) ?_;simp [xE,y2]
  ·simp only [zd] at y3;have hg:l[pre.length]?=some x:=by rw [y1];simp
   obtain ⟨ai,aB⟩:=za.1 hg;have c1:(pre.length:Int)<(l.length:Int):=by omega
   have hw:IntKind.wrap .i64 ((pre.length:Int)+1)=(pre.length:Int)+1:=wrap_i64 (by omega) (by omega);have hq:(a.length+1)*32≤70368744177664:=by omega
   unfold AS;by_cases q1:0≤x∧x≤2000000000
   ·have eF:IntKind.wrap .i64 (base+x)=base+x:=wrap_i64 (by omega) (by omega);by_cases q2:base+x≤1000000000
    ·have q3:¬1000000000<base+x:=by omega
     rw [aci ⟨q1,q2⟩] at y2;refine Ua (J8 hg aB ai c1 hw eF hq (J4 q1.1 q1.2 q3 hb)) ?_;exact ⟨(pre++[x],rest,a++[⟨1,base+x,⟨#[]⟩⟩]),(by simp;try omega),⟨by rw [y1];simp,y2,by simp;omega⟩,by simp⟩
    ·have q3:1000000000<base+x:=by omega
     rw [Is (fun e=>q2 e.2)] at y2;refine Ua (J8 hg aB ai c1 hw eF q1.1 (J4 q1.2 q3 y2 hb)) ?_;simp [xE,y2]
   ·rw [Is (fun e=>q1 e.1)] at y2;by_cases q2:0≤x
    ·have q3:¬x≤2000000000:=by omega
     refine Ua (J8 hg aB ai c1 hw q2 q3 (J2 y2 hb)) ?_;simp [xE,y2]
    ·refine Ua (J8 hg aB ai c1 hw q2 y2 hb) ?_;simp [xE,y2]
theorem aeI {b:List Int} {k:Int} (hk:¬(1≤k∧k≤64)):kR b k=none:=by
 unfold kR;split
 ·split
  ·split
   ·split
    ·unfold eU;rw [if_neg (fun e=>hk e.1)]
    ·rfl
   ·rfl
  ·rfl
 ·rfl
theorem Wh {b:List Int} {k n u w:Int} (hg:gN b 0=some (n,u)) (hw:b[u.toNat]?=some w):kR b k=match ix (b.drop (u+1).toNat) w k with
 |some p=>(match pa n p with
  |some l=>eU b k jW l
  |none=>none)
 |none=>none:=by
 unfold kR;rw [hg];simp only;rw [hw];try rfl
theorem acf {n:Int} {p:List Int} {l:List ab} (h:pa n p=some l):l.length=p.length∧ab.aJ l:=by
 unfold pa at h;split at h
 ·exact ⟨acg n h,ach h⟩
 ·cases h
@[simp] theorem ac9 (h:b.length≤1048576) (hb:bI b):Gw TT 525 [.one (rl k0 1 (b.map eb)),vi k]=some (mj (kR b k),[]):=by
 refine Ga xD PI ?_;unfold PI;cases hg:gN b 0 with
 |none=>
  have hd:kR b k=none:=by unfold kR;rw [hg]
  refine Ua (J4 h hb hg hd) ?_;simp [xD,hd]
 |some q=>
  obtain ⟨n,u⟩:=q;obtain ⟨_,_,lD,nY,_⟩:=rR hb hg;obtain ⟨un,rfl⟩:=zf (show 0≤u by omega);by_cases gg:(un:Int)<(b.length:Int)
  ·skip;have g1:un<b.length:=by omega
   have g2:¬(b.length:Int)≤(un:Int):=by omega
   have g3:(un:Int)<(b.length:Int):=by omega
   obtain ⟨w,hw⟩:∃w,b[un]?=some w:=⟨_,zi g1⟩;have uR:=(za.1 hw).2;have lF:=hb w (zk hw);have jJ:IntKind.wrap .i64 w=w:=wrap_i64 (by omega) (by omega);have s0:IntKind.wrap .i64 ((un:Int)+1)=(un:Int)+1:=wrap_i64 (by omega) (by omega);have s1:(0:Int)≤(un:Int)+1:=by omega
   have s2:(un:Int)+1≤(b.length:Int):=by omega
   have s3:un+1≤b.length:=by omega
   have s4:((un:Int)+1).toNat=un+1:=by omega
   have hdr:=Wh (k:=k) hg (by simpa using hw);rw [s4] at hdr;have s5:(b.drop (un+1)).length≤1048576:=by simp;omega
   have s6:=sS (un+1) hb;obtain ⟨B,hB⟩:∃B,B=b.drop (un+1):=⟨_,rfl⟩;rw [←hB] at hdr s5 s6;have s9:zx (un+1) (zg eb b)=zg eb B:=by rw [hB,zI]
   cases eB:ix B w k with
   |none=>
    rw [eB] at hdr;simp only at hdr;refine Ua (J8 h hb hg g1 g2 g3 hw (J8 uR jJ s0 s1 s2 s3 s4 (J5 s5 s6 s9 eB hdr))) ?_;simp [xD,hdr]
   |some p=>
    have cJ:=IF eB;rw [eB] at hdr;simp only at hdr
    have agR:k≤64:=by
     have:=eB;unfold ix at this;split at this
     ·rename_i hh;exact hh.1.2.2
     ·cases this
    have pU:p.length≤1048576:=by omega
    cases gA:pa n p with
    |none=>
     rw [gA] at hdr;simp only at hdr;obtain ⟨us,hu⟩:=uj k0 true b k [] jW hb (Fz []);have he:=amu true [] (by simp) (fun v hv=>by simp at hv);have hn:jW []=[]:=rfl;rw [Jw] at hu;simp only [hn,zu] at hu he;refine Ua (J8 h hb hg g1 g2 g3 hw (J8 uR jJ s0 s1 s2 s3 s4 (J8 s5 s6 s9 eB pU gA he (J2 hu hdr)))) ?_;simp [xD,hdr]
    |some l=>
     rw [gA] at hdr;simp only at hdr;obtain ⟨fc,fo⟩:=acf gA;have dy:l.length≤1048576:=by omega
     obtain ⟨us,hu⟩:=uj k0 true b k l jW hb (Fz l);rw [hdr];cases hc:eU b k jW l with
     |none=>
      rw [hc] at hu;refine Ua (J8 h hb hg g1 g2 g3 hw (J8 uR jJ s0 s1 s2 s3 s4 (J8 s5 s6 s9 eB pU gA fo (J2 dy hu)))) ?_;simp [xD]
     |some l'=>
      rw [hc] at hu;refine Ua (J8 h hb hg g1 g2 g3 hw (J8 uR jJ s0 s1 s2 s3 s4 (J8 s5 s6 s9 eB pU gA fo (J2 dy hu)))) ?_;simp [xD]
  ·have hd:kR b k=none:=by
    unfold kR;rw [hg];simp only;rw [zy (by omega)]
   have g2:(b.length:Int)≤(un:Int):=by omega
   refine Ua (J5 h hb hg g2 hd) ?_;simp [xD,hd]
@[simp] theorem ac4 (h:b.length≤1048576) (hb:bI b):Gw TT 517 [.one (rl k0 1 (b.map eb)),vi k]=some (mj (kR b k),[]):=by
 refine Ga uV Px ?_;unfold Px;cases hg:gN b 0 with
 |none=>
  have hd:kR b k=none:=by unfold kR;rw [hg]
  refine Uw (J4 h hb hg hd) ?_;simp [uV,hd]
 |some q=>
  obtain ⟨n,u⟩:=q;obtain ⟨_,_,lD,nY,_⟩:=rR hb hg;obtain ⟨un,rfl⟩:=zf (show 0≤u by omega);by_cases gg:(un:Int)<(b.length:Int)
  ·by_cases q4:1≤k∧k≤64
   ·skip;have g1:un<b.length:=by omega
    have g2:¬(b.length:Int)≤(un:Int):=by omega
    have g3:(un:Int)<(b.length:Int):=by omega
    obtain ⟨w,hw⟩:∃w,b[un]?=some w:=⟨_,zi g1⟩;have uR:=(za.1 hw).2;have lF:=hb w (zk hw);have jJ:IntKind.wrap .i64 w=w:=wrap_i64 (by omega) (by omega);have s0:IntKind.wrap .i64 ((un:Int)+1)=(un:Int)+1:=wrap_i64 (by omega) (by omega);have s1:(0:Int)≤(un:Int)+1:=by omega
    have s2:(un:Int)+1≤(b.length:Int):=by omega
    have s3:un+1≤b.length:=by omega
    have s4:((un:Int)+1).toNat=un+1:=by omega
    have hdr:=Wh (k:=k) hg (by simpa using hw);rw [s4] at hdr;have s5:(b.drop (un+1)).length≤1048576:=by simp;omega
    have s6:=sS (un+1) hb;obtain ⟨B,hB⟩:∃B,B=b.drop (un+1):=⟨_,rfl⟩;rw [←hB] at hdr s5 s6;have s9:zx (un+1) (zg eb b)=zg eb B:=by rw [hB,zI]
    cases eB:ix B w k with
    |none=>
     rw [eB] at hdr;simp only at hdr
     have hrn:∃r,Gw TT 545 [vi n,.one (rl true 1 [])]=some (mj r,[]):=by
      have:=amr true n [] (by simp);exact ⟨_,by simpa using this⟩
     obtain ⟨r,hrr⟩:=hrn;cases r with
     |none=>
      refine Uw (J8 h hb hg g1 g2 g3 hw (J8 uR jJ s0 s1 s2 s3 s4 (J8 s5 s6 s9 q4.1 q4.2 eB hrr hdr))) ?_;simp [uV,hdr]
     |some r=>
      refine Uw (J8 h hb hg g1 g2 g3 hw (J8 uR jJ s0 s1 s2 s3 s4 (J8 s5 s6 s9 q4.1 q4.2 eB hrr hdr))) ?_;simp [uV,hdr]
    |some p=>
     have cJ:=IF eB;rw [eB] at hdr;simp only at hdr;have pU:p.length≤1048576:=by omega
     cases gA:pa n p with
     |none=>
      rw [gA] at hdr;simp only at hdr;refine Uw (J8 h hb hg g1 g2 g3 hw (J8 uR jJ s0 s1 s2 s3 s4 (J8 s5 s6 s9 q4.1 q4.2 eB pU (J2 gA hdr)))) ?_;simp [uV,hdr]
     |some l=>
      rw [gA] at hdr;simp only at hdr;obtain ⟨fc,fo⟩:=acf gA;have dy:l.length≤1048576:=by omega
      have KR:(l.length:Int)=k:=by omega
      have fx:=ui (Fz l) hb;by_cases e3:jW l=b
      ·have e4:((strOf (jW l)).toList==(strOf b).toList)=true:=by rw [fx];simpa using e3
       have ck:kR b k=some l:=by rw [hdr];unfold eU;rw [if_pos ⟨q4,KR,e3.symm⟩]
       refine Uw (J8 h hb hg g1 g2 g3 hw (J8 uR jJ s0 s1 s2 s3 s4 (J8 s5 s6 s9 q4.1 q4.2 eB pU (J5 gA fo dy e4 ck)))) ?_;simp [uV,ck]
      ·have e4:((strOf (jW l)).toList==(strOf b).toList)=false:=by rw [fx];simpa using e3
       have ck:kR b k=none:=by rw [hdr];unfold eU;rw [if_neg (fun e=>e3 e.2.2.symm)]
       refine Uw (J8 h hb hg g1 g2 g3 hw (J8 uR jJ s0 s1 s2 s3 s4 (J8 s5 s6 s9 q4.1 q4.2 eB pU (J5 gA fo dy e4 ck)))) ?_;simp [uV,ck]
   ·have hd:=aeI (b:=b) q4;have g2:¬(b.length:Int)≤(un:Int):=by omega
    refine Uw (J5 h hb hg g2 hd) ?_;repeat intro hc
    simp [uV,hd]
  ·have hd:kR b k=none:=by
    unfold kR;rw [hg];simp only;rw [zy (by omega)]
   have g2:(b.length:Int)≤(un:Int):=by omega
   refine Uw (J5 h hb hg g2 hd) ?_;simp [uV,hd]
@[simp] theorem asj (h:l.length≤1048576) (hs:ab.aJ l):Gw TT 561 [vi kd,.one (rl k1 3 (l.map ab.e))]=some (.one (.own (.sl 1 ((kD kd l).map eb))),[]):=by
 refine Ga AO Qh ?_;unfold Qh;by_cases q0:kd=0
 ·subst q0;refine Uw (J2 h hs) ?_;simp [AO,kD]
 ·by_cases q1:kd=1
  ·subst q1;refine Uw (J2 h hs) ?_;simp [AO,kD]
  ·by_cases q2:kd=2
   ·subst q2;refine Uw (J2 h hs) ?_;simp [AO,kD]
   ·by_cases q3:kd=3
    ·subst q3;refine Uw (J2 h hs) ?_;simp [AO,kD]
    ·refine Uw (J4 q0 q1 q2 q3) ?_;repeat intro hc
     simp [AO,kD,q0,q1,q2,q3]
@[simp] theorem asa (h:l.length≤1048576) (hs:ab.aJ l):Gw TT 548 [vi kd,.one (rl k1 3 (l.map ab.e))]=some (.one (.own (.sl 1 ((kD kd l).map eb))),[]):=by
 refine Ga AM P3 ?_;unfold P3;by_cases q0:kd=0
 ·subst q0;refine Uw (J2 h hs) ?_;simp [AM,kD]
 ·by_cases q1:kd=1
  ·subst q1;refine Uw (J2 h hs) ?_;simp [AM,kD]
  ·by_cases q2:kd=2
   ·subst q2;refine Uw (J2 h hs) ?_;simp [AM,kD]
   ·by_cases q3:kd=3
    ·subst q3;refine Uw (J2 h hs) ?_;simp [AM,kD]
    ·refine Uw (J4 q0 q1 q2 q3) ?_;repeat intro hc
     simp [AM,kD,q0,q1,q2,q3]
def bK (l:List ab):Nat→Int
 |0=>0
 |n+1=>if ((n:Int)+1≠3∨cM l=1)∧dD ((n:Int)+1) l<dD (bK l n) l then (n:Int)+1 else bK l n
theorem VN {l:List ab} (h:cM l≠0):iB l=bK l 3:=by
 have e1:bK l 1=if dD 1 l<dD 0 l then 1 else 0:=by simp [bK]
 have e2:bK l 2=if dD 2 l<dD (bK l 1) l then 2 else bK l 1:=by
  show (if (((1:Nat):Int)+1≠3∨cM l=1)∧dD (((1:Nat):Int)+1) l<dD (bK l 1) l then ((1:Nat):Int)+1 else bK l 1)=_;simp
 have e3:bK l 3=if cM l=1∧dD 3 l<dD (bK l 2) l then 3 else bK l 2:=by simp [bK]
 unfold iB;simp only [if_neg h];rw [e3,e2,e1]
@[simp] theorem asi (h:l.length≤1048576) (hs:ab.aJ l):Gw TT 560 [.one (rl k0 3 (l.map ab.e))]=some (vi (iB l),[]):=by
 refine Ga Hf Qg ?_;unfold Qg;by_cases q:cM l=0
 ·have hb:iB l=-1:=by unfold iB;simp [q]
  refine Uw (J4 h hs q hb) ?_;simp [Hf,hb]
 ·have hb:=VN q;have fN:=(qI q).2.2.2;refine Uw (J3 h hs q) ?_;repeat intro hc
  refine ba (σ:=Nat) (fun s=>[(0,AV.v k0 (D.sl 3 (l.map ab.e)),none),(3,vn (cM l),none),(4,vn (bK l s),none),(5,vn ((s:Int)+1),none)]) (fun s=>s≤3) (fun s=>3-s) 0 (by simp [bK]) (by omega) ?_;intro s hs3;have hw:=Wi ((s:Int)+1+1);by_cases e:s=3
  ·subst e;unfold AW;refine Uw hb ?_;simp [Hf,hb]
  ·have c1:(s:Int)+1≤3:=by omega
   have gK:bK l (s+1)=if ((s:Int)+1≠3∨cM l=1)∧dD ((s:Int)+1) l<dD (bK l s) l then (s:Int)+1 else bK l s:=rfl
   by_cases e2:s=2
   ·subst e2;simp only [show ((2:Nat):Int)+1=3 by rfl,ne_eq,not_true_eq_false,false_or] at gK;by_cases t1:cM l=1
    ·by_cases lt:dD 3 l<dD (bK l 2) l
     ·rw [if_pos ⟨t1,lt⟩] at gK;simp only [dD] at lt;unfold AW;refine Uw (J5 h hs @t1 lt @dD.eq_1) ?_;exact ⟨3,(by simp [gK,t1,dD];try omega),by omega,by simp⟩
     ·rw [if_neg (fun e=>lt e.2)] at gK;simp only [dD] at lt;unfold AW;refine Uw (J5 h hs @t1 lt @dD.eq_1) ?_;exact ⟨3,(by simp [gK,t1,dD];try omega),by omega,by simp⟩
    ·rw [if_neg (fun e=>t1 e.1)] at gK;unfold AW;refine Uw (J4 h hs @t1 @dD.eq_1) ?_;repeat intro hc
     exact ⟨3,(by simp [gK,dD];try omega),by omega,by simp⟩
   ·have n3:¬(s:Int)+1=3:=by omega
    by_cases lt:dD ((s:Int)+1) l<dD (bK l s) l
    ·rw [if_pos ⟨.inl n3,lt⟩] at gK;simp only [dD] at lt;unfold AW;refine Uw (J7 h hs c1 n3 hw lt @dD.eq_1) ?_;exact ⟨s+1,(by simp [gK,dD];try omega),by omega,by show 3-(s+1)<3-s;omega⟩
    ·rw [if_neg (fun e=>lt e.2)] at gK;simp only [dD] at lt;unfold AW;refine Uw (J7 h hs c1 n3 hw lt @dD.eq_1) ?_;exact ⟨s+1,(by simp [gK,dD];try omega),by omega,by show 3-(s+1)<3-s;omega⟩
@[simp] theorem ar' (h:l.length≤1048576) (hs:ab.aJ l):Gw TT 547 [.one (rl k0 3 (l.map ab.e))]=some (vi (iB l),[]):=by
 refine Ga G9 P2 ?_;unfold P2;by_cases q:cM l=0
 ·have hb:iB l=-1:=by unfold iB;simp [q]
  refine Uw (J4 h hs q hb) ?_;simp [G9,hb]
 ·have hb:=VN q;have fN:=(qI q).2.2.2;refine Uw (J3 h hs q) ?_;repeat intro hc
  refine ba (σ:=Nat) (fun s=>[(0,AV.v k0 (D.sl 3 (l.map ab.e)),none),(3,vn (cM l),none),(4,vn (bK l s),none),(5,vn (dD (bK l s) l),none),(6,vn ((s:Int)+1),none)]) (fun s=>s≤3) (fun s=>3-s) 0 (by simp [bK,dD,kD]) (by omega) ?_;intro s hs3;have hw:=Wi ((s:Int)+1+1);by_cases e:s=3
  ·subst e;unfold AT;refine Uw hb ?_;simp [G9,hb]
  ·have c1:(s:Int)+1≤3:=by omega
   have gK:bK l (s+1)=if ((s:Int)+1≠3∨cM l=1)∧dD ((s:Int)+1) l<dD (bK l s) l then (s:Int)+1 else bK l s:=rfl
   by_cases e2:s=2
   ·subst e2;simp only [show ((2:Nat):Int)+1=3 by rfl,ne_eq,not_true_eq_false,false_or] at gK;by_cases t1:cM l=1
    ·by_cases lt:dD 3 l<dD (bK l 2) l
     ·rw [if_pos ⟨t1,lt⟩] at gK;simp only [dD] at lt;unfold AT;refine Uw (J5 h hs @t1 lt @dD.eq_1) ?_;exact ⟨3,(by simp [gK,t1,dD];try omega),by omega,by simp⟩
     ·rw [if_neg (fun e=>lt e.2)] at gK;simp only [dD] at lt;unfold AT;refine Uw (J5 h hs @t1 lt @dD.eq_1) ?_;exact ⟨3,(by simp [gK,t1,dD];try omega),by omega,by simp⟩
    ·rw [if_neg (fun e=>t1 e.1)] at gK;unfold AT;refine Uw (J4 h hs @t1 @dD.eq_1) ?_;exact ⟨3,(by simp [gK,dD];try omega),by omega,by simp⟩
   ·have n3:¬(s:Int)+1=3:=by omega
    by_cases lt:dD ((s:Int)+1) l<dD (bK l s) l
    ·rw [if_pos ⟨.inl n3,lt⟩] at gK;simp only [dD] at lt;unfold AT;refine Uw (J7 h hs c1 n3 hw lt @dD.eq_1) ?_;exact ⟨s+1,(by simp [gK,dD];try omega),by omega,by show 3-(s+1)<3-s;omega⟩
    ·rw [if_neg (fun e=>lt e.2)] at gK;simp only [dD] at lt;unfold AT;refine Uw (J7 h hs c1 n3 hw lt @dD.eq_1) ?_;exact ⟨s+1,(by simp [gK,dD];try omega),by omega,by show 3-(s+1)<3-s;omega⟩
@[simp] theorem ar1 (h:l.length≤1048576) (hs:ab.aJ l):Gw TT 528 [.one (rl k0 3 (l.map ab.e))]=some (.one (.own (.sl 1 ((dC l).map eb))),[]):=by
 refine Ga G0 PK ?_;unfold PK;have hr:=Ji l;by_cases q:iB l<0
 ·have he:dC l=[]:=by simp [dC,q]
  refine Ua (J4 h hs q he) ?_;simp [G0,he]
 ·have he:dC l=iB l::kD (iB l) l:=by simp [dC,q]
  have hu:IntKind.wrap .u8 (iB l)=iB l:=wrap_u8 (by omega) (by omega);have hl:=JJ (iB l) l;obtain ⟨E,hE⟩:∃E,E=kD (iB l) l:=⟨_,rfl⟩;rw [←hE] at he hl;have r1:(1+E.length)*1≤70368744177664:=by omega
  have r2:1+E.length≤70368744177664:=by omega
  repeat' first|refine Zs ?_|((with_reducible refine Xk fun K k=>?_);simp [h,hs,q,hu,←hE,r1,r2];refine k _ ?_;clear k K)|refine Xt rfl ?_|refine Xf rfl ?_
  simp [G0,he]
@[simp] theorem arY (h:l.length≤1048576) (hs:ab.aJ l):Gw TT 519 [.one (rl k0 3 (l.map ab.e))]=some (.one (.own (.sl 1 ((dC l).map eb))),[]):=by
 refine Ga GY Pz ?_;unfold Pz;have hr:=Ji l;by_cases q:iB l<0
 ·have he:dC l=[]:=by simp [dC,q]
  refine Ua (J4 h hs q he) ?_;simp [GY,he]
 ·have he:dC l=iB l::kD (iB l) l:=by simp [dC,q]
  have hu:IntKind.wrap .u8 (iB l)=iB l:=wrap_u8 (by omega) (by omega);have hl:=JJ (iB l) l;obtain ⟨E,hE⟩:∃E,E=kD (iB l) l:=⟨_,rfl⟩;rw [←hE] at he hl;have r1:(1+E.length)*1≤70368744177664:=by omega
  have r2:1+E.length≤70368744177664:=by omega
  repeat' first|refine Zs ?_|((with_reducible refine Xk fun K k=>?_);simp [h,hs,q,hu,←hE,r1,r2];refine k _ ?_;clear k K)|refine Xt rfl ?_|refine Xf rfl ?_
  simp [GY,he]
theorem aeL {b:List Int} {ty k:Int} {l:List ab} (hb:bI b) (h:mG b ty k=some l):ab.aJ l:=by
 unfold mG at h;split at h
 ·split at h
  ·rename_i hg;split at h
   ·simp at h;subst h;exact (CZ hb (Zg _) (by omega) hg).1
   ·cases h
  ·cases h
 ·cases h
theorem IE {l:List ab} (h:cM l≠0):ab.aJ l:=fun v hv=>by
 have:=EP h v hv;simp only [ab.sm];omega
theorem JK {E:List ab→List Int} {b:List Int} {k:Int} {l l':List ab} (h0:cM l=0→E l=[]) (hb:b≠[]) (h:eU b k E l=some l'):cM l'≠0:=by
 obtain ⟨rfl,_,_,he⟩:=CP h;intro e;exact hb (he.trans (h0 e))
theorem JW {b:List Int} {n t:Int} (h:gN b 0=some (n,t)):b≠[]:=by
 intro e;subst e;unfold gN at h;rw [if_neg (by simp)] at h;cases h
theorem wZ {kd:Int} {b:List Int} {ty k:Int} {l:List ab} (hb:bI b) (h:gW kd b ty k=some l):ab.aJ l:=by
 unfold gW at h;split at h
 ·exact aeL hb h
 split at h
 ·unfold iU at h;split at h
  ·rename_i hg;split at h
   ·split at h
    ·exact IE (JK (fun e=>by simp [jF,e]) (JW hg) h)
    ·cases h
   ·cases h
  ·cases h
 split at h
 ·unfold ll oJ at h;split at h
  ·rename_i hg;split at h
   ·split at h
    ·split at h
     ·split at h
      ·exact IE (JK (fun e=>by simp [iC,e]) (JW hg) h)
      ·cases h
     ·cases h
    ·cases h
   ·cases h
  ·cases h
 split at h
 ·unfold kR at h;split at h
  ·rename_i hg;split at h
   ·split at h
    ·split at h
     ·exact IE (JK (fun e=>by simp [jW,e]) (JW hg) h)
     ·cases h
    ·cases h
   ·cases h
  ·cases h
 cases h
theorem amk (h:b.length≤1048576) (hb:bI b) (fN:ty=1∨ty=2) (hk:1≤k∧k≤64):Gw TT 496 [.one (rl k0 1 (b.map eb)),vi ty,vi k]=some (mj (fh b ty k),[]):=by
 refine Ga mr Pm ?_;unfold Pm;have nu:(1:Int)≤ty:=by omega
 have nv:ty≤2:=by omega
 have tL:¬0=ty:=by omega
 have pK:=ac_ true [] (by simp) (fun v hv=>by simp at hv);have tM:=ac_ false [] (by simp) (fun v hv=>by simp at hv);simp only [zu,cM] at pK tM;rcases b with _|⟨c,r⟩
 ·have hD:fh [] ty k=none:=rfl;refine Uw hD ?_;simp [mr,hD]
 ·obtain ⟨b,iW⟩:∃b,b=c::r:=⟨_,rfl⟩
  have fH:fh b ty k=match gW c r ty k with
   |some l=>if cM l=ty∧b=dC l then some l else none
   |none=>none:=by rw [iW];try rfl
  rw [←iW] at h hb ⊢;have e_:b[0]?=some c:=by rw [iW];try rfl
  obtain ⟨fJ,fI⟩:=za.1 e_;have hn:¬(b.length:Int)=0:=by omega
  have fL:b≠[]:=by rw [iW];simp
  have fR:((b.length:Int)==0)=false:=by simpa using fL
  have cP:bI r:=fun x hx=>hb x (by rw [iW];simp [hx])
  have vF:b.length=r.length+1:=by rw [iW];try rfl
  have ej:r.length≤1048576:=by omega
  have gB:=hb c (by rw [iW];simp);have s0:IntKind.wrap .i64 c=c:=wrap_i64 (by omega) (by omega);have s1:(1:Int)≤(b.length:Int):=by omega
  have s2:1≤b.length:=by omega
  have s3:(0:Int)<(b.length:Int):=by omega
  have s9:zx 1 (zg eb b)=zg eb r:=by rw [iW];try rfl
  by_cases n0:c=0
  ·subst n0;cases hd:mG r ty k with
   |none=>
    have hD:fh b ty k=none:=by rw [fH];simp only [gW];simp [hd]
    have hx:=ac6 k0 r ty k ej cP;rw [hd] at hx;refine Uw (J8 s0 s1 s2 s3 s9 ej cP (J8 gB e_ fJ fI hn fL fR (J4 hx tL pK hD))) ?_;repeat intro hc
    simp [mr,hD]
   |some l=>
    have er:gW 0 r ty k=some l:=by simp only [gW];simpa using hd
    have fo:=wZ cP er;have fc:=vu cP er;have dy:l.length≤1048576:=by omega
    have hx:=ac6 k0 r ty k ej cP;rw [hd] at hx;by_cases e1:cM l=ty
    ·obtain ⟨us,hu⟩:=uj k0 true b k l dC hb (vB l)
     have hc:fh b ty k=eU b k dC l:=by
      rw [fH,er];simp only;unfold eU;by_cases e2:b=dC l
      ·rw [if_pos ⟨e1,e2⟩,if_pos ⟨hk,fc,e2⟩]
      ·rw [if_neg (fun e=>e2 e.2),if_neg (fun e=>e2 e.2.2)]
     rw [hc];cases iX:eU b k dC l with
     |none=>
      rw [iX] at hu;refine Uw (J8 s0 s1 s2 s3 s9 ej cP (J8 gB e_ fJ fI hn fL fR (J5 hx fo dy e1 hu))) ?_;simp [mr]
     |some l'=>
      rw [iX] at hu;refine Uw (J8 s0 s1 s2 s3 s9 ej cP (J8 gB e_ fJ fI hn fL fR (J5 hx fo dy e1 hu))) ?_;simp [mr]
    ·have hD:fh b ty k=none:=by rw [fH,er];simp only;rw [if_neg (fun e=>e1 e.1)]
     refine Uw (J8 s0 s1 s2 s3 s9 ej cP (J8 gB e_ fJ fI hn fL fR (J5 hx fo dy e1 hD))) ?_;repeat intro hc
     simp [mr,hD]
  ·skip;by_cases n1:c=1
   ·subst n1;cases hd:iU r ty k with
    |none=>
     have hD:fh b ty k=none:=by rw [fH];simp only [gW];simp [hd]
     have hx:=ac7 k0 r ty k ej cP;rw [hd] at hx;refine Uw (J8 s0 s1 s2 s3 s9 ej cP (J8 gB e_ fJ fI hn fL fR (J4 hx tL pK hD))) ?_;repeat intro hc
     simp [mr,hD]
    |some l=>
     have er:gW 1 r ty k=some l:=by simp only [gW];simpa using hd
     have fo:=wZ cP er;have fc:=vu cP er;have dy:l.length≤1048576:=by omega
     have hx:=ac7 k0 r ty k ej cP;rw [hd] at hx;by_cases e1:cM l=ty
     ·obtain ⟨us,hu⟩:=uj k0 true b k l dC hb (vB l)
      have hc:fh b ty k=eU b k dC l:=by
       rw [fH,er];simp only;unfold eU;by_cases e2:b=dC l
       ·rw [if_pos ⟨e1,e2⟩,if_pos ⟨hk,fc,e2⟩]
       ·rw [if_neg (fun e=>e2 e.2),if_neg (fun e=>e2 e.2.2)]
      rw [hc];cases iX:eU b k dC l with
      |none=>
       rw [iX] at hu;refine Uw (J8 s0 s1 s2 s3 s9 ej cP (J8 gB e_ fJ fI hn fL fR (J5 hx fo dy e1 hu))) ?_;simp [mr]
      |some l'=>
       rw [iX] at hu;refine Uw (J8 s0 s1 s2 s3 s9 ej cP (J8 gB e_ fJ fI hn fL fR (J5 hx fo dy e1 hu))) ?_;simp [mr]
     ·have hD:fh b ty k=none:=by rw [fH,er];simp only;rw [if_neg (fun e=>e1 e.1)]
      refine Uw (J8 s0 s1 s2 s3 s9 ej cP (J8 gB e_ fJ fI hn fL fR (J5 hx fo dy e1 hD))) ?_;repeat intro hc
      simp [mr,hD]
   ·skip;by_cases n2:c=2
    ·subst n2;cases hd:ll r ty k with
     |none=>
      have hD:fh b ty k=none:=by rw [fH];simp only [gW];simp [hd]
      have hx:=ac8 k0 r ty k ej cP;rw [hd] at hx;refine Uw (J8 s0 s1 s2 s3 s9 ej cP (J8 gB e_ fJ fI hn fL fR (J4 hx tL pK hD))) ?_;repeat intro hc
      simp [mr,hD]
     |some l=>
      have er:gW 2 r ty k=some l:=by simp only [gW];simpa using hd
      have fo:=wZ cP er;have fc:=vu cP er;have dy:l.length≤1048576:=by omega
      have hx:=ac8 k0 r ty k ej cP;rw [hd] at hx;by_cases e1:cM l=ty
      ·obtain ⟨us,hu⟩:=uj k0 true b k l dC hb (vB l)
       have hc:fh b ty k=eU b k dC l:=by
        rw [fH,er];simp only;unfold eU;by_cases e2:b=dC l
        ·rw [if_pos ⟨e1,e2⟩,if_pos ⟨hk,fc,e2⟩]
        ·rw [if_neg (fun e=>e2 e.2),if_neg (fun e=>e2 e.2.2)]
       rw [hc];cases iX:eU b k dC l with
       |none=>
        rw [iX] at hu;refine Uw (J8 s0 s1 s2 s3 s9 ej cP (J8 gB e_ fJ fI hn fL fR (J5 hx fo dy e1 hu))) ?_;simp [mr]
       |some l'=>
        rw [iX] at hu;refine Uw (J8 s0 s1 s2 s3 s9 ej cP (J8 gB e_ fJ fI hn fL fR (J5 hx fo dy e1 hu))) ?_;simp [mr]
      ·have hD:fh b ty k=none:=by rw [fH,er];simp only;rw [if_neg (fun e=>e1 e.1)]
       refine Uw (J8 s0 s1 s2 s3 s9 ej cP (J8 gB e_ fJ fI hn fL fR (J5 hx fo dy e1 hD))) ?_;repeat intro hc
       simp [mr,hD]
    ·skip;by_cases n3:c=3
     ·subst n3;cases hd:kR r k with
      |none=>
       have hD:fh b ty k=none:=by rw [fH];simp only [gW];simp [hd]
       have hx:=ac9 k0 r k ej cP;rw [hd] at hx;refine Uw (J8 s0 s1 s2 s3 s9 ej cP (J8 gB e_ fJ fI hn fL fR (J4 hx tL pK hD))) ?_;repeat intro hc
       simp [mr,hD]
      |some l=>
       have er:gW 3 r ty k=some l:=by simp only [gW];simpa using hd
       have fo:=wZ cP er;have fc:=vu cP er;have dy:l.length≤1048576:=by omega
       have hx:=ac9 k0 r k ej cP;rw [hd] at hx;by_cases e1:cM l=ty
       ·obtain ⟨us,hu⟩:=uj k0 true b k l dC hb (vB l)
        have hc:fh b ty k=eU b k dC l:=by
         rw [fH,er];simp only;unfold eU;by_cases e2:b=dC l
         ·rw [if_pos ⟨e1,e2⟩,if_pos ⟨hk,fc,e2⟩]
         ·rw [if_neg (fun e=>e2 e.2),if_neg (fun e=>e2 e.2.2)]
        rw [hc];cases iX:eU b k dC l with
        |none=>
         rw [iX] at hu;refine Uw (J8 s0 s1 s2 s3 s9 ej cP (J8 gB e_ fJ fI hn fL fR (J5 hx fo dy e1 hu))) ?_;simp [mr]
        |some l'=>
         rw [iX] at hu;refine Uw (J8 s0 s1 s2 s3 s9 ej cP (J8 gB e_ fJ fI hn fL fR (J5 hx fo dy e1 hu))) ?_;simp [mr]
       ·have hD:fh b ty k=none:=by rw [fH,er];simp only;rw [if_neg (fun e=>e1 e.1)]
        refine Uw (J8 s0 s1 s2 s3 s9 ej cP (J8 gB e_ fJ fI hn fL fR (J5 hx fo dy e1 hD))) ?_;repeat intro hc
        simp [mr,hD]
     ·skip;have hD:fh b ty k=none:=by rw [fH];unfold gW;rw [if_neg n0,if_neg n1,if_neg n2,if_neg n3]
      refine Uw (J8 s0 s1 s2 s3 s9 ej cP (J8 gB e_ fJ fI hn fL fR (J8 n0 n1 n2 n3 tL tM pK hD))) ?_;repeat intro hc
      simp [mr,hD]
theorem ami (h:b.length≤1048576) (hb:bI b) (fN:ty=1∨ty=2) (hk:1≤k∧k≤64):Gw TT 492 [.one (rl k0 1 (b.map eb)),vi ty,vi k]=some (mj (fh b ty k),[]):=by
 refine Ga mq Ph ?_;unfold Ph;have nu:(1:Int)≤ty:=by omega
 have nv:ty≤2:=by omega
 have tL:¬0=ty:=by omega
 have pK:=ac5 true [] (by simp) (fun v hv=>by simp at hv);have tM:=ac5 false [] (by simp) (fun v hv=>by simp at hv);simp only [zu,cM] at pK tM;rcases b with _|⟨c,r⟩
 ·have hD:fh [] ty k=none:=rfl;refine Uw hD ?_;simp [mq,hD]
 ·obtain ⟨b,iW⟩:∃b,b=c::r:=⟨_,rfl⟩
  have fH:fh b ty k=match gW c r ty k with
   |some l=>if cM l=ty∧b=dC l then some l else none
   |none=>none:=by rw [iW];try rfl
  rw [←iW] at h hb ⊢;have e_:b[0]?=some c:=by rw [iW];try rfl
  obtain ⟨fJ,fI⟩:=za.1 e_;have hn:¬(b.length:Int)=0:=by omega
  have fL:b≠[]:=by rw [iW];simp
  have fR:((b.length:Int)==0)=false:=by simpa using fL
  have cP:bI r:=fun x hx=>hb x (by rw [iW];simp [hx])
  have vF:b.length=r.length+1:=by rw [iW];try rfl
  have ej:r.length≤1048576:=by omega
  have gB:=hb c (by rw [iW];simp);have s0:IntKind.wrap .i64 c=c:=wrap_i64 (by omega) (by omega);have s1:(1:Int)≤(b.length:Int):=by omega
  have s2:1≤b.length:=by omega
  have s3:(0:Int)<(b.length:Int):=by omega
  have s9:zx 1 (zg eb b)=zg eb r:=by rw [iW];try rfl
  by_cases n0:c=0
  ·subst n0;cases hd:mG r ty k with
   |none=>
    have hD:fh b ty k=none:=by rw [fH];simp only [gW];simp [hd]
    have hx:=ac1 k0 r ty k ej cP;rw [hd] at hx;refine Uw (J8 s0 s1 s2 s3 s9 ej cP (J8 gB e_ fJ fI hn fL fR (J6 nu nv hx tL pK hD))) ?_;simp [mq,hD]
   |some l=>
    have er:gW 0 r ty k=some l:=by simp only [gW];simpa using hd
    have fo:=wZ cP er;have fc:=vu cP er;have dy:l.length≤1048576:=by omega
    have hx:=ac1 k0 r ty k ej cP;rw [hd] at hx;by_cases e1:cM l=ty
    ·have fx:=ui (vB l) hb;by_cases e2:b=dC l
     ·have hD:fh b ty k=some l:=by rw [fH,er];simp only;rw [if_pos ⟨e1,e2⟩]
      have e4:((strOf (dC l)).toList==(strOf b).toList)=true:=by rw [fx];simpa using e2.symm
      refine Uw (J8 s0 s1 s2 s3 s9 ej cP (J8 gB e_ fJ fI hn fL fR (J8 nu nv hx fo dy e1 e4 hD))) ?_;simp [mq,hD]
     ·have hD:fh b ty k=none:=by rw [fH,er];simp only;rw [if_neg (fun e=>e2 e.2)]
      have e4:((strOf (dC l)).toList==(strOf b).toList)=false:=by rw [fx];simpa using fun e=>e2 e.symm
      refine Uw (J8 s0 s1 s2 s3 s9 ej cP (J8 gB e_ fJ fI hn fL fR (J8 nu nv hx fo dy e1 e4 hD))) ?_;simp [mq,hD]
    ·have hD:fh b ty k=none:=by rw [fH,er];simp only;rw [if_neg (fun e=>e1 e.1)]
     refine Uw (J8 s0 s1 s2 s3 s9 ej cP (J8 gB e_ fJ fI hn fL fR (J7 nu nv hx fo dy e1 hD))) ?_;simp [mq,hD]
  ·skip;by_cases n1:c=1
   ·subst n1;cases hd:iU r ty k with
    |none=>
     have hD:fh b ty k=none:=by rw [fH];simp only [gW];simp [hd]
     have hx:=ac2 k0 r ty k ej cP;rw [hd] at hx;refine Uw (J8 s0 s1 s2 s3 s9 ej cP (J8 gB e_ fJ fI hn fL fR (J6 nu nv hx tL pK hD))) ?_;simp [mq,hD]
    |some l=>
     have er:gW 1 r ty k=some l:=by simp only [gW];simpa using hd
     have fo:=wZ cP er;have fc:=vu cP er;have dy:l.length≤1048576:=by omega
     have hx:=ac2 k0 r ty k ej cP;rw [hd] at hx;by_cases e1:cM l=ty
     ·have fx:=ui (vB l) hb;by_cases e2:b=dC l
      ·have hD:fh b ty k=some l:=by rw [fH,er];simp only;rw [if_pos ⟨e1,e2⟩]
       have e4:((strOf (dC l)).toList==(strOf b).toList)=true:=by rw [fx];simpa using e2.symm
       refine Uw (J8 s0 s1 s2 s3 s9 ej cP (J8 gB e_ fJ fI hn fL fR (J8 nu nv hx fo dy e1 e4 hD))) ?_;simp [mq,hD]
      ·have hD:fh b ty k=none:=by rw [fH,er];simp only;rw [if_neg (fun e=>e2 e.2)]
       have e4:((strOf (dC l)).toList==(strOf b).toList)=false:=by rw [fx];simpa using fun e=>e2 e.symm
       refine Uw (J8 s0 s1 s2 s3 s9 ej cP (J8 gB e_ fJ fI hn fL fR (J8 nu nv hx fo dy e1 e4 hD))) ?_;simp [mq,hD]
     ·have hD:fh b ty k=none:=by rw [fH,er];simp only;rw [if_neg (fun e=>e1 e.1)]
      refine Uw (J8 s0 s1 s2 s3 s9 ej cP (J8 gB e_ fJ fI hn fL fR (J7 nu nv hx fo dy e1 hD))) ?_;simp [mq,hD]
   ·skip;by_cases n2:c=2
    ·subst n2;cases hd:ll r ty k with
     |none=>
      have hD:fh b ty k=none:=by rw [fH];simp only [gW];simp [hd]
      have hx:=ac3 k0 r ty k ej cP;rw [hd] at hx;refine Uw (J8 s0 s1 s2 s3 s9 ej cP (J8 gB e_ fJ fI hn fL fR (J6 nu nv hx tL pK hD))) ?_;simp [mq,hD]
     |some l=>
      have er:gW 2 r ty k=some l:=by simp only [gW];simpa using hd
      have fo:=wZ cP er;have fc:=vu cP er;have dy:l.length≤1048576:=by omega
      have hx:=ac3 k0 r ty k ej cP;rw [hd] at hx;by_cases e1:cM l=ty
      ·have fx:=ui (vB l) hb;by_cases e2:b=dC l
       ·have hD:fh b ty k=some l:=by rw [fH,er];simp only;rw [if_pos ⟨e1,e2⟩]
        have e4:((strOf (dC l)).toList==(strOf b).toList)=true:=by rw [fx];simpa using e2.symm
        refine Uw (J8 s0 s1 s2 s3 s9 ej cP (J8 gB e_ fJ fI hn fL fR (J8 nu nv hx fo dy e1 e4 hD))) ?_;simp [mq,hD]
       ·have hD:fh b ty k=none:=by rw [fH,er];simp only;rw [if_neg (fun e=>e2 e.2)]
        have e4:((strOf (dC l)).toList==(strOf b).toList)=false:=by rw [fx];simpa using fun e=>e2 e.symm
        refine Uw (J8 s0 s1 s2 s3 s9 ej cP (J8 gB e_ fJ fI hn fL fR (J8 nu nv hx fo dy e1 e4 hD))) ?_;simp [mq,hD]
      ·have hD:fh b ty k=none:=by rw [fH,er];simp only;rw [if_neg (fun e=>e1 e.1)]
       refine Uw (J8 s0 s1 s2 s3 s9 ej cP (J8 gB e_ fJ fI hn fL fR (J7 nu nv hx fo dy e1 hD))) ?_;simp [mq,hD]
    ·skip;by_cases n3:c=3
     ·subst n3;cases hd:kR r k with
      |none=>
       have hD:fh b ty k=none:=by rw [fH];simp only [gW];simp [hd]
       have hx:=ac4 k0 r k ej cP;rw [hd] at hx;refine Uw (J8 s0 s1 s2 s3 s9 ej cP (J8 gB e_ fJ fI hn fL fR (J6 nu nv hx tL pK hD))) ?_;simp [mq,hD]
      |some l=>
       have er:gW 3 r ty k=some l:=by simp only [gW];simpa using hd
       have fo:=wZ cP er;have fc:=vu cP er;have dy:l.length≤1048576:=by omega
       have hx:=ac4 k0 r k ej cP;rw [hd] at hx;by_cases e1:cM l=ty
       ·have fx:=ui (vB l) hb;by_cases e2:b=dC l
        ·have hD:fh b ty k=some l:=by rw [fH,er];simp only;rw [if_pos ⟨e1,e2⟩]
         have e4:((strOf (dC l)).toList==(strOf b).toList)=true:=by rw [fx];simpa using e2.symm
         refine Uw (J8 s0 s1 s2 s3 s9 ej cP (J8 gB e_ fJ fI hn fL fR (J8 nu nv hx fo dy e1 e4 hD))) ?_;simp [mq,hD]
        ·have hD:fh b ty k=none:=by rw [fH,er];simp only;rw [if_neg (fun e=>e2 e.2)]
         have e4:((strOf (dC l)).toList==(strOf b).toList)=false:=by rw [fx];simpa using fun e=>e2 e.symm
         refine Uw (J8 s0 s1 s2 s3 s9 ej cP (J8 gB e_ fJ fI hn fL fR (J8 nu nv hx fo dy e1 e4 hD))) ?_;simp [mq,hD]
       ·have hD:fh b ty k=none:=by rw [fH,er];simp only;rw [if_neg (fun e=>e1 e.1)]
        refine Uw (J8 s0 s1 s2 s3 s9 ej cP (J8 gB e_ fJ fI hn fL fR (J7 nu nv hx fo dy e1 hD))) ?_;simp [mq,hD]
     ·skip;have hD:fh b ty k=none:=by rw [fH];unfold gW;rw [if_neg n0,if_neg n1,if_neg n2,if_neg n3]
      refine Uw (J8 s0 s1 s2 s3 s9 ej cP (J8 gB e_ fJ fI hn fL fR (J8 nu nv n0 n1 n2 n3 tL (J3 tM pK hD)))) ?_;repeat intro hc
      simp [mq,hD]
def uH (l:List Int):List Int:=cI (l.length:Int)++l.flatMap cI
theorem abI {b:List Int} (hb:bI b):∀{k:Nat} {u t:Int} {l:List Int},0≤u→u≤(b.length:Int)→oj b k u=some (l,t)→
 l.length=k∧(∀n∈l,-1000000000≤n∧n≤1000000000)∧u≤t∧t≤(b.length:Int)∧b.drop u.toNat=l.flatMap cI++b.drop t.toNat
 |0,u,t,l,h0,h1,h=>by
  simp only [oj,zm,zp] at h;obtain ⟨rfl,rfl⟩:=h;exact ⟨rfl,by simp,by omega,h1,by simp⟩
 |k+1,u,t,l,h0,h1,h=>by
  simp only [oj] at h;split at h
  ·rename_i n t1 hv;split at h
   ·rename_i l' t2 hl;simp only [zm,zp] at h;obtain ⟨rfl,rfl⟩:=h;obtain ⟨a1,a2,a3,a4,a5⟩:=rR hb hv;obtain ⟨b1,b2,b3,b4,b5⟩:=abI hb (by omega) a4 hl;refine ⟨by simp [b1],fun x hx=>?_,by omega,b4,?_⟩
    ·rcases zj.1 hx with rfl|hx
     ·exact a1
     ·exact b2 x hx
    ·rw [a5,b5];simp
   ·cases h
  ·cases h
theorem FD {b:List Int} (hb:bI b) {l:List Int} {t:Int} (h:jq b 0=some (l,t)):
 l.length≤64∧(∀n∈l,-1000000000≤n∧n≤1000000000)∧0≤t∧t≤(b.length:Int)∧b=uH l++b.drop t.toNat:=by
 unfold jq at h;split at h
 ·rename_i k u hg;split at h
  ·rename_i hk;obtain ⟨a1,a2,a3,a4,a5⟩:=rR hb hg;obtain ⟨b1,b2,b3,b4,b5⟩:=abI hb (by omega) a4 h;refine ⟨by omega,b2,by omega,b4,?_⟩;simp only [zY,zZ] at a5;have e:(l.length:Int)=k:=by omega
   rw [uH,e,zB,←b5];exact a5
  ·cases h
 ·cases h
def fQ (k:Nat) (l:List aA):List ab:=l.filterMap fun r=>r.L[k]?
def jD:List aA→List ab→List aA
 |r::rows,v::vs=>⟨r.Id,r.L++[v]⟩::jD rows vs
 |_,_=>[]
def rJ (j:Nat) (l:List aA):Prop:=∀r∈l,r.L.length=j
theorem CE:∀{rows:List aA} {vs:List ab},rows.length=vs.length→(jD rows vs).length=rows.length
 |[],[],_=>rfl
 |[],_::_,h=>by simp at h
 |_::_,[],h=>by simp at h
 |r::rows,v::vs,h=>by simp only [jD,zd,CE (rows:=rows) (vs:=vs) (by simpa using h)]
theorem Vz:∀{rows:List aA} {vs:List ab},rows.length=vs.length→(jD rows vs).map (·.Id)=rows.map (·.Id)
 |[],[],_=>rfl
 |[],_::_,h=>by simp at h
 |_::_,[],h=>by simp at h
 |r::rows,v::vs,h=>by simp only [jD,List.map_cons,Vz (rows:=rows) (vs:=vs) (by simpa using h)]
theorem E8 {j:Nat}:∀{rows:List aA} {vs:List ab},rJ j rows→rJ (j+1) (jD rows vs)
 |[],_,_=>fun r hr=>by simp [jD] at hr
 |_::_,[],_=>fun r hr=>by simp [jD] at hr
 |r::rows,v::vs,h=>fun x hx=>by
  simp only [jD] at hx;rcases zj.1 hx with rfl|hx
  ·have:=h r (by simp);simp [this]
  ·exact E8 (rows:=rows) (vs:=vs) (fun y hy=>h y (by simp [hy])) x hx
theorem Vy {j:Nat}:∀{rows:List aA} {vs:List ab},rows.length=vs.length→rJ j rows→fQ j (jD rows vs)=vs
 |[],[],_,_=>rfl
 |[],_::_,h,_=>by simp at h
 |_::_,[],h,_=>by simp at h
 |r::rows,v::vs,h,ha=>by
  have h1:=ha r (by simp);have ih:=Vy (rows:=rows) (vs:=vs) (by simpa using h) (fun y hy=>ha y (by simp [hy]));simp only [fQ] at ih;simp only [fQ,jD];rw [zV (b:=v) (by simp [←h1])];rw [ih]
theorem VB {j k:Nat} (hk:k<j):∀{rows:List aA} {vs:List ab},rows.length=vs.length→rJ j rows→fQ k (jD rows vs)=fQ k rows
 |[],[],_,_=>rfl
 |[],_::_,h,_=>by simp at h
 |_::_,[],h,_=>by simp at h
 |r::rows,v::vs,h,ha=>by
  have h1:=ha r (by simp);have ih:=VB hk (rows:=rows) (vs:=vs) (by simpa using h) (fun y hy=>ha y (by simp [hy]));simp only [fQ] at ih;simp only [fQ,jD,Zc];rw [ih,zM (by omega)]
def k_ (b:List Int) (u n:Int):List Int:=(b.take (u+n).toNat).drop u.toNat
def ng (b:List Int) (m:Int):List Int→Int→List aA→Option (List aA×Int)
 |[],u,rows=>some (rows,u)
 |ty::cs,u,rows=>match gN b u with
  |some (n,t)=>if 0≤n∧n≤(b.length:Int)-t then (match fh (k_ b t n) ty m with
   |some vs=>ng b m cs (t+n) (jD rows vs)
   |none=>none) else none
  |none=>none
def wY (rows:List aA):Nat→Nat→List Int
 |0,_=>[]
 |n+1,j=>cI ((dC (fQ j rows)).length:Int)++dC (fQ j rows)++wY rows n (j+1)
theorem aln {b:List Int} {u n:Int} (h0:0≤u) (h1:0≤n) (h2:n≤(b.length:Int)-u):((k_ b u n).length:Int)=n:=by
 simp only [k_,zw,zP];omega
theorem alm {b:List Int} {u n:Int} (h0:0≤u) (h1:0≤n):b.drop u.toNat=k_ b u n++b.drop (u+n).toNat:=by
 have e:(u+n).toNat=u.toNat+n.toNat:=by omega
 rw [k_,e,←zX,List.drop_take];rw [show u.toNat+n.toNat-u.toNat=n.toNat by omega];exact (z_ _ _).symm
theorem JX {b:List Int} {m:Int} (hb:bI b):∀{cs:List Int} {u t:Int} {rows wE:List aA} {j:Nat},0≤u→u≤(b.length:Int)→(rows.length:Int)=m→rJ j rows→
 ng b m cs u rows=some (wE,t)→
 wE.length=rows.length∧wE.map (·.Id)=rows.map (·.Id)∧rJ (j+cs.length) wE∧(∀i,i<j→fQ i wE=fQ i rows)∧u≤t∧t≤(b.length:Int)∧
  b.drop u.toNat=wY wE cs.length j++b.drop t.toNat
 |[],u,t,rows,wE,j,h0,h1,hm,ha,h=>by
  simp only [ng,zm,zp] at h;obtain ⟨rfl,rfl⟩:=h;exact ⟨rfl,rfl,by simpa using ha,fun _ _=>rfl,by omega,h1,by simp [wY]⟩
 |ty::cs,u,t,rows,wE,j,h0,h1,hm,ha,h=>by
  simp only [ng] at h;split at h
  ·rename_i n w hg;split at h
   ·rename_i hn;split at h
    ·rename_i vs hd;obtain ⟨a1,a2,a3,a4,a5⟩:=rR hb hg;have jg:bI (k_ b w n):=sS _ (Bu _ hb);obtain ⟨d1,d2,d3⟩:=Ft jg hd;have hl:rows.length=vs.length:=by omega
     obtain ⟨e1,e2,e3,e4,e5,e6,e7⟩:=JX hb (cs:=cs) (j:=j+1) (by omega) (by omega) (by rw [CE hl];exact hm) (E8 ha) h;have hc:fQ j wE=vs:=by rw [e4 j (by omega),Vy hl ha]
     refine ⟨e1.trans (CE hl),e2.trans (Vz hl),?_,fun i hi=>?_,by omega,e6,?_⟩
     ·rw [zd,show j+(cs.length+1)=j+1+cs.length by omega];exact e3
     ·rw [e4 i (by omega),VB hi hl ha]
     ·have lC:=aln (b:=b) (u:=w) (n:=n) (by omega) hn.1 hn.2;simp only [zd,wY];rw [hc,←d3,lC,a5,alm (u:=w) (n:=n) (by omega) hn.1,e7];simp [zB]
    ·cases h
   ·cases h
  ·cases h
def qG (cols:List Int) (r:aA):Bool:=decide (0≤r.Id)&&lp cols r.L
def EG:Option Int→Int→Bool
 |some q,i=>decide (q<i)
 |none,_=>true
def mS (cols:List Int):Option Int→List aA→Bool
 |_,[]=>true
 |p,r::l=>if qG cols r=true∧r.Id≤1000000000∧EG p r.Id=true then mS cols (some r.Id) l else false
def gG (cols:List Int) (l:List aA):Bool:=jo cols&&(decide (l.length≤12)&&mS cols none l)
theorem UA {cols:List Int}:∀{l:List aA} {p:Option Int},mS cols p l=true→∀r∈l,0≤r.Id∧r.Id≤1000000000
 |[],_,_,r,hr=>by simp at hr
 |x::l,p,h,r,hr=>by
  simp only [mS] at h;split at h
  ·rename_i hx;rcases zj.1 hr with rfl|hr
   ·have:=hx.1;simp only [qG,zn,decide_eq_true_eq] at this;exact ⟨this.1,hx.2.1⟩
   ·exact UA h r hr
  ·cases h
def o_ (cols:List Int) (l:List aA):List Int:=if gG cols l=true then uH (l.map (·.Id))++(if l.length=0 then [] else wY l cols.length 0) else []
theorem Wb (rows:List aA):∀(n j:Nat),bI (wY rows n j)
 |0,_=>qd
 |n+1,j=>vl (vl (w_ _) (vB _)) (Wb rows n (j+1))
theorem ab4 (cols:List Int) (l:List aA):bI (o_ cols l):=by
 unfold o_;split
 ·refine vl (vl (w_ _) (Jo w_ _)) ?_;split
  ·exact qd
  ·exact Wb _ _ _
 ·exact qd
def gP (ids:List Int):List aA:=ids.map fun i=>⟨i,[]⟩
def nf (b:List Int) (cols:List Int) (u:Int) (ids:List Int):Option (List aA×Int):=if ids.length=0 then some ([],u) else ng b (ids.length:Int) cols u (gP ids)
def dn (cols b:List Int):Option (List aA):=match jq b 0 with
 |some (ids,u)=>if jo cols=true then (match nf b cols u ids with
  |some (rows,t)=>if t=(b.length:Int)∧gG cols rows=true then some rows else none
  |none=>none) else none
 |none=>none
theorem W6 {b cols:List Int} {ids:List Int} {u t:Int} {rows:List aA} (hb:bI b) (h1:jq b 0=some (ids,u)) (h2:nf b cols u ids=some (rows,t)) (h3:gG cols rows=true):
 (b=o_ cols rows↔t=(b.length:Int)):=by
 obtain ⟨a1,a2,a3,a4,a5⟩:=FD hb h1;unfold o_;rw [if_pos h3];unfold nf at h2;split at h2
 ·rename_i h0;simp only [zm,zp] at h2;obtain ⟨rfl,rfl⟩:=h2;have:ids=[]:=zH.1 h0;subst this;simp only [zu,ze,if_true,zh];constructor
  ·intro e;have hl:=congrArg zN a5;rw [←e] at hl;simp only [zb,zw] at hl;omega
  ·intro e;rw [a5]
   conv=>lhs;rw [zO (by omega)]
   simp
 ·rename_i h0;obtain ⟨c1,c2,c3,c4,c5,c6,c7⟩:=JX hb (j:=0) a3 a4 (by simp [gP]) (fun r hr=>by simp only [gP,zA] at hr;obtain ⟨i,_,rfl⟩:=hr;rfl) h2;have qZ:rows.length≠0:=by rw [c1];simpa [gP] using h0
  have agK:rows.map (·.Id)=ids:=by rw [c2];simp [gP,Function.comp_def]
  rw [if_neg qZ,agK];rw [c7] at a5;constructor
  ·intro e;have hl:=congrArg zN a5;rw [e] at hl;simp only [zb,zw] at hl;have dy:=congrArg zN e;simp only [zb] at dy;omega
  ·intro e;rw [e,show ((b.length:Int)).toNat=b.length by omega,List.drop_length,zh] at a5;exact a5
theorem ae9 {b cols:List Int} {ids:List Int} {u t:Int} {rows:List aA} (hb:bI b) (h1:jq b 0=some (ids,u)) (h2:nf b cols u ids=some (rows,t)):rows.length=ids.length:=by
 obtain ⟨a1,a2,a3,a4,a5⟩:=FD hb h1;unfold nf at h2;split at h2
 ·rename_i h0;simp only [zm,zp] at h2;obtain ⟨rfl,rfl⟩:=h2;simp [h0]
 ·obtain ⟨c1,_⟩:=JX hb (j:=0) a3 a4 (by simp [gP]) (fun r hr=>by simp only [gP,zA] at hr;obtain ⟨i,_,rfl⟩:=hr;rfl) h2;rw [c1];simp [gP]
theorem aeu {k:Nat} {a:List ab} {r:aA} {l:List aA} (h:¬k<r.L.length):a++fQ k (r::l)=a++fQ k l:=by
 simp only [fQ,Zc];rw [zy (by omega)]
theorem aew {k:Nat} {a:List ab} {r:aA} {l:List aA} {v:ab} (h:r.L[k]?=some v):a++fQ k (r::l)=(a++[v])++fQ k l:=by
 simp only [fQ];rw [zV (f:=fun r:aA=>r.L[k]?) h];simp
theorem aet (k:Nat) (l:List aA):(fQ k l).length≤l.length:=List.length_filterMap_le _ _
theorem aev {k:Nat} {l:List aA} (h:aA.aJ l):ab.aJ (fQ k l):=fun v hv=>by
 simp only [fQ,List.mem_filterMap] at hv;obtain ⟨r,hr,hv⟩:=hv;exact (h r hr).2 v (zk hv)
@[simp] theorem arM (l:List aA) (k:Nat) (h:l.length≤1048576) (hs:aA.aJ l) (hk:k≤1048576):Gw TT 481 [.one (rl k0 2 (l.map aA.e)),vi (k:Int)]=some (.one (.own (.sl 3 ((fQ k l).map ab.e))),[]):=by
 refine Ga Sn O7 ?_;unfold O7;refine Ua Oo ?_;refine ba (σ:=List aA×List aA×List ab) (fun s=>[(1,vn (k:Nat),none),(5,AV.pl 5 0 [],some (Rt.aX [C.own (D.sl 3 ((s.2.2).map ab.e))])),(9,AV.v k0 (D.sl 2 (l.map aA.e)),none),(10,vn (l.length:Nat),none),(11,vn ((s.1.length:Nat):Int),none)]) (fun s=>l=s.1++s.2.1∧fQ k l=s.2.2++fQ k s.2.1∧s.2.2.length≤s.1.length) (fun s=>s.2.1.length) ([],l,[]) (by simp) ⟨rfl,by simp,by simp⟩ ?_;rintro ⟨pre,rest,a⟩ ⟨y1,y2,y4⟩;simp only at y1 y2 y4;have y3:l.length=pre.length+rest.length:=by rw [y1,zb]
 rcases rest with _|⟨⟨bU,a_⟩,rest⟩
 ·simp only [ze] at y3;simp only [fQ,List.filterMap_nil,zh] at y2;have c1:¬(pre.length:Int)<(l.length:Int):=by omega
  unfold TC;refine Ua (J2 c1 y2) ?_;simp [Sn,fQ,y2]
 ·simp only [zd] at y3;have hg:l[pre.length]?=some ⟨bU,a_⟩:=by rw [y1];simp
  have gD:=hs ⟨bU,a_⟩ (zk hg);simp only [aA.sm] at gD;obtain ⟨ai,aB⟩:=za.1 hg;have c1:(pre.length:Int)<(l.length:Int):=by omega
  have hw:=Wi ((pre.length:Int)+1);have hq:(a.length+1)*32≤70368744177664:=by omega
  have eF:=Wi ((a_.length:Int)-1);unfold TC;by_cases q:k<a_.length
  ·obtain ⟨⟨dT,dN,dS⟩,hv⟩:∃v,a_[k]?=some v:=⟨_,zi q⟩;have lE:=(za.1 hv).2;rw [aew hv] at y2;have p1:(k:Int)<(a_.length:Int):=by omega
   have p2:¬(a_.length:Int)≤(k:Int):=by omega
   have p3:(k:Int)≤(a_.length:Int)-1:=by omega
   refine Ua (J8 hg aB ai c1 hw eF hq (J6 q hv lE p1 p2 p3)) ?_;exact ⟨(pre++[⟨bU,a_⟩],rest,a++[⟨dT,dN,dS⟩]),(by simp;try omega),⟨by rw [y1];simp,y2,by simp;omega⟩,by simp⟩
  ·rw [aeu q] at y2;have p1:¬(k:Int)<(a_.length:Int):=by omega
   have p2:(a_.length:Int)≤(k:Int):=by omega
   have p3:¬(k:Int)≤(a_.length:Int)-1:=by omega
   refine Ua (J8 hg aB ai c1 hw eF q (J3 p1 p2 p3)) ?_;exact ⟨(pre++[⟨bU,a_⟩],rest,a),(by simp;try omega),⟨by rw [y1];simp,y2,by simp;omega⟩,by simp⟩
@[simp] theorem ar2 (cols:List Int) (EH:Int) (wB:List ab) (h:cols.length≤1048576) (h5:wB.length≤1048576) (hs:ab.aJ wB):Gw TT 529 [.one (rl k0 1 (cols.map ei)),.st [ri EH,rl k1 3 (wB.map ab.e)]]=some (vb (qG cols ⟨EH,wB⟩),[]):=by
 refine Ga G2 PL ?_;unfold PL;refine Ud (J3 h h5 hs) ?_ ?_;all_goals repeat intro hc
 all_goals first|(simp_all [G2,qG];done)|(simp_all [G2,qG];omega)
@[simp] theorem arZ (cols:List Int) (EH:Int) (wB:List ab) (h:cols.length≤1048576) (h5:wB.length≤1048576) (hs:ab.aJ wB):Gw TT 520 [.one (rl k0 1 (cols.map ei)),.st [ri EH,rl k1 3 (wB.map ab.e)]]=some (vb (qG cols ⟨EH,wB⟩),[]):=by
 refine Ga GZ PB ?_;unfold PB;refine Ud (J3 h h5 hs) ?_ ?_;all_goals repeat intro hc
 all_goals first|(simp_all [GZ,qG];done)|(simp_all [GZ,qG];omega)
theorem Cu {cols:List Int} {p:Option Int} {r:aA} {l:List aA} (h:¬(qG cols r=true∧r.Id≤1000000000∧EG p r.Id=true)):mS cols p (r::l)=false:=by
 simp only [mS];rw [if_neg h]
theorem Iu {cols:List Int} {p:Option Int} {r:aA} {l:List aA} (h:qG cols r=true∧r.Id≤1000000000∧EG p r.Id=true):mS cols p (r::l)=mS cols (some r.Id) l:=by
 simp only [mS];rw [if_pos h]
def BY (l:List aA):Option Int:=(l.getLast?).map (·.Id)
theorem F6 (l:List aA) (r:aA):BY (l++[r])=some r.Id:=by simp [BY]
theorem ab2 {l:List aA} {n:Nat} {r:aA} (hl:l.length=n+1) (h:l[n]?=some r) (i:Int):EG (BY l) i=decide (r.Id<i):=by
 have:l.getLast?=some r:=by rw [List.getLast?_eq_getElem?,hl];exact h
 simp [BY,this,EG]
@[simp] theorem aml (cols:List Int) (l:List aA) (h:cols.length≤1048576) (h2:l.length≤1048576) (hs:aA.aJ l):Gw TT 497 [.one (rl k0 1 (cols.map ei)),.one (rl k1 2 (l.map aA.e))]=some (vb (gG cols l),[]):=by
 refine Ga xB Pn ?_;unfold Pn;cases fT:jo cols with
 |false=>
  have hf:gG cols l=false:=by simp [gG,fT]
  refine Ud (J3 h fT hf) ?_;simp [xB,hf]
 |true=>
 by_cases hm:12<l.length
 ·have hf:gG cols l=false:=by simp [gG];intro _ _;omega
  have nV:(12:Int)<(l.length:Int):=by omega
  refine Ud (J4 h fT hf nV) ?_;simp [xB,hf]
 have nV:¬(12:Int)<(l.length:Int):=by omega
 have cX:gG cols l=mS cols none l:=by
  simp only [gG,fT];simp;intro _;omega
 refine Ud (J3 h fT nV) ?_;refine ba (σ:=List aA×List aA) (fun s=>[(0,AV.v k0 (D.sl 1 (cols.map ei)),none),(1,AV.v k1 (D.sl 2 (l.map aA.e)),none),(15,AV.v k1 (D.sl 2 (l.map aA.e)),none),(16,vn (l.length:Nat),none),(17,vn ((s.1.length:Nat):Int),none)]) (fun s=>l=s.1++s.2∧mS cols none l=mS cols (BY s.1) s.2) (fun s=>s.2.length) ([],l) (by simp) ⟨rfl,rfl⟩ ?_;rintro ⟨pre,rest⟩ ⟨y1,y2⟩;simp only at y1 y2;have y3:l.length=pre.length+rest.length:=by rw [y1,zb]
 rcases rest with _|⟨⟨bU,a_⟩,rest⟩
 ·simp only [ze] at y3;have c1:¬(pre.length:Int)<(l.length:Int):=by omega
  unfold TE;have hf:gG cols l=true:=by rw [cX,y2];try rfl
  refine Ud (J2 c1 hf) ?_;simp [xB,hf]
 ·simp only [zd] at y3;have hg:l[pre.length]?=some ⟨bU,a_⟩:=by rw [y1];simp
  have gD:=hs ⟨bU,a_⟩ (zk hg);simp only [aA.sm] at gD;obtain ⟨tF,tG⟩:=gD;obtain ⟨ai,aB⟩:=za.1 hg;have c1:(pre.length:Int)<(l.length:Int):=by omega
  have hw:=Wi ((pre.length:Int)+1);unfold TE;cases nX:qG cols ⟨bU,a_⟩ with
  |false=>
   rw [Cu (by rw [nX];simp)] at y2;have hf:gG cols l=false:=by rw [cX];exact y2
   refine Ud (J8 hg aB ai c1 hw h tF (J3 tG nX hf)) ?_;simp [xB,hf]
  |true=>
   by_cases tm:1000000000<bU
   ·rw [Cu (by simp only;omega)] at y2;have hf:gG cols l=false:=by rw [cX];exact y2
    refine Ud (J8 hg aB ai c1 hw h tF (J4 tG nX tm hf)) ?_;simp [xB,hf]
   ·by_cases yP:pre.length=0
    ·have ku:pre=[]:=zH.1 yP;rw [Iu ⟨nX,by simp only;omega,by rw [ku];rfl⟩] at y2;subst ku;simp only [ze] at hg ai aB;have c1:(0:Int)<(l.length:Int):=by omega
     have w1:IntKind.wrap .i64 1=1:=wrap_i64 (by omega) (by omega);refine Ud (J8 hg aB ai c1 w1 h tF (J3 tG nX tm)) ?_;exact ⟨([]++[⟨bU,a_⟩],rest),(by simp;try omega),⟨by rw [y1];simp,by rw [y2,F6]⟩,by simp⟩
    ·obtain ⟨m,tB⟩:∃m,pre.length=m+1:=⟨pre.length-1,by omega⟩;obtain ⟨⟨wT,Vg⟩,hz⟩:∃z,pre[m]?=some z:=⟨_,zi (by omega)⟩;have qB:l[m]?=some ⟨wT,Vg⟩:=by rw [y1,zM (by omega)];exact hz
     obtain ⟨ny,DF⟩:=za.1 qB;have xr:=ab2 tB hz bU;have q1:((m:Int)+1)-1=(m:Int):=by omega
     have q2:(0:Int)<(pre.length:Int):=by omega
     have q3:IntKind.wrap .i64 ((pre.length:Int)-1)=(m:Int):=by rw [tB];rw [show (((m+1:Nat):Int)-1)=(m:Int) by omega];exact wrap_i64 (by omega) (by omega)
     by_cases kU:wT<bU
     ·rw [Iu ⟨nX,by simp only;omega,by rw [xr];simpa using kU⟩] at y2;have q4:¬bU≤wT:=by omega
      refine Ud (J8 hg aB ai c1 hw h tF (J8 tG nX tm q2 q3 qB DF (J2 ny q4))) ?_;repeat intro hc
      exact ⟨(pre++[⟨bU,a_⟩],rest),(by simp;try omega),⟨by rw [y1];simp,by rw [y2,F6]⟩,by simp⟩
     ·rw [Cu (by rw [xr];simp;intro _ _;omega)] at y2;have q4:bU≤wT:=by omega
      have hf:gG cols l=false:=by rw [cX];exact y2
      refine Ud (J8 hg aB ai c1 hw h tF (J8 tG nX tm q2 q3 qB DF (J3 ny q4 hf))) ?_;repeat intro hc
      simp [xB,hf]
@[simp] theorem amj (cols:List Int) (l:List aA) (h:cols.length≤1048576) (h2:l.length≤1048576) (hs:aA.aJ l):Gw TT 493 [.one (rl k0 1 (cols.map ei)),.one (rl k1 2 (l.map aA.e))]=some (vb (gG cols l),[]):=by
 refine Ga Cd Pj ?_;unfold Pj;refine Ud h ?_;refine ba (σ:=List aA×List aA) (fun s=>[(0,AV.v k0 (D.sl 1 (cols.map ei)),none),(1,AV.v k1 (D.sl 2 (l.map aA.e)),none),(5,vn ((s.1.length:Nat):Int),none)]) (fun s=>l=s.1++s.2∧mS cols none l=mS cols (BY s.1) s.2) (fun s=>s.2.length) ([],l) (by simp) ⟨rfl,rfl⟩ ?_;rintro ⟨pre,rest⟩ ⟨y1,y2⟩;simp only at y1 y2;have y3:l.length=pre.length+rest.length:=by rw [y1,zb]
 rcases rest with _|⟨⟨bU,a_⟩,rest⟩
 ·simp only [ze] at y3;have c1:¬(pre.length:Int)<(l.length:Int):=by omega
  unfold TD
  have hf:gG cols l=(jo cols&&decide ((l.length:Int)≤12)):=by
   have e:decide (l.length≤12)=decide ((l.length:Int)≤12):=by simp;omega
   simp only [gG,y2,mS,Bool.and_true,e]
  refine Ud (J3 c1 h hf) ?_ ?_;all_goals repeat intro hc
  all_goals simp_all [Cd]
 ·simp only [zd] at y3;have hg:l[pre.length]?=some ⟨bU,a_⟩:=by rw [y1];simp
  have gD:=hs ⟨bU,a_⟩ (zk hg);simp only [aA.sm] at gD;obtain ⟨tF,tG⟩:=gD;obtain ⟨ai,aB⟩:=za.1 hg;have c1:(pre.length:Int)<(l.length:Int):=by omega
  have hw:=Wi ((pre.length:Int)+1);unfold TD;cases nX:qG cols ⟨bU,a_⟩ with
  |false=>
   rw [Cu (by rw [nX];simp)] at y2;have hf:gG cols l=false:=by simp [gG,y2]
   refine Ud (J8 hg aB ai c1 hw h tF (J3 tG nX hf)) ?_;simp [Cd,hf]
  |true=>
   by_cases tm:1000000000<bU
   ·rw [Cu (by simp only;omega)] at y2;have hf:gG cols l=false:=by simp [gG,y2]
    refine Ud (J8 hg aB ai c1 hw h tF (J4 tG nX tm hf)) ?_;simp [Cd,hf]
   ·by_cases yP:pre.length=0
    ·have ku:pre=[]:=zH.1 yP;rw [Iu ⟨nX,by simp only;omega,by rw [ku];rfl⟩] at y2;subst ku;simp only [ze] at hg ai aB;have c1:(0:Int)<(l.length:Int):=by omega
     have w1:IntKind.wrap .i64 1=1:=wrap_i64 (by omega) (by omega);refine Ud (J8 hg aB ai c1 w1 h tF (J3 tG nX tm)) ?_;exact ⟨([]++[⟨bU,a_⟩],rest),(by simp;try omega),⟨by rw [y1];simp,by rw [y2,F6]⟩,by simp⟩
    ·obtain ⟨m,tB⟩:∃m,pre.length=m+1:=⟨pre.length-1,by omega⟩;obtain ⟨⟨wT,Vg⟩,hz⟩:∃z,pre[m]?=some z:=⟨_,zi (by omega)⟩;have qB:l[m]?=some ⟨wT,Vg⟩:=by rw [y1,zM (by omega)];exact hz
     obtain ⟨ny,DF⟩:=za.1 qB;have xr:=ab2 tB hz bU;have q1:((m:Int)+1)-1=(m:Int):=by omega
     have q2:(0:Int)<(pre.length:Int):=by omega
     have q3:IntKind.wrap .i64 ((pre.length:Int)-1)=(m:Int):=by rw [tB];rw [show (((m+1:Nat):Int)-1)=(m:Int) by omega];exact wrap_i64 (by omega) (by omega)
     by_cases kU:wT<bU
     ·rw [Iu ⟨nX,by simp only;omega,by rw [xr];simpa using kU⟩] at y2;have q4:¬bU≤wT:=by omega
      refine Ud (J8 hg aB ai c1 hw h tF (J8 tG nX tm q2 q3 qB DF (J2 ny q4))) ?_;repeat intro hc
      exact ⟨(pre++[⟨bU,a_⟩],rest),(by simp;try omega),⟨by rw [y1];simp,by rw [y2,F6]⟩,by simp⟩
     ·rw [Cu (by rw [xr];simp;intro _ _;omega)] at y2;have q4:bU≤wT:=by omega
      have hf:gG cols l=false:=by simp [gG,y2]
      refine Ud (J8 hg aB ai c1 hw h tF (J8 tG nX tm q2 q3 qB DF (J3 ny q4 hf))) ?_;repeat intro hc
      simp [Cd,hf]
theorem WQ:∀l:List Int,(l.flatMap cI).length≤5*l.length
 |[]=>by simp
 |n::l=>by
  have:=WQ l;have:=ma n;simp only [zT,zb,zd];omega
theorem ajN {n:Int} (h:-1000000000≤n∧n≤1000000000):jK n=true:=by simp [jK,h.1,h.2]
@[simp] theorem amp (l:List Int) (h:l.length≤64) (hn:∀n∈l,-1000000000≤n∧n≤1000000000):Gw TT 530 [.one (rl k0 1 []),.one (rl k1 1 (l.map ei))]=some (.one (.own (.sl 1 ((uH l).map eb))),[]):=by
 refine Ga Sp PM ?_;unfold PM;have h69:=t69 k0 [] (by simp);simp only [zu] at h69;have c0:¬(1000000000:Int)<(l.length:Int):=by omega
 refine Ua (J2 h69 c0) ?_;refine ba (σ:=List Int×List Int) (fun s=>[(1,AV.v k1 (D.sl 1 (l.map ei)),none),(5,AV.pl 5 0 [],some (Rt.aX [C.own (D.sl 1 [])])),(16,AV.v k1 (D.sl 1 (l.map ei)),none),(17,vn (l.length:Nat),none),(18,vn ((s.1.length:Nat):Int),none)]) (fun s=>l=s.1++s.2) (fun s=>s.2.length) ([],l) (by simp) rfl ?_;rintro ⟨pre,rest⟩ y1;simp only at y1;have y3:l.length=pre.length+rest.length:=by rw [y1,zb]
 rcases rest with _|⟨d,rest⟩
 ·simp only [ze] at y3;have c1:¬(pre.length:Int)<(l.length:Int):=by omega
  have aaj:=UY true [] (l.length:Int) (by simp);have aak:=UY false [] (l.length:Int) (by simp);simp only [zu,List.nil_append] at aaj aak;unfold TJ;refine Ua (J3 c1 aaj aak) ?_;have BH:=ma (l.length:Int);refine ba (σ:=List Int×List Int×List Int) (fun s=>[(5,AV.pl 5 0 [],some (Rt.aX [C.own (D.sl 1 (s.2.2.map eb))])),(31,AV.v k1 (D.sl 1 (l.map ei)),none),(32,vn (l.length:Nat),none),(33,vn ((s.1.length:Nat):Int),none)]) (fun s=>l=s.1++s.2.1∧uH l=s.2.2++s.2.1.flatMap cI∧s.2.2.length≤5+5*s.1.length) (fun s=>s.2.1.length) ([],l,cI (l.length:Int)) (by simp) ⟨rfl,rfl,by simpa using BH⟩ ?_;rintro ⟨pre,rest,a⟩ ⟨z1,z2,z4⟩;simp only at z1 z2 z4;have z3:l.length=pre.length+rest.length:=by rw [z1,zb]
  rcases rest with _|⟨d,rest⟩
  ·simp only [ze] at z3;have c1:¬(pre.length:Int)<(l.length:Int):=by omega
   simp only [zD,zh] at z2;unfold TI;refine Ua (J2 c1 z2) ?_;simp [Sp,z2]
  ·simp only [zd] at z3;have hg:l[pre.length]?=some d:=by rw [z1];simp
   obtain ⟨ai,aB⟩:=za.1 hg;have c1:(pre.length:Int)<(l.length:Int):=by omega
   have hw:=Wi ((pre.length:Int)+1);have ha:a.length≤1048576:=by omega
   have hed:=ma d;unfold TI;refine Ua (J6 hg aB ai c1 hw ha) ?_;exact ⟨(pre++[d],rest,a++cI d),(by simp;try omega),⟨by rw [z1];simp,by rw [z2];simp,by simp only [zb,zd,ze];omega⟩,by simp⟩
 ·simp only [zd] at y3;have hg:l[pre.length]?=some d:=by rw [y1];simp
  have hnb:=ajN (hn d (zk hg));obtain ⟨ai,aB⟩:=za.1 hg;have c1:(pre.length:Int)<(l.length:Int):=by omega
  have hw:=Wi ((pre.length:Int)+1);unfold TJ;refine Ua (J6 hg aB ai c1 hw hnb) ?_;exact ⟨(pre++[d],rest),(by simp;try omega),by rw [y1];simp,by simp⟩
def uG (l:List aA) (n j:Nat):List Int:=if l.length=0 then [] else wY l n j
theorem aey (l:List aA) (j:Nat):uG l 0 j=[]:=by unfold uG wY;split<;>rfl
theorem Wc {l:List aA} (h:l.length=0) (n j:Nat):uG l n j=[]:=by unfold uG;rw [if_pos h]
theorem aex {l:List aA} (h:¬l.length=0) (n j:Nat):uG l (n+1) j=cI ((dC (fQ j l)).length:Int)++dC (fQ j l)++uG l n (j+1):=by
 unfold uG;rw [if_neg h,if_neg h];try rfl
theorem akG {cols:List Int} {l:List aA} (h:gG cols l=true):o_ cols l=uH (l.map (·.Id))++uG l cols.length 0:=by
 unfold o_ uG;rw [if_pos h]
theorem UB {cols:List Int} {l:List aA} (h:gG cols l=true):jo cols=true∧l.length≤12∧∀n∈l.map (·.Id),-1000000000≤n∧n≤1000000000:=by
 simp only [gG,zn,decide_eq_true_eq] at h;refine ⟨h.1,h.2.1,fun n hn=>?_⟩;obtain ⟨r,hr,rfl⟩:=zA.1 hn;have:=UA h.2.2 r hr;omega
theorem Fm {cols:List Int} (h:jo cols=true):1≤cols.length∧cols.length≤3:=by
 simp only [jo,zn,decide_eq_true_eq] at h;omega
@[simp] theorem amm (cols:List Int) (l:List aA) (h:cols.length≤1048576) (h2:l.length≤1048576) (hs:aA.aJ l):Gw TT 498 [.one (rl k0 1 (cols.map ei)),.one (rl k1 2 (l.map aA.e))]=some (.one (.own (.sl 1 ((o_ cols l).map eb))),[]):=by
 refine Ga GX Po ?_;unfold Po;cases cX:gG cols l with
 |false=>
  have hp:o_ cols l=[]:=by unfold o_;rw [cX];try rfl
  refine Uw (J5 h h2 hs cX hp) ?_;simp [GX,hp]
 |true=>
 obtain ⟨gL,ap7,KK⟩:=UB cX;obtain ⟨rU,C7⟩:=Fm gL;refine Uw (J4 h h2 hs cX) ?_;refine ba (σ:=List aA×List aA) (fun s=>[(0,AV.v k0 (D.sl 1 (cols.map ei)),none),(1,AV.v k1 (D.sl 2 (l.map aA.e)),none),(5,AV.pl 5 0 [],some (Rt.aX [C.own (D.sl 1 ((s.1.map (·.Id)).map ei))])),(16,AV.v k1 (D.sl 2 (l.map aA.e)),none),(17,vn (l.length:Nat),none),(18,vn ((s.1.length:Nat):Int),none)]) (fun s=>l=s.1++s.2) (fun s=>s.2.length) ([],l) (by simp) rfl ?_;rintro ⟨pre,rest⟩ y1;simp only at y1;have y3:l.length=pre.length+rest.length:=by rw [y1,zb]
 rcases rest with _|⟨⟨bU,a_⟩,rest⟩
 ·simp only [ze] at y3;simp only [zh] at y1;have c1:¬(pre.length:Int)<(l.length:Int):=by omega
  have afI:∀k0 k1:Bool,Gw TT 530 [.one (rl k0 1 []),.one (rl k1 1 ((pre.map (·.Id)).map ei))]=some (.one (.own (.sl 1 ((uH (l.map (·.Id))).map eb))),[]):=fun k0 k1=>by
   rw [←y1];exact amp k0 k1 (l.map (·.Id)) (by simp;omega) KK
  have aai:=fun k0 k1:Bool=>afI k0 k1
  simp at aai;unfold TF;refine Uw (J2 c1 aai) ?_
  have Dh:(uH (l.map (·.Id))).length≤70:=by
   have:=ma ((l.map (·.Id)).length:Int);have:=WQ (l.map (·.Id));simp only [uH,zb];rw [List.length_map] at *;omega
  refine ba (σ:=Nat×Nat×List Int) (fun s=>[(1,AV.v k1 (D.sl 2 (l.map aA.e)),none),(8,AV.pl 8 0 [],some (Rt.aX [C.own (D.sl 1 (s.2.2.map eb))])),(31,vn (cols.length:Nat),none),(32,vn (s.1:Nat),none)]) (fun s=>s.1+s.2.1=cols.length∧o_ cols l=s.2.2++uG l s.2.1 s.1∧s.2.2.length≤70+1100*s.1) (fun s=>s.2.1) (0,cols.length,uH (l.map (·.Id))) (by simp) ⟨by simp,akG cX,by simpa using Dh⟩ ?_;rintro ⟨j,n,a⟩ ⟨z1,z2,z4⟩;simp only at z1 z2 z4;rcases n with _|n
  ·have c1:¬(j:Int)<(cols.length:Int):=by omega
   rw [aey,zh] at z2;unfold H8;refine Uw (J2 c1 z2) ?_;simp [GX,z2]
  ·have c1:(j:Int)<(cols.length:Int):=by omega
   have hj:j≤1048576:=by omega
   have hw:=Wi ((j:Int)+1);by_cases h0:l.length=0
   ·have c2:¬(0:Int)<(l.length:Int):=by omega
    rw [Wc h0] at z2;have cE:l=[]:=zH.1 h0;unfold H8;refine Uw (J4 c1 hw c2 cE) ?_;exact ⟨(j+1,n,a),(by simp;try omega),⟨by simp only;omega,by rw [z2,Wc h0],by simp only;omega⟩,by simp⟩
   ·have c2:(0:Int)<(l.length:Int):=by omega
    rw [aex h0] at z2;have aD:(fQ j l).length≤1048576:=Nat.le_trans (aet j l) h2;have fY:=aev (k:=j) hs;have ha:a.length≤1048576:=by omega
    have hec:=aeR (fQ j l);have BH:=ma ((dC (fQ j l)).length:Int);have hq:a.length+(cI ((dC (fQ j l)).length:Int)).length+(dC (fQ j l)).length≤70368744177664:=by omega
    have mf:a.length+((cI ((dC (fQ j l)).length:Int)).length+(dC (fQ j l)).length)≤70368744177664:=by omega
    have oO:lq (zg eb (dC (fQ j l)))=true:=by simp [lq]
    have cE:¬l=[]:=fun e=>h0 (by rw [e];rfl)
    unfold H8;refine Uw (J8 c1 hw c2 cE h2 hs hj (J5 aD fY ha hq mf)) ?_ ?_;all_goals repeat intro hc
    all_goals first|exact absurd ‹l=[]› cE|exact ⟨(j+1,n,a++cI ((dC (fQ j l)).length:Int)++dC (fQ j l)),(by simp;try omega),⟨by simp only;omega,by rw [z2];simp,by simp only [zb];omega⟩,by simp⟩
 ·simp only [zd] at y3;have hg:l[pre.length]?=some ⟨bU,a_⟩:=by rw [y1];simp
  obtain ⟨ai,aB⟩:=za.1 hg;have c1:(pre.length:Int)<(l.length:Int):=by omega
  have hw:=Wi ((pre.length:Int)+1);have hq:(pre.length+1)*8≤70368744177664:=by omega
  unfold TF;refine Uw (J6 hg aB ai c1 hw hq) ?_;exact ⟨(pre++[⟨bU,a_⟩],rest),(by simp;try omega),by rw [y1];simp,by simp⟩
def FG (r:Option (List aA)):V:=match r with
 |some l=>.cf [.one (.own (.sl 2 (l.map aA.e))),vb true]
 |none=>.cf [.one (.own (.sl 2 [])),vb false]
@[simp] theorem ao1 (l:List aA):FG (some l)=.cf [.one (.own (.sl 2 (l.map aA.e))),vb true]:=rfl
@[simp] theorem ao0:FG none=.cf [.one (.own (.sl 2 [])),vb false]:=rfl
theorem Wa:∀{l:List Int},rM l=true→∀p∈l,p=1∨p=2
 |[],_,p,h=>by simp at h
 |q::l,hb,p,h=>by
  simp only [rM] at hb;split at hb
  ·cases hb
  ·rcases zj.1 h with rfl|h
   ·omega
   ·exact Wa hb p h
theorem Wd {l:List Int} (h:jo l=true):∀p∈l,p=1∨p=2:=by
 simp only [jo,zn] at h;exact Wa h.1
theorem WU {b:List Int} {m ty u:Int} {cs:List Int} {rows:List aA} (h:gN b u=none):ng b m (ty::cs) u rows=none:=by
 simp only [ng,h]
theorem WV {b:List Int} {m ty u n t:Int} {cs:List Int} {rows:List aA} (h:gN b u=some (n,t)) (h2:¬(0≤n∧n≤(b.length:Int)-t)):ng b m (ty::cs) u rows=none:=by
 simp only [ng,h];rw [if_neg h2]
theorem WW {b:List Int} {m ty u n t:Int} {cs:List Int} {rows:List aA} (h:gN b u=some (n,t)) (h2:0≤n∧n≤(b.length:Int)-t) (h3:fh (k_ b t n) ty m=none):ng b m (ty::cs) u rows=none:=by
 simp only [ng,h];rw [if_pos h2,h3]
theorem WX {b:List Int} {m ty u n t:Int} {cs:List Int} {rows:List aA} {vs:List ab} (h:gN b u=some (n,t)) (h2:0≤n∧n≤(b.length:Int)-t) (h3:fh (k_ b t n) ty m=some vs):ng b m (ty::cs) u rows=ng b m cs (t+n) (jD rows vs):=by
 simp only [ng,h];rw [if_pos h2,h3]
theorem Wf {b:List Int} {ty k:Int} {l:List ab} (hb:bI b) (fN:ty=1∨ty=2) (h:fh b ty k=some l):ab.aJ l:=by
 have:=(Ft hb h).2.1;exact IE (by omega)
theorem I' {j:Nat} (hj:j<1048576):∀{rows:List aA} {vs:List ab},rJ j rows→aA.aJ rows→ab.aJ vs→aA.aJ (jD rows vs)
 |[],_,_,_,_=>fun r hr=>by simp [jD] at hr
 |_::_,[],_,_,_=>fun r hr=>by simp [jD] at hr
 |r::rows,v::vs,ha,hr,hv=>fun x hx=>by
  simp only [jD] at hx;rcases zj.1 hx with rfl|hx
  ·have h1:=ha r (by simp);have h2:=hr r (by simp);refine ⟨by simp;omega,fun y hy=>?_⟩;simp only [zz,List.mem_singleton] at hy;rcases hy with hy|rfl
   ·exact h2.2 y hy
   ·exact hv y (by simp)
  ·exact I' hj (rows:=rows) (vs:=vs) (fun y hy=>ha y (by simp [hy])) (fun y hy=>hr y (by simp [hy])) (fun y hy=>hv y (by simp [hy])) x hx
theorem acr (ids:List Int):rJ 0 (gP ids):=fun r hr=>by
 simp only [gP,zA] at hr;obtain ⟨i,_,rfl⟩:=hr;rfl
theorem acs (ids:List Int):aA.aJ (gP ids):=fun r hr=>by
 simp only [gP,zA] at hr;obtain ⟨i,_,rfl⟩:=hr;exact ⟨by simp,fun v hv=>by simp at hv⟩
theorem VA (vs:List ab):jD [] vs=[]:=rfl
theorem W5 {cols b:List Int} (h:jq b 0=none):dn cols b=none:=by unfold dn;rw [h]
theorem J9 {cols b:List Int} (h:¬jo cols=true):dn cols b=none:=by
 unfold dn;split
 ·rw [if_neg h]
 ·rfl
theorem yt {cols b ids:List Int} {u:Int} (h:jq b 0=some (ids,u)) (h2:nf b cols u ids=none):dn cols b=none:=by
 unfold dn;rw [h];simp only;rw [h2];split<;>rfl
theorem qT {cols b ids:List Int} {u t:Int} {rows:List aA} (h:jq b 0=some (ids,u)) (h1:jo cols=true) (h2:nf b cols u ids=some (rows,t)):dn cols b=if t=(b.length:Int)∧gG cols rows=true then some rows else none:=by
 unfold dn;rw [h];simp only;rw [h2,if_pos h1]
theorem aff {cols b ids:List Int} {u:Int} (hb:bI b) (h:jq b 0=some (ids,u)) (h2:12<ids.length):dn cols b=none:=by
 by_cases h1:jo cols=true
 ·cases hg:nf b cols u ids with
  |none=>exact yt h hg
  |some q=>
   obtain ⟨rows,t⟩:=q;have hl:=ae9 hb h hg;rw [qT h h1 hg,if_neg];intro e;have:=(UB e.2).2.1;omega
 ·exact J9 h1
end Go.Proofs.YtohlfelngklcfaaGreat.OM
