/- A part of the proof. -/
import Derived.Test.YtohlfelngklcfaaGreatXFLm0
set_option linter.all false
namespace Go.Proofs.YtohlfelngklcfaaGreat.OM
open List renaming getElem?_eq_some_iff→za,length_append→zb,length_cons→zd,length_nil→zf,map→zg,append_nil→zh,getElem?_eq_getElem→zi,mem_cons→zj,mem_of_getElem?→zm,replicate→zo,pairwise_cons→zt,append_assoc→zx,length_drop→zy,drop→zz,getElem?_eq_none→zA,mem_append→zB,take_of_length_le→zD,take→zF,map_nil→zG,flatMap_nil→zJ,map_drop→zK,mem_map→zN,replicate_succ'→zO,map_append→zQ,length→zR,drop_of_length_le→zS,length_take→zT,getElem?_append_left→zW,filterMap_cons_some→z_,drop_drop→Zb,drop_zero→Zd,take_append_drop→Ze,set_append_right→Zf,length_pos_iff→Zg,filterMap_cons→Zh,flatMap_cons→Zk,mem_flatMap→Zm,cons_append→Zn,take_left→Zq,map_take→Zr
open Int renaming eq_ofNat_of_zero_le→ze,toNat_natCast→zq,add_sub_cancel→zw,tdiv_eq_ediv_of_nonneg→zP,fdiv_eq_ediv_of_nonneg→zU,tmod_eq_emod_of_nonneg→zV,toNat_zero→Zc,le_refl→Zl,natCast_add→Zo
open Option.some renaming injEq→zk
open Nat renaming mul_le_mul→zn,pow_le_pow_right→zp,or_lt_two_pow→zH,sub_self→zI,lt_of_lt_of_le→zL,le_refl→zM,le_trans→zX,succ_mul→zY,zero_add→zZ,two_pow_pos→Za,pow_succ→Zi,div_le_self→Zp
open Prod.mk renaming injEq→zr
open Bool renaming and_eq_true→zu,eq_false_iff→Zj
open Decidable renaming not_not→zC
open UInt8 renaming not_lt→Zt,ofNat→Zu
set_option maxHeartbeats 4000000
set_option maxRecDepth 100000
variable (x:Nat) (k0:Bool) (s:ByteArray) (kind:Int) (k1:Bool) (slots:Int) (ab:List Int) (d:List aa) (bC:Int) (b:List Int) (mc:Int) (bh:List aj) (n u w cy gI i ty cx fD:Int) (v:List aa) (k:Int) (bt:ByteArray) (ep:List aj) (l:List aa) (mf:Int) (du:List Int) (me:Int) (od:ByteArray)
def lZ (b:List Int):Nat→Nat→Nat→Nat→Nat
 |0,_,_,a=>a
 |r+1,p,j,a=>lZ b r (p+1) (j+1) (a ||| gL b p*2^j)
def kW (b:List Int) (w:Nat):Nat→Nat→List Int
 |0,_=>[]
 |r+1,i=>((lZ b w (i*w) 0 0:Nat):Int)::kW b w r (i+1)
def mg (b:List Int):Nat→Nat→Bool
 |0,_=>true
 |r+1,p=>if gL b p=0 then mg b r (p+1) else false
theorem OL (b:List Int) (w:Nat):∀(r i:Nat),(kW b w r i).length=r
 |0,i=>rfl
 |r+1,i=>by simp [kW,OL b w r (i+1)]
def eG (b:List Int) (w k:Int):Option (List Int):=if ((0≤w∧w≤31)∧(0≤k∧k≤64))∧(b.length:Int)=je k w then
 (if mg b (8*b.length-k.toNat*w.toNat) (k.toNat*w.toNat)=true then some (kW b w.toNat k.toNat 0) else none) else none
def tv (r:Option (List Int)):V:=match r with
 |some l=>.a_ [.one (.own (.sl 1 (l.map ei))),vb true]
 |none=>.a_ [.one (.own (.sl 1 [])),vb false]
@[simp] theorem ab0 (l:List Int):tv (some l)=.a_ [.one (.own (.sl 1 (l.map ei))),vb true]:=rfl
@[simp] theorem abZ:tv none=.a_ [.one (.own (.sl 1 [])),vb false]:=rfl
theorem Ed (b:List Int):∀(r p j a:Nat),a<2^j→lZ b r p j a<2^(j+r)
 |0,p,j,a,h=>h
 |r+1,p,j,a,h=>by
  simp only [lZ]
  have h1:gL b p*2^j<2^(j+1):=by
   have:=ur b p;have h2:gL b p*2^j≤1*2^j:=zn this (zM _);have:=Za j;rw [Zi];omega
  have:=Ed b r (p+1) (j+1) (a ||| gL b p*2^j) (zH (zL h (zp (by omega) (by omega))) h1);rw [show j+(r+1)=j+1+r by omega];exact this
@[simp] theorem adi (h:b.length≤1048576) (hb:aZ b):Gw TT 554 [.one (.ro k0 (.sl 1 (b.map eb))),vi w,vi k]=some (tv (eG b w k),[]):=by
 refine Ga rY Gd ?_;unfold Gd;by_cases q1:0≤w∧w≤31
 ·by_cases q2:0≤k∧k≤64
  ·by_cases q3:(b.length:Int)=je k w
   ·obtain ⟨wn,rfl⟩:=ze q1.1;obtain ⟨kn,rfl⟩:=ze q2.1;have q4:(wn:Int)≤31:=q1.2;have q5:(kn:Int)≤64:=q2.2;have C6:je (kn:Int) (wn:Int)=((kn:Int)*(wn:Int)+7)/8:=by simp [je,q4,q5]
    obtain ⟨T,hT⟩:∃T,T=kn*wn:=⟨_,rfl⟩;have q7:(kn:Int)*(wn:Int)=(T:Int):=by rw [hT];simp
    have LS:T≤64*31:=by rw [hT];exact zn (by omega) (by omega)
    have hlen:b.length=(T+7)/8:=by rw [C6,q7] at q3;omega
    have cK:eG b (wn:Int) (kn:Int)=if mg b (8*b.length-T) T=true then some (kW b wn kn 0) else none:=by
     unfold eG;rw [if_pos ⟨⟨q1,q2⟩,q3⟩];simp [hT]
    refine Ud (J5 q4 q5 q3 h hb) ?_;refine ba (σ:=List Int×Nat) (fun s=>[(0,AV.v k0 (D.sl 1 (b.map eb)),none),(1,AV.v false (di (wn:Nat)),none),(2,AV.v false (di (kn:Nat)),none),(8,AV.pl 8 0 [],some (Rt.an [C.own (D.sl 1 ((s.1).map ei))])),(9,AV.v false (di (s.2:Nat)),none)]) (fun s=>s.2≤kn∧s.1.length=s.2∧kW b wn kn 0=s.1++kW b wn (kn-s.2) s.2) (fun s=>kn-s.2) ([],0) (by simp) ⟨by simp,rfl,by simp⟩ ?_;rintro ⟨a,i⟩ ⟨y1,y2,y3⟩;simp only at y1 y2 y3;by_cases c1:i=kn
    ·subst c1;have c2:¬(i:Int)<(i:Int):=by omega
     simp only [zI,kW,zh] at y3;have C2:IntKind.wrap .i64 ((i:Int)*(wn:Int))=(T:Int):=by rw [q7];exact wrap_i64 (by omega) (by omega)
     unfold II;refine Ud C2 ?_;refine ba (σ:=Nat) (fun s=>[(0,AV.v k0 (D.sl 1 (b.map eb)),none),(8,AV.pl 8 0 [],some (Rt.an [C.own (D.sl 1 ((a).map ei))])),(12,AV.v false (di (s:Nat)),none)]) (fun s=>s≤8*b.length∧mg b (8*b.length-T) T=mg b (8*b.length-s) s) (fun s=>8*b.length-s) T (by simp) ⟨by omega,rfl⟩ ?_;rintro p ⟨x1,x2⟩;have w8:=Wi (8*(b.length:Int));by_cases e1:p=8*b.length
     ·have e2:¬(p:Int)<8*(b.length:Int):=by omega
      rw [e1,zI] at x2;simp only [mg] at x2;rw [if_pos x2] at cK;unfold A4;refine Ud (J3 w8 e2 cK) ?_;simp [rY,cK,y3]
     ·have e2:(p:Int)<8*(b.length:Int):=by omega
      have d_:=Wi ((p:Int)+1);rw [show 8*b.length-p=(8*b.length-(p+1))+1 by omega] at x2;simp only [mg] at x2;have rz:p≤4611686018427387904:=by omega
      have oF:=ur b p;by_cases e3:gL b p=0
      ·rw [if_pos e3] at x2;unfold A4;refine Ud (J7 w8 e2 d_ h hb rz e3) ?_;exact ⟨p+1,by simp,⟨by omega,x2⟩,by show 8*b.length-(p+1)<8*b.length-p;omega⟩
      ·rw [if_neg e3] at x2;rw [if_neg (by rw [x2];simp)] at cK;unfold A4;refine Ud (J8 w8 e2 d_ h hb rz e3 cK) ?_;repeat intro hc
       simp [rY,cK]
    ·have c2:(i:Int)<(kn:Int):=by omega
     have hs:kn-i=(kn-(i+1))+1:=by omega
     rw [hs] at y3;simp only [kW] at y3;obtain ⟨R,hR⟩:∃R,R=lZ b wn (i*wn) 0 0:=⟨_,rfl⟩;obtain ⟨P,hP⟩:∃P,P=i*wn:=⟨_,rfl⟩;have CX:(i:Int)*(wn:Int)=(P:Int):=by rw [hP];simp
     have Rc:P≤64*31:=by rw [hP];exact zn (by omega) (by omega)
     have d_:=Wi ((i:Int)+1);have CY:IntKind.wrap .i64 ((i:Int)*(wn:Int))=(P:Int):=by rw [CX];exact wrap_i64 (by omega) (by omega)
     rw [←hR] at y3;rw [←hP] at hR
     have Rd:R<2^31:=by
      have:=Ed b wn P 0 0 (by simp);rw [←hR] at this;exact zL this (zp (by omega) (by omega))
     unfold II;refine Ud c2 ?_;refine ba (σ:=Nat×Nat) (fun s=>[(0,AV.v k0 (D.sl 1 (b.map eb)),none),(1,AV.v false (di (wn:Nat)),none),(2,AV.v false (di (kn:Nat)),none),(8,AV.pl 8 0 [],some (Rt.an [C.own (D.sl 1 ((a).map ei))])),(9,AV.v false (di (i:Nat)),none),(10,AV.v false (di (s.2:Nat)),none),(11,AV.v false (di (s.1:Nat)),none)]) (fun s=>s.1≤wn∧s.2<2^s.1∧R=lZ b (wn-s.1) (P+s.1) s.1 s.2) (fun s=>wn-s.1) (0,0) (by simp) ⟨by simp,by simp,by simpa using hR⟩ ?_;rintro ⟨j,x⟩ ⟨x1,x2,x3⟩;simp only at x1 x2 x3;by_cases e1:j=wn
     ·subst e1;have e2:¬(j:Int)<(j:Int):=by omega
      simp only [zI,lZ] at x3;subst x3;have hq:(a.length+1)*8≤70368744177664:=by omega
      unfold IH;refine Ud (J2 d_ hq) ?_;exact ⟨(a++[(R:Int)],i+1),by simp,⟨by omega,by simp [y2],by rw [y3];simp⟩,by show kn-(i+1)<kn-i;omega⟩
     ·have e2:(j:Int)<(wn:Int):=by omega
      rw [show wn-j=(wn-(j+1))+1 by omega] at x3;simp only [lZ] at x3;have bq:=WN k0 b (P+j) h hb (by omega);simp only [Zo] at bq;have oF:=ur b (P+j);generalize gL b (P+j)=v at *;obtain ⟨t,ht⟩:∃t,t=v*2^j:=⟨_,rfl⟩;have Dl:(2:Nat)^j≤2^30:=zp (by omega) (by omega);have vo:t≤2^30:=by rw [ht];exact zX (zn oF Dl) (by simp)
      have z1:=Wi ((P:Int)+(j:Int));have z2:min j IntKind.i64.bits=j:=by simp [IntKind.bits];omega
      have z3:IntKind.wrap .i64 ((v:Int)*2^j)=(t:Int):=by rw [show (v:Int)*2^j=(t:Int) by rw [ht];simp];exact wrap_i64 (by omega) (by omega)
      rw [←ht] at x3;have RX:(2:Nat)^(j+1)=2*2^j:=by rw [Zi];omega
      have DP:t<2^(j+1):=by
       have:t≤1*2^j:=by rw [ht];exact zn oF (zM _)
       have:=Za j;omega
      have mQ:x ||| t<2^(j+1):=zH (by omega) DP
      have Sp:x ||| t<2^31:=zL mQ (zp (by omega) (by omega))
      have z4:x%2^IntKind.i64.bits=x:=by simp only [IntKind.bits];omega
      have z5:t%2^IntKind.i64.bits=t:=by simp only [IntKind.bits];omega
      have z6:IntKind.wrap .i64 ((x ||| t:Nat):Int)=((x ||| t:Nat):Int):=wrap_i64 (by omega) (by omega);have z7:=Wi ((j:Int)+1);have z0:¬(j:Int)<0:=by omega
      unfold IH;refine Ud (J8 e2 CY z0 z1 bq z2 z3 (J4 z4 z5 z6 z7)) ?_;exact ⟨(j+1,x ||| t),by simp,⟨by omega,mQ,by rw [x3];rfl⟩,by show wn-(j+1)<wn-j;omega⟩
   ·have hn:eG b w k=none:=by unfold eG;rw [if_neg (fun e=>q3 e.2)]
    refine Ud (J6 q1.1 q1.2 q2.1 q2.2 q3 hn) ?_;repeat intro hc
    simp [rY,hn]
  ·have hn:eG b w k=none:=by unfold eG;rw [if_neg (fun e=>q2 e.1.2)]
   refine Ud (J3 q1.1 q1.2 hn) ?_;repeat intro hc
   simp [rY,hn]
 ·have hn:eG b w k=none:=by unfold eG;rw [if_neg (fun e=>q1 e.1.1)]
  refine Ud hn ?_;repeat intro hc
  simp [rY,hn]
@[simp] theorem ac9 (h:b.length≤1048576) (hb:aZ b):Gw TT 541 [.one (.ro k0 (.sl 1 (b.map eb))),vi w,vi k]=some (tv (eG b w k),[]):=by
 refine Ga rW F1 ?_;unfold F1;by_cases q1:0≤w∧w≤31
 ·by_cases q2:0≤k∧k≤64
  ·by_cases q3:(b.length:Int)=je k w
   ·obtain ⟨wn,rfl⟩:=ze q1.1;obtain ⟨kn,rfl⟩:=ze q2.1;have q4:(wn:Int)≤31:=q1.2;have q5:(kn:Int)≤64:=q2.2;have C6:je (kn:Int) (wn:Int)=((kn:Int)*(wn:Int)+7)/8:=by simp [je,q4,q5]
    obtain ⟨T,hT⟩:∃T,T=kn*wn:=⟨_,rfl⟩;have q7:(kn:Int)*(wn:Int)=(T:Int):=by rw [hT];simp
    have LS:T≤64*31:=by rw [hT];exact zn (by omega) (by omega)
    have hlen:b.length=(T+7)/8:=by rw [C6,q7] at q3;omega
    have cK:eG b (wn:Int) (kn:Int)=if mg b (8*b.length-T) T=true then some (kW b wn kn 0) else none:=by
     unfold eG;rw [if_pos ⟨⟨q1,q2⟩,q3⟩];simp [hT]
    refine Ud (J5 q4 q5 q3 h hb) ?_;refine ba (σ:=List Int×Nat) (fun s=>[(0,AV.v k0 (D.sl 1 (b.map eb)),none),(1,AV.v false (di (wn:Nat)),none),(2,AV.v false (di (kn:Nat)),none),(8,AV.pl 8 0 [],some (Rt.an [C.own (D.sl 1 ((s.1).map ei))])),(9,AV.v false (di (s.2:Nat)),none)]) (fun s=>s.2≤kn∧s.1.length=s.2∧kW b wn kn 0=s.1++kW b wn (kn-s.2) s.2) (fun s=>kn-s.2) ([],0) (by simp) ⟨by simp,rfl,by simp⟩ ?_;rintro ⟨a,i⟩ ⟨y1,y2,y3⟩;simp only at y1 y2 y3;by_cases c1:i=kn
    ·subst c1;have c2:¬(i:Int)<(i:Int):=by omega
     simp only [zI,kW,zh] at y3;have C2:IntKind.wrap .i64 ((i:Int)*(wn:Int))=(T:Int):=by rw [q7];exact wrap_i64 (by omega) (by omega)
     unfold IA;refine Ud C2 ?_;refine ba (σ:=Nat) (fun s=>[(0,AV.v k0 (D.sl 1 (b.map eb)),none),(8,AV.pl 8 0 [],some (Rt.an [C.own (D.sl 1 ((a).map ei))])),(12,AV.v false (di (s:Nat)),none)]) (fun s=>s≤8*b.length∧mg b (8*b.length-T) T=mg b (8*b.length-s) s) (fun s=>8*b.length-s) T (by simp) ⟨by omega,rfl⟩ ?_;rintro p ⟨x1,x2⟩;have w8:=Wi (8*(b.length:Int));by_cases e1:p=8*b.length
     ·have e2:¬(p:Int)<8*(b.length:Int):=by omega
      rw [e1,zI] at x2;simp only [mg] at x2;rw [if_pos x2] at cK;unfold AX;refine Ud (J3 w8 e2 cK) ?_;simp [rW,cK,y3]
     ·have e2:(p:Int)<8*(b.length:Int):=by omega
      have d_:=Wi ((p:Int)+1);rw [show 8*b.length-p=(8*b.length-(p+1))+1 by omega] at x2;simp only [mg] at x2;have rz:p≤4611686018427387904:=by omega
      have oF:=ur b p;by_cases e3:gL b p=0
      ·rw [if_pos e3] at x2;unfold AX;refine Ud (J7 w8 e2 d_ h hb rz e3) ?_;exact ⟨p+1,by simp,⟨by omega,x2⟩,by show 8*b.length-(p+1)<8*b.length-p;omega⟩
      ·rw [if_neg e3] at x2;rw [if_neg (by rw [x2];simp)] at cK;unfold AX;refine Ud (J8 w8 e2 d_ h hb rz e3 cK) ?_;repeat intro hc
       simp [rW,cK]
    ·have c2:(i:Int)<(kn:Int):=by omega
     have hs:kn-i=(kn-(i+1))+1:=by omega
     rw [hs] at y3;simp only [kW] at y3;obtain ⟨R,hR⟩:∃R,R=lZ b wn (i*wn) 0 0:=⟨_,rfl⟩;obtain ⟨P,hP⟩:∃P,P=i*wn:=⟨_,rfl⟩;have CX:(i:Int)*(wn:Int)=(P:Int):=by rw [hP];simp
     have Rc:P≤64*31:=by rw [hP];exact zn (by omega) (by omega)
     have d_:=Wi ((i:Int)+1);have CY:IntKind.wrap .i64 ((i:Int)*(wn:Int))=(P:Int):=by rw [CX];exact wrap_i64 (by omega) (by omega)
     rw [←hR] at y3;rw [←hP] at hR
     have Rd:R<2^31:=by
      have:=Ed b wn P 0 0 (by simp);rw [←hR] at this;exact zL this (zp (by omega) (by omega))
     unfold IA;refine Ud c2 ?_;refine ba (σ:=Nat×Nat) (fun s=>[(0,AV.v k0 (D.sl 1 (b.map eb)),none),(1,AV.v false (di (wn:Nat)),none),(2,AV.v false (di (kn:Nat)),none),(8,AV.pl 8 0 [],some (Rt.an [C.own (D.sl 1 ((a).map ei))])),(9,AV.v false (di (i:Nat)),none),(10,AV.v false (di (s.2:Nat)),none),(11,AV.v false (di (s.1:Nat)),none)]) (fun s=>s.1≤wn∧s.2<2^s.1∧R=lZ b (wn-s.1) (P+s.1) s.1 s.2) (fun s=>wn-s.1) (0,0) (by simp) ⟨by simp,by simp,by simpa using hR⟩ ?_;rintro ⟨j,x⟩ ⟨x1,x2,x3⟩;simp only at x1 x2 x3;by_cases e1:j=wn
     ·subst e1;have e2:¬(j:Int)<(j:Int):=by omega
      simp only [zI,lZ] at x3;subst x3;have hq:(a.length+1)*8≤70368744177664:=by omega
      unfold Iz;refine Ud (J2 d_ hq) ?_;exact ⟨(a++[(R:Int)],i+1),by simp,⟨by omega,by simp [y2],by rw [y3];simp⟩,by show kn-(i+1)<kn-i;omega⟩
     ·have e2:(j:Int)<(wn:Int):=by omega
      rw [show wn-j=(wn-(j+1))+1 by omega] at x3;simp only [lZ] at x3;have bq:=WL k0 b (P+j) h hb (by omega);simp only [Zo] at bq;have oF:=ur b (P+j);generalize gL b (P+j)=v at *;obtain ⟨t,ht⟩:∃t,t=v*2^j:=⟨_,rfl⟩;have Dl:(2:Nat)^j≤2^30:=zp (by omega) (by omega);have vo:t≤2^30:=by rw [ht];exact zX (zn oF Dl) (by simp)
      have z1:=Wi ((P:Int)+(j:Int));have z2:min j IntKind.i64.bits=j:=by simp [IntKind.bits];omega
      have z3:IntKind.wrap .i64 ((v:Int)*2^j)=(t:Int):=by rw [show (v:Int)*2^j=(t:Int) by rw [ht];simp];exact wrap_i64 (by omega) (by omega)
      rw [←ht] at x3;have RX:(2:Nat)^(j+1)=2*2^j:=by rw [Zi];omega
      have DP:t<2^(j+1):=by
       have:t≤1*2^j:=by rw [ht];exact zn oF (zM _)
       have:=Za j;omega
      have mQ:x ||| t<2^(j+1):=zH (by omega) DP
      have Sp:x ||| t<2^31:=zL mQ (zp (by omega) (by omega))
      have z4:x%2^IntKind.i64.bits=x:=by simp only [IntKind.bits];omega
      have z5:t%2^IntKind.i64.bits=t:=by simp only [IntKind.bits];omega
      have z6:IntKind.wrap .i64 ((x ||| t:Nat):Int)=((x ||| t:Nat):Int):=wrap_i64 (by omega) (by omega);have z7:=Wi ((j:Int)+1);have z0:¬(j:Int)<0:=by omega
      unfold Iz;refine Ud (J8 e2 CY z0 z1 bq z2 z3 (J4 z4 z5 z6 z7)) ?_;exact ⟨(j+1,x ||| t),by simp,⟨by omega,mQ,by rw [x3];rfl⟩,by show wn-(j+1)<wn-j;omega⟩
   ·have hn:eG b w k=none:=by unfold eG;rw [if_neg (fun e=>q3 e.2)]
    refine Ud (J6 q1.1 q1.2 q2.1 q2.2 q3 hn) ?_;repeat intro hc
    simp [rW,hn]
  ·have hn:eG b w k=none:=by unfold eG;rw [if_neg (fun e=>q2 e.1.2)]
   refine Ud (J3 q1.1 q1.2 hn) ?_;repeat intro hc
   simp [rW,hn]
 ·have hn:eG b w k=none:=by unfold eG;rw [if_neg (fun e=>q1 e.1.1)]
  refine Ud hn ?_ ?_;all_goals repeat intro hc
  all_goals simp [rW,hn]
def nf (o:List Int) (q t:Nat):List Int:=match o[q]? with
 |some c=>o.set q ((c.toNat ||| t:Nat):Int)
 |none=>o
def grow (o:List Int) (n:Nat):List Int:=if n%8=0 then o++[0] else o
def ly (o:List Int) (n v:Nat):List Int:=nf (grow o n) (n/8) (v*2^(n%8))
def kR (x:Nat):Nat→Nat→List Int→Nat→List Int
 |0,_,o,_=>o
 |r+1,k,o,n=>kR x r (k+1) (ly o n (x/2^k%2)) (n+1)
def jn (w:Nat):List Int→List Int→Nat→List Int
 |[],o,_=>o
 |n::l,o,p=>jn w l (kR n.toNat w 0 o p) (p+w)
def fc (l:List Int) (w:Int):List Int:=if gQ w l=true∧(0≤w∧w≤31) then jn w.toNat l [] 0 else []
theorem Na (o:List Int) (q t:Nat):(nf o q t).length=o.length:=by unfold nf;split<;>simp
theorem CL {o:List Int} {n:Nat} (h:o.length=(n+7)/8):(grow o n).length=(n+8)/8:=by
 unfold grow;split
 ·simp;omega
 ·omega
theorem Ju {o:List Int} {n v:Nat} (h:o.length=(n+7)/8):(ly o n v).length=(n+1+7)/8:=by
 unfold ly;rw [Na,CL h]
theorem AK (x:Nat):∀(r k:Nat) (o:List Int) (n:Nat),o.length=(n+7)/8→(kR x r k o n).length=(n+r+7)/8
 |0,k,o,n,h=>h
 |r+1,k,o,n,h=>by
  simp only [kR];rw [AK x r (k+1) _ (n+1) (Ju h)];congr 1;omega
theorem Np (w:Nat):∀(l o:List Int) (p:Nat),o.length=(p+7)/8→(jn w l o p).length=(p+l.length*w+7)/8
 |[],o,p,h=>by simp [jn,h]
 |n::l,o,p,h=>by
  simp only [jn];rw [Np w l _ (p+w) (AK _ w 0 o p h)];congr 1;simp [zY];omega
theorem UT {o:List Int} {q t:Nat} (h:aZ o) (ht:t≤255):aZ (nf o q t):=by
 unfold nf;split
 ·rename_i c hc;intro y hy;rcases List.mem_or_eq_of_mem_set hy with hy|rfl
  ·exact h y hy
  ·have h1:=h c (zm hc);have:c.toNat ||| t<2^8:=zH (by omega) (by omega)
   omega
 ·exact h
theorem JZ {v m:Nat} (hv:v≤1) (hm:m≤7):v*2^m≤128:=by
 have h1:(2:Nat)^m≤2^7:=zp (by omega) hm;have h2:v*2^m≤1*2^7:=zn hv h1;omega
theorem Ly {o:List Int} {n:Nat} (h:aZ o):aZ (grow o n):=by
 unfold grow;split
 ·intro y hy;rcases zB.1 hy with hy|hy
  ·exact h y hy
  ·simp at hy;omega
 ·exact h
theorem Jv {o:List Int} {n v:Nat} (h:aZ o) (hv:v≤1):aZ (ly o n v):=
 UT (Ly h) (zX (JZ hv (by omega)) (by omega))
theorem AM (x:Nat):∀(r k:Nat) (o:List Int) (n:Nat),aZ o→aZ (kR x r k o n)
 |0,k,o,n,h=>h
 |r+1,k,o,n,h=>by
  simp only [kR];exact AM x r (k+1) _ (n+1) (Jv h (by omega))
theorem Nq (w:Nat):∀(l o:List Int) (p:Nat),aZ o→aZ (jn w l o p)
 |[],o,p,h=>h
 |n::l,o,p,h=>by
  simp only [jn];exact Nq w l _ (p+w) (AM _ w 0 o p h)
theorem kC:aZ []:=fun c hc=>by simp at hc
theorem Nk (l:List Int) (w:Int):aZ (fc l w):=by
 unfold fc;split
 ·exact Nq _ _ _ _ kC
 ·exact kC
theorem tz (l:List Int) (w:Int):(fc l w).length≤(l.length*31+7)/8:=by
 unfold fc;split
 ·rename_i h;rw [Np _ l [] 0 (by simp)];have:l.length*w.toNat≤l.length*31:=zn (zM _) (by omega);omega
 ·simp
def ig (L:Nat) (o:List Int):List Int:=o++zo (L-o.length) 0
theorem U8 {L:Nat} {o:List Int} (h:o.length≤L):(ig L o).length=L:=by simp [ig];omega
theorem US {a b:List Int} {q t:Nat} (h:q<a.length):nf (a++b) q t=nf a q t++b:=by
 unfold nf;rw [zW h,zi h];simp only;rw [List.set_append_left _ _ h]
theorem U9 {L:Nat} {o:List Int} {n v:Nat} (h:o.length=(n+7)/8) (hL:(n+8)/8≤L):ig L (ly o n v)=nf (ig L o) (n/8) (v*2^(n%8)):=by
 have hg:=CL h
 have h1:ig L o=ig L (grow o n):=by
  unfold grow;split
  ·simp only [ig,zb,zd,zf,zx];congr 1;rw [show L-o.length=(L-(o.length+(0+1)))+1 by omega,List.replicate_succ];rfl
  ·rfl
 rw [h1];unfold ly;rw [ig,Na]
 conv=>rhs;rw [ig]
 rw [US (by omega)]
theorem Cu {w:Int}:∀{l:List Int},gQ w l=true→∀n∈l,0≤n∧n≤2147483647
 |[],_,n,hn=>by simp at hn
 |x::l,h,n,hn=>by
  simp only [gQ] at h;split at h
  ·rename_i hx;rcases zj.1 hn with rfl|hn
   ·exact hx.1
   ·exact Cu h n hn
  ·cases h
@[simp] theorem adu (l:List Int) (w:Int) (h:l.length≤1048576):Gw TT 574 [.one (.ro k0 (.sl 1 (l.map ei))),vi w]=some (.one (.own (.sl 1 ((fc l w).map eb))),[]):=by
 refine Ga Aa GA ?_;unfold GA;by_cases q1:gQ w l=true∧(0≤w∧w≤31)
 ·obtain ⟨q2,q3⟩:=q1;obtain ⟨wn,rfl⟩:=ze q3.1;have q4:(wn:Int)≤31:=q3.2;have kJ:fc l (wn:Int)=jn wn l [] 0:=by simp [fc,q2,q4]
  refine Uw (J3 q2 q4 h) ?_;refine ba (σ:=(List Int×List Int)×(List Int×Nat)) (fun s=>[(0,AV.v k0 (D.sl 1 (l.map ei)),none),(1,AV.v false (di (wn:Nat)),none),(5,AV.pl 5 0 [],some (Rt.an [C.own (D.sl 1 ((s.2.1).map eb))])),(6,AV.v false (di (s.2.2:Nat)),none),(7,AV.v false (di (s.1.1.length:Nat)),none)]) (fun s=>l=s.1.1++s.1.2∧s.2.2=s.1.1.length*wn∧s.2.1.length=(s.2.2+7)/8∧aZ s.2.1∧jn wn l [] 0=jn wn s.1.2 s.2.1 s.2.2) (fun s=>s.1.2.length) (([],l),([],0)) (by simp) ⟨rfl,by simp,by simp,kC,rfl⟩ ?_;rintro ⟨⟨pre,rest⟩,⟨o,p⟩⟩ ⟨y1,y2,y3,y4,y5⟩;simp only at y1 y2 y3 y4 y5;have cI:l.length=pre.length+rest.length:=by rw [y1,zb]
  cases rest with
  |nil=>
   have c1:¬(pre.length:Int)<(l.length:Int):=by simp at cI;omega
   simp only [jn] at y5;unfold IT;refine Uw c1 ?_;simp [Aa,kJ,y5]
  |cons x rest=>
   have c1:(pre.length:Int)<(l.length:Int):=by simp at cI;omega
   have hx:=Cu q2 x (by rw [y1];simp);obtain ⟨xn,rfl⟩:=ze hx.1;simp only [jn,zq] at y5;have fS:l[pre.length]?=some (xn:Int):=by rw [y1];simp
   obtain ⟨iV,ib⟩:=za.1 fS;have bZ:p≤1048576*31:=by rw [y2];exact zn (by simp at cI;omega) (by omega)
   have d_:=Wi ((pre.length:Int)+1);obtain ⟨O,hO⟩:∃O,O=kR xn wn 0 o p:=⟨_,rfl⟩;have CW:O.length=(p+wn+7)/8:=by rw [hO];exact AK xn wn 0 o p y3
   have CV:aZ O:=by rw [hO];exact AM xn wn 0 o p y4
   rw [←hO] at y5;unfold IT;refine Uw c1 ?_;refine ba (σ:=Nat×List Int) (fun s=>[(0,AV.v k0 (D.sl 1 (l.map ei)),none),(1,AV.v false (di (wn:Nat)),none),(5,AV.pl 5 0 [],some (Rt.an [C.own (D.sl 1 ((s.2).map eb))])),(6,AV.v false (di (p+s.1:Nat)),none),(7,AV.v false (di (pre.length:Nat)),none),(8,AV.v false (di (s.1:Nat)),none)]) (fun s=>s.1≤wn∧s.2.length=(p+s.1+7)/8∧aZ s.2∧O=kR xn (wn-s.1) s.1 s.2 (p+s.1)) (fun s=>wn-s.1) (0,o) (by simp) ⟨by simp,y3,y4,by simpa using hO⟩ ?_;rintro ⟨k,s⟩ ⟨x1,x2,x3,x4⟩;simp only at x1 x2 x3 x4;by_cases e1:k=wn
   ·subst e1;simp only [zI,kR] at x4;subst x4;unfold IS;refine Uw d_ ?_;exact ⟨((pre++[(xn:Int)],rest),(O,p+k)),by simp,⟨by rw [y1];simp,by simp [y2,zY],CW,CV,y5⟩,by simp⟩
   ·have e2:(k:Int)<(wn:Int):=by omega
    rw [show wn-k=(wn-(k+1))+1 by omega] at x4;simp only [kR] at x4;have z1:=Wi ((p:Int)+(k:Int)+1);have z2:=Wi ((k:Int)+1);obtain ⟨n,hn⟩:∃n,n=p+k:=⟨_,rfl⟩;have oN:(p:Int)+(k:Int)=(n:Int):=by omega
    rw [←hn] at x2 x4;rw [oN] at z1;have jl:¬(k:Int)<0:=by omega
    have b1:min k IntKind.i64.bits=k:=by simp [IntKind.bits];omega
    obtain ⟨q,hq⟩:∃q,q=xn/2^k:=⟨_,rfl⟩;have SC:q≤xn:=by rw [hq];exact Zp _ _
    have b2:(xn:Int).fdiv (2^k)=(q:Int):=by rw [zU _ (Int.le_of_lt (Int.pow_pos (by omega))),hq];simp
    have b3:q%2^IntKind.i64.bits=q:=by simp only [IntKind.bits];omega
    have b4:1%2^IntKind.i64.bits=1:=by simp [IntKind.bits]
    have b5:=Wi ((q:Int)%2);obtain ⟨v,hv⟩:∃v,v=q%2:=⟨_,rfl⟩;have b6:(q:Int)%2=(v:Int):=by rw [hv];simp
    have kg:v≤1:=by omega
    obtain ⟨m,hm⟩:∃m,m=n%8:=⟨_,rfl⟩;have Du:m≤7:=by omega
    have d1:=Wi ((n:Int)/8);have d2:(n:Int).tdiv 8=(n:Int)/8:=zP (by omega);have d3:(n:Int).tmod 8=(m:Int):=by rw [zV (by omega),hm];simp
    have d5:(n:Int)%8=(m:Int):=by rw [hm];simp
    have d4:((n:Int)/8).toNat=n/8:=by omega
    have m0:¬(m:Int)<0:=by omega
    have m1:min m IntKind.i64.bits=m:=by simp [IntKind.bits];omega
    have m2:min m IntKind.u8.bits=m:=by simp [IntKind.bits];omega
    have m3:IntKind.wrap .i64 (m:Int)=(m:Int):=wrap_i64 (by omega) (by omega);rw [←hq,←hv] at x4;have Dg:=CL x2;have L7:=Ly (n:=n) x3;obtain ⟨G,hG⟩:∃G,G=grow s n:=⟨_,rfl⟩;rw [←hG] at Dg L7;have pY:n/8<G.length:=by omega
    obtain ⟨c,cN⟩:∃c,G[n/8]?=some c:=⟨_,zi pY⟩;have au:G[n/8]=c:=(za.1 cN).2;have dF:=L7 c (zm cN);obtain ⟨cn,rfl⟩:=ze dF.1
    have bQ:ly s n v=G.set (n/8) ((cn ||| v*2^m:Nat):Int):=by
     unfold ly nf;rw [←hG,cN,hm];simp
    have g1:(0:Int)≤(n:Int)/8:=by omega
    have g2:(n:Int)/8<(G.length:Int):=by omega
    have iD:(s.length+1)*1≤70368744177664:=by omega
    have xX:s.length+1≤70368744177664:=by omega
    obtain ⟨t,ht⟩:∃t,t=2^m:=⟨_,rfl⟩;have vo:t≤128:=by rw [ht];exact zp (by omega) Du
    have t1:IntKind.wrap .u8 (2^m)=(t:Int):=by rw [show (2:Int)^m=(t:Int) by rw [ht];simp];exact wrap_u8 (by omega) (by omega)
    have t2:cn%2^IntKind.u8.bits=cn:=by simp only [IntKind.bits];omega
    have t3:t%2^IntKind.u8.bits=t:=by simp only [IntKind.bits];omega
    have Sq:cn ||| t<2^8:=zH (by omega) (by omega)
    have t4:IntKind.wrap .u8 ((cn ||| t:Nat):Int)=((cn ||| t:Nat):Int):=wrap_u8 (by omega) (by omega);have kM:=Ju (v:=v) x2;have mW:=Jv (n:=n) x3 kg;unfold IS;by_cases u3:v=1
    ·by_cases u1:m=0
     ·skip;have u2:G=s++[0]:=by rw [hG];unfold grow;rw [if_pos (by omega)]
      have u4:zg eb s++[[D.int IntKind.u8 0]]=zg eb G:=by rw [u2];simp
      subst u3;rw [Nat.one_mul,←ht] at bQ;have t5:t=1:=by simp [ht,u1]
      subst t5;have r7:1%2^IntKind.u8.bits=1:=by simp [IntKind.bits]
      refine Uw (J8 e2 oN z1 z2 jl b1 b2 (J8 b3 b4 b5 b6 d1 d2 d3 (J8 d5 d4 m0 m1 m2 m3 fS (J8 iV ib pY cN au g1 g2 (J8 iD xX u1 u4 @t1 @t2 @t3 (J2 @t4 r7)))))) ?_;exact ⟨(k+1,G.set (n/8) ((cn ||| 1:Nat):Int)),(by simp;try omega),⟨by omega,by rw [←bQ,kM];first|(congr 1;omega)|rfl,by rw [←bQ];exact mW,by rw [←bQ];rw [show p+(k+1)=n+1 by omega];exact x4⟩,by show wn-(k+1)<wn-k;omega⟩
     ·skip;have u2:G=s:=by rw [hG];unfold grow;rw [if_neg (by omega)]
      subst u2;have u5:¬(m:Int)=0:=by omega
      have u4:True:=trivial;subst u3;rw [Nat.one_mul,←ht] at bQ;have r7:True:=trivial;refine Uw (J8 e2 oN z1 z2 jl b1 b2 (J8 b3 b4 b5 b6 d1 d2 d3 (J8 d5 d4 m0 m1 m2 m3 fS (J8 iV ib pY cN au g1 g2 (J8 iD xX u1 u5 u4 @t1 @t2 (J3 @t3 @t4 r7)))))) ?_;repeat intro hc
      exact ⟨(k+1,G.set (n/8) ((cn ||| t:Nat):Int)),(by simp;try omega),⟨by omega,by rw [←bQ,kM];first|(congr 1;omega)|rfl,by rw [←bQ];exact mW,by rw [←bQ];rw [show p+(k+1)=n+1 by omega];exact x4⟩,by show wn-(k+1)<wn-k;omega⟩
    ·by_cases u1:m=0
     ·skip;have u2:G=s++[0]:=by rw [hG];unfold grow;rw [if_pos (by omega)]
      have u4:zg eb s++[[D.int IntKind.u8 0]]=zg eb G:=by rw [u2];simp
      have u6:v=0:=by omega
      subst u6;have rE:ly s n 0=G:=by rw [bQ];simp only [Nat.zero_mul,Nat.or_zero];rw [←au];first|done|simp
      refine Uw (J8 e2 oN z1 z2 jl b1 b2 (J8 b3 b4 b5 b6 d1 d2 d3 (J8 d5 d4 m0 m1 m2 m3 fS (J8 iV ib pY cN au g1 g2 (J4 iD xX u1 u4))))) ?_;exact ⟨(k+1,G),(by simp;try omega),⟨by omega,by rw [←rE,kM];first|(congr 1;omega)|rfl,by rw [←rE];exact mW,by rw [←rE];rw [show p+(k+1)=n+1 by omega];exact x4⟩,by show wn-(k+1)<wn-k;omega⟩
     ·skip;have u2:G=s:=by rw [hG];unfold grow;rw [if_neg (by omega)]
      subst u2;have u5:¬(m:Int)=0:=by omega
      have u4:True:=trivial;have u6:v=0:=by omega
      subst u6;have rE:ly G n 0=G:=by rw [bQ];simp only [Nat.zero_mul,Nat.or_zero];rw [←au];first|done|simp
      refine Uw (J8 e2 oN z1 z2 jl b1 b2 (J8 b3 b4 b5 b6 d1 d2 d3 (J8 d5 d4 m0 m1 m2 m3 fS (J8 iV ib pY cN au g1 g2 (J5 iD xX u1 u5 u4))))) ?_;repeat intro hc
      exact ⟨(k+1,G),(by simp;try omega),⟨by omega,by rw [←rE,kM];first|(congr 1;omega)|rfl,by rw [←rE];exact mW,by rw [←rE];rw [show p+(k+1)=n+1 by omega];exact x4⟩,by show wn-(k+1)<wn-k;omega⟩
 ·have kJ:fc l w=[]:=by unfold fc;rw [if_neg q1]
  have q5:(gQ w l&&(decide (0≤w)&&decide (w≤31)))=false:=by
   cases hf:gQ w l with
   |false=>rfl
   |true=>simp;intro h0;have:¬(0≤w∧w≤31):=fun e=>q1 ⟨hf,e⟩;omega
  refine Uw (J2 q5 h) ?_;simp [Aa,kJ]
@[simp] theorem adE (l:List Int) (w:Int) (h:l.length≤1048576):Gw TT 586 [.one (.ro k0 (.sl 1 (l.map ei))),vi w]=some (.one (.own (.sl 1 ((fc l w).map eb))),[]):=by
 refine Ga tP GN ?_;unfold GN;by_cases q3:0≤w∧w≤31
 ·obtain ⟨wn,rfl⟩:=ze q3.1;have q4:(wn:Int)≤31:=q3.2;refine Ud (J2 q4 h) ?_;refine ba (σ:=List Int×List Int) (fun s=>[(0,AV.v k0 (D.sl 1 (l.map ei)),none),(1,AV.v false (di (wn:Nat)),none),(15,AV.v k0 (D.sl 1 (l.map ei)),none),(16,AV.v false (di (l.length:Nat)),none),(17,AV.v false (di (s.1.length:Nat)),none)]) (fun s=>l=s.1++s.2∧gQ wn l=gQ wn s.2) (fun s=>s.2.length) ([],l) (by simp) ⟨rfl,rfl⟩ ?_;rintro ⟨pre,rest⟩ ⟨y1,y2⟩;simp only at y1 y2;have cI:l.length=pre.length+rest.length:=by rw [y1,zb]
  cases rest with
  |cons x rest=>
   have c1:(pre.length:Int)<(l.length:Int):=by simp at cI;omega
   have fS:l[pre.length]?=some x:=by rw [y1];simp
   obtain ⟨iV,ib⟩:=za.1 fS;have d_:=Wi ((pre.length:Int)+1);by_cases g1:0≤x∧x≤2147483647
   ·by_cases g2:ed x≤(wn:Int)
    ·have g3:¬(wn:Int)<ed x:=by omega
     simp only [gQ] at y2;rw [if_pos ⟨g1,g2⟩] at y2;unfold wB;refine Ud (J8 c1 fS iV ib d_ g1.1 g1.2 (J2 g2 g3)) ?_;exact ⟨(pre++[x],rest),by simp,⟨by rw [y1];simp,by simp only [gQ];exact y2⟩,by simp⟩
    ·have g3:(wn:Int)<ed x:=by omega
     simp only [gQ] at y2;rw [if_neg (fun e=>g2 e.2)] at y2;have kJ:fc l (wn:Int)=[]:=by unfold fc;rw [if_neg (fun e=>by have:=e.1;rw [show gQ (wn:Int) l=false from y2] at this;cases this)]
     unfold wB;refine Ud (J8 c1 fS iV ib d_ g1.1 g1.2 (J2 g3 kJ)) ?_;simp [tP,kJ]
   ·simp only [gQ] at y2;rw [if_neg (fun e=>g1 e.1)] at y2;have kJ:fc l (wn:Int)=[]:=by unfold fc;rw [if_neg (fun e=>by have:=e.1;rw [show gQ (wn:Int) l=false from y2] at this;cases this)]
    unfold wB;refine Ud (J6 c1 fS iV ib d_ kJ) ?_;repeat intro hc
    simp [tP,kJ]
  |nil=>
   have q2:gQ (wn:Int) l=true:=y2;have c1:¬(pre.length:Int)<(l.length:Int):=by simp at cI;omega
   have kJ:fc l (wn:Int)=jn wn l [] 0:=by simp [fc,q2,q4]
   obtain ⟨T,hT⟩:∃T,T=l.length*wn:=⟨_,rfl⟩;have q7:(l.length:Int)*(wn:Int)=(T:Int):=by rw [hT];simp
   have LS:T≤1048576*31:=by rw [hT];exact zn (by omega) (by omega)
   obtain ⟨L,hL⟩:∃L,L=(T+7)/8:=⟨_,rfl⟩;have v1:IntKind.wrap .i64 ((l.length:Int)*(wn:Int))=(T:Int):=by rw [q7];exact wrap_i64 (by omega) (by omega)
   have v2:=Wi ((T:Int)+7);have v3:((T:Int)+7).tdiv 8=(L:Int):=by rw [zP (by omega)];omega
   have v4:IntKind.wrap .i64 (L:Int)=(L:Int):=wrap_i64 (by omega) (by omega);have v5:L*1≤140737488355328:=by omega
   have v6:L≤140737488355328:=by omega
   have ry:ig L []=zo L 0:=by simp [ig]
   clear y1 cI y2;unfold wB;refine Ud (J7 c1 v1 v2 v3 v4 v5 v6) ?_;refine ba (σ:=(List Int×List Int)×(List Int×Nat)) (fun s=>[(1,AV.v false (di (wn:Nat)),none),(7,AV.pl 7 0 [],some (Rt.an [C.own (D.sl 1 ((ig L s.2.1).map eb))])),(38,AV.v k0 (D.sl 1 (l.map ei)),none),(39,AV.v false (di (l.length:Nat)),none),(40,AV.v false (di (s.1.1.length:Nat)),none)]) (fun s=>l=s.1.1++s.1.2∧s.2.2=s.1.1.length*wn∧s.2.1.length=(s.2.2+7)/8∧aZ s.2.1∧jn wn l [] 0=jn wn s.1.2 s.2.1 s.2.2) (fun s=>s.1.2.length) (([],l),([],0)) (by simp [ry]) ⟨rfl,by simp,by simp,kC,rfl⟩ ?_;clear c1;rintro ⟨⟨pre,rest⟩,⟨o,p⟩⟩ ⟨y1,y2,y3,y4,y5⟩;simp only at y1 y2 y3 y4 y5;have cI:l.length=pre.length+rest.length:=by rw [y1,zb]
   cases rest with
   |nil=>
    have c1:¬(pre.length:Int)<(l.length:Int):=by simp at cI;omega
    simp only [jn] at y5
    have qi:ig L o=o:=by
     have:o.length=L:=by rw [y3,y2,hL,hT];simp at cI;rw [cI]
     simp [ig,this]
    unfold IZ;refine Ud (J2 c1 qi) ?_;simp [tP,kJ,y5,qi]
   |cons x rest=>
    have c1:(pre.length:Int)<(l.length:Int):=by simp at cI;omega
    have hx:=Cu q2 x (by rw [y1];simp);obtain ⟨xn,rfl⟩:=ze hx.1;simp only [jn,zq] at y5;have fS:l[pre.length]?=some (xn:Int):=by rw [y1];simp
    obtain ⟨iV,ib⟩:=za.1 fS;have bZ:p≤1048576*31:=by rw [y2];exact zn (by simp at cI;omega) (by omega)
    have kK:p+wn≤T:=by
     have:(pre.length+1)*wn≤l.length*wn:=zn (by simp at cI;omega) (zM _);rw [zY] at this;omega
    have rz:(pre.length:Int)*(wn:Int)=(p:Int):=by rw [y2];simp
    have v7:IntKind.wrap .i64 ((pre.length:Int)*(wn:Int))=(p:Int):=by rw [rz];exact wrap_i64 (by omega) (by omega)
    have d_:=Wi ((pre.length:Int)+1);obtain ⟨O,hO⟩:∃O,O=kR xn wn 0 o p:=⟨_,rfl⟩;have CW:O.length=(p+wn+7)/8:=by rw [hO];exact AK xn wn 0 o p y3
    have CV:aZ O:=by rw [hO];exact AM xn wn 0 o p y4
    rw [←hO] at y5;unfold IZ;refine Ud (J4 c1 fS iV ib) ?_;refine ba (σ:=Nat×List Int) (fun s=>[(1,AV.v false (di (wn:Nat)),none),(7,AV.pl 7 0 [],some (Rt.an [C.own (D.sl 1 ((ig L s.2).map eb))])),(8,AV.v false (di (pre.length:Nat)),none),(9,AV.v false (di (xn:Nat)),none),(10,AV.v false (di (s.1:Nat)),none),(38,AV.v k0 (D.sl 1 (l.map ei)),none),(39,AV.v false (di (l.length:Nat)),none),(40,AV.v false (di (pre.length:Nat)),none)]) (fun s=>s.1≤wn∧s.2.length=(p+s.1+7)/8∧aZ s.2∧O=kR xn (wn-s.1) s.1 s.2 (p+s.1)) (fun s=>wn-s.1) (0,o) (by simp) ⟨by simp,y3,y4,by simpa using hO⟩ ?_;rintro ⟨k,s⟩ ⟨x1,x2,x3,x4⟩;simp only at x1 x2 x3 x4;by_cases e1:k=wn
    ·subst e1;simp only [zI,kR] at x4;subst x4;unfold IY;refine Ud d_ ?_;exact ⟨((pre++[(xn:Int)],rest),(O,p+k)),by simp,⟨by rw [y1];simp,by simp [y2,zY],CW,CV,y5⟩,by simp⟩
    ·have e2:(k:Int)<(wn:Int):=by omega
     rw [show wn-k=(wn-(k+1))+1 by omega] at x4;simp only [kR] at x4;have z2:=Wi ((k:Int)+1);obtain ⟨n,hn⟩:∃n,n=p+k:=⟨_,rfl⟩;have oN:(p:Int)+(k:Int)=(n:Int):=by omega
     have z1:IntKind.wrap .i64 ((p:Int)+(k:Int))=(n:Int):=by rw [oN];exact wrap_i64 (by omega) (by omega)
     rw [←hn] at x2 x4;have jl:¬(k:Int)<0:=by omega
     have b1:min k IntKind.i64.bits=k:=by simp [IntKind.bits];omega
     obtain ⟨q,hq⟩:∃q,q=xn/2^k:=⟨_,rfl⟩;have SC:q≤xn:=by rw [hq];exact Zp _ _
     have b2:(xn:Int).fdiv (2^k)=(q:Int):=by rw [zU _ (Int.le_of_lt (Int.pow_pos (by omega))),hq];simp
     have b3:q%2^IntKind.i64.bits=q:=by simp only [IntKind.bits];omega
     have b4:1%2^IntKind.i64.bits=1:=by simp [IntKind.bits]
     have b5:=Wi ((q:Int)%2);obtain ⟨v,hv⟩:∃v,v=q%2:=⟨_,rfl⟩;have b6:(q:Int)%2=(v:Int):=by rw [hv];simp
     have kg:v≤1:=by omega
     obtain ⟨m,hm⟩:∃m,m=n%8:=⟨_,rfl⟩;have Du:m≤7:=by omega
     have d1:=Wi ((n:Int)/8);have d2:(n:Int).tdiv 8=(n:Int)/8:=zP (by omega);have d3:(n:Int).tmod 8=(m:Int):=by rw [zV (by omega),hm];simp
     have d5:(n:Int)%8=(m:Int):=by rw [hm];simp
     have d4:((n:Int)/8).toNat=n/8:=by omega
     have m0:¬(m:Int)<0:=by omega
     have m1:min m IntKind.i64.bits=m:=by simp [IntKind.bits];omega
     have m2:min m IntKind.u8.bits=m:=by simp [IntKind.bits];omega
     have m3:IntKind.wrap .i64 (m:Int)=(m:Int):=wrap_i64 (by omega) (by omega);rw [←hq,←hv] at x4;have kM:=Ju (v:=v) x2;have mW:=Jv (n:=n) x3 kg;have vc:=U9 (L:=L) (v:=v) x2 (by omega);have Q_:=U8 (L:=L) (o:=s) (by omega)
     have LM:aZ (ig L s):=by
      intro y hy;simp only [ig,zB,List.mem_replicate] at hy;rcases hy with hy|hy
      ·exact x3 y hy
      ·omega
     obtain ⟨G,hG⟩:∃G,G=ig L s:=⟨_,rfl⟩;rw [←hG] at Q_ LM vc;have pY:n/8<G.length:=by omega
     obtain ⟨c,cN⟩:∃c,G[n/8]?=some c:=⟨_,zi pY⟩;have au:G[n/8]=c:=(za.1 cN).2;have dF:=LM c (zm cN);obtain ⟨cn,rfl⟩:=ze dF.1;obtain ⟨t,ht⟩:∃t,t=v*2^m:=⟨_,rfl⟩;have vo:t≤128:=by rw [ht];exact JZ kg Du
     have bQ:ig L (ly s n v)=G.set (n/8) ((cn ||| t:Nat):Int):=by
      rw [vc];unfold nf;rw [cN,←hm,ht];simp
     have g1:(0:Int)≤(n:Int)/8:=by omega
     have g2:(n:Int)/8<(G.length:Int):=by omega
     have t0:(v:Int)*2^m=(t:Int):=by rw [ht];simp
     have t1:IntKind.wrap .i64 ((v:Int)*2^m)=(t:Int):=by rw [t0];exact wrap_i64 (by omega) (by omega)
     have t5:IntKind.wrap .u8 (t:Int)=(t:Int):=wrap_u8 (by omega) (by omega);have t6:IntKind.wrap .i64 (v:Int)=(v:Int):=wrap_i64 (by omega) (by omega);have t7:(t:Int)%2^IntKind.u8.bits=(t:Int):=by simp only [IntKind.bits];omega
     have t2:cn%2^IntKind.u8.bits=cn:=by simp only [IntKind.bits];omega
     have t3:t%2^IntKind.u8.bits=t:=by simp only [IntKind.bits];omega
     have Sq:cn ||| t<2^8:=zH (by omega) (by omega)
     have t4:IntKind.wrap .u8 ((cn ||| t:Nat):Int)=((cn ||| t:Nat):Int):=wrap_u8 (by omega) (by omega);have SM:zg eb (ig L (ly s n v))=(zg eb G).set (n/8) [D.int IntKind.u8 ((cn ||| t:Nat):Int)]:=by rw [bQ];simp
     clear bQ vc;rw [←hG];unfold IY;refine Ud (J8 e2 v7 z1 z2 jl b1 b2 (J8 b3 b4 b5 b6 d1 d2 d3 (J8 d5 d4 m0 m1 m2 m3 pY (J8 cN au g1 g2 @t1 @t5 @t6 (J4 @t7 @t2 @t3 @t4))))) ?_;exact ⟨(k+1,ly s n v),by simp [SM],⟨by omega,by rw [kM];first|(congr 1;omega)|rfl,mW,by rw [show p+(k+1)=n+1 by omega];exact x4⟩,by show wn-(k+1)<wn-k;omega⟩
 ·have kJ:fc l w=[]:=by unfold fc;rw [if_neg (fun e=>q3 e.2)]
  refine Ud kJ ?_;repeat intro hc
  simp [tP,kJ]
def mo (s:ByteArray):List Int:=s.toList.map fun b=>(b.toNat:Int)
theorem uo:s.toList=s.data.toList:=ByteArray.toList_eq s
theorem Py:aZ (mo s):=by
 intro c hc;simp only [mo,zN] at hc;obtain ⟨b,_,rfl⟩:=hc;have:=b.toNat_lt;omega
theorem xa:(mo s).length=s.size:=by simp [mo,BO]
theorem sL {l:List Int} (h:aZ l):mo (strOf l)=l:=by
 simp only [mo,strOf,uo,List.map_map]
 conv=>rhs;rw [←List.map_id l]
 apply List.map_congr_left;intro c hc;have:=h c hc;simp;omega
theorem uq {s t:ByteArray} (h:s.toList=t.toList):s=t:=by
 apply ByteArray.ext;apply Array.toList_inj.1;rw [←uo,←uo];exact h
theorem Wm {l m:List Int} (hl:aZ l) (hm:aZ m) (h:strOf l=strOf m):l=m:=by
 rw [←sL hl,←sL hm,h]
theorem nq {l m:List Int} (hl:aZ l) (hm:aZ m):((strOf l).toList==(strOf m).toList)=decide (l=m):=by
 by_cases h:l=m
 ·subst h;simp
 ·rw [decide_eq_false h];apply Zj.2;intro e;have:=uq (eq_of_beq e);exact h (Wm hl hm this)
theorem jO {a b:aa}:fL a b=true↔a=b:=by
 obtain ⟨t,n,s⟩:=a;obtain ⟨t',n',s'⟩:=b;simp only [fL,zu,beq_iff_eq,aa.mk.injEq];constructor
 ·rintro ⟨h1,h2,h3⟩;exact ⟨h1,h2,uq h3⟩
 ·rintro ⟨h1,h2,h3⟩;exact ⟨h1,h2,by rw [h3]⟩
theorem ot {a b:List Int} (ha:aZ a) (hb:aZ b):aZ (a++b):=by
 intro c hc;rcases zB.1 hc with h|h
 ·exact ha c h
 ·exact hb c h
theorem mq {b:List Int} (n:Nat) (h:aZ b):aZ (b.drop n):=fun c hc=>h c (List.mem_of_mem_drop hc)
theorem sM {b:List Int} (n:Nat) (h:aZ b):aZ (b.take n):=fun c hc=>h c (List.mem_of_mem_take hc)
theorem BR {a:Int} {b:List Int} (ha:0≤a∧a≤255) (hb:aZ b):aZ (a::b):=by
 intro c hc;rcases zj.1 hc with rfl|h
 ·exact ha
 ·exact hb c h
theorem BS {α:Type} {f:α→List Int} (h:∀x,aZ (f x)) (l:List α):aZ (l.flatMap f):=by
 intro c hc;obtain ⟨x,_,hx⟩:=Zm.1 hc;exact h x c hx
theorem OR {ty n:Int} {s:ByteArray} (h:cE ty n s=true):ty=1∨ty=2:=by
 unfold cE at h;split at h
 ·left;assumption
 ·simp only [zu,decide_eq_true_eq] at h;exact .inr h.1
theorem sy {ty n:Int} {s:ByteArray} (h:cE ty n s=true):s.size≤6:=by
 unfold cE at h;split at h
 ·simp only [zu,beq_iff_eq] at h;have:=uq h.2;rw [this];decide
 ·simp only [zu,decide_eq_true_eq] at h;exact h.2.2.1
theorem Bq {n:Int} (h:-1000000000≤n∧n≤1000000000):cE 1 n ⟨#[]⟩=true:=by
 simp [cE,fB,h]
theorem aak {n:Int} {s:ByteArray} (h:cE 1 n s=true):(-1000000000≤n∧n≤1000000000)∧s=⟨#[]⟩:=by
 simp only [cE,if_true,fB,zu,decide_eq_true_eq,beq_iff_eq] at h;exact ⟨h.1,uq h.2⟩
def eS (v:aa):List Int:=if cE v.Ty v.N v.S=true then (if v.Ty=1 then bw v.N else (v.S.size:Int)::mo v.S) else []
def et (l:List aa):List Int:=l.flatMap eS
theorem NA (v:aa):aZ (eS v):=by
 unfold eS;split
 ·rename_i h;have:=sy h;split
  ·exact pR _
  ·exact BR (by omega) (Py _)
 ·exact kC
theorem qz (v:aa):(eS v).length≤7:=by
 unfold eS;split
 ·rename_i h;have:=sy h;split
  ·have:=fP v.N;omega
  ·simp [xa];omega
 ·simp
theorem K0 (l:List aa):aZ (et l):=BS NA l
theorem Cs:∀l:List aa,(et l).length≤7*l.length
 |[]=>by simp [et]
 |v::l=>by
  have h1:=qz v;have h2:=Cs l;simp only [et] at h2;simp only [et,Zk,zb,zd];omega
def gj (t:Int):List aa→Bool
 |[]=>true
 |v::l=>if cE v.Ty v.N v.S=true∧v.Ty=t then gj t l else false
def bG:List aa→Int
 |[]=>0
 |v::r=>if r.length<64∧gj v.Ty (v::r)=true then v.Ty else 0
theorem pE {t:Int}:∀{l:List aa},gj t l=true→∀v∈l,cE v.Ty v.N v.S=true∧v.Ty=t
 |[],_,v,hv=>by simp at hv
 |x::l,h,v,hv=>by
  simp only [gj] at h;split at h
  ·rename_i hx;rcases zj.1 hv with rfl|hv
   ·exact hx
   ·exact pE h v hv
  ·cases h
theorem OI {t:Int}:∀{l:List aa},(∀v∈l,cE v.Ty v.N v.S=true∧v.Ty=t)→gj t l=true
 |[],_=>rfl
 |x::l,h=>by
  simp only [gj];rw [if_pos (h x (by simp))];exact OI fun v hv=>h v (by simp [hv])
theorem adS {t:Int} {a b:List aa} (ha:gj t a=true) (hb:gj t b=true):gj t (a++b)=true:=
 OI fun v hv=>by
  rcases zB.1 hv with h|h
  ·exact pE ha v h
  ·exact pE hb v h
theorem aaa {l:List aa} {t:Int} (h0:0<l.length) (h:l.length≤64) (ha:gj t l=true):bG l=t:=by
 cases l with
 |nil=>simp at h0
 |cons v r=>
  have hv:=pE ha v (by simp);simp only [bG];rw [hv.2,if_pos ⟨by simp at h;omega,ha⟩]
theorem kV {l:List aa} (h:bG l≠0):1≤l.length∧l.length≤64∧gj (bG l) l=true∧(bG l=1∨bG l=2):=by
 cases l with
 |nil=>simp [bG] at h
 |cons v r=>
  simp only [bG] at h ⊢;split at h
  ·rename_i hh;rw [if_pos hh];exact ⟨by simp,by simp;omega,hh.2,OR (pE hh.2 v (by simp)).1⟩
  ·exact absurd rfl h
def gw (l:List aa):List Int:=if bG l=0 then [] else et l
theorem Cq (l:List aa):aZ (gw l):=by unfold gw;split;exact kC;exact K0 l
theorem Ql (l:List aa):(gw l).length≤448:=by
 unfold gw;split
 ·simp
 ·rename_i h;have:=(kV h).2.1;have:=Cs l;omega
theorem lL {b:List Int} {u n t:Int} (hb:aZ b) (h:gN b u=some (n,t)):
 (-1000000000≤n∧n≤1000000000)∧0≤u∧u<t∧t≤(b.length:Int)∧b.drop u.toNat=bw n++b.drop t.toNat:=by
 unfold gN at h;split at h
 ·rename_i hu;split at h
  ·rename_i n' k hg;simp only [zk,zr] at h;obtain ⟨rfl,rfl⟩:=h;obtain ⟨h1,r,h2,h3⟩:=QD (mq _ hb) hg;have hl:=congrArg zR h2;simp only [zy,zb] at hl
   have hp:1≤(bw n').length:=by
    unfold bw;rw [if_pos h1];exact Br _
   refine ⟨h1,hu.1,by omega,by omega,?_⟩;have e:(u+(k:Int)).toNat=u.toNat+k:=by omega
   rw [e,←Zb,h2,←h3];simp
  ·cases h
 ·cases h
theorem QB {n:Int} (h:-1000000000≤n∧n≤1000000000) (r:List Int):gN (bw n++r) 0=some (n,((bw n).length:Int)):=by
 have hp:1≤(bw n).length:=by
  unfold bw;rw [if_pos h];exact Br _
 unfold gN;rw [if_pos ⟨by omega,by simp only [zb];omega⟩];simp only [Zc,Zd];rw [QE h r];simp
def cW (b:List Int) (u ty:Int):Option (aa×Int):=
 if ty=1 then (match gN b u with
  |some (n,t)=>some (⟨1,n,⟨#[]⟩⟩,t)
  |none=>none)
 else if ty=2∧0≤u then (match b[u.toNat]? with
  |some k=>if u+1+k≤(b.length:Int) then
   (if cE 2 0 (strOf ((b.take (u+1+k).toNat).drop (u+1).toNat))=true then some (⟨2,0,strOf ((b.take (u+1+k).toNat).drop (u+1).toNat)⟩,u+1+k) else none)
   else none
  |none=>none)
 else none
theorem Ln {b:List Int} {u ty t:Int} {v:aa} (hb:aZ b) (h:cW b u ty=some (v,t)):
 (cE v.Ty v.N v.S=true∧v.Ty=ty)∧0≤u∧u<t∧t≤(b.length:Int)∧b.drop u.toNat=eS v++b.drop t.toNat:=by
 unfold cW at h;split at h
 ·rename_i dx;subst dx;split at h
  ·rename_i n t' hg;simp only [zk,zr] at h;obtain ⟨rfl,rfl⟩:=h;obtain ⟨h1,h2,h3,h4,h5⟩:=lL hb hg;refine ⟨⟨Bq h1,rfl⟩,h2,h3,h4,?_⟩;simp only [eS];rw [if_pos (Bq h1)];simpa using h5
  ·cases h
 ·split at h
  ·rename_i dx;obtain ⟨rfl,hu⟩:=dx;split at h
   ·rename_i k hk;split at h
    ·rename_i hl;split at h
     ·rename_i hv;simp only [zk,zr] at h;obtain ⟨rfl,rfl⟩:=h;have nG:=hb k (zm hk);obtain ⟨kn,rfl⟩:=ze nG.1;obtain ⟨un,rfl⟩:=ze hu;have e1:((un:Int)+1+(kn:Int)).toNat=un+1+kn:=by omega
      have e2:((un:Int)+1).toNat=un+1:=by omega
      have e3:((un:Int)).toNat=un:=by omega
      rw [e1,e2] at hv;rw [e3] at hk;refine ⟨⟨by rw [e1,e2];exact hv,rfl⟩,by omega,by omega,by omega,?_⟩;simp only [eS];rw [e1,e2,e3,if_pos hv,if_neg (by omega)];have ae:=(za.1 hk).1;have eg:aZ ((b.take (un+1+kn)).drop (un+1)):=mq _ (sM _ hb)
      have cg:(strOf ((b.take (un+1+kn)).drop (un+1))).size=kn:=by
       rw [←xa,sL eg];simp only [zy,zT];omega
      rw [sL eg,cg,List.drop_eq_getElem_cons ae,(za.1 hk).2];simp only [Zn,List.cons.injEq,true_and];have e4:b.drop (un+1)=(b.drop (un+1)).take kn++(b.drop (un+1)).drop kn:=(Ze _ _).symm;rw [e4,Zb,List.take_drop]
     ·cases h
    ·cases h
   ·cases h
  ·cases h
def eK (b:List Int) (ty:Int):Nat→Int→Option (List aa×Int)
 |0,u=>some ([],u)
 |k+1,u=>match cW b u ty with
  |some (v,t)=>match eK b ty k t with
   |some (l,t2)=>some (v::l,t2)
   |none=>none
  |none=>none
theorem uH {b:List Int} {ty:Int} (hb:aZ b):∀{k:Nat} {u t:Int} {l:List aa},0≤u→u≤(b.length:Int)→eK b ty k u=some (l,t)→
 l.length=k∧gj ty l=true∧u≤t∧t≤(b.length:Int)∧b.drop u.toNat=et l++b.drop t.toNat
 |0,u,t,l,h0,h1,h=>by
  simp only [eK,zk,zr] at h;obtain ⟨rfl,rfl⟩:=h;exact ⟨rfl,rfl,by omega,h1,by simp [et]⟩
 |k+1,u,t,l,h0,h1,h=>by
  simp only [eK] at h;split at h
  ·rename_i v t1 hv;split at h
   ·rename_i l' t2 hl;simp only [zk,zr] at h;obtain ⟨rfl,rfl⟩:=h;obtain ⟨a1,a2,a3,a4,a5⟩:=Ln hb hv;obtain ⟨b1,b2,b3,b4,b5⟩:=uH hb (by omega) a4 hl;refine ⟨by simp [b1],by simp only [gj];rw [if_pos a1];exact b2,by omega,b4,?_⟩;rw [a5,b5];simp [et]
   ·cases h
  ·cases h
theorem CF {b:List Int} {ty:Int} {a:List aa} {k:Nat} {u t:Int} {v:aa} (h:cW b u ty=some (v,t)):gC a (eK b ty (k+1) u)=gC (a++[v]) (eK b ty k t):=by
 simp only [eK,h];cases eK b ty k t with
 |none=>rfl
 |some x=>simp [gC]
theorem CE {b:List Int} {ty:Int} {a:List aa} {k:Nat} {u:Int} (h:cW b u ty=none):gC a (eK b ty (k+1) u)=none:=by
 simp only [eK,h];rfl
def iw (b:List Int) (ty k:Int):Option (List aa):=if 1≤k∧k≤64 then (match eK b ty k.toNat 0 with
 |some (l,t)=>if t=(b.length:Int) then some l else none
 |none=>none) else none
theorem KP {b:List Int} {ty k:Int} (hb:aZ b) {l:List aa} {t:Int} (hk:1≤k∧k≤64) (h:eK b ty k.toNat 0=some (l,t)):
 ((l.length:Int)=k)∧bG l=ty∧(b=gw l↔t=(b.length:Int)):=by
 obtain ⟨h1,h2,h3,h4,h5⟩:=uH hb (Zl _) (by omega) h;have hl:0<l.length:=by omega
 have ht:=aaa hl (by omega) h2
 have bm:bG l≠0:=by
  cases l with
  |nil=>simp at hl
  |cons v r=>
   have:=pE h2 v (by simp);have:=OR this.1;omega
 refine ⟨by omega,ht,?_⟩;unfold gw;rw [if_neg bm];simp only [Zc,Zd] at h5;constructor
 ·intro e;have bY:=congrArg zR h5;rw [←e] at bY;simp only [zb,zy] at bY;omega
 ·intro e;rw [e] at h5;simpa using h5
structure bU where
 V:aa
 K:Int
 deriving Inhabited
@[simp] def bU.e (x:bU):List D:=[di x.V.Ty,di x.V.N,.str x.V.S,di x.K]
def nX (o:List bU) (v:aa):List bU:=match o.getLast? with
 |some r=>if fL r.V v=true then o.dropLast++[⟨r.V,r.K+1⟩] else o++[⟨v,1⟩]
 |none=>[⟨v,1⟩]
def l9 (o:List bU):List aa→List bU
 |[]=>o
 |v::l=>l9 (nX o v) l
def iJ (l:List aa):List bU:=l9 [] l
def tW (r:bU):List Int:=bw r.K++eS r.V
theorem Vn (r:bU):aZ (tW r):=ot (pR _) (NA _)
theorem Vm (r:bU):(tW r).length≤12:=by
 have:=fP r.K;have:=qz r.V;simp only [tW,zb];omega
theorem VA (o:List bU) (v:aa):(nX o v).length≤o.length+1:=by
 unfold nX;split
 ·split
  ·rename_i r hr _;have:o≠[]:=fun e=>by rw [e] at hr;simp at hr
   have:=Zg.2 this;simp<;>omega
  ·simp
 ·simp
theorem NV:∀(l:List aa) (o:List bU),(l9 o l).length≤o.length+l.length
 |[],o=>by simp [l9]
 |v::l,o=>by
  have:=NV l (nX o v);have:=VA o v;simp only [l9,zd];omega
theorem Jl (l:List aa):(iJ l).length≤l.length:=by
 have:=NV l [];simpa [iJ] using this
def k8 (l:List bU):List Int:=l.flatMap tW
theorem KY:∀l:List bU,(k8 l).length≤12*l.length
 |[]=>by simp [k8]
 |v::l=>by
  have h1:=Vm v;have h2:=KY l;simp only [k8] at h2;simp only [k8,Zk,zb,zd];omega
def ft (l:List aa):List Int:=if bG l=0 then [] else bw (iJ l).length++k8 (iJ l)
theorem Cr (l:List aa):aZ (ft l):=by
 unfold ft;split;exact kC;exact ot (pR _) (BS Vn _)
theorem Qm (l:List aa):(ft l).length≤1000:=by
 unfold ft;split
 ·simp
 ·rename_i h;have:=(kV h).2.1;have:=Jl l;have:=KY (iJ l);have:=fP ((iJ l).length:Int);simp only [zb];omega
def l_ (o:List aa):List bU→List aa
 |[]=>o
 |r::l=>if r.K<1∨64-(o.length:Int)<r.K then [] else l_ (o++zo r.K.toNat r.V) l
def nm (l:List bU):List aa:=l_ [] l
theorem N6:∀(l:List bU) (o:List aa),o.length≤64→(l_ o l).length≤64
 |[],o,h=>h
 |r::l,o,h=>by
  simp only [l_];split
  ·simp
  ·exact N6 l _ (by simp;omega)
theorem N8 (l:List bU):(nm l).length≤64:=N6 l [] (by simp)
def pX (b:List Int) (u ty:Int):Option (bU×Int):=match gN b u with
 |some (n,t)=>match cW b t ty with
  |some (v,t2)=>some (⟨v,n⟩,t2)
  |none=>none
 |none=>none
def gR (b:List Int) (ty:Int):Nat→Int→Option (List bU×Int)
 |0,u=>some ([],u)
 |k+1,u=>match pX b u ty with
  |some (v,t)=>match gR b ty k t with
   |some (l,t2)=>some (v::l,t2)
   |none=>none
  |none=>none
theorem Lm {b:List Int} {ty:Int} {a:List bU} {k:Nat} {u t:Int} {v:bU} (h:pX b u ty=some (v,t)):gC a (gR b ty (k+1) u)=gC (a++[v]) (gR b ty k t):=by
 simp only [gR,h];cases gR b ty k t with
 |none=>rfl
 |some x=>simp [gC]
theorem xz {b:List Int} {ty:Int} {a:List bU} {k:Nat} {u:Int} (h:pX b u ty=none):gC a (gR b ty (k+1) u)=none:=by
 simp only [gR,h];rfl
def cM (b:List Int) (k:Int) (e:List aa→List Int) (l:List aa):Option (List aa):=if (1≤k∧k≤64)∧(l.length:Int)=k∧b=e l then some l else none
def eP (b:List Int) (ty k:Int):Option (List aa):=match gN b 0 with
 |some (n,u)=>if 1≤n∧n≤64 then (match gR b ty n.toNat u with
  |some (r,_)=>cM b k ft (nm r)
  |none=>none) else none
 |none=>none
def jH (t n:Int) (s:ByteArray) (t' n':Int) (s':ByteArray):Bool:=if t=t' then (if n=n' then Op.bytesLess s.toList s'.toList else decide (n<n')) else decide (t<t')
def dy (a b:aa):Bool:=jH a.Ty a.N a.S b.Ty b.N b.S
theorem J9:∀x:List UInt8,Op.bytesLess x x=false
 |[]=>rfl
 |a::x=>by simp [Op.bytesLess,J9 x]
theorem J_:∀x y z:List UInt8,Op.bytesLess x y=true→Op.bytesLess y z=true→Op.bytesLess x z=true
 |_,[],_,h,_=>by simp [Op.bytesLess] at h
 |_,_::_,[],_,h=>by simp [Op.bytesLess] at h
 |[],_::_,_::_,_,_=>rfl
 |a::x,b::y,c::z,h1,h2=>by
  simp only [Op.bytesLess,Bool.or_eq_true,zu,decide_eq_true_eq,beq_iff_eq] at h1 h2 ⊢;rcases h1 with h1|⟨rfl,h1⟩
  ·rcases h2 with h2|⟨rfl,h2⟩
   ·exact .inl (UInt8.lt_trans h1 h2)
   ·exact .inl h1
  ·rcases h2 with h2|⟨rfl,h2⟩
   ·exact .inl h2
   ·exact .inr ⟨rfl,J_ x y z h1 h2⟩
theorem J':∀x y:List UInt8,Op.bytesLess x y=false→Op.bytesLess y x=false→x=y
 |[],[],_,_=>rfl
 |[],_::_,h,_=>by simp [Op.bytesLess] at h
 |_::_,[],_,h=>by simp [Op.bytesLess] at h
 |a::x,b::y,h1,h2=>by
  simp only [Op.bytesLess,Bool.or_eq_false_iff,Bool.and_eq_false_iff,decide_eq_false_iff_not,beq_eq_false_iff_ne] at h1 h2
  have e:a=b:=by
   apply UInt8.le_antisymm
   ·exact Zt.1 h2.1
   ·exact Zt.1 h1.1
  subst e;rw [J' x y (h1.2.resolve_left (fun h=>h rfl)) (h2.2.resolve_left (fun h=>h rfl))]
theorem MX (a b:aa):dy a b=true↔a.Ty<b.Ty∨(a.Ty=b.Ty∧(a.N<b.N∨(a.N=b.N∧Op.bytesLess a.S.toList b.S.toList=true))):=by
 unfold dy jH;split
 ·split
  ·constructor
   ·intro h;exact .inr ⟨by assumption,.inr ⟨by assumption,h⟩⟩
   ·rintro (h|⟨_,h|h⟩)
    ·omega
    ·omega
    ·exact h.2
  ·simp only [decide_eq_true_eq];constructor
   ·intro h;exact .inr ⟨by assumption,.inl h⟩
   ·rintro (h|⟨_,h|h⟩)
    ·omega
    ·exact h
    ·exact absurd h.1 (by assumption)
 ·simp only [decide_eq_true_eq];constructor
  ·intro h;exact .inl h
  ·rintro (h|⟨h,_⟩)
   ·exact h
   ·exact absurd h (by assumption)
theorem yi (a:aa):dy a a=false:=by
 simp [dy,jH,J9]
theorem vF {a b c:aa} (h1:dy a b=true) (h2:dy b c=true):dy a c=true:=by
 rw [MX] at *;rcases h1 with h1|⟨e1,h1⟩<;>rcases h2 with h2|⟨e2,h2⟩
 ·left;omega
 ·left;omega
 ·left;omega
 ·right;refine ⟨by omega,?_⟩;rcases h1 with h1|⟨f1,h1⟩<;>rcases h2 with h2|⟨f2,h2⟩
  ·left;omega
  ·left;omega
  ·left;omega
  ·exact .inr ⟨by omega,J_ _ _ _ h1 h2⟩
theorem tq {a b:aa} (h1:dy a b=false) (h2:dy b a=false):a=b:=by
 rw [Zj,ne_eq,MX] at h1 h2;obtain ⟨t,n,s⟩:=a;obtain ⟨t',n',s'⟩:=b;simp only at h1 h2;have e1:t=t':=by omega
 subst e1
 have e2:n=n':=by
  rcases Int.lt_trichotomy n n' with h|h|h
  ·exact absurd (.inr ⟨rfl,.inl h⟩) h1
  ·exact h
  ·exact absurd (.inr ⟨rfl,.inl h⟩) h2
 subst e2
 have e3:s.toList=s'.toList:=by
  apply J'
  ·cases hh:Op.bytesLess s.toList s'.toList with
   |false=>rfl
   |true=>exact absurd (.inr ⟨rfl,.inr ⟨rfl,hh⟩⟩) h1
  ·cases hh:Op.bytesLess s'.toList s.toList with
   |false=>rfl
   |true=>exact absurd (.inr ⟨rfl,.inr ⟨rfl,hh⟩⟩) h2
 rw [uq e3]
theorem MW {a b:aa} (h:dy a b=true):dy b a=false:=by
 cases hh:dy b a with
 |false=>rfl
 |true=>have:=vF h hh;rw [yi] at this;cases this
def ov (a b:aa):Int:=if dy a b=true then -1 else if dy b a=true then 1 else 0
def kv (l:List aa):Prop:=l.Pairwise fun a b=>dy a b=true
def iF (v:aa):List aa→List aa
 |[]=>[v]
 |x::l=>if dy x v=true then x::iF v l else if fL x v=true then x::l else v::x::l
def lK (d:List aa):List aa→List aa
 |[]=>d
 |v::l=>lK (iF v d) l
def ef (l:List aa):List aa:=lK [] l
theorem D3 {v:aa}:∀{d:List aa} {x:aa},x∈iF v d↔x=v∨x∈d
 |[],x=>by simp [iF]
 |y::d,x=>by
  simp only [iF];split
  ·simp only [zj,D3 (d:=d)];constructor
   ·rintro (h|h|h)
    ·exact .inr (.inl h)
    ·exact .inl h
    ·exact .inr (.inr h)
   ·rintro (h|h|h)
    ·exact .inr (.inl h)
    ·exact .inl h
    ·exact .inr (.inr h)
  ·split
   ·rename_i h;have:=jO.1 h;subst this;simp only [zj];constructor
    ·exact fun h=>.inr h
    ·rintro (h|h)
     ·exact .inl h
     ·exact h
   ·simp only [zj]
theorem ML {v:aa}:∀{d:List aa},kv d→kv (iF v d)
 |[],_=>by simp [iF,kv]
 |y::d,h=>by
  unfold kv at h;rw [zt] at h;simp only [iF];split
  ·rename_i h1;refine zt.2 ⟨fun x hx=>?_,ML h.2⟩;rcases D3.1 hx with rfl|hx
   ·exact h1
   ·exact h.1 x hx
  ·split
   ·exact zt.2 h
   ·rename_i h1 h2
    have h3:dy v y=true:=by
     cases hh:dy v y with
     |true=>rfl
     |false=>exact absurd (jO.2 (tq (by simpa using h1) hh)) h2
    refine zt.2 ⟨fun x hx=>?_,zt.2 h⟩;rcases zj.1 hx with rfl|hx
    ·exact h3
    ·exact vF h3 (h.1 x hx)
theorem D2 (v:aa):∀d:List aa,(iF v d).length≤d.length+1
 |[]=>by simp [iF]
 |y::d=>by
  have:=D2 v d;simp only [iF];split
  ·simp;omega
  ·split<;>simp
theorem KR:∀{l d:List aa} {x:aa},x∈lK d l↔x∈d∨x∈l
 |[],d,x=>by simp [lK]
 |v::l,d,x=>by
  simp only [lK,KR (l:=l),D3,zj];constructor
  ·rintro ((h|h)|h)
   ·exact .inr (.inl h)
   ·exact .inl h
   ·exact .inr (.inr h)
  ·rintro (h|h|h)
   ·exact .inl (.inr h)
   ·exact .inl (.inl h)
   ·exact .inr h
theorem KS:∀{l d:List aa},kv d→kv (lK d l)
 |[],_,h=>h
 |_::l,_,h=>KS (l:=l) (ML h)
theorem KQ:∀l d:List aa,(lK d l).length≤d.length+l.length
 |[],d=>by simp [lK]
 |v::l,d=>by
  have:=KQ l (iF v d);have:=D2 v d;simp only [lK,zd];omega
theorem uC {l:List aa} {x:aa}:x∈ef l↔x∈l:=by simp [ef,KR]
theorem Qa (l:List aa):kv (ef l):=KS (by simp [kv])
theorem xp (l:List aa):(ef l).length≤l.length:=by simpa [ef] using KQ l []
theorem N_:∀{A B:List aa},(∀x,x∈A↔x∈B)→kv A→kv B→A=B
 |[],[],_,_,_=>rfl
 |[],b::B,h,_,_=>by have:=(h b).2 (by simp);simp at this
 |a::A,[],h,_,_=>by have:=(h a).1 (by simp);simp at this
 |a::A,b::B,h,h1,h2=>by
  unfold kv at h1 h2;rw [zt] at h1 h2
  have e:a=b:=by
   rcases zj.1 ((h a).1 (by simp)) with e|ha
   ·exact e
   ·rcases zj.1 ((h b).2 (by simp)) with e|hb
    ·exact e.symm
    ·have:=MW (h1.1 b hb);rw [h2.1 a ha] at this;cases this
  subst e;rw [N_ (A:=A) (B:=B) (fun x=>?_) h1.2 h2.2];constructor
  ·intro hx;rcases zj.1 ((h x).1 (by simp [hx])) with e|hb
   ·subst e;have:=h1.1 x hx;rw [yi] at this;cases this
   ·exact hb
  ·intro hx;rcases zj.1 ((h x).2 (by simp [hx])) with e|hb
   ·subst e;have:=h2.1 x hx;rw [yi] at this;cases this
   ·exact hb
def kE (p:aa):List aa→List aa
 |[]=>[p]
 |v::l=>if fL v p=true then kE p l else p::kE v l
def oz:List aa→List aa
 |[]=>[]
 |v::l=>kE v l
theorem xj:∀{l:List aa} {p x:aa},x∈kE p l↔x=p∨x∈l
 |[],p,x=>by simp [kE]
 |v::l,p,x=>by
  simp only [kE];split
  ·rename_i h;have:=jO.1 h;subst this;rw [xj];simp only [zj];constructor
   ·rintro (h|h)
    ·exact .inl h
    ·exact .inr (.inr h)
   ·rintro (h|h|h)
    ·exact .inl h
    ·exact .inl h
    ·exact .inr h
  ·simp only [zj,xj (l:=l)]
theorem B5:∀{l:List aa} {p:aa},(p::l).Pairwise (fun a b=>dy b a=false)→kv (kE p l)
 |[],p,_=>by simp [kE,kv]
 |v::l,p,h=>by
  rw [zt] at h;simp only [kE];split
  ·rename_i hv;have:=jO.1 hv;subst this;exact B5 h.2
  ·rename_i hv
   have hp:dy p v=true:=by
    cases hh:dy p v with
    |true=>rfl
    |false=>exact absurd (jO.2 (tq (h.1 v (by simp)) hh)) hv
   refine zt.2 ⟨fun x hx=>?_,B5 h.2⟩;rcases xj.1 hx with rfl|hx
   ·exact hp
   ·have h2:=(zt.1 h.2).1 x hx;cases hh:dy p x with
    |true=>rfl
    |false=>
     have:=tq hh (h.1 x (by simp [hx]));subst this;rw [hp] at h2;cases h2
def iZ (l:List aa):List aa:=l.mergeSort fun x y=>!dy y x
theorem V4 {l:List aa} {x:aa}:x∈iZ l↔x∈l:=(List.mergeSort_perm _ _).mem_iff
theorem Bj (l:List aa):(iZ l).length=l.length:=List.length_mergeSort _
theorem V5 (l:List aa):(iZ l).Pairwise fun a b=>dy b a=false:=by
 have:=List.pairwise_mergeSort (le:=fun x y=>!dy y x) (fun a b c h1 h2=>by
  simp only [Bool.not_eq_true'] at h1 h2 ⊢;cases hh:dy c a with
  |false=>rfl
  |true=>
   cases h3:dy a b with
   |true=>rw [vF hh h3] at h2;cases h2
   |false=>
    have:=tq h3 h1;subst this
    rw [hh] at h2;cases h2) (fun a b=>by
  cases hh:dy b a with
  |false=>simp
  |true=>simp [MW hh]) l
 exact this.imp (by intro a b h;simpa using h)
theorem P0:oz (iZ l)=ef l:=by
 apply N_ _ _ (Qa l)
 ·intro x;rw [uC];have hm:=V4 (l:=l) (x:=x);cases h:iZ l with
  |nil=>rw [h] at hm;rw [←hm];simp [oz]
  |cons v r=>rw [h] at hm;rw [←hm];simp [oz,xj]
 ·have:=V5 l;cases h:iZ l with
  |nil=>simp [oz,kv]
  |cons v r=>rw [h] at this;exact B5 this
def fb (v:aa):List aa→Int→Int
 |[],_=>-1
 |x::d,i=>if fL x v=true then i else fb v d (i+1)
theorem Td (v:aa):∀(d:List aa) (i:Int),0≤i→fb v d i=-1∨(0≤fb v d i∧fb v d i<i+(d.length:Int))
 |[],i,_=>.inl rfl
 |x::d,i,hi=>by
  simp only [fb];split
  ·right;simp;omega
  ·have:=Td v d (i+1) (by omega);simp only [zd];omega
def g8 (d:List aa):List aa→Option (List Int)
 |[]=>some []
 |v::l=>if fb v d 0<0 then none else match g8 d l with
  |some p=>some (fb v d 0::p)
  |none=>none
def qx (d l:List aa):List Int:=match g8 d l with
 |some p=>p
 |none=>[]
theorem A_ (d:List aa):∀{l:List aa} {p:List Int},g8 d l=some p→p.length=l.length
 |[],p,h=>by simp [g8] at h;subst h;rfl
 |v::l,p,h=>by
  simp only [g8] at h;split at h
  ·cases h
  ·split at h
   ·rename_i q hq;simp at h;subst h;simp [A_ d hq]
   ·cases h
theorem Vc (d l:List aa):(qx d l).length≤l.length:=by
 unfold qx;split
 ·rename_i p hp;rw [A_ d hp];omega
 ·simp
def fe (d:List aa):List Int→Option (List aa)
 |[]=>some []
 |i::l=>if 0≤i then (match d[i.toNat]? with
  |some v=>match fe d l with
   |some r=>some (v::r)
   |none=>none
  |none=>none) else none
theorem HW (d:List aa):∀{l:List Int} {r:List aa},fe d l=some r→r.length=l.length
 |[],r,h=>by simp [fe] at h;subst h;rfl
 |i::l,r,h=>by
  simp only [fe] at h;split at h
  ·split at h
   ·split at h
    ·rename_i q hq;simp at h;subst h;simp [HW d hq]
    ·cases h
   ·cases h
  ·cases h
def eJ (l:List aa):List Int:=if bG l=0 then [] else
 bw (ef l).length++et (ef l)++fc (qx (ef l) l) (ed ((ef l).length-1))
theorem xu (l:List aa):aZ (eJ l):=by
 unfold eJ;split;exact kC;exact ot (ot (pR _) (K0 _)) (Nk _ _)
theorem Qj (l:List aa):(eJ l).length≤1000:=by
 unfold eJ;split
 ·simp
 ·rename_i h;have:=(kV h).2.1;have:=xp l;have:=Cs (ef l);have:=fP ((ef l).length:Int);have:=tz (qx (ef l) l) (ed ((ef l).length-1));have:=Vc (ef l) l;simp only [zb];omega
def ju (eE:Int) (b:List Int) (ty k:Int):Option (List aa):=match gN b 0 with
 |some (n,u)=>if 1≤n∧n≤eE then (match eK b ty n.toNat u with
  |some (d,t)=>match eG (b.drop t.toNat) (ed (n-1)) k with
   |some p=>match fe d p with
    |some l=>cM b k eJ l
    |none=>none
   |none=>none
  |none=>none) else none
 |none=>none
def gP (b:List Int) (ty k:Int):Option (List aa):=ju k b ty k
theorem uz {b:List Int} {k:Int} {e:List aa→List Int} {l l':List aa} (h:cM b k e l=some l'):l'=l∧(1≤k∧k≤64)∧(l.length:Int)=k∧b=e l:=by
 unfold cM at h;split at h
 ·simp at h;exact ⟨h.symm,by assumption⟩
 ·cases h
theorem P4 (hk:1≤k∧k≤64):ju 64 b ty k=gP b ty k:=by
 unfold gP ju;cases hg:gN b 0 with
 |none=>rfl
 |some q=>
  obtain ⟨n,u⟩:=q;simp only;by_cases h1:1≤n∧n≤64
  ·rw [if_pos h1];by_cases h2:n≤k
   ·rw [if_pos ⟨h1.1,h2⟩]
   ·rw [if_neg (fun e=>h2 e.2)];cases hv:eK b ty n.toNat u with
    |none=>rfl
    |some q=>
     obtain ⟨d,t⟩:=q;simp only;cases hu:eG (b.drop t.toNat) (ed (n-1)) k with
     |none=>rfl
     |some p=>
      simp only;cases hp:fe d p with
      |none=>rfl
      |some l=>
       simp only;cases hc:cM b k eJ l with
       |none=>rfl
       |some l'=>
        exfalso;obtain ⟨rfl,_,hl,he⟩:=uz hc
        have bm:bG l'≠0:=by
         intro e;rw [eJ,if_pos e] at he;subst he;simp [gN] at hg
        have:=xp l';have:=(kV bm).2.1;rw [eJ,if_neg bm,zx] at he;rw [he,QB (by omega)] at hg;simp at hg;omega
  ·rw [if_neg h1,if_neg (fun e=>h1 ⟨e.1,by omega⟩)]
def jd (m:Int):List aa→Int
 |[]=>m
 |v::l=>jd (if v.N<m then v.N else m) l
def dQ:List aa→Int
 |[]=>0
 |v::l=>jd v.N l
theorem JY:∀(l:List aa) (m:Int),jd m l≤m∧(∀v∈l,jd m l≤v.N)∧(jd m l=m∨∃v∈l,jd m l=v.N)
 |[],m=>by simp [jd]
 |x::l,m=>by
  obtain ⟨h1,h2,h3⟩:=JY l (if x.N<m then x.N else m);simp only [jd];refine ⟨?_,?_,?_⟩
  ·revert h1;split<;>intro h1<;>omega
  ·intro v hv;rcases zj.1 hv with rfl|hv
   ·revert h1;split<;>intro h1<;>omega
   ·exact h2 v hv
  ·rcases h3 with h3|⟨v,hv,h3⟩
   ·rw [h3];split
    ·exact .inr ⟨x,by simp,rfl⟩
    ·exact .inl rfl
   ·exact .inr ⟨v,by simp [hv],h3⟩
theorem Pq {l:List aa} (h:0<l.length):(∀v∈l,dQ l≤v.N)∧∃v∈l,dQ l=v.N:=by
 cases l with
 |nil=>simp at h
 |cons x l=>
  obtain ⟨h1,h2,h3⟩:=JY l x.N;simp only [dQ];refine ⟨fun v hv=>?_,?_⟩
  ·rcases zj.1 hv with rfl|hv
   ·exact h1
   ·exact h2 v hv
  ·rcases h3 with h3|⟨v,hv,h3⟩
   ·exact ⟨x,by simp,h3⟩
   ·exact ⟨v,by simp [hv],h3⟩
def ez (l:List aa):List Int:=l.map fun v=>v.N-dQ l
theorem ua {l:List aa} (h:bG l=1):1≤l.length∧l.length≤64∧∀v∈l,v.Ty=1∧v.S=⟨#[]⟩∧(-1000000000≤v.N∧v.N≤1000000000):=by
 obtain ⟨h1,h2,h3,_⟩:=kV (l:=l) (by omega);rw [h] at h3;refine ⟨h1,h2,fun v hv=>?_⟩;obtain ⟨h4,h5⟩:=pE h3 v hv;rw [h5] at h4;have:=aak h4;exact ⟨h5,this.2,this.1⟩
def fE (l:List aa):List Int:=if bG l=1 then bw (dQ l)++fM 0 (ez l)::fc (ez l) (fM 0 (ez l)) else []
theorem JC (l:List Int):0≤fM 0 l∧fM 0 l≤31:=OV l 0 (by omega)
theorem xv (l:List aa):aZ (fE l):=by
 unfold fE;split
 ·have:=JC (ez l);exact ot (pR _) (BR (by omega) (Nk _ _))
 ·exact kC
theorem Qk (l:List aa):(fE l).length≤1000:=by
 unfold fE;split
 ·rename_i h;have:=(ua h).2.1;have:=fP (dQ l);have:=tz (ez l) (fM 0 (ez l));have:(ez l).length=l.length:=by simp [ez]
  simp only [zb,zd];omega
 ·simp
def gE (base:Int):List Int→Option (List aa)
 |[]=>some []
 |x::l=>if (0≤x∧x≤2000000000)∧base+x≤1000000000 then (match gE base l with
  |some r=>some (⟨1,base+x,⟨#[]⟩⟩::r)
  |none=>none) else none
def jJ (base:Int) (l:List Int):Option (List aa):=if fB base=true then gE base l else none
theorem NG (base:Int):∀{l:List Int} {r:List aa},gE base l=some r→r.length=l.length
 |[],r,h=>by simp [gE] at h;subst h;rfl
 |i::l,r,h=>by
  simp only [gE] at h;split at h
  ·split at h
   ·rename_i q hq;simp at h;subst h;simp [NG base hq]
   ·cases h
  ·cases h
def gu (b:List Int) (k:Int):Option (List aa):=match gN b 0 with
 |some (n,u)=>match b[u.toNat]? with
  |some w=>match eG (b.drop (u+1).toNat) w k with
   |some p=>match jJ n p with
    |some l=>cM b k fE l
    |none=>none
   |none=>none
  |none=>none
 |none=>none
def fY (kind:Int) (l:List aa):List Int:=if kind=0 then gw l else if kind=1 then ft l else if kind=2 then eJ l else if kind=3 then fE l else []
theorem Qi (kind:Int) (l:List aa):aZ (fY kind l):=by
 unfold fY;split;exact Cq l;split;exact Cr l;split;exact xu l;split;exact xv l;exact kC
theorem Co (kind:Int) (l:List aa):(fY kind l).length≤1000:=by
 unfold fY;split;exact zX (Ql l) (by omega);split;exact Qm l;split;exact Qj l;split;exact Qk l;simp
def ca (kind:Int) (l:List aa):Int:=((fY kind l).length:Int)
def eI (l:List aa):Int:=
 let t:=bG l
 if t=0 then -1 else
 let b1:=if ca 1 l<ca 0 l then 1 else 0
 let b2:=if ca 2 l<ca b1 l then 2 else b1
 if t=1∧ca 3 l<ca b2 l then 3 else b2
theorem BN (l:List aa):eI l=-1∨(0≤eI l∧eI l≤3):=by
 unfold eI;simp only;split
 ·exact .inl rfl
 ·right;split
  ·omega
  ·split
   ·omega
   ·split<;>omega
def bP (l:List aa):List Int:=if eI l<0 then [] else eI l::fY (eI l) l
theorem oC (l:List aa):aZ (bP l):=by
 unfold bP;split
 ·exact kC
 ·have:=BN l;exact BR (by omega) (Qi _ _)
theorem KX (l:List aa):(bP l).length≤1001:=by
 unfold bP;split
 ·simp
 ·have:=Co (eI l) l;simp;omega
def en (kind:Int) (b:List Int) (ty k:Int):Option (List aa):=if kind=0 then iw b ty k else if kind=1 then eP b ty k else if kind=2 then gP b ty k else if kind=3 then gu b k else none
def cV (b:List Int) (ty k:Int):Option (List aa):=match b with
 |[]=>none
 |c::r=>match en c r ty k with
  |some l=>if bG l=ty∧b=bP l then some l else none
  |none=>none
theorem P9 {b:List Int} {ty k:Int} {l:List aa} (hb:aZ b) (h:iw b ty k=some l):(l.length:Int)=k:=by
 unfold iw at h;split at h
 ·rename_i hk;split at h
  ·rename_i l' t hg;split at h
   ·simp at h;subst h;exact (KP hb hk hg).1
   ·cases h
  ·cases h
 ·cases h
theorem P' {b:List Int} {ty k:Int} {l:List aa} (h:eP b ty k=some l):(l.length:Int)=k:=by
 unfold eP at h;split at h
 ·split at h
  ·split at h
   ·obtain ⟨rfl,_,h1,_⟩:=uz h;exact h1
   ·cases h
  ·cases h
 ·cases h
theorem P5 {b:List Int} {ty k:Int} {l:List aa} (h:gP b ty k=some l):(l.length:Int)=k:=by
 unfold gP ju at h;split at h
 ·split at h
  ·split at h
   ·split at h
    ·split at h
     ·obtain ⟨rfl,_,h1,_⟩:=uz h;exact h1
     ·cases h
    ·cases h
   ·cases h
  ·cases h
 ·cases h
theorem P6 {b:List Int} {k:Int} {l:List aa} (h:gu b k=some l):(l.length:Int)=k:=by
 unfold gu at h;split at h
 ·split at h
  ·split at h
   ·split at h
    ·obtain ⟨rfl,_,h1,_⟩:=uz h;exact h1
    ·cases h
   ·cases h
  ·cases h
 ·cases h
theorem oA {kind:Int} {b:List Int} {ty k:Int} {l:List aa} (hb:aZ b) (h:en kind b ty k=some l):(l.length:Int)=k:=by
 unfold en at h;split at h;exact P9 hb h;split at h;exact P' h;split at h;exact P5 h;split at h;exact P6 h;cases h
theorem xo {b:List Int} {ty k:Int} {l:List aa} (hb:aZ b) (h:cV b ty k=some l):(l.length:Int)=k∧bG l=ty∧b=bP l:=by
 unfold cV at h;split at h
 ·cases h
 ·rename_i c r;split at h
  ·rename_i l' hl;split at h
   ·rename_i hh;simp at h;subst h;exact ⟨oA (fun x hx=>hb x (by simp [hx])) hl,hh⟩
   ·cases h
  ·cases h
@[simp] theorem Oz (h:l.length≤1048576) (hs:aa.aq l):Gw TT 526 [.one (.ro k0 (.sl 3 (l.map aa.e)))]=some (vi (bG l),[]):=by
 refine Ga tN FQ ?_;unfold FQ;by_cases q:1≤l.length∧l.length≤64
 ·have q1:(1:Int)≤(l.length:Int):=by omega
  have q2:(l.length:Int)≤64:=by omega
  obtain ⟨v0,cO⟩:∃v,l[0]?=some v:=⟨_,zi (by omega)⟩;obtain ⟨jg,j4⟩:=za.1 cO
  have dx:bG l=if gj v0.Ty l=true then v0.Ty else 0:=by
   cases l with
   |nil=>simp at jg
   |cons x r=>
    simp at cO;subst cO;simp only [bG];have:r.length<64:=by simp at q;omega
    simp [this]
  refine Uw (J5 q1 q2 jg cO j4) ?_;refine ba (σ:=List aa×List aa) (fun s=>[(0,AV.v k0 (D.sl 3 (l.map aa.e)),none),(9,AV.v k0 (D.sl 3 (l.map aa.e)),none),(10,AV.v false (di (l.length:Nat)),none),(11,AV.v false (di ((s.1.length:Nat):Int)),none)]) (fun s=>l=s.1++s.2∧gj v0.Ty s.2=gj v0.Ty l) (fun s=>s.2.length) ([],l) (by simp) ⟨rfl,rfl⟩ ?_;rintro ⟨pre,rest⟩ ⟨y1,y2⟩;simp only at y1 y2;have y3:l.length=pre.length+rest.length:=by rw [y1,zb]
  rcases rest with _|⟨d,rest⟩
  ·simp only [zf] at y3;simp only [gj] at y2;rw [←y2,if_pos rfl] at dx;have c1:¬(pre.length:Int)<(l.length:Int):=by omega
   unfold Is;refine Uw (J5 c1 jg cO j4 dx) ?_;simp [tN,dx]
  ·simp only [zd] at y3;have hd:=hs d (by rw [y1];simp);simp only [aa.sm] at hd;simp only [gj] at y2;have hg:l[pre.length]?=some d:=by rw [y1];simp
   obtain ⟨ae,he⟩:=za.1 hg;have c1:(pre.length:Int)<(l.length:Int):=by omega
   have hw:=Wi ((pre.length:Int)+1);unfold Is;by_cases o1:cE d.Ty d.N d.S=true
   ·by_cases o2:d.Ty=v0.Ty
    ·rw [if_pos ⟨o1,o2⟩] at y2;have o3:cE v0.Ty d.N d.S=true:=o2▸o1;refine Uw (J8 hg he ae c1 hw hd o1 (J5 o2 o3 jg cO j4)) ?_;exact ⟨(pre++[d],rest),by simp,⟨by rw [y1];simp,y2⟩,by simp⟩
    ·rw [if_neg (fun q=>o2 q.2)] at y2;rw [←y2,if_neg (by simp)] at dx;have o4:(d.Ty==v0.Ty)=false:=by simpa using o2
     have o5:(d.Ty !=v0.Ty)=true:=by simpa using o2
     refine Uw (J8 hg he ae c1 hw hd o1 (J6 o4 o5 jg cO j4 dx)) ?_;simp [tN,dx]
   ·rw [if_neg (fun q=>o1 q.1)] at y2;rw [←y2,if_neg (by simp)] at dx;have o3:cE d.Ty d.N d.S=false:=by simpa using o1
    refine Uw (J8 hg he ae c1 hw hd o3 (J4 jg cO j4 dx)) ?_;simp [tN,dx]
 ·have dx:bG l=0:=by
   cases l with
   |nil=>rfl
   |cons x r=>
    simp only [bG];rw [if_neg (fun e=>q ⟨by simp,by simp;omega⟩)]
  refine Uw dx ?_;repeat intro hc
  simp [tN,dx]
@[simp] theorem Ou (h:l.length≤1048576) (hs:aa.aq l):Gw TT 518 [.one (.ro k0 (.sl 3 (l.map aa.e)))]=some (vi (bG l),[]):=by
 refine Ga tL FH ?_;unfold FH;by_cases q:1≤l.length∧l.length≤64
 ·have q1:(1:Int)≤(l.length:Int):=by omega
  have q2:(l.length:Int)≤64:=by omega
  obtain ⟨v0,cO⟩:∃v,l[0]?=some v:=⟨_,zi (by omega)⟩;obtain ⟨jg,j4⟩:=za.1 cO
  have dx:bG l=if gj v0.Ty l=true then v0.Ty else 0:=by
   cases l with
   |nil=>simp at jg
   |cons x r=>
    simp at cO;subst cO;simp only [bG];have:r.length<64:=by simp at q;omega
    simp [this]
  refine Uw (J5 q1 q2 jg cO j4) ?_;refine ba (σ:=List aa×List aa) (fun s=>[(0,AV.v k0 (D.sl 3 (l.map aa.e)),none),(3,AV.v false (di ((s.1.length:Nat):Int)),none)]) (fun s=>l=s.1++s.2∧gj v0.Ty s.2=gj v0.Ty l) (fun s=>s.2.length) ([],l) (by simp) ⟨rfl,rfl⟩ ?_;rintro ⟨pre,rest⟩ ⟨y1,y2⟩;simp only at y1 y2;have y3:l.length=pre.length+rest.length:=by rw [y1,zb]
  rcases rest with _|⟨d,rest⟩
  ·simp only [zf] at y3;simp only [gj] at y2;rw [←y2,if_pos rfl] at dx;have c1:¬(pre.length:Int)<(l.length:Int):=by omega
   unfold Ir;refine Uw (J5 c1 jg cO j4 dx) ?_;simp [tL,dx]
  ·simp only [zd] at y3;have hd:=hs d (by rw [y1];simp);simp only [aa.sm] at hd;simp only [gj] at y2;have hg:l[pre.length]?=some d:=by rw [y1];simp
   obtain ⟨ae,he⟩:=za.1 hg;have c1:(pre.length:Int)<(l.length:Int):=by omega
   have hw:=Wi ((pre.length:Int)+1);unfold Ir;by_cases o1:cE d.Ty d.N d.S=true
   ·by_cases o2:d.Ty=v0.Ty
    ·rw [if_pos ⟨o1,o2⟩] at y2;have o3:cE v0.Ty d.N d.S=true:=o2▸o1;refine Uw (J8 hg he ae c1 hw hd o1 (J5 o2 o3 jg cO j4)) ?_;exact ⟨(pre++[d],rest),by simp,⟨by rw [y1];simp,y2⟩,by simp⟩
    ·rw [if_neg (fun q=>o2 q.2)] at y2;rw [←y2,if_neg (by simp)] at dx;have o4:(d.Ty==v0.Ty)=false:=by simpa using o2
     have o5:(d.Ty !=v0.Ty)=true:=by simpa using o2
     refine Uw (J8 hg he ae c1 hw hd o1 (J6 o4 o5 jg cO j4 dx)) ?_;simp [tL,dx]
   ·rw [if_neg (fun q=>o1 q.1)] at y2;rw [←y2,if_neg (by simp)] at dx;have o3:cE d.Ty d.N d.S=false:=by simpa using o1
    refine Uw (J8 hg he ae c1 hw hd o3 (J4 jg cO j4 dx)) ?_;simp [tL,dx]
 ·have dx:bG l=0:=by
   cases l with
   |nil=>rfl
   |cons x r=>
    simp only [bG];rw [if_neg (fun e=>q ⟨by simp,by simp;omega⟩)]
  refine Uw dx ?_;repeat intro hc
  simp [tL,dx]
@[simp] theorem WM (h:b.length≤1048000) (hs:bt.size≤1048576):Gw TT 579 [.one (.ro k0 (.sl 1 (b.map eb))),.st [.ro false (di cy),.ro false (di cx),.ro false (.str bt)]]=some (.one (.own (.sl 1 ((b++eS ⟨cy,cx,bt⟩).map eb))),[]):=by
 refine Ga wj GG ?_;unfold GG;have ll:(0+b.length)*1≤70368744177664:=by omega
 have cv:b.length≤70368744177664:=by omega
 have dY:b.length≤1048576:=by omega
 cases hv:cE cy cx bt with
 |false=>
  have hp:eS ⟨cy,cx,bt⟩=[]:=by simp [eS,hv]
  refine Uw (J6 h hs hv ll cv dY) ?_;simp [wj,hp]
 |true=>
  have hl:=sy hv;by_cases u:cy=1
  ·subst u;have hp:eS ⟨1,cx,bt⟩=bw cx:=by simp [eS,hv]
   refine Uw (J6 h hs hv ll cv dY) ?_;simp [wj,hp]
  ·have hp:eS ⟨cy,cx,bt⟩=(bt.size:Int)::mo bt:=by simp [eS,hv,u]
   have hu:IntKind.wrap .u8 (bt.size:Int)=(bt.size:Int):=wrap_u8 (by omega) (by omega);have gZ:(b.length+1)*1≤70368744177664:=by omega
   have kL:b.length+1≤70368744177664:=by omega
   have oR:b.length+1+bt.size≤70368744177664:=by omega
   refine Uw (J8 h hs hv ll cv dY u (J4 hu gZ kL oR)) ?_;repeat intro hc
   simp [wj,hp,mo]
@[simp] theorem WK (h:b.length≤1048000) (hs:bt.size≤1048576):Gw TT 569 [.one (.ro k0 (.sl 1 (b.map eb))),.st [.ro false (di cy),.ro false (di cx),.ro false (.str bt)]]=some (.one (.own (.sl 1 ((b++eS ⟨cy,cx,bt⟩).map eb))),[]):=by
 refine Ga wi Gt ?_;unfold Gt;have ll:(0+b.length)*1≤70368744177664:=by omega
 have cv:b.length≤70368744177664:=by omega
 have dY:b.length≤1048576:=by omega
 cases hv:cE cy cx bt with
 |false=>
  have hp:eS ⟨cy,cx,bt⟩=[]:=by simp [eS,hv]
  refine Uw (J6 h hs hv ll cv dY) ?_;simp [wi,hp]
 |true=>
  have hl:=sy hv;by_cases u:cy=1
  ·subst u;have hp:eS ⟨1,cx,bt⟩=bw cx:=by simp [eS,hv]
   refine Uw (J6 h hs hv ll cv dY) ?_;simp [wi,hp]
  ·have hp:eS ⟨cy,cx,bt⟩=(bt.size:Int)::mo bt:=by simp [eS,hv,u]
   have hu:IntKind.wrap .u8 (bt.size:Int)=(bt.size:Int):=wrap_u8 (by omega) (by omega);have gZ:(b.length+1)*1≤70368744177664:=by omega
   have kL:b.length+1≤70368744177664:=by omega
   have oR:b.length+1+bt.size≤70368744177664:=by omega
   refine Uw (J8 h hs hv ll cv dY u (J4 hu gZ kL oR)) ?_;repeat intro hc
   simp [wi,hp,mo]
def xD (r:Option (aa×Int)):V:=match r with
 |some (v,t)=>.a_ [.st [.ro false (di v.Ty),.ro false (di v.N),.ro false (.str v.S)],vi t,vb true]
 |none=>.a_ [.st [.ro false (di 0),.ro false (di 0),.ro false (.str ⟨#[]⟩)],vi 0,vb false]
@[simp] theorem abm (v:aa) (t:Int):xD (some (v,t))=.a_ [.st [.ro false (di v.Ty),.ro false (di v.N),.ro false (.str v.S)],vi t,vb true]:=rfl
@[simp] theorem abl:xD none=.a_ [.st [.ro false (di 0),.ro false (di 0),.ro false (.str ⟨#[]⟩)],vi 0,vb false]:=rfl
@[simp] theorem adf (h:b.length≤1048576) (hb:aZ b):Gw TT 551 [.one (.ro k0 (.sl 1 (b.map eb))),vi u,vi ty]=some (xD (cW b u ty),[]):=by
 refine Ga pn F' ?_;unfold F';have hz:(⟨#[]⟩:ByteArray).size≤1048576:=by decide
 by_cases q1:ty=1
 ·subst q1;cases hg:gN b u with
  |none=>
   have hr:cW b u 1=none:=by simp [cW,hg]
   refine Ud (J4 h hb hg hr) ?_;simp [pn,hr]
  |some q=>
   obtain ⟨n,t⟩:=q;have hr:cW b u 1=some (⟨1,n,⟨#[]⟩⟩,t):=by simp [cW,hg]
   obtain ⟨c1,c2,c3,_⟩:=lL hb hg;have hv:=Bq c1;have ht:¬t=0:=by omega
   refine Ud (J7 h hb hg hr hz hv ht) ?_;repeat intro hc
   simp [pn,hr]
 ·by_cases q2:ty=2
  ·subst q2;by_cases q3:0≤u∧u<(b.length:Int)
   ·obtain ⟨m,rfl⟩:=ze q3.1;have hm:m<b.length:=by omega
    obtain ⟨c,hc⟩:∃c,b[m]?=some c:=⟨_,zi hm⟩;have fF:b[m]=c:=(za.1 hc).2;have dF:=hb c (zm hc);obtain ⟨kn,rfl⟩:=ze dF.1;have w1:=Wi ((m:Int)+1);have w2:IntKind.wrap .i64 (kn:Int)=(kn:Int):=wrap_i64 (by omega) (by omega);have w3:=Wi ((m:Int)+1+(kn:Int));have w4:=Wi ((b.length:Int)-(m:Int));have w5:=Wi ((b.length:Int)-(m:Int)-1);have w6:=Wi ((b.length:Int)-1);have p1:(m:Int)<(b.length:Int):=by omega
    have p2:(m:Int)≤(b.length:Int)-1:=by omega
    have p3:(0:Int)≤(m:Int)+1:=by omega
    have p4:(0:Int)≤(m:Int)+1+(kn:Int):=by omega
    have p5:((m:Int)+1).toNat=m+1:=by omega
    have p6:((m:Int)+1+(kn:Int)).toNat=m+1+kn:=by omega
    have p7:m+1≤m+1+kn:=by omega
    have vL:(m:Int)+1≤(m:Int)+1+(kn:Int):=by omega
    by_cases q4:m+1+kn≤b.length
    ·obtain ⟨S,hS⟩:∃S,S=strOf ((b.take (m+1+kn)).drop (m+1)):=⟨_,rfl⟩;obtain ⟨L,hL⟩:∃L,L=((b.take (m+1+kn)).drop (m+1)).map (fun n=>Zu n.toNat):=⟨_,rfl⟩;have eg:mr (zz (m+1) (zF (m+1+kn) (zg eb b)))=some L:=by rw [hL,←Kg,zK,Zr]
     have uL:(⟨L.toArray⟩:ByteArray)=S:=by rw [hL,hS];try rfl
     have cg:S.size≤1048576:=by
      rw [←xa,hS,sL (mq _ (sM _ hb))];simp only [zy,zT];omega
     have p8:¬(b.length:Int)<(m:Int)+1+(kn:Int):=by omega
     have p9:¬(b.length:Int)-(m:Int)-1<(kn:Int):=by omega
     have pe:(m:Int)+1+(kn:Int)≤(b.length:Int):=by omega
     have vJ:(m:Int)+1≤(b.length:Int):=by omega
     have vK:¬(m:Int)+1+(kn:Int)=0:=by omega
     cases hv:cE 2 0 S with
     |true=>
      have hr:cW b (m:Int) 2=some (⟨2,0,S⟩,(m:Int)+1+(kn:Int)):=by
       unfold cW;rw [if_neg (by omega),if_pos ⟨rfl,by omega⟩];simp only [zq,hc];rw [if_pos pe,p5,p6,←hS,if_pos hv]
      refine Ud (J8 h hc fF hm w1 w2 w3 (J8 w4 w5 w6 p1 p2 p3 p4 (J8 p5 p6 p7 vL p8 p9 pe (J8 vJ vK q4 eg uL cg hv hr)))) ?_;repeat intro hc
      simp [pn,hr]
     |false=>
      have hr:cW b (m:Int) 2=none:=by
       unfold cW;rw [if_neg (by omega),if_pos ⟨rfl,by omega⟩];simp only [zq,hc];rw [if_pos pe,p5,p6,←hS,if_neg (by rw [hv];simp)]
      refine Ud (J8 h hc fF hm w1 w2 w3 (J8 w4 w5 w6 p1 p2 p3 p4 (J8 p5 p6 p7 vL p8 p9 pe (J8 vJ vK q4 eg uL cg hv hr)))) ?_;simp [pn,hr]
    ·have p8:(b.length:Int)<(m:Int)+1+(kn:Int):=by omega
     have p9:(b.length:Int)-(m:Int)-1<(kn:Int):=by omega
     have hr:cW b (m:Int) 2=none:=by
      unfold cW;rw [if_neg (by omega),if_pos ⟨rfl,by omega⟩];simp only [zq,hc];rw [if_neg (by omega)]
     refine Ud (J8 h hc fF hm w1 w2 w3 (J8 w4 w5 w6 p1 p2 p3 p4 (J6 p5 p6 p7 p8 p9 hr))) ?_;simp [pn,hr]
   ·have hr:cW b u 2=none:=by
     unfold cW;rw [if_neg (by omega)];split
     ·rename_i hh;rw [zA (by omega)]
     ·rfl
    have w6:=Wi ((b.length:Int)-1);have cO:cE 2 0 ⟨#[]⟩=true:=by simp [cE,ma,uo];decide
    refine Ud (J4 hr hz w6 cO) ?_ ?_;all_goals repeat intro hc
    all_goals simp [pn,hr]
  ·have hr:cW b u ty=none:=by simp [cW,q1,q2]
   have cO:cE ty 0 ⟨#[]⟩=false:=by simp [cE,q1,q2]
   refine Ud (J5 hr hz q1 q2 cO) ?_;repeat intro hc
   simp [pn,hr]
@[simp] theorem ac6 (h:b.length≤1048576) (hb:aZ b):Gw TT 538 [.one (.ro k0 (.sl 1 (b.map eb))),vi u,vi ty]=some (xD (cW b u ty),[]):=by
 refine Ga pj FY ?_;unfold FY;have hz:(⟨#[]⟩:ByteArray).size≤1048576:=by decide
 by_cases q1:ty=1
 ·subst q1;cases hg:gN b u with
  |none=>
   have hr:cW b u 1=none:=by simp [cW,hg]
   refine Uw (J4 h hb hg hr) ?_;simp [pj,hr]
  |some q=>
   obtain ⟨n,t⟩:=q;have hr:cW b u 1=some (⟨1,n,⟨#[]⟩⟩,t):=by simp [cW,hg]
   obtain ⟨c1,c2,c3,_⟩:=lL hb hg;have hv:=Bq c1;have ht:¬t=0:=by omega
   refine Uw (J7 h hb hg hr hz hv ht) ?_;simp [pj,hr]
 ·by_cases q2:ty=2
  ·subst q2;by_cases q3:0≤u∧u<(b.length:Int)
   ·obtain ⟨m,rfl⟩:=ze q3.1;have hm:m<b.length:=by omega
    obtain ⟨c,hc⟩:∃c,b[m]?=some c:=⟨_,zi hm⟩;have fF:b[m]=c:=(za.1 hc).2;have dF:=hb c (zm hc);obtain ⟨kn,rfl⟩:=ze dF.1;have w1:=Wi ((m:Int)+1);have w2:IntKind.wrap .i64 (kn:Int)=(kn:Int):=wrap_i64 (by omega) (by omega);have w3:=Wi ((m:Int)+1+(kn:Int));have w4:=Wi ((b.length:Int)-(m:Int));have w5:=Wi ((b.length:Int)-(m:Int)-1);have w6:=Wi ((b.length:Int)-1);have p1:(m:Int)<(b.length:Int):=by omega
    have p2:(m:Int)≤(b.length:Int)-1:=by omega
    have p3:(0:Int)≤(m:Int)+1:=by omega
    have p4:(0:Int)≤(m:Int)+1+(kn:Int):=by omega
    have p5:((m:Int)+1).toNat=m+1:=by omega
    have p6:((m:Int)+1+(kn:Int)).toNat=m+1+kn:=by omega
    have p7:m+1≤m+1+kn:=by omega
    have vL:(m:Int)+1≤(m:Int)+1+(kn:Int):=by omega
    by_cases q4:m+1+kn≤b.length
    ·obtain ⟨S,hS⟩:∃S,S=strOf ((b.take (m+1+kn)).drop (m+1)):=⟨_,rfl⟩;obtain ⟨L,hL⟩:∃L,L=((b.take (m+1+kn)).drop (m+1)).map (fun n=>Zu n.toNat):=⟨_,rfl⟩;have eg:mr (zz (m+1) (zF (m+1+kn) (zg eb b)))=some L:=by rw [hL,←Kg,zK,Zr]
     have uL:(⟨L.toArray⟩:ByteArray)=S:=by rw [hL,hS];try rfl
     have cg:S.size≤1048576:=by
      rw [←xa,hS,sL (mq _ (sM _ hb))];simp only [zy,zT];omega
     have p8:¬(b.length:Int)<(m:Int)+1+(kn:Int):=by omega
     have p9:¬(b.length:Int)-(m:Int)-1<(kn:Int):=by omega
     have pe:(m:Int)+1+(kn:Int)≤(b.length:Int):=by omega
     have vJ:(m:Int)+1≤(b.length:Int):=by omega
     have vK:¬(m:Int)+1+(kn:Int)=0:=by omega
     cases hv:cE 2 0 S with
     |true=>
      have hr:cW b (m:Int) 2=some (⟨2,0,S⟩,(m:Int)+1+(kn:Int)):=by
       unfold cW;rw [if_neg (by omega),if_pos ⟨rfl,by omega⟩];simp only [zq,hc];rw [if_pos pe,p5,p6,←hS,if_pos hv]
      refine Uw (J8 h hc fF hm w1 w2 w3 (J8 w4 w5 w6 p1 p2 p3 p4 (J8 p5 p6 p7 vL p8 p9 pe (J8 vJ vK q4 eg uL cg hv hr)))) ?_;simp [pj,hr]
     |false=>
      have hr:cW b (m:Int) 2=none:=by
       unfold cW;rw [if_neg (by omega),if_pos ⟨rfl,by omega⟩];simp only [zq,hc];rw [if_pos pe,p5,p6,←hS,if_neg (by rw [hv];simp)]
      refine Uw (J8 h hc fF hm w1 w2 w3 (J8 w4 w5 w6 p1 p2 p3 p4 (J8 p5 p6 p7 vL p8 p9 pe (J8 vJ vK q4 eg uL cg hv hr)))) ?_;simp [pj,hr]
    ·have p8:(b.length:Int)<(m:Int)+1+(kn:Int):=by omega
     have p9:(b.length:Int)-(m:Int)-1<(kn:Int):=by omega
     have hr:cW b (m:Int) 2=none:=by
      unfold cW;rw [if_neg (by omega),if_pos ⟨rfl,by omega⟩];simp only [zq,hc];rw [if_neg (by omega)]
     refine Uw (J8 h hc fF hm w1 w2 w3 (J8 w4 w5 w6 p1 p2 p3 p4 (J6 p5 p6 p7 p8 p9 hr))) ?_;simp [pj,hr]
   ·have hr:cW b u 2=none:=by
     unfold cW;rw [if_neg (by omega)];split
     ·rename_i hh;rw [zA (by omega)]
     ·rfl
    have w6:=Wi ((b.length:Int)-1);have cO:cE 2 0 ⟨#[]⟩=true:=by simp [cE,ma,uo];decide
    refine Uw (J4 hr hz w6 cO) ?_;repeat intro hc
    simp [pj,hr]
  ·have hr:cW b u ty=none:=by simp [cW,q1,q2]
   have cO:cE ty 0 ⟨#[]⟩=false:=by simp [cE,q1,q2]
   refine Uw (J5 hr hz q1 q2 cO) ?_;repeat intro hc
   simp [pj,hr]
@[simp] theorem WG (h:l.length≤1048576) (hs:aa.aq l):Gw TT 550 [.one (.ro k0 (.sl 3 (l.map aa.e)))]=some (.one (.own (.sl 1 ((gw l).map eb))),[]):=by
 refine Ga yU F_ ?_;unfold F_;by_cases q:bG l=0
 ·have he:gw l=[]:=by simp [gw,q]
  refine Uw (J4 h hs q he) ?_;simp [yU,he]
 ·have he:gw l=et l:=by simp [gw,q]
  obtain ⟨q1,q2,_,_⟩:=kV q;refine Uw (J4 h hs q he) ?_;repeat intro hc
  refine ba (σ:=List aa×List aa×List Int) (fun s=>[(3,AV.pl 3 0 [],some (Rt.an [C.own (D.sl 1 ((s.2.2).map eb))])),(11,AV.v k0 (D.sl 3 (l.map aa.e)),none),(12,AV.v false (di (l.length:Nat)),none),(13,AV.v false (di ((s.1.length:Nat):Int)),none)]) (fun s=>l=s.1++s.2.1∧s.2.2++et s.2.1=et l∧s.2.2.length≤7*s.1.length) (fun s=>s.2.1.length) ([],l,[]) (by simp) ⟨rfl,rfl,by simp⟩ ?_;rintro ⟨pre,rest,a⟩ ⟨y1,y2,y4⟩;simp only at y1 y2 y4;have y3:l.length=pre.length+rest.length:=by rw [y1,zb]
  rcases rest with _|⟨⟨dT,dN,dS⟩,rest⟩
  ·simp only [zf] at y3;simp only [et,zJ,zh] at y2;have c1:¬(pre.length:Int)<(l.length:Int):=by omega
   unfold IE;refine Uw c1 ?_;simp [yU,he,et,y2]
  ·simp only [zd] at y3;have hd:=hs ⟨dT,dN,dS⟩ (by rw [y1];simp);simp only [aa.sm] at hd;have hg:l[pre.length]?=some ⟨dT,dN,dS⟩:=by rw [y1];simp
   obtain ⟨ae,au⟩:=za.1 hg;have c1:(pre.length:Int)<(l.length:Int):=by omega
   have hw:=Wi ((pre.length:Int)+1);have ha:a.length≤1048000:=by omega
   have hp:=qz ⟨dT,dN,dS⟩;unfold IE;refine Uw (J7 hg au ae c1 hw hd ha) ?_;exact ⟨(pre++[⟨dT,dN,dS⟩],rest,a++eS ⟨dT,dN,dS⟩),by simp,⟨by rw [y1];simp,by rw [←y2];simp [et],by simp only [zb,zd,zf];omega⟩,by simp⟩
@[simp] theorem adz (h:l.length≤1048576) (hs:aa.aq l):Gw TT 578 [.one (.ro k0 (.sl 3 (l.map aa.e)))]=some (.one (.own (.sl 1 ((gw l).map eb))),[]):=by
 refine Ga Au GF ?_;unfold GF;by_cases q:bG l=0
 ·have he:gw l=[]:=by simp [gw,q]
  refine Uw (J4 h hs q he) ?_;simp [Au,he]
 ·have he:gw l=et l:=by simp [gw,q]
  obtain ⟨q1,q2,_,_⟩:=kV q;refine Uw (J4 h hs q he) ?_;repeat intro hc
  refine ba (σ:=List aa×List aa×List Int) (fun s=>[(0,AV.v k0 (D.sl 3 (l.map aa.e)),none),(3,AV.pl 3 0 [],some (Rt.an [C.own (D.sl 1 ((s.2.2).map eb))])),(4,AV.v false (di ((s.1.length:Nat):Int)),none)]) (fun s=>l=s.1++s.2.1∧s.2.2++et s.2.1=et l∧s.2.2.length≤7*s.1.length) (fun s=>s.2.1.length) ([],l,[]) (by simp) ⟨rfl,rfl,by simp⟩ ?_;rintro ⟨pre,rest,a⟩ ⟨y1,y2,y4⟩;simp only at y1 y2 y4;have y3:l.length=pre.length+rest.length:=by rw [y1,zb]
  rcases rest with _|⟨⟨dT,dN,dS⟩,rest⟩
  ·simp only [zf] at y3;simp only [et,zJ,zh] at y2;have c1:¬(pre.length:Int)<(l.length:Int):=by omega
   unfold IW;refine Uw c1 ?_;simp [Au,he,et,y2]
  ·simp only [zd] at y3;have hd:=hs ⟨dT,dN,dS⟩ (by rw [y1];simp);simp only [aa.sm] at hd;have hg:l[pre.length]?=some ⟨dT,dN,dS⟩:=by rw [y1];simp
   obtain ⟨ae,au⟩:=za.1 hg;have c1:(pre.length:Int)<(l.length:Int):=by omega
   have hw:=Wi ((pre.length:Int)+1);have ha:a.length≤1048000:=by omega
   have hp:=qz ⟨dT,dN,dS⟩;unfold IW;refine Uw (J7 hg au ae c1 hw hd ha) ?_;exact ⟨(pre++[⟨dT,dN,dS⟩],rest,a++eS ⟨dT,dN,dS⟩),by simp,⟨by rw [y1];simp,by rw [←y2];simp [et],by simp only [zb,zd,zf];omega⟩,by simp⟩
def CP (r:Option (List aa×Int)):V:=match r with
 |some (l,t)=>.a_ [.one (.own (.sl 3 (l.map aa.e))),vi t,vb true]
 |none=>.a_ [.one (.own (.sl 3 [])),vi 0,vb false]
@[simp] theorem abo (l:List aa) (t:Int):CP (some (l,t))=.a_ [.one (.own (.sl 3 (l.map aa.e))),vi t,vb true]:=rfl
@[simp] theorem abn:CP none=.a_ [.one (.own (.sl 3 [])),vi 0,vb false]:=rfl
def ic (r:Option (List aa)):V:=match r with
 |some l=>.a_ [.one (.own (.sl 3 (l.map aa.e))),vb true]
 |none=>.a_ [.one (.own (.sl 3 [])),vb false]
@[simp] theorem Ue (l:List aa):ic (some l)=.a_ [.one (.own (.sl 3 (l.map aa.e))),vb true]:=rfl
@[simp] theorem abX:ic none=.a_ [.one (.own (.sl 3 [])),vb false]:=rfl
@[simp] theorem OA (u0 ty k:Int) (h:b.length≤1048576) (hb:aZ b) (nG:0≤k) (hk:k≤64):Gw TT 549 [.one (.ro k0 (.sl 1 (b.map eb))),vi u0,vi ty,vi k]=some (CP (eK b ty k.toNat u0),[]):=by
 refine Ga yT F9 ?_;unfold F9;obtain ⟨kn,rfl⟩:=ze nG;have Sa:((kn:Int)).toNat=kn:=by omega
 rw [Sa];refine Ua Oo ?_;refine ba (σ:=List aa×(Nat×Int)) (fun s=>[(0,AV.v k0 (D.sl 1 (b.map eb)),none),(1,AV.v false (di s.2.2),none),(2,AV.v false (di ty),none),(3,AV.v false (di (kn:Nat)),none),(11,AV.pl 11 0 [],some (Rt.an [C.own (D.sl 3 ((s.1).map aa.e))])),(12,AV.v false (di (s.1.length:Nat)),none)]) (fun s=>s.1.length+s.2.1=kn∧eK b ty kn u0=gC s.1 (eK b ty s.2.1 s.2.2)) (fun s=>s.2.1) ([],(kn,u0)) (by simp) ⟨by simp,by rw [sk]⟩ ?_;rintro ⟨a,⟨i,v⟩⟩ ⟨y1,y2⟩;simp only at y1 y2;have hq:(a.length+1)*32≤70368744177664:=by omega
 cases i with
 |zero=>
  have c1:¬(a.length:Int)<(kn:Int):=by omega
  simp only [eK,sn,zh] at y2;unfold AY;refine Ua (J2 c1 y2) ?_;simp [yT,y2]
 |succ i=>
  have c1:(a.length:Int)<(kn:Int):=by omega
  have hw:=Wi ((a.length:Int)+1);cases hv:cW b v ty with
  |none=>
   rw [CE hv] at y2;unfold AY;refine Ua (J6 c1 hw h hb hv y2) ?_;simp [yT,y2]
  |some q=>
   obtain ⟨⟨dT,dN,dS⟩,t⟩:=q;rw [CF hv] at y2;unfold AY;refine Ua (J6 c1 hw h hb hv hq) ?_;exact ⟨(a++[⟨dT,dN,dS⟩],(i,t)),by simp,⟨by simp;omega,y2⟩,by simp⟩
@[simp] theorem Om (h:b.length≤1048576) (hb:aZ b):Gw TT 514 [.one (.ro k0 (.sl 1 (b.map eb))),vi ty,vi k]=some (ic (iw b ty k),[]):=by
 refine Ga tK FD ?_;unfold FD;by_cases q:1≤k∧k≤64
 ·obtain ⟨kn,rfl⟩:=ze (show 0≤k by omega);have q1:(1:Int)≤(kn:Int):=q.1;have q2:(kn:Int)≤64:=q.2
  have jy:iw b ty (kn:Int)=match eK b ty kn 0 with
   |some (l,t)=>if t=(b.length:Int) then some l else none
   |none=>none:=by unfold iw;rw [if_pos q,show ((kn:Int)).toNat=kn by omega];try rfl
  obtain ⟨u0,Mz⟩:∃u0:Int,u0=0:=⟨_,rfl⟩;rw [←Mz] at jy;refine Uw (J2 q1 q2) ?_;refine ba (σ:=List aa×(Nat×Int)) (fun s=>[(0,AV.v k0 (D.sl 1 (b.map eb)),none),(1,AV.v false (di ty),none),(2,AV.v false (di (kn:Nat)),none),(8,AV.pl 8 0 [],some (Rt.an [C.own (D.sl 3 ((s.1).map aa.e))])),(9,AV.v false (di s.2.2),none),(10,AV.v false (di (s.1.length:Nat)),none)]) (fun s=>s.1.length+s.2.1=kn∧eK b ty kn u0=gC s.1 (eK b ty s.2.1 s.2.2)) (fun s=>s.2.1) ([],(kn,u0)) (by simp [Mz]) ⟨by simp,by rw [sk]⟩ ?_;rintro ⟨a,⟨i,v⟩⟩ ⟨y1,y2⟩;simp only at y1 y2;have hq:(a.length+1)*32≤70368744177664:=by omega
  cases i with
  |zero=>
   have c1:¬(a.length:Int)<(kn:Int):=by omega
   simp only [eK,sn,zh] at y2;rw [y2] at jy;simp only at jy;unfold AT;by_cases e1:v=(b.length:Int)
   ·rw [if_pos e1] at jy;refine Uw (J3 c1 e1 jy) ?_;simp [tK,jy]
   ·rw [if_neg e1] at jy;refine Uw (J3 c1 e1 jy) ?_;repeat intro hc
    simp [tK,jy]
  |succ i=>
   have c1:(a.length:Int)<(kn:Int):=by omega
   have hw:=Wi ((a.length:Int)+1);cases hv:cW b v ty with
   |none=>
    rw [CE hv] at y2;rw [y2] at jy;simp only at jy;unfold AT;refine Uw (J6 c1 hw h hb hv jy) ?_;simp [tK,jy]
   |some q=>
    obtain ⟨⟨dT,dN,dS⟩,t⟩:=q;rw [CF hv] at y2;unfold AT;refine Uw (J6 c1 hw h hb hv hq) ?_;exact ⟨(a++[⟨dT,dN,dS⟩],(i,t)),by simp,⟨by simp;omega,y2⟩,by simp⟩
 ·have jy:iw b ty k=none:=by unfold iw;rw [if_neg q]
  refine Uw jy ?_;repeat intro hc
  simp [tK,jy]
theorem Bg {α:Type} (f:α→List D) (o:List α) (a b:List D):(zg f o++[a]).set o.length b=zg f o++[b]:=by
 have:o.length=(zg f o).length:=by simp
 rw [this,Zf _ _ (zM _)];simp
theorem uJ {α:Type} (f:α→List D) (o:List α) (a:List D):(zg f o++[a])[o.length]?=some a:=by
 rw [List.getElem?_append_right (by simp)];simp
theorem xA {α:Type} (f:α→List D) (o:List α) (a:List D) (h:o.length<(zg f o++[a]).length):(zg f o++[a])[o.length]=a:=by
 have:=uJ f o a;rw [zi h] at this;simpa using this
theorem NS (o:List bU) (v:aa) (c:Int):nX (o++[⟨v,c⟩]) v=o++[⟨v,c+1⟩]:=by
 have:fL v v=true:=jO.2 rfl;simp [nX,this]
theorem NT (o:List bU) (x v:aa) (c:Int) (h:fL x v=false):nX (o++[⟨x,c⟩]) v=o++[⟨x,c⟩]++[⟨v,1⟩]:=by
 simp [nX,h]
@[simp] theorem adA (h:l.length≤1048576):Gw TT 580 [.one (.ro k0 (.sl 3 (l.map aa.e)))]=some (.one (.own (.sl 4 ((iJ l).map bU.e))),[]):=by
 refine Ga HK GH ?_;unfold GH;refine Ud Oo ?_;refine ba (σ:=List aa×List aa×List bU) (fun s=>[(0,AV.v k0 (D.sl 3 (l.map aa.e)),none),(3,AV.pl 3 0 [],some (Rt.an [C.own (D.sl 4 (s.2.2.map bU.e))])),(7,AV.v k0 (D.sl 3 (l.map aa.e)),none),(8,AV.v false (di (l.length:Nat)),none),(9,AV.v false (di ((s.1.length:Nat):Int)),none)]) (fun s=>l=s.1++s.2.1∧iJ l=l9 s.2.2 s.2.1∧s.2.2.length≤s.1.length∧((s.1=[]∧s.2.2=[])∨∃p x o c,s.1=p++[x]∧s.2.2=o++[⟨x,c⟩]∧1≤c∧c≤(s.1.length:Int))) (fun s=>s.2.1.length) ([],l,[]) (by simp) ⟨rfl,rfl,by simp,.inl ⟨rfl,rfl⟩⟩ ?_;rintro ⟨pre,rest,o⟩ ⟨y1,y2,y4,y5⟩;simp only at y1 y2 y4 y5;have y3:l.length=pre.length+rest.length:=by rw [y1,zb]
 rcases rest with _|⟨⟨dT,dN,dS⟩,rest⟩
 ·simp only [zf] at y3;simp only [l9] at y2;have c1:¬(pre.length:Int)<(l.length:Int):=by omega
  unfold A7;refine Ud c1 ?_;repeat intro hc
  simp [HK,y2]
 ·simp only [zd] at y3;simp only [l9] at y2;have hg:l[pre.length]?=some ⟨dT,dN,dS⟩:=by rw [y1];simp
  obtain ⟨ae,au⟩:=za.1 hg;have c1:(pre.length:Int)<(l.length:Int):=by omega
  have hw:=Wi ((pre.length:Int)+1);have hq:(o.length+1)*40≤70368744177664:=by omega
  rcases y5 with ⟨rfl,rfl⟩|⟨p,⟨xT,xN,xS⟩,o,c,rfl,rfl,h1,h2⟩
  ·simp only [zf,zZ] at y3 hg au ae c1 hw hq;unfold A7;refine Ud (J6 hg au ae c1 hw hq) ?_;repeat intro hc
   exact ⟨([⟨dT,dN,dS⟩],rest,[⟨⟨dT,dN,dS⟩,1⟩]),by simp,⟨by rw [y1];simp,by rw [y2];rfl,by simp,.inr ⟨[],⟨dT,dN,dS⟩,[],1,rfl,rfl,by omega,by simp⟩⟩,by simp⟩
  ·simp only [zb,zd,zf,zZ] at y3 y4 hg au ae c1 hw hq h2;have gy:l[p.length]?=some ⟨xT,xN,xS⟩:=by rw [y1];simp
   obtain ⟨oM,oJ⟩:=za.1 gy;have iC:IntKind.wrap .i64 (p.length:Int)=(p.length:Int):=wrap_i64 (by omega) (by omega);have mO:IntKind.wrap .i64 (o.length:Int)=(o.length:Int):=wrap_i64 (by omega) (by omega);have uY:=Wi (c+1);have q9:(0:Int)<(p.length:Int)+1:=by omega
   have eh:(0:Int)<(o.length:Int)+1:=by omega
   have dY:(o.length+1+1)*40≤70368744177664:=by omega
   have bZ:(p.length:Int)<(l.length:Int):=by omega
   push_cast at *
   unfold A7;by_cases hv:fL ⟨xT,xN,xS⟩ ⟨dT,dN,dS⟩=true
   ·have e:=jO.1 hv;simp only [aa.mk.injEq] at e;obtain ⟨rfl,rfl,rfl⟩:=e;rw [NS] at y2;refine Ud (J8 hg au ae c1 hw hq gy (J8 oJ oM iC mO uY q9 eh (J5 bZ @Bg @uJ @xA @zw))) ?_;repeat intro hc
    exact ⟨(p++[⟨xT,xN,xS⟩]++[⟨xT,xN,xS⟩],rest,o++[⟨⟨xT,xN,xS⟩,c+1⟩]),(by simp;try omega),⟨by rw [y1];simp,y2,by simp;omega,.inr ⟨p++[⟨xT,xN,xS⟩],⟨xT,xN,xS⟩,o,c+1,rfl,rfl,by omega,by simp;omega⟩⟩,by simp⟩
   ·rw [NT _ _ _ _ (by simpa using hv)] at y2;have hb:(xT==dT&&(xN==dN&&xS.toList==dS.toList))=false:=by simpa [fL] using hv
    refine Ud (J8 hg au ae c1 hw hq dY (J8 gy oJ oM iC mO uY q9 (J7 eh bZ @Bg @uJ @xA @zw hb))) ?_;repeat intro hc
    exact ⟨(p++[⟨xT,xN,xS⟩]++[⟨dT,dN,dS⟩],rest,o++[⟨⟨xT,xN,xS⟩,c⟩]++[⟨⟨dT,dN,dS⟩,1⟩]),(by simp;try omega),⟨by rw [y1];simp,y2,by simp;omega,.inr ⟨p++[⟨xT,xN,xS⟩],⟨dT,dN,dS⟩,o++[⟨⟨xT,xN,xS⟩,c⟩],1,rfl,rfl,by omega,by simp;omega⟩⟩,by simp⟩
@[simp] theorem adq (h:l.length≤1048576):Gw TT 568 [.one (.ro k0 (.sl 3 (l.map aa.e)))]=some (.one (.own (.sl 4 ((iJ l).map bU.e))),[]):=by
 refine Ga HG Gs ?_;unfold Gs;refine Ud Oo ?_;refine ba (σ:=List aa×List aa×List bU) (fun s=>[(0,AV.v k0 (D.sl 3 (l.map aa.e)),none),(3,AV.pl 3 0 [],some (Rt.an [C.own (D.sl 4 (s.2.2.map bU.e))])),(4,AV.v false (di ((s.1.length:Nat):Int)),none)]) (fun s=>l=s.1++s.2.1∧iJ l=l9 s.2.2 s.2.1∧s.2.2.length≤s.1.length∧((s.1=[]∧s.2.2=[])∨∃p x o c,s.1=p++[x]∧s.2.2=o++[⟨x,c⟩]∧1≤c∧c≤(s.1.length:Int))) (fun s=>s.2.1.length) ([],l,[]) (by simp) ⟨rfl,rfl,by simp,.inl ⟨rfl,rfl⟩⟩ ?_;rintro ⟨pre,rest,o⟩ ⟨y1,y2,y4,y5⟩;simp only at y1 y2 y4 y5;have y3:l.length=pre.length+rest.length:=by rw [y1,zb]
 rcases rest with _|⟨⟨dT,dN,dS⟩,rest⟩
 ·simp only [zf] at y3;simp only [l9] at y2;have c1:¬(pre.length:Int)<(l.length:Int):=by omega
  unfold A5;refine Ud c1 ?_;repeat intro hc
  simp [HG,y2]
 ·simp only [zd] at y3;simp only [l9] at y2;have hg:l[pre.length]?=some ⟨dT,dN,dS⟩:=by rw [y1];simp
  obtain ⟨ae,au⟩:=za.1 hg;have c1:(pre.length:Int)<(l.length:Int):=by omega
  have hw:=Wi ((pre.length:Int)+1);have hq:(o.length+1)*40≤70368744177664:=by omega
  rcases y5 with ⟨rfl,rfl⟩|⟨p,⟨xT,xN,xS⟩,o,c,rfl,rfl,h1,h2⟩
  ·simp only [zf,zZ] at y3 hg au ae c1 hw hq;unfold A5;refine Ud (J6 hg au ae c1 hw hq) ?_;repeat intro hc
   exact ⟨([⟨dT,dN,dS⟩],rest,[⟨⟨dT,dN,dS⟩,1⟩]),by simp,⟨by rw [y1];simp,by rw [y2];rfl,by simp,.inr ⟨[],⟨dT,dN,dS⟩,[],1,rfl,rfl,by omega,by simp⟩⟩,by simp⟩
  ·simp only [zb,zd,zf,zZ] at y3 y4 hg au ae c1 hw hq h2;have gy:l[p.length]?=some ⟨xT,xN,xS⟩:=by rw [y1];simp
   obtain ⟨oM,oJ⟩:=za.1 gy;have iC:IntKind.wrap .i64 (p.length:Int)=(p.length:Int):=wrap_i64 (by omega) (by omega);have mO:IntKind.wrap .i64 (o.length:Int)=(o.length:Int):=wrap_i64 (by omega) (by omega);have uY:=Wi (c+1);have q9:(0:Int)<(p.length:Int)+1:=by omega
   have eh:(0:Int)<(o.length:Int)+1:=by omega
   have dY:(o.length+1+1)*40≤70368744177664:=by omega
   have bZ:(p.length:Int)<(l.length:Int):=by omega
   push_cast at *
   unfold A5;by_cases hv:fL ⟨xT,xN,xS⟩ ⟨dT,dN,dS⟩=true
   ·have e:=jO.1 hv;simp only [aa.mk.injEq] at e;obtain ⟨rfl,rfl,rfl⟩:=e;rw [NS] at y2;refine Ud (J8 hg au ae c1 hw hq gy (J8 oJ oM iC mO uY q9 eh (J5 bZ @Bg @uJ @xA @zw))) ?_;repeat intro hc
    exact ⟨(p++[⟨xT,xN,xS⟩]++[⟨xT,xN,xS⟩],rest,o++[⟨⟨xT,xN,xS⟩,c+1⟩]),(by simp;try omega),⟨by rw [y1];simp,y2,by simp;omega,.inr ⟨p++[⟨xT,xN,xS⟩],⟨xT,xN,xS⟩,o,c+1,rfl,rfl,by omega,by simp;omega⟩⟩,by simp⟩
   ·rw [NT _ _ _ _ (by simpa using hv)] at y2;have hb:(xT==dT&&(xN==dN&&xS.toList==dS.toList))=false:=by simpa [fL] using hv
    refine Ud (J8 hg au ae c1 hw hq dY (J8 gy oJ oM iC mO uY q9 (J7 eh bZ @Bg @uJ @xA @zw hb))) ?_;repeat intro hc
    exact ⟨(p++[⟨xT,xN,xS⟩]++[⟨dT,dN,dS⟩],rest,o++[⟨⟨xT,xN,xS⟩,c⟩]++[⟨⟨dT,dN,dS⟩,1⟩]),(by simp;try omega),⟨by rw [y1];simp,y2,by simp;omega,.inr ⟨p++[⟨xT,xN,xS⟩],⟨dT,dN,dS⟩,o++[⟨⟨xT,xN,xS⟩,c⟩],1,rfl,rfl,by omega,by simp;omega⟩⟩,by simp⟩
@[simp] theorem adg (l:List bU) (h:l.length≤1048576):Gw TT 552 [.one (.ro k0 (.sl 4 (l.map bU.e)))]=some (.one (.own (.sl 3 ((nm l).map aa.e))),[]):=by
 refine Ga we Gb ?_;unfold Gb;refine Ua Oo ?_;refine ba (σ:=List bU×List bU×List aa) (fun s=>[(3,AV.pl 3 0 [],some (Rt.an [C.own (D.sl 3 ((s.2.2).map aa.e))])),(8,AV.v k0 (D.sl 4 (l.map bU.e)),none),(9,AV.v false (di (l.length:Nat)),none),(10,AV.v false (di ((s.1.length:Nat):Int)),none)]) (fun s=>l=s.1++s.2.1∧nm l=l_ s.2.2 s.2.1∧s.2.2.length≤64) (fun s=>s.2.1.length) ([],l,[]) (by simp) ⟨rfl,rfl,by simp⟩ ?_;rintro ⟨pre,rest,o⟩ ⟨y1,y2,y4⟩;simp only at y1 y2 y4;have y3:l.length=pre.length+rest.length:=by rw [y1,zb]
 rcases rest with _|⟨⟨⟨dT,dN,dS⟩,K⟩,rest⟩
 ·simp only [zf] at y3;simp only [l_] at y2;have c1:¬(pre.length:Int)<(l.length:Int):=by omega
  unfold AZ;refine Ua c1 ?_;simp [we,y2]
 ·simp only [zd] at y3;simp only [l_] at y2;have hg:l[pre.length]?=some ⟨⟨dT,dN,dS⟩,K⟩:=by rw [y1];simp
  obtain ⟨ae,au⟩:=za.1 hg;have c1:(pre.length:Int)<(l.length:Int):=by omega
  have hw:=Wi ((pre.length:Int)+1);have hm:=Wi (64-(o.length:Int));by_cases q:K<1∨64-(o.length:Int)<K
  ·rw [if_pos q] at y2;unfold AZ;by_cases q1:K<1
   ·refine Ua (J8 hg au ae c1 hw hm q1 y2) ?_;simp [we,y2]
   ·have q2:64-(o.length:Int)<K:=by omega
    refine Ua (J8 hg au ae c1 hw hm q1 (J2 q2 y2)) ?_;simp [we,y2]
  ·rw [if_neg q] at y2;obtain ⟨c,rfl⟩:=ze (show 0≤K by omega);have q1:¬(c:Int)<1:=by omega
   have q2:¬64-(o.length:Int)<(c:Int):=by omega
   have hc:((c:Int)).toNat=c:=by omega
   rw [hc] at y2;unfold AZ;refine Ua (J8 hg au ae c1 hw hm q1 q2) ?_;refine ba (σ:=Nat) (fun s=>[(3,AV.pl 3 0 [],some (Rt.an [C.own (D.sl 3 ((o++zo s (⟨dT,dN,dS⟩:aa)).map aa.e))])),(5,AV.bx 5 0,some (Rt.bx [.ro false (di dT),.ro false (di dN),.ro false (.str dS),.ro false (di (c:Nat))])),(6,AV.v false (di ((s:Nat):Int)),none),(8,AV.v k0 (D.sl 4 (l.map bU.e)),none),(9,AV.v false (di (l.length:Nat)),none),(10,AV.v false (di ((pre.length:Nat):Int)),none)]) (fun s=>s≤c) (fun s=>c-s) 0 (by simp) (by omega) ?_;intro m Sl;by_cases e:m=c
   ·subst e;have e1:¬(m:Int)<(m:Int):=by omega
    unfold IF;refine Ua (J5 e1 hw hg au ae) ?_;exact ⟨(pre++[⟨⟨dT,dN,dS⟩,(m:Int)⟩],rest,o++zo m ⟨dT,dN,dS⟩),(by simp;try omega),⟨by rw [y1];simp,y2,by simp;omega⟩,by simp⟩
   ·have e1:(m:Int)<(c:Int):=by omega
    have ea:=Wi ((m:Int)+1);have hq:(o.length+m+1)*32≤70368744177664:=by omega
    have hr:zo (m+1) (⟨dT,dN,dS⟩:aa)=zo m ⟨dT,dN,dS⟩++[⟨dT,dN,dS⟩]:=zO;unfold IF;refine Ua (J7 e1 ea hq hg au ae c1) ?_;exact ⟨m+1,(by simp [zO];try omega),by show m+1≤c;omega,by show c-(m+1)<c-m;omega⟩
@[simp] theorem ac7 (l:List bU) (h:l.length≤1048576):Gw TT 539 [.one (.ro k0 (.sl 4 (l.map bU.e)))]=some (.one (.own (.sl 3 ((nm l).map aa.e))),[]):=by
 refine Ga wb FZ ?_;unfold FZ;refine Ua Oo ?_;refine ba (σ:=List bU×List bU×List aa) (fun s=>[(0,AV.v k0 (D.sl 4 (l.map bU.e)),none),(3,AV.pl 3 0 [],some (Rt.an [C.own (D.sl 3 ((s.2.2).map aa.e))])),(4,AV.v false (di ((s.1.length:Nat):Int)),none)]) (fun s=>l=s.1++s.2.1∧nm l=l_ s.2.2 s.2.1∧s.2.2.length≤64) (fun s=>s.2.1.length) ([],l,[]) (by simp) ⟨rfl,rfl,by simp⟩ ?_;rintro ⟨pre,rest,o⟩ ⟨y1,y2,y4⟩;simp only at y1 y2 y4;have y3:l.length=pre.length+rest.length:=by rw [y1,zb]
 rcases rest with _|⟨⟨⟨dT,dN,dS⟩,K⟩,rest⟩
 ·simp only [zf] at y3;simp only [l_] at y2;have c1:¬(pre.length:Int)<(l.length:Int):=by omega
  unfold AW;refine Ua c1 ?_;simp [wb,y2]
 ·simp only [zd] at y3;simp only [l_] at y2;have hg:l[pre.length]?=some ⟨⟨dT,dN,dS⟩,K⟩:=by rw [y1];simp
  obtain ⟨ae,au⟩:=za.1 hg;have c1:(pre.length:Int)<(l.length:Int):=by omega
  have hw:=Wi ((pre.length:Int)+1);have hm:=Wi (64-(o.length:Int));by_cases q:K<1∨64-(o.length:Int)<K
  ·rw [if_pos q] at y2;unfold AW;by_cases q1:K<1
   ·refine Ua (J8 hg au ae c1 hw hm q1 y2) ?_;simp [wb,y2]
   ·have q2:64-(o.length:Int)<K:=by omega
    refine Ua (J8 hg au ae c1 hw hm q1 (J2 q2 y2)) ?_;simp [wb,y2]
  ·rw [if_neg q] at y2;obtain ⟨c,rfl⟩:=ze (show 0≤K by omega);have q1:¬(c:Int)<1:=by omega
   have q2:¬64-(o.length:Int)<(c:Int):=by omega
   have hc:((c:Int)).toNat=c:=by omega
   rw [hc] at y2;unfold AW;refine Ua (J8 hg au ae c1 hw hm q1 q2) ?_;refine ba (σ:=Nat) (fun s=>[(0,AV.v k0 (D.sl 4 (l.map bU.e)),none),(3,AV.pl 3 0 [],some (Rt.an [C.own (D.sl 3 ((o++zo s (⟨dT,dN,dS⟩:aa)).map aa.e))])),(4,AV.v false (di ((pre.length:Nat):Int)),none),(5,AV.v false (di ((s:Nat):Int)),none)]) (fun s=>s≤c) (fun s=>c-s) 0 (by simp) (by omega) ?_;intro m Sl;by_cases e:m=c
   ·subst e;have e1:¬(m:Int)<(m:Int):=by omega
    unfold Ix;refine Ua (J5 e1 hw hg au ae) ?_;exact ⟨(pre++[⟨⟨dT,dN,dS⟩,(m:Int)⟩],rest,o++zo m ⟨dT,dN,dS⟩),(by simp;try omega),⟨by rw [y1];simp,y2,by simp;omega⟩,by simp⟩
   ·have e1:(m:Int)<(c:Int):=by omega
    have ea:=Wi ((m:Int)+1);have hq:(o.length+m+1)*32≤70368744177664:=by omega
    have hr:zo (m+1) (⟨dT,dN,dS⟩:aa)=zo m ⟨dT,dN,dS⟩++[⟨dT,dN,dS⟩]:=zO;unfold Ix;refine Ua (J7 e1 ea hq hg au ae c1) ?_;exact ⟨m+1,(by simp [zO];try omega),by show m+1≤c;omega,by show c-(m+1)<c-m;omega⟩
@[simp] theorem abP:Gw TT 531 [.one (.ro k0 (.sl 1 [])),vi n]=some (.one (.own (.sl 1 ((bw n).map eb))),[]):=by
 have:=Jw k0 [] n (by simp);simpa using this
@[simp] theorem abQ:Gw TT 566 [.one (.ro k0 (.sl 1 [])),vi n]=some (.one (.own (.sl 1 ((bw n).map eb))),[]):=by
 have:=OB k0 [] n (by simp);simpa using this
theorem VB {o:List bU} {v:aa} {r:bU} (h:r∈nX o v):(∃q∈o,q.V=r.V)∨r.V=v:=by
 unfold nX at h;split at h
 ·rename_i q hq;have SD:=List.mem_of_getLast? hq;split at h
  ·rcases zB.1 h with h|h
   ·exact .inl ⟨r,(List.dropLast_sublist o).subset h,rfl⟩
   ·simp at h;subst h;exact .inl ⟨q,SD,rfl⟩
  ·rcases zB.1 h with h|h
   ·exact .inl ⟨r,h,rfl⟩
   ·simp at h;subst h;exact .inr rfl
 ·simp at h;subst h;exact .inr rfl
theorem NW:∀{l:List aa} {o:List bU} {r:bU},r∈l9 o l→(∃q∈o,q.V=r.V)∨r.V∈l
 |[],o,r,h=>.inl ⟨r,h,rfl⟩
 |v::l,o,r,h=>by
  rcases NW (l:=l) h with ⟨q,hq,e⟩|h
  ·rcases VB hq with ⟨q',SB,e'⟩|e'
   ·exact .inl ⟨q',SB,e'.trans e⟩
   ·exact .inr (by rw [←e,e'];simp)
  ·exact .inr (by simp [h])
theorem NU {l:List aa} {r:bU} (h:r∈iJ l):r.V∈l:=by
 rcases NW h with ⟨q,hq,_⟩|h
 ·simp at hq
 ·exact h
theorem wO {l:List aa} (h:bG l≠0):∀v∈l,v.S.size≤6:=fun v hv=>sy (pE (kV h).2.2.1 v hv).1
@[simp] theorem adh (h:l.length≤1048576) (hs:aa.aq l):Gw TT 553 [.one (.ro k0 (.sl 3 (l.map aa.e)))]=some (.one (.own (.sl 1 ((ft l).map eb))),[]):=by
 refine Ga yV Gc ?_;unfold Gc;by_cases q:bG l=0
 ·have he:ft l=[]:=by simp [ft,q]
  refine Uw (J4 h hs q he) ?_;simp [yV,he]
 ·have he:ft l=bw (iJ l).length++k8 (iJ l):=by simp [ft,q]
  obtain ⟨q1,q2,_,_⟩:=kV q;have hm:∀r∈iJ l,r.V.S.size≤6:=fun r hr=>wO q _ (NU hr)
  have ln:=Jl l;obtain ⟨R,hR⟩:∃R,R=iJ l:=⟨_,rfl⟩;rw [←hR] at he hm ln;have hn:=fP (R.length:Int)
  repeat' first|refine Zs ?_|((with_reducible refine Xk fun K k=>?_);simp [h,hs,q,he,←hR];refine k _ ?_;clear k K)|refine Xt rfl ?_|refine Xf rfl ?_|(refine We rfl ?_ ?_<;>(intro hc;(try simp at hc);(all_goals first|(exfalso;omega)|skip)))
  refine ba (σ:=List bU×List bU×List Int) (fun s=>[(3,AV.pl 3 0 [],some (Rt.an [C.own (D.sl 1 ((s.2.2).map eb))])),(4,AV.pl 4 0 [],some (Rt.an [C.own (D.sl 4 (R.map bU.e))])),(18,AV.pl 4 0 [],none),(19,AV.v false (di (R.length:Nat)),none),(20,AV.v false (di ((s.1.length:Nat):Int)),none)]) (fun s=>R=s.1++s.2.1∧s.2.2++k8 s.2.1=ft l∧s.2.2.length≤5+12*s.1.length) (fun s=>s.2.1.length) ([],R,bw R.length) (by simp) ⟨rfl,he.symm,by simp;omega⟩ ?_;rintro ⟨pre,rest,a⟩ ⟨y1,y2,y4⟩;simp only at y1 y2 y4;have y3:R.length=pre.length+rest.length:=by rw [y1,zb]
  rcases rest with _|⟨⟨⟨dT,dN,dS⟩,K⟩,rest⟩
  ·simp only [zf] at y3;simp only [k8,zJ,zh] at y2;have c1:¬(pre.length:Int)<(R.length:Int):=by omega
   unfold IG;refine Uw c1 ?_;simp [yV,y2]
  ·simp only [zd] at y3;have hd:=hm ⟨⟨dT,dN,dS⟩,K⟩ (by rw [y1];simp);simp only at hd;have bp:dS.size≤1048576:=by omega
   have hg:R[pre.length]?=some ⟨⟨dT,dN,dS⟩,K⟩:=by rw [y1];simp
   obtain ⟨ae,au⟩:=za.1 hg;have c1:(pre.length:Int)<(R.length:Int):=by omega
   have hw:=Wi ((pre.length:Int)+1);have hk:=fP K;have hp:=qz ⟨dT,dN,dS⟩;have ha:a.length≤1048576:=by omega
   have lM:a.length+(bw K).length≤1048000:=by omega
   have h5:=WM true (a++bw K) dT dN dS (by simp only [zb];exact lM) bp;simp only [zQ] at h5;unfold IG;refine Uw (J8 hg au ae c1 hw bp ha (J2 lM h5)) ?_;exact ⟨(pre++[⟨⟨dT,dN,dS⟩,K⟩],rest,a++(bw K++eS ⟨dT,dN,dS⟩)),(by simp;try omega),⟨by rw [y1];simp,by rw [←y2];simp [k8,tW],by simp only [zb,zd,zf];omega⟩,by simp⟩
@[simp] theorem ac8 (h:l.length≤1048576) (hs:aa.aq l):Gw TT 540 [.one (.ro k0 (.sl 3 (l.map aa.e)))]=some (.one (.own (.sl 1 ((ft l).map eb))),[]):=by
 refine Ga yO F0 ?_;unfold F0;by_cases q:bG l=0
 ·have he:ft l=[]:=by simp [ft,q]
  refine Uw (J4 h hs q he) ?_;simp [yO,he]
 ·have he:ft l=bw (iJ l).length++k8 (iJ l):=by simp [ft,q]
  obtain ⟨q1,q2,_,_⟩:=kV q;have hm:∀r∈iJ l,r.V.S.size≤6:=fun r hr=>wO q _ (NU hr)
  have ln:=Jl l;obtain ⟨R,hR⟩:∃R,R=iJ l:=⟨_,rfl⟩;rw [←hR] at he hm ln;have hn:=fP (R.length:Int)
  repeat' first|refine Zs ?_|((with_reducible refine Xk fun K k=>?_);simp [h,hs,q,he,←hR];refine k _ ?_;clear k K)|refine Xt rfl ?_|refine Xf rfl ?_|(refine We rfl ?_ ?_<;>(intro hc;(try simp at hc);(all_goals first|(exfalso;omega)|skip)))
  refine ba (σ:=List bU×List bU×List Int) (fun s=>[(3,AV.pl 3 0 [],some (Rt.an [C.own (D.sl 4 (R.map bU.e))])),(4,AV.pl 4 0 [],some (Rt.an [C.own (D.sl 1 ((s.2.2).map eb))])),(5,AV.v false (di ((s.1.length:Nat):Int)),none)]) (fun s=>R=s.1++s.2.1∧s.2.2++k8 s.2.1=ft l∧s.2.2.length≤5+12*s.1.length) (fun s=>s.2.1.length) ([],R,bw R.length) (by simp) ⟨rfl,he.symm,by simp;omega⟩ ?_;rintro ⟨pre,rest,a⟩ ⟨y1,y2,y4⟩;simp only at y1 y2 y4;have y3:R.length=pre.length+rest.length:=by rw [y1,zb]
  rcases rest with _|⟨⟨⟨dT,dN,dS⟩,K⟩,rest⟩
  ·simp only [zf] at y3;simp only [k8,zJ,zh] at y2;have c1:¬(pre.length:Int)<(R.length:Int):=by omega
   unfold Iy;refine Uw c1 ?_;simp [yO,y2]
  ·simp only [zd] at y3;have hd:=hm ⟨⟨dT,dN,dS⟩,K⟩ (by rw [y1];simp);simp only at hd;have bp:dS.size≤1048576:=by omega
   have hg:R[pre.length]?=some ⟨⟨dT,dN,dS⟩,K⟩:=by rw [y1];simp
   obtain ⟨ae,au⟩:=za.1 hg;have c1:(pre.length:Int)<(R.length:Int):=by omega
   have hw:=Wi ((pre.length:Int)+1);have hk:=fP K;have hp:=qz ⟨dT,dN,dS⟩;have ha:a.length≤1048576:=by omega
   have lM:a.length+(bw K).length≤1048000:=by omega
   have h5:=WK true (a++bw K) dT dN dS (by simp only [zb];exact lM) bp;simp only [zQ] at h5;unfold Iy;refine Uw (J8 hg au ae c1 hw bp ha (J2 lM h5)) ?_;exact ⟨(pre++[⟨⟨dT,dN,dS⟩,K⟩],rest,a++(bw K++eS ⟨dT,dN,dS⟩)),(by simp;try omega),⟨by rw [y1];simp,by rw [←y2];simp [k8,tW],by simp only [zb,zd,zf];omega⟩,by simp⟩
theorem Ll {b:List Int} {u ty n t:Int} (h:gN b u=some (n,t)):pX b u ty=match cW b t ty with
 |some (v,t2)=>some (⟨v,n⟩,t2)
 |none=>none:=by unfold pX;rw [h];try rfl
theorem Lk {b:List Int} {u ty:Int} (h:gN b u=none):pX b u ty=none:=by unfold pX;rw [h]
theorem QF {b:List Int} {u ty t:Int} {v:aa} (hb:aZ b) (h:cW b u ty=some (v,t)):v.S.size≤6:=sy (Ln hb h).1.1
theorem CD {b:List Int} {ty:Int} (hb:aZ b):∀{k:Nat} {u t:Int} {l:List bU},gR b ty k u=some (l,t)→∀r∈l,r.V.S.size≤6
 |0,u,t,l,h,r,hr=>by simp only [gR,zk,zr] at h;rw [←h.1] at hr;simp at hr
 |k+1,u,t,l,h,r,hr=>by
  simp only [gR] at h;split at h
  ·rename_i v t1 hv;split at h
   ·rename_i hl;simp only [zk,zr] at h;rw [←h.1] at hr;rcases zj.1 hr with rfl|hr
    ·unfold pX at hv;split at hv
     ·split at hv
      ·rename_i hg;simp only [zk,zr] at hv;rw [←hv.1];exact QF hb hg
      ·cases hv
     ·cases hv
    ·exact CD hb hl r hr
   ·cases h
  ·cases h
theorem N7:∀{l:List bU} {o:List aa} {v:aa},v∈l_ o l→v∈o∨∃r∈l,r.V=v
 |[],o,v,h=>.inl h
 |r::l,o,v,h=>by
  simp only [l_] at h;split at h
  ·simp at h
  ·rcases N7 h with h|⟨q,hq,e⟩
   ·rcases zB.1 h with h|h
    ·exact .inl h
    ·exact .inr ⟨r,by simp,(List.eq_of_mem_replicate h).symm⟩
   ·exact .inr ⟨q,by simp [hq],e⟩
theorem N9 {l:List bU} (h:∀r∈l,r.V.S.size≤6):aa.aq (nm l):=fun v hv=>by
 rcases N7 hv with hv|⟨r,hr,e⟩
 ·simp at hv
 ·have:=h r hr;simp only [aa.sm];rw [←e];omega
@[simp] theorem On (h:b.length≤1048576) (hb:aZ b):Gw TT 515 [.one (.ro k0 (.sl 1 (b.map eb))),vi ty,vi k]=some (ic (eP b ty k),[]):=by
 refine Ga l5 FE ?_;unfold FE;cases hg:gN b 0 with
 |none=>
  have hdr:eP b ty k=none:=by unfold eP;rw [hg]
  refine Ud (J4 h hb hg hdr) ?_;simp [l5,hdr]
 |some q=>
  obtain ⟨n,u⟩:=q;by_cases q1:1≤n∧n≤64
  ·obtain ⟨m,rfl⟩:=ze (show 0≤n by omega);have q2:(1:Int)≤(m:Int):=q1.1;have q3:(m:Int)≤64:=q1.2;by_cases q4:1≤k∧k≤64
   ·have hdr:∀{r:List bU} {t:Int},gR b ty m u=some (r,t)→eP b ty k=cM b k ft (nm r):=fun {r t} hr=>by
     unfold eP;rw [hg];simp only;rw [if_pos q1,show ((m:Int)).toNat=m by omega,hr]
    have re:gR b ty m u=none→eP b ty k=none:=fun hr=>by
     unfold eP;rw [hg];simp only;rw [if_pos q1,show ((m:Int)).toNat=m by omega,hr]
    refine Ud (J7 h hb hg q2 q3 q4.1 q4.2) ?_;refine ba (σ:=List bU×(Nat×Int)) (fun s=>[(0,AV.v k0 (D.sl 1 (b.map eb)),none),(1,AV.v false (di ty),none),(2,AV.v false (di k),none),(8,AV.pl 8 0 [],some (Rt.an [C.own (D.sl 3 [])])),(9,AV.v false (di (m:Nat)),none),(10,AV.v false (di s.2.2),none),(12,AV.pl 12 0 [],some (Rt.an [C.own (D.sl 4 (s.1.map bU.e))])),(13,AV.v false (di (s.1.length:Nat)),none)]) (fun s=>s.1.length+s.2.1=m∧gR b ty m u=gC s.1 (gR b ty s.2.1 s.2.2)) (fun s=>s.2.1) ([],(m,u)) (by simp) ⟨by simp,by rw [sk]⟩ ?_;rintro ⟨a,⟨i,v⟩⟩ ⟨y1,y2⟩;simp only at y1 y2;have hq:(a.length+1)*40≤70368744177664:=by omega
    cases i with
    |zero=>
     have c1:¬(a.length:Int)<(m:Int):=by omega
     simp only [gR,sn,zh] at y2;have hd:=hdr y2;have hS:=N9 (CD hb y2);have CZ:=N8 a;obtain ⟨S,mF⟩:∃S,S=nm a:=⟨_,rfl⟩;rw [←mF] at hd hS CZ;have oE:S.length≤1048576:=by omega
     have ha:a.length≤1048576:=by omega
     have fx:=nq (Cr S) hb;unfold wy;by_cases e1:(S.length:Int)=k
     ·have e2:¬k=(S.length:Int)→False:=fun e=>e e1.symm
      by_cases e3:ft S=b
      ·have e4:((strOf (ft S)).toList==(strOf b).toList)=true:=by rw [fx];simpa using e3
       have bp:eP b ty k=some S:=by rw [hd];unfold cM;rw [if_pos ⟨q4,e1,e3.symm⟩]
       repeat' first|refine Zs ?_|((with_reducible refine Xk fun K k=>?_);simp [c1,ha,←mF,hS,oE,e1,e4,bp];(repeat' (with_reducible first|refine k _ ?_|(refine aw ?_ ?_<;>(intro hc;(try rw [zC] at hc);first|(exfalso;omega)|(try simp [hc,c1,ha,←mF,hS,oE,e1,e4,bp])))));all_goals clear k K)|refine Xt rfl ?_|refine Xf rfl ?_|(refine We rfl ?_ ?_<;>(intro hc;(try simp at hc);(all_goals first|(exfalso;omega)|skip)))
       simp [l5,bp]
      ·have e4:((strOf (ft S)).toList==(strOf b).toList)=false:=by rw [fx];simpa using e3
       have bp:eP b ty k=none:=by rw [hd];unfold cM;rw [if_neg (fun e=>e3 e.2.2.symm)]
       repeat' first|refine Zs ?_|((with_reducible refine Xk fun K k=>?_);simp [c1,ha,←mF,hS,oE,e1,e4,bp];(repeat' (with_reducible first|refine k _ ?_|(refine aw ?_ ?_<;>(intro hc;(try rw [zC] at hc);first|(exfalso;omega)|(try simp [hc,c1,ha,←mF,hS,oE,e1,e4,bp])))));all_goals clear k K)|refine Xt rfl ?_|refine Xf rfl ?_|(refine We rfl ?_ ?_<;>(intro hc;(try simp at hc);(all_goals first|(exfalso;omega)|skip)))
       simp [l5,bp]
     ·have bp:eP b ty k=none:=by rw [hd];unfold cM;rw [if_neg (fun e=>e1 e.2.1)]
      repeat' first|refine Zs ?_|((with_reducible refine Xk fun K k=>?_);simp [c1,ha,←mF,hS,oE,e1,bp];(repeat' (with_reducible first|refine k _ ?_|(refine aw ?_ ?_<;>(intro hc;(try rw [zC] at hc);first|(exfalso;omega)|(try simp [hc,c1,ha,←mF,hS,oE,e1,bp])))));all_goals clear k K)|refine Xt rfl ?_|refine Xf rfl ?_|(refine We rfl ?_ ?_<;>(intro hc;(try simp at hc);(all_goals first|(exfalso;omega)|skip)))
      simp [l5,bp]
    |succ i=>
     have c1:(a.length:Int)<(m:Int):=by omega
     have hw:=Wi ((a.length:Int)+1);cases hv:gN b v with
     |none=>
      rw [xz (Lk hv)] at y2;have bp:=re y2;unfold wy;cases cO:cW b 0 ty with
      |none=>
       refine Ud (J7 c1 hw h hb hv cO bp) ?_;simp [l5,bp]
      |some q=>
       obtain ⟨⟨dT,dN,dS⟩,t⟩:=q;refine Ud (J7 c1 hw h hb hv cO bp) ?_;simp [l5,bp]
     |some q=>
      obtain ⟨c,t1⟩:=q;have gZ:=Ll (ty:=ty) hv;cases eM:cW b t1 ty with
      |none=>
       rw [eM] at gZ;rw [xz gZ] at y2;have bp:=re y2;unfold wy;refine Ud (J7 c1 hw h hb hv eM bp) ?_;simp [l5,bp]
      |some q=>
       obtain ⟨⟨dT,dN,dS⟩,t⟩:=q;rw [eM] at gZ;rw [Lm gZ] at y2;unfold wy;refine Ud (J7 c1 hw h hb hv eM hq) ?_;exact ⟨(a++[⟨⟨dT,dN,dS⟩,c⟩],(i,t)),(by simp;try omega),⟨by simp;omega,y2⟩,by simp⟩
   ·have bp:eP b ty k=none:=by
     unfold eP;rw [hg];simp only;rw [if_pos q1];split
     ·unfold cM;rw [if_neg (fun e=>q4 e.1)]
     ·rfl
    refine Ud (J6 h hb hg q2 q3 bp) ?_;repeat intro hc
    simp [l5,bp]
  ·have bp:eP b ty k=none:=by
    unfold eP;rw [hg];simp only;rw [if_neg q1]
   by_cases q4:1≤k∧k≤64
   ·refine Ud (J6 h hb hg q4.1 q4.2 bp) ?_;repeat intro hc
    simp [l5,bp]
   ·refine Ud (J4 h hb hg bp) ?_;repeat intro hc
    simp [l5,bp]
@[simp] theorem acX:Gw TT 508 [.st [.ro false (di cy),.ro false (di cx),.ro false (.str bt)],.st [.ro false (di mf),.ro false (di me),.ro false (.str od)]]=some (vb (jH cy cx bt mf me od),[]):=by
 refine Ga v8 FB ?_;unfold FB;by_cases q1:cy=mf
 ·by_cases q2:cx=me
  ·subst q1;subst q2;refine Uw Oo ?_;simp [v8,jH]
  ·subst q1;refine Uw q2 ?_;repeat intro hc
   simp [v8,jH,q2]
 ·refine Uw q1 ?_;repeat intro hc
  simp [v8,jH,q1]
@[simp] theorem acW:Gw TT 505 [.st [.ro false (di cy),.ro false (di cx),.ro false (.str bt)],.st [.ro false (di mf),.ro false (di me),.ro false (.str od)]]=some (vb (jH cy cx bt mf me od),[]):=by
 refine Ga vZ FA ?_;unfold FA;by_cases q1:cy=mf
 ·by_cases q2:cx=me
  ·subst q1;subst q2;refine Uw Oo ?_;simp [vZ,jH]
  ·subst q1;refine Uw q2 ?_;repeat intro hc
   simp [vZ,jH,q2]
 ·refine Uw q1 ?_;repeat intro hc
  simp [vZ,jH,q1]
def xh (t n:Int) (s:ByteArray) (t' n':Int) (s':ByteArray):Int:=if jH t n s t' n' s'=true then -1 else if jH t' n' s' t n s=true then 1 else 0
@[simp] theorem WR:Gw TT 596 [.st [.ro false (di cy),.ro false (di cx),.ro false (.str bt)],.st [.ro false (di mf),.ro false (di me),.ro false (.str od)]]=some (vi (xh cy cx bt mf me od),[]):=by
 refine Ga wm GW ?_;unfold GW;cases q1:jH cy cx bt mf me od with
 |true=>
  refine Ua q1 ?_;simp [wm,xh,q1]
 |false=>
  cases q2:jH mf me od cy cx bt with
  |true=>
   refine Ua (J2 q1 q2) ?_;simp [wm,xh,q1,q2]
  |false=>
   refine Ua (J2 q1 q2) ?_;simp [wm,xh,q1,q2]
theorem OQ (a b:aa):fL a b=fL b a:=by
 cases h:fL a b with
 |true=>have:=jO.1 h;subst this;exact h.symm
 |false=>
  cases h2:fL b a with
  |true=>have:=jO.1 h2;subst this;rw [h2] at h;cases h
  |false=>rfl
@[simp] theorem adN (h:d.length≤1048576):Gw TT 600 [.one (.ro k0 (.sl 3 (d.map aa.e))),.st [.ro false (di cy),.ro false (di cx),.ro false (.str bt)]]=some (vi (fb ⟨cy,cx,bt⟩ d 0),[]):=by
 refine Ga AH G0 ?_;unfold G0;refine Ua Oo ?_;refine ba (σ:=List aa×List aa) (fun s=>[(0,AV.v k0 (D.sl 3 (d.map aa.e)),none),(3,AV.bx 3 0,some (Rt.bx [.ro false (di cy),.ro false (di cx),.ro false (.str bt)])),(7,AV.v false (di (d.length:Nat)),none),(8,AV.v false (di ((s.1.length:Nat):Int)),none)]) (fun s=>d=s.1++s.2∧fb ⟨cy,cx,bt⟩ d 0=fb ⟨cy,cx,bt⟩ s.2 s.1.length) (fun s=>s.2.length) ([],d) (by simp) ⟨rfl,rfl⟩ ?_;rintro ⟨pre,rest⟩ ⟨y1,y2⟩;simp only at y1 y2;have y3:d.length=pre.length+rest.length:=by rw [y1,zb]
 rcases rest with _|⟨⟨dT,dN,dS⟩,rest⟩
 ·simp only [zf] at y3;simp only [fb] at y2;have c1:¬(pre.length:Int)<(d.length:Int):=by omega
  unfold I5;refine Ua (J2 c1 y2) ?_;simp [AH,y2]
 ·simp only [zd] at y3;simp only [fb] at y2;have hg:d[pre.length]?=some ⟨dT,dN,dS⟩:=by rw [y1];simp
  obtain ⟨ae,au⟩:=za.1 hg;have c1:(pre.length:Int)<(d.length:Int):=by omega
  have hw:=Wi ((pre.length:Int)+1);unfold I5;cases hv:fL ⟨dT,dN,dS⟩ ⟨cy,cx,bt⟩ with
  |true=>
   rw [if_pos hv] at y2;have e:=jO.1 hv;simp only [aa.mk.injEq] at e;obtain ⟨rfl,rfl,rfl⟩:=e;refine Ua (J6 hg au ae c1 hw y2) ?_;simp [AH,y2]
  |false=>
   rw [if_neg (by rw [hv];simp)] at y2;have dh:(dT==cy&&(dN==cx&&dS.toList==bt.toList))=false:=hv;have dK:(cy==dT&&(cx==dN&&bt.toList==dS.toList))=false:=(OQ ⟨cy,cx,bt⟩ ⟨dT,dN,dS⟩).trans hv;refine Ua (J7 hg au ae c1 hw dh dK) ?_;exact ⟨(pre++[⟨dT,dN,dS⟩],rest),(by simp;try omega),⟨by rw [y1];simp,by rw [y2];simp⟩,by simp⟩
@[simp] theorem adJ (h:d.length≤1048576):Gw TT 591 [.one (.ro k0 (.sl 3 (d.map aa.e))),.st [.ro false (di cy),.ro false (di cx),.ro false (.str bt)]]=some (vi (fb ⟨cy,cx,bt⟩ d 0),[]):=by
 refine Ga AF GS ?_;unfold GS;refine Ua Oo ?_;refine ba (σ:=List aa×List aa) (fun s=>[(0,AV.v k0 (D.sl 3 (d.map aa.e)),none),(3,AV.bx 3 0,some (Rt.bx [.ro false (di cy),.ro false (di cx),.ro false (.str bt)])),(5,AV.v false (di ((s.1.length:Nat):Int)),none)]) (fun s=>d=s.1++s.2∧fb ⟨cy,cx,bt⟩ d 0=fb ⟨cy,cx,bt⟩ s.2 s.1.length) (fun s=>s.2.length) ([],d) (by simp) ⟨rfl,rfl⟩ ?_;rintro ⟨pre,rest⟩ ⟨y1,y2⟩;simp only at y1 y2;have y3:d.length=pre.length+rest.length:=by rw [y1,zb]
 rcases rest with _|⟨⟨dT,dN,dS⟩,rest⟩
 ·simp only [zf] at y3;simp only [fb] at y2;have c1:¬(pre.length:Int)<(d.length:Int):=by omega
  unfold I3;refine Ua (J2 c1 y2) ?_;simp [AF,y2]
 ·simp only [zd] at y3;simp only [fb] at y2;have hg:d[pre.length]?=some ⟨dT,dN,dS⟩:=by rw [y1];simp
  obtain ⟨ae,au⟩:=za.1 hg;have c1:(pre.length:Int)<(d.length:Int):=by omega
  have hw:=Wi ((pre.length:Int)+1);unfold I3;cases hv:fL ⟨dT,dN,dS⟩ ⟨cy,cx,bt⟩ with
  |true=>
   rw [if_pos hv] at y2;have e:=jO.1 hv;simp only [aa.mk.injEq] at e;obtain ⟨rfl,rfl,rfl⟩:=e;refine Ua (J6 hg au ae c1 hw y2) ?_;simp [AF,y2]
  |false=>
   rw [if_neg (by rw [hv];simp)] at y2;have dh:(dT==cy&&(dN==cx&&dS.toList==bt.toList))=false:=hv;have dK:(cy==dT&&(cx==dN&&bt.toList==dS.toList))=false:=(OQ ⟨cy,cx,bt⟩ ⟨dT,dN,dS⟩).trans hv;refine Ua (J7 hg au ae c1 hw dh dK) ?_;exact ⟨(pre++[⟨dT,dN,dS⟩],rest),(by simp;try omega),⟨by rw [y1];simp,by rw [y2];simp⟩,by simp⟩
@[simp] theorem adM (h:d.length≤1048576):Gw TT 598 [.one (.ro k0 (.sl 3 (d.map aa.e))),.st [.ro false (di cy),.ro false (di cx),.ro false (.str bt)]]=some (vi (fb ⟨cy,cx,bt⟩ d 0),[]):=by
 refine Ga HP GY ?_;unfold GY;refine Ua h ?_;simp [HP]
def g9 {α:Type} (a:List α) (r:Option (List α)):Option (List α):=match r with
 |some l=>some (a++l)
 |none=>none
@[simp] theorem ab5 {α:Type} (a:List α):g9 a none=none:=rfl
@[simp] theorem tV {α:Type} (a l:List α):g9 a (some l)=some (a++l):=rfl
theorem tU {α:Type} (r:Option (List α)):g9 [] r=r:=by cases r<;>rfl
theorem Nr {d l:List aa} {a:List Int} {v:aa} (h:fb v d 0<0):g9 a (g8 d (v::l))=none:=by
 simp only [g8];rw [if_pos h];try rfl
theorem Ns {d l:List aa} {a:List Int} {v:aa} (h:¬fb v d 0<0):g9 a (g8 d (v::l))=g9 (a++[fb v d 0]) (g8 d l):=by
 simp only [g8];rw [if_neg h];cases g8 d l with
 |none=>rfl
 |some p=>simp [g9]
@[simp] theorem adD (h:d.length≤1048576) (h2:l.length≤1048576):Gw TT 585 [.one (.ro k0 (.sl 3 (d.map aa.e))),.one (.ro k1 (.sl 3 (l.map aa.e)))]=some (tv (g8 d l),[]):=by
 refine Ga AB GM ?_;unfold GM;refine Ua Oo ?_;refine ba (σ:=List aa×List aa×List Int) (fun s=>[(0,AV.v k0 (D.sl 3 (d.map aa.e)),none),(6,AV.pl 6 0 [],some (Rt.an [C.own (D.sl 1 ((s.2.2).map ei))])),(11,AV.v k1 (D.sl 3 (l.map aa.e)),none),(12,AV.v false (di (l.length:Nat)),none),(13,AV.v false (di ((s.1.length:Nat):Int)),none)]) (fun s=>l=s.1++s.2.1∧g8 d l=g9 s.2.2 (g8 d s.2.1)∧s.2.2.length≤s.1.length) (fun s=>s.2.1.length) ([],l,[]) (by simp) ⟨rfl,by rw [tU],by simp⟩ ?_;rintro ⟨pre,rest,a⟩ ⟨y1,y2,y4⟩;simp only at y1 y2 y4;have y3:l.length=pre.length+rest.length:=by rw [y1,zb]
 rcases rest with _|⟨⟨dT,dN,dS⟩,rest⟩
 ·simp only [zf] at y3;simp only [g8,tV,zh] at y2;have c1:¬(pre.length:Int)<(l.length:Int):=by omega
  unfold IX;refine Ua (J2 c1 y2) ?_;simp [AB,y2]
 ·simp only [zd] at y3;have hg:l[pre.length]?=some ⟨dT,dN,dS⟩:=by rw [y1];simp
  obtain ⟨ae,au⟩:=za.1 hg;have c1:(pre.length:Int)<(l.length:Int):=by omega
  have hw:=Wi ((pre.length:Int)+1);have hq:(a.length+1)*8≤70368744177664:=by omega
  unfold IX;by_cases q:fb ⟨dT,dN,dS⟩ d 0<0
  ·rw [Nr q] at y2;refine Ua (J8 hg au ae c1 hw h q y2) ?_;simp [AB,y2]
  ·rw [Ns q] at y2;refine Ua (J8 hg au ae c1 hw h q hq) ?_;exact ⟨(pre++[⟨dT,dN,dS⟩],rest,a++[fb ⟨dT,dN,dS⟩ d 0]),(by simp;try omega),⟨by rw [y1];simp,y2,by simp;omega⟩,by simp⟩
@[simp] theorem adt (h:d.length≤1048576) (h2:l.length≤1048576):Gw TT 573 [.one (.ro k0 (.sl 3 (d.map aa.e))),.one (.ro k1 (.sl 3 (l.map aa.e)))]=some (tv (g8 d l),[]):=by
 refine Ga y_ Gz ?_;unfold Gz;refine Ua Oo ?_;refine ba (σ:=List aa×List aa×List Int) (fun s=>[(0,AV.v k0 (D.sl 3 (d.map aa.e)),none),(1,AV.v k1 (D.sl 3 (l.map aa.e)),none),(6,AV.pl 6 0 [],some (Rt.an [C.own (D.sl 1 ((s.2.2).map ei))])),(7,AV.v false (di ((s.1.length:Nat):Int)),none)]) (fun s=>l=s.1++s.2.1∧g8 d l=g9 s.2.2 (g8 d s.2.1)∧s.2.2.length≤s.1.length) (fun s=>s.2.1.length) ([],l,[]) (by simp) ⟨rfl,by rw [tU],by simp⟩ ?_;rintro ⟨pre,rest,a⟩ ⟨y1,y2,y4⟩;simp only at y1 y2 y4;have y3:l.length=pre.length+rest.length:=by rw [y1,zb]
 rcases rest with _|⟨⟨dT,dN,dS⟩,rest⟩
 ·simp only [zf] at y3;simp only [g8,tV,zh] at y2;have c1:¬(pre.length:Int)<(l.length:Int):=by omega
  unfold IQ;refine Ua (J2 c1 y2) ?_;simp [y_,y2]
 ·simp only [zd] at y3;have hg:l[pre.length]?=some ⟨dT,dN,dS⟩:=by rw [y1];simp
  obtain ⟨ae,au⟩:=za.1 hg;have c1:(pre.length:Int)<(l.length:Int):=by omega
  have hw:=Wi ((pre.length:Int)+1);have hq:(a.length+1)*8≤70368744177664:=by omega
  unfold IQ;by_cases q:fb ⟨dT,dN,dS⟩ d 0<0
  ·rw [Nr q] at y2;refine Ua (J8 hg au ae c1 hw h q y2) ?_;simp [y_,y2]
  ·rw [Ns q] at y2;refine Ua (J8 hg au ae c1 hw h q hq) ?_;exact ⟨(pre++[⟨dT,dN,dS⟩],rest,a++[fb ⟨dT,dN,dS⟩ d 0]),(by simp;try omega),⟨by rw [y1];simp,y2,by simp;omega⟩,by simp⟩
theorem Nn {d:List aa} {l:List Int} {a:List aa} {i:Int} (h:¬(0≤i∧i<(d.length:Int))):g9 a (fe d (i::l))=none:=by
 simp only [fe];split
 ·rw [zA (by omega)];try rfl
 ·rfl
theorem No {d:List aa} {l:List Int} {a:List aa} {i:Nat} {v:aa} (h:d[i]?=some v):g9 a (fe d ((i:Int)::l))=g9 (a++[v]) (fe d l):=by
 simp only [fe];rw [if_pos (by omega),show ((i:Int)).toNat=i by omega,h];simp only;cases fe d l with
 |none=>rfl
 |some p=>simp [g9]
@[simp] theorem adk (l:List Int) (h:d.length≤1048576) (h2:l.length≤1048576):Gw TT 556 [.one (.ro k0 (.sl 3 (d.map aa.e))),.one (.ro k1 (.sl 1 (l.map ei)))]=some (ic (fe d l),[]):=by
 refine Ga wg Gf ?_;unfold Gf;refine Ud Oo ?_;refine ba (σ:=List Int×List Int×List aa) (fun s=>[(0,AV.v k0 (D.sl 3 (d.map aa.e)),none),(6,AV.pl 6 0 [],some (Rt.an [C.own (D.sl 3 ((s.2.2).map aa.e))])),(10,AV.v k1 (D.sl 1 (l.map ei)),none),(11,AV.v false (di (l.length:Nat)),none),(12,AV.v false (di ((s.1.length:Nat):Int)),none)]) (fun s=>l=s.1++s.2.1∧fe d l=g9 s.2.2 (fe d s.2.1)∧s.2.2.length≤s.1.length) (fun s=>s.2.1.length) ([],l,[]) (by simp) ⟨rfl,by rw [tU],by simp⟩ ?_;rintro ⟨pre,rest,a⟩ ⟨y1,y2,y4⟩;simp only at y1 y2 y4;have y3:l.length=pre.length+rest.length:=by rw [y1,zb]
 rcases rest with _|⟨i,rest⟩
 ·simp only [zf] at y3;simp only [fe,tV,zh] at y2;have c1:¬(pre.length:Int)<(l.length:Int):=by omega
  unfold IJ;refine Ud (J2 c1 y2) ?_;simp [wg,y2]
 ·simp only [zd] at y3;have hg:l[pre.length]?=some i:=by rw [y1];simp
  obtain ⟨ae,au⟩:=za.1 hg;have c1:(pre.length:Int)<(l.length:Int):=by omega
  have hw:=Wi ((pre.length:Int)+1);have ea:=Wi ((d.length:Int)-1);have hq:(a.length+1)*32≤70368744177664:=by omega
  unfold IJ;by_cases q:0≤i∧i<(d.length:Int)
  ·obtain ⟨m,rfl⟩:=ze q.1;have hm:m<d.length:=by omega
   obtain ⟨⟨dT,dN,dS⟩,hv⟩:∃v,d[m]?=some v:=⟨_,zi hm⟩;have ia:=(za.1 hv).2;rw [No hv] at y2;have p1:¬(d.length:Int)≤(m:Int):=by omega
   have p2:(m:Int)≤(d.length:Int)-1:=by omega
   have p3:(m:Int)<(d.length:Int):=by omega
   refine Ud (J8 hg au ae c1 hw ea hq (J6 hm hv ia p1 p2 p3)) ?_;repeat intro hc
   exact ⟨(pre++[(m:Int)],rest,a++[⟨dT,dN,dS⟩]),(by simp;try omega),⟨by rw [y1];simp,y2,by simp;omega⟩,by simp⟩
  ·rw [Nn q] at y2;by_cases q2:0≤i
   ·have p1:(d.length:Int)≤i:=by omega
    have p2:¬i≤(d.length:Int)-1:=by omega
    refine Ud (J8 hg au ae c1 hw ea h (J4 q2 p1 p2 y2)) ?_;repeat intro hc
    simp [wg,y2]
   ·have p1:i<0:=by omega
    refine Ud (J8 hg au ae c1 hw ea h (J3 q2 p1 y2)) ?_;simp [wg,y2]
@[simp] theorem WD (l:List Int) (h:d.length≤1048576) (h2:l.length≤1048576):Gw TT 543 [.one (.ro k0 (.sl 3 (d.map aa.e))),.one (.ro k1 (.sl 1 (l.map ei)))]=some (ic (fe d l),[]):=by
 refine Ga wc F3 ?_;unfold F3;refine Ua Oo ?_;refine ba (σ:=List Int×List Int×List aa) (fun s=>[(0,AV.v k0 (D.sl 3 (d.map aa.e)),none),(1,AV.v k1 (D.sl 1 (l.map ei)),none),(6,AV.pl 6 0 [],some (Rt.an [C.own (D.sl 3 ((s.2.2).map aa.e))])),(7,AV.v false (di ((s.1.length:Nat):Int)),none)]) (fun s=>l=s.1++s.2.1∧fe d l=g9 s.2.2 (fe d s.2.1)∧s.2.2.length≤s.1.length) (fun s=>s.2.1.length) ([],l,[]) (by simp) ⟨rfl,by rw [tU],by simp⟩ ?_;rintro ⟨pre,rest,a⟩ ⟨y1,y2,y4⟩;simp only at y1 y2 y4;have y3:l.length=pre.length+rest.length:=by rw [y1,zb]
 rcases rest with _|⟨i,rest⟩
 ·simp only [zf] at y3;simp only [fe,tV,zh] at y2;have c1:¬(pre.length:Int)<(l.length:Int):=by omega
  unfold IC;refine Ua (J2 c1 y2) ?_;simp [wc,y2]
 ·simp only [zd] at y3;have hg:l[pre.length]?=some i:=by rw [y1];simp
  obtain ⟨ae,au⟩:=za.1 hg;have c1:(pre.length:Int)<(l.length:Int):=by omega
  have hw:=Wi ((pre.length:Int)+1);have ea:=Wi ((d.length:Int)-1);have hq:(a.length+1)*32≤70368744177664:=by omega
  unfold IC;by_cases q:0≤i∧i<(d.length:Int)
  ·obtain ⟨m,rfl⟩:=ze q.1;have hm:m<d.length:=by omega
   obtain ⟨⟨dT,dN,dS⟩,hv⟩:∃v,d[m]?=some v:=⟨_,zi hm⟩;have ia:=(za.1 hv).2;rw [No hv] at y2;have p1:¬(d.length:Int)≤(m:Int):=by omega
   have p2:(m:Int)≤(d.length:Int)-1:=by omega
   have p3:(m:Int)<(d.length:Int):=by omega
   refine Ua (J8 hg au ae c1 hw ea hq (J6 hm hv ia p1 p2 p3)) ?_;exact ⟨(pre++[(m:Int)],rest,a++[⟨dT,dN,dS⟩]),(by simp;try omega),⟨by rw [y1];simp,y2,by simp;omega⟩,by simp⟩
  ·rw [Nn q] at y2;by_cases q2:0≤i
   ·have p1:(d.length:Int)≤i:=by omega
    have p2:¬i≤(d.length:Int)-1:=by omega
    refine Ua (J8 hg au ae c1 hw ea h (J4 q2 p1 p2 y2)) ?_;simp [wc,y2]
   ·have p1:i<0:=by omega
    refine Ua (J8 hg au ae c1 hw ea h (J3 q2 p1 y2)) ?_;simp [wc,y2]
theorem N4:Jo (l.map aa.e)=(iZ l).map aa.e:=by
 unfold Jo iZ;rw [List.map_mergeSort (s:=fun x y=>!yg y x)];intro a _ b _;rfl
theorem aaj:(l.map aa.e).all JA=true:=by
 rw [List.all_eq_true];intro x hx;obtain ⟨v,_,rfl⟩:=zN.1 hx;rfl
@[simp] theorem adL (h:l.length≤1048576):Gw TT 595 [.one (.own (.sl 3 (l.map aa.e))),.one (.ro k0 (.fn 596 []))]=some (.a_ [],[(0,0,.own (.sl 3 ((iZ l).map aa.e)))]):=by
 refine Ga sa yu ?_;unfold yu;have hL:dM 0 [.one (.own (.sl 3 (l.map aa.e))),.one (.ro k0 (.fn 596 []))]=[(0,.pl 0 0 [],some (.an [.own (.sl 3 (l.map aa.e))])),(1,.v k0 (.fn 596 []),none)]:=by simp
 rw [hL];have hlen:(l.map aa.e).length<4611686018427387904:=by simp;omega
 refine aat (L':=[(0,.pl 0 0 [],some (.an [.own (.sl 3 ((iZ l).map aa.e))])),(1,.v k0 (.fn 596 []),none)]) ?_ ?_ ?_
 ·simp only [Bi];rw [if_pos ⟨aaj l,hlen⟩];intro c hc;obtain ⟨x,hx,hc⟩:=Zm.1 hc;obtain ⟨y,hy,rfl⟩:=zN.1 hc;obtain ⟨⟨a,b,s⟩,_,rfl⟩:=zN.1 hx;obtain ⟨⟨a',b',s'⟩,_,rfl⟩:=zN.1 hy;exact WR a b s a' b' s'
 ·simp only [Jp,N4]
 ·simp [qU,finish,sa,rO,pd,l3,nv]
theorem MK {v:aa}:∀{A B:List aa},(∀x∈A,dy x v=true)→iF v (A++B)=A++iF v B
 |[],B,_=>rfl
 |x::A,B,h=>by
  simp only [Zn,iF];rw [if_pos (h x (by simp)),MK (fun y hy=>h y (by simp [hy]))]
theorem WX {α:Type} (f:α→List D) (A:List α) (L:List (List D)):zF A.length (zg f A++L)=zg f A:=by
 have:A.length=(zg f A).length:=by simp
 rw [this,Zq]
theorem Qc {α:Type} (f:α→List D) (A:List α) (L:List (List D)):zz A.length (zg f A++L)=L:=by
 have:A.length=(zg f A).length:=by simp
 rw [this,List.drop_left]
theorem adQ {α:Type} (f:α→List D) (A B:List α):zF (A.length+B.length) (zg f A++zg f B)=zg f A++zg f B:=by
 rw [zD (by simp)]
@[simp] theorem ads (h:l.length≤1048576):Gw TT 572 [.one (.ro k0 (.sl 3 (l.map aa.e)))]=some (.one (.own (.sl 3 ((ef l).map aa.e))),[]):=by
 refine Ga HH Gy ?_;unfold Gy;refine Ua Oo ?_;refine ba (σ:=List aa×List aa×List aa) (fun s=>[(0,AV.v k0 (D.sl 3 (l.map aa.e)),none),(3,AV.pl 3 0 [],some (Rt.an [C.own (D.sl 3 ((s.2.2).map aa.e))])),(4,AV.v false (di ((s.1.length:Nat):Int)),none)]) (fun s=>l=s.1++s.2.1∧ef l=lK s.2.2 s.2.1∧s.2.2.length≤s.1.length) (fun s=>s.2.1.length) ([],l,[]) (by simp) ⟨rfl,rfl,by simp⟩ ?_;rintro ⟨pre,rest,o⟩ ⟨y1,y2,y4⟩;simp only at y1 y2 y4;have y3:l.length=pre.length+rest.length:=by rw [y1,zb]
 rcases rest with _|⟨⟨dT,dN,dS⟩,rest⟩
 ·simp only [zf] at y3;simp only [lK] at y2;have c1:¬(pre.length:Int)<(l.length:Int):=by omega
  unfold IP;refine Ua (J2 c1 y2) ?_;simp [HH,y2]
 ·simp only [zd] at y3;simp only [lK] at y2;have hg:l[pre.length]?=some ⟨dT,dN,dS⟩:=by rw [y1];simp
  obtain ⟨ae,au⟩:=za.1 hg;have c1:(pre.length:Int)<(l.length:Int):=by omega
  have hw:=Wi ((pre.length:Int)+1);have rl:=D2 ⟨dT,dN,dS⟩ o;unfold IP;refine Ua (J5 hg au ae c1 hw) ?_;refine ba (σ:=List aa×List aa) (fun s=>[(0,AV.v k0 (D.sl 3 (l.map aa.e)),none),(3,AV.pl 3 0 [],some (Rt.an [C.own (D.sl 3 ((o).map aa.e))])),(4,AV.v false (di ((pre.length:Nat):Int)),none),(5,AV.v false (di ((s.1.length:Nat):Int)),none)]) (fun s=>o=s.1++s.2∧∀x∈s.1,dy x ⟨dT,dN,dS⟩=true) (fun s=>s.2.length) ([],o) (by simp) ⟨rfl,by simp⟩ ?_;rintro ⟨A,B⟩ ⟨z1,z2⟩;simp only at z1 z2;have qf:iF ⟨dT,dN,dS⟩ o=A++iF ⟨dT,dN,dS⟩ B:=by rw [z1];exact MK z2
  have mQ:o.length=A.length+B.length:=by rw [z1,zb]
  have cv:A.length*32≤70368744177664:=by omega
  have dY:(A.length+1)*32≤70368744177664:=by omega
  have Mo:(A.length+1+B.length)*32≤70368744177664:=by omega
  have L5:fZ (zg aa.e A)=true:=xw _ _ (fun x=>rfl);have RG:fZ (zg aa.e B)=true:=xw _ _ (fun x=>rfl);rcases B with _|⟨⟨bT,bN,bS⟩,B⟩
  ·have c2:¬(A.length:Int)<(o.length:Int):=by simp at mQ;omega
   have c3:(A.length:Int)=(o.length:Int):=by simp at mQ;omega
   have LI:A.length=o.length:=by simp at mQ;omega
   have Q5:o=A:=by simpa using z1
   subst Q5;simp only [iF] at qf;rw [qf] at y2;have C1:zF o.length (zg aa.e o)=zg aa.e o:=zD (by simp);have Q8:zz o.length (zg aa.e o)=[]:=zS (by simp);unfold wA;refine Ua (J8 c1 hg au ae hw cv dY (J3 L5 C1 Q8)) ?_;exact ⟨(pre++[⟨dT,dN,dS⟩],rest,o++[⟨dT,dN,dS⟩]),(by simp;try omega),⟨by rw [y1];simp,y2,by simp;omega⟩,by simp⟩
  ·have mK:o[A.length]?=some ⟨bT,bN,bS⟩:=by rw [z1];simp
   obtain ⟨Dt,Df⟩:=za.1 mK;have c2:(A.length:Int)<(o.length:Int):=by omega
   have c3:¬(A.length:Int)=(o.length:Int):=by omega
   have SS:=Wi ((A.length:Int)+1);cases j8:jH bT bN bS dT dN dS with
   |true=>
    unfold wA;refine Ua (J8 c1 hg au ae hw c2 mK (J4 Df Dt SS j8)) ?_
    all_goals first|exact ⟨(A++[⟨bT,bN,bS⟩],B),(by simp;try omega),⟨by rw [z1];simp,fun x hx=>by
     rcases zB.1 hx with hx|hx
     ·exact z2 x hx
     ·simp at hx;subst hx;exact j8⟩,by simp⟩|(exfalso;omega)
   |false=>
    have gA:¬dy ⟨bT,bN,bS⟩ ⟨dT,dN,dS⟩=true:=by simp only [dy];rw [j8];simp
    simp only [iF] at qf;rw [if_neg gA] at qf;cases hv:fL ⟨bT,bN,bS⟩ ⟨dT,dN,dS⟩ with
    |true=>
     rw [if_pos hv,←z1] at qf;rw [qf] at y2;have e:=jO.1 hv;simp only [aa.mk.injEq] at e;obtain ⟨rfl,rfl,rfl⟩:=e;unfold wA;refine Ua (J8 c1 hg au ae hw c2 c3 (J4 mK Df Dt j8)) ?_;exact ⟨(pre++[⟨bT,bN,bS⟩],rest,o),(by simp;try omega),⟨by rw [y1];simp,y2,by simp;omega⟩,by simp⟩
    |false=>
     rw [if_neg (by rw [hv];simp)] at qf;rw [qf] at y2;have hb:(bT==dT&&(bN==dN&&bS.toList==dS.toList))=false:=hv;have hT:zF A.length (zg aa.e o)=zg aa.e A:=by rw [z1,zQ];exact WX _ _ _
     have hD:zz A.length (zg aa.e o)=zg aa.e (⟨bT,bN,bS⟩::B):=by rw [z1,zQ];exact Qc _ _ _
     have C1:zF o.length (zg aa.e o)=zg aa.e o:=zD (by simp);have LI:A.length≤o.length:=by omega
     simp only [zd] at Mo;unfold wA;refine Ua (J8 c1 hg au ae hw c2 c3 (J8 mK Df Dt j8 hb hT hD (J7 C1 LI cv dY Mo L5 RG))) ?_;exact ⟨(pre++[⟨dT,dN,dS⟩],rest,A++⟨dT,dN,dS⟩::⟨bT,bN,bS⟩::B),(by simp;try omega),⟨by rw [y1];simp,y2,by simp at *;omega⟩,by simp⟩
theorem OE {α:Type} (f:α→List D) (A:List α) (L:List (List D)):zF A.length (zg f A++L)=zg f A:=by
 have:A.length=(zg f A).length:=by simp
 rw [this,Zq]
theorem CG {α:Type} (A:List α) (x:α) (B:List α):(A++x::B)[A.length]?=some x:=by simp
theorem PZ (W G:List aa) (p v:aa) (r:List aa) (g:aa) (G1:List aa) (h:G++[p]=g::G1):(W++[p]++G++[p]++v::r).set (W.length+1) v=(W++[p])++[v]++G1++v::r:=by
 have e:W++[p]++G++[p]++v::r=(W++[p])++g::(G1++v::r):=by
  rw [show W++[p]++G++[p]++v::r=(W++[p])++((G++[p])++v::r) by simp [zx],h];try rfl
 rw [e];have hl:(W++[p]).length=W.length+1:=by simp
 rw [←hl,Zf _ _ (zM _)];simp
@[simp] theorem WS (h:l.length≤1048576):Gw TT 597 [.one (.own (.sl 3 (l.map aa.e)))]=some (.one (.own (.sl 3 ((oz l).map aa.e))),[(0,0,.own .dead)]):=by
 refine Ga wo GX ?_;unfold GX;by_cases q:l.length<2
 ·have bq:oz l=l:=by
   rcases l with _|⟨x,l⟩
   ·rfl
   ·rcases l with _|⟨y,l⟩
    ·rfl
    ·simp at q;omega
  have q1:(l.length:Int)<2:=by omega
  refine Ua (J2 q1 bq) ?_;simp [wo,bq]
 ·have q1:¬(l.length:Int)<2:=by omega
  refine Ua q1 ?_
  refine ba (σ:=List aa×(aa×List aa)) (fun s=>[(0,AV.pl 0 0 [],some (Rt.an [C.own (D.sl 3 (l.map aa.e))])),(3,AV.v false (di (((s.1.length:Nat):Int)+1)),none)]) (fun s=>l=s.1++s.2.1::s.2.2∧oz l=s.1++kE s.2.1 s.2.2) (fun s=>s.2.2.length) ([],(l.headD default,l.tail)) (by simp) (by
   rcases l with _|⟨x,l⟩
   ·simp at q
   ·exact ⟨rfl,rfl⟩) ?_
  rintro ⟨P,⟨⟨xT,xN,xS⟩,rest⟩⟩ ⟨y1,y2⟩;simp only at y1 y2;have y3:l.length=P.length+(rest.length+1):=by rw [y1];simp
  rcases rest with _|⟨⟨dT,dN,dS⟩,rest⟩
  ·simp only [zf] at y3;have bq:oz l=l:=by rw [y2,y1];try rfl
   have c1:¬(P.length:Int)+1<(l.length:Int):=by omega
   unfold A9;refine Ua (J2 c1 bq) ?_;simp [wo,bq]
  ·simp only [zd] at y3;simp only [kE] at y2;have c1:(P.length:Int)+1<(l.length:Int):=by omega
   have cR:l[P.length]?=some ⟨xT,xN,xS⟩:=by rw [y1];simp
   obtain ⟨dc,dt⟩:=za.1 cR;have gy:l[P.length+1]?=some ⟨dT,dN,dS⟩:=by rw [y1];simp
   obtain ⟨oM,oJ⟩:=za.1 gy;have d_:=Wi ((P.length:Int)+1+1);have jj:IntKind.wrap .i64 (P.length:Int)=(P.length:Int):=wrap_i64 (by omega) (by omega);have nJ:((P.length:Int)+1).toNat=P.length+1:=by omega
   have eL:(0:Int)≤(P.length:Int)+1:=by omega
   have rq:(P.length:Int)<(l.length:Int):=by omega
   have cX:(P.length:Int)+1≤(l.length:Int):=by omega
   have dB:P.length+1≤l.length:=by omega
   cases hv:fL ⟨dT,dN,dS⟩ ⟨xT,xN,xS⟩ with
   |false=>
    rw [if_neg (by rw [hv];simp)] at y2;have hb:(dT==xT&&(dN==xN&&dS.toList==xS.toList))=false:=hv;unfold A9;refine Ua (J8 c1 cR dc dt gy oM oJ (J7 d_ jj nJ eL rq hb @zw)) ?_;exact ⟨(P++[⟨xT,xN,xS⟩],(⟨dT,dN,dS⟩,rest)),(by simp;try omega),⟨by rw [y1];simp,by rw [y2];simp⟩,by simp⟩
   |true=>
    rw [if_pos hv] at y2;have e:=jO.1 hv;simp only [aa.mk.injEq] at e;obtain ⟨rfl,rfl,rfl⟩:=e;unfold A9;refine Ua (J8 c1 cR dc dt gy oM oJ (J8 d_ jj nJ eL rq cX dB @zw)) ?_;refine ba (σ:=List aa×(List aa×(aa×List aa))) (fun s=>[(0,AV.pl 0 0 [],some (Rt.an [C.own (D.sl 3 ((s.1++[s.2.2.1]++s.2.1++[s.2.2.1]++s.2.2.2).map aa.e))])),(3,AV.v false (di (((s.1.length:Nat):Int)+1)),none),(4,AV.rg 0 0 [] 3 (P.length+1) l.length,none),(5,AV.v false (di ((s.1.length+1+s.2.1.length+1-(P.length+1):Nat):Int)),none)]) (fun s=>l.length=(s.1++[s.2.2.1]++s.2.1++[s.2.2.1]++s.2.2.2).length∧P.length≤s.1.length∧oz l=s.1++kE s.2.2.1 s.2.2.2) (fun s=>s.2.2.2.length) (P,([],(⟨dT,dN,dS⟩,rest))) (by simp [y1];try omega) ⟨by simp [y1],zM _,y2⟩ ?_;clear cR dc dt gy oM oJ hv d_ nJ eL;rintro ⟨W,⟨G,⟨⟨pT,pN,pS⟩,r⟩⟩⟩ ⟨z1,z2,z3⟩;dsimp only at z1 z2 z3 ⊢;obtain ⟨M,hM⟩:∃M,M=W++[⟨pT,pN,pS⟩]++G++[⟨pT,pN,pS⟩]++r:=⟨_,rfl⟩;rw [←hM] at z1 ⊢;have LP:M.length=W.length+1+G.length+1+r.length:=by rw [hM];simp;omega
    obtain ⟨K,hK⟩:∃K,W.length+1+G.length+1-(P.length+1)=K+1:=⟨W.length+G.length-P.length,by omega⟩;rw [hK];have LQ:P.length+1+K=W.length+1+G.length:=by omega
    have CU:M.length=l.length:=z1.symm;have m0:(0:Int)≤(W.length:Int)+1:=by omega
    have m1:(W.length:Int)+1≤(l.length:Int):=by omega
    have m2:((W.length:Int)+1).toNat=W.length+1:=by omega
    have m3:W.length+1≤l.length:=by omega
    have m4:W.length+1<l.length:=by omega
    have m5:(W.length:Int)+1<(l.length:Int):=by omega
    have m6:((K:Int)+1).toNat=K+1:=by omega
    have m7:(0:Int)≤(K:Int)+1:=by omega
    have m8:IntKind.wrap .i64 (K:Int)=(K:Int):=wrap_i64 (by omega) (by omega);have m9:=Wi ((K:Int)+1+1);have T4:=Wi ((W.length:Int)+1+1);have Ea:P.length+1≤l.length:=by omega
    have C0:zF l.length (zg aa.e M)=zg aa.e M:=zD (by simp;omega);have Q6:zz l.length (zg aa.e M)=[]:=zS (by simp;omega)
    have Re:zF (W.length+1) (zg aa.e M)=zg aa.e (W++[⟨pT,pN,pS⟩]):=by
     rw [hM,zx,zx,zQ];have:=OE aa.e (W++[⟨pT,pN,pS⟩]) (zg aa.e (G++([⟨pT,pN,pS⟩]++r)));rw [show (W++[(⟨pT,pN,pS⟩:aa)]).length=W.length+1 by simp] at this;exact this
    rcases r with _|⟨⟨vT,vN,vS⟩,r⟩
    ·simp only [zf,Nat.add_zero] at LP;simp only [kE] at z3;have d1:¬(K:Int)+1<((l.length-(P.length+1):Nat):Int):=by omega
     have d2:W.length+1+(l.length-(W.length+1))=l.length:=by omega
     have h_:fZ (zz (W.length+1) (zg aa.e M))=true:=Qx _ _ _ (fun x=>rfl);have d3:W.length+(l.length-(W.length+1)+1)=l.length:=by omega
     have uW:zF (W.length+1) (zg aa.e W++[di pT,di pN,.str pS]::zo (l.length-(W.length+1)) [di 0,di 0,.str ⟨#[]⟩])=zg aa.e W++[[di pT,di pN,.str pS]]:=by
      have:=OE aa.e (W++[⟨pT,pN,pS⟩]) (zo (l.length-(W.length+1)) [di 0,di 0,.str ⟨#[]⟩]);rw [show (W++[(⟨pT,pN,pS⟩:aa)]).length=W.length+1 by simp] at this;simpa using this
     unfold A8;refine Ua (J8 CU C0 Q6 Re m0 m1 m2 (J8 m3 m4 m5 m6 m7 m8 Ea (J4 d1 d2 d3 h_))) ?_;simp [wo,z3,uW]
    ·simp only [zd] at LP;simp only [kE] at z3;have d1:(K:Int)+1<((l.length-(P.length+1):Nat):Int):=by omega
     have Dh:M[P.length+1+K]?=some ⟨pT,pN,pS⟩:=by
      rw [LQ,hM,zx _ [_] (_::r)];have:=CG (W++[⟨pT,pN,pS⟩]++G) ⟨pT,pN,pS⟩ (⟨vT,vN,vS⟩::r);rw [show (W++[(⟨pT,pN,pS⟩:aa)]++G).length=W.length+1+G.length by simp;omega] at this;simpa using this
     have gX:M[P.length+1+(K+1)]?=some ⟨vT,vN,vS⟩:=by
      rw [←Nat.add_assoc,LQ,hM];have:=CG (W++[⟨pT,pN,pS⟩]++G++[⟨pT,pN,pS⟩]) ⟨vT,vN,vS⟩ r;rw [show (W++[(⟨pT,pN,pS⟩:aa)]++G++[(⟨pT,pN,pS⟩:aa)]).length=W.length+1+G.length+1 by simp;omega] at this;exact this
     obtain ⟨bZ,j9⟩:=za.1 Dh;obtain ⟨kg,ia⟩:=za.1 gX;have te:P.length+1+K<l.length:=by omega
     have eM:P.length+1+(K+1)<l.length:=by omega
     have k1:(K:Int)<((l.length-(P.length+1):Nat):Int):=by omega
     cases hv:fL ⟨vT,vN,vS⟩ ⟨pT,pN,pS⟩ with
     |true=>
      rw [if_pos hv] at z3;have e:=jO.1 hv;simp only [aa.mk.injEq] at e;obtain ⟨rfl,rfl,rfl⟩:=e;have LO:M=W++[⟨vT,vN,vS⟩]++(G++[⟨vT,vN,vS⟩])++[⟨vT,vN,vS⟩]++r:=by rw [hM];simp
      unfold A8;refine Ua (J8 CU C0 m0 m1 m2 m3 m4 (J8 m5 m6 m7 m8 m9 Ea d1 (J8 Dh gX bZ j9 kg ia te (J3 eM k1 @zw)))) ?_;exact ⟨(W,(G++[⟨vT,vN,vS⟩],(⟨vT,vN,vS⟩,r))),(by rw [LO];simp;try omega),⟨by rw [←LO];exact z1,z2,z3⟩,by simp⟩
     |false=>
      rw [if_neg (by rw [hv];simp)] at z3;have hb:(vT==pT&&(vN==pN&&vS.toList==pS.toList))=false:=hv
      obtain ⟨⟨gT,gN,gS⟩,G1,hG⟩:∃g G1,G++[(⟨pT,pN,pS⟩:aa)]=g::G1:=by
       cases G with
       |nil=>exact ⟨_,_,rfl⟩
       |cons g G=>exact ⟨_,_,rfl⟩
      have tf:(zg aa.e M).set (W.length+1) [di vT,di vN,.str vS]=zg aa.e ((W++[⟨pT,pN,pS⟩])++[⟨vT,vN,vS⟩]++G1++⟨vT,vN,vS⟩::r):=by
       rw [←PZ W G ⟨pT,pN,pS⟩ ⟨vT,vN,vS⟩ r ⟨gT,gN,gS⟩ G1 hG,List.map_set,hM];try rfl
      have L6:M[W.length+1]?=some ⟨gT,gN,gS⟩:=by
       rw [hM,show W++[(⟨pT,pN,pS⟩:aa)]++G++[⟨pT,pN,pS⟩]++⟨vT,vN,vS⟩::r=(W++[⟨pT,pN,pS⟩])++((G++[⟨pT,pN,pS⟩])++⟨vT,vN,vS⟩::r) by simp,hG];have:=CG (W++[⟨pT,pN,pS⟩]) ⟨gT,gN,gS⟩ (G1++⟨vT,vN,vS⟩::r);rw [show (W++[(⟨pT,pN,pS⟩:aa)]).length=W.length+1 by simp] at this;exact this
      obtain ⟨Dg,au⟩:=za.1 L6;have Q9:=congrArg zR hG;simp at Q9;unfold A8;refine Ua (J8 CU C0 m0 m1 m2 m3 m4 (J8 m5 m6 m7 m8 m9 T4 Ea (J8 d1 Dh gX bZ j9 kg ia (J8 te eM k1 hb tf L6 Dg (J2 au @zw))))) ?_;exact ⟨(W++[⟨pT,pN,pS⟩],(G1,(⟨vT,vN,vS⟩,r))),(by simp;try omega),⟨by simp at *;omega,by simp;omega,by rw [z3];simp⟩,by simp⟩
@[simp] theorem adC (h:l.length≤1048576):Gw TT 584 [.one (.ro k0 (.sl 3 (l.map aa.e)))]=some (.one (.own (.sl 3 ((ef l).map aa.e))),[]):=by
 refine Ga HN GL ?_;unfold GL;have h1:(iZ l).length≤1048576:=by rw [Bj];exact h
 have h2:=WS (iZ l) h1;rw [P0] at h2;refine Ua (J3 h h1 h2) ?_;simp [HN]
theorem MI {v:aa}:∀{d:List aa} {i:Int},0≤i→v∈d→0≤fb v d i
 |[],i,_,h=>by simp at h
 |x::d,i,hi,h=>by
  simp only [fb];split
  ·exact hi
  ·rename_i hx;rcases zj.1 h with rfl|h
   ·exact absurd (jO.2 rfl) hx
   ·exact MI (by omega) h
theorem I_ {d:List aa}:∀{l:List aa},(∀v∈l,v∈d)→∃p,g8 d l=some p
 |[],_=>⟨[],rfl⟩
 |v::l,h=>by
  obtain ⟨p,hp⟩:=I_ (l:=l) (fun x hx=>h x (by simp [hx]));refine ⟨fb v d 0::p,?_⟩;have:=MI (i:=0) (by omega) (h v (by simp));simp only [g8];rw [if_neg (by omega),hp]
@[simp] theorem WH (h:l.length≤1048576) (hs:aa.aq l):Gw TT 557 [.one (.ro k0 (.sl 3 (l.map aa.e)))]=some (.one (.own (.sl 1 ((eJ l).map eb))),[]):=by
 refine Ga yX Gg ?_;unfold Gg;by_cases q:bG l=0
 ·have he:eJ l=[]:=by simp [eJ,q]
  refine Uw (J4 h hs q he) ?_;simp [yX,he]
 ·obtain ⟨q1,q2,_,_⟩:=kV q;have hm:∀r∈ef l,r.S.size≤6:=fun r hr=>wO q _ (uC.1 hr)
  have ln:=xp l;obtain ⟨p,hp⟩:=I_ (d:=ef l) (l:=l) (fun v hv=>uC.2 hv);have bZ:=A_ (ef l) hp;have DD:qx (ef l) l=p:=by simp [qx,hp]
  have he:eJ l=bw (ef l).length++et (ef l)++fc p (ed ((ef l).length-1)):=by simp [eJ,q,DD]
  obtain ⟨R,hR⟩:∃R,R=ef l:=⟨_,rfl⟩;rw [←hR] at he hm ln hp;have hn:=fP (R.length:Int);have uM:R.length≤1048576:=by omega
  have te:p.length≤1048576:=by omega
  have oQ:=tz p (ed ((R.length:Int)-1));have DT:=Wi ((R.length:Int)-1);obtain ⟨pk,va⟩:∃pk,pk=fc p (ed ((R.length:Int)-1)):=⟨_,rfl⟩;rw [←va] at he oQ
  repeat' first|refine Zs ?_|((with_reducible refine Xk fun K k=>?_);simp [h,hs,q,←hR,uM,hp];refine k _ ?_;clear k K)|refine Xt rfl ?_|refine Xf rfl ?_|(refine We rfl ?_ ?_<;>(intro hc;(try simp at hc);(all_goals first|(exfalso;omega)|skip)))
  refine ba (σ:=List aa×List aa×List Int) (fun s=>[(0,AV.v k0 (D.sl 3 (l.map aa.e)),none),(3,AV.pl 3 0 [],some (Rt.an [C.own (D.sl 1 ((s.2.2).map eb))])),(4,AV.pl 4 0 [],some (Rt.an [C.own (D.sl 3 (R.map aa.e))])),(20,AV.pl 4 0 [],none),(21,AV.v false (di (R.length:Nat)),none),(22,AV.v false (di ((s.1.length:Nat):Int)),none)]) (fun s=>R=s.1++s.2.1∧s.2.2++et s.2.1=bw R.length++et R∧s.2.2.length≤5+7*s.1.length) (fun s=>s.2.1.length) ([],R,bw R.length) (by simp) ⟨rfl,rfl,by simp;omega⟩ ?_;rintro ⟨pre,rest,a⟩ ⟨y1,y2,y4⟩;simp only at y1 y2 y4;have y3:R.length=pre.length+rest.length:=by rw [y1,zb]
  rcases rest with _|⟨⟨dT,dN,dS⟩,rest⟩
  ·simp only [zf] at y3;simp only [et,zJ,zh] at y2;have c1:¬(pre.length:Int)<(R.length:Int):=by omega
   have cp:eJ l=a++pk:=by rw [he,y2];try rfl
   have ha:(a.length+pk.length)*1≤70368744177664:=by omega
   have lM:a.length+pk.length≤70368744177664:=by omega
   unfold IK
   repeat' first|refine Zs ?_|((with_reducible refine Xk fun K k=>?_);simp [c1,hp,te,h,uM,DT,←va,ha,lM];refine k _ ?_;clear k K)|refine Xt rfl ?_|refine Xf rfl ?_|(refine We rfl ?_ ?_<;>(intro hc;(try simp at hc);(all_goals first|(exfalso;omega)|skip)))
   simp [yX,cp]
  ·simp only [zd] at y3;have hd:=hm ⟨dT,dN,dS⟩ (by rw [y1];simp);simp only at hd;have bp:dS.size≤1048576:=by omega
   have hg:R[pre.length]?=some ⟨dT,dN,dS⟩:=by rw [y1];simp
   obtain ⟨ae,au⟩:=za.1 hg;have c1:(pre.length:Int)<(R.length:Int):=by omega
   have hw:=Wi ((pre.length:Int)+1);have Sz:=qz ⟨dT,dN,dS⟩;have ha:a.length≤1048000:=by omega
   unfold IK;refine Uw (J7 hg au ae c1 hw bp ha) ?_;exact ⟨(pre++[⟨dT,dN,dS⟩],rest,a++eS ⟨dT,dN,dS⟩),(by simp;try omega),⟨by rw [y1];simp,by rw [←y2];simp [et],by simp only [zb,zd,zf];omega⟩,by simp⟩
@[simp] theorem ac' (h:l.length≤1048576) (hs:aa.aq l):Gw TT 544 [.one (.ro k0 (.sl 3 (l.map aa.e)))]=some (.one (.own (.sl 1 ((eJ l).map eb))),[]):=by
 refine Ga yQ F4 ?_;unfold F4;by_cases q:bG l=0
 ·have he:eJ l=[]:=by simp [eJ,q]
  refine Uw (J4 h hs q he) ?_;simp [yQ,he]
 ·obtain ⟨q1,q2,_,_⟩:=kV q;have hm:∀r∈ef l,r.S.size≤6:=fun r hr=>wO q _ (uC.1 hr)
  have ln:=xp l;obtain ⟨p,hp⟩:=I_ (d:=ef l) (l:=l) (fun v hv=>uC.2 hv);have bZ:=A_ (ef l) hp;have DD:qx (ef l) l=p:=by simp [qx,hp]
  have he:eJ l=bw (ef l).length++et (ef l)++fc p (ed ((ef l).length-1)):=by simp [eJ,q,DD]
  obtain ⟨R,hR⟩:∃R,R=ef l:=⟨_,rfl⟩;rw [←hR] at he hm ln hp;have hn:=fP (R.length:Int);have uM:R.length≤1048576:=by omega
  have te:p.length≤1048576:=by omega
  have oQ:=tz p (ed ((R.length:Int)-1));have DT:=Wi ((R.length:Int)-1);obtain ⟨pk,va⟩:∃pk,pk=fc p (ed ((R.length:Int)-1)):=⟨_,rfl⟩;rw [←va] at he oQ
  repeat' first|refine Zs ?_|((with_reducible refine Xk fun K k=>?_);simp [h,hs,q,←hR,uM,hp];refine k _ ?_;clear k K)|refine Xt rfl ?_|refine Xf rfl ?_|(refine We rfl ?_ ?_<;>(intro hc;(try simp at hc);(all_goals first|(exfalso;omega)|skip)))
  refine ba (σ:=List aa×List aa×List Int) (fun s=>[(3,AV.pl 3 0 [],some (Rt.an [C.own (D.sl 3 (R.map aa.e))])),(4,AV.pl 4 0 [],some (Rt.an [C.own (D.sl 1 (p.map ei)),C.ro false (.bool true)])),(6,AV.pl 6 0 [],some (Rt.an [C.own (D.sl 1 ((s.2.2).map eb))])),(7,AV.v false (di ((s.1.length:Nat):Int)),none)]) (fun s=>R=s.1++s.2.1∧s.2.2++et s.2.1=bw R.length++et R∧s.2.2.length≤5+7*s.1.length) (fun s=>s.2.1.length) ([],R,bw R.length) (by simp) ⟨rfl,rfl,by simp;omega⟩ ?_;rintro ⟨pre,rest,a⟩ ⟨y1,y2,y4⟩;simp only at y1 y2 y4;have y3:R.length=pre.length+rest.length:=by rw [y1,zb]
  rcases rest with _|⟨⟨dT,dN,dS⟩,rest⟩
  ·simp only [zf] at y3;simp only [et,zJ,zh] at y2;have c1:¬(pre.length:Int)<(R.length:Int):=by omega
   have cp:eJ l=a++pk:=by rw [he,y2];try rfl
   have ha:(a.length+pk.length)*1≤70368744177664:=by omega
   have lM:a.length+pk.length≤70368744177664:=by omega
   unfold ID
   repeat' first|refine Zs ?_|((with_reducible refine Xk fun K k=>?_);simp [c1,hp,te,h,uM,DT,←va,ha,lM];refine k _ ?_;clear k K)|refine Xt rfl ?_|refine Xf rfl ?_|(refine We rfl ?_ ?_<;>(intro hc;(try simp at hc);(all_goals first|(exfalso;omega)|skip)))
   simp [yQ,cp]
  ·simp only [zd] at y3;have hd:=hm ⟨dT,dN,dS⟩ (by rw [y1];simp);simp only at hd;have bp:dS.size≤1048576:=by omega
   have hg:R[pre.length]?=some ⟨dT,dN,dS⟩:=by rw [y1];simp
   obtain ⟨ae,au⟩:=za.1 hg;have c1:(pre.length:Int)<(R.length:Int):=by omega
   have hw:=Wi ((pre.length:Int)+1);have Sz:=qz ⟨dT,dN,dS⟩;have ha:a.length≤1048000:=by omega
   unfold ID;refine Uw (J7 hg au ae c1 hw bp ha) ?_;exact ⟨(pre++[⟨dT,dN,dS⟩],rest,a++eS ⟨dT,dN,dS⟩),(by simp;try omega),⟨by rw [y1];simp,by rw [←y2];simp [et],by simp only [zb,zd,zf];omega⟩,by simp⟩
theorem WB (e:List Int) (h1:1≤k) (h2:k≤64) (h3:(l.length:Int)=k) (h4:((strOf b).toList==(strOf e).toList)=true):
 Gw TT 527 [.one (.ro k0 (.sl 1 (b.map eb))),vi k,.one (.own (.sl 3 (l.map aa.e))),.one (.ro k1 (.sl 1 (e.map eb)))]=some (ic (some l),[(2,0,.own .dead)]):=by
 refine Ga rV vP ?_;unfold vP;refine Ua (J4 h1 h2 h3 h4) ?_;simp [rV]
theorem WA (e:List Int) (h:¬((1≤k∧k≤64)∧(l.length:Int)=k∧((strOf b).toList==(strOf e).toList)=true)):
 Gw TT 527 [.one (.ro k0 (.sl 1 (b.map eb))),vi k,.one (.own (.sl 3 (l.map aa.e))),.one (.ro k1 (.sl 1 (e.map eb)))]=some (ic none,[(2,0,.own (.sl 3 (l.map aa.e)))]):=by
 refine Ga rV vP ?_;unfold vP;by_cases q1:1≤k∧k≤64
 ·by_cases q2:(l.length:Int)=k
  ·have q3:((strOf b).toList==(strOf e).toList)=false:=by
    cases hh:((strOf b).toList==(strOf e).toList) with
    |false=>rfl
    |true=>exact absurd ⟨q1,q2,hh⟩ h
   clear h;refine Ud (J4 q1.1 q1.2 q2 q3) ?_;simp [rV]
  ·clear h;refine Ud (J3 q1.1 q1.2 q2) ?_;simp [rV]
 ·clear h;refine Ud Oo ?_;repeat intro hc
  simp [rV]
theorem nt (k0 k1:Bool) (b:List Int) (k:Int) (l:List aa) (E:List aa→List Int) (hb:aZ b) (he:aZ (E l)):
 ∃us,Gw TT 527 [.one (.ro k0 (.sl 1 (b.map eb))),vi k,.one (.own (.sl 3 (l.map aa.e))),.one (.ro k1 (.sl 1 ((E l).map eb)))]=some (ic (cM b k E l),us):=by
 by_cases q:(1≤k∧k≤64)∧(l.length:Int)=k∧b=E l
 ·have h4:((strOf b).toList==(strOf (E l)).toList)=true:=by rw [nq hb he];simpa using q.2.2
  have e1:cM b k E l=some l:=by unfold cM;rw [if_pos q]
  rw [e1];exact ⟨_,WB k0 k1 b k l (E l) q.1.1 q.1.2 q.2.1 h4⟩
 ·have e1:cM b k E l=none:=by unfold cM;rw [if_neg q]
  rw [e1];refine ⟨_,WA k0 k1 b k l (E l) (fun e=>q ⟨e.1,e.2.1,?_⟩)⟩;have:=e.2.2;rw [nq hb he] at this;simpa using this
theorem uI {b:List Int} {ty:Int} {k:Nat} {u t:Int} {l:List aa} (hb:aZ b) (h0:0≤u) (h1:u≤(b.length:Int)) (h:eK b ty k u=some (l,t)):aa.aq l∧l.length=k:=by
 obtain ⟨a1,a2,_⟩:=uH hb h0 h1 h;refine ⟨fun v hv=>?_,a1⟩;have:=sy (pE a2 v hv).1;simp only [aa.sm];omega
theorem P8 {b:List Int} {ty k:Int} (hb:aZ b) (hk:1≤k∧k≤64) {l:List aa} {t:Int} (h:eK b ty k.toNat 0=some (l,t)):iw b ty k=cM b k gw l:=by
 obtain ⟨h1,_,h3⟩:=KP hb hk h;unfold iw cM;rw [if_pos hk,h];simp only;by_cases e:t=(b.length:Int)
 ·rw [if_pos e,if_pos ⟨hk,h1,h3.2 e⟩]
 ·rw [if_neg e,if_neg (fun q=>e (h3.1 q.2.2))]
theorem B0 {b:List Int} {k:Int} {E:List aa→List Int}:cM b k E []=none:=by
 unfold cM;rw [if_neg (fun q=>by have:=q.2.1;simp at this;omega)]
@[simp] theorem Ov (h:b.length≤1048576) (hb:aZ b):Gw TT 522 [.one (.ro k0 (.sl 1 (b.map eb))),vi ty,vi k]=some (ic (iw b ty k),[]):=by
 refine Ga tM FM ?_;unfold FM;by_cases q:1≤k∧k≤64
 ·have q0:0≤k:=by omega
  have hg:=OA k0 b 0 ty k h hb q0 q.2;cases hv:eK b ty k.toNat 0 with
  |none=>
   have hd:iw b ty k=none:=by unfold iw;rw [if_pos q,hv]
   rw [hv] at hg;obtain ⟨us,hu⟩:=nt k0 true b k [] gw hb (Cq []);have he:=WG true [] (by simp) (fun v hv=>by simp at hv);have hn:gw []=[]:=rfl;rw [B0] at hu;simp only [hn,zG] at hu he;refine Uw (J6 q.1 q.2 hg he hu hd) ?_;simp [tM,hd]
  |some w=>
   obtain ⟨l,t⟩:=w;rw [hv] at hg;obtain ⟨hs,hl⟩:=uI hb (Zl _) (by omega) hv;have bY:l.length≤1048576:=by omega
   obtain ⟨us,hu⟩:=nt k0 true b k l gw hb (Cq l);rw [P8 hb q hv];cases hc:cM b k gw l with
   |none=>
    rw [hc] at hu;refine Uw (J6 q.1 q.2 hg hs bY hu) ?_;simp [tM]
   |some l'=>
    rw [hc] at hu;refine Uw (J6 q.1 q.2 hg hs bY hu) ?_;simp [tM]
 ·have hd:iw b ty k=none:=by unfold iw;rw [if_neg q]
  refine Uw hd ?_;repeat intro hc
  simp [tM,hd]
@[simp] theorem Ow (h:b.length≤1048576) (hb:aZ b):Gw TT 523 [.one (.ro k0 (.sl 1 (b.map eb))),vi ty,vi k]=some (ic (eP b ty k),[]):=by
 refine Ga qt FN ?_;unfold FN;cases hg:gN b 0 with
 |none=>
  have hdr:eP b ty k=none:=by unfold eP;rw [hg]
  refine Uw (J4 h hb hg hdr) ?_;simp [qt,hdr]
 |some q=>
  obtain ⟨n,u⟩:=q;by_cases q1:1≤n∧n≤64
  ·obtain ⟨m,rfl⟩:=ze (show 0≤n by omega);have q2:(1:Int)≤(m:Int):=q1.1;have q3:(m:Int)≤64:=q1.2
   have hdr:∀{r:List bU} {t:Int},gR b ty m u=some (r,t)→eP b ty k=cM b k ft (nm r):=fun {r t} hr=>by
    unfold eP;rw [hg];simp only;rw [if_pos q1,show ((m:Int)).toNat=m by omega,hr]
   have re:gR b ty m u=none→eP b ty k=none:=fun hr=>by
    unfold eP;rw [hg];simp only;rw [if_pos q1,show ((m:Int)).toNat=m by omega,hr]
   refine Uw (J5 h hb hg q2 q3) ?_;refine ba (σ:=List bU×(Nat×Int)) (fun s=>[(0,AV.v k0 (D.sl 1 (b.map eb)),none),(1,AV.v false (di ty),none),(2,AV.v false (di k),none),(8,AV.v false (di (m:Nat)),none),(9,AV.v false (di s.2.2),none),(11,AV.pl 11 0 [],some (Rt.an [C.own (D.sl 4 (s.1.map bU.e))])),(12,AV.v false (di (s.1.length:Nat)),none)]) (fun s=>s.1.length+s.2.1=m∧gR b ty m u=gC s.1 (gR b ty s.2.1 s.2.2)) (fun s=>s.2.1) ([],(m,u)) (by simp) ⟨by simp,by rw [sk]⟩ ?_;rintro ⟨a,⟨i,v⟩⟩ ⟨y1,y2⟩;simp only at y1 y2;have hq:(a.length+1)*40≤70368744177664:=by omega
   cases i with
   |zero=>
    have c1:¬(a.length:Int)<(m:Int):=by omega
    simp only [gR,sn,zh] at y2;have hd:=hdr y2;have hS:=N9 (CD hb y2);have CZ:=N8 a;obtain ⟨S,mF⟩:∃S,S=nm a:=⟨_,rfl⟩;rw [←mF] at hd hS CZ;have oE:S.length≤1048576:=by omega
    have ha:a.length≤1048576:=by omega
    obtain ⟨us,hu⟩:=nt k0 true b k S ft hb (Cr S);rw [hd];unfold wz;cases hc:cM b k ft S with
    |none=>
     rw [hc] at hu
     repeat' first|refine Zs ?_|((with_reducible refine Xk fun K k=>?_);simp [c1,ha,←mF,hS,oE,hu];refine k _ ?_;clear k K)|refine Xt rfl ?_|refine Xf rfl ?_|(refine We rfl ?_ ?_<;>(intro hc;(try simp at hc);(all_goals first|(exfalso;omega)|skip)))
     simp [qt]
    |some l'=>
     rw [hc] at hu
     repeat' first|refine Zs ?_|((with_reducible refine Xk fun K k=>?_);simp [c1,ha,←mF,hS,oE,hu];refine k _ ?_;clear k K)|refine Xt rfl ?_|refine Xf rfl ?_|(refine We rfl ?_ ?_<;>(intro hc;(try simp at hc);(all_goals first|(exfalso;omega)|skip)))
     simp [qt]
   |succ i=>
    have c1:(a.length:Int)<(m:Int):=by omega
    have hw:=Wi ((a.length:Int)+1);cases hv:gN b v with
    |none=>
     rw [xz (Lk hv)] at y2;have bp:=re y2;unfold wz;refine Uw (J6 c1 hw h hb hv bp) ?_;simp [qt,bp]
    |some q=>
     obtain ⟨c,t1⟩:=q;have gZ:=Ll (ty:=ty) hv;cases eM:cW b t1 ty with
     |none=>
      rw [eM] at gZ;rw [xz gZ] at y2;have bp:=re y2;unfold wz;refine Uw (J7 c1 hw h hb hv eM bp) ?_;simp [qt,bp]
     |some q=>
      obtain ⟨⟨dT,dN,dS⟩,t⟩:=q;rw [eM] at gZ;rw [Lm gZ] at y2;unfold wz;refine Uw (J7 c1 hw h hb hv eM hq) ?_;exact ⟨(a++[⟨⟨dT,dN,dS⟩,c⟩],(i,t)),(by simp;try omega),⟨by simp;omega,y2⟩,by simp⟩
  ·have bp:eP b ty k=none:=by
    unfold eP;rw [hg];simp only;rw [if_neg q1]
   refine Uw (J4 h hb hg bp) ?_;repeat intro hc
   simp [qt,bp]
theorem Ck {m:Int} {b:List Int} {ty k:Int} (hk:¬(1≤k∧k≤64)):ju m b ty k=none:=by
 unfold ju;split
 ·split
  ·split
   ·split
    ·split
     ·unfold cM;rw [if_neg (fun e=>hk e.1)]
     ·rfl
    ·rfl
   ·rfl
  ·rfl
 ·rfl
theorem P3:gP b ty k=ju 64 b ty k:=by
 by_cases hk:1≤k∧k≤64
 ·exact (P4 b ty k hk).symm
 ·unfold gP;rw [Ck hk,Ck hk]
theorem Bn {b:List Int} {w k:Int} {p:List Int} (h:eG b w k=some p):(p.length:Int)=k:=by
 unfold eG at h;split at h
 ·rename_i hh;split at h
  ·simp at h;subst h;rw [OL];omega
  ·cases h
 ·cases h
theorem KN {m:Int} {b:List Int} {ty k n u:Int} (hg:gN b 0=some (n,u)) (hn:1≤n∧n≤m):ju m b ty k=match eK b ty n.toNat u with
 |some (d,t)=>(match eG (b.drop t.toNat) (ed (n-1)) k with
  |some p=>(match fe d p with
   |some l=>cM b k eJ l
   |none=>none)
  |none=>none)
 |none=>none:=by
 unfold ju;rw [hg];simp only;rw [if_pos hn];try rfl
theorem HX {d:List aa}:∀{l:List Int} {r:List aa},fe d l=some r→∀v∈r,v∈d
 |[],r,h,v,hv=>by simp [fe] at h;subst h;simp at hv
 |i::l,r,h,v,hv=>by
  simp only [fe] at h;split at h
  ·split at h
   ·rename_i x hx;split at h
    ·rename_i q hq;simp at h;subst h;rcases zj.1 hv with rfl|hv
     ·exact zm hx
     ·exact HX hq v hv
    ·cases h
   ·cases h
  ·cases h
theorem KV (n:Nat):zz n (zF b.length (zg eb b))=zg eb (b.drop n):=by
 rw [zD (by simp),zK]
@[simp] theorem Oq (h:b.length≤1048576) (hb:aZ b):Gw TT 516 [.one (.ro k0 (.sl 1 (b.map eb))),vi ty,vi k]=some (ic (gP b ty k),[]):=by
 refine Ga ng FF ?_;unfold FF;by_cases q4:1≤k∧k≤64
 ·cases hg:gN b 0 with
  |none=>
   have hd:gP b ty k=none:=by unfold gP ju;rw [hg]
   refine Ud (J4 h hb hg hd) ?_;simp [ng,hd]
  |some q=>
   obtain ⟨n,u⟩:=q;by_cases q1:1≤n∧n≤k
   ·obtain ⟨m,rfl⟩:=ze (show 0≤n by omega);have q2:(1:Int)≤(m:Int):=q1.1;have q3:(m:Int)≤k:=q1.2;obtain ⟨_,_,g6,ji,_⟩:=lL hb hg;have hdr:=KN (m:=k) (ty:=ty) (k:=k) hg q1;change gP b ty k=_ at hdr;rw [show ((m:Int)).toNat=m by omega] at hdr;refine Ud (J7 h hb hg q2 q3 q4.1 q4.2) ?_;refine ba (σ:=List aa×(Nat×Int)) (fun s=>[(0,AV.v k0 (D.sl 1 (b.map eb)),none),(1,AV.v false (di ty),none),(2,AV.v false (di k),none),(8,AV.pl 8 0 [],some (Rt.an [C.own (D.sl 3 [])])),(9,AV.v false (di (m:Nat)),none),(10,AV.v false (di s.2.2),none),(12,AV.pl 12 0 [],some (Rt.an [C.own (D.sl 3 (s.1.map aa.e))])),(13,AV.v false (di (s.1.length:Nat)),none)]) (fun s=>s.1.length+s.2.1=m∧eK b ty m u=gC s.1 (eK b ty s.2.1 s.2.2)) (fun s=>s.2.1) ([],(m,u)) (by simp) ⟨by simp,by rw [sk]⟩ ?_;rintro ⟨a,⟨i,v⟩⟩ ⟨y1,y2⟩;simp only at y1 y2;have hq:(a.length+1)*32≤70368744177664:=by omega
    cases i with
    |zero=>
     have c1:¬(a.length:Int)<(m:Int):=by omega
     simp only [eK,sn,zh] at y2;obtain ⟨iB,xH⟩:=uI hb (by omega) (by omega) y2;obtain ⟨_,_,kf,mZ,_⟩:=uH hb (by omega) (by omega) y2;obtain ⟨tn,rfl⟩:=ze (show 0≤v by omega);rw [y2] at hdr;simp only [zq] at hdr;have s1:(0:Int)≤(tn:Int):=by omega
     have s2:(tn:Int)≤(b.length:Int):=by omega
     have s3:tn≤b.length:=by omega
     have s4:=KV b tn;have s5:(b.drop tn).length≤1048576:=by simp;omega
     have s6:=mq tn hb;have s7:b.length-tn≤1048576:=by omega
     have s8:=Wi ((m:Int)-1);obtain ⟨B,hB⟩:∃B,B=b.drop tn:=⟨_,rfl⟩;rw [←hB] at hdr s4 s5 s6;have s9:zz tn (zg eb b)=zg eb B:=by rw [hB,zK]
     have da:a.length≤1048576:=by omega
     cases cK:eG B (ed ((m:Int)-1)) k with
     |none=>
      rw [cK] at hdr;simp only at hdr;unfold tS;obtain ⟨rr,hr⟩:∃rr,fe a []=some rr:=⟨_,rfl⟩;have mS:rr=[]:=by simp [fe] at hr;first|exact hr|exact hr.symm
      subst mS;have oQ:=WD true true a [] da (by simp);simp only [zG,hr,Ue] at oQ;refine Ud (J8 c1 s1 s2 s3 s9 s5 s6 (J4 s8 cK oQ hdr)) ?_;simp [ng,hdr]
     |some p=>
      have bZ:=Bn cK;rw [cK] at hdr;simp only at hdr;have kp:p.length≤1048576:=by omega
      cases dX:fe a p with
      |none=>
       rw [dX] at hdr;simp only at hdr;unfold tS;refine Ud (J8 c1 s1 s2 s3 s9 s5 s6 (J6 s8 cK da kp dX hdr)) ?_;simp [ng,hdr]
      |some l=>
       rw [dX] at hdr;simp only at hdr;have cI:=HW a dX;have db:aa.aq l:=fun x hx=>iB x (HX dX x hx)
       have bY:l.length≤1048576:=by omega
       have Dr:(l.length:Int)=k:=by omega
       have fx:=nq (xu l) hb;unfold tS;by_cases e3:eJ l=b
       ·have e4:((strOf (eJ l)).toList==(strOf b).toList)=true:=by rw [fx];simpa using e3
        have bp:gP b ty k=some l:=by rw [hdr];unfold cM;rw [if_pos ⟨q4,Dr,e3.symm⟩]
        refine Ud (J8 c1 s1 s2 s3 s9 s5 s6 (J8 s8 cK da kp dX db bY (J2 e4 bp))) ?_;simp [ng,bp]
       ·have e4:((strOf (eJ l)).toList==(strOf b).toList)=false:=by rw [fx];simpa using e3
        have bp:gP b ty k=none:=by rw [hdr];unfold cM;rw [if_neg (fun e=>e3 e.2.2.symm)]
        refine Ud (J8 c1 s1 s2 s3 s9 s5 s6 (J8 s8 cK da kp dX db bY (J2 e4 bp))) ?_;simp [ng,bp]
    |succ i=>
     have c1:(a.length:Int)<(m:Int):=by omega
     have hw:=Wi ((a.length:Int)+1);cases hv:cW b v ty with
     |none=>
      rw [CE hv] at y2;rw [y2] at hdr;simp only at hdr;unfold tS;refine Ud (J6 c1 hw h hb hv hdr) ?_;simp [ng,hdr]
     |some q=>
      obtain ⟨⟨dT,dN,dS⟩,t⟩:=q;rw [CF hv] at y2;unfold tS;refine Ud (J6 c1 hw h hb hv hq) ?_;exact ⟨(a++[⟨dT,dN,dS⟩],(i,t)),(by simp;try omega),⟨by simp;omega,y2⟩,by simp⟩
   ·have hd:gP b ty k=none:=by unfold gP ju;rw [hg];simp only;rw [if_neg q1]
    refine Ud (J6 h hb hg q4.1 q4.2 hd) ?_;repeat intro hc
    simp [ng,hd]
 ·have hd:gP b ty k=none:=by unfold gP;exact Ck q4
  cases hg:gN b 0 with
  |none=>
   refine Ud (J4 h hb hg hd) ?_;simp [ng,hd]
  |some q=>
   obtain ⟨n,u⟩:=q;refine Ud (J4 h hb hg hd) ?_;repeat intro hc
   simp [ng,hd]
@[simp] theorem Ox (h:b.length≤1048576) (hb:aZ b):Gw TT 524 [.one (.ro k0 (.sl 1 (b.map eb))),vi ty,vi k]=some (ic (gP b ty k),[]):=by
 refine Ga ph FO ?_;unfold FO;rw [P3];cases hg:gN b 0 with
 |none=>
  have hd:ju 64 b ty k=none:=by unfold ju;rw [hg]
  refine Uw (J4 h hb hg hd) ?_;simp [ph,hd]
 |some q=>
  obtain ⟨n,u⟩:=q;by_cases q1:1≤n∧n≤64
  ·obtain ⟨m,rfl⟩:=ze (show 0≤n by omega);have q2:(1:Int)≤(m:Int):=q1.1;have q3:(m:Int)≤64:=q1.2;have q5:(0:Int)≤(m:Int):=by omega
   obtain ⟨_,_,g6,ji,_⟩:=lL hb hg;have hdr:=KN (m:=64) (ty:=ty) (k:=k) hg q1;rw [show ((m:Int)).toNat=m by omega] at hdr;have gX:=OA k0 b u ty (m:Int) h hb q5 q3;rw [show ((m:Int)).toNat=m by omega] at gX;cases hy:eK b ty m u with
   |none=>
    rw [hy] at gX hdr;simp only at hdr;refine Uw (J7 h hb hg q2 q3 gX hdr) ?_;simp [ph,hdr]
   |some w=>
    obtain ⟨a,v⟩:=w;have y2:=hy;rw [hy] at gX;have y1:=(uI hb (by omega) (by omega) y2).2;obtain ⟨iB,xH⟩:=uI hb (by omega) (by omega) y2;obtain ⟨_,_,kf,mZ,_⟩:=uH hb (by omega) (by omega) y2;obtain ⟨tn,rfl⟩:=ze (show 0≤v by omega);rw [y2] at hdr;simp only [zq] at hdr;have s1:(0:Int)≤(tn:Int):=by omega
    have s2:(tn:Int)≤(b.length:Int):=by omega
    have s3:tn≤b.length:=by omega
    have s4:=KV b tn;have s5:(b.drop tn).length≤1048576:=by simp;omega
    have s6:=mq tn hb;have s7:b.length-tn≤1048576:=by omega
    have s8:=Wi ((m:Int)-1);obtain ⟨B,hB⟩:∃B,B=b.drop tn:=⟨_,rfl⟩;rw [←hB] at hdr s4 s5 s6;have s9:zz tn (zg eb b)=zg eb B:=by rw [hB,zK]
    have da:a.length≤1048576:=by omega
    cases cK:eG B (ed ((m:Int)-1)) k with
    |none=>
     rw [cK] at hdr;simp only at hdr;refine Uw (J8 h hb hg q2 q3 gX s1 (J8 s2 s3 s9 s5 s6 s8 cK hdr)) ?_;simp [ph,hdr]
    |some p=>
     have bZ:=Bn cK;rw [cK] at hdr;simp only at hdr
     have R5:k≤64:=by
      have:=cK;unfold eG at this;split at this
      ·rename_i hh;exact hh.1.2.2
      ·cases this
     have kp:p.length≤1048576:=by omega
     cases dX:fe a p with
     |none=>
      rw [dX] at hdr;simp only at hdr;obtain ⟨us,hu⟩:=nt k0 true b k [] eJ hb (xu []);have he:=WH true [] (by simp) (fun v hv=>by simp at hv);have hn:eJ []=[]:=rfl;rw [B0] at hu;simp only [hn,zG] at hu he;refine Uw (J8 h hb hg q2 q3 gX s1 (J8 s2 s3 s9 s5 s6 s8 cK (J6 da kp dX he hu hdr))) ?_;simp [ph,hdr]
     |some l=>
      rw [dX] at hdr;simp only at hdr;have cI:=HW a dX;have db:aa.aq l:=fun x hx=>iB x (HX dX x hx)
      have bY:l.length≤1048576:=by omega
      obtain ⟨us,hu⟩:=nt k0 true b k l eJ hb (xu l);rw [hdr];cases hc:cM b k eJ l with
      |none=>
       rw [hc] at hu;refine Uw (J8 h hb hg q2 q3 gX s1 (J8 s2 s3 s9 s5 s6 s8 cK (J6 da kp dX db bY hu))) ?_;simp [ph]
      |some l'=>
       rw [hc] at hu;refine Uw (J8 h hb hg q2 q3 gX s1 (J8 s2 s3 s9 s5 s6 s8 cK (J6 da kp dX db bY hu))) ?_;simp [ph]
  ·have hd:ju 64 b ty k=none:=by unfold ju;rw [hg];simp only;rw [if_neg q1]
   refine Uw (J4 h hb hg hd) ?_;repeat intro hc
   simp [ph,hd]
@[simp] theorem adH (h:l.length≤1048576):Gw TT 589 [.one (.ro k0 (.sl 3 (l.map aa.e)))]=some (vi (dQ l),[]):=by
 refine Ga AE GQ ?_;unfold GQ;rcases l with _|⟨⟨aT,aN,aS⟩,l0⟩
 ·have hb:dQ []=0:=rfl;refine Ua hb ?_;simp [AE,hb]
 ·obtain ⟨l,hl⟩:∃l,l=(⟨aT,aN,aS⟩:aa)::l0:=⟨_,rfl⟩;have hb:dQ l=jd aN l:=by rw [hl];simp [dQ,jd]
  rw [←hl];have cR:l[0]?=some ⟨aT,aN,aS⟩:=by rw [hl];try rfl
  obtain ⟨dc,dt⟩:=za.1 cR;have hn:¬(l.length:Int)=0:=by omega
  have rq:l≠[]:=by rw [hl];simp
  have cX:l.isEmpty=false:=by rw [hl];try rfl
  have dB:((l.length:Int)==0)=false:=by simpa using rq
  refine Ua (J7 hn rq cX dB cR dc dt) ?_;refine ba (σ:=List aa×List aa×Int) (fun s=>[(3,AV.v false (di s.2.2),none),(13,AV.v k0 (D.sl 3 (l.map aa.e)),none),(14,AV.v false (di (l.length:Nat)),none),(15,AV.v false (di ((s.1.length:Nat):Int)),none)]) (fun s=>l=s.1++s.2.1∧dQ l=jd s.2.2 s.2.1) (fun s=>s.2.1.length) ([],l,aN) (by simp) ⟨rfl,hb⟩ ?_;rintro ⟨pre,rest,m⟩ ⟨y1,y2⟩;simp only at y1 y2;have y3:l.length=pre.length+rest.length:=by rw [y1,zb]
  rcases rest with _|⟨⟨dT,dN,dS⟩,rest⟩
  ·simp only [zf] at y3;simp only [jd] at y2;have c1:¬(pre.length:Int)<(l.length:Int):=by omega
   unfold I2;refine Ua (J2 c1 y2) ?_;simp [AE,y2]
  ·simp only [zd] at y3 h;simp only [jd] at y2;have hg:l[pre.length]?=some ⟨dT,dN,dS⟩:=by rw [y1];simp
   obtain ⟨ae,au⟩:=za.1 hg;have c1:(pre.length:Int)<(l.length:Int):=by omega
   have cI:l.length≤1048576:=by rw [hl];simpa using h
   have hw:=Wi ((pre.length:Int)+1);unfold I2;refine Ua (J5 hg au ae c1 hw) ?_;exact ⟨(pre++[⟨dT,dN,dS⟩],rest,if dN<m then dN else m),(by simp;try omega),⟨by rw [y1];simp,y2⟩,by simp⟩
@[simp] theorem ady (h:l.length≤1048576):Gw TT 577 [.one (.ro k0 (.sl 3 (l.map aa.e)))]=some (vi (dQ l),[]):=by
 refine Ga HJ GD ?_;unfold GD;refine Ua Oo ?_;refine ba (σ:=List aa×List aa×Int) (fun s=>[(0,AV.v k0 (D.sl 3 (l.map aa.e)),none),(3,AV.v false (di s.2.2),none),(4,AV.v false (di ((s.1.length:Nat):Int)),none)]) (fun s=>l=s.1++s.2.1∧((s.1=[]∧s.2.2=0)∨(s.1≠[]∧dQ l=jd s.2.2 s.2.1))) (fun s=>s.2.1.length) ([],l,0) (by simp) ⟨rfl,.inl ⟨rfl,rfl⟩⟩ ?_;rintro ⟨pre,rest,m⟩ ⟨y1,y2⟩;simp only at y1 y2;have y3:l.length=pre.length+rest.length:=by rw [y1,zb]
 rcases rest with _|⟨⟨dT,dN,dS⟩,rest⟩
 ·simp only [zf] at y3;have c1:¬(pre.length:Int)<(l.length:Int):=by omega
  have hb:dQ l=m:=by
   rcases y2 with ⟨rfl,rfl⟩|⟨_,y2⟩
   ·simp at y1;subst y1;rfl
   ·simpa [jd] using y2
  unfold A6;refine Ua (J2 c1 hb) ?_;simp [HJ,hb]
 ·simp only [zd] at y3;have hg:l[pre.length]?=some ⟨dT,dN,dS⟩:=by rw [y1];simp
  obtain ⟨ae,au⟩:=za.1 hg;have c1:(pre.length:Int)<(l.length:Int):=by omega
  have hw:=Wi ((pre.length:Int)+1);rcases y2 with ⟨rfl,rfl⟩|⟨yn,y2⟩
  ·have hb:dQ l=jd dN rest:=by rw [y1];try rfl
   simp only [zf] at hg au ae c1 hw;unfold A6;refine Ua (J5 hg au ae c1 hw) ?_;exact ⟨([⟨dT,dN,dS⟩],rest,dN),(by simp;try omega),⟨by rw [y1];simp,.inr ⟨by simp,hb⟩⟩,by simp⟩
  ·have bZ:0<pre.length:=Zg.2 yn;have c2:¬(pre.length:Int)=0:=by omega
   simp only [jd] at y2;unfold A6;by_cases e:dN<m
   ·rw [if_pos e] at y2;refine Ua (J8 hg au ae c1 hw c2 yn e) ?_;exact ⟨(pre++[⟨dT,dN,dS⟩],rest,dN),(by simp;try omega),⟨by rw [y1];simp,.inr ⟨by simp,y2⟩⟩,by simp⟩
   ·rw [if_neg e] at y2;refine Ua (J8 hg au ae c1 hw c2 yn e) ?_;exact ⟨(pre++[⟨dT,dN,dS⟩],rest,m),(by simp;try omega),⟨by rw [y1];simp,.inr ⟨by simp,y2⟩⟩,by simp⟩
theorem yp {l:List aa} (h:bG l=1):(-1000000000≤dQ l∧dQ l≤1000000000)∧∀v∈l,0≤v.N-dQ l∧v.N-dQ l≤2000000000:=by
 obtain ⟨h1,h2,h3⟩:=ua h;obtain ⟨h4,v0,cO,h5⟩:=Pq (l:=l) (by omega);have h6:=(h3 v0 cO).2.2;refine ⟨by omega,fun v hv=>?_⟩;have:=(h3 v hv).2.2;have:=h4 v hv;omega
@[simp] theorem adF (h:l.length≤1048576) (hs:aa.aq l):Gw TT 587 [.one (.ro k0 (.sl 3 (l.map aa.e)))]=some (.one (.own (.sl 1 ((if bG l=1 then ez l else []).map ei))),[]):=by
 refine Ga AD GO ?_;unfold GO;by_cases q:bG l=1
 ·rw [if_pos q];obtain ⟨hb,hr⟩:=yp q;have q2:=(ua q).2.1;refine Uw (J3 h hs q) ?_;refine ba (σ:=List aa×List aa×List Int) (fun s=>[(0,AV.v k0 (D.sl 3 (l.map aa.e)),none),(3,AV.pl 3 0 [],some (Rt.an [C.own (D.sl 1 ((s.2.2).map ei))])),(11,AV.v k0 (D.sl 3 (l.map aa.e)),none),(12,AV.v false (di (l.length:Nat)),none),(13,AV.v false (di ((s.1.length:Nat):Int)),none)]) (fun s=>l=s.1++s.2.1∧s.2.2++s.2.1.map (fun v=>v.N-dQ l)=ez l∧s.2.2.length≤s.1.length) (fun s=>s.2.1.length) ([],l,[]) (by simp) ⟨rfl,rfl,by simp⟩ ?_;rintro ⟨pre,rest,a⟩ ⟨y1,y2,y4⟩;simp only at y1 y2 y4;have y3:l.length=pre.length+rest.length:=by rw [y1,zb]
  rcases rest with _|⟨⟨dT,dN,dS⟩,rest⟩
  ·simp only [zf] at y3;simp only [zG,zh] at y2;have c1:¬(pre.length:Int)<(l.length:Int):=by omega
   unfold I0;refine Uw c1 ?_;simp [AD,y2]
  ·simp only [zd] at y3;have hd:=hr ⟨dT,dN,dS⟩ (by rw [y1];simp);simp only at hd;have hg:l[pre.length]?=some ⟨dT,dN,dS⟩:=by rw [y1];simp
   obtain ⟨ae,au⟩:=za.1 hg;have c1:(pre.length:Int)<(l.length:Int):=by omega
   have hw:=Wi ((pre.length:Int)+1);have ea:=Wi (dN-dQ l);have hq:(a.length+1)*8≤70368744177664:=by omega
   unfold I0;refine Uw (J8 hg au ae c1 hw ea hq h) ?_;exact ⟨(pre++[⟨dT,dN,dS⟩],rest,a++[dN-dQ l]),(by simp;try omega),⟨by rw [y1];simp,by rw [←y2];simp,by simp;omega⟩,by simp⟩
 ·rw [if_neg q];refine Uw (J3 h hs q) ?_;repeat intro hc
  simp [AD]
@[simp] theorem adw (h:l.length≤1048576) (hs:aa.aq l):Gw TT 575 [.one (.ro k0 (.sl 3 (l.map aa.e)))]=some (.one (.own (.sl 1 ((if bG l=1 then ez l else []).map ei))),[]):=by
 refine Ga Ad GB ?_;unfold GB;by_cases q:bG l=1
 ·rw [if_pos q];obtain ⟨hb,hr⟩:=yp q;have q2:=(ua q).2.1;refine Uw (J3 h hs q) ?_;refine ba (σ:=List aa×List aa×List Int) (fun s=>[(0,AV.v k0 (D.sl 3 (l.map aa.e)),none),(3,AV.pl 3 0 [],some (Rt.an [C.own (D.sl 1 ((s.2.2).map ei))])),(4,AV.v false (di (dQ l)),none),(5,AV.v false (di ((s.1.length:Nat):Int)),none)]) (fun s=>l=s.1++s.2.1∧s.2.2++s.2.1.map (fun v=>v.N-dQ l)=ez l∧s.2.2.length≤s.1.length) (fun s=>s.2.1.length) ([],l,[]) (by simp) ⟨rfl,rfl,by simp⟩ ?_;rintro ⟨pre,rest,a⟩ ⟨y1,y2,y4⟩;simp only at y1 y2 y4;have y3:l.length=pre.length+rest.length:=by rw [y1,zb]
  rcases rest with _|⟨⟨dT,dN,dS⟩,rest⟩
  ·simp only [zf] at y3;simp only [zG,zh] at y2;have c1:¬(pre.length:Int)<(l.length:Int):=by omega
   unfold IU;refine Uw c1 ?_;simp [Ad,y2]
  ·simp only [zd] at y3;have hd:=hr ⟨dT,dN,dS⟩ (by rw [y1];simp);simp only at hd;have hg:l[pre.length]?=some ⟨dT,dN,dS⟩:=by rw [y1];simp
   obtain ⟨ae,au⟩:=za.1 hg;have c1:(pre.length:Int)<(l.length:Int):=by omega
   have hw:=Wi ((pre.length:Int)+1);have ea:=Wi (dN-dQ l);have hq:(a.length+1)*8≤70368744177664:=by omega
   unfold IU;refine Uw (J8 hg au ae c1 hw ea hq h) ?_;exact ⟨(pre++[⟨dT,dN,dS⟩],rest,a++[dN-dQ l]),(by simp;try omega),⟨by rw [y1];simp,by rw [←y2];simp,by simp;omega⟩,by simp⟩
 ·rw [if_neg q];refine Uw (J3 h hs q) ?_;repeat intro hc
  simp [Ad]
@[simp] theorem WI (h:l.length≤1048576) (hs:aa.aq l):Gw TT 559 [.one (.ro k0 (.sl 3 (l.map aa.e)))]=some (.one (.own (.sl 1 ((fE l).map eb))),[]):=by
 refine Ga yY Gj ?_;unfold Gj;by_cases q:bG l=1
 ·obtain ⟨hb,hr⟩:=yp q;have q2:=(ua q).2.1;have mQ:(ez l).length=l.length:=by simp [ez]
  have u_:(ez l).length≤1048576:=by omega
  have he:fE l=bw (dQ l)++fM 0 (ez l)::fc (ez l) (fM 0 (ez l)):=by simp [fE,q]
  have DV:=JC (ez l);obtain ⟨w,hw⟩:∃w,w=fM 0 (ez l):=⟨_,rfl⟩;have bZ:=tz (ez l) w;obtain ⟨p,hp⟩:∃p,p=fc (ez l) w:=⟨_,rfl⟩;rw [←hw] at he DV;rw [←hp] at he bZ;have hu:IntKind.wrap .u8 w=w:=wrap_u8 (by omega) (by omega);have hn:=fP (dQ l);have r1:((bw (dQ l)).length+1)*1≤70368744177664:=by omega
  have r2:(bw (dQ l)).length+1≤70368744177664:=by omega
  have r3:(bw (dQ l)).length+1+p.length≤70368744177664:=by omega
  repeat' first|refine Zs ?_|((with_reducible refine Xk fun K k=>?_);simp [h,hs,q,u_,←hw,←hp,hu,r1,r2,r3];refine k _ ?_;clear k K)|refine Xt rfl ?_|refine Xf rfl ?_|(refine We rfl ?_ ?_<;>(intro hc;(try simp at hc);(all_goals first|(exfalso;omega)|skip)))
  simp [yY,he]
 ·have he:fE l=[]:=by simp [fE,q]
  refine Uw (J4 h hs q he) ?_;repeat intro hc
  simp [yY,he]
@[simp] theorem ada (h:l.length≤1048576) (hs:aa.aq l):Gw TT 546 [.one (.ro k0 (.sl 3 (l.map aa.e)))]=some (.one (.own (.sl 1 ((fE l).map eb))),[]):=by
 refine Ga yR F6 ?_;unfold F6;by_cases q:bG l=1
 ·obtain ⟨hb,hr⟩:=yp q;have q2:=(ua q).2.1;have mQ:(ez l).length=l.length:=by simp [ez]
  have u_:(ez l).length≤1048576:=by omega
  have he:fE l=bw (dQ l)++fM 0 (ez l)::fc (ez l) (fM 0 (ez l)):=by simp [fE,q]
  have DV:=JC (ez l);obtain ⟨w,hw⟩:∃w,w=fM 0 (ez l):=⟨_,rfl⟩;have bZ:=tz (ez l) w;obtain ⟨p,hp⟩:∃p,p=fc (ez l) w:=⟨_,rfl⟩;rw [←hw] at he DV;rw [←hp] at he bZ;have hu:IntKind.wrap .u8 w=w:=wrap_u8 (by omega) (by omega);have hn:=fP (dQ l);have r1:((bw (dQ l)).length+1)*1≤70368744177664:=by omega
  have r2:(bw (dQ l)).length+1≤70368744177664:=by omega
  have r3:(bw (dQ l)).length+1+p.length≤70368744177664:=by omega
  repeat' first|refine Zs ?_|((with_reducible refine Xk fun K k=>?_);simp [h,hs,q,u_,←hw,←hp,hu,r1,r2,r3];refine k _ ?_;clear k K)|refine Xt rfl ?_|refine Xf rfl ?_|(refine We rfl ?_ ?_<;>(intro hc;(try simp at hc);(all_goals first|(exfalso;omega)|skip)))
  simp [yR,he]
 ·have he:fE l=[]:=by simp [fE,q]
  refine Uw (J4 h hs q he) ?_;repeat intro hc
  simp [yR,he]
theorem Ba {base x:Int} {l:List Int} {a:List aa} (h:¬((0≤x∧x≤2000000000)∧base+x≤1000000000)):g9 a (gE base (x::l))=none:=by
 simp only [gE];rw [if_neg h];try rfl
theorem NI {base x:Int} {l:List Int} {a:List aa} (h:(0≤x∧x≤2000000000)∧base+x≤1000000000):g9 a (gE base (x::l))=g9 (a++[⟨1,base+x,⟨#[]⟩⟩]) (gE base l):=by
 simp only [gE];rw [if_pos h];cases gE base l with
 |none=>rfl
 |some p=>simp [g9]
theorem NH {base:Int}:∀{l:List Int} {r:List aa},gE base l=some r→aa.aq r
 |[],r,h,v,hv=>by simp [gE] at h;subst h;simp at hv
 |x::l,r,h,v,hv=>by
  simp only [gE] at h;split at h
  ·split at h
   ·rename_i q hq;simp at h;subst h;rcases zj.1 hv with rfl|hv
    ·simp only [aa.sm];decide
    ·exact NH hq v hv
   ·cases h
  ·cases h
@[simp] theorem adl (base:Int) (l:List Int) (h2:l.length≤1048576):Gw TT 558 [vi base,.one (.ro k1 (.sl 1 (l.map ei)))]=some (ic (jJ base l),[]):=by
 refine Ga qw Gi ?_;unfold Gi;cases hb:fB base with
 |false=>
  have hr:jJ base l=none:=by unfold jJ;rw [hb];try rfl
  rcases l with _|⟨x,l⟩
  ·repeat' (first
    |with_reducible (first|refine wp_seq ?_|refine aU ?_|refine wp_skip ?_|refine wp_exit ?_|refine wp_ret ?_|refine aQ ?_|refine aR ?_|refine aP ?_|refine aC ?_|refine aD ?_|refine aB ?_|refine aM ?_|refine aL ?_|refine aO ?_|refine aK ?_|refine aJ ?_|refine aG ?_|refine aF ?_|refine aI ?_|refine aH ?_)
    |(with_reducible refine wp_loop (c:=sh) ?_
      conv=>arg 2;unfold sh)
    |(with_reducible refine aV fun K hK=>?_
      simp[hb,hr]
      repeat' (with_reducible first|refine hK _ ?_|(refine aw ?_ ?_<;>(intro hc;(try rw [zC] at hc);first|(exfalso;omega)|(try simp [hc,hb,hr]))))
      all_goals (clear hK;clear K))
    |(with_reducible refine aW ?_
      refine ⟨_,rfl,?_,?_⟩<;>(intro hc;(try simp at hc);(all_goals first|(exfalso;omega)|skip))))
   simp [qw,hr]
  ·repeat' (first
    |with_reducible (first|refine wp_seq ?_|refine aU ?_|refine wp_skip ?_|refine wp_exit ?_|refine wp_ret ?_|refine aQ ?_|refine aR ?_|refine aP ?_|refine aC ?_|refine aD ?_|refine aB ?_|refine aM ?_|refine aL ?_|refine aO ?_|refine aK ?_|refine aJ ?_|refine aG ?_|refine aF ?_|refine aI ?_|refine aH ?_)
    |(with_reducible refine wp_loop (c:=sh) ?_
      conv=>arg 2;unfold sh)
    |(with_reducible refine aV fun K hK=>?_
      simp[hb,hr]
      repeat' (with_reducible first|refine hK _ ?_|(refine aw ?_ ?_<;>(intro hc;(try rw [zC] at hc);first|(exfalso;omega)|(try simp [hc,hb,hr]))))
      all_goals (clear hK;clear K))
    |(with_reducible refine aW ?_
      refine ⟨_,rfl,?_,?_⟩<;>(intro hc;(try simp at hc);(all_goals first|(exfalso;omega)|skip))))
   simp [qw,hr]
 |true=>
  have dK:=hb;simp only [fB,zu,decide_eq_true_eq] at dK;have hr:jJ base l=gE base l:=by unfold jJ;rw [hb];try rfl
  rw [hr];refine Ua hb ?_;refine ba (σ:=List Int×List Int×List aa) (fun s=>[(0,AV.v false (di base),none),(6,AV.pl 6 0 [],some (Rt.an [C.own (D.sl 3 ((s.2.2).map aa.e))])),(13,AV.v k1 (D.sl 1 (l.map ei)),none),(14,AV.v false (di (l.length:Nat)),none),(15,AV.v false (di ((s.1.length:Nat):Int)),none)]) (fun s=>l=s.1++s.2.1∧gE base l=g9 s.2.2 (gE base s.2.1)∧s.2.2.length≤s.1.length) (fun s=>s.2.1.length) ([],l,[]) (by simp) ⟨rfl,by rw [tU],by simp⟩ ?_;rintro ⟨pre,rest,a⟩ ⟨y1,y2,y4⟩;simp only at y1 y2 y4;have y3:l.length=pre.length+rest.length:=by rw [y1,zb]
  rcases rest with _|⟨x,rest⟩
  ·simp only [zf] at y3;simp only [gE,tV,zh] at y2;have c1:¬(pre.length:Int)<(l.length:Int):=by omega
   unfold sh;refine Ua (J3 c1 y2 hb) ?_;simp [qw,y2]
  ·simp only [zd] at y3;have hg:l[pre.length]?=some x:=by rw [y1];simp
   obtain ⟨ae,au⟩:=za.1 hg;have c1:(pre.length:Int)<(l.length:Int):=by omega
   have hw:IntKind.wrap .i64 ((pre.length:Int)+1)=(pre.length:Int)+1:=wrap_i64 (by omega) (by omega);have hq:(a.length+1)*32≤70368744177664:=by omega
   unfold sh;by_cases q1:0≤x∧x≤2000000000
   ·have ea:IntKind.wrap .i64 (base+x)=base+x:=wrap_i64 (by omega) (by omega);by_cases q2:base+x≤1000000000
    ·have q3:¬1000000000<base+x:=by omega
     rw [NI ⟨q1,q2⟩] at y2;refine Ua (J8 hg au ae c1 hw ea hq (J4 q1.1 q1.2 q3 hb)) ?_;exact ⟨(pre++[x],rest,a++[⟨1,base+x,⟨#[]⟩⟩]),(by simp;try omega),⟨by rw [y1];simp,y2,by simp;omega⟩,by simp⟩
    ·have q3:1000000000<base+x:=by omega
     rw [Ba (fun e=>q2 e.2)] at y2;refine Ua (J8 hg au ae c1 hw ea q1.1 (J4 q1.2 q3 y2 hb)) ?_;simp [qw,y2]
   ·rw [Ba (fun e=>q1 e.1)] at y2;by_cases q2:0≤x
    ·have q3:¬x≤2000000000:=by omega
     refine Ua (J8 hg au ae c1 hw q2 q3 (J2 y2 hb)) ?_;simp [qw,y2]
    ·refine Ua (J8 hg au ae c1 hw q2 y2 hb) ?_;simp [qw,y2]
@[simp] theorem WE (base:Int) (l:List Int) (h2:l.length≤1048576):Gw TT 545 [vi base,.one (.ro k1 (.sl 1 (l.map ei)))]=some (ic (jJ base l),[]):=by
 refine Ga qv F5 ?_;unfold F5;cases hb:fB base with
 |false=>
  have hr:jJ base l=none:=by unfold jJ;rw [hb];try rfl
  rcases l with _|⟨x,l⟩
  ·repeat' (first
    |with_reducible (first|refine wp_seq ?_|refine aU ?_|refine wp_skip ?_|refine wp_exit ?_|refine wp_ret ?_|refine aQ ?_|refine aR ?_|refine aP ?_|refine aC ?_|refine aD ?_|refine aB ?_|refine aM ?_|refine aL ?_|refine aO ?_|refine aK ?_|refine aJ ?_|refine aG ?_|refine aF ?_|refine aI ?_|refine aH ?_)
    |(with_reducible refine wp_loop (c:=sf) ?_
      conv=>arg 2;unfold sf)
    |(with_reducible refine aV fun K hK=>?_
      simp[hb,hr]
      repeat' (with_reducible first|refine hK _ ?_|(refine aw ?_ ?_<;>(intro hc;(try rw [zC] at hc);first|(exfalso;omega)|(try simp [hc,hb,hr]))))
      all_goals (clear hK;clear K))
    |(with_reducible refine aW ?_
      refine ⟨_,rfl,?_,?_⟩<;>(intro hc;(try simp at hc);(all_goals first|(exfalso;omega)|skip))))
   simp [qv,hr]
  ·repeat' (first
    |with_reducible (first|refine wp_seq ?_|refine aU ?_|refine wp_skip ?_|refine wp_exit ?_|refine wp_ret ?_|refine aQ ?_|refine aR ?_|refine aP ?_|refine aC ?_|refine aD ?_|refine aB ?_|refine aM ?_|refine aL ?_|refine aO ?_|refine aK ?_|refine aJ ?_|refine aG ?_|refine aF ?_|refine aI ?_|refine aH ?_)
    |(with_reducible refine wp_loop (c:=sf) ?_
      conv=>arg 2;unfold sf)
    |(with_reducible refine aV fun K hK=>?_
      simp[hb,hr]
      repeat' (with_reducible first|refine hK _ ?_|(refine aw ?_ ?_<;>(intro hc;(try rw [zC] at hc);first|(exfalso;omega)|(try simp [hc,hb,hr]))))
      all_goals (clear hK;clear K))
    |(with_reducible refine aW ?_
      refine ⟨_,rfl,?_,?_⟩<;>(intro hc;(try simp at hc);(all_goals first|(exfalso;omega)|skip))))
   simp [qv,hr]
 |true=>
  have dK:=hb;simp only [fB,zu,decide_eq_true_eq] at dK;have hr:jJ base l=gE base l:=by unfold jJ;rw [hb];try rfl
  rw [hr];refine Ua hb ?_;refine ba (σ:=List Int×List Int×List aa) (fun s=>[(0,AV.v false (di base),none),(1,AV.v k1 (D.sl 1 (l.map ei)),none),(6,AV.pl 6 0 [],some (Rt.an [C.own (D.sl 3 ((s.2.2).map aa.e))])),(7,AV.v false (di ((s.1.length:Nat):Int)),none)]) (fun s=>l=s.1++s.2.1∧gE base l=g9 s.2.2 (gE base s.2.1)∧s.2.2.length≤s.1.length) (fun s=>s.2.1.length) ([],l,[]) (by simp) ⟨rfl,by rw [tU],by simp⟩ ?_;rintro ⟨pre,rest,a⟩ ⟨y1,y2,y4⟩;simp only at y1 y2 y4;have y3:l.length=pre.length+rest.length:=by rw [y1,zb]
  rcases rest with _|⟨x,rest⟩
  ·simp only [zf] at y3;simp only [gE,tV,zh] at y2;have c1:¬(pre.length:Int)<(l.length:Int):=by omega
   unfold sf;refine Ua (J3 c1 y2 hb) ?_;simp [qv,y2]
  ·simp only [zd] at y3;have hg:l[pre.length]?=some x:=by rw [y1];simp
   obtain ⟨ae,au⟩:=za.1 hg;have c1:(pre.length:Int)<(l.length:Int):=by omega
   have hw:IntKind.wrap .i64 ((pre.length:Int)+1)=(pre.length:Int)+1:=wrap_i64 (by omega) (by omega);have hq:(a.length+1)*32≤70368744177664:=by omega
   unfold sf;by_cases q1:0≤x∧x≤2000000000
   ·have ea:IntKind.wrap .i64 (base+x)=base+x:=wrap_i64 (by omega) (by omega);by_cases q2:base+x≤1000000000
    ·have q3:¬1000000000<base+x:=by omega
     rw [NI ⟨q1,q2⟩] at y2;refine Ua (J8 hg au ae c1 hw ea hq (J4 q1.1 q1.2 q3 hb)) ?_;exact ⟨(pre++[x],rest,a++[⟨1,base+x,⟨#[]⟩⟩]),(by simp;try omega),⟨by rw [y1];simp,y2,by simp;omega⟩,by simp⟩
    ·have q3:1000000000<base+x:=by omega
     rw [Ba (fun e=>q2 e.2)] at y2;refine Ua (J8 hg au ae c1 hw ea q1.1 (J4 q1.2 q3 y2 hb)) ?_;simp [qv,y2]
   ·rw [Ba (fun e=>q1 e.1)] at y2;by_cases q2:0≤x
    ·have q3:¬x≤2000000000:=by omega
     refine Ua (J8 hg au ae c1 hw q2 q3 (J2 y2 hb)) ?_;simp [qv,y2]
    ·refine Ua (J8 hg au ae c1 hw q2 y2 hb) ?_;simp [qv,y2]
theorem P7 {b:List Int} {k:Int} (hk:¬(1≤k∧k≤64)):gu b k=none:=by
 unfold gu;split
 ·split
  ·split
   ·split
    ·unfold cM;rw [if_neg (fun e=>hk e.1)]
    ·rfl
   ·rfl
  ·rfl
 ·rfl
theorem KO {b:List Int} {k n u w:Int} (hg:gN b 0=some (n,u)) (hw:b[u.toNat]?=some w):gu b k=match eG (b.drop (u+1).toNat) w k with
 |some p=>(match jJ n p with
  |some l=>cM b k fE l
  |none=>none)
 |none=>none:=by
 unfold gu;rw [hg];simp only;rw [hw];try rfl
theorem NF {n:Int} {p:List Int} {l:List aa} (h:jJ n p=some l):l.length=p.length∧aa.aq l:=by
 unfold jJ at h;split at h
 ·exact ⟨NG n h,NH h⟩
 ·cases h
@[simp] theorem Oy (h:b.length≤1048576) (hb:aZ b):Gw TT 525 [.one (.ro k0 (.sl 1 (b.map eb))),vi k]=some (ic (gu b k),[]):=by
 refine Ga qu FP ?_;unfold FP;cases hg:gN b 0 with
 |none=>
  have hd:gu b k=none:=by unfold gu;rw [hg]
  refine Ua (J4 h hb hg hd) ?_;simp [qu,hd]
 |some q=>
  obtain ⟨n,u⟩:=q;obtain ⟨_,_,g6,ji,_⟩:=lL hb hg;obtain ⟨un,rfl⟩:=ze (show 0≤u by omega);by_cases gg:(un:Int)<(b.length:Int)
  ·skip;have g1:un<b.length:=by omega
   have g2:¬(b.length:Int)≤(un:Int):=by omega
   have g3:(un:Int)<(b.length:Int):=by omega
   obtain ⟨w,hw⟩:∃w,b[un]?=some w:=⟨_,zi g1⟩;have nP:=(za.1 hw).2;have jj:=hb w (zm hw);have fy:IntKind.wrap .i64 w=w:=wrap_i64 (by omega) (by omega);have s0:IntKind.wrap .i64 ((un:Int)+1)=(un:Int)+1:=wrap_i64 (by omega) (by omega);have s1:(0:Int)≤(un:Int)+1:=by omega
   have s2:(un:Int)+1≤(b.length:Int):=by omega
   have s3:un+1≤b.length:=by omega
   have s4:((un:Int)+1).toNat=un+1:=by omega
   have hdr:=KO (k:=k) hg (by simpa using hw);rw [s4] at hdr;have s5:(b.drop (un+1)).length≤1048576:=by simp;omega
   have s6:=mq (un+1) hb;obtain ⟨B,hB⟩:∃B,B=b.drop (un+1):=⟨_,rfl⟩;rw [←hB] at hdr s5 s6;have s9:zz (un+1) (zg eb b)=zg eb B:=by rw [hB,zK]
   cases cK:eG B w k with
   |none=>
    rw [cK] at hdr;simp only at hdr;refine Ua (J8 h hb hg g1 g2 g3 hw (J8 nP fy s0 s1 s2 s3 s4 (J5 s5 s6 s9 cK hdr))) ?_;simp [qu,hdr]
   |some p=>
    have bZ:=Bn cK;rw [cK] at hdr;simp only at hdr
    have R5:k≤64:=by
     have:=cK;unfold eG at this;split at this
     ·rename_i hh;exact hh.1.2.2
     ·cases this
    have kp:p.length≤1048576:=by omega
    cases dX:jJ n p with
    |none=>
     rw [dX] at hdr;simp only at hdr;obtain ⟨us,hu⟩:=nt k0 true b k [] fE hb (xv []);have he:=WI true [] (by simp) (fun v hv=>by simp at hv);have hn:fE []=[]:=rfl;rw [B0] at hu;simp only [hn,zG] at hu he;refine Ua (J8 h hb hg g1 g2 g3 hw (J8 nP fy s0 s1 s2 s3 s4 (J8 s5 s6 s9 cK kp dX he (J2 hu hdr)))) ?_;simp [qu,hdr]
    |some l=>
     rw [dX] at hdr;simp only at hdr;obtain ⟨cI,db⟩:=NF dX;have bY:l.length≤1048576:=by omega
     obtain ⟨us,hu⟩:=nt k0 true b k l fE hb (xv l);rw [hdr];cases hc:cM b k fE l with
     |none=>
      rw [hc] at hu;refine Ua (J8 h hb hg g1 g2 g3 hw (J8 nP fy s0 s1 s2 s3 s4 (J8 s5 s6 s9 cK kp dX db (J2 bY hu)))) ?_;simp [qu]
     |some l'=>
      rw [hc] at hu;refine Ua (J8 h hb hg g1 g2 g3 hw (J8 nP fy s0 s1 s2 s3 s4 (J8 s5 s6 s9 cK kp dX db (J2 bY hu)))) ?_;simp [qu]
  ·have hd:gu b k=none:=by
    unfold gu;rw [hg];simp only;rw [zA (by omega)]
   have g2:(b.length:Int)≤(un:Int):=by omega
   refine Ua (J5 h hb hg g2 hd) ?_;simp [qu,hd]
@[simp] theorem Ot (h:b.length≤1048576) (hb:aZ b):Gw TT 517 [.one (.ro k0 (.sl 1 (b.map eb))),vi k]=some (ic (gu b k),[]):=by
 refine Ga nU FG ?_;unfold FG;cases hg:gN b 0 with
 |none=>
  have hd:gu b k=none:=by unfold gu;rw [hg]
  refine Uw (J4 h hb hg hd) ?_;simp [nU,hd]
 |some q=>
  obtain ⟨n,u⟩:=q;obtain ⟨_,_,g6,ji,_⟩:=lL hb hg;obtain ⟨un,rfl⟩:=ze (show 0≤u by omega);by_cases gg:(un:Int)<(b.length:Int)
  ·by_cases q4:1≤k∧k≤64
   ·skip;have g1:un<b.length:=by omega
    have g2:¬(b.length:Int)≤(un:Int):=by omega
    have g3:(un:Int)<(b.length:Int):=by omega
    obtain ⟨w,hw⟩:∃w,b[un]?=some w:=⟨_,zi g1⟩;have nP:=(za.1 hw).2;have jj:=hb w (zm hw);have fy:IntKind.wrap .i64 w=w:=wrap_i64 (by omega) (by omega);have s0:IntKind.wrap .i64 ((un:Int)+1)=(un:Int)+1:=wrap_i64 (by omega) (by omega);have s1:(0:Int)≤(un:Int)+1:=by omega
    have s2:(un:Int)+1≤(b.length:Int):=by omega
    have s3:un+1≤b.length:=by omega
    have s4:((un:Int)+1).toNat=un+1:=by omega
    have hdr:=KO (k:=k) hg (by simpa using hw);rw [s4] at hdr;have s5:(b.drop (un+1)).length≤1048576:=by simp;omega
    have s6:=mq (un+1) hb;obtain ⟨B,hB⟩:∃B,B=b.drop (un+1):=⟨_,rfl⟩;rw [←hB] at hdr s5 s6;have s9:zz (un+1) (zg eb b)=zg eb B:=by rw [hB,zK]
    cases cK:eG B w k with
    |none=>
     rw [cK] at hdr;simp only at hdr
     have SE:∃r,Gw TT 545 [vi n,.one (.ro true (.sl 1 []))]=some (ic r,[]):=by
      have:=WE true n [] (by simp);exact ⟨_,by simpa using this⟩
     obtain ⟨r,Mu⟩:=SE;cases r with
     |none=>
      refine Uw (J8 h hb hg g1 g2 g3 hw (J8 nP fy s0 s1 s2 s3 s4 (J8 s5 s6 s9 q4.1 q4.2 cK Mu hdr))) ?_;simp [nU,hdr]
     |some r=>
      refine Uw (J8 h hb hg g1 g2 g3 hw (J8 nP fy s0 s1 s2 s3 s4 (J8 s5 s6 s9 q4.1 q4.2 cK Mu hdr))) ?_;simp [nU,hdr]
    |some p=>
     have bZ:=Bn cK;rw [cK] at hdr;simp only at hdr;have kp:p.length≤1048576:=by omega
     cases dX:jJ n p with
     |none=>
      rw [dX] at hdr;simp only at hdr;refine Uw (J8 h hb hg g1 g2 g3 hw (J8 nP fy s0 s1 s2 s3 s4 (J8 s5 s6 s9 q4.1 q4.2 cK kp (J2 dX hdr)))) ?_;simp [nU,hdr]
     |some l=>
      rw [dX] at hdr;simp only at hdr;obtain ⟨cI,db⟩:=NF dX;have bY:l.length≤1048576:=by omega
      have Dr:(l.length:Int)=k:=by omega
      have fx:=nq (xv l) hb;by_cases e3:fE l=b
      ·have e4:((strOf (fE l)).toList==(strOf b).toList)=true:=by rw [fx];simpa using e3
       have bp:gu b k=some l:=by rw [hdr];unfold cM;rw [if_pos ⟨q4,Dr,e3.symm⟩]
       refine Uw (J8 h hb hg g1 g2 g3 hw (J8 nP fy s0 s1 s2 s3 s4 (J8 s5 s6 s9 q4.1 q4.2 cK kp (J5 dX db bY e4 bp)))) ?_;simp [nU,bp]
      ·have e4:((strOf (fE l)).toList==(strOf b).toList)=false:=by rw [fx];simpa using e3
       have bp:gu b k=none:=by rw [hdr];unfold cM;rw [if_neg (fun e=>e3 e.2.2.symm)]
       refine Uw (J8 h hb hg g1 g2 g3 hw (J8 nP fy s0 s1 s2 s3 s4 (J8 s5 s6 s9 q4.1 q4.2 cK kp (J5 dX db bY e4 bp)))) ?_;simp [nU,bp]
   ·have hd:=P7 (b:=b) q4;have g2:¬(b.length:Int)≤(un:Int):=by omega
    refine Uw (J5 h hb hg g2 hd) ?_;repeat intro hc
    simp [nU,hd]
  ·have hd:gu b k=none:=by
    unfold gu;rw [hg];simp only;rw [zA (by omega)]
   have g2:(b.length:Int)≤(un:Int):=by omega
   refine Uw (J5 h hb hg g2 hd) ?_;simp [nU,hd]
@[simp] theorem adn (kd:Int) (l:List aa) (h:l.length≤1048576) (hs:aa.aq l):Gw TT 561 [vi kd,.one (.ro k1 (.sl 3 (l.map aa.e)))]=some (.one (.own (.sl 1 ((fY kd l).map eb))),[]):=by
 refine Ga rZ Gl ?_;unfold Gl;by_cases q0:kd=0
 ·subst q0;refine Uw (J2 h hs) ?_;simp [rZ,fY]
 ·by_cases q1:kd=1
  ·subst q1;refine Uw (J2 h hs) ?_;simp [rZ,fY]
  ·by_cases q2:kd=2
   ·subst q2;refine Uw (J2 h hs) ?_;simp [rZ,fY]
   ·by_cases q3:kd=3
    ·subst q3;refine Uw (J2 h hs) ?_;simp [rZ,fY]
    ·refine Uw (J4 q0 q1 q2 q3) ?_;repeat intro hc
     simp [rZ,fY,q0,q1,q2,q3]
@[simp] theorem ade (kd:Int) (l:List aa) (h:l.length≤1048576) (hs:aa.aq l):Gw TT 548 [vi kd,.one (.ro k1 (.sl 3 (l.map aa.e)))]=some (.one (.own (.sl 1 ((fY kd l).map eb))),[]):=by
 refine Ga rX F8 ?_;unfold F8;by_cases q0:kd=0
 ·subst q0;refine Uw (J2 h hs) ?_;simp [rX,fY]
 ·by_cases q1:kd=1
  ·subst q1;refine Uw (J2 h hs) ?_;simp [rX,fY]
  ·by_cases q2:kd=2
   ·subst q2;refine Uw (J2 h hs) ?_;simp [rX,fY]
   ·by_cases q3:kd=3
    ·subst q3;refine Uw (J2 h hs) ?_;simp [rX,fY]
    ·refine Uw (J4 q0 q1 q2 q3) ?_;repeat intro hc
     simp [rX,fY,q0,q1,q2,q3]
def bK (l:List aa):Nat→Int
 |0=>0
 |n+1=>if ((n:Int)+1≠3∨bG l=1)∧ca ((n:Int)+1) l<ca (bK l n) l then (n:Int)+1 else bK l n
theorem JX {l:List aa} (h:bG l≠0):eI l=bK l 3:=by
 have e1:bK l 1=if ca 1 l<ca 0 l then 1 else 0:=by simp [bK]
 have e2:bK l 2=if ca 2 l<ca (bK l 1) l then 2 else bK l 1:=by
  show (if (((1:Nat):Int)+1≠3∨bG l=1)∧ca (((1:Nat):Int)+1) l<ca (bK l 1) l then ((1:Nat):Int)+1 else bK l 1)=_;simp
 have e3:bK l 3=if bG l=1∧ca 3 l<ca (bK l 2) l then 3 else bK l 2:=by simp [bK]
 unfold eI;simp only [if_neg h];rw [e3,e2,e1]
@[simp] theorem adm (h:l.length≤1048576) (hs:aa.aq l):Gw TT 560 [.one (.ro k0 (.sl 3 (l.map aa.e)))]=some (vi (eI l),[]):=by
 refine Ga yZ Gk ?_;unfold Gk;by_cases q:bG l=0
 ·have hb:eI l=-1:=by unfold eI;simp [q]
  refine Uw (J4 h hs q hb) ?_;simp [yZ,hb]
 ·have hb:=JX q;have dx:=(kV q).2.2.2;refine Uw (J3 h hs q) ?_;repeat intro hc
  refine ba (σ:=Nat) (fun s=>[(0,AV.v k0 (D.sl 3 (l.map aa.e)),none),(3,AV.v false (di (bG l)),none),(4,AV.v false (di (bK l s)),none),(5,AV.v false (di ((s:Int)+1)),none)]) (fun s=>s≤3) (fun s=>3-s) 0 (by simp [bK]) (by omega) ?_;intro s SI;have hw:=Wi ((s:Int)+1+1);by_cases e:s=3
  ·subst e;unfold si;refine Uw hb ?_;simp [yZ,hb]
  ·have c1:(s:Int)+1≤3:=by omega
   have eg:bK l (s+1)=if ((s:Int)+1≠3∨bG l=1)∧ca ((s:Int)+1) l<ca (bK l s) l then (s:Int)+1 else bK l s:=rfl
   by_cases e2:s=2
   ·subst e2;simp only [show ((2:Nat):Int)+1=3 by rfl,ne_eq,not_true_eq_false,false_or] at eg;by_cases t1:bG l=1
    ·by_cases lt:ca 3 l<ca (bK l 2) l
     ·rw [if_pos ⟨t1,lt⟩] at eg;simp only [ca] at lt;unfold si;refine Uw (J5 h hs @t1 lt @ca.eq_1) ?_;exact ⟨3,(by simp [eg,t1,ca];try omega),by omega,by simp⟩
     ·rw [if_neg (fun e=>lt e.2)] at eg;simp only [ca] at lt;unfold si;refine Uw (J5 h hs @t1 lt @ca.eq_1) ?_;exact ⟨3,(by simp [eg,t1,ca];try omega),by omega,by simp⟩
    ·rw [if_neg (fun e=>t1 e.1)] at eg;unfold si;refine Uw (J4 h hs @t1 @ca.eq_1) ?_;repeat intro hc
     exact ⟨3,(by simp [eg,ca];try omega),by omega,by simp⟩
   ·have n3:¬(s:Int)+1=3:=by omega
    by_cases lt:ca ((s:Int)+1) l<ca (bK l s) l
    ·rw [if_pos ⟨.inl n3,lt⟩] at eg;simp only [ca] at lt;unfold si;refine Uw (J7 h hs c1 n3 hw lt @ca.eq_1) ?_;exact ⟨s+1,(by simp [eg,ca];try omega),by omega,by show 3-(s+1)<3-s;omega⟩
    ·rw [if_neg (fun e=>lt e.2)] at eg;simp only [ca] at lt;unfold si;refine Uw (J7 h hs c1 n3 hw lt @ca.eq_1) ?_;exact ⟨s+1,(by simp [eg,ca];try omega),by omega,by show 3-(s+1)<3-s;omega⟩
@[simp] theorem adb (h:l.length≤1048576) (hs:aa.aq l):Gw TT 547 [.one (.ro k0 (.sl 3 (l.map aa.e)))]=some (vi (eI l),[]):=by
 refine Ga yS F7 ?_;unfold F7;by_cases q:bG l=0
 ·have hb:eI l=-1:=by unfold eI;simp [q]
  refine Uw (J4 h hs q hb) ?_;simp [yS,hb]
 ·have hb:=JX q;have dx:=(kV q).2.2.2;refine Uw (J3 h hs q) ?_;repeat intro hc
  refine ba (σ:=Nat) (fun s=>[(0,AV.v k0 (D.sl 3 (l.map aa.e)),none),(3,AV.v false (di (bG l)),none),(4,AV.v false (di (bK l s)),none),(5,AV.v false (di (ca (bK l s) l)),none),(6,AV.v false (di ((s:Int)+1)),none)]) (fun s=>s≤3) (fun s=>3-s) 0 (by simp [bK,ca,fY]) (by omega) ?_;intro s SI;have hw:=Wi ((s:Int)+1+1);by_cases e:s=3
  ·subst e;unfold sg;refine Uw hb ?_;simp [yS,hb]
  ·have c1:(s:Int)+1≤3:=by omega
   have eg:bK l (s+1)=if ((s:Int)+1≠3∨bG l=1)∧ca ((s:Int)+1) l<ca (bK l s) l then (s:Int)+1 else bK l s:=rfl
   by_cases e2:s=2
   ·subst e2;simp only [show ((2:Nat):Int)+1=3 by rfl,ne_eq,not_true_eq_false,false_or] at eg;by_cases t1:bG l=1
    ·by_cases lt:ca 3 l<ca (bK l 2) l
     ·rw [if_pos ⟨t1,lt⟩] at eg;simp only [ca] at lt;unfold sg;refine Uw (J5 h hs @t1 lt @ca.eq_1) ?_;exact ⟨3,(by simp [eg,t1,ca];try omega),by omega,by simp⟩
     ·rw [if_neg (fun e=>lt e.2)] at eg;simp only [ca] at lt;unfold sg;refine Uw (J5 h hs @t1 lt @ca.eq_1) ?_;exact ⟨3,(by simp [eg,t1,ca];try omega),by omega,by simp⟩
    ·rw [if_neg (fun e=>t1 e.1)] at eg;unfold sg;refine Uw (J4 h hs @t1 @ca.eq_1) ?_;exact ⟨3,(by simp [eg,ca];try omega),by omega,by simp⟩
   ·have n3:¬(s:Int)+1=3:=by omega
    by_cases lt:ca ((s:Int)+1) l<ca (bK l s) l
    ·rw [if_pos ⟨.inl n3,lt⟩] at eg;simp only [ca] at lt;unfold sg;refine Uw (J7 h hs c1 n3 hw lt @ca.eq_1) ?_;exact ⟨s+1,(by simp [eg,ca];try omega),by omega,by show 3-(s+1)<3-s;omega⟩
    ·rw [if_neg (fun e=>lt e.2)] at eg;simp only [ca] at lt;unfold sg;refine Uw (J7 h hs c1 n3 hw lt @ca.eq_1) ?_;exact ⟨s+1,(by simp [eg,ca];try omega),by omega,by show 3-(s+1)<3-s;omega⟩
@[simp] theorem ac2 (h:l.length≤1048576) (hs:aa.aq l):Gw TT 528 [.one (.ro k0 (.sl 3 (l.map aa.e)))]=some (.one (.own (.sl 1 ((bP l).map eb))),[]):=by
 refine Ga yL FR ?_;unfold FR;have hr:=BN l;by_cases q:eI l<0
 ·have he:bP l=[]:=by simp [bP,q]
  refine Ua (J4 h hs q he) ?_;simp [yL,he]
 ·have he:bP l=eI l::fY (eI l) l:=by simp [bP,q]
  have hu:IntKind.wrap .u8 (eI l)=eI l:=wrap_u8 (by omega) (by omega);have hl:=Co (eI l) l;obtain ⟨E,hE⟩:∃E,E=fY (eI l) l:=⟨_,rfl⟩;rw [←hE] at he hl;have r1:(1+E.length)*1≤70368744177664:=by omega
  have r2:1+E.length≤70368744177664:=by omega
  repeat' first|refine Zs ?_|((with_reducible refine Xk fun K k=>?_);simp [h,hs,q,hu,←hE,r1,r2];refine k _ ?_;clear k K)|refine Xt rfl ?_|refine Xf rfl ?_
  simp [yL,he]
@[simp] theorem acZ (h:l.length≤1048576) (hs:aa.aq l):Gw TT 519 [.one (.ro k0 (.sl 3 (l.map aa.e)))]=some (.one (.own (.sl 1 ((bP l).map eb))),[]):=by
 refine Ga yJ FI ?_;unfold FI;have hr:=BN l;by_cases q:eI l<0
 ·have he:bP l=[]:=by simp [bP,q]
  refine Ua (J4 h hs q he) ?_;simp [yJ,he]
 ·have he:bP l=eI l::fY (eI l) l:=by simp [bP,q]
  have hu:IntKind.wrap .u8 (eI l)=eI l:=wrap_u8 (by omega) (by omega);have hl:=Co (eI l) l;obtain ⟨E,hE⟩:∃E,E=fY (eI l) l:=⟨_,rfl⟩;rw [←hE] at he hl;have r1:(1+E.length)*1≤70368744177664:=by omega
  have r2:1+E.length≤70368744177664:=by omega
  repeat' first|refine Zs ?_|((with_reducible refine Xk fun K k=>?_);simp [h,hs,q,hu,←hE,r1,r2];refine k _ ?_;clear k K)|refine Xt rfl ?_|refine Xf rfl ?_
  simp [yJ,he]
theorem P_ {b:List Int} {ty k:Int} {l:List aa} (hb:aZ b) (h:iw b ty k=some l):aa.aq l:=by
 unfold iw at h;split at h
 ·split at h
  ·rename_i hg;split at h
   ·simp at h;subst h;exact (uI hb (Zl _) (by omega) hg).1
   ·cases h
  ·cases h
 ·cases h
theorem Bm {l:List aa} (h:bG l≠0):aa.aq l:=fun v hv=>by
 have:=wO h v hv;simp only [aa.sm];omega
theorem Cp {E:List aa→List Int} {b:List Int} {k:Int} {l l':List aa} (h0:bG l=0→E l=[]) (hb:b≠[]) (h:cM b k E l=some l'):bG l'≠0:=by
 obtain ⟨rfl,_,_,he⟩:=uz h;intro e;exact hb (he.trans (h0 e))
theorem CB {b:List Int} {n t:Int} (h:gN b 0=some (n,t)):b≠[]:=by
 intro e;subst e;unfold gN at h;rw [if_neg (by simp)] at h;cases h
theorem pQ {kd:Int} {b:List Int} {ty k:Int} {l:List aa} (hb:aZ b) (h:en kd b ty k=some l):aa.aq l:=by
 unfold en at h;split at h
 ·exact P_ hb h
 split at h
 ·unfold eP at h;split at h
  ·rename_i hg;split at h
   ·split at h
    ·exact Bm (Cp (fun e=>by simp [ft,e]) (CB hg) h)
    ·cases h
   ·cases h
  ·cases h
 split at h
 ·unfold gP ju at h;split at h
  ·rename_i hg;split at h
   ·split at h
    ·split at h
     ·split at h
      ·exact Bm (Cp (fun e=>by simp [eJ,e]) (CB hg) h)
      ·cases h
     ·cases h
    ·cases h
   ·cases h
  ·cases h
 split at h
 ·unfold gu at h;split at h
  ·rename_i hg;split at h
   ·split at h
    ·split at h
     ·exact Bm (Cp (fun e=>by simp [fE,e]) (CB hg) h)
     ·cases h
    ·cases h
   ·cases h
  ·cases h
 cases h
theorem Wx (h:b.length≤1048576) (hb:aZ b) (dx:ty=1∨ty=2) (hk:1≤k∧k≤64):Gw TT 496 [.one (.ro k0 (.sl 1 (b.map eb))),vi ty,vi k]=some (ic (cV b ty k),[]):=by
 refine Ga ik Fw ?_;unfold Fw;have iT:(1:Int)≤ty:=by omega
 have iU:ty≤2:=by omega
 have mY:¬0=ty:=by omega
 have kf:=Oz true [] (by simp) (fun v hv=>by simp at hv);have mZ:=Oz false [] (by simp) (fun v hv=>by simp at hv);simp only [zG,bG] at kf mZ;rcases b with _|⟨c,r⟩
 ·have hD:cV [] ty k=none:=rfl;refine Uw hD ?_;simp [ik,hD]
 ·obtain ⟨b,iz⟩:∃b,b=c::r:=⟨_,rfl⟩
  have dq:cV b ty k=match en c r ty k with
   |some l=>if bG l=ty∧b=bP l then some l else none
   |none=>none:=by rw [iz];try rfl
  rw [←iz] at h hb ⊢;have cR:b[0]?=some c:=by rw [iz];try rfl
  obtain ⟨dc,dt⟩:=za.1 cR;have hn:¬(b.length:Int)=0:=by omega
  have cX:b≠[]:=by rw [iz];simp
  have dB:((b.length:Int)==0)=false:=by simpa using cX
  have bO:aZ r:=fun x hx=>hb x (by rw [iz];simp [hx])
  have oF:b.length=r.length+1:=by rw [iz];try rfl
  have cD:r.length≤1048576:=by omega
  have dZ:=hb c (by rw [iz];simp);have s0:IntKind.wrap .i64 c=c:=wrap_i64 (by omega) (by omega);have s1:(1:Int)≤(b.length:Int):=by omega
  have s2:1≤b.length:=by omega
  have s3:(0:Int)<(b.length:Int):=by omega
  have s9:zz 1 (zg eb b)=zg eb r:=by rw [iz];try rfl
  by_cases n0:c=0
  ·subst n0;cases hd:iw r ty k with
   |none=>
    have hD:cV b ty k=none:=by rw [dq];simp only [en];simp [hd]
    have hx:=Ov k0 r ty k cD bO;rw [hd] at hx;refine Uw (J8 s0 s1 s2 s3 s9 cD bO (J8 dZ cR dc dt hn cX dB (J4 hx mY kf hD))) ?_;repeat intro hc
    simp [ik,hD]
   |some l=>
    have cH:en 0 r ty k=some l:=by simp only [en];simpa using hd
    have db:=pQ bO cH;have cI:=oA bO cH;have bY:l.length≤1048576:=by omega
    have hx:=Ov k0 r ty k cD bO;rw [hd] at hx;by_cases e1:bG l=ty
    ·obtain ⟨us,hu⟩:=nt k0 true b k l bP hb (oC l)
     have hc:cV b ty k=cM b k bP l:=by
      rw [dq,cH];simp only;unfold cM;by_cases e2:b=bP l
      ·rw [if_pos ⟨e1,e2⟩,if_pos ⟨hk,cI,e2⟩]
      ·rw [if_neg (fun e=>e2 e.2),if_neg (fun e=>e2 e.2.2)]
     rw [hc];cases dG:cM b k bP l with
     |none=>
      rw [dG] at hu;refine Uw (J8 s0 s1 s2 s3 s9 cD bO (J8 dZ cR dc dt hn cX dB (J5 hx db bY e1 hu))) ?_;simp [ik]
     |some l'=>
      rw [dG] at hu;refine Uw (J8 s0 s1 s2 s3 s9 cD bO (J8 dZ cR dc dt hn cX dB (J5 hx db bY e1 hu))) ?_;simp [ik]
    ·have hD:cV b ty k=none:=by rw [dq,cH];simp only;rw [if_neg (fun e=>e1 e.1)]
     refine Uw (J8 s0 s1 s2 s3 s9 cD bO (J8 dZ cR dc dt hn cX dB (J5 hx db bY e1 hD))) ?_;repeat intro hc
     simp [ik,hD]
  ·skip;by_cases n1:c=1
   ·subst n1;cases hd:eP r ty k with
    |none=>
     have hD:cV b ty k=none:=by rw [dq];simp only [en];simp [hd]
     have hx:=Ow k0 r ty k cD bO;rw [hd] at hx;refine Uw (J8 s0 s1 s2 s3 s9 cD bO (J8 dZ cR dc dt hn cX dB (J4 hx mY kf hD))) ?_;repeat intro hc
     simp [ik,hD]
    |some l=>
     have cH:en 1 r ty k=some l:=by simp only [en];simpa using hd
     have db:=pQ bO cH;have cI:=oA bO cH;have bY:l.length≤1048576:=by omega
     have hx:=Ow k0 r ty k cD bO;rw [hd] at hx;by_cases e1:bG l=ty
     ·obtain ⟨us,hu⟩:=nt k0 true b k l bP hb (oC l)
      have hc:cV b ty k=cM b k bP l:=by
       rw [dq,cH];simp only;unfold cM;by_cases e2:b=bP l
       ·rw [if_pos ⟨e1,e2⟩,if_pos ⟨hk,cI,e2⟩]
       ·rw [if_neg (fun e=>e2 e.2),if_neg (fun e=>e2 e.2.2)]
      rw [hc];cases dG:cM b k bP l with
      |none=>
       rw [dG] at hu;refine Uw (J8 s0 s1 s2 s3 s9 cD bO (J8 dZ cR dc dt hn cX dB (J5 hx db bY e1 hu))) ?_;simp [ik]
      |some l'=>
       rw [dG] at hu;refine Uw (J8 s0 s1 s2 s3 s9 cD bO (J8 dZ cR dc dt hn cX dB (J5 hx db bY e1 hu))) ?_;simp [ik]
     ·have hD:cV b ty k=none:=by rw [dq,cH];simp only;rw [if_neg (fun e=>e1 e.1)]
      refine Uw (J8 s0 s1 s2 s3 s9 cD bO (J8 dZ cR dc dt hn cX dB (J5 hx db bY e1 hD))) ?_;repeat intro hc
      simp [ik,hD]
   ·skip;by_cases n2:c=2
    ·subst n2;cases hd:gP r ty k with
     |none=>
      have hD:cV b ty k=none:=by rw [dq];simp only [en];simp [hd]
      have hx:=Ox k0 r ty k cD bO;rw [hd] at hx;refine Uw (J8 s0 s1 s2 s3 s9 cD bO (J8 dZ cR dc dt hn cX dB (J4 hx mY kf hD))) ?_;repeat intro hc
      simp [ik,hD]
     |some l=>
      have cH:en 2 r ty k=some l:=by simp only [en];simpa using hd
      have db:=pQ bO cH;have cI:=oA bO cH;have bY:l.length≤1048576:=by omega
      have hx:=Ox k0 r ty k cD bO;rw [hd] at hx;by_cases e1:bG l=ty
      ·obtain ⟨us,hu⟩:=nt k0 true b k l bP hb (oC l)
       have hc:cV b ty k=cM b k bP l:=by
        rw [dq,cH];simp only;unfold cM;by_cases e2:b=bP l
        ·rw [if_pos ⟨e1,e2⟩,if_pos ⟨hk,cI,e2⟩]
        ·rw [if_neg (fun e=>e2 e.2),if_neg (fun e=>e2 e.2.2)]
       rw [hc];cases dG:cM b k bP l with
       |none=>
        rw [dG] at hu;refine Uw (J8 s0 s1 s2 s3 s9 cD bO (J8 dZ cR dc dt hn cX dB (J5 hx db bY e1 hu))) ?_;simp [ik]
       |some l'=>
        rw [dG] at hu;refine Uw (J8 s0 s1 s2 s3 s9 cD bO (J8 dZ cR dc dt hn cX dB (J5 hx db bY e1 hu))) ?_;simp [ik]
      ·have hD:cV b ty k=none:=by rw [dq,cH];simp only;rw [if_neg (fun e=>e1 e.1)]
       refine Uw (J8 s0 s1 s2 s3 s9 cD bO (J8 dZ cR dc dt hn cX dB (J5 hx db bY e1 hD))) ?_;repeat intro hc
       simp [ik,hD]
    ·skip;by_cases n3:c=3
     ·subst n3;cases hd:gu r k with
      |none=>
       have hD:cV b ty k=none:=by rw [dq];simp only [en];simp [hd]
       have hx:=Oy k0 r k cD bO;rw [hd] at hx;refine Uw (J8 s0 s1 s2 s3 s9 cD bO (J8 dZ cR dc dt hn cX dB (J4 hx mY kf hD))) ?_;repeat intro hc
       simp [ik,hD]
      |some l=>
       have cH:en 3 r ty k=some l:=by simp only [en];simpa using hd
       have db:=pQ bO cH;have cI:=oA bO cH;have bY:l.length≤1048576:=by omega
       have hx:=Oy k0 r k cD bO;rw [hd] at hx;by_cases e1:bG l=ty
       ·obtain ⟨us,hu⟩:=nt k0 true b k l bP hb (oC l)
        have hc:cV b ty k=cM b k bP l:=by
         rw [dq,cH];simp only;unfold cM;by_cases e2:b=bP l
         ·rw [if_pos ⟨e1,e2⟩,if_pos ⟨hk,cI,e2⟩]
         ·rw [if_neg (fun e=>e2 e.2),if_neg (fun e=>e2 e.2.2)]
        rw [hc];cases dG:cM b k bP l with
        |none=>
         rw [dG] at hu;refine Uw (J8 s0 s1 s2 s3 s9 cD bO (J8 dZ cR dc dt hn cX dB (J5 hx db bY e1 hu))) ?_;simp [ik]
        |some l'=>
         rw [dG] at hu;refine Uw (J8 s0 s1 s2 s3 s9 cD bO (J8 dZ cR dc dt hn cX dB (J5 hx db bY e1 hu))) ?_;simp [ik]
       ·have hD:cV b ty k=none:=by rw [dq,cH];simp only;rw [if_neg (fun e=>e1 e.1)]
        refine Uw (J8 s0 s1 s2 s3 s9 cD bO (J8 dZ cR dc dt hn cX dB (J5 hx db bY e1 hD))) ?_;repeat intro hc
        simp [ik,hD]
     ·skip;have hD:cV b ty k=none:=by rw [dq];unfold en;rw [if_neg n0,if_neg n1,if_neg n2,if_neg n3]
      refine Uw (J8 s0 s1 s2 s3 s9 cD bO (J8 dZ cR dc dt hn cX dB (J8 n0 n1 n2 n3 mY mZ kf hD))) ?_;repeat intro hc
      simp [ik,hD]
theorem Wv (h:b.length≤1048576) (hb:aZ b) (dx:ty=1∨ty=2) (hk:1≤k∧k≤64):Gw TT 492 [.one (.ro k0 (.sl 1 (b.map eb))),vi ty,vi k]=some (ic (cV b ty k),[]):=by
 refine Ga ij Fs ?_;unfold Fs;have iT:(1:Int)≤ty:=by omega
 have iU:ty≤2:=by omega
 have mY:¬0=ty:=by omega
 have kf:=Ou true [] (by simp) (fun v hv=>by simp at hv);have mZ:=Ou false [] (by simp) (fun v hv=>by simp at hv);simp only [zG,bG] at kf mZ;rcases b with _|⟨c,r⟩
 ·have hD:cV [] ty k=none:=rfl;refine Uw hD ?_;simp [ij,hD]
 ·obtain ⟨b,iz⟩:∃b,b=c::r:=⟨_,rfl⟩
  have dq:cV b ty k=match en c r ty k with
   |some l=>if bG l=ty∧b=bP l then some l else none
   |none=>none:=by rw [iz];try rfl
  rw [←iz] at h hb ⊢;have cR:b[0]?=some c:=by rw [iz];try rfl
  obtain ⟨dc,dt⟩:=za.1 cR;have hn:¬(b.length:Int)=0:=by omega
  have cX:b≠[]:=by rw [iz];simp
  have dB:((b.length:Int)==0)=false:=by simpa using cX
  have bO:aZ r:=fun x hx=>hb x (by rw [iz];simp [hx])
  have oF:b.length=r.length+1:=by rw [iz];try rfl
  have cD:r.length≤1048576:=by omega
  have dZ:=hb c (by rw [iz];simp);have s0:IntKind.wrap .i64 c=c:=wrap_i64 (by omega) (by omega);have s1:(1:Int)≤(b.length:Int):=by omega
  have s2:1≤b.length:=by omega
  have s3:(0:Int)<(b.length:Int):=by omega
  have s9:zz 1 (zg eb b)=zg eb r:=by rw [iz];try rfl
  by_cases n0:c=0
  ·subst n0;cases hd:iw r ty k with
   |none=>
    have hD:cV b ty k=none:=by rw [dq];simp only [en];simp [hd]
    have hx:=Om k0 r ty k cD bO;rw [hd] at hx;refine Uw (J8 s0 s1 s2 s3 s9 cD bO (J8 dZ cR dc dt hn cX dB (J6 iT iU hx mY kf hD))) ?_;simp [ij,hD]
   |some l=>
    have cH:en 0 r ty k=some l:=by simp only [en];simpa using hd
    have db:=pQ bO cH;have cI:=oA bO cH;have bY:l.length≤1048576:=by omega
    have hx:=Om k0 r ty k cD bO;rw [hd] at hx;by_cases e1:bG l=ty
    ·have fx:=nq (oC l) hb;by_cases e2:b=bP l
     ·have hD:cV b ty k=some l:=by rw [dq,cH];simp only;rw [if_pos ⟨e1,e2⟩]
      have e4:((strOf (bP l)).toList==(strOf b).toList)=true:=by rw [fx];simpa using e2.symm
      refine Uw (J8 s0 s1 s2 s3 s9 cD bO (J8 dZ cR dc dt hn cX dB (J8 iT iU hx db bY e1 e4 hD))) ?_;simp [ij,hD]
     ·have hD:cV b ty k=none:=by rw [dq,cH];simp only;rw [if_neg (fun e=>e2 e.2)]
      have e4:((strOf (bP l)).toList==(strOf b).toList)=false:=by rw [fx];simpa using fun e=>e2 e.symm
      refine Uw (J8 s0 s1 s2 s3 s9 cD bO (J8 dZ cR dc dt hn cX dB (J8 iT iU hx db bY e1 e4 hD))) ?_;simp [ij,hD]
    ·have hD:cV b ty k=none:=by rw [dq,cH];simp only;rw [if_neg (fun e=>e1 e.1)]
     refine Uw (J8 s0 s1 s2 s3 s9 cD bO (J8 dZ cR dc dt hn cX dB (J7 iT iU hx db bY e1 hD))) ?_;simp [ij,hD]
  ·skip;by_cases n1:c=1
   ·subst n1;cases hd:eP r ty k with
    |none=>
     have hD:cV b ty k=none:=by rw [dq];simp only [en];simp [hd]
     have hx:=On k0 r ty k cD bO;rw [hd] at hx;refine Uw (J8 s0 s1 s2 s3 s9 cD bO (J8 dZ cR dc dt hn cX dB (J6 iT iU hx mY kf hD))) ?_;simp [ij,hD]
    |some l=>
     have cH:en 1 r ty k=some l:=by simp only [en];simpa using hd
     have db:=pQ bO cH;have cI:=oA bO cH;have bY:l.length≤1048576:=by omega
     have hx:=On k0 r ty k cD bO;rw [hd] at hx;by_cases e1:bG l=ty
     ·have fx:=nq (oC l) hb;by_cases e2:b=bP l
      ·have hD:cV b ty k=some l:=by rw [dq,cH];simp only;rw [if_pos ⟨e1,e2⟩]
       have e4:((strOf (bP l)).toList==(strOf b).toList)=true:=by rw [fx];simpa using e2.symm
       refine Uw (J8 s0 s1 s2 s3 s9 cD bO (J8 dZ cR dc dt hn cX dB (J8 iT iU hx db bY e1 e4 hD))) ?_;simp [ij,hD]
      ·have hD:cV b ty k=none:=by rw [dq,cH];simp only;rw [if_neg (fun e=>e2 e.2)]
       have e4:((strOf (bP l)).toList==(strOf b).toList)=false:=by rw [fx];simpa using fun e=>e2 e.symm
       refine Uw (J8 s0 s1 s2 s3 s9 cD bO (J8 dZ cR dc dt hn cX dB (J8 iT iU hx db bY e1 e4 hD))) ?_;simp [ij,hD]
     ·have hD:cV b ty k=none:=by rw [dq,cH];simp only;rw [if_neg (fun e=>e1 e.1)]
      refine Uw (J8 s0 s1 s2 s3 s9 cD bO (J8 dZ cR dc dt hn cX dB (J7 iT iU hx db bY e1 hD))) ?_;simp [ij,hD]
   ·skip;by_cases n2:c=2
    ·subst n2;cases hd:gP r ty k with
     |none=>
      have hD:cV b ty k=none:=by rw [dq];simp only [en];simp [hd]
      have hx:=Oq k0 r ty k cD bO;rw [hd] at hx;refine Uw (J8 s0 s1 s2 s3 s9 cD bO (J8 dZ cR dc dt hn cX dB (J6 iT iU hx mY kf hD))) ?_;simp [ij,hD]
     |some l=>
      have cH:en 2 r ty k=some l:=by simp only [en];simpa using hd
      have db:=pQ bO cH;have cI:=oA bO cH;have bY:l.length≤1048576:=by omega
      have hx:=Oq k0 r ty k cD bO;rw [hd] at hx;by_cases e1:bG l=ty
      ·have fx:=nq (oC l) hb;by_cases e2:b=bP l
       ·have hD:cV b ty k=some l:=by rw [dq,cH];simp only;rw [if_pos ⟨e1,e2⟩]
        have e4:((strOf (bP l)).toList==(strOf b).toList)=true:=by rw [fx];simpa using e2.symm
        refine Uw (J8 s0 s1 s2 s3 s9 cD bO (J8 dZ cR dc dt hn cX dB (J8 iT iU hx db bY e1 e4 hD))) ?_;simp [ij,hD]
       ·have hD:cV b ty k=none:=by rw [dq,cH];simp only;rw [if_neg (fun e=>e2 e.2)]
        have e4:((strOf (bP l)).toList==(strOf b).toList)=false:=by rw [fx];simpa using fun e=>e2 e.symm
        refine Uw (J8 s0 s1 s2 s3 s9 cD bO (J8 dZ cR dc dt hn cX dB (J8 iT iU hx db bY e1 e4 hD))) ?_;simp [ij,hD]
      ·have hD:cV b ty k=none:=by rw [dq,cH];simp only;rw [if_neg (fun e=>e1 e.1)]
       refine Uw (J8 s0 s1 s2 s3 s9 cD bO (J8 dZ cR dc dt hn cX dB (J7 iT iU hx db bY e1 hD))) ?_;simp [ij,hD]
    ·skip;by_cases n3:c=3
     ·subst n3;cases hd:gu r k with
      |none=>
       have hD:cV b ty k=none:=by rw [dq];simp only [en];simp [hd]
       have hx:=Ot k0 r k cD bO;rw [hd] at hx;refine Uw (J8 s0 s1 s2 s3 s9 cD bO (J8 dZ cR dc dt hn cX dB (J6 iT iU hx mY kf hD))) ?_;simp [ij,hD]
      |some l=>
       have cH:en 3 r ty k=some l:=by simp only [en];simpa using hd
       have db:=pQ bO cH;have cI:=oA bO cH;have bY:l.length≤1048576:=by omega
       have hx:=Ot k0 r k cD bO;rw [hd] at hx;by_cases e1:bG l=ty
       ·have fx:=nq (oC l) hb;by_cases e2:b=bP l
        ·have hD:cV b ty k=some l:=by rw [dq,cH];simp only;rw [if_pos ⟨e1,e2⟩]
         have e4:((strOf (bP l)).toList==(strOf b).toList)=true:=by rw [fx];simpa using e2.symm
         refine Uw (J8 s0 s1 s2 s3 s9 cD bO (J8 dZ cR dc dt hn cX dB (J8 iT iU hx db bY e1 e4 hD))) ?_;simp [ij,hD]
        ·have hD:cV b ty k=none:=by rw [dq,cH];simp only;rw [if_neg (fun e=>e2 e.2)]
         have e4:((strOf (bP l)).toList==(strOf b).toList)=false:=by rw [fx];simpa using fun e=>e2 e.symm
         refine Uw (J8 s0 s1 s2 s3 s9 cD bO (J8 dZ cR dc dt hn cX dB (J8 iT iU hx db bY e1 e4 hD))) ?_;simp [ij,hD]
       ·have hD:cV b ty k=none:=by rw [dq,cH];simp only;rw [if_neg (fun e=>e1 e.1)]
        refine Uw (J8 s0 s1 s2 s3 s9 cD bO (J8 dZ cR dc dt hn cX dB (J7 iT iU hx db bY e1 hD))) ?_;simp [ij,hD]
     ·skip;have hD:cV b ty k=none:=by rw [dq];unfold en;rw [if_neg n0,if_neg n1,if_neg n2,if_neg n3]
      refine Uw (J8 s0 s1 s2 s3 s9 cD bO (J8 dZ cR dc dt hn cX dB (J8 iT iU n0 n1 n2 n3 mY (J3 mZ kf hD)))) ?_;repeat intro hc
      simp [ij,hD]
def jX (l:List Int):List Int:=bw (l.length:Int)++l.flatMap bw
theorem M5 {b:List Int} (hb:aZ b):∀{k:Nat} {u t:Int} {l:List Int},0≤u→u≤(b.length:Int)→jm b k u=some (l,t)→
 l.length=k∧(∀n∈l,-1000000000≤n∧n≤1000000000)∧u≤t∧t≤(b.length:Int)∧b.drop u.toNat=l.flatMap bw++b.drop t.toNat
 |0,u,t,l,h0,h1,h=>by
  simp only [jm,zk,zr] at h;obtain ⟨rfl,rfl⟩:=h;exact ⟨rfl,by simp,by omega,h1,by simp⟩
 |k+1,u,t,l,h0,h1,h=>by
  simp only [jm] at h;split at h
  ·rename_i n t1 hv;split at h
   ·rename_i l' t2 hl;simp only [zk,zr] at h;obtain ⟨rfl,rfl⟩:=h;obtain ⟨a1,a2,a3,a4,a5⟩:=lL hb hv;obtain ⟨b1,b2,b3,b4,b5⟩:=M5 hb (by omega) a4 hl;refine ⟨by simp [b1],fun x hx=>?_,by omega,b4,?_⟩
    ·rcases zj.1 hx with rfl|hx
     ·exact a1
     ·exact b2 x hx
    ·rw [a5,b5];simp
   ·cases h
  ·cases h
theorem xy {b:List Int} (hb:aZ b) {l:List Int} {t:Int} (h:fh b 0=some (l,t)):
 l.length≤64∧(∀n∈l,-1000000000≤n∧n≤1000000000)∧0≤t∧t≤(b.length:Int)∧b=jX l++b.drop t.toNat:=by
 unfold fh at h;split at h
 ·rename_i k u hg;split at h
  ·rename_i hk;obtain ⟨a1,a2,a3,a4,a5⟩:=lL hb hg;obtain ⟨b1,b2,b3,b4,b5⟩:=M5 hb (by omega) a4 h;refine ⟨by omega,b2,by omega,b4,?_⟩;simp only [Zc,Zd] at a5;have e:(l.length:Int)=k:=by omega
   rw [jX,e,zx,←b5];exact a5
  ·cases h
 ·cases h
def ct (k:Nat) (l:List ao):List aa:=l.filterMap fun r=>r.L[k]?
def fo:List ao→List aa→List ao
 |r::rows,v::vs=>⟨r.Id,r.L++[v]⟩::fo rows vs
 |_,_=>[]
def lE (j:Nat) (l:List ao):Prop:=∀r∈l,r.L.length=j
theorem ui:∀{rows:List ao} {vs:List aa},rows.length=vs.length→(fo rows vs).length=rows.length
 |[],[],_=>rfl
 |[],_::_,h=>by simp at h
 |_::_,[],h=>by simp at h
 |r::rows,v::vs,h=>by simp only [fo,zd,ui (rows:=rows) (vs:=vs) (by simpa using h)]
theorem JN:∀{rows:List ao} {vs:List aa},rows.length=vs.length→(fo rows vs).map (·.Id)=rows.map (·.Id)
 |[],[],_=>rfl
 |[],_::_,h=>by simp at h
 |_::_,[],h=>by simp at h
 |r::rows,v::vs,h=>by simp only [fo,List.map_cons,JN (rows:=rows) (vs:=vs) (by simpa using h)]
theorem wX {j:Nat}:∀{rows:List ao} {vs:List aa},lE j rows→lE (j+1) (fo rows vs)
 |[],_,_=>fun r hr=>by simp [fo] at hr
 |_::_,[],_=>fun r hr=>by simp [fo] at hr
 |r::rows,v::vs,h=>fun x hx=>by
  simp only [fo] at hx;rcases zj.1 hx with rfl|hx
  ·have:=h r (by simp);simp [this]
  ·exact wX (rows:=rows) (vs:=vs) (fun y hy=>h y (by simp [hy])) x hx
theorem JM {j:Nat}:∀{rows:List ao} {vs:List aa},rows.length=vs.length→lE j rows→ct j (fo rows vs)=vs
 |[],[],_,_=>rfl
 |[],_::_,h,_=>by simp at h
 |_::_,[],h,_=>by simp at h
 |r::rows,v::vs,h,ha=>by
  have h1:=ha r (by simp);have ih:=JM (rows:=rows) (vs:=vs) (by simpa using h) (fun y hy=>ha y (by simp [hy]));simp only [ct] at ih;simp only [ct,fo];rw [z_ (b:=v) (by simp [←h1])];rw [ih]
theorem JP {j k:Nat} (hk:k<j):∀{rows:List ao} {vs:List aa},rows.length=vs.length→lE j rows→ct k (fo rows vs)=ct k rows
 |[],[],_,_=>rfl
 |[],_::_,h,_=>by simp at h
 |_::_,[],h,_=>by simp at h
 |r::rows,v::vs,h,ha=>by
  have h1:=ha r (by simp);have ih:=JP hk (rows:=rows) (vs:=vs) (by simpa using h) (fun y hy=>ha y (by simp [hy]));simp only [ct] at ih;simp only [ct,fo,Zh];rw [ih,zW (by omega)]
def gF (b:List Int) (u n:Int):List Int:=(b.take (u+n).toNat).drop u.toNat
def iO (b:List Int) (m:Int):List Int→Int→List ao→Option (List ao×Int)
 |[],u,rows=>some (rows,u)
 |ty::cs,u,rows=>match gN b u with
  |some (n,t)=>if 0≤n∧n≤(b.length:Int)-t then (match cV (gF b t n) ty m with
   |some vs=>iO b m cs (t+n) (fo rows vs)
   |none=>none) else none
  |none=>none
def pP (rows:List ao):Nat→Nat→List Int
 |0,_=>[]
 |n+1,j=>bw ((bP (ct j rows)).length:Int)++bP (ct j rows)++pP rows n (j+1)
theorem VW {b:List Int} {u n:Int} (h0:0≤u) (h1:0≤n) (h2:n≤(b.length:Int)-u):((gF b u n).length:Int)=n:=by
 simp only [gF,zy,zT];omega
theorem VV {b:List Int} {u n:Int} (h0:0≤u) (h1:0≤n):b.drop u.toNat=gF b u n++b.drop (u+n).toNat:=by
 have e:(u+n).toNat=u.toNat+n.toNat:=by omega
 rw [gF,e,←Zb,List.drop_take];rw [show u.toNat+n.toNat-u.toNat=n.toNat by omega];exact (Ze _ _).symm
theorem CC {b:List Int} {m:Int} (hb:aZ b):∀{cs:List Int} {u t:Int} {rows pA:List ao} {j:Nat},0≤u→u≤(b.length:Int)→(rows.length:Int)=m→lE j rows→
 iO b m cs u rows=some (pA,t)→
 pA.length=rows.length∧pA.map (·.Id)=rows.map (·.Id)∧lE (j+cs.length) pA∧(∀i,i<j→ct i pA=ct i rows)∧u≤t∧t≤(b.length:Int)∧
  b.drop u.toNat=pP pA cs.length j++b.drop t.toNat
 |[],u,t,rows,pA,j,h0,h1,hm,ha,h=>by
  simp only [iO,zk,zr] at h;obtain ⟨rfl,rfl⟩:=h;exact ⟨rfl,rfl,by simpa using ha,fun _ _=>rfl,by omega,h1,by simp [pP]⟩
 |ty::cs,u,t,rows,pA,j,h0,h1,hm,ha,h=>by
  simp only [iO] at h;split at h
  ·rename_i n w hg;split at h
   ·rename_i hn;split at h
    ·rename_i vs hd;obtain ⟨a1,a2,a3,a4,a5⟩:=lL hb hg;have fa:aZ (gF b w n):=mq _ (sM _ hb);obtain ⟨d1,d2,d3⟩:=xo fa hd;have hl:rows.length=vs.length:=by omega
     obtain ⟨e1,e2,e3,e4,e5,e6,e7⟩:=CC hb (cs:=cs) (j:=j+1) (by omega) (by omega) (by rw [ui hl];exact hm) (wX ha) h;have hc:ct j pA=vs:=by rw [e4 j (by omega),JM hl ha]
     refine ⟨e1.trans (ui hl),e2.trans (JN hl),?_,fun i hi=>?_,by omega,e6,?_⟩
     ·rw [zd,show j+(cs.length+1)=j+1+cs.length by omega];exact e3
     ·rw [e4 i (by omega),JP hi hl ha]
     ·have iD:=VW (b:=b) (u:=w) (n:=n) (by omega) hn.1 hn.2;simp only [zd,pP];rw [hc,←d3,iD,a5,VV (u:=w) (n:=n) (by omega) hn.1,e7];simp [zx]
    ·cases h
   ·cases h
  ·cases h
def l8 (ab:List Int) (r:ao):Bool:=decide (0≤r.Id)&&jv ab r.L
def wE:Option Int→Int→Bool
 |some q,i=>decide (q<i)
 |none,_=>true
def kq (ab:List Int):Option Int→List ao→Bool
 |_,[]=>true
 |p,r::l=>if l8 ab r=true∧r.Id≤1000000000∧wE p r.Id=true then kq ab (some r.Id) l else false
def eo (ab:List Int) (l:List ao):Bool:=gp ab&&(decide (l.length≤12)&&kq ab none l)
theorem NR {ab:List Int}:∀{l:List ao} {p:Option Int},kq ab p l=true→∀r∈l,0≤r.Id∧r.Id≤1000000000
 |[],_,_,r,hr=>by simp at hr
 |x::l,p,h,r,hr=>by
  simp only [kq] at h;split at h
  ·rename_i hx;rcases zj.1 hr with rfl|hr
   ·have:=hx.1;simp only [l8,zu,decide_eq_true_eq] at this;exact ⟨this.1,hx.2.1⟩
   ·exact NR h r hr
  ·cases h
def il (ab:List Int) (l:List ao):List Int:=if eo ab l=true then jX (l.map (·.Id))++(if l.length=0 then [] else pP l ab.length 0) else []
theorem Kz (rows:List ao):∀(n j:Nat),aZ (pP rows n j)
 |0,_=>kC
 |n+1,j=>ot (ot (pR _) (oC _)) (Kz rows n (j+1))
theorem Ny (ab:List Int) (l:List ao):aZ (il ab l):=by
 unfold il;split
 ·refine ot (ot (pR _) (BS pR _)) ?_;split
  ·exact kC
  ·exact Kz _ _ _
 ·exact kC
def ej (ids:List Int):List ao:=ids.map fun i=>⟨i,[]⟩
def iN (b:List Int) (ab:List Int) (u:Int) (ids:List Int):Option (List ao×Int):=if ids.length=0 then some ([],u) else iO b (ids.length:Int) ab u (ej ids)
def cP (ab b:List Int):Option (List ao):=match fh b 0 with
 |some (ids,u)=>if gp ab=true then (match iN b ab u ids with
  |some (rows,t)=>if t=(b.length:Int)∧eo ab rows=true then some rows else none
  |none=>none) else none
 |none=>none
theorem Lp {b ab:List Int} {ids:List Int} {u t:Int} {rows:List ao} (hb:aZ b) (h1:fh b 0=some (ids,u)) (h2:iN b ab u ids=some (rows,t)) (h3:eo ab rows=true):
 (b=il ab rows↔t=(b.length:Int)):=by
 obtain ⟨a1,a2,a3,a4,a5⟩:=xy hb h1;unfold il;rw [if_pos h3];unfold iN at h2;split at h2
 ·rename_i h0;simp only [zk,zr] at h2;obtain ⟨rfl,rfl⟩:=h2;have:ids=[]:=List.length_eq_zero_iff.1 h0;subst this;simp only [zG,zf,if_true,zh];constructor
  ·intro e;have hl:=congrArg zR a5;rw [←e] at hl;simp only [zb,zy] at hl;omega
  ·intro e;rw [a5]
   conv=>lhs;rw [zS (by omega)]
   simp
 ·rename_i h0;obtain ⟨c1,c2,c3,c4,c5,c6,c7⟩:=CC hb (j:=0) a3 a4 (by simp [ej]) (fun r hr=>by simp only [ej,zN] at hr;obtain ⟨i,_,rfl⟩:=hr;rfl) h2;have ln:rows.length≠0:=by rw [c1];simpa [ej] using h0
  have RS:rows.map (·.Id)=ids:=by rw [c2];simp [ej,Function.comp_def]
  rw [if_neg ln,RS];rw [c7] at a5;constructor
  ·intro e;have hl:=congrArg zR a5;rw [e] at hl;simp only [zb,zy] at hl;have bY:=congrArg zR e;simp only [zb] at bY;omega
  ·intro e;rw [e,show ((b.length:Int)).toNat=b.length by omega,List.drop_length,zh] at a5;exact a5
theorem QA {b ab:List Int} {ids:List Int} {u t:Int} {rows:List ao} (hb:aZ b) (h1:fh b 0=some (ids,u)) (h2:iN b ab u ids=some (rows,t)):rows.length=ids.length:=by
 obtain ⟨a1,a2,a3,a4,a5⟩:=xy hb h1;unfold iN at h2;split at h2
 ·rename_i h0;simp only [zk,zr] at h2;obtain ⟨rfl,rfl⟩:=h2;simp [h0]
 ·obtain ⟨c1,_⟩:=CC hb (j:=0) a3 a4 (by simp [ej]) (fun r hr=>by simp only [ej,zN] at hr;obtain ⟨i,_,rfl⟩:=hr;rfl) h2;rw [c1];simp [ej]
theorem Kv {k:Nat} {a:List aa} {r:ao} {l:List ao} (h:¬k<r.L.length):a++ct k (r::l)=a++ct k l:=by
 simp only [ct,Zh];rw [zA (by omega)]
theorem Kx {k:Nat} {a:List aa} {r:ao} {l:List ao} {v:aa} (h:r.L[k]?=some v):a++ct k (r::l)=(a++[v])++ct k l:=by
 simp only [ct];rw [z_ (f:=fun r:ao=>r.L[k]?) h];simp
theorem Ku (k:Nat) (l:List ao):(ct k l).length≤l.length:=List.length_filterMap_le _ _
theorem Kw {k:Nat} {l:List ao} (h:ao.aq l):aa.aq (ct k l):=fun v hv=>by
 simp only [ct,List.mem_filterMap] at hv;obtain ⟨r,hr,hv⟩:=hv;exact (h r hr).2 v (zm hv)
@[simp] theorem acQ (l:List ao) (k:Nat) (h:l.length≤1048576) (hs:ao.aq l) (hk:k≤1048576):Gw TT 481 [.one (.ro k0 (.sl 2 (l.map ao.e))),vi (k:Int)]=some (.one (.own (.sl 3 ((ct k l).map aa.e))),[]):=by
 refine Ga HA Fo ?_;unfold Fo;refine Ua Oo ?_;refine ba (σ:=List ao×List ao×List aa) (fun s=>[(1,AV.v false (di (k:Nat)),none),(5,AV.pl 5 0 [],some (Rt.an [C.own (D.sl 3 ((s.2.2).map aa.e))])),(9,AV.v k0 (D.sl 2 (l.map ao.e)),none),(10,AV.v false (di (l.length:Nat)),none),(11,AV.v false (di ((s.1.length:Nat):Int)),none)]) (fun s=>l=s.1++s.2.1∧ct k l=s.2.2++ct k s.2.1∧s.2.2.length≤s.1.length) (fun s=>s.2.1.length) ([],l,[]) (by simp) ⟨rfl,by simp,by simp⟩ ?_;rintro ⟨pre,rest,a⟩ ⟨y1,y2,y4⟩;simp only at y1 y2 y4;have y3:l.length=pre.length+rest.length:=by rw [y1,zb]
 rcases rest with _|⟨⟨dg,b9⟩,rest⟩
 ·simp only [zf] at y3;simp only [ct,List.filterMap_nil,zh] at y2;have c1:¬(pre.length:Int)<(l.length:Int):=by omega
  unfold Il;refine Ua (J2 c1 y2) ?_;simp [HA,ct,y2]
 ·simp only [zd] at y3;have hg:l[pre.length]?=some ⟨dg,b9⟩:=by rw [y1];simp
  have dL:=hs ⟨dg,b9⟩ (zm hg);simp only [ao.sm] at dL;obtain ⟨ae,au⟩:=za.1 hg;have c1:(pre.length:Int)<(l.length:Int):=by omega
  have hw:=Wi ((pre.length:Int)+1);have hq:(a.length+1)*32≤70368744177664:=by omega
  have ea:=Wi ((b9.length:Int)-1);unfold Il;by_cases q:k<b9.length
  ·obtain ⟨⟨dT,dN,dS⟩,hv⟩:∃v,b9[k]?=some v:=⟨_,zi q⟩;have ia:=(za.1 hv).2;rw [Kx hv] at y2;have p1:(k:Int)<(b9.length:Int):=by omega
   have p2:¬(b9.length:Int)≤(k:Int):=by omega
   have p3:(k:Int)≤(b9.length:Int)-1:=by omega
   refine Ua (J8 hg au ae c1 hw ea hq (J6 q hv ia p1 p2 p3)) ?_;exact ⟨(pre++[⟨dg,b9⟩],rest,a++[⟨dT,dN,dS⟩]),(by simp;try omega),⟨by rw [y1];simp,y2,by simp;omega⟩,by simp⟩
  ·rw [Kv q] at y2;have p1:¬(k:Int)<(b9.length:Int):=by omega
   have p2:(b9.length:Int)≤(k:Int):=by omega
   have p3:¬(k:Int)≤(b9.length:Int)-1:=by omega
   refine Ua (J8 hg au ae c1 hw ea q (J3 p1 p2 p3)) ?_;exact ⟨(pre++[⟨dg,b9⟩],rest,a),(by simp;try omega),⟨by rw [y1];simp,y2,by simp;omega⟩,by simp⟩
@[simp] theorem ac3 (wF:Int) (pq:List aa) (h:ab.length≤1048576) (h5:pq.length≤1048576) (hs:aa.aq pq):Gw TT 529 [.one (.ro k0 (.sl 1 (ab.map ei))),.st [.ro false (di wF),.ro k1 (.sl 3 (pq.map aa.e))]]=some (vb (l8 ab ⟨wF,pq⟩),[]):=by
 refine Ga yM FT ?_;unfold FT;refine Ud (J3 h h5 hs) ?_ ?_;all_goals repeat intro hc
 all_goals first|(simp_all [yM,l8];done)|(simp_all [yM,l8];omega)
@[simp] theorem ac0 (wF:Int) (pq:List aa) (h:ab.length≤1048576) (h5:pq.length≤1048576) (hs:aa.aq pq):Gw TT 520 [.one (.ro k0 (.sl 1 (ab.map ei))),.st [.ro false (di wF),.ro k1 (.sl 3 (pq.map aa.e))]]=some (vb (l8 ab ⟨wF,pq⟩),[]):=by
 refine Ga yK FK ?_;unfold FK;refine Ud (J3 h h5 hs) ?_ ?_;all_goals repeat intro hc
 all_goals first|(simp_all [yK,l8];done)|(simp_all [yK,l8];omega)
theorem tY {ab:List Int} {p:Option Int} {r:ao} {l:List ao} (h:¬(l8 ab r=true∧r.Id≤1000000000∧wE p r.Id=true)):kq ab p (r::l)=false:=by
 simp only [kq];rw [if_neg h]
theorem Bc {ab:List Int} {p:Option Int} {r:ao} {l:List ao} (h:l8 ab r=true∧r.Id≤1000000000∧wE p r.Id=true):kq ab p (r::l)=kq ab (some r.Id) l:=by
 simp only [kq];rw [if_pos h]
def tm (l:List ao):Option Int:=(l.getLast?).map (·.Id)
theorem yb (l:List ao) (r:ao):tm (l++[r])=some r.Id:=by simp [tm]
theorem Nv {l:List ao} {n:Nat} {r:ao} (hl:l.length=n+1) (h:l[n]?=some r) (i:Int):wE (tm l) i=decide (r.Id<i):=by
 have:l.getLast?=some r:=by rw [List.getLast?_eq_getElem?,hl];exact h
 simp [tm,this,wE]
end Go.Proofs.YtohlfelngklcfaaGreat.OM
