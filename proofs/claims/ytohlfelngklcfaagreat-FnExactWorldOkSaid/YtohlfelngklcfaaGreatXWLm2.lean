/- A part of the proof. -/
import Derived.Test.YtohlfelngklcfaaGreatXWLm1
set_option linter.all false
namespace Go.Proofs.YtohlfelngklcfaaGreat.OM
open List renaming getElem?_eq_some_iff→za,length_append→zb,mem_of_getElem?→zd,length_cons→ze,length_nil→zf,getElem?_eq_getElem→zg,getElem?_eq_none→zj,all_cons→zo,length_eq_zero_iff→zw,map_nil→zx,sizeOf_lt_of_mem→zy,append_nil→zz,mem_cons→zB,length_drop→zD,length_take→zF,map→zG,map_drop→zH,map_take→zI,map_cons→zK
open Bool renaming true_and→zh,and_false→zk,false_and→zm,eq_iff_iff→zn,and_eq_true→zp,and_self→zq,false_eq_true→zr,and_true→zJ,false_or→zL,true_or→zM
open Int renaming eq_ofNat_of_zero_le→zi,add_zero→zA
open SizeOf renaming sizeOf→zt
open Decidable renaming not_not→zu
open Option.some renaming injEq→zC
open Or renaming inl→zN
set_option maxHeartbeats 4000000
set_option maxRecDepth 100000
variable (oB:Int) (x:an) (s:ByteArray) (cols:List Int) (k0 k1:Bool) (b:List Int) (d:List ab) (af rA:List Int) (iL xZ eu:Int) (oC:List aA) (n u w dB ax x8 fP cd ty du aM xX iy sA nG k:Int) (xY:Bool) (bJ:ByteArray) (aG:Int) (fA:List bp) (qL nF kN ak:Int) (eI:List Int) (nH kL aI nJ:Int) (ft:ByteArray) (aK nI:Int) (au:List aL) (ke:ByteArray) (ae:List aU) (ik:List an) (aj:List Int) (cH:Int) (aw:List cD) (cG:Int) (j_ aH:List Int) (jl sF dG cO:Int) (aq:List bM) (jO dF:Int) (az:List ca) (dU:List ab) (cV:ByteArray) (bo aW fB bz ay iN bV dO iP bj:Int) (bq:List ab) (iO aZ bf iQ bB iS bD iR bC:Int) (fD:ByteArray) (bE:Int) (dQ:List an) (bH iM bF:Int) (fC:List Int) (bw:ByteArray) (mX:List aA) (jR:Int) (br:List an) (uv ef bA:Int) (uu:Bool) (ao:List aL) (bu:List Int) (ux jP bt uw jQ bY:Int) (pX:ByteArray) (aF:List aL) (sy aR sE bm sB bX sC bW sD aO:Int) (b_:Bool) (b9:List aA) (cQ kd cS:Int) (l cj:List ab) (left cp cx cz cy cA cC cB:Int) (ct:ByteArray) (cg:List an) (cw:Int) (cq:List Int) (de:List aA) (dc:Int) (db:Bool) (dj dg:Int) (dh:ByteArray) (cZ dm c9 c_ cR:Int)
theorem UX (cols b:List Int) (h:cols.length≤1048576) (h2:b.length≤1048576) (hb:bI b):Gw TT 463 [.one (rl k0 1 (cols.map ei)),.one (rl k1 1 (b.map eb))]=some (FG (dn cols b),[]):=by
 refine Ga qD O6 ?_;unfold O6;cases hg:jq b 0 with
 |none=>
  have hd:dn cols b=none:=W5 hg;refine Uw (J5 h h2 hb hg hd) ?_;simp [qD,hd]
 |some q=>
 obtain ⟨ids,u⟩:=q;obtain ⟨i1,i2,i3,i4,i5⟩:=FD hb hg;by_cases gL:jo cols=true
 ·skip;obtain ⟨cl1,cl2⟩:=Fm gL;have Jz:=Wd gL;refine Uw (J5 h h2 hb hg gL) ?_;refine ba (σ:=List Int×List Int) (fun s=>[(0,AV.v k0 (D.sl 1 (cols.map ei)),none),(1,AV.v k1 (D.sl 1 (b.map eb)),none),(6,AV.pl 6 0 [],some (Rt.aX [C.own (D.sl 1 (ids.map ei)),ri u,C.ro false (D.bool true)])),(7,vn u,none),(9,AV.pl 9 0 [],some (Rt.aX [C.own (D.sl 2 ((gP s.1).map aA.e))])),(33,AV.pl 6 0 [],none),(34,vn (ids.length:Nat),none),(35,vn ((s.1.length:Nat):Int),none)]) (fun s=>ids=s.1++s.2) (fun s=>s.2.length) ([],ids) (by simp [gP]) rfl ?_;rintro ⟨pre,rest⟩ y1;simp only at y1;have y3:ids.length=pre.length+rest.length:=by rw [y1,zb]
  rcases rest with _|⟨d,rest⟩
  ·simp only [zf] at y3;simp only [zz] at y1;subst y1;have c1:¬(ids.length:Int)<(ids.length:Int):=by omega
   unfold TB;refine Uw c1 ?_;have LK:(gP ids).length=ids.length:=by simp [gP]
   by_cases h0:ids.length=0
   ·have cE:ids=[]:=zw.1 h0;subst cE;have eX:nf b cols u []=some ([],u):=rfl;refine ba (σ:=List Int×List Int×Int×List aA) (fun s=>[(0,AV.v k0 (D.sl 1 (cols.map ei)),none),(1,AV.v k1 (D.sl 1 (b.map eb)),none),(6,AV.pl 6 0 [],some (Rt.aX [C.own (D.sl 1 []),ri u,C.ro false (D.bool true)])),(7,vn s.2.2.1,none),(9,AV.pl 9 0 [],some (Rt.aX [C.own (D.sl 2 (s.2.2.2.map aA.e))])),(45,AV.v k0 (D.sl 1 (cols.map ei)),none),(46,vn (cols.length:Nat),none),(47,vn ((s.1.length:Nat):Int),none)]) (fun s=>s=([],cols,u,[])) (fun _=>0) ([],cols,u,[]) (by simp [gP]) rfl ?_;rintro s rfl;obtain ⟨ty,jc⟩:∃ty,cols[0]?=some ty:=⟨_,zg (by omega)⟩;obtain ⟨ai,aB⟩:=za.1 jc;have c1:(0:Int)<(cols.length:Int):=by omega
    have rV:=fun k0 k1:Bool=>aml k0 k1 cols [] h (by simp) (fun r hr=>by simp at hr)
    simp only [zx] at rV;have yI:=fun k0 k1:Bool=>amm k0 k1 cols [] h (by simp) (fun r hr=>by simp at hr)
    simp only [zx] at yI;unfold H5;skip;cases cX:gG cols [] with
    |false=>
     have hd:dn cols b=none:=by rw [qT hg gL eX,if_neg (by rw [cX];simp)]
     refine Uw (J8 c1 jc ai aB rV yI h (J2 cX hd)) ?_;all_goals refine Jk (by decide) ?_
     refine Uw (J8 c1 jc ai aB rV yI h (J2 cX hd)) ?_;simp [qD,hd]
    |true=>
     have kv:=W6 hb hg eX cX;have fx:=ui (ab4 cols []) hb;by_cases e3:o_ cols []=b
     ·have e4:((strOf (o_ cols [])).toList==(strOf b).toList)=true:=by rw [fx];simpa using e3
      have hd:dn cols b=some []:=by rw [qT hg gL eX,if_pos ⟨kv.1 e3.symm,cX⟩]
      refine Uw (J8 c1 jc ai aB rV yI h (J3 cX e4 hd)) ?_;all_goals refine Jk (by decide) ?_
      refine Uw (J8 c1 jc ai aB rV yI h (J3 cX e4 hd)) ?_;simp [qD,hd]
     ·have e4:((strOf (o_ cols [])).toList==(strOf b).toList)=false:=by rw [fx];simpa using e3
      have hd:dn cols b=none:=by rw [qT hg gL eX,if_neg (fun e=>e3 (kv.2 e.1).symm)]
      refine Uw (J8 c1 jc ai aB rV yI h (J3 cX e4 hd)) ?_;all_goals refine Jk (by decide) ?_
      refine Uw (J8 c1 jc ai aB rV yI h (J3 cX e4 hd)) ?_;simp [qD,hd]
   ·have cE:¬ids=[]:=fun e=>h0 (by rw [e];rfl)
    have KG:nf b cols u ids=ng b (ids.length:Int) cols u (gP ids):=by unfold nf;rw [if_neg h0]
    have tw:(0:Int)<(ids.length:Int):=by omega
    refine ba (σ:=List Int×List Int×Int×List aA) (fun s=>[(0,AV.v k0 (D.sl 1 (cols.map ei)),none),(1,AV.v k1 (D.sl 1 (b.map eb)),none),(6,AV.pl 6 0 [],some (Rt.aX [C.own (D.sl 1 (ids.map ei)),ri u,C.ro false (D.bool true)])),(7,vn s.2.2.1,none),(9,AV.pl 9 0 [],some (Rt.aX [C.own (D.sl 2 (s.2.2.2.map aA.e))])),(45,AV.v k0 (D.sl 1 (cols.map ei)),none),(46,vn (cols.length:Nat),none),(47,vn ((s.1.length:Nat):Int),none)]) (fun s=>cols=s.1++s.2.1∧nf b cols u ids=ng b (ids.length:Int) s.2.1 s.2.2.1 s.2.2.2∧s.2.2.2.length=ids.length∧rJ s.1.length s.2.2.2∧aA.aJ s.2.2.2∧0≤s.2.2.1∧s.2.2.1≤(b.length:Int)) (fun s=>s.2.1.length) ([],cols,u,gP ids) (by simp) ⟨rfl,KG,LK,acr ids,acs ids,i3,i4⟩ ?_;rintro ⟨pre,rest,v,rows⟩ ⟨z1,z2,z4,z5,z6,z7,z8⟩;simp only at z1 z2 z4 z5 z6 z7 z8;have z3:cols.length=pre.length+rest.length:=by rw [z1,zb]
    rcases rest with _|⟨ty,rest⟩
    ·simp only [zf] at z3;have eX:nf b cols u ids=some (rows,v):=z2;have yS:rows.length≤1048576:=by omega
     have vR:=z6;have c1:¬(pre.length:Int)<(cols.length:Int):=by omega
     unfold H5;skip;cases cX:gG cols rows with
     |false=>
      have hd:dn cols b=none:=by rw [qT hg gL eX,if_neg (by rw [cX];simp)]
      refine Uw (J6 c1 h cX yS vR hd) ?_;simp [qD,hd]
     |true=>
      have kv:=W6 hb hg eX cX;have fx:=ui (ab4 cols rows) hb;by_cases e3:o_ cols rows=b
      ·have e4:((strOf (o_ cols rows)).toList==(strOf b).toList)=true:=by rw [fx];simpa using e3
       have hd:dn cols b=some rows:=by rw [qT hg gL eX,if_pos ⟨kv.1 e3.symm,cX⟩]
       refine Uw (J7 c1 h cX yS vR e4 hd) ?_;simp [qD,hd]
      ·have e4:((strOf (o_ cols rows)).toList==(strOf b).toList)=false:=by rw [fx];simpa using e3
       have hd:dn cols b=none:=by rw [qT hg gL eX,if_neg (fun e=>e3 (kv.2 e.1).symm)]
       refine Uw (J7 c1 h cX yS vR e4 hd) ?_;simp [qD,hd]
    ·simp only [ze] at z3;have jc:cols[pre.length]?=some ty:=by rw [z1];simp
     have fN:=Jz ty (zd jc);obtain ⟨ai,aB⟩:=za.1 jc;have c1:(pre.length:Int)<(cols.length:Int):=by omega
     have hw:=Wi ((pre.length:Int)+1);unfold H5;cases fa:gN b v with
     |none=>
      have hd:dn cols b=none:=yt hg (by rw [z2,WU fa]);refine Uw (J8 jc aB ai c1 hw cE tw (J4 h2 hb fa hd)) ?_ ?_;all_goals repeat intro hc
      all_goals first|exact absurd ‹ids=[]› cE|(simp [qD,hd];done)
     |some q=>
      obtain ⟨n,t⟩:=q;obtain ⟨g1,g2,g3,g4,g5⟩:=rR hb fa;have w1:=Wi ((b.length:Int)-t);by_cases jJ:0≤n∧n≤(b.length:Int)-t
      ·obtain ⟨nn,rfl⟩:=zi jJ.1;obtain ⟨tt,rfl⟩:=zi (show (0:Int)≤t by omega);have w2:=Wi ((tt:Int)+(nn:Int));have w3:((tt:Int)+(nn:Int)).toNat=tt+nn:=by omega
       have p1:=jJ.1;have p2:=jJ.2;have p3:tt+nn≤b.length:=by omega
       have p4:(tt:Int)+(nn:Int)≤(b.length:Int):=by omega
       have p5:(tt:Int)≤(tt:Int)+(nn:Int):=by omega
       have jg:bI (k_ b tt nn):=sS _ (Bu _ hb);have lC:(k_ b tt nn).length≤1048576:=by simp only [k_,zD,zF];omega
       have Dv:List.drop tt (List.take (tt+nn) (zG eb b))=zG eb (k_ b tt nn):=by
        simp only [k_,zH,zI];rw [w3,show ((tt:Int)).toNat=tt by omega]
       have p6:(0:Int)≤(tt:Int)+(nn:Int):=by omega
       have kk:1≤ids.length∧ids.length≤64:=by omega
       have MB:(1:Int)≤(ids.length:Int)∧(ids.length:Int)≤64:=by omega
       have fH:=fun kb:Bool=>amk kb (k_ b tt nn) ty (ids.length:Int) lC jg fN MB
       cases qW:fh (k_ b tt nn) ty (ids.length:Int) with
       |none=>
        have hd:dn cols b=none:=yt hg (by rw [z2,WW fa jJ qW]);rw [qW] at fH;refine Uw (J8 jc aB ai c1 hw cE tw (J8 h2 hb fa w1 w2 w3 p1 (J8 p2 p3 p4 p5 p6 Dv fH hd))) ?_ ?_;all_goals repeat intro hc
        all_goals first|exact absurd ‹ids=[]› cE|(simp [qD,hd];done)
       |some vs=>
        rw [qW] at fH;have pL:=(Ft jg qW).1;have Dz:=Wf jg fN qW;rw [WX fa jJ qW] at z2;have xu:rows.length=vs.length:=by omega
        have C5:=CE xu;refine Uw (J8 jc aB ai c1 hw cE tw (J8 h2 hb fa w1 w2 w3 p1 (J7 p2 p3 p4 p5 p6 Dv fH))) ?_ ?_;all_goals repeat intro hc
        all_goals first|exact absurd ‹ids=[]› cE|skip
        refine ba (σ:=List aA×List aA×List ab×List ab) (fun s=>[(0,AV.v k0 (D.sl 1 (cols.map ei)),none),(1,AV.v k1 (D.sl 1 (b.map eb)),none),(6,AV.pl 6 0 [],some (Rt.aX [C.own (D.sl 1 (ids.map ei)),ri u,C.ro false (D.bool true)])),(9,AV.pl 9 0 [],some (Rt.aX [C.own (D.sl 2 (s.1.map aA.e++s.2.1.map aA.e))])),(14,vn (nn:Nat),none),(15,vn (tt:Nat),none),(16,AV.v false (.bool true),some (Rt.aX [C.own (D.sl 3 (vs.map ab.e)),C.ro false (D.bool true)])),(17,AV.pl 16 0 [],none),(45,AV.v k0 (D.sl 1 (cols.map ei)),none),(46,vn (cols.length:Nat),none),(47,vn (pre.length:Nat),none),(88,vn (rows.length:Nat),none),(89,vn ((s.1.length:Nat):Int),none)]) (fun s=>jD rows vs=s.1++jD s.2.1 s.2.2.2∧s.2.1.length=s.2.2.2.length∧vs=s.2.2.1++s.2.2.2∧s.2.2.1.length=s.1.length∧rJ pre.length s.2.1) (fun s=>s.2.1.length) ([],rows,[],vs) (by simp) ⟨rfl,xu,rfl,rfl,z5⟩ ?_;rintro ⟨A,R,P,W⟩ ⟨x1,x2,x3,x4,x5⟩;simp only at x1 x2 x3 x4 x5;have x6:vs.length=P.length+W.length:=by rw [x3,zb]
        rcases R with _|⟨⟨bU,a_⟩,R⟩
        ·have Ku:W=[]:=zw.1 (by simpa using x2.symm);subst Ku;simp only [zf] at x6;simp only [VA,zz] at x1;have c1:¬(A.length:Int)<(rows.length:Int):=by omega
         have c2:¬(A.length:Int)<(ids.length:Int):=by omega
         unfold TA;refine Uw (J5 c1 c2 w2 hw x1) ?_;exact ⟨(pre++[ty],rest,(tt:Int)+(nn:Int),A),(by simp;try omega),⟨by rw [z1];simp,by rw [z2,x1],by simp only;rw [←x1];omega,by simp only;rw [←x1];simpa using E8 z5,by simp only;rw [←x1];exact I' (by omega) z5 z6 Dz,by simp only;omega,by simp only;omega⟩,by simp⟩
        ·rcases W with _|⟨⟨dT,dN,dS⟩,W⟩
         ·simp at x2
         ·simp only [ze] at x6 x2;have c1:(A.length:Int)<(rows.length:Int):=by omega
          have c2:(A.length:Int)<(ids.length:Int):=by omega
          have DC:=Wi ((A.length:Int)+1);have ly:vs[A.length]?=some ⟨dT,dN,dS⟩:=by rw [x3,←x4];simp
          obtain ⟨Mj,Mh⟩:=za.1 ly;have n_:=x5 ⟨bU,a_⟩ (by simp);simp only at n_;have hq:(a_.length+1)*32≤70368744177664:=by omega
          have q1:(A.length:Int)<(A.length:Int)+((R.length:Int)+1):=by omega
          have q2:A.length<A.length+(R.length+1):=by omega
          unfold TA;refine Uw (J8 c1 c2 DC q1 q2 ly Mj (J2 Mh hq)) ?_;exact ⟨(A++[⟨bU,a_++[⟨dT,dN,dS⟩]⟩],R,P++[⟨dT,dN,dS⟩],W),(by simp;try omega),⟨by rw [x1];simp [jD],by simp only;omega,by rw [x3];simp,by simp [x4],fun r hr=>x5 r (by simp [hr])⟩,by simp⟩
      ·have hd:dn cols b=none:=yt hg (by rw [z2,WV fa jJ]);have aic:(decide (0≤n)&&decide (n≤(b.length:Int)-t))=false:=by simp;omega
       by_cases fK:0≤n
       ·have p1:¬n≤(b.length:Int)-t:=fun e=>jJ ⟨fK,e⟩
        refine Uw (J8 jc aB ai c1 hw cE tw (J7 h2 hb fa w1 fK p1 hd)) ?_ ?_;all_goals repeat intro hc
        all_goals first|exact absurd ‹ids=[]› cE|(simp [qD,hd];done)
       ·refine Uw (J8 jc aB ai c1 hw cE tw (J6 h2 hb fa w1 fK hd)) ?_ ?_;all_goals repeat intro hc
        all_goals first|exact absurd ‹ids=[]› cE|(simp [qD,hd];done)
  ·simp only [ze] at y3;have Da:ids[pre.length]?=some d:=by rw [y1];simp
   obtain ⟨ai,aB⟩:=za.1 Da;have c1:(pre.length:Int)<(ids.length:Int):=by omega
   have hw:=Wi ((pre.length:Int)+1);have hq:(pre.length+1)*32≤70368744177664:=by omega
   have LO:(gP pre).length=pre.length:=by simp [gP]
   have mf:((gP pre).length+1)*32≤70368744177664:=by omega
   unfold TB;refine Uw (J8 Da aB ai c1 hw LO hq mf) ?_;exact ⟨(pre++[d],rest),(by simp [gP];try omega),by rw [y1];simp,by simp⟩
 ·have hd:dn cols b=none:=J9 gL;refine Uw (J6 h h2 hb hg gL hd) ?_;simp [qD,hd]
theorem EN (cols b:List Int) (h:cols.length≤1048576) (h2:b.length≤1048576) (hb:bI b):Gw TT 462 [.one (rl k0 1 (cols.map ei)),.one (rl k1 1 (b.map eb))]=some (FG (dn cols b),[]):=by
 refine Ga pR O5 ?_;unfold O5;cases hg:jq b 0 with
 |none=>
  have hd:dn cols b=none:=W5 hg;refine Ud (J5 h h2 hb hg hd) ?_;simp [pR,hd]
 |some q=>
 obtain ⟨ids,u⟩:=q;obtain ⟨i1,i2,i3,i4,i5⟩:=FD hb hg;by_cases gL:jo cols=true
 ·skip;by_cases tm:12<ids.length
  ·have hd:dn cols b=none:=aff hb hg tm;have Kz:(12:Int)<(ids.length:Int):=by omega
   refine Ud (J7 h h2 hb hg gL Kz hd) ?_;simp [pR,hd]
  have Kz:¬(12:Int)<(ids.length:Int):=by omega
  obtain ⟨cl1,cl2⟩:=Fm gL;have Jz:=Wd gL;refine Ud (J6 h h2 hb hg gL Kz) ?_;refine ba (σ:=List Int×List Int) (fun s=>[(0,AV.v k0 (D.sl 1 (cols.map ei)),none),(1,AV.v k1 (D.sl 1 (b.map eb)),none),(6,AV.pl 6 0 [],some (Rt.aX [C.own (D.sl 2 [])])),(7,AV.pl 7 0 [],some (Rt.aX [C.own (D.sl 1 (ids.map ei)),ri u,C.ro false (D.bool true)])),(8,vn u,none),(10,AV.pl 10 0 [],some (Rt.aX [C.own (D.sl 2 ((gP s.1).map aA.e))])),(11,vn ((s.1.length:Nat):Int),none)]) (fun s=>ids=s.1++s.2) (fun s=>s.2.length) ([],ids) (by simp [gP]) rfl ?_;rintro ⟨pre,rest⟩ y1;simp only at y1;have y3:ids.length=pre.length+rest.length:=by rw [y1,zb]
  rcases rest with _|⟨d,rest⟩
  ·simp only [zf] at y3;simp only [zz] at y1;subst y1;have c1:¬(ids.length:Int)<(ids.length:Int):=by omega
   unfold Tz;refine Ud c1 ?_;have LK:(gP ids).length=ids.length:=by simp [gP]
   by_cases h0:ids.length=0
   ·have cE:ids=[]:=zw.1 h0;subst cE;have eX:nf b cols u []=some ([],u):=rfl;refine ba (σ:=List Int×List Int×Int×List aA) (fun s=>[(0,AV.v k0 (D.sl 1 (cols.map ei)),none),(1,AV.v k1 (D.sl 1 (b.map eb)),none),(6,AV.pl 6 0 [],some (Rt.aX [C.own (D.sl 2 [])])),(7,AV.pl 7 0 [],some (Rt.aX [C.own (D.sl 1 []),ri u,C.ro false (D.bool true)])),(8,vn s.2.2.1,none),(10,AV.pl 10 0 [],some (Rt.aX [C.own (D.sl 2 (s.2.2.2.map aA.e))])),(12,vn ((s.1.length:Nat):Int),none)]) (fun s=>s=([],cols,u,[])) (fun _=>0) ([],cols,u,[]) (by simp [gP]) rfl ?_;rintro s rfl;obtain ⟨ty,jc⟩:∃ty,cols[0]?=some ty:=⟨_,zg (by omega)⟩;obtain ⟨ai,aB⟩:=za.1 jc;have c1:(0:Int)<(cols.length:Int):=by omega
    have rV:=fun k0 k1:Bool=>amj k0 k1 cols [] h (by simp) (fun r hr=>by simp at hr)
    simp only [zx] at rV;unfold H4;skip;cases cX:gG cols [] with
    |false=>
     have hd:dn cols b=none:=by rw [qT hg gL eX,if_neg (by rw [cX];simp)]
     refine Ud (J8 c1 jc ai aB rV h cX hd) ?_ ?_;all_goals repeat intro hc
     all_goals simp [pR,hd]
    |true=>
     by_cases e3:u=(b.length:Int)
     ·have hd:dn cols b=some []:=by rw [qT hg gL eX,if_pos ⟨e3,cX⟩]
      refine Ud (J8 c1 jc ai aB rV h cX (J2 e3 hd)) ?_;simp [pR,hd]
     ·have hd:dn cols b=none:=by rw [qT hg gL eX,if_neg (fun e=>e3 e.1)]
      refine Ud (J8 c1 jc ai aB rV h cX (J2 e3 hd)) ?_;simp [pR,hd]
   ·have cE:¬ids=[]:=fun e=>h0 (by rw [e];rfl)
    have KG:nf b cols u ids=ng b (ids.length:Int) cols u (gP ids):=by unfold nf;rw [if_neg h0]
    have tw:(0:Int)<(ids.length:Int):=by omega
    refine ba (σ:=List Int×List Int×Int×List aA) (fun s=>[(0,AV.v k0 (D.sl 1 (cols.map ei)),none),(1,AV.v k1 (D.sl 1 (b.map eb)),none),(6,AV.pl 6 0 [],some (Rt.aX [C.own (D.sl 2 [])])),(7,AV.pl 7 0 [],some (Rt.aX [C.own (D.sl 1 (ids.map ei)),ri u,C.ro false (D.bool true)])),(8,vn s.2.2.1,none),(10,AV.pl 10 0 [],some (Rt.aX [C.own (D.sl 2 (s.2.2.2.map aA.e))])),(12,vn ((s.1.length:Nat):Int),none)]) (fun s=>cols=s.1++s.2.1∧nf b cols u ids=ng b (ids.length:Int) s.2.1 s.2.2.1 s.2.2.2∧s.2.2.2.length=ids.length∧rJ s.1.length s.2.2.2∧aA.aJ s.2.2.2∧0≤s.2.2.1∧s.2.2.1≤(b.length:Int)) (fun s=>s.2.1.length) ([],cols,u,gP ids) (by simp) ⟨rfl,KG,LK,acr ids,acs ids,i3,i4⟩ ?_;rintro ⟨pre,rest,v,rows⟩ ⟨z1,z2,z4,z5,z6,z7,z8⟩;simp only at z1 z2 z4 z5 z6 z7 z8;have z3:cols.length=pre.length+rest.length:=by rw [z1,zb]
    rcases rest with _|⟨ty,rest⟩
    ·simp only [zf] at z3;have eX:nf b cols u ids=some (rows,v):=z2;have yS:rows.length≤1048576:=by omega
     have vR:=z6;have c1:¬(pre.length:Int)<(cols.length:Int):=by omega
     unfold H4;skip;cases cX:gG cols rows with
     |false=>
      have hd:dn cols b=none:=by rw [qT hg gL eX,if_neg (by rw [cX];simp)]
      refine Ud (J6 c1 h cX yS vR hd) ?_ ?_;all_goals repeat intro hc
      all_goals simp [pR,hd]
     |true=>
      by_cases e3:v=(b.length:Int)
      ·have hd:dn cols b=some rows:=by rw [qT hg gL eX,if_pos ⟨e3,cX⟩]
       refine Ud (J7 c1 h cX yS vR e3 hd) ?_;simp [pR,hd]
      ·have hd:dn cols b=none:=by rw [qT hg gL eX,if_neg (fun e=>e3 e.1)]
       refine Ud (J7 c1 h cX yS vR e3 hd) ?_;simp [pR,hd]
    ·simp only [ze] at z3;have jc:cols[pre.length]?=some ty:=by rw [z1];simp
     have fN:=Jz ty (zd jc);obtain ⟨ai,aB⟩:=za.1 jc;have c1:(pre.length:Int)<(cols.length:Int):=by omega
     have hw:=Wi ((pre.length:Int)+1);unfold H4;cases fa:gN b v with
     |none=>
      have hd:dn cols b=none:=yt hg (by rw [z2,WU fa]);refine Ud (J8 jc aB ai c1 hw cE tw (J4 h2 hb fa hd)) ?_ ?_;all_goals repeat intro hc
      all_goals first|exact absurd ‹ids=[]› cE|(simp [pR,hd];done)
     |some q=>
      obtain ⟨n,t⟩:=q;obtain ⟨g1,g2,g3,g4,g5⟩:=rR hb fa;have w1:=Wi ((b.length:Int)-t);by_cases jJ:0≤n∧n≤(b.length:Int)-t
      ·obtain ⟨nn,rfl⟩:=zi jJ.1;obtain ⟨tt,rfl⟩:=zi (show (0:Int)≤t by omega);have w2:=Wi ((tt:Int)+(nn:Int));have w3:((tt:Int)+(nn:Int)).toNat=tt+nn:=by omega
       have p1:=jJ.1;have p2:=jJ.2;have p3:tt+nn≤b.length:=by omega
       have p4:(tt:Int)+(nn:Int)≤(b.length:Int):=by omega
       have p5:(tt:Int)≤(tt:Int)+(nn:Int):=by omega
       have jg:bI (k_ b tt nn):=sS _ (Bu _ hb);have lC:(k_ b tt nn).length≤1048576:=by simp only [k_,zD,zF];omega
       have Dv:List.drop tt (List.take (tt+nn) (zG eb b))=zG eb (k_ b tt nn):=by
        simp only [k_,zH,zI];rw [w3,show ((tt:Int)).toNat=tt by omega]
       have p6:(0:Int)≤(tt:Int)+(nn:Int):=by omega
       have kk:1≤ids.length∧ids.length≤64:=by omega
       have MB:(1:Int)≤(ids.length:Int)∧(ids.length:Int)≤64:=by omega
       have fH:=fun kb:Bool=>ami kb (k_ b tt nn) ty (ids.length:Int) lC jg fN MB
       cases qW:fh (k_ b tt nn) ty (ids.length:Int) with
       |none=>
        have hd:dn cols b=none:=yt hg (by rw [z2,WW fa jJ qW]);rw [qW] at fH;refine Ud (J8 jc aB ai c1 hw cE tw (J8 h2 hb fa w1 w2 w3 p1 (J8 p2 p3 p4 p5 p6 Dv fH hd))) ?_ ?_;all_goals repeat intro hc
        all_goals first|exact absurd ‹ids=[]› cE|(simp [pR,hd];done)
       |some vs=>
        rw [qW] at fH;have pL:=(Ft jg qW).1;have Dz:=Wf jg fN qW;rw [WX fa jJ qW] at z2;have xu:rows.length=vs.length:=by omega
        have C5:=CE xu;refine Ud (J8 jc aB ai c1 hw cE tw (J8 h2 hb fa w1 w2 w3 p1 (J7 p2 p3 p4 p5 p6 Dv fH))) ?_ ?_;all_goals repeat intro hc
        all_goals first|exact absurd ‹ids=[]› cE|skip
        refine ba (σ:=List aA×List aA×List ab×List ab) (fun s=>[(0,AV.v k0 (D.sl 1 (cols.map ei)),none),(1,AV.v k1 (D.sl 1 (b.map eb)),none),(6,AV.pl 6 0 [],some (Rt.aX [C.own (D.sl 2 [])])),(7,AV.pl 7 0 [],some (Rt.aX [C.own (D.sl 1 (ids.map ei)),ri u,C.ro false (D.bool true)])),(10,AV.pl 10 0 [],some (Rt.aX [C.own (D.sl 2 (s.1.map aA.e++s.2.1.map aA.e))])),(12,vn (pre.length:Nat),none),(13,vn (nn:Nat),none),(14,vn (tt:Nat),none),(16,AV.pl 16 0 [],some (Rt.aX [C.own (D.sl 3 (vs.map ab.e)),C.ro false (D.bool true)])),(18,vn ((s.1.length:Nat):Int),none)]) (fun s=>jD rows vs=s.1++jD s.2.1 s.2.2.2∧s.2.1.length=s.2.2.2.length∧vs=s.2.2.1++s.2.2.2∧s.2.2.1.length=s.1.length∧rJ pre.length s.2.1) (fun s=>s.2.1.length) ([],rows,[],vs) (by simp) ⟨rfl,xu,rfl,rfl,z5⟩ ?_;rintro ⟨A,R,P,W⟩ ⟨x1,x2,x3,x4,x5⟩;simp only at x1 x2 x3 x4 x5;have x6:vs.length=P.length+W.length:=by rw [x3,zb]
        rcases R with _|⟨⟨bU,a_⟩,R⟩
        ·have Ku:W=[]:=zw.1 (by simpa using x2.symm);subst Ku;simp only [zf] at x6;simp only [VA,zz] at x1;have c1:¬(A.length:Int)<(rows.length:Int):=by omega
         have c2:¬(A.length:Int)<(ids.length:Int):=by omega
         unfold Tx;refine Ud (J5 c1 c2 w2 hw x1) ?_;exact ⟨(pre++[ty],rest,(tt:Int)+(nn:Int),A),(by simp;try omega),⟨by rw [z1];simp,by rw [z2,x1],by simp only;rw [←x1];omega,by simp only;rw [←x1];simpa using E8 z5,by simp only;rw [←x1];exact I' (by omega) z5 z6 Dz,by simp only;omega,by simp only;omega⟩,by simp⟩
        ·rcases W with _|⟨⟨dT,dN,dS⟩,W⟩
         ·simp at x2
         ·simp only [ze] at x6 x2;have c1:(A.length:Int)<(rows.length:Int):=by omega
          have c2:(A.length:Int)<(ids.length:Int):=by omega
          have DC:=Wi ((A.length:Int)+1);have ly:vs[A.length]?=some ⟨dT,dN,dS⟩:=by rw [x3,←x4];simp
          obtain ⟨Mj,Mh⟩:=za.1 ly;have n_:=x5 ⟨bU,a_⟩ (by simp);simp only at n_;have hq:(a_.length+1)*32≤70368744177664:=by omega
          have q1:(A.length:Int)<(A.length:Int)+((R.length:Int)+1):=by omega
          have q2:A.length<A.length+(R.length+1):=by omega
          unfold Tx;refine Ud (J8 c1 c2 DC q1 q2 ly Mj (J2 Mh hq)) ?_;exact ⟨(A++[⟨bU,a_++[⟨dT,dN,dS⟩]⟩],R,P++[⟨dT,dN,dS⟩],W),(by simp;try omega),⟨by rw [x1];simp [jD],by simp only;omega,by rw [x3];simp,by simp [x4],fun r hr=>x5 r (by simp [hr])⟩,by simp⟩
      ·have hd:dn cols b=none:=yt hg (by rw [z2,WV fa jJ]);have aic:(decide (0≤n)&&decide (n≤(b.length:Int)-t))=false:=by simp;omega
       by_cases fK:0≤n
       ·have p1:¬n≤(b.length:Int)-t:=fun e=>jJ ⟨fK,e⟩
        refine Ud (J8 jc aB ai c1 hw cE tw (J7 h2 hb fa w1 fK p1 hd)) ?_ ?_;all_goals repeat intro hc
        all_goals first|exact absurd ‹ids=[]› cE|(simp [pR,hd];done)
       ·refine Ud (J8 jc aB ai c1 hw cE tw (J6 h2 hb fa w1 fK hd)) ?_ ?_;all_goals repeat intro hc
        all_goals first|exact absurd ‹ids=[]› cE|(simp [pR,hd];done)
  ·simp only [ze] at y3;have Da:ids[pre.length]?=some d:=by rw [y1];simp
   obtain ⟨ai,aB⟩:=za.1 Da;have c1:(pre.length:Int)<(ids.length:Int):=by omega
   have hw:=Wi ((pre.length:Int)+1);have hq:(pre.length+1)*32≤70368744177664:=by omega
   have LO:(gP pre).length=pre.length:=by simp [gP]
   have mf:((gP pre).length+1)*32≤70368744177664:=by omega
   unfold Tz;refine Ud (J8 Da aB ai c1 hw LO hq mf) ?_;exact ⟨(pre++[d],rest),(by simp [gP];try omega),by rw [y1];simp,by simp⟩
 ·have hd:dn cols b=none:=J9 gL;refine Ud (J6 h h2 hb hg gL hd) ?_;simp [pR,hd]
def oH (nx:Int) (L:List bp):Bool:=decide (nx=0)&&decide (L=[])
theorem als (L:List bp):Ba L []=decide (L=[]):=by
 unfold Ba;cases L with
 |nil=>simp [xO]
 |cons x l=>simp
def eg (cols:List Int) (gen kind nx:Int) (L:List bp) (G:List Int):Bool:=
 if kind=0 then decide (0≤gen)&&oH nx L&&decide (G=[])
 else if kind=1 then decide (0≤gen)&&lY cols nx L&&decide (G=[])
 else if kind=2 then decide (0≤gen)&&oH nx L&&(dn cols G).isSome
 else false
@[simp] theorem arL (ao:List bp) (h:ao.length≤1048576):Gw TT 461 [.st [ri eu,rl k0 2 (ao.map bp.e)]]=some (vb (oH eu ao),[]):=by
 refine Ga Eg O4 ?_;unfold O4;by_cases e1:eu=0
 ·by_cases e2:ao=[]
  ·refine Ua (J2 e1 e2) ?_;simp [Eg,oH,e1,e2]
  ·refine Ua (J2 e1 e2) ?_;simp [Eg,oH,e1,e2]
 ·refine Ua e1 ?_;simp [Eg,oH,e1]
@[simp] theorem arK (cols:List Int) (iL cd iy:Int) (fA:List bp) (eI:List Int) (h:cols.length≤1048576) (h5:fA.length≤1048576) (hs:bp.aJ fA) (dY:eI.length≤1048576) (hb:bI eI):Gw TT 430 [.one (rl k0 1 (cols.map ei)),.st (m_ k1 iL cd iy fA eI)]=some (vb (eg cols iL cd iy fA eI),[]):=by
 refine Ga kz OP ?_;unfold OP;have kF:=fun k0 k1:Bool=>t83 k0 k1 iy 0 fA [] h5 hs (by simp) (fun v hv=>by simp at hv)
 have iW:(iy==0&&Ba fA [])=oH iy fA:=by
  rw [als];unfold oH;by_cases e:iy=0<;>simp [e]
 simp only [zx,iW] at kF;by_cases g0:0≤iL
 ·by_cases q0:cd=0
  ·subst q0;cases e1:oH iy fA with
   |false=>
    refine Uw (J7 h h5 hs dY kF g0 e1) ?_;simp [kz,eg,g0,e1]
   |true=>
    by_cases e2:eI=[]
    ·refine Uw (J8 h h5 hs dY kF g0 e1 e2) ?_;simp [kz,eg,g0,e1,e2]
    ·refine Uw (J8 h h5 hs dY kF g0 e1 e2) ?_;simp [kz,eg,g0,e1,e2]
  ·by_cases q1:cd=1
   ·subst q1;cases e1:lY cols iy fA with
    |false=>
     refine Uw (J7 h h5 hs dY kF g0 e1) ?_;simp [kz,eg,g0,e1]
    |true=>
     by_cases e2:eI=[]
     ·refine Uw (J8 h h5 hs dY kF g0 e1 e2) ?_;simp [kz,eg,g0,e1,e2]
     ·refine Uw (J8 h h5 hs dY kF g0 e1 e2) ?_;simp [kz,eg,g0,e1,e2]
   ·by_cases q2:cd=2
    ·subst q2;have cF:=fun k0 k1:Bool=>UX k0 k1 cols eI h dY hb
     cases e1:oH iy fA with
     |false=>
      cases e2:dn cols eI with
      |none=>
       rw [e2] at cF;refine Uw (J8 h h5 hs dY kF g0 e1 cF) ?_;simp [kz,eg,g0,e1,e2]
      |some rows=>
       rw [e2] at cF;refine Uw (J8 h h5 hs dY kF g0 e1 cF) ?_;simp [kz,eg,g0,e1,e2]
     |true=>
      cases e2:dn cols eI with
      |none=>
       rw [e2] at cF;refine Uw (J8 h h5 hs dY kF g0 e1 cF) ?_;simp [kz,eg,g0,e1,e2]
      |some rows=>
       rw [e2] at cF;refine Uw (J8 h h5 hs dY kF g0 e1 cF) ?_;simp [kz,eg,g0,e1,e2]
    ·skip;refine Uw (J8 h h5 hs dY kF g0 q0 (J2 q1 q2)) ?_;repeat intro hc
     simp [kz,eg,g0,q0,q1,q2]
 ·by_cases q0:cd=0
  ·subst q0;cases e1:oH iy fA with
   |false=>
    refine Uw (J7 h h5 hs dY kF g0 e1) ?_;simp [kz,eg,g0,e1]
   |true=>
    by_cases e2:eI=[]
    ·refine Uw (J8 h h5 hs dY kF g0 e1 e2) ?_;simp [kz,eg,g0,e1,e2]
    ·refine Uw (J8 h h5 hs dY kF g0 e1 e2) ?_;simp [kz,eg,g0,e1,e2]
  ·by_cases q1:cd=1
   ·subst q1;cases e1:lY cols iy fA with
    |false=>
     refine Uw (J7 h h5 hs dY kF g0 e1) ?_;simp [kz,eg,g0,e1]
    |true=>
     by_cases e2:eI=[]
     ·refine Uw (J8 h h5 hs dY kF g0 e1 e2) ?_;simp [kz,eg,g0,e1,e2]
     ·refine Uw (J8 h h5 hs dY kF g0 e1 e2) ?_;simp [kz,eg,g0,e1,e2]
   ·by_cases q2:cd=2
    ·subst q2;have cF:=fun k0 k1:Bool=>UX k0 k1 cols eI h dY hb
     cases e1:oH iy fA with
     |false=>
      cases e2:dn cols eI with
      |none=>
       rw [e2] at cF;refine Uw (J8 h h5 hs dY kF g0 e1 cF) ?_;simp [kz,eg,g0,e1,e2]
      |some rows=>
       rw [e2] at cF;refine Uw (J8 h h5 hs dY kF g0 e1 cF) ?_;simp [kz,eg,g0,e1,e2]
     |true=>
      cases e2:dn cols eI with
      |none=>
       rw [e2] at cF;refine Uw (J8 h h5 hs dY kF g0 e1 cF) ?_;simp [kz,eg,g0,e1,e2]
      |some rows=>
       rw [e2] at cF;refine Uw (J8 h h5 hs dY kF g0 e1 cF) ?_;simp [kz,eg,g0,e1,e2]
    ·skip;refine Uw (J8 h h5 hs dY kF g0 q0 (J2 q1 q2)) ?_;repeat intro hc
     simp [kz,eg,g0,q0,q1,q2]
@[simp] theorem arJ (cols:List Int) (iL cd iy:Int) (fA:List bp) (eI:List Int) (h:cols.length≤1048576) (h5:fA.length≤1048576) (hs:bp.aJ fA) (dY:eI.length≤1048576) (hb:bI eI):Gw TT 429 [.one (rl k0 1 (cols.map ei)),.st (m_ k1 iL cd iy fA eI)]=some (vb (eg cols iL cd iy fA eI),[]):=by
 refine Ga jL OO ?_;unfold OO;by_cases g0:0≤iL
 ·by_cases q0:cd=0
  ·subst q0;cases e1:oH iy fA with
   |false=>
    refine Uw (J6 h h5 hs dY g0 e1) ?_;simp [jL,eg,g0,e1]
   |true=>
    by_cases e2:eI=[]
    ·refine Uw (J7 h h5 hs dY g0 e1 e2) ?_;simp [jL,eg,g0,e1,e2]
    ·refine Uw (J7 h h5 hs dY g0 e1 e2) ?_;simp [jL,eg,g0,e1,e2]
  ·by_cases q1:cd=1
   ·subst q1;cases e1:lY cols iy fA with
    |false=>
     refine Uw (J6 h h5 hs dY g0 e1) ?_;simp [jL,eg,g0,e1]
    |true=>
     by_cases e2:eI=[]
     ·refine Uw (J7 h h5 hs dY g0 e1 e2) ?_;simp [jL,eg,g0,e1,e2]
     ·refine Uw (J7 h h5 hs dY g0 e1 e2) ?_;simp [jL,eg,g0,e1,e2]
   ·by_cases q2:cd=2
    ·subst q2;have cF:=fun k0 k1:Bool=>EN k0 k1 cols eI h dY hb
     cases e1:oH iy fA with
     |false=>
      cases e2:dn cols eI with
      |none=>
       rw [e2] at cF;refine Uw (J7 h h5 hs dY g0 e1 cF) ?_;simp [jL,eg,g0,e1,e2]
      |some rows=>
       rw [e2] at cF;refine Uw (J7 h h5 hs dY g0 e1 cF) ?_;simp [jL,eg,g0,e1,e2]
     |true=>
      cases e2:dn cols eI with
      |none=>
       rw [e2] at cF;refine Uw (J7 h h5 hs dY g0 e1 cF) ?_;simp [jL,eg,g0,e1,e2]
      |some rows=>
       rw [e2] at cF;refine Uw (J7 h h5 hs dY g0 e1 cF) ?_;simp [jL,eg,g0,e1,e2]
    ·skip;have cF:=fun k0 k1:Bool=>EN k0 k1 cols eI h dY hb
     cases e2:dn cols eI with
     |none=>
      rw [e2] at cF;refine Uw (J8 h h5 hs dY g0 q0 q1 (J2 q2 cF)) ?_;repeat intro hc
      simp [jL,eg,g0,q0,q1,q2]
     |some rows=>
      rw [e2] at cF;refine Uw (J8 h h5 hs dY g0 q0 q1 (J2 q2 cF)) ?_;repeat intro hc
      simp [jL,eg,g0,q0,q1,q2]
 ·by_cases q0:cd=0
  ·subst q0;cases e1:oH iy fA with
   |false=>
    refine Uw (J6 h h5 hs dY g0 e1) ?_;simp [jL,eg,g0,e1]
   |true=>
    by_cases e2:eI=[]
    ·refine Uw (J7 h h5 hs dY g0 e1 e2) ?_;simp [jL,eg,g0,e1,e2]
    ·refine Uw (J7 h h5 hs dY g0 e1 e2) ?_;simp [jL,eg,g0,e1,e2]
  ·by_cases q1:cd=1
   ·subst q1;cases e1:lY cols iy fA with
    |false=>
     refine Uw (J6 h h5 hs dY g0 e1) ?_;simp [jL,eg,g0,e1]
    |true=>
     by_cases e2:eI=[]
     ·refine Uw (J7 h h5 hs dY g0 e1 e2) ?_;simp [jL,eg,g0,e1,e2]
     ·refine Uw (J7 h h5 hs dY g0 e1 e2) ?_;simp [jL,eg,g0,e1,e2]
   ·by_cases q2:cd=2
    ·subst q2;have cF:=fun k0 k1:Bool=>EN k0 k1 cols eI h dY hb
     cases e1:oH iy fA with
     |false=>
      cases e2:dn cols eI with
      |none=>
       rw [e2] at cF;refine Uw (J7 h h5 hs dY g0 e1 cF) ?_;simp [jL,eg,g0,e1,e2]
      |some rows=>
       rw [e2] at cF;refine Uw (J7 h h5 hs dY g0 e1 cF) ?_;simp [jL,eg,g0,e1,e2]
     |true=>
      cases e2:dn cols eI with
      |none=>
       rw [e2] at cF;refine Uw (J7 h h5 hs dY g0 e1 cF) ?_;simp [jL,eg,g0,e1,e2]
      |some rows=>
       rw [e2] at cF;refine Uw (J7 h h5 hs dY g0 e1 cF) ?_;simp [jL,eg,g0,e1,e2]
    ·skip;have cF:=fun k0 k1:Bool=>EN k0 k1 cols eI h dY hb
     cases e2:dn cols eI with
     |none=>
      rw [e2] at cF;refine Uw (J8 h h5 hs dY g0 q0 q1 (J2 q2 cF)) ?_;repeat intro hc
      simp [jL,eg,g0,q0,q1,q2]
     |some rows=>
      rw [e2] at cF;refine Uw (J8 h h5 hs dY g0 q0 q1 (J2 q2 cF)) ?_;repeat intro hc
      simp [jL,eg,g0,q0,q1,q2]
def gX (cols:List Int) (B:List aU) (r:aL):List aA:=if r.Kind=2∧jk B r.dW r.fW r.Kind r.ek=true then (match B[r.dW.toNat]? with
 |some b=>(dn cols b.G).getD []
 |none=>[]) else []
def arc (cols:List Int) (B:List aU) (r:aL):Int:=if kx B r=true then (match B[r.dW.toNat]? with
 |some b=>(b.C.L.length:Int)
 |none=>0) else ((gX cols B r).length:Int)
theorem Cx {B:List aU} {buf gen kind many:Int} (h:jk B buf gen kind many=true):∃b,B[buf.toNat]?=some b∧0≤buf∧buf<(B.length:Int)∧b∈B:=by
 by_cases hb:0≤buf∧buf<(B.length:Int)
 ·have:B[buf.toNat]?=some B[buf.toNat]:=zg (by omega);exact ⟨_,this,hb.1,hb.2,zd this⟩
 ·rw [ID hb] at h;cases h
@[simp] theorem acZ (h:ae.length≤1048576) (aD:af.length≤1048576) (hG:∀b∈ae,b.G.length≤1048576∧bI b.G):Gw TT 449 [.st (cb k0 af ax aM aG ak aI aK au ae aj aw aH aq az),.st (lX bo bz bV bj aZ)]=some (.one (.own (.sl 2 ((gX af ae ⟨bo,bz,bV,bj,aZ⟩).map aA.e))),[]):=by
 refine Ga Cb OR ?_;unfold OR;by_cases hk:bV=2
 ·subst hk;cases ht:jk ae bo bz 2 aZ with
  |false=>
   have hg:gX af ae ⟨bo,bz,2,bj,aZ⟩=[]:=by unfold gX;rw [if_neg (by rw [ht];simp)]
   refine Ua (J2 h ht) ?_;simp [Cb,hg]
  |true=>
   obtain ⟨⟨bg,bk,⟨bn,bL⟩,bG⟩,hb,jr,iV,tq⟩:=Cx ht;obtain ⟨rS,qn⟩:=hG _ tq;simp only at rS qn;obtain ⟨ai,he⟩:=za.1 hb;have cF:=fun k0 k1:Bool=>UX k0 k1 af bG aD rS qn
   cases uK:dn af bG with
   |none=>
    have hg:gX af ae ⟨bo,bz,2,bj,aZ⟩=[]:=by unfold gX;rw [if_pos ⟨rfl,ht⟩];simp only;rw [hb];simp [uK]
    rw [uK] at cF;refine Ua (J8 h ht jr iV he hb ai cF) ?_;simp [Cb,hg]
   |some l=>
    have hg:gX af ae ⟨bo,bz,2,bj,aZ⟩=l:=by unfold gX;rw [if_pos ⟨rfl,ht⟩];simp only;rw [hb];simp [uK]
    rw [uK] at cF;refine Ua (J8 h ht jr iV he hb ai cF) ?_;simp [Cb,hg]
 ·have hg:gX af ae ⟨bo,bz,bV,bj,aZ⟩=[]:=by unfold gX;rw [if_neg (fun e=>hk e.1)]
  refine Ua (J2 h hk) ?_;simp [Cb,hg]
theorem acY (bg bk bn:Int) (bL:List bp) (bG:List Int) (hb:ae[bo.toNat]?=some ⟨bg,bk,⟨bn,bL⟩,bG⟩) (jr:0≤bo) (iV:bo<(ae.length:Int)) (aD:af.length≤1048576) (rS:bG.length≤1048576) (qn:bI bG):
 Gw TT 446 [.st (cb k0 af ax aM aG ak aI aK au ae aj aw aH aq az),.st (lX bo bz bV bj aZ)]=some (.one (.own (.sl 2 (((dn af bG).getD []).map aA.e))),[]):=by
 refine Ga GR OQ ?_;unfold OQ;obtain ⟨ai,he⟩:=za.1 hb;have cF:=fun k0 k1:Bool=>EN k0 k1 af bG aD rS qn
 cases uK:dn af bG with
 |none=>
  rw [uK] at cF;refine Ua (J6 jr iV he hb ai cF) ?_;simp [GR]
 |some l=>
  rw [uK] at cF;refine Ua (J6 jr iV he hb ai cF) ?_;simp [GR]
def sr (cols:List Int) (B:List aU) (r:aL) (j:Int):Option aA:=if kx B r=true then (match B[r.dW.toNat]? with
 |some b=>if 0≤j then (match b.C.L[j.toNat]? with
  |some s=>some ⟨IntKind.wrap .i64 (r.iz+j),s.L⟩
  |none=>none) else none
 |none=>none) else if 0≤j then (gX cols B r)[j.toNat]? else none
def Ir (r:Option aA):V:=match r with
 |some x=>.cf [.st [.ro false (di x.Id),.own (.sl 3 (x.L.map ab.e))],vb true]
 |none=>.cf [.st [.ro false (di 0),.own (.sl 3 [])],vb false]
@[simp] theorem ace (a:Int) (l:List ab):Ir (some ⟨a,l⟩)=.cf [.st [.ro false (di a),.own (.sl 3 (l.map ab.e))],vb true]:=rfl
@[simp] theorem acd:Ir none=.cf [.st [.ro false (di 0),.own (.sl 3 [])],vb false]:=rfl
theorem acb {cols:List Int} {B:List aU} {r:aL} {m:Nat} {b:aU} {s:bp} (hc:kx B r=true) (hb:B[r.dW.toNat]?=some b) (hm:b.C.L[m]?=some s):sr cols B r (m:Int)=some ⟨IntKind.wrap .i64 (r.iz+(m:Int)),s.L⟩:=by
 unfold sr;rw [if_pos hc,hb];simp only;rw [if_pos (by omega),show ((m:Int)).toNat=m by omega,hm]
theorem ab' {cols:List Int} {B:List aU} {r:aL} {j:Int} {b:aU} (hc:kx B r=true) (hb:B[r.dW.toNat]?=some b) (hm:¬(0≤j∧j<(b.C.L.length:Int))):sr cols B r j=none:=by
 unfold sr;rw [if_pos hc,hb];simp only;split
 ·rw [zj (by omega)]
 ·rfl
theorem aca {cols:List Int} {B:List aU} {r:aL} {m:Nat} {x:aA} (hc:¬kx B r=true) (hm:(gX cols B r)[m]?=some x):sr cols B r (m:Int)=some x:=by
 unfold sr;rw [if_neg hc,if_pos (by omega),show ((m:Int)).toNat=m by omega,hm]
theorem ab_ {cols:List Int} {B:List aU} {r:aL} {j:Int} (hc:¬kx B r=true) (hm:¬(0≤j∧j<((gX cols B r).length:Int))):sr cols B r j=none:=by
 unfold sr;rw [if_neg hc];split
 ·rw [zj (by omega)]
 ·rfl
theorem W4:((dn cols b).getD []).length≤1048576:=by
 cases hg:dn cols b with
 |none=>simp
 |some l=>
  unfold dn at hg;split at hg
  ·split at hg
   ·split at hg
    ·split at hg
     ·rename_i hh;simp only [zC] at hg;subst hg;have:=(UB hh.2).2.1;simp;omega
     ·cases hg
    ·cases hg
   ·cases hg
  ·cases hg
theorem acu {cols:List Int} (hc:cols.length≤3):∀{l:List aA} {p:Option Int},mS cols p l=true→∀r∈l,r.L.length≤3
 |[],_,_,r,hr=>by simp at hr
 |x::l,p,h,r,hr=>by
  simp only [mS] at h;split at h
  ·rename_i hx;rcases zB.1 hr with rfl|hr
   ·have:=hx.1;simp only [qG,lp,zp,decide_eq_true_eq] at this;omega
   ·exact acu hc h r hr
  ·cases h
theorem afh (cols b:List Int):∀r∈(dn cols b).getD [],r.L.length≤3:=by
 cases hg:dn cols b with
 |none=>intro r hr;simp at hr
 |some l=>
  unfold dn at hg;split at hg
  ·split at hg
   ·rename_i gL;split at hg
    ·split at hg
     ·rename_i hh;simp only [zC] at hg;subst hg;have h3:=hh.2;simp only [gG,zp] at h3;exact fun r hr=>acu (Fm gL).2 h3.2.2 r (by simpa using hr)
     ·cases hg
    ·cases hg
   ·cases hg
  ·cases hg
theorem UW (j:Int) (h:ae.length≤1048576) (hs:aU.aJ ae) (aD:af.length≤1048576) (hG:∀b∈ae,b.G.length≤1048576∧bI b.G):Gw TT 424 [.st (cb k0 af ax aM aG ak aI aK au ae aj aw aH aq az),.st (lX bo bz bV bj aZ),vi j]=some (Ir (sr af ae ⟨bo,bz,bV,bj,aZ⟩ j),[]):=by
 refine Ga xz OJ ?_;unfold OJ;have xe:=fun k:Bool=>acZ k af ax aM aG ak aI aK au ae aj aw aH aq az bo bz bV bj aZ h aD hG
 cases oM:kx ae ⟨bo,bz,bV,bj,aZ⟩ with
 |true=>
  obtain ⟨⟨bg,bk,⟨bn,bL⟩,bG⟩,hb,jr,iV,tq⟩:=abr oM;simp only at hb jr iV;have yu:=fun k:Bool=>amF k af ax aM aG ak aI aK au ae aj aw aH aq az bo bz bV bj aZ h oM _ hb
  by_cases q:0≤j∧j<(bL.length:Int)
  ·skip;obtain ⟨m,rfl⟩:=zi q.1;have hm:m<bL.length:=by omega
   obtain ⟨⟨sI,sL⟩,gE⟩:∃s,bL[m]?=some s:=⟨_,zg hm⟩;have fx:=(za.1 gE).2;have lC:sL.length≤1048576:=((hs _ tq).1.2 ⟨sI,sL⟩ (zd gE)).1;have q0:=q.1;have q1:=q.2;have hr:=acb (cols:=af) oM hb gE;simp only at hr;refine Ud (J8 yu q0 q1 hm gE fx lC hr) ?_;repeat intro hc
   simp [xz,hr]
  ·have hr:=ab' (cols:=af) oM hb q;have hk1:bV=1:=by simp only [kx,zp,beq_iff_eq] at oM;exact oM.1
   have hg:gX af ae ⟨bo,bz,bV,bj,aZ⟩=[]:=by unfold gX;rw [if_neg (fun e=>by simp only at e;omega)]
   rw [hg] at xe;simp only [zx] at xe;by_cases q0:0≤j
   ·have q1:¬j<(bL.length:Int):=fun e=>q ⟨q0,e⟩
    have q2:¬j<0:=by omega
    refine Ud (J6 yu q0 q1 q2 xe hr) ?_;repeat intro hc
    simp [xz,hr]
   ·refine Ud (J4 yu q0 xe hr) ?_;repeat intro hc
    simp [xz,hr]
 |false=>
  have oQ:¬kx ae ⟨bo,bz,bV,bj,aZ⟩=true:=by rw [oM];simp
  have yu:=fun k:Bool=>amE k af ax aM aG ak aI aK au ae aj aw aH aq az bo bz bV bj aZ h oM
  obtain ⟨rows,rX⟩:∃l,l=gX af ae ⟨bo,bz,bV,bj,aZ⟩:=⟨_,rfl⟩;rw [←rX] at xe;by_cases q:0≤j∧j<(rows.length:Int)
  ·obtain ⟨m,rfl⟩:=zi q.1;have hm:m<rows.length:=by omega
   obtain ⟨⟨bU,a_⟩,gE⟩:∃s,rows[m]?=some s:=⟨_,zg hm⟩;have fx:=(za.1 gE).2;have q0:=q.1;have q1:=q.2;have hr:=aca oQ (by rw [←rX];exact gE);refine Ud (J8 yu xe q0 q1 hm gE fx hr) ?_;repeat intro hc
   simp [xz,hr]
  ·have hr:=ab_ (j:=j) oQ (by rw [←rX];exact q);by_cases q0:0≤j
   ·have q1:¬j<(rows.length:Int):=fun e=>q ⟨q0,e⟩
    refine Ud (J5 yu xe q0 q1 hr) ?_;repeat intro hc
    simp [xz,hr]
   ·refine Ud (J4 yu xe q0 hr) ?_;repeat intro hc
    simp [xz,hr]
def raI (r:Option aA):Int:=match r with
 |some x=>x.Id
 |none=>0
def A9 (r:Option aA):List ab:=match r with
 |some x=>x.L
 |none=>[]
theorem ark (r:Option aA):Ir r=.cf [.st [.ro false (di (raI r)),.own (.sl 3 ((A9 r).map ab.e))],vb r.isSome]:=by cases r<;>rfl
theorem WK:∀{cols:List Int} {l:List ab},qR cols l=true→ab.aJ l
 |_,[],_=>fun v hv=>by simp at hv
 |[],_::_,h=>by simp [qR] at h
 |c::cs,x::l,h=>fun v hv=>by
  simp only [qR] at h;split at h
  ·rename_i hx;rcases zB.1 hv with rfl|hv
   ·have:=xV hx.1;simp only [ab.sm];omega
   ·exact WK h v hv
  ·cases h
theorem acv {cols:List Int}:∀{l:List aA} {p:Option Int},mS cols p l=true→∀r∈l,ab.aJ r.L
 |[],_,_,r,hr=>by simp at hr
 |x::l,p,h,r,hr=>by
  simp only [mS] at h;split at h
  ·rename_i hx;rcases zB.1 hr with rfl|hr
   ·have:=hx.1;simp only [qG,lp,zp] at this;exact WK this.2.2
   ·exact acv h r hr
  ·cases h
theorem afi (cols b:List Int):∀r∈(dn cols b).getD [],ab.aJ r.L:=by
 cases hg:dn cols b with
 |none=>intro r hr;simp at hr
 |some l=>
  unfold dn at hg;split at hg
  ·split at hg
   ·split at hg
    ·split at hg
     ·rename_i hh;simp only [zC] at hg;subst hg;have h3:=hh.2;simp only [gG,zp] at h3;exact fun r hr=>acv h3.2.2 r (by simpa using hr)
     ·cases hg
    ·cases hg
   ·cases hg
  ·cases hg
theorem aae {cols:List Int} {B:List aU} {r:aL}:∀x∈gX cols B r,x.L.length≤1048576∧ab.aJ x.L:=by
 unfold gX;split
 ·split
  ·rename_i b _;exact fun x hx=>⟨Nat.le_trans (afh cols b.G x hx) (by omega),afi cols b.G x hx⟩
  ·intro x hx;simp at hx
 ·intro x hx;simp at hx
theorem arj {cols:List Int} {B:List aU} {r:aL} {j:Int} (hs:aU.aJ B):(A9 (sr cols B r j)).length≤1048576∧ab.aJ (A9 (sr cols B r j)):=by
 have h0:(A9 none).length≤1048576∧ab.aJ (A9 none):=⟨by simp [A9],fun v hv=>by simp [A9] at hv⟩;unfold sr;split
 ·split
  ·rename_i b hb;split
   ·split
    ·rename_i s hm;exact (hs b (zd hb)).1.2 s (zd hm)
    ·exact h0
   ·exact h0
  ·exact h0
 ·split
  ·cases hg:(gX cols B r)[j.toNat]? with
   |none=>exact h0
   |some x=>exact aae x (zd hg)
  ·exact h0
structure mZ where
 Lo:ab
 Hi:ab
@[simp] def mZ.e (z:mZ):List D:=[di z.Lo.Ty,di z.Lo.N,.str z.Lo.S,di z.Hi.Ty,di z.Hi.N,.str z.Hi.S]
def aiw (z:mZ) (v:ab):Bool:=!eD v z.Lo&&!eD z.Hi v
def abF (op:Int) (z:mZ) (v:ab):Bool:=if op=1 then eD z.Lo v else if op=2 then !eD v z.Lo else if op=3 then aiw z v else if op=4 then !cU z.Lo v||!cU z.Hi v else if op=5 then !eD z.Hi v else if op=6 then eD v z.Hi else false
def abO (op:Int):Int:=if op=1 then 5 else if op=2 then 6 else if op=3 then 4 else if op=4 then 3 else if op=5 then 1 else if op=6 then 2 else 0
def Vh (z:mZ) (v:ab):mZ:=⟨if eD v z.Lo=true then v else z.Lo,if eD z.Hi v=true then v else z.Hi⟩
def aob (z:mZ) (l:List ab):mZ:=l.foldl Vh z
def aoa:List ab→mZ
 |[]=>⟨⟨0,0,⟨#[]⟩⟩,⟨0,0,⟨#[]⟩⟩⟩
 |v::l=>aob ⟨v,v⟩ l
theorem atg (v:ab):Vh ⟨v,v⟩ v=⟨v,v⟩:=by simp [Vh]
def IQ (l:List aA):List mZ:=match l with
 |[]=>[]
 |r::_=>(List.range r.L.length).map fun k=>aoa (fQ k l)
def DP (z:List mZ) (b:Bool) (c o:Int) (v:ab):Bool:=if 0≤c then (match z[c.toNat]? with
 |some w=>abF (if b=true then o else abO o) w v
 |none=>!b) else !b
mutual
def Gc (z:List mZ):Bool→an→Bool
 |b,⟨k,c,o,v,l⟩=>if k=1 then b else if k=2 then DP z b c o v else if k=3 then (if b=true then MH z b l else MI z b l) else if k=4 then (if b=true then MI z b l else MH z b l) else if k=5 then ajH z b l else !b
def MH (z:List mZ):Bool→List an→Bool
 |_,[]=>true
 |b,x::l=>Gc z b x&&MH z b l
def MI (z:List mZ):Bool→List an→Bool
 |_,[]=>false
 |b,x::l=>Gc z b x||MI z b l
def ajH (z:List mZ):Bool→List an→Bool
 |_,[]=>true
 |b,x::_=>Gc z (!b) x
end
theorem aq1 {z:List mZ} {b:Bool} {c o:Int} {v:ab} (h:¬(0≤c∧c<(z.length:Int))):DP z b c o v=!b:=by
 unfold DP;split
 ·rw [zj (by omega)]
 ·rfl
theorem aq0 {z:List mZ} {b:Bool} {m:Nat} {o:Int} {v:ab} {w:mZ} (h:z[m]?=some w):DP z b (m:Int) o v=abF (if b=true then o else abO o) w v:=by
 unfold DP;rw [if_pos (by omega),show ((m:Int)).toNat=m by omega,h]
def arq (cols:List Int) (B:List aU) (r:aL) (p:an):Bool:=decide (r.Kind=2)&&(jk B r.dW r.fW r.Kind r.ek&&!Gc (IQ (gX cols B r)) true p)
theorem afA {cols:List Int} {B:List aU} {r:aL}:(gX cols B r).length≤1048576:=by
 unfold gX;split
 ·split
  ·exact W4 cols _
  ·simp
 ·simp
theorem ao2 {cols:List Int} {B:List aU} {r:aL}:aA.aJ (gX cols B r):=fun x hx=>by
 have:=aae x hx;simpa only [aA.sm] using this
theorem ath {l:List aA} (hs:aA.aJ l):(IQ l).length≤1048576:=by
 rcases l with _|⟨r,t⟩
 ·simp [IQ]
 ·have:=(hs r (by simp)).1;simpa [IQ] using this
def iq (c o:Int) (v:ab):Bool:=decide (c=0)&&(decide (o=0)&&cU v ⟨0,0,⟨#[]⟩⟩)
def iT (cols:List Int) (c o:Int) (v:ab):Bool:=(decide (0≤c)&&decide (c<(cols.length:Int)))&&((decide (1≤o)&&decide (o≤6))&&(ec v.Ty v.N v.S&&decide (some v.Ty=cols[c.toNat]?)))
def gy (cols:List Int) (k c o:Int) (v:ab) (n:Int):Bool:=if k=1 then iq c o v&&(n==0) else if k=2 then iT cols c o v&&(n==0) else if k=3∨k=4 then iq c o v&&(decide (1≤n)&&decide (n≤4)) else decide (k=5)&&(iq c o v&&(n==1))
mutual
def sW:an→Int
 |⟨_,_,_,_,l⟩=>sX 1 l
def sX (s:Int):List an→Int
 |[]=>s
 |x::l=>sX (IntKind.wrap .i64 (s+sW x)) l
end
mutual
def oK (cols:List Int) (d:Int):an→Bool
 |⟨k,c,o,v,l⟩=>if 4<d then false else s_ cols (IntKind.wrap .i64 (d+1)) l&&gy cols k c o v (l.length:Int)
def s_ (cols:List Int) (d:Int):List an→Bool
 |[]=>true
 |x::l=>oK cols d x&&s_ cols d l
end
mutual
def gU (cols:List Int) (d:Int):an→Int
 |⟨k,c,o,v,l⟩=>if d<1∨4<l.length then -1 else if gy cols k c o v (l.length:Int)=true then sY cols (IntKind.wrap .i64 (d-1)) 1 l else -1
def sY (cols:List Int) (d s:Int):List an→Int
 |[]=>s
 |x::l=>if gU cols d x<0 then -1 else sY cols d (IntKind.wrap .i64 (s+gU cols d x)) l
end
def IT (x:an):Prop:=∀k1:Bool,x.sm→Gw TT 349 [.st [.ro false (di x.Kind),.ro false (di x.hZ),.ro false (di x.Op),.ro false (di x.V.Ty),.ro false (di x.V.N),.ro false (.str x.V.S),.ro k1 (.sl 7 (x.L.map an.e))]]=some (vi (sW x),[])
theorem adB (IH:∀y∈x.L,IT y):IT x:=by
 intro k1 hx;obtain ⟨cd,cH,cG,⟨dG,dF,cV⟩,ao⟩:=x;simp only [an.iJ,ab.sm,and_assoc] at hx;obtain ⟨m1,m2,m3⟩:=hx;refine Ga Se Ox ?_;unfold Ox;refine Ud Oo ?_;refine ba (σ:=List an×List an×Int) (fun s=>[(1,AV.bx 1 0,some (Rt.bx (rG k1 cd cH cG dG dF cV ao))),(3,vn s.2.2,none),(4,vn ((s.1.length:Nat):Int),none)]) (fun s=>ao=s.1++s.2.1∧sX 1 ao=sX s.2.2 s.2.1) (fun s=>s.2.1.length) ([],ao,1) (by simp) ⟨rfl,rfl⟩ ?_;rintro ⟨p2,r2,a⟩ ⟨y1,y2⟩;simp only at y1 y2;have y3:ao.length=p2.length+r2.length:=by rw [y1,zb]
 rcases r2 with _|⟨⟨cO,eY,ch,⟨fF,fE,eZ⟩,a_⟩,r2⟩
 ·simp only [zf] at y3;simp only [sX] at y2;have y4:¬(p2.length:Int)<(ao.length:Int):=by omega
  unfold Tq;refine Ud y4 ?_;repeat intro hc
  simp [Se,sW,y2]
 ·skip;simp only [ze] at y3;have ey:ao[p2.length]?=some ⟨cO,eY,ch,⟨fF,fE,eZ⟩,a_⟩:=by rw [y1];simp
  obtain ⟨ai,gZ⟩:=za.1 ey;have eW:=zd ey;have y4:(p2.length:Int)<(ao.length:Int):=by omega
  have hw:=Wi ((p2.length:Int)+1);have hn:=IH _ eW k1 (an.su m3 _ eW);simp only at hn;simp only [sX] at y2;unfold Tq;refine Ud (J6 ey gZ ai y4 hw hn) ?_;repeat intro hc
  exact ⟨(p2++[⟨cO,eY,ch,⟨fF,fE,eZ⟩,a_⟩],r2,IntKind.wrap .i64 (a+sW ⟨cO,eY,ch,⟨fF,fE,eZ⟩,a_⟩)),(by simp),⟨by rw [y1];simp,y2⟩,by simp⟩
theorem Vi (x:an):IT x:=adB x fun y hy=>Vi y
termination_by zt x
decreasing_by
 have h1:=zy hy;have h2:zt x.L<zt x:=by cases x;simp;omega
 omega
def IV (cols:List Int) (x:an):Prop:=∀(k0 k1:Bool) (dp:Int),x.sm→Gw TT 350 [.one (.ro k0 (.sl 1 (cols.map ei))),.st [.ro false (di x.Kind),.ro false (di x.hZ),.ro false (di x.Op),.ro false (di x.V.Ty),.ro false (di x.V.N),.ro false (.str x.V.S),.ro k1 (.sl 7 (x.L.map an.e))],vi dp]=some (vb (oK cols dp x),[])
theorem adD (hc:cols.length≤1048576) (x:an) (IH:∀y∈x.L,IV cols y):IV cols x:=by
 intro k0 k1 dp hx;obtain ⟨cd,cH,cG,⟨dG,dF,cV⟩,ao⟩:=x;simp only [an.iJ,ab.sm,and_assoc] at hx;obtain ⟨m1,m2,m3⟩:=hx;refine Ga sg Oy ?_;unfold Oy;by_cases g0:4<dp
 ·refine Ud g0 ?_;repeat intro hc
  simp [sg,oK,g0]
 refine Ud g0 ?_;repeat intro hc
 refine ba (σ:=List an×List an) (fun s=>[(0,AV.v k0 (D.sl 1 (cols.map ei)),none),(2,vn dp,none),(4,AV.bx 4 0,some (Rt.bx (rG k1 cd cH cG dG dF cV ao))),(7,vn ((s.1.length:Nat):Int),none)]) (fun s=>ao=s.1++s.2∧s_ cols (IntKind.wrap .i64 (dp+1)) ao=s_ cols (IntKind.wrap .i64 (dp+1)) s.2) (fun s=>s.2.length) ([],ao) (by simp) ⟨rfl,rfl⟩ ?_;rintro ⟨p2,r2⟩ ⟨y1,y2⟩;simp only at y1 y2;have y3:ao.length=p2.length+r2.length:=by rw [y1,zb]
 rcases r2 with _|⟨⟨cO,eY,ch,⟨fF,fE,eZ⟩,a_⟩,r2⟩
 ·simp only [zf] at y3;simp only [s_] at y2;have y4:¬(p2.length:Int)<(ao.length:Int):=by omega
  have hr:oK cols dp ⟨cd,cH,cG,⟨dG,dF,cV⟩,ao⟩=gy cols cd cH cG ⟨dG,dF,cV⟩ (ao.length:Int):=by simp [oK,g0,y2]
  rw [hr];unfold Tr;have gF:=Wi ((cols.length:Int)-1);by_cases z2:cd=2
  ·subst z2;by_cases g1:0≤cH∧cH<(cols.length:Int)
   ·obtain ⟨g2,g4⟩:=g1;obtain ⟨v,hv⟩:∃v,cols[cH.toNat]?=some v:=⟨_,zg (by omega)⟩;obtain ⟨kG,fO⟩:=za.1 hv;have g3:cH≤(cols.length:Int)-1:=by omega
    repeat' first|refine Zs ?_|((with_reducible refine Xk fun K k=>?_);simp [y4,m1,hv,kG,fO,g2,g3,g4,gF];(repeat' (with_reducible first|refine k _ ?_|(refine fq ?_ ?_<;>(intro hc;(try rw [zu] at hc);first|(exfalso;omega)|(try simp [hc,y4,m1,hv,kG,fO,g2,g3,g4,gF])))));all_goals clear k K)|(refine We rfl ?_ ?_<;>intro hc<;>(try simp at hc)<;>first|(exfalso;omega)|skip)
    all_goals first|(simp [sg,gy,iq,iT,cU, *];done)|(simp_all [sg,gy,iq,iT,cU];done)
   ·have g2:¬(0≤cH∧cH≤(cols.length:Int)-1):=by omega
    refine Ud (J3 y4 m1 gF) ?_ ?_ ?_;all_goals repeat intro hc
    all_goals first|(simp [sg,gy,iq,iT,cU, *];done)|(simp_all [sg,gy,iq,iT,cU];done)
  by_cases z1:cd=1
  ·subst z1;refine Ud y4 ?_ ?_ ?_ ?_;all_goals repeat intro hc
   all_goals simp [sg,gy,iq,iT,cU, *]
  by_cases z3:cd=3
  ·subst z3;refine Ud y4 ?_ ?_ ?_ ?_;all_goals repeat intro hc
   all_goals simp [sg,gy,iq,iT,cU, *]
  by_cases z4:cd=4
  ·subst z4;refine Ud y4 ?_ ?_ ?_ ?_;all_goals repeat intro hc
   all_goals simp [sg,gy,iq,iT,cU, *]
  repeat' first|refine Zs ?_|((with_reducible refine Xk fun K k=>?_);simp [y4,z1,z2,z3,z4];(repeat' (with_reducible first|refine k _ ?_|(refine fq ?_ ?_<;>(intro hc;(try rw [zu] at hc);first|(exfalso;omega)|(try simp [hc,y4,z1,z2,z3,z4])))));all_goals clear k K)|(refine We rfl ?_ ?_<;>intro hc<;>(try simp at hc)<;>first|(exfalso;omega)|skip)
  all_goals simp [sg,gy,iq,iT,cU, *]
 ·skip;simp only [ze] at y3;have ey:ao[p2.length]?=some ⟨cO,eY,ch,⟨fF,fE,eZ⟩,a_⟩:=by rw [y1];simp
  obtain ⟨ai,gZ⟩:=za.1 ey;have eW:=zd ey;have y4:(p2.length:Int)<(ao.length:Int):=by omega
  have hw:=Wi ((p2.length:Int)+1);have hn:=IH _ eW k0 k1 (IntKind.wrap .i64 (dp+1)) (an.su m3 _ eW);simp only at hn;simp only [s_] at y2;unfold Tr;cases hb:oK cols (IntKind.wrap .i64 (dp+1)) ⟨cO,eY,ch,⟨fF,fE,eZ⟩,a_⟩ with
  |false=>
   rw [hb] at hn y2;refine Ud (J6 ey gZ ai y4 hw hn) ?_;repeat intro hc
   simp [sg,oK,g0,y2]
  |true=>
   rw [hb] at hn y2;refine Ud (J6 ey gZ ai y4 hw hn) ?_;repeat intro hc
   exact ⟨(p2++[⟨cO,eY,ch,⟨fF,fE,eZ⟩,a_⟩],r2),(by simp),⟨by rw [y1];simp,by rw [y2];simp⟩,by simp⟩
theorem Vk (cols:List Int) (hc:cols.length≤1048576) (x:an):IV cols x:=adD cols hc x fun y hy=>Vk cols hc y
termination_by zt x
decreasing_by
 have h1:=zy hy;have h2:zt x.L<zt x:=by cases x;simp;omega
 omega
def E2 (cols:List Int) (x:an):Prop:=∀(k0 k1:Bool) (dp:Int),x.sm→Gw TT 567 [.one (.ro k0 (.sl 1 (cols.map ei))),.st [.ro false (di x.Kind),.ro false (di x.hZ),.ro false (di x.Op),.ro false (di x.V.Ty),.ro false (di x.V.N),.ro false (.str x.V.S),.ro k1 (.sl 7 (x.L.map an.e))],vi dp]=some (vi (gU cols dp x),[])
theorem CB {Q:Out→Prop} (cols:List Int) (k0 k1:Bool) (dp:Int) {d0 d1 d2 d3 d4 d5:D} (ao:List an) (m2:ao.length≤1048576) (m3:an.aJ ao) (IH:∀y∈ao,E2 cols y)
 (h1:Q (.exit 1 [(0,AV.v k0 (D.sl 1 (cols.map ei)),none),(2,vn dp,none),(4,AV.bx 4 0,some (Rt.bx [.ro false d0,.ro false d1,.ro false d2,.ro false d3,.ro false d4,.ro false d5,rl k1 7 (ao.map an.e)])),(9,vn (sY cols (IntKind.wrap .i64 (dp-1)) 1 ao),none),(103,AV.v k1 (D.sl 7 (ao.map an.e)),none),(104,vn (ao.length:Nat),none),(105,vn (ao.length:Nat),none),(106,AV.v false (.bool false),none)]))
 (h2:sY cols (IntKind.wrap .i64 (dp-1)) 1 ao=-1→Q (.ret [(6,vn (-1),none)])):Wp (Gw TT) (.loop Ih) Q [(0,AV.v k0 (D.sl 1 (cols.map ei)),none),(2,vn dp,none),(4,AV.bx 4 0,some (Rt.bx [.ro false d0,.ro false d1,.ro false d2,.ro false d3,.ro false d4,.ro false d5,rl k1 7 (ao.map an.e)])),(9,vn 1,none),(103,AV.v k1 (D.sl 7 (ao.map an.e)),none),(104,vn (ao.length:Nat),none),(105,vn 0,none)]:=by
 refine ba (σ:=List an×List an×Int) (fun s=>[(0,AV.v k0 (D.sl 1 (cols.map ei)),none),(2,vn dp,none),(4,AV.bx 4 0,some (Rt.bx [.ro false d0,.ro false d1,.ro false d2,.ro false d3,.ro false d4,.ro false d5,rl k1 7 (ao.map an.e)])),(9,vn s.2.2,none),(103,AV.v k1 (D.sl 7 (ao.map an.e)),none),(104,vn (ao.length:Nat),none),(105,vn ((s.1.length:Nat):Int),none)]) (fun s=>ao=s.1++s.2.1∧sY cols (IntKind.wrap .i64 (dp-1)) 1 ao=sY cols (IntKind.wrap .i64 (dp-1)) s.2.2 s.2.1) (fun s=>s.2.1.length) ([],ao,1) (by simp) ⟨rfl,rfl⟩ ?_;rintro ⟨p2,r2,a⟩ ⟨y1,y2⟩;simp only at y1 y2;have y3:ao.length=p2.length+r2.length:=by rw [y1,zb]
 rcases r2 with _|⟨⟨cO,eY,ch,⟨fF,fE,eZ⟩,a_⟩,r2⟩
 ·simp only [zf] at y3;simp only [sY] at y2;have y4:¬(p2.length:Int)<(ao.length:Int):=by omega
  have y5:(p2.length:Int)=(ao.length:Int):=by omega
  unfold Ih;refine Ud y4 ?_;repeat intro hc
  rw [y2] at h1;simpa [y5] using h1
 ·skip;simp only [ze] at y3;have ey:ao[p2.length]?=some ⟨cO,eY,ch,⟨fF,fE,eZ⟩,a_⟩:=by rw [y1];simp
  obtain ⟨ai,gZ⟩:=za.1 ey;have eW:=zd ey;have y4:(p2.length:Int)<(ao.length:Int):=by omega
  have hw:=Wi ((p2.length:Int)+1);have hn:=IH _ eW k0 k1 (IntKind.wrap .i64 (dp-1)) (an.su m3 _ eW);simp only at hn;simp only [sY] at y2;unfold Ih;by_cases hb:gU cols (IntKind.wrap .i64 (dp-1)) ⟨cO,eY,ch,⟨fF,fE,eZ⟩,a_⟩<0
  ·rw [if_pos hb] at y2;refine Ud (J7 ey gZ ai y4 hw hn hb) ?_;repeat intro hc
   exact h2 y2
  ·rw [if_neg hb] at y2;refine Ud (J7 ey gZ ai y4 hw hn hb) ?_;repeat intro hc
   exact ⟨(p2++[⟨cO,eY,ch,⟨fF,fE,eZ⟩,a_⟩],r2,IntKind.wrap .i64 (a+gU cols (IntKind.wrap .i64 (dp-1)) ⟨cO,eY,ch,⟨fF,fE,eZ⟩,a_⟩)),(by simp),⟨by rw [y1];simp,y2⟩,by simp⟩
theorem adC (hc:cols.length≤1048576) (x:an) (IH:∀y∈x.L,E2 cols y):E2 cols x:=by
 intro k0 k1 dp hx;obtain ⟨cd,cH,cG,⟨dG,dF,cV⟩,ao⟩:=x;simp only [an.iJ,ab.sm,and_assoc] at hx;obtain ⟨m1,m2,m3⟩:=hx;refine Ga j4 Qo ?_;unfold Qo;have gF:=Wi ((cols.length:Int)-1);by_cases e1:dp<1
 ·refine Ud e1 ?_;repeat intro hc
  simp [j4,gU,e1]
 by_cases e2:4<(ao.length:Int)
 ·have e3:4<ao.length:=by omega
  refine Ud (J2 e1 e2) ?_;repeat intro hc
  simp [j4,gU,e3]
 have e3:¬4<ao.length:=by omega
 by_cases z1:cd=1
 ·subst z1;refine Ud (J2 e1 e2) ?_ ?_ ?_ ?_ ?_;all_goals repeat intro hc
  all_goals first|(simp_all [j4,gU,gy,iq,iT,cU];done)|refine CB cols k0 k1 dp ao m2 m3 IH ?_ (fun e=>?_)
  all_goals refine Ud Oo ?_
  all_goals first|(simp_all [j4,gU,gy,iq,iT,cU];done)|(simp_all [j4,gU,gy,iq,iT,cU];intros;omega)
 by_cases z2:cd=2
 ·subst z2;by_cases g1:0≤cH∧cH<(cols.length:Int)
  ·skip;obtain ⟨g2,g4⟩:=g1;obtain ⟨v,hv⟩:∃v,cols[cH.toNat]?=some v:=⟨_,zg (by omega)⟩;obtain ⟨kG,fO⟩:=za.1 hv;have g3:cH≤(cols.length:Int)-1:=by omega
   repeat' first|refine Zs ?_|((with_reducible refine Xk fun K k=>?_);simp [e1,e2,m1,hv,kG,fO,g2,g3,g4,gF];(repeat' (with_reducible first|refine k _ ?_|(refine fq ?_ ?_<;>(intro hc;(try rw [zu] at hc);first|(exfalso;omega)|(try simp [hc,e1,e2,m1,hv,kG,fO,g2,g3,g4,gF])))));all_goals clear k K)|(refine We rfl ?_ ?_<;>intro hc<;>(try simp at hc)<;>first|(exfalso;omega)|skip)
   all_goals first|(simp_all [j4,gU,gy,iq,iT,cU];done)|(simp_all [j4,gU,gy,iq,iT,cU];intros;omega)|refine CB cols k0 k1 dp ao m2 m3 IH ?_ (fun e=>?_)
   all_goals refine Ud Oo ?_
   all_goals first|(simp_all [j4,gU,gy,iq,iT,cU];done)|(simp_all [j4,gU,gy,iq,iT,cU];intros;omega)
  ·have g2:¬(0≤cH∧cH≤(cols.length:Int)-1):=by omega
   refine Ud (J4 e1 e2 m1 gF) ?_ ?_ ?_;all_goals repeat intro hc
   all_goals first|(simp_all [j4,gU,gy,iq,iT,cU];done)|(simp_all [j4,gU,gy,iq,iT,cU];intros;omega)
   repeat' first|refine Zs ?_|((with_reducible refine Xk fun K k=>?_);simp;(repeat' (with_reducible first|refine k _ ?_|(refine fq ?_ ?_<;>(intro hc;(try rw [zu] at hc);first|(exfalso;omega)|(try simp [hc])))));all_goals clear k K)|(refine We rfl ?_ ?_<;>intro hc<;>(try simp at hc)<;>first|(exfalso;omega)|skip)
 by_cases z3:cd=3
 ·subst z3;refine Ud (J2 e1 e2) ?_ ?_ ?_ ?_ ?_;all_goals repeat intro hc
  all_goals first|(simp_all [j4,gU,gy,iq,iT,cU];done)|(simp_all [j4,gU,gy,iq,iT,cU];intros;omega)|refine CB cols k0 k1 dp ao m2 m3 IH ?_ (fun e=>?_)
  all_goals refine Ud Oo ?_
  all_goals first|(simp_all [j4,gU,gy,iq,iT,cU];done)|(simp_all [j4,gU,gy,iq,iT,cU];intros;omega)
 by_cases z4:cd=4
 ·subst z4;refine Ud (J2 e1 e2) ?_ ?_ ?_ ?_ ?_;all_goals repeat intro hc
  all_goals first|(simp_all [j4,gU,gy,iq,iT,cU];done)|(simp_all [j4,gU,gy,iq,iT,cU];intros;omega)|refine CB cols k0 k1 dp ao m2 m3 IH ?_ (fun e=>?_)
  all_goals refine Ud Oo ?_
  all_goals first|(simp_all [j4,gU,gy,iq,iT,cU];done)|(simp_all [j4,gU,gy,iq,iT,cU];intros;omega)
 by_cases z5:cd=5
 ·subst z5;refine Ud (J2 e1 e2) ?_ ?_ ?_ ?_ ?_;all_goals repeat intro hc
  all_goals first|(simp_all [j4,gU,gy,iq,iT,cU];done)|refine CB cols k0 k1 dp ao m2 m3 IH ?_ (fun e=>?_)
  all_goals refine Ud Oo ?_
  all_goals first|(simp_all [j4,gU,gy,iq,iT,cU];done)|(simp_all [j4,gU,gy,iq,iT,cU];intros;omega)
 refine Ud (J7 e1 e2 z1 z2 z3 z4 z5) ?_ ?_ ?_;all_goals repeat intro hc
 all_goals simp [j4,gU,gy,z1,z2,z3,z4,z5]
theorem Vj (cols:List Int) (hc:cols.length≤1048576) (x:an):E2 cols x:=adC cols hc x fun y hy=>Vj cols hc y
termination_by zt x
decreasing_by
 have h1:=zy hy;have h2:zt x.L<zt x:=by cases x;simp;omega
 omega
def oI:Nat→Int
 |0=>0
 |n+1=>1+4*oI n
theorem Jl:∀n,0≤oI n
 |0=>by simp [oI]
 |n+1=>by have:=Jl n;simp only [oI];omega
def IS (cols:List Int) (d:Nat) (p:an):Prop:=gU cols (d:Int) p=(if oK cols (5-(d:Int)) p=true then sW p else -1)∧(oK cols (5-(d:Int)) p=true→1≤sW p∧sW p≤oI d)
theorem VD {cols:List Int} {d:Nat} (hb:oI d≤1000):∀(l:List an) (s:Int),(∀p∈l,IS cols d p)→1≤s→s+l.length*oI d≤1000000→
 sY cols (d:Int) s l=(if s_ cols (5-(d:Int)) l=true then sX s l else -1)∧(s_ cols (5-(d:Int)) l=true→s≤sX s l∧sX s l≤s+l.length*oI d)
 |[],s,_,h1,_=>by simp [sY,s_,sX]
 |p::l,s,h,h1,h2=>by
  obtain ⟨a1,a2⟩:=h p (by simp);have hn:=Jl d;have e0:((p::l).length:Int)*oI d=(l.length:Int)*oI d+oI d:=by simp only [ze];rw [show (((l.length+1:Nat)):Int)=(l.length:Int)+1 by omega,Int.add_mul];omega
  have hp:0≤(l.length:Int)*oI d:=Int.mul_nonneg (by omega) hn;rw [e0] at h2 ⊢;simp only [sY,s_,sX,zp];by_cases hd:oK cols (5-(d:Int)) p=true
  ·obtain ⟨b1,b2⟩:=a2 hd;rw [if_pos hd] at a1;have hw:=Wi (s+sW p);rw [a1,if_neg (by omega),hw];obtain ⟨c1,c2⟩:=VD hb l (s+sW p) (fun q hq=>h q (by simp [hq])) (by omega) (by omega);constructor
   ·rw [c1];simp [hd]
   ·intro e;obtain ⟨f1,f2⟩:=c2 e.2;exact ⟨by omega,by omega⟩
  ·rw [if_neg hd] at a1;rw [a1];constructor
   ·rw [if_pos (by omega),if_neg (fun e=>hd e.1)]
   ·intro e;exact absurd e.1 hd
theorem alr {cols:List Int} {k c o:Int} {v:ab} {n:Int} (h:gy cols k c o v n=true):n≤4:=by
 unfold gy at h;split at h
 ·simp at h;omega
 ·split at h
  ·simp at h;omega
  ·split at h
   ·simp at h;omega
   ·simp at h;omega
theorem VE (cols:List Int):∀(d:Nat),d≤4→∀p,IS cols d p
 |0,_,⟨k,c,o,v,l⟩=>by
  constructor
  ·simp [gU,oK]
  ·simp [oK]
 |d+1,hd,⟨k,c,o,v,l⟩=>by
  have hb:oI d≤1000:=by
   rcases d with _|_|_|_|d
   ·decide
   ·decide
   ·decide
   ·decide
   ·omega
  have fZ:IntKind.wrap .i64 (((d+1:Nat):Int)-1)=(d:Int):=by rw [show (((d+1:Nat):Int)-1)=(d:Int) by omega];exact wrap_i64 (by omega) (by omega)
  have eF:IntKind.wrap .i64 (5-((d+1:Nat):Int)+1)=5-(d:Int):=by rw [show (5-((d+1:Nat):Int)+1)=5-(d:Int) by omega];exact wrap_i64 (by omega) (by omega)
  have h5:¬4<5-((d+1:Nat):Int):=by omega
  have h6:¬((d+1:Nat):Int)<1:=by omega
  unfold IS;simp only [gU,oK,sW,if_neg h5,fZ,eF,zp];by_cases hs:gy cols k c o v (l.length:Int)=true
  ·have h4:=alr hs;have h7:¬(((d+1:Nat):Int)<1∨4<l.length):=by omega
   have hm:(l.length:Int)*oI d≤4*oI d:=Int.mul_le_mul_of_nonneg_right h4 (Jl d);obtain ⟨c1,c2⟩:=VD hb l 1 (fun p _=>VE cols d (by omega) p) (by omega) (by omega);rw [if_neg h7,if_pos hs,c1];constructor
   ·simp [hs]
   ·intro e;obtain ⟨f1,f2⟩:=c2 e.1;simp only [oI];exact ⟨by omega,by omega⟩
  ·constructor
   ·have hq:¬(s_ cols (5-(d:Int)) l=true∧gy cols k c o v (l.length:Int)=true):=fun e=>hs e.2
    rw [if_neg hq];split
    ·rfl
    ·rfl
   ·intro e;exact absurd e.2 hs
def xI (cols:List Int) (p:an):Bool:=jo cols&&(oK cols 1 p&&decide (sW p≤8))
theorem akB (cols:List Int) (p:an):(jo cols&&(decide (1≤gU cols 4 p)&&decide (gU cols 4 p≤8)))=xI cols p:=by
 obtain ⟨a1,a2⟩:=VE cols 4 (by omega) p;simp only [show ((4:Nat):Int)=4 from rfl,show (5:Int)-4=1 from rfl] at a1 a2;unfold xI;cases jo cols with
 |false=>rfl
 |true=>
  cases hd:oK cols 1 p with
  |false=>rw [hd] at a1;rw [a1];try rfl
  |true=>
   rw [hd] at a1 a2;obtain ⟨b1,b2⟩:=a2 rfl;simp only [if_true] at a1;rw [a1,decide_eq_true b1]
@[simp] theorem ar3 (ao:List an) (hc:cols.length≤1048576) (hv:cV.size≤1048576) (hl:ao.length≤1048576) (hs:an.aJ ao):Gw TT 537 [.one (rl k0 1 (cols.map ei)),.st (rG k1 cd cH cG dG dF cV ao)]=some (vb (xI cols ⟨cd,cH,cG,⟨dG,dF,cV⟩,ao⟩),[]):=by
 refine Ga G4 PQ ?_;unfold PQ;have hx:an.sm ⟨cd,cH,cG,⟨dG,dF,cV⟩,ao⟩:=by simp only [an.iJ,ab.sm,and_assoc];exact ⟨hv,hl,hs⟩
 have u1:=fun k0 k1:Bool=>Vj cols hc ⟨cd,cH,cG,⟨dG,dF,cV⟩,ao⟩ k0 k1 4 hx
 simp only at u1;rw [←akB];cases h1:jo cols with
 |false=>
  refine Ud (J3 hc h1 u1) ?_;all_goals simp [G4]
 |true=>
  refine Ud (J3 hc h1 u1) ?_;all_goals simp [G4]
@[simp] theorem ary (ao:List an) (hc:cols.length≤1048576) (hv:cV.size≤1048576) (hl:ao.length≤1048576) (hs:an.aJ ao):Gw TT 320 [.one (rl k0 1 (cols.map ei)),.st (rG k1 cd cH cG dG dF cV ao)]=some (vb (xI cols ⟨cd,cH,cG,⟨dG,dF,cV⟩,ao⟩),[]):=by
 refine Ga Ed Oq ?_;unfold Oq;have hx:an.sm ⟨cd,cH,cG,⟨dG,dF,cV⟩,ao⟩:=by simp only [an.iJ,ab.sm,and_assoc];exact ⟨hv,hl,hs⟩
 have u1:=fun k0 k1:Bool=>Vk cols hc ⟨cd,cH,cG,⟨dG,dF,cV⟩,ao⟩ k0 k1 1 hx
 have u2:=fun k1:Bool=>Vi ⟨cd,cH,cG,⟨dG,dF,cV⟩,ao⟩ k1 hx
 simp only at u1 u2;unfold xI;cases h1:jo cols with
 |false=>
  refine Ud (J4 hc h1 u1 u2) ?_;all_goals simp [Ed]
 |true=>
  cases h2:oK cols 1 ⟨cd,cH,cG,⟨dG,dF,cV⟩,ao⟩ with
  |false=>
   rw [h2] at u1;refine Ud (J4 hc h1 u1 u2) ?_;all_goals simp [Ed]
  |true=>
   rw [h2] at u1;refine Ud (J4 hc h1 u1 u2) ?_;all_goals simp [Ed]
def re (n i:Int):Bool:=decide (0≤i∧i≤n-1)
def B4 (n:Int) (l:List Int):Bool:=l.all (re n)
def gO (cols:List Int) (k:Int) (p:an) (c:Int) (out:List Int):Bool:=xI cols p&&(if k=1 then B4 (cols.length:Int) out&&(decide (c=0)&&(decide (1≤(out.length:Int))&&decide ((out.length:Int)≤3))) else if k=2 then decide (c=0)&&decide (out=[]) else if k=3 then (decide (0≤c)&&decide (c≤(cols.length:Int)-1))&&(decide (cols[c.toNat]?=some 1)&&decide (out=[])) else if k=4∨k=5 then (decide (0≤c)&&decide (c≤(cols.length:Int)-1))&&decide (out=[]) else false)
theorem ajA {Q:Out→Prop} (cols out:List Int) (k0 k1:Bool) {d0 d1 d2 d3 d4 d5 d6 d7 d8:D} (hl:out.length≤1048576) (hc:cols.length≤1048576)
 (h1:out.all (re (cols.length:Int))=true→Q (.exit 1 ([(0,AV.v k0 (D.sl 1 (cols.map ei)),none),(3,AV.bx 3 0,some (Rt.bx [.ro false d0,.ro false d1,.ro false d2,.ro false d3,.ro false d4,.ro false d5,.ro false d6,.ro k1 d7,.ro false d8,rl k1 1 (out.map ei)])),(30,AV.v k1 (D.sl 1 (out.map ei)),none),(31,vn (out.length:Nat),none),(32,vn (out.length:Nat),none)]++[(33,AV.v false (.bool false),none)])))
 (h2:out.all (re (cols.length:Int))=false→Q (.ret [(4,AV.v false (.bool false),none)])):Wp (Gw TT) (.loop H_) Q ([(0,AV.v k0 (D.sl 1 (cols.map ei)),none),(3,AV.bx 3 0,some (Rt.bx [.ro false d0,.ro false d1,.ro false d2,.ro false d3,.ro false d4,.ro false d5,.ro false d6,.ro k1 d7,.ro false d8,rl k1 1 (out.map ei)])),(30,AV.v k1 (D.sl 1 (out.map ei)),none),(31,vn (out.length:Nat),none),(32,vn 0,none)]):=by
 refine ba (σ:=List (Int)×List (Int)) (fun s=>[(0,AV.v k0 (D.sl 1 (cols.map ei)),none),(3,AV.bx 3 0,some (Rt.bx [.ro false d0,.ro false d1,.ro false d2,.ro false d3,.ro false d4,.ro false d5,.ro false d6,.ro k1 d7,.ro false d8,rl k1 1 (out.map ei)])),(30,AV.v k1 (D.sl 1 (out.map ei)),none),(31,vn (out.length:Nat),none),(32,vn ((s.1.length:Nat):Int),none)]) (fun s=>out=s.1++s.2∧out.all (re (cols.length:Int))=s.2.all (re (cols.length:Int))) (fun s=>s.2.length) ([],out) (by simp) ⟨rfl,rfl⟩ ?_;rintro ⟨pre,rest⟩ ⟨y1,y2⟩;simp only at y1 y2;have y3:out.length=pre.length+rest.length:=by rw [y1,zb]
 rcases rest with _|⟨d,rest⟩
 ·simp only [zf] at y3;have c1:¬(pre.length:Int)<(out.length:Int):=by omega
  have y5:(pre.length:Int)=(out.length:Int):=by omega
  have h3:=h1 (by rw [y2];rfl);skip;unfold H_;refine Ud c1 ?_;repeat intro hc
  all_goals simpa [y5] using h3
 ·simp only [ze] at y3;simp only [zo] at y2;have hg:out[pre.length]?=some d:=by rw [y1];simp
  obtain ⟨ai,aB⟩:=za.1 hg;have eW:=zd hg;have c1:(pre.length:Int)<(out.length:Int):=by omega
  have hw:=Wi ((pre.length:Int)+1);have gF:=Wi ((cols.length:Int)-1);unfold H_;by_cases q:0≤d∧d≤(cols.length:Int)-1
  ·have hx:(re (cols.length:Int)) d=true:=decide_eq_true q;refine Ud (J8 c1 hw ai aB hg gF q.1 q.2) ?_;repeat intro hc
   exact ⟨(pre++[d],rest),(by simp),⟨by rw [y1];simp,by rw [y2,hx];simp⟩,by simp⟩
  ·have hx:(re (cols.length:Int)) d=false:=decide_eq_false q;have h3:=h2 (by rw [y2,hx];rfl);refine Ud (J7 c1 hw ai aB hg gF q) ?_;repeat intro hc
   exact h3
theorem ajz {Q:Out→Prop} (cols out:List Int) (k0 k1:Bool) {d0 d1 d2 d3 d4 d5 d6 d7 d8:D} (hl:out.length≤1048576) (hc:cols.length≤1048576)
 (h1:out.all (re (cols.length:Int))=true→Q (.exit 1 ([(0,AV.v k0 (D.sl 1 (cols.map ei)),none),(3,AV.bx 3 0,some (Rt.bx [.ro false d0,.ro false d1,.ro false d2,.ro false d3,.ro false d4,.ro false d5,.ro false d6,.ro k1 d7,.ro false d8,rl k1 1 (out.map ei)])),(5,vn (out.length:Nat),none)]++[(19,AV.v false (.bool false),none)])))
 (h2:out.all (re (cols.length:Int))=false→Q (.ret [(4,AV.v false (.bool false),none)])):Wp (Gw TT) (.loop H9) Q ([(0,AV.v k0 (D.sl 1 (cols.map ei)),none),(3,AV.bx 3 0,some (Rt.bx [.ro false d0,.ro false d1,.ro false d2,.ro false d3,.ro false d4,.ro false d5,.ro false d6,.ro k1 d7,.ro false d8,rl k1 1 (out.map ei)])),(5,vn 0,none)]):=by
 refine ba (σ:=List (Int)×List (Int)) (fun s=>[(0,AV.v k0 (D.sl 1 (cols.map ei)),none),(3,AV.bx 3 0,some (Rt.bx [.ro false d0,.ro false d1,.ro false d2,.ro false d3,.ro false d4,.ro false d5,.ro false d6,.ro k1 d7,.ro false d8,rl k1 1 (out.map ei)])),(5,vn ((s.1.length:Nat):Int),none)]) (fun s=>out=s.1++s.2∧out.all (re (cols.length:Int))=s.2.all (re (cols.length:Int))) (fun s=>s.2.length) ([],out) (by simp) ⟨rfl,rfl⟩ ?_;rintro ⟨pre,rest⟩ ⟨y1,y2⟩;simp only at y1 y2;have y3:out.length=pre.length+rest.length:=by rw [y1,zb]
 rcases rest with _|⟨d,rest⟩
 ·simp only [zf] at y3;have c1:¬(pre.length:Int)<(out.length:Int):=by omega
  have y5:(pre.length:Int)=(out.length:Int):=by omega
  have h3:=h1 (by rw [y2];rfl);skip;unfold H9;refine Ud c1 ?_;repeat intro hc
  all_goals simpa [y5] using h3
 ·simp only [ze] at y3;simp only [zo] at y2;have hg:out[pre.length]?=some d:=by rw [y1];simp
  obtain ⟨ai,aB⟩:=za.1 hg;have eW:=zd hg;have c1:(pre.length:Int)<(out.length:Int):=by omega
  have hw:=Wi ((pre.length:Int)+1);have gF:=Wi ((cols.length:Int)-1);unfold H9;by_cases q:0≤d∧d≤(cols.length:Int)-1
  ·have hx:(re (cols.length:Int)) d=true:=decide_eq_true q;refine Ud (J8 c1 hw ai aB hg gF q.1 q.2) ?_;repeat intro hc
   exact ⟨(pre++[d],rest),(by simp),⟨by rw [y1];simp,by rw [y2,hx];simp⟩,by simp⟩
  ·have hx:(re (cols.length:Int)) d=false:=decide_eq_false q;have h3:=h2 (by rw [y2,hx];rfl);refine Ud (J7 c1 hw ai aB hg gF q) ?_;repeat intro hc
   exact h3
@[simp] theorem arW (lK A5:Int) (A4 A6:Int) (A8 A7:Int) (wA:ByteArray) (tY:List an) (ru:Int) (wz:List Int) (aD:cols.length≤1048576) (hv:wA.size≤1048576) (hl:tY.length≤1048576) (hs:an.aJ tY) (ho:wz.length≤1048576):Gw TT 512 [.one (rl k0 1 (cols.map ei)),.st (rF k1 lK A5 A4 A6 A8 A7 wA tY ru wz)]=some (vb (gO cols lK ⟨A5,A4,A6,⟨A8,A7,wA⟩,tY⟩ ru wz),[]):=by
 refine Ga ot Ps ?_;unfold Ps;have gF:=Wi ((cols.length:Int)-1);cases hp:xI cols ⟨A5,A4,A6,⟨A8,A7,wA⟩,tY⟩ with
 |false=>
  refine Ud (J6 aD hv hl hs ho hp) ?_;repeat intro hc
  all_goals simp [ot,gO,hp]
 |true=>
  by_cases z1:lK=1
  ·subst z1;refine Ud (J7 aD hv hl hs ho hp gF) ?_ ?_;all_goals repeat intro hc
   all_goals refine ajA cols wz k0 k1 ho aD (fun e=>?_) (fun e=>?_)
   repeat' first|refine Zs ?_|((with_reducible refine Xk fun K k=>?_);simp;(repeat' (with_reducible first|refine k _ ?_|(refine fq ?_ ?_<;>(intro hc;(try rw [zu] at hc);first|(exfalso;omega)|(try simp [hc])))));all_goals clear k K)|(refine We rfl ?_ ?_<;>intro hc<;>(try simp at hc)<;>first|(exfalso;omega)|skip)
   all_goals first|(simp_all [ot,gO,B4];done)|(simp_all [ot,gO,B4];rw [zn];simp_all;done)|(simp_all [ot,gO,B4];exact fun a=>by obtain ⟨x,m,p⟩:=e;rw [a x m] at p;cases p)
  by_cases z2:lK=2
  ·subst z2;refine Ud (J7 aD hv hl hs ho hp gF) ?_ ?_ ?_ ?_;all_goals repeat intro hc
   all_goals first|(simp_all [ot,gO];done)|(simp_all [ot,gO];rw [zn];simp;done)
  by_cases g1:0≤ru∧ru≤(cols.length:Int)-1
  ·obtain ⟨g2,g3⟩:=g1;obtain ⟨v,fy⟩:∃v,cols[ru.toNat]?=some v:=⟨_,zg (by omega)⟩;obtain ⟨kG,fO⟩:=za.1 fy;have g4:ru<(cols.length:Int):=by omega
   by_cases z3:lK=3
   ·subst z3;refine Ud (J8 aD hv hl hs ho hp gF (J6 fy kG fO g2 g3 g4)) ?_ ?_;all_goals repeat intro hc
    all_goals first|(simp_all [ot,gO];done)|(simp_all [ot,gO];rw [zn];simp;done)
   by_cases z4:lK=4
   ·subst z4;refine Ud (J8 aD hv hl hs ho hp gF (J3 g2 g3 g4)) ?_;repeat intro hc
    simp_all [ot,gO];rw [zn];simp
   by_cases z5:lK=5
   ·subst z5;refine Ud (J8 aD hv hl hs ho hp gF (J3 g2 g3 g4)) ?_;repeat intro hc
    simp_all [ot,gO];rw [zn];simp
   refine Ud (J8 aD hv hl hs ho hp gF (J8 z1 z2 z3 z4 z5 g2 g3 g4)) ?_;repeat intro hc
   simp_all [ot,gO]
  ·by_cases z3:lK=3
   ·subst z3;refine Ud (J8 aD hv hl hs ho hp gF g1) ?_;repeat intro hc
    (simp_all [ot,gO];intros;omega)
   by_cases z4:lK=4
   ·subst z4;refine Ud (J8 aD hv hl hs ho hp gF g1) ?_;repeat intro hc
    (simp_all [ot,gO];intros;omega)
   by_cases z5:lK=5
   ·subst z5;refine Ud (J8 aD hv hl hs ho hp gF g1) ?_;repeat intro hc
    (simp_all [ot,gO];intros;omega)
   refine Ud (J8 aD hv hl hs ho hp gF (J6 z1 z2 z3 z4 z5 g1)) ?_;repeat intro hc
   simp_all [ot,gO]
@[simp] theorem arV (lK A5:Int) (A4 A6:Int) (A8 A7:Int) (wA:ByteArray) (tY:List an) (ru:Int) (wz:List Int) (aD:cols.length≤1048576) (hv:wA.size≤1048576) (hl:tY.length≤1048576) (hs:an.aJ tY) (ho:wz.length≤1048576):Gw TT 511 [.one (rl k0 1 (cols.map ei)),.st (rF k1 lK A5 A4 A6 A8 A7 wA tY ru wz)]=some (vb (gO cols lK ⟨A5,A4,A6,⟨A8,A7,wA⟩,tY⟩ ru wz),[]):=by
 refine Ga o8 Pr ?_;unfold Pr;have gF:=Wi ((cols.length:Int)-1);cases hp:xI cols ⟨A5,A4,A6,⟨A8,A7,wA⟩,tY⟩ with
 |false=>
  refine Ud (J6 aD hv hl hs ho hp) ?_;repeat intro hc
  all_goals simp [o8,gO,hp]
 |true=>
  by_cases z1:lK=1
  ·subst z1;refine Ud (J7 aD hv hl hs ho hp gF) ?_;repeat intro hc
   all_goals refine ajz cols wz k0 k1 ho aD (fun e=>?_) (fun e=>?_)
   repeat' first|refine Zs ?_|((with_reducible refine Xk fun K k=>?_);simp;(repeat' (with_reducible first|refine k _ ?_|(refine fq ?_ ?_<;>(intro hc;(try rw [zu] at hc);first|(exfalso;omega)|(try simp [hc])))));all_goals clear k K)|(refine We rfl ?_ ?_<;>intro hc<;>(try simp at hc)<;>first|(exfalso;omega)|skip)
   all_goals first|(simp_all [o8,gO,B4];done)|(simp_all [o8,gO,B4];exact fun a=>by obtain ⟨x,m,p⟩:=e;rw [a x m] at p;cases p)
  by_cases z2:lK=2
  ·subst z2;refine Ud (J7 aD hv hl hs ho hp gF) ?_ ?_;all_goals repeat intro hc
   all_goals first|(simp_all [o8,gO];done)|(simp_all [o8,gO];rw [zn];simp;done)
  by_cases g1:0≤ru∧ru≤(cols.length:Int)-1
  ·obtain ⟨g2,g3⟩:=g1;obtain ⟨v,fy⟩:∃v,cols[ru.toNat]?=some v:=⟨_,zg (by omega)⟩;obtain ⟨kG,fO⟩:=za.1 fy;have g4:ru<(cols.length:Int):=by omega
   by_cases z3:lK=3
   ·subst z3;refine Ud (J8 aD hv hl hs ho hp gF (J6 fy kG fO g2 g3 g4)) ?_ ?_;all_goals repeat intro hc
    all_goals first|(simp_all [o8,gO];done)|(simp_all [o8,gO];rw [zn];simp;done)
   by_cases z4:lK=4
   ·subst z4;refine Ud (J8 aD hv hl hs ho hp gF (J3 g2 g3 g4)) ?_;repeat intro hc
    simp_all [o8,gO];rw [zn];simp
   by_cases z5:lK=5
   ·subst z5;refine Ud (J8 aD hv hl hs ho hp gF (J3 g2 g3 g4)) ?_;repeat intro hc
    simp_all [o8,gO];rw [zn];simp
   refine Ud (J8 aD hv hl hs ho hp gF (J8 z1 z2 z3 z4 z5 g2 g3 g4)) ?_;repeat intro hc
   simp_all [o8,gO]
  ·by_cases z3:lK=3
   ·subst z3;refine Ud (J8 aD hv hl hs ho hp gF g1) ?_;repeat intro hc
    (simp_all [o8,gO];intros;omega)
   by_cases z4:lK=4
   ·subst z4;refine Ud (J8 aD hv hl hs ho hp gF g1) ?_;repeat intro hc
    (simp_all [o8,gO];intros;omega)
   by_cases z5:lK=5
   ·subst z5;refine Ud (J8 aD hv hl hs ho hp gF g1) ?_;repeat intro hc
    (simp_all [o8,gO];intros;omega)
   refine Ud (J8 aD hv hl hs ho hp gF (J6 z1 z2 z3 z4 z5 g1)) ?_;repeat intro hc
   simp_all [o8,gO]
def gr (t:Int) (d:ca):Bool:=vz d.Op d.Task d.Code d.Bp d.Inv d.Id d.yb d.wV&&(decide (d.Inv<t)&&(decide (d.yb<t)&&decide (d.wV<t)))
def iZ (t m:Int):Bool:=decide (-1≤m)&&decide (m≤t)
def gp (E:Int) (B:List aU) (d:cD):Bool:=decide (0≤d.dW)&&(match B[d.dW.toNat]? with
 |some b=>b.fW==d.fW&&(decide (0≤d.At)&&decide (d.At≤E))
 |none=>false)
theorem ajh {Q:Out→Prop} (k0:Bool) (af:List Int) (ax aM:Int) (aG ak:Int) (aI aK:Int) (au:List aL) (ae:List aU) (aj:List Int) (aw:List cD) (aH:List Int) (aq:List bM) (az:List ca) (hl:az.length≤1048576)
 (h1:az.all (gr aG)=true→Q (.exit 0 ([(1,AV.bx 1 0,some (Rt.bx (cb k0 af ax aM aG ak aI aK au ae aj aw aH aq az))),(3,vn (az.length:Nat),none)]++[(9,AV.v false (.bool false),none)])))
 (h2:az.all (gr aG)=false→Q (.ret [(2,AV.v false (.bool false),none)])):Wp (Gw TT) (.loop HH) Q ([(1,AV.bx 1 0,some (Rt.bx (cb k0 af ax aM aG ak aI aK au ae aj aw aH aq az))),(3,vn 0,none)]):=by
 refine ba (σ:=List (ca)×List (ca)) (fun s=>[(1,AV.bx 1 0,some (Rt.bx (cb k0 af ax aM aG ak aI aK au ae aj aw aH aq az))),(3,vn ((s.1.length:Nat):Int),none)]) (fun s=>az=s.1++s.2∧az.all (gr aG)=s.2.all (gr aG)) (fun s=>s.2.length) ([],az) (by simp) ⟨rfl,rfl⟩ ?_;rintro ⟨pre,rest⟩ ⟨y1,y2⟩;simp only at y1 y2;have y3:az.length=pre.length+rest.length:=by rw [y1,zb]
 rcases rest with _|⟨⟨ch,jz,eT,bU,⟨eK,⟨eN,eM,eP,⟨eS,eQ,eR⟩,eO⟩,eJ,eL⟩,⟨ki,kh,kg,⟨ko,kj,km⟩⟩,jx,jy,g_,hU,hY⟩,rest⟩
 ·simp only [zf] at y3;have c1:¬(pre.length:Int)<(az.length:Int):=by omega
  have y5:(pre.length:Int)=(az.length:Int):=by omega
  have h3:=h1 (by rw [y2];rfl);skip;unfold HH;refine Ud c1 ?_;repeat intro hc
  all_goals simpa [y5] using h3
 ·simp only [ze] at y3;simp only [zo] at y2;have hg:az[pre.length]?=some ⟨ch,jz,eT,bU,⟨eK,⟨eN,eM,eP,⟨eS,eQ,eR⟩,eO⟩,eJ,eL⟩,⟨ki,kh,kg,⟨ko,kj,km⟩⟩,jx,jy,g_,hU,hY⟩:=by rw [y1];simp
  obtain ⟨ai,aB⟩:=za.1 hg;have eW:=zd hg;have c1:(pre.length:Int)<(az.length:Int):=by omega
  have hw:=Wi ((pre.length:Int)+1);unfold HH;cases b1:vz ch jz jx jy g_ bU hU hY with
  |false=>
   have hx:(gr aG) ⟨ch,jz,eT,bU,⟨eK,⟨eN,eM,eP,⟨eS,eQ,eR⟩,eO⟩,eJ,eL⟩,⟨ki,kh,kg,⟨ko,kj,km⟩⟩,jx,jy,g_,hU,hY⟩=false:=by simp [gr,b1]
   have h3:=h2 (by rw [y2,hx];rfl);refine Ud (J6 c1 hw ai aB hg b1) ?_;repeat intro hc
   exact h3
  |true=>
   by_cases b2:g_<aG
   ·have b5:¬aG≤g_:=by omega
    by_cases b3:hU<aG
    ·have b6:¬aG≤hU:=by omega
     by_cases b4:hY<aG
     ·have b7:¬aG≤hY:=by omega
      have hx:(gr aG) ⟨ch,jz,eT,bU,⟨eK,⟨eN,eM,eP,⟨eS,eQ,eR⟩,eO⟩,eJ,eL⟩,⟨ki,kh,kg,⟨ko,kj,km⟩⟩,jx,jy,g_,hU,hY⟩=true:=by simp [gr,b1,b2,b3,b4]
      refine Ud (J8 c1 hw ai aB hg b1 b5 (J2 b6 b7)) ?_;repeat intro hc
      exact ⟨(pre++[⟨ch,jz,eT,bU,⟨eK,⟨eN,eM,eP,⟨eS,eQ,eR⟩,eO⟩,eJ,eL⟩,⟨ki,kh,kg,⟨ko,kj,km⟩⟩,jx,jy,g_,hU,hY⟩],rest),(by simp),⟨by rw [y1];simp,by rw [y2,hx];simp⟩,by simp⟩
     ·have b7:aG≤hY:=by omega
      have hx:(gr aG) ⟨ch,jz,eT,bU,⟨eK,⟨eN,eM,eP,⟨eS,eQ,eR⟩,eO⟩,eJ,eL⟩,⟨ki,kh,kg,⟨ko,kj,km⟩⟩,jx,jy,g_,hU,hY⟩=false:=by simp [gr,b4]
      have h3:=h2 (by rw [y2,hx];rfl);refine Ud (J8 c1 hw ai aB hg b1 b5 (J2 b6 b7)) ?_;repeat intro hc
      exact h3
    ·have b6:aG≤hU:=by omega
     have hx:(gr aG) ⟨ch,jz,eT,bU,⟨eK,⟨eN,eM,eP,⟨eS,eQ,eR⟩,eO⟩,eJ,eL⟩,⟨ki,kh,kg,⟨ko,kj,km⟩⟩,jx,jy,g_,hU,hY⟩=false:=by simp [gr,b3]
     have h3:=h2 (by rw [y2,hx];rfl);refine Ud (J8 c1 hw ai aB hg b1 b5 b6) ?_;repeat intro hc
     exact h3
   ·have b5:aG≤g_:=by omega
    have hx:(gr aG) ⟨ch,jz,eT,bU,⟨eK,⟨eN,eM,eP,⟨eS,eQ,eR⟩,eO⟩,eJ,eL⟩,⟨ki,kh,kg,⟨ko,kj,km⟩⟩,jx,jy,g_,hU,hY⟩=false:=by simp [gr,b2]
    have h3:=h2 (by rw [y2,hx];rfl);refine Ud (J7 c1 hw ai aB hg b1 b5) ?_;repeat intro hc
    exact h3
theorem al4 (h:az.length≤1048576):Gw TT 450 [.st (cb k0 af ax aM aG ak aI aK au ae aj aw aH aq az)]=some (vb (az.all (gr aG)),[]):=by
 refine Ga Si OS ?_;unfold OS;refine Ud Oo ?_;refine ajh k0 af ax aM aG ak aI aK au ae aj aw aH aq az h (fun e=>?_) (fun e=>?_);all_goals refine Ud Oo ?_
 all_goals simp [Si,e]
theorem ajn {Q:Out→Prop} (k0:Bool) (af:List Int) (ax aM:Int) (aG ak:Int) (aI aK:Int) (au:List aL) (ae:List aU) (aj:List Int) (aw:List cD) (aH:List Int) (aq:List bM) (az:List ca) (hl:aj.length≤1048576)
 (h1:aj.all (iZ ak)=true→Q (.exit 0 ([(1,AV.bx 1 0,some (Rt.bx (cb k0 af ax aM aG ak aI aK au ae aj aw aH aq az))),(3,vn (aj.length:Nat),none)]++[(8,AV.v false (.bool false),none)])))
 (h2:aj.all (iZ ak)=false→Q (.ret [(2,AV.v false (.bool false),none)])):Wp (Gw TT) (.loop HP) Q ([(1,AV.bx 1 0,some (Rt.bx (cb k0 af ax aM aG ak aI aK au ae aj aw aH aq az))),(3,vn 0,none)]):=by
 refine ba (σ:=List (Int)×List (Int)) (fun s=>[(1,AV.bx 1 0,some (Rt.bx (cb k0 af ax aM aG ak aI aK au ae aj aw aH aq az))),(3,vn ((s.1.length:Nat):Int),none)]) (fun s=>aj=s.1++s.2∧aj.all (iZ ak)=s.2.all (iZ ak)) (fun s=>s.2.length) ([],aj) (by simp) ⟨rfl,rfl⟩ ?_;rintro ⟨pre,rest⟩ ⟨y1,y2⟩;simp only at y1 y2;have y3:aj.length=pre.length+rest.length:=by rw [y1,zb]
 rcases rest with _|⟨y,rest⟩
 ·simp only [zf] at y3;have c1:¬(pre.length:Int)<(aj.length:Int):=by omega
  have y5:(pre.length:Int)=(aj.length:Int):=by omega
  have h3:=h1 (by rw [y2];rfl);skip;unfold HP;refine Ud c1 ?_;repeat intro hc
  all_goals simpa [y5] using h3
 ·simp only [ze] at y3;simp only [zo] at y2;have hg:aj[pre.length]?=some y:=by rw [y1];simp
  obtain ⟨ai,aB⟩:=za.1 hg;have eW:=zd hg;have c1:(pre.length:Int)<(aj.length:Int):=by omega
  have hw:=Wi ((pre.length:Int)+1);unfold HP;by_cases b1:-1≤y
  ·by_cases b2:y≤ak
   ·have b3:¬ak<y:=by omega
    have hx:(iZ ak) y=true:=by simp [iZ,b1,b2]
    refine Ud (J7 c1 hw ai aB hg b1 b3) ?_;repeat intro hc
    exact ⟨(pre++[y],rest),(by simp),⟨by rw [y1];simp,by rw [y2,hx];simp⟩,by simp⟩
   ·have b3:ak<y:=by omega
    have hx:(iZ ak) y=false:=by simp [iZ,b2]
    have h3:=h2 (by rw [y2,hx];rfl);refine Ud (J7 c1 hw ai aB hg b1 b3) ?_;repeat intro hc
    exact h3
  ·have hx:(iZ ak) y=false:=by simp [iZ,b1]
   have h3:=h2 (by rw [y2,hx];rfl);refine Ud (J6 c1 hw ai aB hg b1) ?_;repeat intro hc
   exact h3
theorem ajr {Q:Out→Prop} (k0:Bool) (af:List Int) (ax aM:Int) (aG ak:Int) (aI aK:Int) (au:List aL) (ae:List aU) (aj:List Int) (aw:List cD) (aH:List Int) (aq:List bM) (az:List ca) (hl:aj.length≤1048576)
 (h1:aj.all (iZ ak)=true→Q (.exit 0 ([(1,AV.bx 1 0,some (Rt.bx (cb k0 af ax aM aG ak aI aK au ae aj aw aH aq az))),(6,AV.v k0 (D.sl 1 (aj.map ei)),none),(7,vn (aj.length:Nat),none),(8,vn (aj.length:Nat),none)]++[(9,AV.v false (.bool false),none)])))
 (h2:aj.all (iZ ak)=false→Q (.ret [(2,AV.v false (.bool false),none)])):Wp (Gw TT) (.loop HT) Q ([(1,AV.bx 1 0,some (Rt.bx (cb k0 af ax aM aG ak aI aK au ae aj aw aH aq az))),(6,AV.v k0 (D.sl 1 (aj.map ei)),none),(7,vn (aj.length:Nat),none),(8,vn 0,none)]):=by
 refine ba (σ:=List (Int)×List (Int)) (fun s=>[(1,AV.bx 1 0,some (Rt.bx (cb k0 af ax aM aG ak aI aK au ae aj aw aH aq az))),(6,AV.v k0 (D.sl 1 (aj.map ei)),none),(7,vn (aj.length:Nat),none),(8,vn ((s.1.length:Nat):Int),none)]) (fun s=>aj=s.1++s.2∧aj.all (iZ ak)=s.2.all (iZ ak)) (fun s=>s.2.length) ([],aj) (by simp) ⟨rfl,rfl⟩ ?_;rintro ⟨pre,rest⟩ ⟨y1,y2⟩;simp only at y1 y2;have y3:aj.length=pre.length+rest.length:=by rw [y1,zb]
 rcases rest with _|⟨y,rest⟩
 ·simp only [zf] at y3;have c1:¬(pre.length:Int)<(aj.length:Int):=by omega
  have y5:(pre.length:Int)=(aj.length:Int):=by omega
  have h3:=h1 (by rw [y2];rfl);skip;unfold HT;refine Ud c1 ?_;repeat intro hc
  all_goals simpa [y5] using h3
 ·simp only [ze] at y3;simp only [zo] at y2;have hg:aj[pre.length]?=some y:=by rw [y1];simp
  obtain ⟨ai,aB⟩:=za.1 hg;have eW:=zd hg;have c1:(pre.length:Int)<(aj.length:Int):=by omega
  have hw:=Wi ((pre.length:Int)+1);unfold HT;by_cases b1:-1≤y
  ·by_cases b2:y≤ak
   ·have b3:¬ak<y:=by omega
    have hx:(iZ ak) y=true:=by simp [iZ,b1,b2]
    refine Ud (J7 c1 hw ai aB hg b1 b3) ?_;repeat intro hc
    exact ⟨(pre++[y],rest),(by simp),⟨by rw [y1];simp,by rw [y2,hx];simp⟩,by simp⟩
   ·have b3:ak<y:=by omega
    have hx:(iZ ak) y=false:=by simp [iZ,b2]
    have h3:=h2 (by rw [y2,hx];rfl);refine Ud (J7 c1 hw ai aB hg b1 b3) ?_;repeat intro hc
    exact h3
  ·have hx:(iZ ak) y=false:=by simp [iZ,b1]
   have h3:=h2 (by rw [y2,hx];rfl);refine Ud (J6 c1 hw ai aB hg b1) ?_;repeat intro hc
   exact h3
theorem al7 (h:aj.length≤1048576) (h2:au.length≤1048576):Gw TT 453 [.st (cb k0 af ax aM aG ak aI aK au ae aj aw aH aq az)]=some (vb (aj.all (iZ ak)&&decide ((aj.length:Int)=pq au)),[]):=by
 refine Ga GS OV ?_;unfold OV;refine Ud Oo ?_;refine ajn k0 af ax aM aG ak aI aK au ae aj aw aH aq az h (fun e=>?_) (fun e=>?_)
 ·refine Ud h2 ?_;simp [GS,e];rw [zn];simp
 ·refine Ud Oo ?_;all_goals simp [GS,e]
theorem al_ (h:aj.length≤1048576) (h2:au.length≤1048576):Gw TT 456 [.st (cb k0 af ax aM aG ak aI aK au ae aj aw aH aq az)]=some (vb (aj.all (iZ ak)&&decide ((aj.length:Int)=pq au)),[]):=by
 refine Ga GV OZ ?_;unfold OZ;refine Ud Oo ?_;refine ajr k0 af ax aM aG ak aI aK au ae aj aw aH aq az h (fun e=>?_) (fun e=>?_)
 ·refine Ud h2 ?_;simp [GV,e];rw [zn];simp
 ·refine Ud Oo ?_;all_goals simp [GV,e]
theorem ajt {Q:Out→Prop} (k0:Bool) (af:List Int) (ax aM:Int) (aG ak:Int) (aI aK:Int) (au:List aL) (ae:List aU) (aj:List Int) (aw:List cD) (aH:List Int) (aq:List bM) (az:List ca) (hl:aw.length≤1048576)
 (h1:aw.all (gp aI ae)=true→Q (.exit 0 ([(1,AV.bx 1 0,some (Rt.bx (cb k0 af ax aM aG ak aI aK au ae aj aw aH aq az))),(6,AV.v k0 (D.sl 3 (aw.map cD.e)),none),(7,vn (aw.length:Nat),none),(8,vn (aw.length:Nat),none)]++[(9,AV.v false (.bool false),none)])))
 (h2:aw.all (gp aI ae)=false→Q (.ret [(2,AV.v false (.bool false),none)])):Wp (Gw TT) (.loop HW) Q ([(1,AV.bx 1 0,some (Rt.bx (cb k0 af ax aM aG ak aI aK au ae aj aw aH aq az))),(6,AV.v k0 (D.sl 3 (aw.map cD.e)),none),(7,vn (aw.length:Nat),none),(8,vn 0,none)]):=by
 refine ba (σ:=List (cD)×List (cD)) (fun s=>[(1,AV.bx 1 0,some (Rt.bx (cb k0 af ax aM aG ak aI aK au ae aj aw aH aq az))),(6,AV.v k0 (D.sl 3 (aw.map cD.e)),none),(7,vn (aw.length:Nat),none),(8,vn ((s.1.length:Nat):Int),none)]) (fun s=>aw=s.1++s.2∧aw.all (gp aI ae)=s.2.all (gp aI ae)) (fun s=>s.2.length) ([],aw) (by simp) ⟨rfl,rfl⟩ ?_;rintro ⟨pre,rest⟩ ⟨y1,y2⟩;simp only at y1 y2;have y3:aw.length=pre.length+rest.length:=by rw [y1,zb]
 rcases rest with _|⟨⟨dZ,dV,dH⟩,rest⟩
 ·simp only [zf] at y3;have c1:¬(pre.length:Int)<(aw.length:Int):=by omega
  have y5:(pre.length:Int)=(aw.length:Int):=by omega
  have h3:=h1 (by rw [y2];rfl);skip;unfold HW;refine Ud c1 ?_;repeat intro hc
  all_goals simpa [y5] using h3
 ·simp only [ze] at y3;simp only [zo] at y2;have hg:aw[pre.length]?=some ⟨dZ,dV,dH⟩:=by rw [y1];simp
  obtain ⟨ai,aB⟩:=za.1 hg;have eW:=zd hg;have c1:(pre.length:Int)<(aw.length:Int):=by omega
  have hw:=Wi ((pre.length:Int)+1);unfold HW;by_cases b1:0≤dZ∧dZ<(ae.length:Int)
  ·obtain ⟨m,hy⟩:=zi b1.1;have hm:m<ae.length:=by omega
   obtain ⟨⟨bg,bk,⟨bn,bL⟩,bG⟩,gE⟩:∃s,ae[m]?=some s:=⟨_,zg hm⟩;have fx:=(za.1 gE).2;have b2:(m:Int)<(ae.length:Int):=by omega
   have b3:¬(ae.length:Int)≤(m:Int):=by omega
   by_cases b4:bg=dV
   ·by_cases b5:0≤dH∧dH≤aI
    ·have hx:(gp aI ae) ⟨dZ,dV,dH⟩=true:=by simp [gp,hy,gE,b4,b5.1,b5.2]
     refine Ud (J8 c1 hw ai aB hg hy b2 (J7 b3 hm gE fx b4 b5.1 b5.2)) ?_;repeat intro hc
     exact ⟨(pre++[⟨dZ,dV,dH⟩],rest),(by simp),⟨by rw [y1];simp,by rw [y2,hx];simp⟩,by simp⟩
    ·have hx:(gp aI ae) ⟨dZ,dV,dH⟩=false:=by simp [gp,hy,gE,b4];omega
     have h3:=h2 (by rw [y2,hx];rfl);refine Ud (J8 c1 hw ai aB hg hy b2 (J6 b3 hm gE fx b4 b5)) ?_;repeat intro hc
     exact h3
   ·have hx:(gp aI ae) ⟨dZ,dV,dH⟩=false:=by simp [gp,hy,gE,b4]
    have h3:=h2 (by rw [y2,hx];rfl);refine Ud (J8 c1 hw ai aB hg hy b2 (J5 b3 hm gE fx b4)) ?_;repeat intro hc
    exact h3
  ·have b6:gp aI ae ⟨dZ,dV,dH⟩=false:=by
    simp only [gp];by_cases h0:0≤dZ
    ·rw [zj (by omega)];simp
    ·simp [h0]
   by_cases b2:dZ<0
   ·have hx:(gp aI ae) ⟨dZ,dV,dH⟩=false:=b6;have h3:=h2 (by rw [y2,hx];rfl);refine Ud (J6 c1 hw ai aB hg b2) ?_;repeat intro hc
    exact h3
   ·have b3:(ae.length:Int)≤dZ:=by omega
    have hx:(gp aI ae) ⟨dZ,dV,dH⟩=false:=b6;have h3:=h2 (by rw [y2,hx];rfl);refine Ud (J7 c1 hw ai aB hg b2 b3) ?_;repeat intro hc
    exact h3
theorem ama (h:aw.length≤1048576):Gw TT 458 [.st (cb k0 af ax aM aG ak aI aK au ae aj aw aH aq az)]=some (vb (aw.all (gp aI ae)),[]):=by
 refine Ga Sl O1 ?_;unfold O1;refine Ud Oo ?_;refine ajt k0 af ax aM aG ak aI aK au ae aj aw aH aq az h (fun e=>?_) (fun e=>?_);all_goals refine Ud Oo ?_
 all_goals simp [Sl,e]
def dA {α:Type} (p:α→Bool):List α→Int
 |[]=>0
 |x::l=>(if p x=true then 1 else 0)+dA p l
theorem yl {α:Type} (p:α→Bool):∀l,0≤dA p l
 |[]=>by simp [dA]
 |x::l=>by have:=yl p l;simp only [dA];split<;>omega
theorem Fk {α:Type} (p:α→Bool):∀l,dA p l≤l.length
 |[]=>by simp [dA]
 |x::l=>by have:=Fk p l;simp only [dA,ze];split<;>omega
def oz (t:Int) (s:bp):Bool:=decide (s.rC≤t)
def kW (cols:List Int) (t:Int) (b:aU):Bool:=eg cols b.fW b.Kind b.C.Next b.C.L b.G&&b.C.L.all (oz t)
def mO (i:Int) (t:bM):Bool:=decide (t.vg=IntKind.wrap .i64 (i+1))
def nB (i:Int) (r:aL):Bool:=decide (r.dW=i)
def kC (i:Int) (d:cD):Bool:=decide (d.dW=i)
theorem ajq {Q:Out→Prop} (k0:Bool) (af:List Int) (ax aM:Int) (aG ak:Int) (aI aK:Int) (au:List aL) (ae:List aU) (aj:List Int) (aw:List cD) (aH:List Int) (aq:List bM) (az:List ca) (dK dz dI:Int) (cu:List bp) (dJ:List Int) (j:Int) (hl:cu.length≤1048576)
 (h1:cu.all (oz ak)=true→Q (.exit 2 ([(1,AV.bx 1 0,some (Rt.bx (cb k0 af ax aM aG ak aI aK au ae aj aw aH aq az))),(4,AV.bx 4 0,some (Rt.bx (m_ k0 dK dz dI cu dJ))),(15,AV.v k0 (D.sl 5 (ae.map aU.e)),none),(16,vn (ae.length:Nat),none),(17,vn j,none),(29,AV.v k0 (D.sl 2 (cu.map bp.e)),none),(30,vn (cu.length:Nat),none),(31,vn (cu.length:Nat),none)]++[(32,AV.v false (.bool false),none)])))
 (h2:cu.all (oz ak)=false→Q (.ret [(2,AV.v false (.bool false),none)])):Wp (Gw TT) (.loop HR) Q ([(1,AV.bx 1 0,some (Rt.bx (cb k0 af ax aM aG ak aI aK au ae aj aw aH aq az))),(4,AV.bx 4 0,some (Rt.bx (m_ k0 dK dz dI cu dJ))),(15,AV.v k0 (D.sl 5 (ae.map aU.e)),none),(16,vn (ae.length:Nat),none),(17,vn j,none),(29,AV.v k0 (D.sl 2 (cu.map bp.e)),none),(30,vn (cu.length:Nat),none),(31,vn 0,none)]):=by
 refine ba (σ:=List (bp)×List (bp)) (fun s=>[(1,AV.bx 1 0,some (Rt.bx (cb k0 af ax aM aG ak aI aK au ae aj aw aH aq az))),(4,AV.bx 4 0,some (Rt.bx (m_ k0 dK dz dI cu dJ))),(15,AV.v k0 (D.sl 5 (ae.map aU.e)),none),(16,vn (ae.length:Nat),none),(17,vn j,none),(29,AV.v k0 (D.sl 2 (cu.map bp.e)),none),(30,vn (cu.length:Nat),none),(31,vn ((s.1.length:Nat):Int),none)]) (fun s=>cu=s.1++s.2∧cu.all (oz ak)=s.2.all (oz ak)) (fun s=>s.2.length) ([],cu) (by simp) ⟨rfl,rfl⟩ ?_;rintro ⟨pre,rest⟩ ⟨y1,y2⟩;simp only at y1 y2;have y3:cu.length=pre.length+rest.length:=by rw [y1,zb]
 rcases rest with _|⟨⟨kf,a_⟩,rest⟩
 ·simp only [zf] at y3;have c1:¬(pre.length:Int)<(cu.length:Int):=by omega
  have y5:(pre.length:Int)=(cu.length:Int):=by omega
  have h3:=h1 (by rw [y2];rfl);skip;unfold HR;refine Ud c1 ?_;repeat intro hc
  all_goals simpa [y5] using h3
 ·simp only [ze] at y3;simp only [zo] at y2;have hg:cu[pre.length]?=some ⟨kf,a_⟩:=by rw [y1];simp
  obtain ⟨ai,aB⟩:=za.1 hg;have eW:=zd hg;have c1:(pre.length:Int)<(cu.length:Int):=by omega
  have hw:=Wi ((pre.length:Int)+1);unfold HR;by_cases b1:kf≤ak
  ·have b2:¬ak<kf:=by omega
   have hx:(oz ak) ⟨kf,a_⟩=true:=by simp [oz,b1]
   refine Ud (J6 c1 hw ai aB hg b2) ?_;repeat intro hc
   exact ⟨(pre++[⟨kf,a_⟩],rest),(by simp),⟨by rw [y1];simp,by rw [y2,hx];simp⟩,by simp⟩
  ·have b2:ak<kf:=by omega
   have hx:(oz ak) ⟨kf,a_⟩=false:=by simp [oz,b1]
   have h3:=h2 (by rw [y2,hx];rfl);refine Ud (J6 c1 hw ai aB hg b2) ?_;repeat intro hc
   exact h3
theorem ajp {Q:Out→Prop} (k0:Bool) (af:List Int) (ax aM:Int) (aG ak:Int) (aI aK:Int) (au:List aL) (ae:List aU) (aj:List Int) (aw:List cD) (aH:List Int) (aq:List bM) (az:List ca) (hl:ae.length≤1048576) (aD:af.length≤1048576) (hs:aU.aJ ae) (hG:∀b∈ae,b.G.length≤1048576∧bI b.G)
 (h1:ae.all (kW af ak)=true→Q (.exit 0 ([(1,AV.bx 1 0,some (Rt.bx (cb k0 af ax aM aG ak aI aK au ae aj aw aH aq az))),(15,AV.v k0 (D.sl 5 (ae.map aU.e)),none),(16,vn (ae.length:Nat),none),(17,vn (ae.length:Nat),none)]++[(18,AV.v false (.bool false),none)])))
 (h2:ae.all (kW af ak)=false→Q (.ret [(2,AV.v false (.bool false),none)])):Wp (Gw TT) (.loop HS) Q ([(1,AV.bx 1 0,some (Rt.bx (cb k0 af ax aM aG ak aI aK au ae aj aw aH aq az))),(15,AV.v k0 (D.sl 5 (ae.map aU.e)),none),(16,vn (ae.length:Nat),none),(17,vn 0,none)]):=by
 refine ba (σ:=List (aU)×List (aU)) (fun s=>[(1,AV.bx 1 0,some (Rt.bx (cb k0 af ax aM aG ak aI aK au ae aj aw aH aq az))),(15,AV.v k0 (D.sl 5 (ae.map aU.e)),none),(16,vn (ae.length:Nat),none),(17,vn ((s.1.length:Nat):Int),none)]) (fun s=>ae=s.1++s.2∧ae.all (kW af ak)=s.2.all (kW af ak)) (fun s=>s.2.length) ([],ae) (by simp) ⟨rfl,rfl⟩ ?_;rintro ⟨pre,rest⟩ ⟨y1,y2⟩;simp only at y1 y2;have y3:ae.length=pre.length+rest.length:=by rw [y1,zb]
 rcases rest with _|⟨⟨dK,dz,⟨dI,cu⟩,dJ⟩,rest⟩
 ·simp only [zf] at y3;have c1:¬(pre.length:Int)<(ae.length:Int):=by omega
  have y5:(pre.length:Int)=(ae.length:Int):=by omega
  have h3:=h1 (by rw [y2];rfl);skip;unfold HS;refine Ud c1 ?_;repeat intro hc
  all_goals simpa [y5] using h3
 ·simp only [ze] at y3;simp only [zo] at y2;have hg:ae[pre.length]?=some ⟨dK,dz,⟨dI,cu⟩,dJ⟩:=by rw [y1];simp
  obtain ⟨ai,aB⟩:=za.1 hg;have eW:=zd hg;have c1:(pre.length:Int)<(ae.length:Int):=by omega
  have hw:=Wi ((pre.length:Int)+1);obtain ⟨⟨m1,m2⟩,_⟩:=hs _ eW;obtain ⟨m3,m4⟩:=hG _ eW;simp only at m1 m2 m3 m4;unfold HS;cases b1:eg af dK dz dI cu dJ with
  |false=>
   have hx:(kW af ak) ⟨dK,dz,⟨dI,cu⟩,dJ⟩=false:=by simp [kW,b1]
   have h3:=h2 (by rw [y2,hx];rfl);refine Ud (J8 c1 hw ai aB hg b1 aD (J4 m1 m2 m3 m4)) ?_;repeat intro hc
   exact h3
  |true=>
   refine Ud (J8 c1 hw ai aB hg b1 aD (J4 m1 m2 m3 m4)) ?_;repeat intro hc
   refine ajq k0 af ax aM aG ak aI aK au ae aj aw aH aq az dK dz dI cu dJ _ m1 (fun e=>?_) (fun e=>?_)
   ·have hx:kW af ak ⟨dK,dz,⟨dI,cu⟩,dJ⟩=true:=by simp only [kW,b1,e,zq]
    refine Ud hw ?_;exact ⟨(pre++[⟨dK,dz,⟨dI,cu⟩,dJ⟩],rest),(by simp),⟨by rw [y1];simp,by rw [y2,hx];simp⟩,by simp⟩
   ·have hx:kW af ak ⟨dK,dz,⟨dI,cu⟩,dJ⟩=false:=by simp only [kW,b1,e,zk]
    have h3:=h2 (by rw [y2,hx];rfl);refine Ud Oo ?_;exact h3
theorem al9 (h:ae.length≤1048576) (aD:af.length≤1048576) (hs:aU.aJ ae) (hG:∀b∈ae,b.G.length≤1048576∧bI b.G):Gw TT 455 [.st (cb k0 af ax aM aG ak aI aK au ae aj aw aH aq az)]=some (vb (decide ((ae.length:Int)=aM)&&ae.all (kW af ak)),[]):=by
 refine Ga GU OY ?_;unfold OY;by_cases q:(ae.length:Int)=aM
 ·subst q;refine Ud Oo ?_;repeat intro hc
  refine ajp k0 af ax _ aG ak aI aK au ae aj aw aH aq az h aD hs hG (fun e=>?_) (fun e=>?_);all_goals refine Ud Oo ?_
  all_goals simp [GU,e]
 ·refine Ud q ?_;repeat intro hc
  all_goals simp [GU,q]
def Fs (x:aA):List D:=[di x.Id,.dead]
def ub (f m:Int) (x:aA):Bool:=rh f m x.Id
def wD (f m:Int) (x:aA):Bool:=decide (f≤x.Id∧x.Id≤IntKind.wrap .i64 (IntKind.wrap .i64 (f+m)-1))
def kH (cols:List Int) (uf:Int) (B:List aU) (r:aL):Bool:=jk B r.dW r.fW r.Kind r.ek&&(decide (r.Kind=1→r.ek=uf)&&(gX cols B r).all (ub r.iz r.ek))
def wF (cols:List Int) (B:List aU) (r:aL):List aA:=match B[r.dW.toNat]? with
 |some b=>(dn cols b.G).getD []
 |none=>[]
def kV (cols:List Int) (uf:Int) (B:List aU) (r:aL):Bool:=jk B r.dW r.fW r.Kind r.ek&&(if r.Kind=1 then decide (r.ek=uf) else (wF cols B r).all (wD r.iz r.ek))
theorem afz {cols:List Int} {B:List aU} {r:aL} (h:¬r.Kind=2):gX cols B r=[]:=by
 unfold gX;rw [if_neg (fun e=>h e.1)]
theorem abA {Q:Out→Prop} (k0:Bool) (af:List Int) (ax aM:Int) (aG ak:Int) (aI aK:Int) (au:List aL) (ae:List aU) (aj:List Int) (aw:List cD) (aH:List Int) (aq:List bM) (az:List ca) (bo bz bV bj aZ j:Int) (R:List aA) (hl:R.length≤1048576)
 (h1:R.all (ub bj aZ)=true→Q (.exit 2 ([(1,AV.bx 1 0,some (Rt.bx (cb k0 af ax aM aG ak aI aK au ae aj aw aH aq az))),(4,AV.bx 4 0,some (Rt.bx (lX bo bz bV bj aZ))),(9,AV.v k0 (D.sl 5 (au.map aL.e)),none),(10,vn (au.length:Nat),none),(11,vn j,none),(34,AV.pl 34 0 [],some (Rt.aX [C.own (D.sl 2 ((R:List aA).map Fs++([]:List aA).map aA.e))])),(35,vn (R.length:Nat),none),(36,vn (R.length:Nat),none)]++[(37,AV.v false (.bool false),none)])))
 (h2:R.all (ub bj aZ)=false→Q (.ret [(2,AV.v false (.bool false),none)])):Wp (Gw TT) (.loop HU) Q ([(1,AV.bx 1 0,some (Rt.bx (cb k0 af ax aM aG ak aI aK au ae aj aw aH aq az))),(4,AV.bx 4 0,some (Rt.bx (lX bo bz bV bj aZ))),(9,AV.v k0 (D.sl 5 (au.map aL.e)),none),(10,vn (au.length:Nat),none),(11,vn j,none),(34,AV.pl 34 0 [],some (Rt.aX [C.own (D.sl 2 (([]:List aA).map Fs++(R:List aA).map aA.e))])),(35,vn (R.length:Nat),none),(36,vn 0,none)]):=by
 refine ba (σ:=List (aA)×List (aA)) (fun s=>[(1,AV.bx 1 0,some (Rt.bx (cb k0 af ax aM aG ak aI aK au ae aj aw aH aq az))),(4,AV.bx 4 0,some (Rt.bx (lX bo bz bV bj aZ))),(9,AV.v k0 (D.sl 5 (au.map aL.e)),none),(10,vn (au.length:Nat),none),(11,vn j,none),(34,AV.pl 34 0 [],some (Rt.aX [C.own (D.sl 2 ((s.1:List aA).map Fs++(s.2:List aA).map aA.e))])),(35,vn (R.length:Nat),none),(36,vn ((s.1.length:Nat):Int),none)]) (fun s=>R=s.1++s.2∧R.all (ub bj aZ)=s.2.all (ub bj aZ)) (fun s=>s.2.length) ([],R) (by simp) ⟨rfl,rfl⟩ ?_;rintro ⟨pre,rest⟩ ⟨y1,y2⟩;simp only at y1 y2;have y3:R.length=pre.length+rest.length:=by rw [y1,zb]
 rcases rest with _|⟨⟨bU,a_⟩,rest⟩
 ·simp only [zf] at y3;have c1:¬(pre.length:Int)<(R.length:Int):=by omega
  have y5:(pre.length:Int)=(R.length:Int):=by omega
  have h3:=h1 (by rw [y2];rfl);obtain rfl:pre=R:=by rw [y1];simp
  unfold HU;refine Ud c1 ?_;repeat intro hc
  all_goals simpa [y5] using h3
 ·simp only [ze] at y3;simp only [zo] at y2;have hg:R[pre.length]?=some ⟨bU,a_⟩:=by rw [y1];simp
  obtain ⟨ai,aB⟩:=za.1 hg;have eW:=zd hg;have c1:(pre.length:Int)<(R.length:Int):=by omega
  have hw:=Wi ((pre.length:Int)+1);unfold HU;cases b1:rh bj aZ bU with
  |false=>
   have hx:(ub bj aZ) ⟨bU,a_⟩=false:=by simp [ub,b1]
   have h3:=h2 (by rw [y2,hx];rfl);refine Ud (J6 c1 hw ai aB hg b1) ?_;repeat intro hc
   exact h3
  |true=>
   have hx:(ub bj aZ) ⟨bU,a_⟩=true:=by simp [ub,b1]
   refine Ud (J6 c1 hw ai aB hg b1) ?_;repeat intro hc
   exact ⟨(pre++[⟨bU,a_⟩],rest),(by simp [Fs];try omega),⟨by rw [y1];simp,by rw [y2,hx];simp⟩,by simp⟩
theorem ajs {Q:Out→Prop} (k0:Bool) (af:List Int) (ax aM:Int) (aG ak:Int) (aI aK:Int) (au:List aL) (ae:List aU) (aj:List Int) (aw:List cD) (aH:List Int) (aq:List bM) (az:List ca) (hl:au.length≤1048576) (aD:af.length≤1048576) (cT:ae.length≤1048576) (hs:aU.aJ ae) (hG:∀b∈ae,b.G.length≤1048576∧bI b.G)
 (h1:au.all (kH af ax ae)=true→Q (.exit 0 ([(1,AV.bx 1 0,some (Rt.bx (cb k0 af ax aM aG ak aI aK au ae aj aw aH aq az))),(9,AV.v k0 (D.sl 5 (au.map aL.e)),none),(10,vn (au.length:Nat),none),(11,vn (au.length:Nat),none)]++[(12,AV.v false (.bool false),none)])))
 (h2:au.all (kH af ax ae)=false→Q (.ret [(2,AV.v false (.bool false),none)])):Wp (Gw TT) (.loop HV) Q ([(1,AV.bx 1 0,some (Rt.bx (cb k0 af ax aM aG ak aI aK au ae aj aw aH aq az))),(9,AV.v k0 (D.sl 5 (au.map aL.e)),none),(10,vn (au.length:Nat),none),(11,vn 0,none)]):=by
 refine ba (σ:=List (aL)×List (aL)) (fun s=>[(1,AV.bx 1 0,some (Rt.bx (cb k0 af ax aM aG ak aI aK au ae aj aw aH aq az))),(9,AV.v k0 (D.sl 5 (au.map aL.e)),none),(10,vn (au.length:Nat),none),(11,vn ((s.1.length:Nat):Int),none)]) (fun s=>au=s.1++s.2∧au.all (kH af ax ae)=s.2.all (kH af ax ae)) (fun s=>s.2.length) ([],au) (by simp) ⟨rfl,rfl⟩ ?_;rintro ⟨pre,rest⟩ ⟨y1,y2⟩;simp only at y1 y2;have y3:au.length=pre.length+rest.length:=by rw [y1,zb]
 rcases rest with _|⟨⟨bo,bz,bV,bj,aZ⟩,rest⟩
 ·simp only [zf] at y3;have c1:¬(pre.length:Int)<(au.length:Int):=by omega
  have y5:(pre.length:Int)=(au.length:Int):=by omega
  have h3:=h1 (by rw [y2];rfl);skip;unfold HV;refine Ud c1 ?_;repeat intro hc
  all_goals simpa [y5] using h3
 ·simp only [ze] at y3;simp only [zo] at y2;have hg:au[pre.length]?=some ⟨bo,bz,bV,bj,aZ⟩:=by rw [y1];simp
  obtain ⟨ai,aB⟩:=za.1 hg;have eW:=zd hg;have c1:(pre.length:Int)<(au.length:Int):=by omega
  have hw:=Wi ((pre.length:Int)+1);unfold HV;have BI:=afA (cols:=af) (B:=ae) (r:=⟨bo,bz,bV,bj,aZ⟩);have JV:=fun k:Bool=>acZ k af ax aM aG ak aI aK au ae aj aw aH aq az bo bz bV bj aZ cT aD hG
  cases b1:jk ae bo bz bV aZ with
  |false=>
   have hx:(kH af ax ae) ⟨bo,bz,bV,bj,aZ⟩=false:=by simp [kH,b1]
   have h3:=h2 (by rw [y2,hx];rfl);refine Ud (J7 c1 hw ai aB hg b1 cT) ?_;repeat intro hc
   exact h3
  |true=>
   by_cases z:bV=1
   ·by_cases z2:aZ=ax
    ·have hk:bV=1→aZ=ax:=fun _=>z2
     refine Ud (J8 c1 hw ai aB hg b1 cT (J3 JV (eq_true z) (eq_true z2))) ?_;repeat intro hc
     refine abA k0 af ax aM aG ak aI aK au ae aj aw aH aq az bo bz bV bj aZ _ _ BI (fun e=>?_) (fun e=>?_)
     ·have hx:kH af ax ae ⟨bo,bz,bV,bj,aZ⟩=true:=by simp only [kH,b1,e,zq,zh,zJ,decide_eq_true_eq];exact hk
      refine Ud hw ?_;exact ⟨(pre++[⟨bo,bz,bV,bj,aZ⟩],rest),(by simp),⟨by rw [y1];simp,by rw [y2,hx];simp⟩,by simp⟩
     ·have hx:kH af ax ae ⟨bo,bz,bV,bj,aZ⟩=false:=by simp only [kH,b1,e,zk]
      have h3:=h2 (by rw [y2,hx];rfl);refine Ud Oo ?_;exact h3
    ·have hx:kH af ax ae ⟨bo,bz,bV,bj,aZ⟩=false:=by simp [kH,z,z2]
     have h3:=h2 (by rw [y2,hx];rfl);refine Ud (J8 c1 hw ai aB hg b1 cT (J3 JV z z2)) ?_ ?_;all_goals repeat intro hc
     all_goals exact h3
   ·have hk:bV=1→aZ=ax:=fun e=>absurd e z
    refine Ud (J8 c1 hw ai aB hg b1 cT (J2 JV z)) ?_;repeat intro hc
    refine abA k0 af ax aM aG ak aI aK au ae aj aw aH aq az bo bz bV bj aZ _ _ BI (fun e=>?_) (fun e=>?_)
    ·have hx:kH af ax ae ⟨bo,bz,bV,bj,aZ⟩=true:=by simp only [kH,b1,e,zq,zh,zJ,decide_eq_true_eq];exact hk
     refine Ud hw ?_;exact ⟨(pre++[⟨bo,bz,bV,bj,aZ⟩],rest),(by simp),⟨by rw [y1];simp,by rw [y2,hx];simp⟩,by simp⟩
    ·have hx:kH af ax ae ⟨bo,bz,bV,bj,aZ⟩=false:=by simp only [kH,b1,e,zk]
     have h3:=h2 (by rw [y2,hx];rfl);refine Ud Oo ?_;exact h3
theorem al' (h:au.length≤1048576) (aD:af.length≤1048576) (cT:ae.length≤1048576) (hs:aU.aJ ae) (hG:∀b∈ae,b.G.length≤1048576∧bI b.G):Gw TT 457 [.st (cb k0 af ax aM aG ak aI aK au ae aj aw aH aq az)]=some (vb (au.all (kH af ax ae)),[]):=by
 refine Ga Sk O0 ?_;unfold O0;refine Ud Oo ?_;refine ajs k0 af ax aM aG ak aI aK au ae aj aw aH aq az h aD cT hs hG (fun e=>?_) (fun e=>?_);all_goals refine Ud Oo ?_
 all_goals simp [Sk,e]
theorem ajm {Q:Out→Prop} (k0:Bool) (af:List Int) (ax aM:Int) (aG ak:Int) (aI aK:Int) (au:List aL) (ae:List aU) (aj:List Int) (aw:List cD) (aH:List Int) (aq:List bM) (az:List ca) (bo bz bV bj aZ j:Int) (R:List aA) (hl:R.length≤1048576)
 (h1:R.all (wD bj aZ)=true→Q (.exit 2 ([(1,AV.bx 1 0,some (Rt.bx (cb k0 af ax aM aG ak aI aK au ae aj aw aH aq az))),(3,vn j,none),(4,AV.bx 4 0,some (Rt.bx (lX bo bz bV bj aZ))),(5,AV.pl 5 0 [],some (Rt.aX [C.own (D.sl 2 (R.map aA.e))])),(6,vn (R.length:Nat),none)]++[(40,AV.v false (.bool false),none)])))
 (h2:R.all (wD bj aZ)=false→Q (.ret [(2,AV.v false (.bool false),none)])):Wp (Gw TT) (.loop HN) Q ([(1,AV.bx 1 0,some (Rt.bx (cb k0 af ax aM aG ak aI aK au ae aj aw aH aq az))),(3,vn j,none),(4,AV.bx 4 0,some (Rt.bx (lX bo bz bV bj aZ))),(5,AV.pl 5 0 [],some (Rt.aX [C.own (D.sl 2 (R.map aA.e))])),(6,vn 0,none)]):=by
 refine ba (σ:=List (aA)×List (aA)) (fun s=>[(1,AV.bx 1 0,some (Rt.bx (cb k0 af ax aM aG ak aI aK au ae aj aw aH aq az))),(3,vn j,none),(4,AV.bx 4 0,some (Rt.bx (lX bo bz bV bj aZ))),(5,AV.pl 5 0 [],some (Rt.aX [C.own (D.sl 2 (R.map aA.e))])),(6,vn ((s.1.length:Nat):Int),none)]) (fun s=>R=s.1++s.2∧R.all (wD bj aZ)=s.2.all (wD bj aZ)) (fun s=>s.2.length) ([],R) (by simp) ⟨rfl,rfl⟩ ?_;rintro ⟨pre,rest⟩ ⟨y1,y2⟩;simp only at y1 y2;have y3:R.length=pre.length+rest.length:=by rw [y1,zb]
 rcases rest with _|⟨⟨bU,a_⟩,rest⟩
 ·simp only [zf] at y3;have c1:¬(pre.length:Int)<(R.length:Int):=by omega
  have y5:(pre.length:Int)=(R.length:Int):=by omega
  have h3:=h1 (by rw [y2];rfl);skip;unfold HN;refine Ud c1 ?_;repeat intro hc
  all_goals simpa [y5] using h3
 ·simp only [ze] at y3;simp only [zo] at y2;have hg:R[pre.length]?=some ⟨bU,a_⟩:=by rw [y1];simp
  obtain ⟨ai,aB⟩:=za.1 hg;have eW:=zd hg;have c1:(pre.length:Int)<(R.length:Int):=by omega
  have hw:=Wi ((pre.length:Int)+1);unfold HN;by_cases b1:bj≤bU∧bU≤IntKind.wrap .i64 (IntKind.wrap .i64 (bj+aZ)-1)
  ·have hx:(wD bj aZ) ⟨bU,a_⟩=true:=decide_eq_true b1;refine Ud (J7 c1 hw ai aB hg b1.1 b1.2) ?_;repeat intro hc
   exact ⟨(pre++[⟨bU,a_⟩],rest),(by simp),⟨by rw [y1];simp,by rw [y2,hx];simp⟩,by simp⟩
  ·have hx:(wD bj aZ) ⟨bU,a_⟩=false:=decide_eq_false b1;have h3:=h2 (by rw [y2,hx];rfl);refine Ud (J6 c1 hw ai aB hg b1) ?_;repeat intro hc
   exact h3
theorem ajl {Q:Out→Prop} (k0:Bool) (af:List Int) (ax aM:Int) (aG ak:Int) (aI aK:Int) (au:List aL) (ae:List aU) (aj:List Int) (aw:List cD) (aH:List Int) (aq:List bM) (az:List ca) (hl:au.length≤1048576) (aD:af.length≤1048576) (cT:ae.length≤1048576) (hs:aU.aJ ae) (hG:∀b∈ae,b.G.length≤1048576∧bI b.G)
 (h1:au.all (kV af ax ae)=true→Q (.exit 0 ([(1,AV.bx 1 0,some (Rt.bx (cb k0 af ax aM aG ak aI aK au ae aj aw aH aq az))),(3,vn (au.length:Nat),none)]++[(12,AV.v false (.bool false),none)])))
 (h2:au.all (kV af ax ae)=false→Q (.ret [(2,AV.v false (.bool false),none)])):Wp (Gw TT) (.loop HO) Q ([(1,AV.bx 1 0,some (Rt.bx (cb k0 af ax aM aG ak aI aK au ae aj aw aH aq az))),(3,vn 0,none)]):=by
 refine ba (σ:=List (aL)×List (aL)) (fun s=>[(1,AV.bx 1 0,some (Rt.bx (cb k0 af ax aM aG ak aI aK au ae aj aw aH aq az))),(3,vn ((s.1.length:Nat):Int),none)]) (fun s=>au=s.1++s.2∧au.all (kV af ax ae)=s.2.all (kV af ax ae)) (fun s=>s.2.length) ([],au) (by simp) ⟨rfl,rfl⟩ ?_;rintro ⟨pre,rest⟩ ⟨y1,y2⟩;simp only at y1 y2;have y3:au.length=pre.length+rest.length:=by rw [y1,zb]
 rcases rest with _|⟨⟨bo,bz,bV,bj,aZ⟩,rest⟩
 ·simp only [zf] at y3;have c1:¬(pre.length:Int)<(au.length:Int):=by omega
  have y5:(pre.length:Int)=(au.length:Int):=by omega
  have h3:=h1 (by rw [y2];rfl);skip;unfold HO;refine Ud c1 ?_;repeat intro hc
  all_goals simpa [y5] using h3
 ·simp only [ze] at y3;simp only [zo] at y2;have hg:au[pre.length]?=some ⟨bo,bz,bV,bj,aZ⟩:=by rw [y1];simp
  obtain ⟨ai,aB⟩:=za.1 hg;have eW:=zd hg;have c1:(pre.length:Int)<(au.length:Int):=by omega
  have hw:=Wi ((pre.length:Int)+1);unfold HO;cases b1:jk ae bo bz bV aZ with
  |false=>
   have hx:(kV af ax ae) ⟨bo,bz,bV,bj,aZ⟩=false:=by simp [kV,b1]
   have h3:=h2 (by rw [y2,hx];rfl);refine Ud (J7 c1 hw ai aB hg b1 cT) ?_;repeat intro hc
   exact h3
  |true=>
   obtain ⟨⟨bg,bk,⟨bn,bL⟩,bG⟩,hb,jr,iV,tq⟩:=Cx b1;obtain ⟨rS,qn⟩:=hG _ tq;simp only at rS qn;have xc:=fun k0:Bool=>acY k0 af ax aM aG ak aI aK au ae aj aw aH aq az bo bz bV bj aZ bg bk bn bL bG hb jr iV aD rS qn
   have hrw:wF af ae ⟨bo,bz,bV,bj,aZ⟩=(dn af bG).getD []:=by simp only [wF];rw [hb]
   by_cases z:bV=1
   ·by_cases z2:aZ=ax
    ·have hx:kV af ax ae ⟨bo,bz,bV,bj,aZ⟩=true:=by simp [kV,b1,z,z2] at b1 ⊢;exact b1
     refine Ud (J8 c1 hw ai aB hg b1 cT (J2 (eq_true z) (eq_true z2))) ?_;repeat intro hc
     exact ⟨(pre++[⟨bo,bz,bV,bj,aZ⟩],rest),(by simp),⟨by rw [y1];simp,by rw [y2,hx];simp⟩,by simp⟩
    ·have hx:kV af ax ae ⟨bo,bz,bV,bj,aZ⟩=false:=by simp [kV,z,z2]
     have h3:=h2 (by rw [y2,hx];rfl);refine Ud (J8 c1 hw ai aB hg b1 cT (J2 (eq_true z) z2)) ?_;repeat intro hc
     exact h3
   ·refine Ud (J8 c1 hw ai aB hg b1 cT (J2 xc z)) ?_;repeat intro hc
    refine ajm k0 af ax aM aG ak aI aK au ae aj aw aH aq az bo bz bV bj aZ _ _ (W4 af bG) (fun e=>?_) (fun e=>?_)
    ·have hx:kV af ax ae ⟨bo,bz,bV,bj,aZ⟩=true:=by simp only [kV,b1,if_neg z,hrw,e,zq]
     refine Ud hw ?_;exact ⟨(pre++[⟨bo,bz,bV,bj,aZ⟩],rest),(by simp),⟨by rw [y1];simp,by rw [y2,hx];simp⟩,by simp⟩
    ·have hx:kV af ax ae ⟨bo,bz,bV,bj,aZ⟩=false:=by simp only [kV,b1,if_neg z,hrw,e,zk]
     have h3:=h2 (by rw [y2,hx];rfl);refine Ud Oo ?_;exact h3
theorem al6 (h:au.length≤1048576) (aD:af.length≤1048576) (cT:ae.length≤1048576) (hs:aU.aJ ae) (hG:∀b∈ae,b.G.length≤1048576∧bI b.G):Gw TT 452 [.st (cb k0 af ax aM aG ak aI aK au ae aj aw aH aq az)]=some (vb (au.all (kV af ax ae)),[]):=by
 refine Ga Sj OU ?_;unfold OU;refine Ud Oo ?_;refine ajl k0 af ax aM aG ak aI aK au ae aj aw aH aq az h aD cT hs hG (fun e=>?_) (fun e=>?_);all_goals refine Ud Oo ?_
 all_goals simp [Sj,e]
def allI {α:Type} (p:Int→α→Bool):Int→List α→Bool
 |_,[]=>true
 |i,x::l=>p i x&&allI p (i+1) l
def mu (L:List aL) (X:List cD) (T:List bM) (i:Int) (b:aU):Bool:=if b.Kind=0 then decide (dA (nB i) L+dA (kC i) X+dA (mO i) T≤0) else decide (dA (nB i) L+dA (kC i) X+dA (mO i) T=1)
def nS (L:List aL) (X:List cD) (T:List bM) (i:Int):Int:=(if gY i L=true then 1 else 0)+dA (kC i) X+dA (mO i) T
def ib (cols:List Int) (t:Int) (L:List aL) (X:List cD) (T:List bM) (i:Int) (b:aU):Bool:=kW cols t b&&(if b.Kind=0 then decide (nS L X T i=0) else decide (nS L X T i=1))
theorem ajy {Q:Out→Prop} (k0:Bool) (af:List Int) (ax aM:Int) (aG ak:Int) (aI aK:Int) (au:List aL) (ae:List aU) (aj:List Int) (aw:List cD) (aH:List Int) (aq:List bM) (az:List ca) (dK dz dI:Int) (cu:List bp) (dJ:List Int) (j n0:Int) (fK:0≤n0) (pI:n0≤4000000) (hl:au.length≤1048576)
 (h1:Q (.exit 2 ([(1,AV.bx 1 0,some (Rt.bx (cb k0 af ax aM aG ak aI aK au ae aj aw aH aq az))),(3,vn j,none),(4,AV.bx 4 0,some (Rt.bx (m_ k0 dK dz dI cu dJ))),(5,vn (n0+dA (nB j) au),none),(13,AV.v k0 (D.sl 5 (ae.map aU.e)),none),(14,vn (ae.length:Nat),none),(15,vn j,none),(22,AV.v k0 (D.sl 5 (au.map aL.e)),none),(23,vn (au.length:Nat),none),(24,vn (au.length:Nat),none)]++[(25,AV.v false (.bool false),none)]))):Wp (Gw TT) (.loop H2) Q ([(1,AV.bx 1 0,some (Rt.bx (cb k0 af ax aM aG ak aI aK au ae aj aw aH aq az))),(3,vn j,none),(4,AV.bx 4 0,some (Rt.bx (m_ k0 dK dz dI cu dJ))),(5,vn n0,none),(13,AV.v k0 (D.sl 5 (ae.map aU.e)),none),(14,vn (ae.length:Nat),none),(15,vn j,none),(22,AV.v k0 (D.sl 5 (au.map aL.e)),none),(23,vn (au.length:Nat),none),(24,vn 0,none)]):=by
 refine ba (σ:=List (aL)×List (aL)×Int) (fun s=>[(1,AV.bx 1 0,some (Rt.bx (cb k0 af ax aM aG ak aI aK au ae aj aw aH aq az))),(3,vn j,none),(4,AV.bx 4 0,some (Rt.bx (m_ k0 dK dz dI cu dJ))),(5,vn s.2.2,none),(13,AV.v k0 (D.sl 5 (ae.map aU.e)),none),(14,vn (ae.length:Nat),none),(15,vn j,none),(22,AV.v k0 (D.sl 5 (au.map aL.e)),none),(23,vn (au.length:Nat),none),(24,vn ((s.1.length:Nat):Int),none)]) (fun s=>au=s.1++s.2.1∧n0+dA (nB j) au=s.2.2+dA (nB j) s.2.1∧0≤s.2.2∧s.2.2≤n0+s.1.length) (fun s=>s.2.1.length) ([],au,n0) (by simp) ⟨rfl,rfl,fK,by simp⟩ ?_;rintro ⟨pre,rest,a⟩ ⟨y1,y2,y4,y5⟩;simp only at y1 y2 y4 y5;have y3:au.length=pre.length+rest.length:=by rw [y1,zb]
 rcases rest with _|⟨⟨dZ,dV,cO,wO,wQ⟩,rest⟩
 ·simp only [zf] at y3;simp only [dA,zA] at y2;have c1:¬(pre.length:Int)<(au.length:Int):=by omega
  have y6:(pre.length:Int)=(au.length:Int):=by omega
  rw [y2] at h1;unfold H2;refine Ud c1 ?_;repeat intro hc
  all_goals simpa [y6] using h1
 ·simp only [ze] at y3;simp only [dA] at y2;have hg:au[pre.length]?=some ⟨dZ,dV,cO,wO,wQ⟩:=by rw [y1];simp
  obtain ⟨ai,aB⟩:=za.1 hg;have eW:=zd hg;have c1:(pre.length:Int)<(au.length:Int):=by omega
  have hw:=Wi ((pre.length:Int)+1);have eF:=Wi (a+1);unfold H2;by_cases q:dZ=j
  ·have hx:(nB j) ⟨dZ,dV,cO,wO,wQ⟩=true:=decide_eq_true q;rw [hx] at y2;simp only [if_true] at y2;refine Ud (J7 c1 hw eF ai aB hg q) ?_;repeat intro hc
   exact ⟨(pre++[⟨dZ,dV,cO,wO,wQ⟩],rest,a+1),(by simp),⟨by rw [y1];simp,by rw [y2];dsimp only;omega,by dsimp only;omega,by simp only [zb,ze,zf];omega⟩,by simp⟩
  ·have hx:(nB j) ⟨dZ,dV,cO,wO,wQ⟩=false:=decide_eq_false q;rw [hx] at y2;simp only [zr,if_false] at y2;refine Ud (J7 c1 hw eF ai aB hg q) ?_;repeat intro hc
   exact ⟨(pre++[⟨dZ,dV,cO,wO,wQ⟩],rest,a),(by simp),⟨by rw [y1];simp,by rw [y2];dsimp only;omega,by dsimp only;omega,by simp only [zb,ze,zf];omega⟩,by simp⟩
theorem ajx {Q:Out→Prop} (k0:Bool) (af:List Int) (ax aM:Int) (aG ak:Int) (aI aK:Int) (au:List aL) (ae:List aU) (aj:List Int) (aw:List cD) (aH:List Int) (aq:List bM) (az:List ca) (dK dz dI:Int) (cu:List bp) (dJ:List Int) (j n0:Int) (fK:0≤n0) (pI:n0≤4000000) (hl:aw.length≤1048576)
 (h1:Q (.exit 4 ([(1,AV.bx 1 0,some (Rt.bx (cb k0 af ax aM aG ak aI aK au ae aj aw aH aq az))),(3,vn j,none),(4,AV.bx 4 0,some (Rt.bx (m_ k0 dK dz dI cu dJ))),(5,vn (n0+dA (kC j) aw),none),(13,AV.v k0 (D.sl 5 (ae.map aU.e)),none),(14,vn (ae.length:Nat),none),(15,vn j,none),(36,AV.v k0 (D.sl 3 (aw.map cD.e)),none),(37,vn (aw.length:Nat),none),(38,vn (aw.length:Nat),none)]++[(39,AV.v false (.bool false),none)]))):Wp (Gw TT) (.loop HZ) Q ([(1,AV.bx 1 0,some (Rt.bx (cb k0 af ax aM aG ak aI aK au ae aj aw aH aq az))),(3,vn j,none),(4,AV.bx 4 0,some (Rt.bx (m_ k0 dK dz dI cu dJ))),(5,vn n0,none),(13,AV.v k0 (D.sl 5 (ae.map aU.e)),none),(14,vn (ae.length:Nat),none),(15,vn j,none),(36,AV.v k0 (D.sl 3 (aw.map cD.e)),none),(37,vn (aw.length:Nat),none),(38,vn 0,none)]):=by
 refine ba (σ:=List (cD)×List (cD)×Int) (fun s=>[(1,AV.bx 1 0,some (Rt.bx (cb k0 af ax aM aG ak aI aK au ae aj aw aH aq az))),(3,vn j,none),(4,AV.bx 4 0,some (Rt.bx (m_ k0 dK dz dI cu dJ))),(5,vn s.2.2,none),(13,AV.v k0 (D.sl 5 (ae.map aU.e)),none),(14,vn (ae.length:Nat),none),(15,vn j,none),(36,AV.v k0 (D.sl 3 (aw.map cD.e)),none),(37,vn (aw.length:Nat),none),(38,vn ((s.1.length:Nat):Int),none)]) (fun s=>aw=s.1++s.2.1∧n0+dA (kC j) aw=s.2.2+dA (kC j) s.2.1∧0≤s.2.2∧s.2.2≤n0+s.1.length) (fun s=>s.2.1.length) ([],aw,n0) (by simp) ⟨rfl,rfl,fK,by simp⟩ ?_;rintro ⟨pre,rest,a⟩ ⟨y1,y2,y4,y5⟩;simp only at y1 y2 y4 y5;have y3:aw.length=pre.length+rest.length:=by rw [y1,zb]
 rcases rest with _|⟨⟨dZ,dV,dH⟩,rest⟩
 ·simp only [zf] at y3;simp only [dA,zA] at y2;have c1:¬(pre.length:Int)<(aw.length:Int):=by omega
  have y6:(pre.length:Int)=(aw.length:Int):=by omega
  rw [y2] at h1;unfold HZ;refine Ud c1 ?_;repeat intro hc
  all_goals simpa [y6] using h1
 ·simp only [ze] at y3;simp only [dA] at y2;have hg:aw[pre.length]?=some ⟨dZ,dV,dH⟩:=by rw [y1];simp
  obtain ⟨ai,aB⟩:=za.1 hg;have eW:=zd hg;have c1:(pre.length:Int)<(aw.length:Int):=by omega
  have hw:=Wi ((pre.length:Int)+1);have eF:=Wi (a+1);unfold HZ;by_cases q:dZ=j
  ·have hx:(kC j) ⟨dZ,dV,dH⟩=true:=decide_eq_true q;rw [hx] at y2;simp only [if_true] at y2;refine Ud (J7 c1 hw eF ai aB hg q) ?_;repeat intro hc
   exact ⟨(pre++[⟨dZ,dV,dH⟩],rest,a+1),(by simp),⟨by rw [y1];simp,by rw [y2];dsimp only;omega,by dsimp only;omega,by simp only [zb,ze,zf];omega⟩,by simp⟩
  ·have hx:(kC j) ⟨dZ,dV,dH⟩=false:=decide_eq_false q;rw [hx] at y2;simp only [zr,if_false] at y2;refine Ud (J7 c1 hw eF ai aB hg q) ?_;repeat intro hc
   exact ⟨(pre++[⟨dZ,dV,dH⟩],rest,a),(by simp),⟨by rw [y1];simp,by rw [y2];dsimp only;omega,by dsimp only;omega,by simp only [zb,ze,zf];omega⟩,by simp⟩
theorem ajw {Q:Out→Prop} (k0:Bool) (af:List Int) (ax aM:Int) (aG ak:Int) (aI aK:Int) (au:List aL) (ae:List aU) (aj:List Int) (aw:List cD) (aH:List Int) (aq:List bM) (az:List ca) (dK dz dI:Int) (cu:List bp) (dJ:List Int) (j n0:Int) (fK:0≤n0) (pI:n0≤4000000) (hl:aq.length≤1048576)
 (h1:Q (.exit 6 ([(1,AV.bx 1 0,some (Rt.bx (cb k0 af ax aM aG ak aI aK au ae aj aw aH aq az))),(3,vn j,none),(4,AV.bx 4 0,some (Rt.bx (m_ k0 dK dz dI cu dJ))),(5,vn (n0+dA (mO j) aq),none),(13,AV.v k0 (D.sl 5 (ae.map aU.e)),none),(14,vn (ae.length:Nat),none),(15,vn j,none),(50,AV.v k0 (D.sl 25 (aq.map bM.e)),none),(51,vn (aq.length:Nat),none),(52,vn (aq.length:Nat),none)]++[(53,AV.v false (.bool false),none)]))):Wp (Gw TT) (.loop HY) Q ([(1,AV.bx 1 0,some (Rt.bx (cb k0 af ax aM aG ak aI aK au ae aj aw aH aq az))),(3,vn j,none),(4,AV.bx 4 0,some (Rt.bx (m_ k0 dK dz dI cu dJ))),(5,vn n0,none),(13,AV.v k0 (D.sl 5 (ae.map aU.e)),none),(14,vn (ae.length:Nat),none),(15,vn j,none),(50,AV.v k0 (D.sl 25 (aq.map bM.e)),none),(51,vn (aq.length:Nat),none),(52,vn 0,none)]):=by
 refine ba (σ:=List (bM)×List (bM)×Int) (fun s=>[(1,AV.bx 1 0,some (Rt.bx (cb k0 af ax aM aG ak aI aK au ae aj aw aH aq az))),(3,vn j,none),(4,AV.bx 4 0,some (Rt.bx (m_ k0 dK dz dI cu dJ))),(5,vn s.2.2,none),(13,AV.v k0 (D.sl 5 (ae.map aU.e)),none),(14,vn (ae.length:Nat),none),(15,vn j,none),(50,AV.v k0 (D.sl 25 (aq.map bM.e)),none),(51,vn (aq.length:Nat),none),(52,vn ((s.1.length:Nat):Int),none)]) (fun s=>aq=s.1++s.2.1∧n0+dA (mO j) aq=s.2.2+dA (mO j) s.2.1∧0≤s.2.2∧s.2.2≤n0+s.1.length) (fun s=>s.2.1.length) ([],aq,n0) (by simp) ⟨rfl,rfl,fK,by simp⟩ ?_;rintro ⟨pre,rest,a⟩ ⟨y1,y2,y4,y5⟩;simp only at y1 y2 y4 y5;have y3:aq.length=pre.length+rest.length:=by rw [y1,zb]
 rcases rest with _|⟨⟨ch,lR,lO,eT,bU,⟨eK,⟨eN,eM,eP,⟨eS,eQ,eR⟩,eO⟩,eJ,eL⟩,lS,lT,a_,lP,lQ,ft,dH,kM,lU,lN⟩,rest⟩
 ·simp only [zf] at y3;simp only [dA,zA] at y2;have c1:¬(pre.length:Int)<(aq.length:Int):=by omega
  have y6:(pre.length:Int)=(aq.length:Int):=by omega
  rw [y2] at h1;unfold HY;refine Ud c1 ?_;repeat intro hc
  all_goals simpa [y6] using h1
 ·simp only [ze] at y3;simp only [dA] at y2;have hg:aq[pre.length]?=some ⟨ch,lR,lO,eT,bU,⟨eK,⟨eN,eM,eP,⟨eS,eQ,eR⟩,eO⟩,eJ,eL⟩,lS,lT,a_,lP,lQ,ft,dH,kM,lU,lN⟩:=by rw [y1];simp
  obtain ⟨ai,aB⟩:=za.1 hg;have eW:=zd hg;have c1:(pre.length:Int)<(aq.length:Int):=by omega
  have hw:=Wi ((pre.length:Int)+1);have eF:=Wi (a+1);unfold HY;by_cases q:kM=IntKind.wrap .i64 (j+1)
  ·have hx:(mO j) ⟨ch,lR,lO,eT,bU,⟨eK,⟨eN,eM,eP,⟨eS,eQ,eR⟩,eO⟩,eJ,eL⟩,lS,lT,a_,lP,lQ,ft,dH,kM,lU,lN⟩=true:=decide_eq_true q;rw [hx] at y2;simp only [if_true] at y2;refine Ud (J7 c1 hw eF ai aB hg q) ?_;repeat intro hc
   exact ⟨(pre++[⟨ch,lR,lO,eT,bU,⟨eK,⟨eN,eM,eP,⟨eS,eQ,eR⟩,eO⟩,eJ,eL⟩,lS,lT,a_,lP,lQ,ft,dH,kM,lU,lN⟩],rest,a+1),(by simp),⟨by rw [y1];simp,by rw [y2];dsimp only;omega,by dsimp only;omega,by simp only [zb,ze,zf];omega⟩,by simp⟩
  ·have hx:(mO j) ⟨ch,lR,lO,eT,bU,⟨eK,⟨eN,eM,eP,⟨eS,eQ,eR⟩,eO⟩,eJ,eL⟩,lS,lT,a_,lP,lQ,ft,dH,kM,lU,lN⟩=false:=decide_eq_false q;rw [hx] at y2;simp only [zr,if_false] at y2;refine Ud (J7 c1 hw eF ai aB hg q) ?_;repeat intro hc
   exact ⟨(pre++[⟨ch,lR,lO,eT,bU,⟨eK,⟨eN,eM,eP,⟨eS,eQ,eR⟩,eO⟩,eJ,eL⟩,lS,lT,a_,lP,lQ,ft,dH,kM,lU,lN⟩],rest,a),(by simp),⟨by rw [y1];simp,by rw [y2];dsimp only;omega,by dsimp only;omega,by simp only [zb,ze,zf];omega⟩,by simp⟩
theorem ajv {Q:Out→Prop} (k0:Bool) (af:List Int) (ax aM:Int) (aG ak:Int) (aI aK:Int) (au:List aL) (ae:List aU) (aj:List Int) (aw:List cD) (aH:List Int) (aq:List bM) (az:List ca) (hl:ae.length≤1048576) (eV:au.length≤1048576) (qi:aw.length≤1048576) (qh:aq.length≤1048576)
 (h1:allI (mu au aw aq) 0 ae=true→Q (.exit 0 ([(1,AV.bx 1 0,some (Rt.bx (cb k0 af ax aM aG ak aI aK au ae aj aw aH aq az))),(13,AV.v k0 (D.sl 5 (ae.map aU.e)),none),(14,vn (ae.length:Nat),none),(15,vn (ae.length:Nat),none)]++[(16,AV.v false (.bool false),none)])))
 (h2:allI (mu au aw aq) 0 ae=false→Q (.ret [(2,AV.v false (.bool false),none)])):Wp (Gw TT) (.loop H3) Q ([(1,AV.bx 1 0,some (Rt.bx (cb k0 af ax aM aG ak aI aK au ae aj aw aH aq az))),(13,AV.v k0 (D.sl 5 (ae.map aU.e)),none),(14,vn (ae.length:Nat),none),(15,vn 0,none)]):=by
 refine ba (σ:=List (aU)×List (aU)) (fun s=>[(1,AV.bx 1 0,some (Rt.bx (cb k0 af ax aM aG ak aI aK au ae aj aw aH aq az))),(13,AV.v k0 (D.sl 5 (ae.map aU.e)),none),(14,vn (ae.length:Nat),none),(15,vn ((s.1.length:Nat):Int),none)]) (fun s=>ae=s.1++s.2∧allI (mu au aw aq) 0 ae=allI (mu au aw aq) (s.1.length:Int) s.2) (fun s=>s.2.length) ([],ae) (by simp) ⟨rfl,rfl⟩ ?_;rintro ⟨pre,rest⟩ ⟨y1,y2⟩;simp only at y1 y2;have y3:ae.length=pre.length+rest.length:=by rw [y1,zb]
 rcases rest with _|⟨⟨dK,dz,⟨dI,cu⟩,dJ⟩,rest⟩
 ·simp only [zf] at y3;have c1:¬(pre.length:Int)<(ae.length:Int):=by omega
  have y5:(pre.length:Int)=(ae.length:Int):=by omega
  have h3:=h1 (by rw [y2];rfl);skip;unfold H3;refine Ud c1 ?_;repeat intro hc
  all_goals simpa [y5] using h3
 ·simp only [ze] at y3;simp only [allI] at y2;have hg:ae[pre.length]?=some ⟨dK,dz,⟨dI,cu⟩,dJ⟩:=by rw [y1];simp
  obtain ⟨ai,aB⟩:=za.1 hg;have eW:=zd hg;have c1:(pre.length:Int)<(ae.length:Int):=by omega
  have hw:=Wi ((pre.length:Int)+1);unfold H3;have n1:=yl (nB (pre.length:Int)) au;have n2:=Fk (nB (pre.length:Int)) au;have n3:=yl (kC (pre.length:Int)) aw;have n4:=Fk (kC (pre.length:Int)) aw;refine Ud (J4 c1 ai aB hg) ?_;repeat intro hc
  refine ajy k0 af ax aM aG ak aI aK au ae aj aw aH aq az dK dz dI cu dJ _ 0 (by omega) (by omega) eV ?_;refine Ud Oo ?_;refine ajx k0 af ax aM aG ak aI aK au ae aj aw aH aq az dK dz dI cu dJ _ _ (by omega) (by omega) qi ?_;refine Ud Oo ?_;refine ajw k0 af ax aM aG ak aI aK au ae aj aw aH aq az dK dz dI cu dJ _ _ (by omega) (by omega) qh ?_;simp only [Int.zero_add];generalize hN:dA (nB (pre.length:Int)) au+dA (kC (pre.length:Int)) aw+dA (mO (pre.length:Int)) aq=nn;by_cases z:dz=0
  ·by_cases z2:nn≤0
   ·have hx:(mu au aw aq) (pre.length:Int) ⟨dK,dz,⟨dI,cu⟩,dJ⟩=true:=by simp [mu,z,hN,z2]
    have z3:¬0<nn:=by omega
    refine Ud (J3 hw (eq_true z) z3) ?_;repeat intro hc
    exact ⟨(pre++[⟨dK,dz,⟨dI,cu⟩,dJ⟩],rest),(by simp),⟨by rw [y1];simp,by rw [y2,hx];simp⟩,by simp⟩
   ·have hx:(mu au aw aq) (pre.length:Int) ⟨dK,dz,⟨dI,cu⟩,dJ⟩=false:=by simp [mu,z,hN];omega
    have z3:0<nn:=by omega
    have h3:=h2 (by rw [y2,hx];rfl);refine Ud (J3 hw (eq_true z) z3) ?_;repeat intro hc
    exact h3
  ·by_cases z2:nn=1
   ·have hx:(mu au aw aq) (pre.length:Int) ⟨dK,dz,⟨dI,cu⟩,dJ⟩=true:=by simp [mu,z,hN,z2]
    refine Ud (J3 hw z z2) ?_;repeat intro hc
    exact ⟨(pre++[⟨dK,dz,⟨dI,cu⟩,dJ⟩],rest),(by simp),⟨by rw [y1];simp,by rw [y2,hx];simp⟩,by simp⟩
   ·have hx:(mu au aw aq) (pre.length:Int) ⟨dK,dz,⟨dI,cu⟩,dJ⟩=false:=by simp [mu,z,hN,z2]
    have h3:=h2 (by rw [y2,hx];rfl);refine Ud (J3 hw z z2) ?_;repeat intro hc
    exact h3
theorem amc (h:ae.length≤1048576) (eV:au.length≤1048576) (qi:aw.length≤1048576) (qh:aq.length≤1048576):Gw TT 460 [.st (cb k0 af ax aM aG ak aI aK au ae aj aw aH aq az)]=some (vb (allI (mu au aw aq) 0 ae),[]):=by
 refine Ga Sm O3 ?_;unfold O3;refine Ud Oo ?_;refine ajv k0 af ax aM aG ak aI aK au ae aj aw aH aq az h eV qi qh (fun e=>?_) (fun e=>?_);all_goals refine Ud Oo ?_
 all_goals simp [Sm,e]
theorem ajk {Q:Out→Prop} (k0:Bool) (af:List Int) (ax aM:Int) (aG ak:Int) (aI aK:Int) (au:List aL) (ae:List aU) (aj:List Int) (aw:List cD) (aH:List Int) (aq:List bM) (az:List ca) (dK dz dI:Int) (cu:List bp) (dJ:List Int) (j:Nat) (hl:cu.length≤1048576) (hB:ae[j]?=some ⟨dK,dz,⟨dI,cu⟩,dJ⟩) (FJ:j<ae.length) (Ki:ae[j]'FJ=⟨dK,dz,⟨dI,cu⟩,dJ⟩)
 (h1:cu.all (oz ak)=true→Q (.exit 2 ([(1,AV.bx 1 0,some (Rt.bx (cb k0 af ax aM aG ak aI aK au ae aj aw aH aq az))),(3,vn (j:Nat),none),(4,vn (cu.length:Nat),none)]++[(43,AV.v false (.bool false),none)])))
 (h2:cu.all (oz ak)=false→Q (.ret [(2,AV.v false (.bool false),none)])):Wp (Gw TT) (.loop HL) Q ([(1,AV.bx 1 0,some (Rt.bx (cb k0 af ax aM aG ak aI aK au ae aj aw aH aq az))),(3,vn (j:Nat),none),(4,vn 0,none)]):=by
 refine ba (σ:=List (bp)×List (bp)) (fun s=>[(1,AV.bx 1 0,some (Rt.bx (cb k0 af ax aM aG ak aI aK au ae aj aw aH aq az))),(3,vn (j:Nat),none),(4,vn ((s.1.length:Nat):Int),none)]) (fun s=>cu=s.1++s.2∧cu.all (oz ak)=s.2.all (oz ak)) (fun s=>s.2.length) ([],cu) (by simp) ⟨rfl,rfl⟩ ?_;rintro ⟨pre,rest⟩ ⟨y1,y2⟩;simp only at y1 y2;have y3:cu.length=pre.length+rest.length:=by rw [y1,zb]
 rcases rest with _|⟨⟨kf,a_⟩,rest⟩
 ·simp only [zf] at y3;have c1:¬(pre.length:Int)<(cu.length:Int):=by omega
  have y5:(pre.length:Int)=(cu.length:Int):=by omega
  have h3:=h1 (by rw [y2];rfl);skip;unfold HL;refine Ud (J4 c1 hB FJ Ki) ?_;repeat intro hc
  all_goals simpa [y5] using h3
 ·simp only [ze] at y3;simp only [zo] at y2;have hg:cu[pre.length]?=some ⟨kf,a_⟩:=by rw [y1];simp
  obtain ⟨ai,aB⟩:=za.1 hg;have eW:=zd hg;have c1:(pre.length:Int)<(cu.length:Int):=by omega
  have hw:=Wi ((pre.length:Int)+1);unfold HL;by_cases b1:kf≤ak
  ·have b2:¬ak<kf:=by omega
   have hx:(oz ak) ⟨kf,a_⟩=true:=by simp [oz,b1]
   refine Ud (J8 c1 hw ai aB hg b2 hB (J2 FJ Ki)) ?_;repeat intro hc
   exact ⟨(pre++[⟨kf,a_⟩],rest),(by simp),⟨by rw [y1];simp,by rw [y2,hx];simp⟩,by simp⟩
  ·have b2:ak<kf:=by omega
   have hx:(oz ak) ⟨kf,a_⟩=false:=by simp [oz,b1]
   have h3:=h2 (by rw [y2,hx];rfl);refine Ud (J8 c1 hw ai aB hg b2 hB (J2 FJ Ki)) ?_;repeat intro hc
   exact h3
theorem abz {Q:Out→Prop} (k0:Bool) (af:List Int) (ax aM:Int) (aG ak:Int) (aI aK:Int) (au:List aL) (ae:List aU) (aj:List Int) (aw:List cD) (aH:List Int) (aq:List bM) (az:List ca) (j n0:Int) (fK:0≤n0) (pI:n0≤4000000) (hl:aw.length≤1048576)
 (h1:Q (.exit 4 ([(1,AV.bx 1 0,some (Rt.bx (cb k0 af ax aM aG ak aI aK au ae aj aw aH aq az))),(3,vn j,none),(5,vn (n0+dA (kC j) aw),none),(6,vn (aw.length:Nat),none)]++[(68,AV.v false (.bool false),none)]))):Wp (Gw TT) (.loop HK) Q ([(1,AV.bx 1 0,some (Rt.bx (cb k0 af ax aM aG ak aI aK au ae aj aw aH aq az))),(3,vn j,none),(5,vn n0,none),(6,vn 0,none)]):=by
 refine ba (σ:=List (cD)×List (cD)×Int) (fun s=>[(1,AV.bx 1 0,some (Rt.bx (cb k0 af ax aM aG ak aI aK au ae aj aw aH aq az))),(3,vn j,none),(5,vn s.2.2,none),(6,vn ((s.1.length:Nat):Int),none)]) (fun s=>aw=s.1++s.2.1∧n0+dA (kC j) aw=s.2.2+dA (kC j) s.2.1∧0≤s.2.2∧s.2.2≤n0+s.1.length) (fun s=>s.2.1.length) ([],aw,n0) (by simp) ⟨rfl,rfl,fK,by simp⟩ ?_;rintro ⟨pre,rest,a⟩ ⟨y1,y2,y4,y5⟩;simp only at y1 y2 y4 y5;have y3:aw.length=pre.length+rest.length:=by rw [y1,zb]
 rcases rest with _|⟨⟨dZ,dV,dH⟩,rest⟩
 ·simp only [zf] at y3;simp only [dA,zA] at y2;have c1:¬(pre.length:Int)<(aw.length:Int):=by omega
  have y6:(pre.length:Int)=(aw.length:Int):=by omega
  rw [y2] at h1;unfold HK;refine Ud c1 ?_;repeat intro hc
  all_goals simpa [y6] using h1
 ·simp only [ze] at y3;simp only [dA] at y2;have hg:aw[pre.length]?=some ⟨dZ,dV,dH⟩:=by rw [y1];simp
  obtain ⟨ai,aB⟩:=za.1 hg;have eW:=zd hg;have c1:(pre.length:Int)<(aw.length:Int):=by omega
  have hw:=Wi ((pre.length:Int)+1);have eF:=Wi (a+1);unfold HK;by_cases q:dZ=j
  ·have hx:(kC j) ⟨dZ,dV,dH⟩=true:=decide_eq_true q;rw [hx] at y2;simp only [if_true] at y2;refine Ud (J7 c1 hw eF ai aB hg q) ?_;repeat intro hc
   exact ⟨(pre++[⟨dZ,dV,dH⟩],rest,a+1),(by simp),⟨by rw [y1];simp,by rw [y2];dsimp only;omega,by dsimp only;omega,by simp only [zb,ze,zf];omega⟩,by simp⟩
  ·have hx:(kC j) ⟨dZ,dV,dH⟩=false:=decide_eq_false q;rw [hx] at y2;simp only [zr,if_false] at y2;refine Ud (J7 c1 hw eF ai aB hg q) ?_;repeat intro hc
   exact ⟨(pre++[⟨dZ,dV,dH⟩],rest,a),(by simp),⟨by rw [y1];simp,by rw [y2];dsimp only;omega,by dsimp only;omega,by simp only [zb,ze,zf];omega⟩,by simp⟩
theorem aby {Q:Out→Prop} (k0:Bool) (af:List Int) (ax aM:Int) (aG ak:Int) (aI aK:Int) (au:List aL) (ae:List aU) (aj:List Int) (aw:List cD) (aH:List Int) (aq:List bM) (az:List ca) (j n0:Int) (fK:0≤n0) (pI:n0≤4000000) (hl:aq.length≤1048576)
 (h1:Q (.exit 6 ([(1,AV.bx 1 0,some (Rt.bx (cb k0 af ax aM aG ak aI aK au ae aj aw aH aq az))),(3,vn j,none),(5,vn (n0+dA (mO j) aq),none),(7,vn (aq.length:Nat),none)]++[(85,AV.v false (.bool false),none)]))):Wp (Gw TT) (.loop HJ) Q ([(1,AV.bx 1 0,some (Rt.bx (cb k0 af ax aM aG ak aI aK au ae aj aw aH aq az))),(3,vn j,none),(5,vn n0,none),(7,vn 0,none)]):=by
 refine ba (σ:=List (bM)×List (bM)×Int) (fun s=>[(1,AV.bx 1 0,some (Rt.bx (cb k0 af ax aM aG ak aI aK au ae aj aw aH aq az))),(3,vn j,none),(5,vn s.2.2,none),(7,vn ((s.1.length:Nat):Int),none)]) (fun s=>aq=s.1++s.2.1∧n0+dA (mO j) aq=s.2.2+dA (mO j) s.2.1∧0≤s.2.2∧s.2.2≤n0+s.1.length) (fun s=>s.2.1.length) ([],aq,n0) (by simp) ⟨rfl,rfl,fK,by simp⟩ ?_;rintro ⟨pre,rest,a⟩ ⟨y1,y2,y4,y5⟩;simp only at y1 y2 y4 y5;have y3:aq.length=pre.length+rest.length:=by rw [y1,zb]
 rcases rest with _|⟨⟨ch,lR,lO,eT,bU,⟨eK,⟨eN,eM,eP,⟨eS,eQ,eR⟩,eO⟩,eJ,eL⟩,lS,lT,a_,lP,lQ,ft,dH,kM,lU,lN⟩,rest⟩
 ·simp only [zf] at y3;simp only [dA,zA] at y2;have c1:¬(pre.length:Int)<(aq.length:Int):=by omega
  have y6:(pre.length:Int)=(aq.length:Int):=by omega
  rw [y2] at h1;unfold HJ;refine Ud c1 ?_;repeat intro hc
  all_goals simpa [y6] using h1
 ·simp only [ze] at y3;simp only [dA] at y2;have hg:aq[pre.length]?=some ⟨ch,lR,lO,eT,bU,⟨eK,⟨eN,eM,eP,⟨eS,eQ,eR⟩,eO⟩,eJ,eL⟩,lS,lT,a_,lP,lQ,ft,dH,kM,lU,lN⟩:=by rw [y1];simp
  obtain ⟨ai,aB⟩:=za.1 hg;have eW:=zd hg;have c1:(pre.length:Int)<(aq.length:Int):=by omega
  have hw:=Wi ((pre.length:Int)+1);have eF:=Wi (a+1);unfold HJ;by_cases q:kM=IntKind.wrap .i64 (j+1)
  ·have hx:(mO j) ⟨ch,lR,lO,eT,bU,⟨eK,⟨eN,eM,eP,⟨eS,eQ,eR⟩,eO⟩,eJ,eL⟩,lS,lT,a_,lP,lQ,ft,dH,kM,lU,lN⟩=true:=decide_eq_true q;rw [hx] at y2;simp only [if_true] at y2;refine Ud (J7 c1 hw eF ai aB hg q) ?_;repeat intro hc
   exact ⟨(pre++[⟨ch,lR,lO,eT,bU,⟨eK,⟨eN,eM,eP,⟨eS,eQ,eR⟩,eO⟩,eJ,eL⟩,lS,lT,a_,lP,lQ,ft,dH,kM,lU,lN⟩],rest,a+1),(by simp),⟨by rw [y1];simp,by rw [y2];dsimp only;omega,by dsimp only;omega,by simp only [zb,ze,zf];omega⟩,by simp⟩
  ·have hx:(mO j) ⟨ch,lR,lO,eT,bU,⟨eK,⟨eN,eM,eP,⟨eS,eQ,eR⟩,eO⟩,eJ,eL⟩,lS,lT,a_,lP,lQ,ft,dH,kM,lU,lN⟩=false:=decide_eq_false q;rw [hx] at y2;simp only [zr,if_false] at y2;refine Ud (J7 c1 hw eF ai aB hg q) ?_;repeat intro hc
   exact ⟨(pre++[⟨ch,lR,lO,eT,bU,⟨eK,⟨eN,eM,eP,⟨eS,eQ,eR⟩,eO⟩,eJ,eL⟩,lS,lT,a_,lP,lQ,ft,dH,kM,lU,lN⟩],rest,a),(by simp),⟨by rw [y1];simp,by rw [y2];dsimp only;omega,by dsimp only;omega,by simp only [zb,ze,zf];omega⟩,by simp⟩
theorem aji {Q:Out→Prop} (k0:Bool) (af:List Int) (ax aM:Int) (aG ak:Int) (aI aK:Int) (au:List aL) (ae:List aU) (aj:List Int) (aw:List cD) (aH:List Int) (aq:List bM) (az:List ca) (hl:ae.length≤1048576) (eV:au.length≤1048576) (qi:aw.length≤1048576) (qh:aq.length≤1048576) (aD:af.length≤1048576) (hs:aU.aJ ae) (hG:∀b∈ae,b.G.length≤1048576∧bI b.G)
 (h1:allI (ib af ak au aw aq) 0 ae=true→Q (.exit 0 ([(1,AV.bx 1 0,some (Rt.bx (cb k0 af ax aM aG ak aI aK au ae aj aw aH aq az))),(3,vn (ae.length:Nat),none)]++[(21,AV.v false (.bool false),none)])))
 (h2:allI (ib af ak au aw aq) 0 ae=false→Q (.ret [(2,AV.v false (.bool false),none)])):Wp (Gw TT) (.loop HM) Q ([(1,AV.bx 1 0,some (Rt.bx (cb k0 af ax aM aG ak aI aK au ae aj aw aH aq az))),(3,vn 0,none)]):=by
 refine ba (σ:=List (aU)×List (aU)) (fun s=>[(1,AV.bx 1 0,some (Rt.bx (cb k0 af ax aM aG ak aI aK au ae aj aw aH aq az))),(3,vn ((s.1.length:Nat):Int),none)]) (fun s=>ae=s.1++s.2∧allI (ib af ak au aw aq) 0 ae=allI (ib af ak au aw aq) (s.1.length:Int) s.2) (fun s=>s.2.length) ([],ae) (by simp) ⟨rfl,rfl⟩ ?_;rintro ⟨pre,rest⟩ ⟨y1,y2⟩;simp only at y1 y2;have y3:ae.length=pre.length+rest.length:=by rw [y1,zb]
 rcases rest with _|⟨⟨dK,dz,⟨dI,cu⟩,dJ⟩,rest⟩
 ·simp only [zf] at y3;have c1:¬(pre.length:Int)<(ae.length:Int):=by omega
  have y5:(pre.length:Int)=(ae.length:Int):=by omega
  have h3:=h1 (by rw [y2];rfl);skip;unfold HM;refine Ud c1 ?_;repeat intro hc
  all_goals simpa [y5] using h3
 ·simp only [ze] at y3;simp only [allI] at y2;have hg:ae[pre.length]?=some ⟨dK,dz,⟨dI,cu⟩,dJ⟩:=by rw [y1];simp
  obtain ⟨ai,aB⟩:=za.1 hg;have eW:=zd hg;have c1:(pre.length:Int)<(ae.length:Int):=by omega
  have hw:=Wi ((pre.length:Int)+1);obtain ⟨⟨m1,m2⟩,_⟩:=hs _ eW;obtain ⟨m3,m4⟩:=hG _ eW;simp only at m1 m2 m3 m4;unfold HM;have n3:=yl (kC (pre.length:Int)) aw;have n4:=Fk (kC (pre.length:Int)) aw;cases b1:eg af dK dz dI cu dJ with
  |false=>
   have hx:(ib af ak au aw aq) (pre.length:Int) ⟨dK,dz,⟨dI,cu⟩,dJ⟩=false:=by simp [ib,kW,b1]
   have h3:=h2 (by rw [y2,hx];rfl);refine Ud (J8 c1 hw ai aB hg b1 aD (J4 m1 m2 m3 m4)) ?_;repeat intro hc
   exact h3
  |true=>
   refine Ud (J8 c1 hw ai aB hg b1 aD (J4 m1 m2 m3 m4)) ?_;repeat intro hc
   refine ajk k0 af ax aM aG ak aI aK au ae aj aw aH aq az dK dz dI cu dJ pre.length m1 hg ai aB (fun e=>?_) (fun e=>?_)
   ·have FY:kW af ak ⟨dK,dz,⟨dI,cu⟩,dJ⟩=true:=by simp only [kW,b1,e,zq]
    cases hb:gY (pre.length:Int) au with
    |true=>
     refine Ud (J2 hb eV) ?_;repeat intro hc
     refine abz k0 af ax aM aG ak aI aK au ae aj aw aH aq az _ 1 (by omega) (by omega) qi ?_;refine Ud Oo ?_;refine aby k0 af ax aM aG ak aI aK au ae aj aw aH aq az _ _ (by omega) (by omega) qh ?_;have Kk:nS au aw aq (pre.length:Int)=1+dA (kC (pre.length:Int)) aw+dA (mO (pre.length:Int)) aq:=by simp [nS,hb]
     rw [←Kk];generalize hN:nS au aw aq (pre.length:Int)=nn;by_cases z:dz=0
     ·by_cases z2:nn=0
      ·have hx:(ib af ak au aw aq) (pre.length:Int) ⟨dK,dz,⟨dI,cu⟩,dJ⟩=true:=by simp only [ib,FY,hN,zh];rw [if_pos z];exact decide_eq_true z2
       refine Ud (J6 hw ai aB hg (eq_true z) z2) ?_;repeat intro hc
       exact ⟨(pre++[⟨dK,dz,⟨dI,cu⟩,dJ⟩],rest),(by simp),⟨by rw [y1];simp,by rw [y2,hx];simp⟩,by simp⟩
      ·have hx:(ib af ak au aw aq) (pre.length:Int) ⟨dK,dz,⟨dI,cu⟩,dJ⟩=false:=by simp [ib,z,hN,z2]
       have h3:=h2 (by rw [y2,hx];rfl);refine Ud (J6 hw ai aB hg (eq_true z) z2) ?_;repeat intro hc
       exact h3
     ·by_cases z2:nn=1
      ·have hx:(ib af ak au aw aq) (pre.length:Int) ⟨dK,dz,⟨dI,cu⟩,dJ⟩=true:=by simp only [ib,FY,hN,zh];rw [if_neg z];exact decide_eq_true z2
       refine Ud (J6 hw ai aB hg z z2) ?_;repeat intro hc
       exact ⟨(pre++[⟨dK,dz,⟨dI,cu⟩,dJ⟩],rest),(by simp),⟨by rw [y1];simp,by rw [y2,hx];simp⟩,by simp⟩
      ·have hx:(ib af ak au aw aq) (pre.length:Int) ⟨dK,dz,⟨dI,cu⟩,dJ⟩=false:=by simp [ib,z,hN,z2]
       have h3:=h2 (by rw [y2,hx];rfl);refine Ud (J6 hw ai aB hg z z2) ?_;repeat intro hc
       exact h3
    |false=>
     refine Ud (J2 hb eV) ?_;repeat intro hc
     refine abz k0 af ax aM aG ak aI aK au ae aj aw aH aq az _ 0 (by omega) (by omega) qi ?_;refine Ud Oo ?_;refine aby k0 af ax aM aG ak aI aK au ae aj aw aH aq az _ _ (by omega) (by omega) qh ?_;have Kk:nS au aw aq (pre.length:Int)=dA (kC (pre.length:Int)) aw+dA (mO (pre.length:Int)) aq:=by simp [nS,hb]
     rw [←Kk];generalize hN:nS au aw aq (pre.length:Int)=nn;by_cases z:dz=0
     ·by_cases z2:nn=0
      ·have hx:(ib af ak au aw aq) (pre.length:Int) ⟨dK,dz,⟨dI,cu⟩,dJ⟩=true:=by simp only [ib,FY,hN,zh];rw [if_pos z];exact decide_eq_true z2
       refine Ud (J6 hw ai aB hg (eq_true z) z2) ?_;repeat intro hc
       exact ⟨(pre++[⟨dK,dz,⟨dI,cu⟩,dJ⟩],rest),(by simp),⟨by rw [y1];simp,by rw [y2,hx];simp⟩,by simp⟩
      ·have hx:(ib af ak au aw aq) (pre.length:Int) ⟨dK,dz,⟨dI,cu⟩,dJ⟩=false:=by simp [ib,z,hN,z2]
       have h3:=h2 (by rw [y2,hx];rfl);refine Ud (J6 hw ai aB hg (eq_true z) z2) ?_;repeat intro hc
       exact h3
     ·by_cases z2:nn=1
      ·have hx:(ib af ak au aw aq) (pre.length:Int) ⟨dK,dz,⟨dI,cu⟩,dJ⟩=true:=by simp only [ib,FY,hN,zh];rw [if_neg z];exact decide_eq_true z2
       refine Ud (J6 hw ai aB hg z z2) ?_;repeat intro hc
       exact ⟨(pre++[⟨dK,dz,⟨dI,cu⟩,dJ⟩],rest),(by simp),⟨by rw [y1];simp,by rw [y2,hx];simp⟩,by simp⟩
      ·have hx:(ib af ak au aw aq) (pre.length:Int) ⟨dK,dz,⟨dI,cu⟩,dJ⟩=false:=by simp [ib,z,hN,z2]
       have h3:=h2 (by rw [y2,hx];rfl);refine Ud (J6 hw ai aB hg z z2) ?_;repeat intro hc
       exact h3
   ·have hx:(ib af ak au aw aq) (pre.length:Int) ⟨dK,dz,⟨dI,cu⟩,dJ⟩=false:=by simp only [ib,kW,b1,e,zk,zm]
    have h3:=h2 (by rw [y2,hx];rfl);refine Ud Oo ?_;exact h3
theorem ajj {Q:Out→Prop} (k0:Bool) (af:List Int) (ax aM:Int) (aG ak:Int) (aI aK:Int) (au:List aL) (ae:List aU) (aj:List Int) (aw:List cD) (aH:List Int) (aq:List bM) (az:List ca) (hl:aw.length≤1048576) (cT:ae.length≤1048576)
 (h1:aw.all (gp aI ae)=true→Q (.exit 8 ([(1,AV.bx 1 0,some (Rt.bx (cb k0 af ax aM aG ak aI aK au ae aj aw aH aq az))),(8,vn (aw.length:Nat),none)]++[(127,AV.v false (.bool false),none)])))
 (h2:aw.all (gp aI ae)=false→Q (.ret [(2,AV.v false (.bool false),none)])):Wp (Gw TT) (.loop HI) Q ([(1,AV.bx 1 0,some (Rt.bx (cb k0 af ax aM aG ak aI aK au ae aj aw aH aq az))),(8,vn 0,none)]):=by
 refine ba (σ:=List (cD)×List (cD)) (fun s=>[(1,AV.bx 1 0,some (Rt.bx (cb k0 af ax aM aG ak aI aK au ae aj aw aH aq az))),(8,vn ((s.1.length:Nat):Int),none)]) (fun s=>aw=s.1++s.2∧aw.all (gp aI ae)=s.2.all (gp aI ae)) (fun s=>s.2.length) ([],aw) (by simp) ⟨rfl,rfl⟩ ?_;rintro ⟨pre,rest⟩ ⟨y1,y2⟩;simp only at y1 y2;have y3:aw.length=pre.length+rest.length:=by rw [y1,zb]
 rcases rest with _|⟨⟨dZ,dV,dH⟩,rest⟩
 ·simp only [zf] at y3;have c1:¬(pre.length:Int)<(aw.length:Int):=by omega
  have y5:(pre.length:Int)=(aw.length:Int):=by omega
  have h3:=h1 (by rw [y2];rfl);skip;unfold HI;refine Ud c1 ?_;repeat intro hc
  all_goals simpa [y5] using h3
 ·simp only [ze] at y3;simp only [zo] at y2;have hg:aw[pre.length]?=some ⟨dZ,dV,dH⟩:=by rw [y1];simp
  obtain ⟨ai,aB⟩:=za.1 hg;have eW:=zd hg;have c1:(pre.length:Int)<(aw.length:Int):=by omega
  have hw:=Wi ((pre.length:Int)+1);unfold HI;have w1:=Wi ((ae.length:Int)-1);by_cases b1:0≤dZ∧dZ≤(ae.length:Int)-1
  ·obtain ⟨m,hy⟩:=zi b1.1;have hm:m<ae.length:=by omega
   obtain ⟨⟨bg,bk,⟨bn,bL⟩,bG⟩,gE⟩:∃s,ae[m]?=some s:=⟨_,zg hm⟩;have fx:=(za.1 gE).2;have b2:(m:Int)≤(ae.length:Int)-1:=by omega
   by_cases b4:bg=dV
   ·by_cases b5:0≤dH∧dH≤aI
    ·have hx:(gp aI ae) ⟨dZ,dV,dH⟩=true:=by simp [gp,hy,gE,b4,b5.1,b5.2]
     refine Ud (J8 c1 hw ai aB hg w1 hy (J7 b2 hm gE fx b4 b5.1 b5.2)) ?_;repeat intro hc
     exact ⟨(pre++[⟨dZ,dV,dH⟩],rest),(by simp),⟨by rw [y1];simp,by rw [y2,hx];simp⟩,by simp⟩
    ·have hx:(gp aI ae) ⟨dZ,dV,dH⟩=false:=by simp [gp,hy,gE,b4];omega
     have h3:=h2 (by rw [y2,hx];rfl);refine Ud (J8 c1 hw ai aB hg w1 hy (J6 b2 hm gE fx b4 b5)) ?_;repeat intro hc
     exact h3
   ·have hx:(gp aI ae) ⟨dZ,dV,dH⟩=false:=by simp [gp,hy,gE,b4]
    have h3:=h2 (by rw [y2,hx];rfl);refine Ud (J8 c1 hw ai aB hg w1 hy (J5 b2 hm gE fx b4)) ?_;repeat intro hc
    exact h3
  ·have b6:gp aI ae ⟨dZ,dV,dH⟩=false:=by
    simp only [gp];by_cases h0:0≤dZ
    ·rw [zj (by omega)];simp
    ·simp [h0]
   have hx:(gp aI ae) ⟨dZ,dV,dH⟩=false:=b6;have h3:=h2 (by rw [y2,hx];rfl);refine Ud (J7 c1 hw ai aB hg w1 b1) ?_;repeat intro hc
   exact h3
theorem al5 (h:ae.length≤1048576) (eV:au.length≤1048576) (qi:aw.length≤1048576) (qh:aq.length≤1048576) (aD:af.length≤1048576) (hs:aU.aJ ae) (hG:∀b∈ae,b.G.length≤1048576∧bI b.G):Gw TT 451 [.st (cb k0 af ax aM aG ak aI aK au ae aj aw aH aq az)]=some (vb (decide ((ae.length:Int)=aM)&&(allI (ib af ak au aw aq) 0 ae&&aw.all (gp aI ae))),[]):=by
 refine Ga Ef OT ?_;unfold OT;by_cases q:(ae.length:Int)=aM
 ·subst q;refine Ud Oo ?_;repeat intro hc
  refine aji k0 af ax _ aG ak aI aK au ae aj aw aH aq az h eV qi qh aD hs hG (fun e=>?_) (fun e=>?_)
  ·refine Ud Oo ?_;refine ajj k0 af ax _ aG ak aI aK au ae aj aw aH aq az qi h (fun e2=>?_) (fun e2=>?_);all_goals refine Ud Oo ?_
   all_goals simp [Ef,e,e2]
  ·refine Ud Oo ?_;all_goals simp [Ef,e]
 ·refine Ud q ?_;repeat intro hc
  all_goals simp [Ef,q]
def rq (B:List aU) (own k:Int):Bool:=decide (1≤own)&&(match B[(own-1).toNat]? with
 |some b=>decide (b.Kind=k)
 |none=>false)
def cL (B:List aU) (uf op pc own:Int):Bool:=if (op=1∧pc=8)∨(op=4∧4≤pc∧pc≤5) then decide (1≤own)&&(match B[(own-1).toNat]? with
 |some b=>if op=4 then decide (b.Kind=2) else decide (b.Kind=1)&&decide ((b.C.L.length:Int)=uf)
 |none=>false) else decide (own=0)
def fV (cols:List Int) (R dR:List ab) (pc:Int) (L:List aL) (I:Int):Bool:=lp cols R&&(ry R dR&&(if (2≤pc∧pc≤4)∨(6≤pc∧pc≤7) then (match L with
 |[r]=>decide (r.Kind=1)&&(decide (pc=2)||decide (I<r.ek))
 |_=>false) else true))
theorem CH {B:List aU} {own:Int} (h1:1≤own) (h2:own≤(B.length:Int)):∃(m:Nat) (b:aU),own-1=(m:Int)∧m<B.length∧B[m]?=some b∧B[(own-1).toNat]?=some b:=by
 obtain ⟨m,hm⟩:=zi (show 0≤own-1 by omega);have ai:m<B.length:=by omega
 exact ⟨m,B[m],hm,ai,zg ai,by rw [hm,show ((m:Int)).toNat=m by omega];exact zg ai⟩
@[simp] theorem arO (h:ae.length≤1048576):Gw TT 486 [.st (cb k0 af ax aM aG ak aI aK au ae aj aw aH aq az),.st (kr k0 aW ay dO bq bf bB bD bC bE bH bF bw br bA bu bt bY aF aR bm bX bW aO b_ b9),vi kd]=some (vb (rq ae aO kd),[]):=by
 refine Ga GW Pa ?_;unfold Pa;by_cases q:1≤aO∧aO≤(ae.length:Int)
 ·skip;obtain ⟨m,⟨bg,bk,⟨bn,bL⟩,bG⟩,hm,nW,hb,cW⟩:=CH q.1 q.2;have iW:=(za.1 hb).2;have hw:IntKind.wrap .i64 (aO-1)=(m:Int):=by rw [hm];exact wrap_i64 (by omega) (by omega)
  have hr:rq ae aO kd=decide (bk=kd):=by simp only [rq,cW,decide_eq_true q.1,zh]
  refine Ud (J7 h hw q.1 q.2 nW hb iW) ?_;simp [GW,hr];rw [zn];simp
 ·have hr:rq ae aO kd=false:=by
   unfold rq;by_cases h0:1≤aO
   ·rw [zj (by omega)];simp
   ·simp [h0]
  refine Ud (J2 h q) ?_;simp [GW,hr]
@[simp] theorem arN (h:ae.length≤1048576):Gw TT 482 [.st (cb k0 af ax aM aG ak aI aK au ae aj aw aH aq az),.st (kr k0 aW ay dO bq bf bB bD bC bE bH bF bw br bA bu bt bY aF aR bm bX bW aO b_ b9)]=some (vb (cL ae ax aW ay aO),[]):=by
 refine Ga xA O8 ?_;unfold O8;by_cases o1:aW=1∧ay=8
 ·obtain ⟨o2,o3⟩:=o1;subst o2;subst o3;by_cases q:1≤aO∧aO≤(ae.length:Int)
  ·skip;obtain ⟨m,⟨bg,bk,⟨bn,bL⟩,bG⟩,hm,nW,hb,cW⟩:=CH q.1 q.2;have iW:=(za.1 hb).2;have hw:IntKind.wrap .i64 (aO-1)=(m:Int):=by rw [hm];exact wrap_i64 (by omega) (by omega)
   have hr:cL ae ax 1 8 aO=(decide (bk=1)&&decide ((bL.length:Int)=ax)):=by simp only [cL,cW,decide_eq_true q.1,zh];simp
   refine Ud (J7 h hw q.1 q.2 nW hb iW) ?_ ?_;all_goals repeat intro hc
   all_goals first|(simp_all [xA];done)|(simp_all [xA];rw [zn];simp;done)
  ·have hr:cL ae ax 1 8 aO=false:=by
    simp only [cL];by_cases h0:1≤aO
    ·rw [zj (by omega)];simp
    ·simp [h0]
   refine Ud (J2 h q) ?_;repeat intro hc
   simp [xA,hr]
 by_cases o4:aW=4∧4≤ay∧ay≤5
 ·obtain ⟨o5,o6,o7⟩:=o4;subst o5;by_cases q:1≤aO∧aO≤(ae.length:Int)
  ·skip;obtain ⟨m,⟨bg,bk,⟨bn,bL⟩,bG⟩,hm,nW,hb,cW⟩:=CH q.1 q.2;have iW:=(za.1 hb).2;have hw:IntKind.wrap .i64 (aO-1)=(m:Int):=by rw [hm];exact wrap_i64 (by omega) (by omega)
   have hr:cL ae ax 4 ay aO=decide (bk=2):=by simp only [cL,cW,decide_eq_true q.1,zh];simp [o6,o7]
   refine Ud (J8 h hw q.1 q.2 nW hb iW (J2 o6 o7)) ?_;repeat intro hc
   simp [xA,hr];rw [zn];simp
  ·have hr:cL ae ax 4 ay aO=false:=by
    simp only [cL,o6,o7];by_cases h0:1≤aO
    ·rw [zj (by omega)];simp
    ·simp [h0]
   refine Ud (J4 h q o6 o7) ?_;repeat intro hc
   simp [xA,hr]
 have hr:cL ae ax aW ay aO=decide (aO=0):=by unfold cL;rw [if_neg (by rintro (e|e);exact o1 e;exact o4 e)]
 refine Ud (J3 h o1 o4) ?_ ?_ ?_;all_goals repeat intro hc
 all_goals simp [xA,hr];rw [zn];simp
theorem IC {B:List aU} {buf gen many bg bk bn:Int} {bL:List bp} {bG:List Int} (h:jk B buf gen 1 many=true) (hb:B[buf.toNat]?=some ⟨bg,bk,⟨bn,bL⟩,bG⟩):(bL.length:Int)=many:=by
 unfold jk at h;rw [hb] at h;simp at h;exact h.2.2
def fX (UZ dId pc:Int) (L:List aL) (m:Nat):Bool:=decide (UZ=dId)&&(if 2≤pc∧pc≤7 then (match L with
 |[r]=>rh r.iz r.ek UZ&&(decide (UZ<(m:Int))&&(if 3≤pc∧pc≤4 then decide (r.Kind=1) else true))
 |_=>false) else true)
theorem ac0 (n:Nat) (bq:List ab) (bf bB:Int) (bD bC:Int) (bE bH bF:Int) (bw:ByteArray) (br:List an) (bA:Int) (bu:List Int) (bt bY:Int) (aF:List aL) (aR bm:Int) (bX bW aO:Int) (b_:Bool) (b9:List aA) (cQ cS:Int) (cj:List ab) (cp cx:Int) (cz cy:Int) (cA cC cB:Int) (ct:ByteArray) (cg:List an) (cw:Int) (cq:List Int) (de:List aA) (dc:Int) (db:Bool) (dj dg:Int) (dh:ByteArray) (cZ dm:Int) (c9 c_ cR:Int) (aD:af.length≤1048576) (h1:bq.length≤1048576) (h2:ab.aJ bq) (h3:aF.length≤1048576) (hd:az[n]?=some ⟨cQ,cS,cj,cp,⟨cx,⟨cz,cy,cA,⟨cC,cB,ct⟩,cg⟩,cw,cq⟩,⟨de,dc,db,⟨dj,dg,dh⟩⟩,cZ,dm,c9,c_,cR⟩) (fj:cj.length≤1048576) (qp:∀r∈aF,jk ae r.dW r.fW r.Kind r.ek=true) (hI:0≤aR):Gw TT 487 [.st (cb k0 af ax aM aG ak aI aK au ae aj aw aH aq az),.st [ri aW,ri ay,ri (n:Nat),rl k0 3 (bq.map ab.e),ri bf,ri bB,ri bD,ri bC,ri bE,ri bH,ri bF,.ro false (.str bw),rl k0 7 (br.map an.e),ri bA,rl k0 1 (bu.map ei),ri bt,ri bY,rl k0 5 (aF.map aL.e),ri aR,ri bm,ri bX,ri bW,ri aO,.ro false (.bool b_),rl k0 2 (b9.map aA.e)]]=some (vb (fV af bq cj ay aF aR),[]):=by
 refine Ga tW Pb ?_;unfold Pb;obtain ⟨dL,eo⟩:=za.1 hd;cases f1:lp af bq with
 |false=>
  have hr:fV af bq cj ay aF aR=false:=by simp [fV,f1]
  refine Ud (J8 aD h1 h2 fj f1 hd dL eo) ?_;repeat intro hc
  simp [tW,hr]
 |true=>
 cases f2:ry bq cj with
 |false=>
  have hr:fV af bq cj ay aF aR=false:=by simp [fV,f2]
  refine Ud (J8 aD h1 h2 fj f1 f2 hd (J2 dL eo)) ?_;repeat intro hc
  simp [tW,hr]
 |true=>
 by_cases p:(2≤ay∧ay≤4)∨(6≤ay∧ay≤7)
 ·rcases aF with _|⟨⟨bo,bz,bV,bj,aZ⟩,_|⟨r2,rest⟩⟩
  ·have hr:fV af bq cj ay [] aR=false:=by simp only [fV,f1,f2,if_pos p,zk]
   refine Ud (J8 aD h1 h2 fj f1 f2 hd (J2 dL eo)) ?_ ?_;all_goals repeat intro hc
   all_goals simp [tW,hr]
  ·have ht:=qp ⟨bo,bz,bV,bj,aZ⟩ (by simp);simp only at ht;obtain ⟨⟨bg,bk,⟨bn,bL⟩,bG⟩,hb,jr,iV,tq⟩:=Cx ht;obtain ⟨ai,he⟩:=za.1 hb;by_cases z:bV=1
   ·subst z;have nW:=IC ht hb;by_cases p2:ay=2
    ·have hr:fV af bq cj ay [⟨bo,bz,1,bj,aZ⟩] aR=true:=by simp only [fV,f1,f2,if_pos p];simp [p2]
     subst p2;refine Ud (J8 aD h1 h2 fj f1 f2 hd (J2 dL eo)) ?_;repeat intro hc
     simp [tW,hr]
    ·have hr:fV af bq cj ay [⟨bo,bz,1,bj,aZ⟩] aR=decide (aR<aZ):=by simp only [fV,f1,f2,if_pos p];simp [p2]
     by_cases p3:aR<aZ
     ·have p4:aR<(bL.length:Int):=by omega
      refine Ud (J8 aD h1 h2 fj f1 f2 hd (J8 dL eo p2 p3 p4 hI jr (J4 iV he hb ai))) ?_ ?_;all_goals repeat intro hc
      all_goals simp_all [tW]
     ·have p4:¬aR<(bL.length:Int):=by omega
      refine Ud (J8 aD h1 h2 fj f1 f2 hd (J8 dL eo p2 p3 p4 hI jr (J4 iV he hb ai))) ?_ ?_;all_goals repeat intro hc
      all_goals simp_all [tW]
   ·have hr:fV af bq cj ay [⟨bo,bz,bV,bj,aZ⟩] aR=false:=by simp only [fV,f1,f2,if_pos p];simp [z]
    refine Ud (J8 aD h1 h2 fj f1 f2 hd (J3 dL eo z)) ?_ ?_;all_goals repeat intro hc
    all_goals simp [tW,hr]
  ·have hr:fV af bq cj ay (⟨bo,bz,bV,bj,aZ⟩::r2::rest) aR=false:=by simp only [fV,f1,f2,if_pos p,zk]
   have hn:¬(rest.length:Int)+1+1=1:=by omega
   refine Ud (J8 aD h1 h2 fj f1 f2 hd (J3 dL eo hn)) ?_ ?_;all_goals repeat intro hc
   all_goals simp [tW,hr]
 ·have hr:fV af bq cj ay aF aR=true:=by simp only [fV,f1,f2,if_neg p,zq]
  refine Ud (J8 aD h1 h2 fj f1 f2 hd (J3 dL eo p)) ?_;repeat intro hc
  simp [tW,hr]
theorem amd (aD:af.length≤1048576) (h1:bq.length≤1048576) (h2:ab.aJ bq) (h3:aF.length≤1048576) (fj:cj.length≤1048576) (qp:∀r∈aF,jk ae r.dW r.fW r.Kind r.ek=true) (hI:0≤aR):Gw TT 483 [.st (cb k0 af ax aM aG ak aI aK au ae aj aw aH aq az),.st (kr k0 aW ay dO bq bf bB bD bC bE bH bF bw br bA bu bt bY aF aR bm bX bW aO b_ b9),.st (vh k0 cQ cS cj cp cx cz cy cA cC cB ct cg cw cq de dc db dj dg dh cZ dm c9 c_ cR)]=some (vb (fV af bq cj ay aF aR),[]):=by
 refine Ga tV O9 ?_;unfold O9;cases f1:lp af bq with
 |false=>
  have hr:fV af bq cj ay aF aR=false:=by simp [fV,f1]
  refine Ud (J5 aD h1 h2 fj f1) ?_;repeat intro hc
  simp [tV,hr]
 |true=>
 cases f2:ry bq cj with
 |false=>
  have hr:fV af bq cj ay aF aR=false:=by simp [fV,f2]
  refine Ud (J6 aD h1 h2 fj f1 f2) ?_;repeat intro hc
  simp [tV,hr]
 |true=>
 by_cases p:(2≤ay∧ay≤4)∨(6≤ay∧ay≤7)
 ·rcases aF with _|⟨⟨bo,bz,bV,bj,aZ⟩,_|⟨r2,rest⟩⟩
  ·have hr:fV af bq cj ay [] aR=false:=by simp only [fV,f1,f2,if_pos p,zk]
   refine Ud (J6 aD h1 h2 fj f1 f2) ?_;repeat intro hc
   simp [tV,hr]
  ·have ht:=qp ⟨bo,bz,bV,bj,aZ⟩ (by simp);simp only at ht;obtain ⟨⟨bg,bk,⟨bn,bL⟩,bG⟩,hb,jr,iV,tq⟩:=Cx ht;obtain ⟨ai,he⟩:=za.1 hb;by_cases z:bV=1
   ·subst z;have nW:=IC ht hb;by_cases p2:ay=2
    ·have hr:fV af bq cj ay [⟨bo,bz,1,bj,aZ⟩] aR=true:=by simp only [fV,f1,f2,if_pos p];simp [p2]
     subst p2;refine Ud (J6 aD h1 h2 fj f1 f2) ?_;repeat intro hc
     simp [tV,hr]
    ·have hr:fV af bq cj ay [⟨bo,bz,1,bj,aZ⟩] aR=decide (aR<aZ):=by simp only [fV,f1,f2,if_pos p];simp [p2]
     by_cases p3:aR<aZ
     ·have p4:aR<(bL.length:Int):=by omega
      refine Ud (J8 aD h1 h2 fj f1 f2 p2 (J8 p3 p4 hI jr iV he hb ai)) ?_;repeat intro hc
      simp_all [tV]
     ·have p4:¬aR<(bL.length:Int):=by omega
      refine Ud (J8 aD h1 h2 fj f1 f2 p2 (J8 p3 p4 hI jr iV he hb ai)) ?_;repeat intro hc
      simp_all [tV]
   ·have hr:fV af bq cj ay [⟨bo,bz,bV,bj,aZ⟩] aR=false:=by simp only [fV,f1,f2,if_pos p];simp [z]
    refine Ud (J7 aD h1 h2 fj f1 f2 z) ?_;repeat intro hc
    simp [tV,hr]
  ·have hr:fV af bq cj ay (⟨bo,bz,bV,bj,aZ⟩::r2::rest) aR=false:=by simp only [fV,f1,f2,if_pos p,zk]
   have hn:¬(rest.length:Int)+1+1=1:=by omega
   refine Ud (J7 aD h1 h2 fj f1 f2 hn) ?_;repeat intro hc
   simp [tV,hr]
 ·have hr:fV af bq cj ay aF aR=true:=by simp only [fV,f1,f2,if_neg p,zq]
  refine Ud (J7 aD h1 h2 fj f1 f2 p) ?_ ?_;all_goals repeat intro hc
  all_goals simp [tV,hr]
theorem amg (n:Nat) (bq:List ab) (bf bB:Int) (bD bC:Int) (bE bH bF:Int) (bw:ByteArray) (br:List an) (bA:Int) (bu:List Int) (bt bY:Int) (aF:List aL) (aR bm:Int) (bX bW aO:Int) (b_:Bool) (b9:List aA) (cQ cS:Int) (cj:List ab) (cp cx:Int) (cz cy:Int) (cA cC cB:Int) (ct:ByteArray) (cg:List an) (cw:Int) (cq:List Int) (de:List aA) (dc:Int) (db:Bool) (dj dg:Int) (dh:ByteArray) (cZ dm:Int) (c9 c_ cR:Int) (h3:aF.length≤1048576) (hd:az[n]?=some ⟨cQ,cS,cj,cp,⟨cx,⟨cz,cy,cA,⟨cC,cB,ct⟩,cg⟩,cw,cq⟩,⟨de,dc,db,⟨dj,dg,dh⟩⟩,cZ,dm,c9,c_,cR⟩):Gw TT 488 [.st (cb k0 af ax aM aG ak aI aK au ae aj aw aH aq az),.st [ri aW,ri ay,ri (n:Nat),rl k0 3 (bq.map ab.e),ri bf,ri bB,ri bD,ri bC,ri bE,ri bH,ri bF,.ro false (.str bw),rl k0 7 (br.map an.e),ri bA,rl k0 1 (bu.map ei),ri bt,ri bY,rl k0 5 (aF.map aL.e),ri aR,ri bm,ri bX,ri bW,ri aO,.ro false (.bool b_),rl k0 2 (b9.map aA.e)]]=some (vb (fX bf cp ay aF aj.length),[]):=by
 refine Ga si Pd ?_;unfold Pd;obtain ⟨dL,eo⟩:=za.1 hd;by_cases i:bf=cp
 ·by_cases p:2≤ay∧ay≤7
  ·rcases aF with _|⟨⟨bo,bz,bV,bj,aZ⟩,_|⟨r2,rest⟩⟩
   ·have hr:fX bf cp ay [] aj.length=false:=by simp only [fX,if_pos p,zk]
    refine Ud (J6 h3 hd dL eo (eq_true i) (eq_true i.symm)) ?_;repeat intro hc
    simp [si,hr]
   ·skip;cases g1:rh bj aZ bf with
    |false=>
     have hr:fX bf cp ay [⟨bo,bz,bV,bj,aZ⟩] aj.length=false:=by simp only [fX,if_pos p,g1,zm,zk]
     refine Ud (J7 h3 hd dL eo (eq_true i) (eq_true i.symm) g1) ?_;repeat intro hc
     simp [si,hr]
    |true=>
     by_cases g2:bf<(aj.length:Int)
     ·have g3:¬(aj.length:Int)≤bf:=by omega
      by_cases z:bV=1
      ·have hr:fX bf cp ay [⟨bo,bz,bV,bj,aZ⟩] aj.length=true:=by simp only [fX,if_pos p,g1,decide_eq_true i,decide_eq_true g2,z];simp
       refine Ud (J8 h3 hd dL eo (eq_true i) (eq_true i.symm) g1 (J2 g3 (eq_true z))) ?_ ?_;all_goals repeat intro hc
       all_goals first|(simp [si,hr];done)|(simp_all [si];done)
      ·have hr:fX bf cp ay [⟨bo,bz,bV,bj,aZ⟩] aj.length=(if 3≤ay∧ay≤4 then false else true):=by simp only [fX,if_pos p,g1,decide_eq_true i,decide_eq_true g2,decide_eq_false z];simp
       by_cases p3:3≤ay∧ay≤4
       ·rw [if_pos p3] at hr;refine Ud (J8 h3 hd dL eo (eq_true i) (eq_true i.symm) g1 (J2 g3 z)) ?_;repeat intro hc
        simp_all [si]
       ·rw [if_neg p3] at hr;refine Ud (J8 h3 hd dL eo (eq_true i) (eq_true i.symm) g1 (J2 g3 z)) ?_;repeat intro hc
        simp [si,hr]
     ·have g3:(aj.length:Int)≤bf:=by omega
      have hr:fX bf cp ay [⟨bo,bz,bV,bj,aZ⟩] aj.length=false:=by simp only [fX,if_pos p,g1,decide_eq_false g2,zm,zk]
      refine Ud (J8 h3 hd dL eo (eq_true i) (eq_true i.symm) g1 g3) ?_;repeat intro hc
      simp [si,hr]
   ·have hr:fX bf cp ay (⟨bo,bz,bV,bj,aZ⟩::r2::rest) aj.length=false:=by simp only [fX,if_pos p,zk]
    have hn:¬(rest.length:Int)+1+1=1:=by omega
    refine Ud (J7 h3 hd dL eo (eq_true i) (eq_true i.symm) hn) ?_;repeat intro hc
    simp [si,hr]
  ·have hr:fX bf cp ay aF aj.length=true:=by simp only [fX,if_neg p,decide_eq_true i,zq]
   refine Ud (J7 h3 hd dL eo (eq_true i) (eq_true i.symm) p) ?_;repeat intro hc
   simp [si,hr]
 ·have hr:fX bf cp ay aF aj.length=false:=by simp only [fX,decide_eq_false i,zm]
  have i2:¬cp=bf:=fun e=>i e.symm
  refine Ud (J6 h3 hd dL eo i i2) ?_;repeat intro hc
  simp [si,hr]
theorem ame (h3:aF.length≤1048576):Gw TT 484 [.st (cb k0 af ax aM aG ak aI aK au ae aj aw aH aq az),.st (kr k0 aW ay dO bq bf bB bD bC bE bH bF bw br bA bu bt bY aF aR bm bX bW aO b_ b9),.st (vh k0 cQ cS cj cp cx cz cy cA cC cB ct cg cw cq de dc db dj dg dh cZ dm c9 c_ cR)]=some (vb (fX bf cp ay aF aj.length),[]):=by
 refine Ga sh O_ ?_;unfold O_;by_cases i:bf=cp
 ·by_cases p:2≤ay∧ay≤7
  ·rcases aF with _|⟨⟨bo,bz,bV,bj,aZ⟩,_|⟨r2,rest⟩⟩
   ·have hr:fX bf cp ay [] aj.length=false:=by simp only [fX,if_pos p,zk]
    refine Ud (J3 h3 (eq_true i) (eq_true i.symm)) ?_;repeat intro hc
    simp [sh,hr]
   ·skip;have ra:∀b:Bool,b=rh bj aZ bf→xL bf 0 [⟨bo,bz,bV,bj,aZ⟩]=if b=true then 0 else -1:=fun b e=>by subst e;simp [xL]
    cases g1:rh bj aZ bf with
    |false=>
     have hr:fX bf cp ay [⟨bo,bz,bV,bj,aZ⟩] aj.length=false:=by simp only [fX,if_pos p,g1,zm,zk]
     have rb:=ra false g1.symm;simp only [zr,if_true,if_false] at rb;have xK:=fun k0:Bool=>t322 k0 0 [⟨bo,bz,bV,bj,aZ⟩] bf (by simp)
     simp only [rb,zK,zx,aL.e] at xK;refine Ud (J5 h3 (eq_true i) (eq_true i.symm) g1 xK) ?_;repeat intro hc
     simp [sh,hr]
    |true=>
     have rb:=ra true g1.symm;simp only [zr,if_true,if_false] at rb;have xK:=fun k0:Bool=>t322 k0 0 [⟨bo,bz,bV,bj,aZ⟩] bf (by simp)
     simp only [rb,zK,zx,aL.e] at xK;by_cases g2:bf<(aj.length:Int)
     ·have g3:¬(aj.length:Int)≤bf:=by omega
      by_cases z:bV=1
      ·have hr:fX bf cp ay [⟨bo,bz,bV,bj,aZ⟩] aj.length=true:=by simp only [fX,if_pos p,g1,decide_eq_true i,decide_eq_true g2,z];simp
       refine Ud (J7 h3 (eq_true i) (eq_true i.symm) g1 g3 xK (eq_true z)) ?_ ?_ ?_;all_goals repeat intro hc
       all_goals first|(simp [sh,hr];done)|(simp_all [sh];done)
      ·have hr:fX bf cp ay [⟨bo,bz,bV,bj,aZ⟩] aj.length=(if 3≤ay∧ay≤4 then false else true):=by simp only [fX,if_pos p,g1,decide_eq_true i,decide_eq_true g2,decide_eq_false z];simp
       by_cases p3:3≤ay∧ay≤4
       ·rw [if_pos p3] at hr;refine Ud (J7 h3 (eq_true i) (eq_true i.symm) g1 g3 xK z) ?_;repeat intro hc
        simp_all [sh]
       ·rw [if_neg p3] at hr;refine Ud (J7 h3 (eq_true i) (eq_true i.symm) g1 g3 xK z) ?_ ?_;all_goals repeat intro hc
        all_goals simp [sh,hr]
     ·have g3:(aj.length:Int)≤bf:=by omega
      have hr:fX bf cp ay [⟨bo,bz,bV,bj,aZ⟩] aj.length=false:=by simp only [fX,if_pos p,g1,decide_eq_false g2,zm,zk]
      refine Ud (J6 h3 (eq_true i) (eq_true i.symm) g1 g3 xK) ?_;repeat intro hc
      simp [sh,hr]
   ·have hr:fX bf cp ay (⟨bo,bz,bV,bj,aZ⟩::r2::rest) aj.length=false:=by simp only [fX,if_pos p,zk]
    have hn:¬(rest.length:Int)+1+1=1:=by omega
    refine Ud (J4 h3 (eq_true i) (eq_true i.symm) hn) ?_;repeat intro hc
    simp [sh,hr]
  ·have hr:fX bf cp ay aF aj.length=true:=by simp only [fX,if_neg p,decide_eq_true i,zq]
   refine Ud (J4 h3 (eq_true i) (eq_true i.symm) p) ?_;repeat intro hc
   simp [sh,hr]
 ·have hr:fX bf cp ay aF aj.length=false:=by simp only [fX,decide_eq_false i,zm]
  have i2:¬cp=bf:=fun e=>i e.symm
  refine Ud (J3 h3 i i2) ?_;repeat intro hc
  simp [sh,hr]
def iw (cols:List Int) (B:List aU) (m:Nat) (pc:Int) (r:aL) (J:Int):Bool:=if r.Kind=1 then decide (J<r.ek)&&(decide (pc<6)||decide (IntKind.wrap .i64 (r.iz+J)<(m:Int))) else decide (6≤pc)&&(match (gX cols B r)[J.toNat]? with
 |some x=>decide (x.Id<(m:Int))
 |none=>false)
def gh (cols:List Int) (B:List aU) (m:Nat) (T:Int) (q dq:ia) (ts pc:Int) (L:List aL) (I J:Int):Bool:=gO cols q.Kind q.P q.hZ q.Out&&(uY q dq&&(decide (ts≤T)&&(if 3≤pc∧pc≤8 then (if pc=3 then decide (I≤(L.length:Int)) else match L[I.toNat]? with
 |some r=>iw cols B m pc r J
 |none=>false) else true)))
theorem amh (n:Nat) (bq:List ab) (bf bB:Int) (bD bC:Int) (bE bH bF:Int) (bw:ByteArray) (br:List an) (bA:Int) (bu:List Int) (bt bY:Int) (aF:List aL) (aR bm:Int) (bX bW aO:Int) (b_:Bool) (b9:List aA) (cQ cS:Int) (cj:List ab) (cp cx:Int) (cz cy:Int) (cA cC cB:Int) (ct:ByteArray) (cg:List an) (cw:Int) (cq:List Int) (de:List aA) (dc:Int) (db:Bool) (dj dg:Int) (dh:ByteArray) (cZ dm:Int) (c9 c_ cR:Int) (aD:af.length≤1048576) (cT:ae.length≤1048576) (hs:aU.aJ ae) (hG:∀b∈ae,b.G.length≤1048576∧bI b.G) (q1:bw.size≤1048576) (q2:br.length≤1048576) (q3:an.aJ br) (q4:bu.length≤1048576) (q5:ct.size≤1048576) (q6:cg.length≤1048576) (q7:an.aJ cg) (q8:cq.length≤1048576) (h3:aF.length≤1048576) (qp:∀r∈aF,jk ae r.dW r.fW r.Kind r.ek=true) (hK:∀r∈aF,r.Kind=1∨r.Kind=2) (hI:0≤aR) (hJ:0≤bm) (hd:az[n]?=some ⟨cQ,cS,cj,cp,⟨cx,⟨cz,cy,cA,⟨cC,cB,ct⟩,cg⟩,cw,cq⟩,⟨de,dc,db,⟨dj,dg,dh⟩⟩,cZ,dm,c9,c_,cR⟩):Gw TT 489 [.st (cb k0 af ax aM aG ak aI aK au ae aj aw aH aq az),.st [ri aW,ri ay,ri (n:Nat),rl k0 3 (bq.map ab.e),ri bf,ri bB,ri bD,ri bC,ri bE,ri bH,ri bF,.ro false (.str bw),rl k0 7 (br.map an.e),ri bA,rl k0 1 (bu.map ei),ri bt,ri bY,rl k0 5 (aF.map aL.e),ri aR,ri bm,ri bX,ri bW,ri aO,.ro false (.bool b_),rl k0 2 (b9.map aA.e)]]=some (vb (gh af ae aj.length ak ⟨bB,⟨bD,bC,bE,⟨bH,bF,bw⟩,br⟩,bA,bu⟩ ⟨cx,⟨cz,cy,cA,⟨cC,cB,ct⟩,cg⟩,cw,cq⟩ bt ay aF aR bm),[]):=by
 refine Ga oq Pe ?_;unfold Pe;obtain ⟨dL,eo⟩:=za.1 hd;cases f1:gO af bB ⟨bD,bC,bE,⟨bH,bF,bw⟩,br⟩ bA bu with
 |false=>
  have hr:gh af ae aj.length ak ⟨bB,⟨bD,bC,bE,⟨bH,bF,bw⟩,br⟩,bA,bu⟩ ⟨cx,⟨cz,cy,cA,⟨cC,cB,ct⟩,cg⟩,cw,cq⟩ bt ay aF aR bm=false:=by simp only [gh,f1,zm]
  refine Ud (J8 aD q1 q2 q3 q4 q5 q6 (J6 q7 q8 f1 hd dL eo)) ?_;repeat intro hc
  simp [oq,hr]
 |true=>
 cases f2:uY ⟨bB,⟨bD,bC,bE,⟨bH,bF,bw⟩,br⟩,bA,bu⟩ ⟨cx,⟨cz,cy,cA,⟨cC,cB,ct⟩,cg⟩,cw,cq⟩ with
 |false=>
  have hr:gh af ae aj.length ak ⟨bB,⟨bD,bC,bE,⟨bH,bF,bw⟩,br⟩,bA,bu⟩ ⟨cx,⟨cz,cy,cA,⟨cC,cB,ct⟩,cg⟩,cw,cq⟩ bt ay aF aR bm=false:=by simp only [gh,f2,zm,zk]
  refine Ud (J8 aD q1 q2 q3 q4 q5 q6 (J7 q7 q8 f1 f2 hd dL eo)) ?_;repeat intro hc
  simp [oq,hr]
 |true=>
 by_cases f3:bt≤ak
 rotate_left
 ·have hr:gh af ae aj.length ak ⟨bB,⟨bD,bC,bE,⟨bH,bF,bw⟩,br⟩,bA,bu⟩ ⟨cx,⟨cz,cy,cA,⟨cC,cB,ct⟩,cg⟩,cw,cq⟩ bt ay aF aR bm=false:=by simp only [gh,decide_eq_false f3,zm,zk]
  have f4:ak<bt:=by omega
  refine Ud (J8 aD q1 q2 q3 q4 q5 q6 (J8 q7 q8 f1 f2 f4 hd dL eo)) ?_;repeat intro hc
  simp [oq,hr]
 have f4:¬ak<bt:=by omega
 by_cases p:3≤ay∧ay≤8
 rotate_left
 ·have hr:gh af ae aj.length ak ⟨bB,⟨bD,bC,bE,⟨bH,bF,bw⟩,br⟩,bA,bu⟩ ⟨cx,⟨cz,cy,cA,⟨cC,cB,ct⟩,cg⟩,cw,cq⟩ bt ay aF aR bm=true:=by simp only [gh,f1,f2,zh,decide_eq_true f3,if_neg p]
  refine Ud (J8 aD q1 q2 q3 q4 q5 q6 (J8 q7 q8 f1 f2 f4 p hd (J2 dL eo))) ?_;repeat intro hc
  simp [oq,hr]
 by_cases p3:ay=3
 ·by_cases i:aR≤(aF.length:Int)
  ·have hr:gh af ae aj.length ak ⟨bB,⟨bD,bC,bE,⟨bH,bF,bw⟩,br⟩,bA,bu⟩ ⟨cx,⟨cz,cy,cA,⟨cC,cB,ct⟩,cg⟩,cw,cq⟩ bt ay aF aR bm=true:=by simp only [gh,f1,f2,zh,decide_eq_true f3,if_pos p,if_pos p3,decide_eq_true i]
   have i2:¬(aF.length:Int)<aR:=by omega
   subst p3;refine Ud (J8 aD q1 q2 q3 q4 q5 q6 (J8 q7 q8 f1 f2 f4 i2 hd (J2 dL eo))) ?_;repeat intro hc
   simp [oq,hr]
  ·have hr:gh af ae aj.length ak ⟨bB,⟨bD,bC,bE,⟨bH,bF,bw⟩,br⟩,bA,bu⟩ ⟨cx,⟨cz,cy,cA,⟨cC,cB,ct⟩,cg⟩,cw,cq⟩ bt ay aF aR bm=false:=by simp only [gh,f1,f2,zh,decide_eq_true f3,if_pos p,if_pos p3,decide_eq_false i]
   have i2:(aF.length:Int)<aR:=by omega
   subst p3;refine Ud (J8 aD q1 q2 q3 q4 q5 q6 (J8 q7 q8 f1 f2 f4 i2 hd (J2 dL eo))) ?_;repeat intro hc
   simp [oq,hr]
 by_cases i:aR<(aF.length:Int)
 rotate_left
 ·have hr:gh af ae aj.length ak ⟨bB,⟨bD,bC,bE,⟨bH,bF,bw⟩,br⟩,bA,bu⟩ ⟨cx,⟨cz,cy,cA,⟨cC,cB,ct⟩,cg⟩,cw,cq⟩ bt ay aF aR bm=false:=by simp only [gh,f1,f2,zh,decide_eq_true f3,if_pos p,if_neg p3];rw [zj (by omega)]
  by_cases i3:aR=(aF.length:Int)
  ·have i2:¬(aF.length:Int)<aR:=by omega
   refine Ud (J8 aD q1 q2 q3 q4 q5 q6 (J8 q7 q8 f1 f2 f4 i2 i3 (J4 p3 hd dL eo))) ?_;repeat intro hc
   simp [oq,hr]
  ·have i2:(aF.length:Int)<aR:=by omega
   refine Ud (J8 aD q1 q2 q3 q4 q5 q6 (J8 q7 q8 f1 f2 f4 i2 i3 (J4 p3 hd dL eo))) ?_;repeat intro hc
   simp [oq,hr]
 obtain ⟨m,rfl⟩:=zi hI;have hm:m<aF.length:=by omega
 obtain ⟨⟨bo,bz,bV,bj,aZ⟩,hg⟩:∃s,aF[m]?=some s:=⟨_,zg hm⟩;have aB:=(za.1 hg).2;have Du:=zd hg;have ht:=qp _ Du;have hk:=hK _ Du;simp only at ht hk;have i2:¬(aF.length:Int)<(m:Int):=by omega
 have i3:¬(m:Int)=(aF.length:Int):=by omega
 have rW:gh af ae aj.length ak ⟨bB,⟨bD,bC,bE,⟨bH,bF,bw⟩,br⟩,bA,bu⟩ ⟨cx,⟨cz,cy,cA,⟨cC,cB,ct⟩,cg⟩,cw,cq⟩ bt ay aF (m:Int) bm=iw af ae aj.length ay ⟨bo,bz,bV,bj,aZ⟩ bm:=by simp only [gh,f1,f2,zh,decide_eq_true f3,if_pos p,if_neg p3];rw [show ((m:Int)).toNat=m by omega,hg]
 rw [rW];obtain ⟨⟨bg,bk,⟨bn,bL⟩,bG⟩,hb,jr,iV,tq⟩:=Cx ht;obtain ⟨rS,qn⟩:=hG _ tq;simp only at rS qn;rcases hk with rfl|rfl
 ·have nW:=IC ht hb;have oM:kx ae ⟨bo,bz,1,bj,aZ⟩=true:=by simp only [kx];rw [ht];try rfl
  by_cases j:bm<aZ
  ·have j2:bm<(bL.length:Int):=by omega
   obtain ⟨jm,rfl⟩:=zi hJ;obtain ⟨⟨sI,sL⟩,gE⟩:∃s,bL[jm]?=some s:=⟨_,zg (by omega)⟩;have ra:=fun k:Bool=>UW k af ax aM aG ak aI aK au ae aj aw aH aq az bo bz 1 bj aZ (jm:Int) cT hs aD hG
   rw [acb oM hb gE] at ra;simp only [ace] at ra;by_cases p5:ay≤5
   ·have hr:iw af ae aj.length ay ⟨bo,bz,1,bj,aZ⟩ (jm:Int)=true:=by simp only [iw,if_true,decide_eq_true j,decide_eq_true (show ay<6 by omega),zM,zq]
    refine Ud (J8 aD q1 q2 q3 q4 q5 q6 (J8 q7 q8 f1 f2 f4 p3 i2 (J8 i3 i hm hg aB hd dL (J3 eo ra p5)))) ?_;repeat intro hc
    simp [oq,hr]
   ·have hr:iw af ae aj.length ay ⟨bo,bz,1,bj,aZ⟩ (jm:Int)=decide (IntKind.wrap .i64 (bj+(jm:Int))<(aj.length:Int)):=by simp only [iw,if_true,decide_eq_true j,decide_eq_false (show ¬ay<6 by omega),zL,zh]
    refine Ud (J8 aD q1 q2 q3 q4 q5 q6 (J8 q7 q8 f1 f2 f4 p3 i2 (J8 i3 i hm hg aB hd dL (J3 eo ra p5)))) ?_;repeat intro hc
    simp [oq,hr]
  ·have hr:iw af ae aj.length ay ⟨bo,bz,1,bj,aZ⟩ bm=false:=by simp only [iw,if_true,decide_eq_false j,zm]
   have ra:=fun k:Bool=>UW k af ax aM aG ak aI aK au ae aj aw aH aq az bo bz 1 bj aZ bm cT hs aD hG
   rw [ab' oM hb (by simp only;omega)] at ra;simp only [acd] at ra;refine Ud (J8 aD q1 q2 q3 q4 q5 q6 (J8 q7 q8 f1 f2 f4 p3 i2 (J8 i3 i hm hg aB hd dL (J2 eo ra)))) ?_ ?_;all_goals repeat intro hc
   all_goals simp [oq,hr]
 ·have oQ:¬kx ae ⟨bo,bz,2,bj,aZ⟩=true:=by simp [kx]
  have wS:¬(2:Int)=1:=by omega
  obtain ⟨jm,rfl⟩:=zi hJ;have ra:=fun k:Bool=>UW k af ax aM aG ak aI aK au ae aj aw aH aq az bo bz 2 bj aZ (jm:Int) cT hs aD hG
  obtain ⟨rows,rX⟩:∃l,l=gX af ae ⟨bo,bz,2,bj,aZ⟩:=⟨_,rfl⟩;by_cases j:jm<rows.length
  ·obtain ⟨⟨bU,a_⟩,gE⟩:∃s,rows[jm]?=some s:=⟨_,zg j⟩;have fx:=(za.1 gE).2;have j2:(jm:Int)<(rows.length:Int):=by omega
   rw [aca oQ (by rw [←rX];exact gE)] at ra;simp only [ace] at ra;by_cases p5:6≤ay
   ·have p6:¬ay≤5:=by omega
    have hr:iw af ae aj.length ay ⟨bo,bz,2,bj,aZ⟩ (jm:Int)=decide (bU<(aj.length:Int)):=by simp only [iw,if_neg wS,decide_eq_true p5,zh,←rX,show ((jm:Int)).toNat=jm by omega,gE]
    refine Ud (J8 aD q1 q2 q3 q4 q5 q6 (J8 q7 q8 f1 f2 f4 p3 i2 (J8 i3 i hm hg aB hd dL (J4 eo ra p5 p6)))) ?_;repeat intro hc
    simp [oq,hr]
   ·have p6:ay≤5:=by omega
    have hr:iw af ae aj.length ay ⟨bo,bz,2,bj,aZ⟩ (jm:Int)=false:=by simp only [iw,if_neg wS,decide_eq_false p5,zm]
    refine Ud (J8 aD q1 q2 q3 q4 q5 q6 (J8 q7 q8 f1 f2 f4 p3 i2 (J8 i3 i hm hg aB hd dL (J4 eo ra p5 p6)))) ?_;repeat intro hc
    simp [oq,hr]
  ·rw [ab_ oQ (by rw [←rX];omega)] at ra;simp only [acd] at ra;have fK:rows[jm]?=none:=zj (by omega);by_cases p5:6≤ay
   ·have p6:¬ay≤5:=by omega
    have hr:iw af ae aj.length ay ⟨bo,bz,2,bj,aZ⟩ (jm:Int)=false:=by simp only [iw,if_neg wS,decide_eq_true p5,zh,←rX,show ((jm:Int)).toNat=jm by omega,fK]
    refine Ud (J8 aD q1 q2 q3 q4 q5 q6 (J8 q7 q8 f1 f2 f4 p3 i2 (J8 i3 i hm hg aB hd dL (J4 eo ra p5 p6)))) ?_;repeat intro hc
    simp [oq,hr]
   ·have p6:ay≤5:=by omega
    have hr:iw af ae aj.length ay ⟨bo,bz,2,bj,aZ⟩ (jm:Int)=false:=by simp only [iw,if_neg wS,decide_eq_false p5,zm]
    refine Ud (J8 aD q1 q2 q3 q4 q5 q6 (J8 q7 q8 f1 f2 f4 p3 i2 (J8 i3 i hm hg aB hd dL (J4 eo ra p5 p6)))) ?_;repeat intro hc
    simp [oq,hr]
theorem amf (aD:af.length≤1048576) (cT:ae.length≤1048576) (hs:aU.aJ ae) (hG:∀b∈ae,b.G.length≤1048576∧bI b.G) (q1:bw.size≤1048576) (q2:br.length≤1048576) (q3:an.aJ br) (q4:bu.length≤1048576) (q5:ct.size≤1048576) (q6:cg.length≤1048576) (q7:an.aJ cg) (q8:cq.length≤1048576) (h3:aF.length≤1048576) (qp:∀r∈aF,jk ae r.dW r.fW r.Kind r.ek=true) (hK:∀r∈aF,r.Kind=1∨r.Kind=2) (hI:0≤aR) (hJ:0≤bm):Gw TT 485 [.st (cb k0 af ax aM aG ak aI aK au ae aj aw aH aq az),.st (kr k0 aW ay dO bq bf bB bD bC bE bH bF bw br bA bu bt bY aF aR bm bX bW aO b_ b9),.st (vh k0 cQ cS cj cp cx cz cy cA cC cB ct cg cw cq de dc db dj dg dh cZ dm c9 c_ cR)]=some (vb (gh af ae aj.length ak ⟨bB,⟨bD,bC,bE,⟨bH,bF,bw⟩,br⟩,bA,bu⟩ ⟨cx,⟨cz,cy,cA,⟨cC,cB,ct⟩,cg⟩,cw,cq⟩ bt ay aF aR bm),[]):=by
 refine Ga oo O' ?_;unfold O';cases f1:gO af bB ⟨bD,bC,bE,⟨bH,bF,bw⟩,br⟩ bA bu with
 |false=>
  have hr:gh af ae aj.length ak ⟨bB,⟨bD,bC,bE,⟨bH,bF,bw⟩,br⟩,bA,bu⟩ ⟨cx,⟨cz,cy,cA,⟨cC,cB,ct⟩,cg⟩,cw,cq⟩ bt ay aF aR bm=false:=by simp only [gh,f1,zm]
  refine Ud (J8 aD q1 q2 q3 q4 q5 q6 (J3 q7 q8 f1)) ?_;repeat intro hc
  simp [oo,hr]
 |true=>
 cases f2:uY ⟨bB,⟨bD,bC,bE,⟨bH,bF,bw⟩,br⟩,bA,bu⟩ ⟨cx,⟨cz,cy,cA,⟨cC,cB,ct⟩,cg⟩,cw,cq⟩ with
 |false=>
  have hr:gh af ae aj.length ak ⟨bB,⟨bD,bC,bE,⟨bH,bF,bw⟩,br⟩,bA,bu⟩ ⟨cx,⟨cz,cy,cA,⟨cC,cB,ct⟩,cg⟩,cw,cq⟩ bt ay aF aR bm=false:=by simp only [gh,f2,zm,zk]
  refine Ud (J8 aD q1 q2 q3 q4 q5 q6 (J4 q7 q8 f1 f2)) ?_;repeat intro hc
  simp [oo,hr]
 |true=>
 by_cases f3:bt≤ak
 rotate_left
 ·have hr:gh af ae aj.length ak ⟨bB,⟨bD,bC,bE,⟨bH,bF,bw⟩,br⟩,bA,bu⟩ ⟨cx,⟨cz,cy,cA,⟨cC,cB,ct⟩,cg⟩,cw,cq⟩ bt ay aF aR bm=false:=by simp only [gh,decide_eq_false f3,zm,zk]
  have f4:ak<bt:=by omega
  refine Ud (J8 aD q1 q2 q3 q4 q5 q6 (J5 q7 q8 f1 f2 f4)) ?_;repeat intro hc
  simp [oo,hr]
 have f4:¬ak<bt:=by omega
 by_cases p:3≤ay∧ay≤8
 rotate_left
 ·have hr:gh af ae aj.length ak ⟨bB,⟨bD,bC,bE,⟨bH,bF,bw⟩,br⟩,bA,bu⟩ ⟨cx,⟨cz,cy,cA,⟨cC,cB,ct⟩,cg⟩,cw,cq⟩ bt ay aF aR bm=true:=by simp only [gh,f1,f2,zh,decide_eq_true f3,if_neg p]
  refine Ud (J8 aD q1 q2 q3 q4 q5 q6 (J6 q7 q8 f1 f2 f4 p)) ?_;repeat intro hc
  simp [oo,hr]
 by_cases p3:ay=3
 ·by_cases i:aR≤(aF.length:Int)
  ·have hr:gh af ae aj.length ak ⟨bB,⟨bD,bC,bE,⟨bH,bF,bw⟩,br⟩,bA,bu⟩ ⟨cx,⟨cz,cy,cA,⟨cC,cB,ct⟩,cg⟩,cw,cq⟩ bt ay aF aR bm=true:=by simp only [gh,f1,f2,zh,decide_eq_true f3,if_pos p,if_pos p3,decide_eq_true i]
   have i2:¬(aF.length:Int)<aR:=by omega
   subst p3;refine Ud (J8 aD q1 q2 q3 q4 q5 q6 (J6 q7 q8 f1 f2 f4 i2)) ?_;repeat intro hc
   simp [oo,hr]
  ·have hr:gh af ae aj.length ak ⟨bB,⟨bD,bC,bE,⟨bH,bF,bw⟩,br⟩,bA,bu⟩ ⟨cx,⟨cz,cy,cA,⟨cC,cB,ct⟩,cg⟩,cw,cq⟩ bt ay aF aR bm=false:=by simp only [gh,f1,f2,zh,decide_eq_true f3,if_pos p,if_pos p3,decide_eq_false i]
   have i2:(aF.length:Int)<aR:=by omega
   subst p3;refine Ud (J8 aD q1 q2 q3 q4 q5 q6 (J6 q7 q8 f1 f2 f4 i2)) ?_;repeat intro hc
   simp [oo,hr]
 by_cases i:aR<(aF.length:Int)
 rotate_left
 ·have hr:gh af ae aj.length ak ⟨bB,⟨bD,bC,bE,⟨bH,bF,bw⟩,br⟩,bA,bu⟩ ⟨cx,⟨cz,cy,cA,⟨cC,cB,ct⟩,cg⟩,cw,cq⟩ bt ay aF aR bm=false:=by simp only [gh,f1,f2,zh,decide_eq_true f3,if_pos p,if_neg p3];rw [zj (by omega)]
  by_cases i3:aR=(aF.length:Int)
  ·have i2:¬(aF.length:Int)<aR:=by omega
   refine Ud (J8 aD q1 q2 q3 q4 q5 q6 (J8 q7 q8 f1 f2 f4 i2 i3 p3)) ?_;repeat intro hc
   simp [oo,hr]
  ·have i2:(aF.length:Int)<aR:=by omega
   refine Ud (J8 aD q1 q2 q3 q4 q5 q6 (J8 q7 q8 f1 f2 f4 i2 i3 p3)) ?_;repeat intro hc
   simp [oo,hr]
 obtain ⟨m,rfl⟩:=zi hI;have hm:m<aF.length:=by omega
 obtain ⟨⟨bo,bz,bV,bj,aZ⟩,hg⟩:∃s,aF[m]?=some s:=⟨_,zg hm⟩;have aB:=(za.1 hg).2;have Du:=zd hg;have ht:=qp _ Du;have hk:=hK _ Du;simp only at ht hk;have i2:¬(aF.length:Int)<(m:Int):=by omega
 have i3:¬(m:Int)=(aF.length:Int):=by omega
 have rW:gh af ae aj.length ak ⟨bB,⟨bD,bC,bE,⟨bH,bF,bw⟩,br⟩,bA,bu⟩ ⟨cx,⟨cz,cy,cA,⟨cC,cB,ct⟩,cg⟩,cw,cq⟩ bt ay aF (m:Int) bm=iw af ae aj.length ay ⟨bo,bz,bV,bj,aZ⟩ bm:=by simp only [gh,f1,f2,zh,decide_eq_true f3,if_pos p,if_neg p3];rw [show ((m:Int)).toNat=m by omega,hg]
 rw [rW];obtain ⟨⟨bg,bk,⟨bn,bL⟩,bG⟩,hb,jr,iV,tq⟩:=Cx ht;obtain ⟨rS,qn⟩:=hG _ tq;simp only at rS qn;rcases hk with rfl|rfl
 ·have nW:=IC ht hb;have oM:kx ae ⟨bo,bz,1,bj,aZ⟩=true:=by simp only [kx];rw [ht];try rfl
  by_cases j:bm<aZ
  ·have j2:bm<(bL.length:Int):=by omega
   by_cases p5:ay<6
   ·have hr:iw af ae aj.length ay ⟨bo,bz,1,bj,aZ⟩ bm=true:=by simp only [iw,if_true,decide_eq_true j,decide_eq_true p5,zM,zq]
    refine Ud (J8 aD q1 q2 q3 q4 q5 q6 (J8 q7 q8 f1 f2 f4 p3 i2 (J7 i3 i hm hg aB j p5))) ?_;repeat intro hc
    simp [oo,hr]
   ·have hr:iw af ae aj.length ay ⟨bo,bz,1,bj,aZ⟩ bm=decide (IntKind.wrap .i64 (bj+bm)<(aj.length:Int)):=by simp only [iw,if_true,decide_eq_true j,decide_eq_false p5,zL,zh]
    refine Ud (J8 aD q1 q2 q3 q4 q5 q6 (J8 q7 q8 f1 f2 f4 p3 i2 (J7 i3 i hm hg aB j p5))) ?_;repeat intro hc
    simp [oo,hr]
  ·have hr:iw af ae aj.length ay ⟨bo,bz,1,bj,aZ⟩ bm=false:=by simp only [iw,if_true,decide_eq_false j,zm]
   refine Ud (J8 aD q1 q2 q3 q4 q5 q6 (J8 q7 q8 f1 f2 f4 p3 i2 (J6 i3 i hm hg aB j))) ?_;repeat intro hc
   simp [oo,hr]
 ·have oQ:¬kx ae ⟨bo,bz,2,bj,aZ⟩=true:=by simp [kx]
  have wS:¬(2:Int)=1:=by omega
  obtain ⟨jm,rfl⟩:=zi hJ;have xc:=fun k0:Bool=>acY k0 af ax aM aG ak aI aK au ae aj aw aH aq az bo bz 2 bj aZ bg bk bn bL bG hb jr iV aD rS qn
  have agv:(dn af bG).getD []=gX af ae ⟨bo,bz,2,bj,aZ⟩:=by unfold gX;rw [if_pos ⟨rfl,ht⟩];simp only;rw [hb]
  rw [agv] at xc;obtain ⟨rows,rX⟩:∃l,l=gX af ae ⟨bo,bz,2,bj,aZ⟩:=⟨_,rfl⟩;rw [←rX] at xc;by_cases j:jm<rows.length
  ·obtain ⟨⟨bU,a_⟩,gE⟩:∃s,rows[jm]?=some s:=⟨_,zg j⟩;have fx:=(za.1 gE).2;have j2:(jm:Int)<(rows.length:Int):=by omega
   by_cases p5:6≤ay
   ·have p6:¬ay≤5:=by omega
    have hr:iw af ae aj.length ay ⟨bo,bz,2,bj,aZ⟩ (jm:Int)=decide (bU<(aj.length:Int)):=by simp only [iw,if_neg wS,decide_eq_true p5,zh,←rX,show ((jm:Int)).toNat=jm by omega,gE]
    refine Ud (J8 aD q1 q2 q3 q4 q5 q6 (J8 q7 q8 f1 f2 f4 p3 i2 (J8 i3 i hm hg aB xc j (J5 j2 gE fx p5 p6)))) ?_;repeat intro hc
    simp [oo,hr]
   ·have p6:ay≤5:=by omega
    have hr:iw af ae aj.length ay ⟨bo,bz,2,bj,aZ⟩ (jm:Int)=false:=by simp only [iw,if_neg wS,decide_eq_false p5,zm]
    refine Ud (J8 aD q1 q2 q3 q4 q5 q6 (J8 q7 q8 f1 f2 f4 p3 i2 (J8 i3 i hm hg aB xc j (J5 j2 gE fx p5 p6)))) ?_;repeat intro hc
    simp [oo,hr]
  ·have fK:rows[jm]?=none:=zj (by omega);have j2:¬(jm:Int)<(rows.length:Int):=by omega
   by_cases p5:6≤ay
   ·have p6:¬ay≤5:=by omega
    have hr:iw af ae aj.length ay ⟨bo,bz,2,bj,aZ⟩ (jm:Int)=false:=by simp only [iw,if_neg wS,decide_eq_true p5,zh,←rX,show ((jm:Int)).toNat=jm by omega,fK]
    refine Ud (J8 aD q1 q2 q3 q4 q5 q6 (J8 q7 q8 f1 f2 f4 p3 i2 (J8 i3 i hm hg aB xc j (J3 j2 p5 p6)))) ?_;repeat intro hc
    simp [oo,hr]
   ·have p6:ay≤5:=by omega
    have hr:iw af ae aj.length ay ⟨bo,bz,2,bj,aZ⟩ (jm:Int)=false:=by simp only [iw,if_neg wS,decide_eq_false p5,zm]
    refine Ud (J8 aD q1 q2 q3 q4 q5 q6 (J8 q7 q8 f1 f2 f4 p3 i2 (J8 i3 i hm hg aB xc j (J3 j2 p5 p6)))) ?_;repeat intro hc
    simp [oo,hr]
def lG (k:Int) (t:bM) (d:ca):Bool:=decide (d.Task=k)&&(decide (d.Op=t.Op)&&decide (d.wV=-1))
def mA (B:List aU) (r:aL):Bool:=jk B r.dW r.fW r.Kind r.ek
def fg (cols:List Int) (B:List aU) (m:Nat) (T:Int) (t:bM) (d:ca):Bool:=if t.Op=1 then fV cols t.R d.R t.Pc t.L t.I else if t.Op=2 then fX t.Id d.Id t.Pc t.L m else if t.Op=3 then gh cols B m T t.Q d.Q t.Ts t.Pc t.L t.I t.J else if 2≤t.Pc∧t.Pc≤5 then decide (1≤(t.L.length:Int))&&decide ((t.L.length:Int)≤2) else true
def Bc (k:Int) (t:bM):Bool:=oA (nj k t.Pc t.H t.Id t.Ts t.uC t.I t.J t.S t.At t.vg t.L.length) t.L (pV k t.Op t.Id (pj t.Pc t.H t.R t.Id (qC t.Q.Kind t.Q.P.Kind t.Q.P.hZ t.Q.P.Op t.Q.P.V.Ty t.Q.P.V.N t.Q.P.V.S t.Q.P.L t.Q.hZ t.Q.Out) t.Ts t.uC t.L t.I t.J t.S t.At t.vg t.Vu t.Bo))
def uo (cols:List Int) (uf:Int) (B:List aU) (m:Nat) (T:Int) (D:List ca) (k:Int) (t:bM):Bool:=decide (t.H<(D.length:Int))&&(match D[t.H.toNat]? with
 |some d=>lG k t d&&(t.L.all (mA B)&&(cL B uf t.Op t.Pc t.vg&&fg cols B m T t d))
 |none=>false)
def wJ (cols:List Int) (uf:Int) (B:List aU) (m:Nat) (T:Int) (D:List ca) (k p:Int) (t:bM):Bool:=Bc k t&&(((p !=-1)==pQ t.Op t.Pc)&&(if t.Op=0 then true else uo cols uf B m T D k t))
theorem acm:∀{l:List aL},sq l=true→∀r∈l,r.Kind=1∨r.Kind=2
 |[],_,r,hr=>by simp at hr
 |x::l,h,r,hr=>by
  simp only [sq] at h;split at h
  ·rename_i hx;rcases zB.1 hr with rfl|hr
   ·have:=hx.1;simp only [sn,zp,decide_eq_true_eq] at this;omega
   ·exact acm h r hr
  ·cases h
theorem ada {k:Int} {t:bM} (h:Bc k t=true):0≤t.H∧0≤t.I∧0≤t.J∧0≤t.vg∧(∀r∈t.L,r.Kind=1∨r.Kind=2)∧(t.Op=0→t.vg=0)∧(0≤t.Op∧t.Op≤4):=by
 simp only [Bc,oA,zp] at h;obtain ⟨⟨h1,h2⟩,h3⟩:=h;simp only [nj,decide_eq_true_eq] at h1;simp only [pV,wh,zp,decide_eq_true_eq] at h3;refine ⟨by omega,by omega,by omega,by omega,acm h2,fun e=>?_,by omega⟩;have h4:=h3.2;rw [if_pos e] at h4;simp only [pj,zp,decide_eq_true_eq] at h4;omega
theorem aju {Q:Out→Prop} (k0:Bool) (af:List Int) (ax aM:Int) (aG ak:Int) (aI aK:Int) (au:List aL) (ae:List aU) (aj:List Int) (aw:List cD) (aH:List Int) (aq:List bM) (az:List ca) (aW ay dO:Int) (bq:List ab) (bf bB:Int) (bD bC:Int) (bE bH bF:Int) (bw:ByteArray) (br:List an) (bA:Int) (bu:List Int) (bt bY:Int) (aF:List aL) (aR bm:Int) (bX bW aO:Int) (b_:Bool) (b9:List aA) (hl:aF.length≤1048576) (cT:ae.length≤1048576)
 (h1:aF.all (mA ae)=true→Q (.exit 0 ([(2,AV.bx 2 0,some (Rt.bx (cb k0 af ax aM aG ak aI aK au ae aj aw aH aq az))),(5,AV.bx 5 0,some (Rt.bx (kr k0 aW ay dO bq bf bB bD bC bE bH bF bw br bA bu bt bY aF aR bm bX bW aO b_ b9))),(70,AV.v k0 (D.sl 5 (aF.map aL.e)),none),(71,vn (aF.length:Nat),none),(72,vn (aF.length:Nat),none)]++[(73,AV.v false (.bool false),none)])))
 (h2:aF.all (mA ae)=false→Q (.ret [(4,AV.v false (.bool false),none)])):Wp (Gw TT) (.loop HX) Q ([(2,AV.bx 2 0,some (Rt.bx (cb k0 af ax aM aG ak aI aK au ae aj aw aH aq az))),(5,AV.bx 5 0,some (Rt.bx (kr k0 aW ay dO bq bf bB bD bC bE bH bF bw br bA bu bt bY aF aR bm bX bW aO b_ b9))),(70,AV.v k0 (D.sl 5 (aF.map aL.e)),none),(71,vn (aF.length:Nat),none),(72,vn 0,none)]):=by
 refine ba (σ:=List (aL)×List (aL)) (fun s=>[(2,AV.bx 2 0,some (Rt.bx (cb k0 af ax aM aG ak aI aK au ae aj aw aH aq az))),(5,AV.bx 5 0,some (Rt.bx (kr k0 aW ay dO bq bf bB bD bC bE bH bF bw br bA bu bt bY aF aR bm bX bW aO b_ b9))),(70,AV.v k0 (D.sl 5 (aF.map aL.e)),none),(71,vn (aF.length:Nat),none),(72,vn ((s.1.length:Nat):Int),none)]) (fun s=>aF=s.1++s.2∧aF.all (mA ae)=s.2.all (mA ae)) (fun s=>s.2.length) ([],aF) (by simp) ⟨rfl,rfl⟩ ?_;rintro ⟨pre,rest⟩ ⟨y1,y2⟩;simp only at y1 y2;have y3:aF.length=pre.length+rest.length:=by rw [y1,zb]
 rcases rest with _|⟨⟨bo,bz,bV,bj,aZ⟩,rest⟩
 ·simp only [zf] at y3;have c1:¬(pre.length:Int)<(aF.length:Int):=by omega
  have y5:(pre.length:Int)=(aF.length:Int):=by omega
  have h3:=h1 (by rw [y2];rfl);skip;unfold HX;refine Ud c1 ?_;repeat intro hc
  all_goals simpa [y5] using h3
 ·simp only [ze] at y3;simp only [zo] at y2;have hg:aF[pre.length]?=some ⟨bo,bz,bV,bj,aZ⟩:=by rw [y1];simp
  obtain ⟨ai,aB⟩:=za.1 hg;have eW:=zd hg;have c1:(pre.length:Int)<(aF.length:Int):=by omega
  have hw:=Wi ((pre.length:Int)+1);unfold HX;cases b1:jk ae bo bz bV aZ with
  |false=>
   have hx:(mA ae) ⟨bo,bz,bV,bj,aZ⟩=false:=b1;have h3:=h2 (by rw [y2,hx];rfl);refine Ud (J7 c1 hw ai aB hg b1 cT) ?_;repeat intro hc
   exact h3
  |true=>
   have hx:(mA ae) ⟨bo,bz,bV,bj,aZ⟩=true:=b1;refine Ud (J7 c1 hw ai aB hg b1 cT) ?_;repeat intro hc
   exact ⟨(pre++[⟨bo,bz,bV,bj,aZ⟩],rest),(by simp),⟨by rw [y1];simp,by rw [y2,hx];simp⟩,by simp⟩
theorem ajo {Q:Out→Prop} (k0:Bool) (af:List Int) (ax aM:Int) (aG ak:Int) (aI aK:Int) (au:List aL) (ae:List aU) (aj:List Int) (aw:List cD) (aH:List Int) (aq:List bM) (az:List ca) (aW ay dO:Int) (bq:List ab) (bf bB:Int) (bD bC:Int) (bE bH bF:Int) (bw:ByteArray) (br:List an) (bA:Int) (bu:List Int) (bt bY:Int) (aF:List aL) (aR bm:Int) (bX bW aO:Int) (b_:Bool) (b9:List aA) (k:Int) (hl:aF.length≤1048576) (cT:ae.length≤1048576)
 (h1:aF.all (mA ae)=true→Q (.exit 0 ([(1,vn k,none),(2,AV.bx 2 0,some (Rt.bx (cb k0 af ax aM aG ak aI aK au ae aj aw aH aq az))),(5,AV.bx 5 0,some (Rt.bx (kr k0 aW ay dO bq bf bB bD bC bE bH bF bw br bA bu bt bY aF aR bm bX bW aO b_ b9))),(6,vn (aF.length:Nat),none)]++[(47,AV.v false (.bool false),none)])))
 (h2:aF.all (mA ae)=false→Q (.ret [(4,AV.v false (.bool false),none)])):Wp (Gw TT) (.loop HQ) Q ([(1,vn k,none),(2,AV.bx 2 0,some (Rt.bx (cb k0 af ax aM aG ak aI aK au ae aj aw aH aq az))),(5,AV.bx 5 0,some (Rt.bx (kr k0 aW ay dO bq bf bB bD bC bE bH bF bw br bA bu bt bY aF aR bm bX bW aO b_ b9))),(6,vn 0,none)]):=by
 refine ba (σ:=List (aL)×List (aL)) (fun s=>[(1,vn k,none),(2,AV.bx 2 0,some (Rt.bx (cb k0 af ax aM aG ak aI aK au ae aj aw aH aq az))),(5,AV.bx 5 0,some (Rt.bx (kr k0 aW ay dO bq bf bB bD bC bE bH bF bw br bA bu bt bY aF aR bm bX bW aO b_ b9))),(6,vn ((s.1.length:Nat):Int),none)]) (fun s=>aF=s.1++s.2∧aF.all (mA ae)=s.2.all (mA ae)) (fun s=>s.2.length) ([],aF) (by simp) ⟨rfl,rfl⟩ ?_;rintro ⟨pre,rest⟩ ⟨y1,y2⟩;simp only at y1 y2;have y3:aF.length=pre.length+rest.length:=by rw [y1,zb]
 rcases rest with _|⟨⟨bo,bz,bV,bj,aZ⟩,rest⟩
 ·simp only [zf] at y3;have c1:¬(pre.length:Int)<(aF.length:Int):=by omega
  have y5:(pre.length:Int)=(aF.length:Int):=by omega
  have h3:=h1 (by rw [y2];rfl);skip;unfold HQ;refine Ud c1 ?_;repeat intro hc
  all_goals simpa [y5] using h3
 ·simp only [ze] at y3;simp only [zo] at y2;have hg:aF[pre.length]?=some ⟨bo,bz,bV,bj,aZ⟩:=by rw [y1];simp
  obtain ⟨ai,aB⟩:=za.1 hg;have eW:=zd hg;have c1:(pre.length:Int)<(aF.length:Int):=by omega
  have hw:=Wi ((pre.length:Int)+1);unfold HQ;cases b1:jk ae bo bz bV aZ with
  |false=>
   have hx:(mA ae) ⟨bo,bz,bV,bj,aZ⟩=false:=b1;have h3:=h2 (by rw [y2,hx];rfl);refine Ud (J7 c1 hw ai aB hg b1 cT) ?_;repeat intro hc
   exact h3
  |true=>
   have hx:(mA ae) ⟨bo,bz,bV,bj,aZ⟩=true:=b1;refine Ud (J7 c1 hw ai aB hg b1 cT) ?_;repeat intro hc
   exact ⟨(pre++[⟨bo,bz,bV,bj,aZ⟩],rest),(by simp),⟨by rw [y1];simp,by rw [y2,hx];simp⟩,by simp⟩
theorem amb (k:Nat) (aW ay dO:Int) (bq:List ab) (bf bB:Int) (bD bC:Int) (bE bH bF:Int) (bw:ByteArray) (br:List an) (bA:Int) (bu:List Int) (bt bY:Int) (aF:List aL) (aR bm:Int) (bX bW aO:Int) (b_:Bool) (b9:List aA) (aD:af.length≤1048576) (cT:ae.length≤1048576) (hs:aU.aJ ae) (hG:∀b∈ae,b.G.length≤1048576∧bI b.G) (qj:az.length≤1048576) (qm:ca.aJ az) (hk:aq[k]?=some ⟨aW,ay,dO,bq,bf,⟨bB,⟨bD,bC,bE,⟨bH,bF,bw⟩,br⟩,bA,bu⟩,bt,bY,aF,aR,bm,bX,bW,aO,b_,b9⟩) (hm:bM.sm ⟨aW,ay,dO,bq,bf,⟨bB,⟨bD,bC,bE,⟨bH,bF,bw⟩,br⟩,bA,bu⟩,bt,bY,aF,aR,bm,bX,bW,aO,b_,b9⟩) (p:Int) (hp:aH[k]?=some p):Gw TT 459 [.st (cb k0 af ax aM aG ak aI aK au ae aj aw aH aq az),vi (k:Int)]=some (vb (wJ af ax ae aj.length ak az (k:Int) p ⟨aW,ay,dO,bq,bf,⟨bB,⟨bD,bC,bE,⟨bH,bF,bw⟩,br⟩,bA,bu⟩,bt,bY,aF,aR,bm,bX,bW,aO,b_,b9⟩),[]):=by
 refine Ga jM O2 ?_;unfold O2;obtain ⟨jd,pG⟩:=za.1 hk;obtain ⟨cJ,ku⟩:=za.1 hp;simp only [bM.sm,ia.sm,an.iJ,ab.sm,and_assoc] at hm;obtain ⟨m1,m2,m3,m4,m5,m6,m7,m8,m9⟩:=hm;have t0:=ada (k:=(k:Int)) (t:=⟨aW,ay,dO,bq,bf,⟨bB,⟨bD,bC,bE,⟨bH,bF,bw⟩,br⟩,bA,bu⟩,bt,bY,aF,aR,bm,bX,bW,aO,b_,b9⟩);simp only [Bc] at t0;simp only [wJ,Bc];generalize hA:oA (nj (k:Int) ay dO bf bt bY aR bm bX bW aO aF.length) aF (pV (k:Int) aW bf (pj ay dO bq bf (qC bB bD bC bE bH bF bw br bA bu) bt bY aF aR bm bX bW aO b_ b9))=aa at t0 ⊢;cases aa with
 |false=>
  refine Ud (J8 m1 m2 m3 m4 m5 m6 m7 (J8 m8 m9 hk jd pG hp cJ (J3 ku cT hA))) ?_;repeat intro hc
  simp [jM]
 |true=>
 obtain ⟨u1,u2,u3,u4,u5,u6,u7⟩:=t0 rfl;by_cases hq:((p !=-1)==pQ aW ay)=true
 rotate_left
 ·have e2:pQ aW ay=!(p !=-1):=by revert hq;cases (p !=-1)<;>cases pQ aW ay<;>simp
  refine Ud (J8 m1 m2 m3 m4 m5 m6 m7 (J8 m8 m9 hk jd pG hp cJ (J4 ku cT hA e2))) ?_;repeat intro hc
  simp [jM,e2]
 have e2:pQ aW ay=(p !=-1):=by revert hq;cases (p !=-1)<;>cases pQ aW ay<;>simp
 rw [hq];by_cases o0:aW=0
 ·subst o0;have u8:=u6 rfl;skip;subst u8;have ho:cL ae ax 0 ay 0=true:=by simp [cL]
  refine Ud (J8 m1 m2 m3 m4 m5 m6 m7 (J8 m8 m9 hk jd pG hp cJ (J5 ku cT hA e2 ho))) ?_;repeat intro hc
  simp [jM]
 rw [if_neg o0];by_cases g:dO<(az.length:Int)
 rotate_left
 ·have hr:uo af ax ae aj.length ak az (k:Int) ⟨aW,ay,dO,bq,bf,⟨bB,⟨bD,bC,bE,⟨bH,bF,bw⟩,br⟩,bA,bu⟩,bt,bY,aF,aR,bm,bX,bW,aO,b_,b9⟩=false:=by simp only [uo,decide_eq_false g,zm]
  have g2:(az.length:Int)≤dO:=by omega
  refine Ud (J8 m1 m2 m3 m4 m5 m6 m7 (J8 m8 m9 hk jd pG hp cJ (J6 ku cT hA e2 o0 g2))) ?_;repeat intro hc
  simp [jM,hr]
 obtain ⟨n,rfl⟩:=zi u1;have dL:n<az.length:=by omega
 have g2:¬(az.length:Int)≤(n:Int):=by omega
 obtain ⟨⟨cQ,cS,cj,cp,⟨cx,⟨cz,cy,cA,⟨cC,cB,ct⟩,cg⟩,cw,cq⟩,⟨de,dc,db,⟨dj,dg,dh⟩⟩,cZ,dm,c9,c_,cR⟩,hd⟩:∃s,az[n]?=some s:=⟨_,zg dL⟩;have eo:=(za.1 hd).2;have eW:=qm _ (zd hd);simp only [ca.sm,ia.sm,an.iJ,ab.sm,and_assoc] at eW;obtain ⟨Fw,_,JC,JD,JE,JF,_⟩:=eW;have lF:uo af ax ae aj.length ak az (k:Int) ⟨aW,ay,((n:Nat):Int),bq,bf,⟨bB,⟨bD,bC,bE,⟨bH,bF,bw⟩,br⟩,bA,bu⟩,bt,bY,aF,aR,bm,bX,bW,aO,b_,b9⟩=(lG (k:Int) ⟨aW,ay,((n:Nat):Int),bq,bf,⟨bB,⟨bD,bC,bE,⟨bH,bF,bw⟩,br⟩,bA,bu⟩,bt,bY,aF,aR,bm,bX,bW,aO,b_,b9⟩ ⟨cQ,cS,cj,cp,⟨cx,⟨cz,cy,cA,⟨cC,cB,ct⟩,cg⟩,cw,cq⟩,⟨de,dc,db,⟨dj,dg,dh⟩⟩,cZ,dm,c9,c_,cR⟩&&(aF.all (mA ae)&&(cL ae ax aW ay aO&&fg af ae aj.length ak ⟨aW,ay,((n:Nat):Int),bq,bf,⟨bB,⟨bD,bC,bE,⟨bH,bF,bw⟩,br⟩,bA,bu⟩,bt,bY,aF,aR,bm,bX,bW,aO,b_,b9⟩ ⟨cQ,cS,cj,cp,⟨cx,⟨cz,cy,cA,⟨cC,cB,ct⟩,cg⟩,cw,cq⟩,⟨de,dc,db,⟨dj,dg,dh⟩⟩,cZ,dm,c9,c_,cR⟩))):=by simp only [uo,decide_eq_true g,zh,Int.toNat_natCast,hd]
 rw [lF];by_cases w1:cS=(k:Int)
 rotate_left
 ·have hr:(lG (k:Int) ⟨aW,ay,((n:Nat):Int),bq,bf,⟨bB,⟨bD,bC,bE,⟨bH,bF,bw⟩,br⟩,bA,bu⟩,bt,bY,aF,aR,bm,bX,bW,aO,b_,b9⟩ ⟨cQ,cS,cj,cp,⟨cx,⟨cz,cy,cA,⟨cC,cB,ct⟩,cg⟩,cw,cq⟩,⟨de,dc,db,⟨dj,dg,dh⟩⟩,cZ,dm,c9,c_,cR⟩&&(aF.all (mA ae)&&(cL ae ax aW ay aO&&fg af ae aj.length ak ⟨aW,ay,((n:Nat):Int),bq,bf,⟨bB,⟨bD,bC,bE,⟨bH,bF,bw⟩,br⟩,bA,bu⟩,bt,bY,aF,aR,bm,bX,bW,aO,b_,b9⟩ ⟨cQ,cS,cj,cp,⟨cx,⟨cz,cy,cA,⟨cC,cB,ct⟩,cg⟩,cw,cq⟩,⟨de,dc,db,⟨dj,dg,dh⟩⟩,cZ,dm,c9,c_,cR⟩)))=false:=by simp [lG,w1]
  refine Ud (J8 m1 m2 m3 m4 m5 m6 m7 (J8 m8 m9 hk jd pG hp cJ (J8 ku cT hA e2 o0 g2 hd (J3 dL eo w1)))) ?_;repeat intro hc
  simp [jM,hr]
 by_cases w2:cQ=aW
 rotate_left
 ·have hr:(lG (k:Int) ⟨aW,ay,((n:Nat):Int),bq,bf,⟨bB,⟨bD,bC,bE,⟨bH,bF,bw⟩,br⟩,bA,bu⟩,bt,bY,aF,aR,bm,bX,bW,aO,b_,b9⟩ ⟨cQ,cS,cj,cp,⟨cx,⟨cz,cy,cA,⟨cC,cB,ct⟩,cg⟩,cw,cq⟩,⟨de,dc,db,⟨dj,dg,dh⟩⟩,cZ,dm,c9,c_,cR⟩&&(aF.all (mA ae)&&(cL ae ax aW ay aO&&fg af ae aj.length ak ⟨aW,ay,((n:Nat):Int),bq,bf,⟨bB,⟨bD,bC,bE,⟨bH,bF,bw⟩,br⟩,bA,bu⟩,bt,bY,aF,aR,bm,bX,bW,aO,b_,b9⟩ ⟨cQ,cS,cj,cp,⟨cx,⟨cz,cy,cA,⟨cC,cB,ct⟩,cg⟩,cw,cq⟩,⟨de,dc,db,⟨dj,dg,dh⟩⟩,cZ,dm,c9,c_,cR⟩)))=false:=by simp [lG,w2]
  refine Ud (J8 m1 m2 m3 m4 m5 m6 m7 (J8 m8 m9 hk jd pG hp cJ (J8 ku cT hA e2 o0 g2 hd (J4 dL eo (eq_true w1) w2)))) ?_;repeat intro hc
  simp [jM,hr]
 by_cases w3:cR=-1
 rotate_left
 ·have hr:(lG (k:Int) ⟨aW,ay,((n:Nat):Int),bq,bf,⟨bB,⟨bD,bC,bE,⟨bH,bF,bw⟩,br⟩,bA,bu⟩,bt,bY,aF,aR,bm,bX,bW,aO,b_,b9⟩ ⟨cQ,cS,cj,cp,⟨cx,⟨cz,cy,cA,⟨cC,cB,ct⟩,cg⟩,cw,cq⟩,⟨de,dc,db,⟨dj,dg,dh⟩⟩,cZ,dm,c9,c_,cR⟩&&(aF.all (mA ae)&&(cL ae ax aW ay aO&&fg af ae aj.length ak ⟨aW,ay,((n:Nat):Int),bq,bf,⟨bB,⟨bD,bC,bE,⟨bH,bF,bw⟩,br⟩,bA,bu⟩,bt,bY,aF,aR,bm,bX,bW,aO,b_,b9⟩ ⟨cQ,cS,cj,cp,⟨cx,⟨cz,cy,cA,⟨cC,cB,ct⟩,cg⟩,cw,cq⟩,⟨de,dc,db,⟨dj,dg,dh⟩⟩,cZ,dm,c9,c_,cR⟩)))=false:=by simp [lG,w3]
  refine Ud (J8 m1 m2 m3 m4 m5 m6 m7 (J8 m8 m9 hk jd pG hp cJ (J8 ku cT hA e2 o0 g2 hd (J5 dL eo (eq_true w1) (eq_true w2) w3)))) ?_;repeat intro hc
  simp [jM,hr]
 have KU:lG (k:Int) ⟨aW,ay,((n:Nat):Int),bq,bf,⟨bB,⟨bD,bC,bE,⟨bH,bF,bw⟩,br⟩,bA,bu⟩,bt,bY,aF,aR,bm,bX,bW,aO,b_,b9⟩ ⟨cQ,cS,cj,cp,⟨cx,⟨cz,cy,cA,⟨cC,cB,ct⟩,cg⟩,cw,cq⟩,⟨de,dc,db,⟨dj,dg,dh⟩⟩,cZ,dm,c9,c_,cR⟩=true:=by simp [lG,w1,w2,w3]
 refine Ud (J8 m1 m2 m3 m4 m5 m6 m7 (J8 m8 m9 hk jd pG hp cJ (J8 ku cT hA e2 o0 g2 hd (J5 dL eo (eq_true w1) (eq_true w2) (eq_true w3))))) ?_;repeat intro hc
 refine aju k0 af ax aM aG ak aI aK au ae aj aw aH aq az aW ay _ bq bf bB bD bC bE bH bF bw br bA bu bt bY aF aR bm bX bW aO b_ b9 m7 cT (fun e=>?_) (fun e=>?_)
 rotate_left
 ·have hr:(lG (k:Int) ⟨aW,ay,((n:Nat):Int),bq,bf,⟨bB,⟨bD,bC,bE,⟨bH,bF,bw⟩,br⟩,bA,bu⟩,bt,bY,aF,aR,bm,bX,bW,aO,b_,b9⟩ ⟨cQ,cS,cj,cp,⟨cx,⟨cz,cy,cA,⟨cC,cB,ct⟩,cg⟩,cw,cq⟩,⟨de,dc,db,⟨dj,dg,dh⟩⟩,cZ,dm,c9,c_,cR⟩&&(aF.all (mA ae)&&(cL ae ax aW ay aO&&fg af ae aj.length ak ⟨aW,ay,((n:Nat):Int),bq,bf,⟨bB,⟨bD,bC,bE,⟨bH,bF,bw⟩,br⟩,bA,bu⟩,bt,bY,aF,aR,bm,bX,bW,aO,b_,b9⟩ ⟨cQ,cS,cj,cp,⟨cx,⟨cz,cy,cA,⟨cC,cB,ct⟩,cg⟩,cw,cq⟩,⟨de,dc,db,⟨dj,dg,dh⟩⟩,cZ,dm,c9,c_,cR⟩)))=false:=by rw [e,zm,zk]
  refine Ud Oo ?_;simp [jM,hr]
 have qp:∀r∈aF,jk ae r.dW r.fW r.Kind r.ek=true:=fun r hr=>List.all_eq_true.1 e r hr
 rw [KU,e,zh,zh];by_cases z:aW=1
 ·by_cases z8:ay=8
  ·skip;by_cases q:1≤aO∧aO≤(ae.length:Int)
   rotate_left
   ·have qu:rq ae aO 1=false:=by
     unfold rq;by_cases h0:1≤aO
     ·rw [zj (by omega)];simp
     ·simp [h0]
    have iE:cL ae ax aW ay aO=false:=by
     simp only [cL];rw [if_pos (zN ⟨z,z8⟩)];by_cases h0:1≤aO
     ·rw [zj (by omega)];simp
     ·simp [h0]
    have hr:(cL ae ax aW ay aO&&fg af ae aj.length ak ⟨aW,ay,((n:Nat):Int),bq,bf,⟨bB,⟨bD,bC,bE,⟨bH,bF,bw⟩,br⟩,bA,bu⟩,bt,bY,aF,aR,bm,bX,bW,aO,b_,b9⟩ ⟨cQ,cS,cj,cp,⟨cx,⟨cz,cy,cA,⟨cC,cB,ct⟩,cg⟩,cw,cq⟩,⟨de,dc,db,⟨dj,dg,dh⟩⟩,cZ,dm,c9,c_,cR⟩)=false:=by rw [iE];try rfl
    refine Ud (J4 (eq_true z) (eq_true z8) cT qu) ?_;repeat intro hc
    simp [jM,hr]
   obtain ⟨mo,⟨bg,bk,⟨bn,bL⟩,bG⟩,KV,nW,hb,cW⟩:=CH q.1 q.2;have iW:=(za.1 hb).2;have Mm:IntKind.wrap .i64 (aO-1)=(mo:Int):=by rw [KV];exact wrap_i64 (by omega) (by omega)
   have qu:rq ae aO 1=decide (bk=1):=by simp only [rq,cW,decide_eq_true q.1,zh]
   by_cases qk:bk=1
   rotate_left
   ·have iE:cL ae ax aW ay aO=false:=by
     simp only [cL];rw [if_pos (zN ⟨z,z8⟩),cW];simp [z,qk]
    have hr:(cL ae ax aW ay aO&&fg af ae aj.length ak ⟨aW,ay,((n:Nat):Int),bq,bf,⟨bB,⟨bD,bC,bE,⟨bH,bF,bw⟩,br⟩,bA,bu⟩,bt,bY,aF,aR,bm,bX,bW,aO,b_,b9⟩ ⟨cQ,cS,cj,cp,⟨cx,⟨cz,cy,cA,⟨cC,cB,ct⟩,cg⟩,cw,cq⟩,⟨de,dc,db,⟨dj,dg,dh⟩⟩,cZ,dm,c9,c_,cR⟩)=false:=by rw [iE];try rfl
    rw [decide_eq_false qk] at qu;refine Ud (J4 (eq_true z) (eq_true z8) cT qu) ?_;repeat intro hc
    simp [jM,hr]
   rw [decide_eq_true qk] at qu;by_cases ql:(bL.length:Int)=ax
   rotate_left
   ·have iE:cL ae ax aW ay aO=false:=by
     simp only [cL];rw [if_pos (zN ⟨z,z8⟩),cW];simp [z,ql]
    have hr:(cL ae ax aW ay aO&&fg af ae aj.length ak ⟨aW,ay,((n:Nat):Int),bq,bf,⟨bB,⟨bD,bC,bE,⟨bH,bF,bw⟩,br⟩,bA,bu⟩,bt,bY,aF,aR,bm,bX,bW,aO,b_,b9⟩ ⟨cQ,cS,cj,cp,⟨cx,⟨cz,cy,cA,⟨cC,cB,ct⟩,cg⟩,cw,cq⟩,⟨de,dc,db,⟨dj,dg,dh⟩⟩,cZ,dm,c9,c_,cR⟩)=false:=by rw [iE];try rfl
    refine Ud (J8 (eq_true z) (eq_true z8) cT qu Mm nW hb (J2 iW ql)) ?_;repeat intro hc
    simp [jM,hr]
   have iE:cL ae ax aW ay aO=true:=by
    simp only [cL];rw [if_pos (zN ⟨z,z8⟩),cW];simp [z,qk,ql,q.1]
   have hr:(cL ae ax aW ay aO&&fg af ae aj.length ak ⟨aW,ay,((n:Nat):Int),bq,bf,⟨bB,⟨bD,bC,bE,⟨bH,bF,bw⟩,br⟩,bA,bu⟩,bt,bY,aF,aR,bm,bX,bW,aO,b_,b9⟩ ⟨cQ,cS,cj,cp,⟨cx,⟨cz,cy,cA,⟨cC,cB,ct⟩,cg⟩,cw,cq⟩,⟨de,dc,db,⟨dj,dg,dh⟩⟩,cZ,dm,c9,c_,cR⟩)=fV af bq cj ay aF aR:=by rw [iE];simp [fg,z]
   have gb:=fun k0:Bool=>ac0 k0 af ax aM aG ak aI aK au ae aj aw aH aq az aW ay n bq bf bB bD bC bE bH bF bw br bA bu bt bY aF aR bm bX bW aO b_ b9 cQ cS cj cp cx cz cy cA cC cB ct cg cw cq de dc db dj dg dh cZ dm c9 c_ cR aD m1 m2 m7 hd Fw qp u2
   refine Ud (J8 (eq_true z) (eq_true z8) cT qu Mm nW hb (J3 iW (eq_true ql) gb)) ?_;repeat intro hc
   simp [jM,hr]
  ·skip;by_cases qo:aO=0
   rotate_left
   ·have iE:cL ae ax aW ay aO=false:=by unfold cL;rw [if_neg (by omega)];exact decide_eq_false qo
    have hr:(cL ae ax aW ay aO&&fg af ae aj.length ak ⟨aW,ay,((n:Nat):Int),bq,bf,⟨bB,⟨bD,bC,bE,⟨bH,bF,bw⟩,br⟩,bA,bu⟩,bt,bY,aF,aR,bm,bX,bW,aO,b_,b9⟩ ⟨cQ,cS,cj,cp,⟨cx,⟨cz,cy,cA,⟨cC,cB,ct⟩,cg⟩,cw,cq⟩,⟨de,dc,db,⟨dj,dg,dh⟩⟩,cZ,dm,c9,c_,cR⟩)=false:=by rw [iE];try rfl
    refine Ud (J3 (eq_true z) z8 qo) ?_;repeat intro hc
    simp [jM,hr]
   have iE:cL ae ax aW ay aO=true:=by unfold cL;rw [if_neg (by omega)];exact decide_eq_true qo
   have hr:(cL ae ax aW ay aO&&fg af ae aj.length ak ⟨aW,ay,((n:Nat):Int),bq,bf,⟨bB,⟨bD,bC,bE,⟨bH,bF,bw⟩,br⟩,bA,bu⟩,bt,bY,aF,aR,bm,bX,bW,aO,b_,b9⟩ ⟨cQ,cS,cj,cp,⟨cx,⟨cz,cy,cA,⟨cC,cB,ct⟩,cg⟩,cw,cq⟩,⟨de,dc,db,⟨dj,dg,dh⟩⟩,cZ,dm,c9,c_,cR⟩)=fV af bq cj ay aF aR:=by rw [iE];simp [fg,z]
   have gb:=fun k0:Bool=>ac0 k0 af ax aM aG ak aI aK au ae aj aw aH aq az aW ay n bq bf bB bD bC bE bH bF bw br bA bu bt bY aF aR bm bX bW aO b_ b9 cQ cS cj cp cx cz cy cA cC cB ct cg cw cq de dc db dj dg dh cZ dm c9 c_ cR aD m1 m2 m7 hd Fw qp u2
   refine Ud (J4 (eq_true z) z8 (eq_true qo) gb) ?_;repeat intro hc
   simp [jM,hr]
 by_cases z:aW=2
 ·skip;by_cases qo:aO=0
  rotate_left
  ·have iE:cL ae ax aW ay aO=false:=by unfold cL;rw [if_neg (by omega)];exact decide_eq_false qo
   have hr:(cL ae ax aW ay aO&&fg af ae aj.length ak ⟨aW,ay,((n:Nat):Int),bq,bf,⟨bB,⟨bD,bC,bE,⟨bH,bF,bw⟩,br⟩,bA,bu⟩,bt,bY,aF,aR,bm,bX,bW,aO,b_,b9⟩ ⟨cQ,cS,cj,cp,⟨cx,⟨cz,cy,cA,⟨cC,cB,ct⟩,cg⟩,cw,cq⟩,⟨de,dc,db,⟨dj,dg,dh⟩⟩,cZ,dm,c9,c_,cR⟩)=false:=by rw [iE];try rfl
   refine Ud (J2 (eq_true z) qo) ?_;repeat intro hc
   simp [jM,hr]
  have iE:cL ae ax aW ay aO=true:=by unfold cL;rw [if_neg (by omega)];exact decide_eq_true qo
  have hr:(cL ae ax aW ay aO&&fg af ae aj.length ak ⟨aW,ay,((n:Nat):Int),bq,bf,⟨bB,⟨bD,bC,bE,⟨bH,bF,bw⟩,br⟩,bA,bu⟩,bt,bY,aF,aR,bm,bX,bW,aO,b_,b9⟩ ⟨cQ,cS,cj,cp,⟨cx,⟨cz,cy,cA,⟨cC,cB,ct⟩,cg⟩,cw,cq⟩,⟨de,dc,db,⟨dj,dg,dh⟩⟩,cZ,dm,c9,c_,cR⟩)=fX bf cp ay aF aj.length:=by rw [iE];simp [fg,z]
  have gb:=fun k0:Bool=>amg k0 af ax aM aG ak aI aK au ae aj aw aH aq az aW ay n bq bf bB bD bC bE bH bF bw br bA bu bt bY aF aR bm bX bW aO b_ b9 cQ cS cj cp cx cz cy cA cC cB ct cg cw cq de dc db dj dg dh cZ dm c9 c_ cR m7 hd
  refine Ud (J3 (eq_true z) (eq_true qo) gb) ?_;repeat intro hc
  simp [jM,hr]
 by_cases z:aW=3
 ·skip;by_cases qo:aO=0
  rotate_left
  ·have iE:cL ae ax aW ay aO=false:=by unfold cL;rw [if_neg (by omega)];exact decide_eq_false qo
   have hr:(cL ae ax aW ay aO&&fg af ae aj.length ak ⟨aW,ay,((n:Nat):Int),bq,bf,⟨bB,⟨bD,bC,bE,⟨bH,bF,bw⟩,br⟩,bA,bu⟩,bt,bY,aF,aR,bm,bX,bW,aO,b_,b9⟩ ⟨cQ,cS,cj,cp,⟨cx,⟨cz,cy,cA,⟨cC,cB,ct⟩,cg⟩,cw,cq⟩,⟨de,dc,db,⟨dj,dg,dh⟩⟩,cZ,dm,c9,c_,cR⟩)=false:=by rw [iE];try rfl
   refine Ud (J2 (eq_true z) qo) ?_;repeat intro hc
   simp [jM,hr]
  have iE:cL ae ax aW ay aO=true:=by unfold cL;rw [if_neg (by omega)];exact decide_eq_true qo
  have hr:(cL ae ax aW ay aO&&fg af ae aj.length ak ⟨aW,ay,((n:Nat):Int),bq,bf,⟨bB,⟨bD,bC,bE,⟨bH,bF,bw⟩,br⟩,bA,bu⟩,bt,bY,aF,aR,bm,bX,bW,aO,b_,b9⟩ ⟨cQ,cS,cj,cp,⟨cx,⟨cz,cy,cA,⟨cC,cB,ct⟩,cg⟩,cw,cq⟩,⟨de,dc,db,⟨dj,dg,dh⟩⟩,cZ,dm,c9,c_,cR⟩)=gh af ae aj.length ak ⟨bB,⟨bD,bC,bE,⟨bH,bF,bw⟩,br⟩,bA,bu⟩ ⟨cx,⟨cz,cy,cA,⟨cC,cB,ct⟩,cg⟩,cw,cq⟩ bt ay aF aR bm:=by rw [iE];simp [fg,z]
  have gb:=fun k0:Bool=>amh k0 af ax aM aG ak aI aK au ae aj aw aH aq az aW ay n bq bf bB bD bC bE bH bF bw br bA bu bt bY aF aR bm bX bW aO b_ b9 cQ cS cj cp cx cz cy cA cC cB ct cg cw cq de dc db dj dg dh cZ dm c9 c_ cR aD cT hs hG m3 m4 m5 m6 JC JD JE JF m7 qp u5 u2 u3 hd
  refine Ud (J3 (eq_true z) (eq_true qo) gb) ?_;repeat intro hc
  simp [jM,hr]
 have z:aW=4:=by omega
 by_cases z8:4≤ay∧ay≤5
 ·skip;by_cases q:1≤aO∧aO≤(ae.length:Int)
  rotate_left
  ·have qu:rq ae aO 2=false:=by
    unfold rq;by_cases h0:1≤aO
    ·rw [zj (by omega)];simp
    ·simp [h0]
   have iE:cL ae ax aW ay aO=false:=by
    simp only [cL];rw [if_pos (Or.inr ⟨z,z8⟩)];by_cases h0:1≤aO
    ·rw [zj (by omega)];simp
    ·simp [h0]
   have hr:(cL ae ax aW ay aO&&fg af ae aj.length ak ⟨aW,ay,((n:Nat):Int),bq,bf,⟨bB,⟨bD,bC,bE,⟨bH,bF,bw⟩,br⟩,bA,bu⟩,bt,bY,aF,aR,bm,bX,bW,aO,b_,b9⟩ ⟨cQ,cS,cj,cp,⟨cx,⟨cz,cy,cA,⟨cC,cB,ct⟩,cg⟩,cw,cq⟩,⟨de,dc,db,⟨dj,dg,dh⟩⟩,cZ,dm,c9,c_,cR⟩)=false:=by rw [iE];try rfl
   refine Ud (J5 (eq_true z) z8.1 z8.2 cT qu) ?_ ?_;all_goals repeat intro hc
   all_goals simp [jM,hr]
  obtain ⟨mo,⟨bg,bk,⟨bn,bL⟩,bG⟩,KV,nW,hb,cW⟩:=CH q.1 q.2;have iW:=(za.1 hb).2;have Mm:IntKind.wrap .i64 (aO-1)=(mo:Int):=by rw [KV];exact wrap_i64 (by omega) (by omega)
  have qu:rq ae aO 2=decide (bk=2):=by simp only [rq,cW,decide_eq_true q.1,zh]
  by_cases qk:bk=2
  rotate_left
  ·have iE:cL ae ax aW ay aO=false:=by
    simp only [cL];rw [if_pos (Or.inr ⟨z,z8⟩),cW];simp [z,qk]
   have hr:(cL ae ax aW ay aO&&fg af ae aj.length ak ⟨aW,ay,((n:Nat):Int),bq,bf,⟨bB,⟨bD,bC,bE,⟨bH,bF,bw⟩,br⟩,bA,bu⟩,bt,bY,aF,aR,bm,bX,bW,aO,b_,b9⟩ ⟨cQ,cS,cj,cp,⟨cx,⟨cz,cy,cA,⟨cC,cB,ct⟩,cg⟩,cw,cq⟩,⟨de,dc,db,⟨dj,dg,dh⟩⟩,cZ,dm,c9,c_,cR⟩)=false:=by rw [iE];try rfl
   rw [decide_eq_false qk] at qu;refine Ud (J5 (eq_true z) z8.1 z8.2 cT qu) ?_ ?_;all_goals repeat intro hc
   all_goals simp [jM,hr]
  rw [decide_eq_true qk] at qu
  have iE:cL ae ax aW ay aO=true:=by
   simp only [cL];rw [if_pos (Or.inr ⟨z,z8⟩),cW];simp [z,qk,q.1]
  have hr:(cL ae ax aW ay aO&&fg af ae aj.length ak ⟨aW,ay,((n:Nat):Int),bq,bf,⟨bB,⟨bD,bC,bE,⟨bH,bF,bw⟩,br⟩,bA,bu⟩,bt,bY,aF,aR,bm,bX,bW,aO,b_,b9⟩ ⟨cQ,cS,cj,cp,⟨cx,⟨cz,cy,cA,⟨cC,cB,ct⟩,cg⟩,cw,cq⟩,⟨de,dc,db,⟨dj,dg,dh⟩⟩,cZ,dm,c9,c_,cR⟩)=(decide (1≤(aF.length:Int))&&decide ((aF.length:Int)≤2)):=by
   rw [iE];simp only [fg,z];simp [show 2≤ay∧ay≤5 by omega]
  refine Ud (J5 (eq_true z) z8.1 z8.2 cT qu) ?_ ?_;all_goals repeat intro hc
  all_goals simp [jM,hr]
 ·by_cases qo:aO=0
  rotate_left
  ·have iE:cL ae ax aW ay aO=false:=by unfold cL;rw [if_neg (by omega)];exact decide_eq_false qo
   have hr:(cL ae ax aW ay aO&&fg af ae aj.length ak ⟨aW,ay,((n:Nat):Int),bq,bf,⟨bB,⟨bD,bC,bE,⟨bH,bF,bw⟩,br⟩,bA,bu⟩,bt,bY,aF,aR,bm,bX,bW,aO,b_,b9⟩ ⟨cQ,cS,cj,cp,⟨cx,⟨cz,cy,cA,⟨cC,cB,ct⟩,cg⟩,cw,cq⟩,⟨de,dc,db,⟨dj,dg,dh⟩⟩,cZ,dm,c9,c_,cR⟩)=false:=by rw [iE];try rfl
   refine Ud (J3 (eq_true z) z8 qo) ?_;repeat intro hc
   simp [jM,hr]
  have iE:cL ae ax aW ay aO=true:=by unfold cL;rw [if_neg (by omega)];exact decide_eq_true qo
  by_cases z5:2≤ay∧ay≤5
  ·have hr:(cL ae ax aW ay aO&&fg af ae aj.length ak ⟨aW,ay,((n:Nat):Int),bq,bf,⟨bB,⟨bD,bC,bE,⟨bH,bF,bw⟩,br⟩,bA,bu⟩,bt,bY,aF,aR,bm,bX,bW,aO,b_,b9⟩ ⟨cQ,cS,cj,cp,⟨cx,⟨cz,cy,cA,⟨cC,cB,ct⟩,cg⟩,cw,cq⟩,⟨de,dc,db,⟨dj,dg,dh⟩⟩,cZ,dm,c9,c_,cR⟩)=(decide (1≤(aF.length:Int))&&decide ((aF.length:Int)≤2)):=by
    rw [iE];simp only [fg,z];simp [z5]
   refine Ud (J5 (eq_true z) z8 (eq_true qo) z5.1 z5.2) ?_;repeat intro hc
   simp [jM,hr]
  ·have hr:(cL ae ax aW ay aO&&fg af ae aj.length ak ⟨aW,ay,((n:Nat):Int),bq,bf,⟨bB,⟨bD,bC,bE,⟨bH,bF,bw⟩,br⟩,bA,bu⟩,bt,bY,aF,aR,bm,bX,bW,aO,b_,b9⟩ ⟨cQ,cS,cj,cp,⟨cx,⟨cz,cy,cA,⟨cC,cB,ct⟩,cg⟩,cw,cq⟩,⟨de,dc,db,⟨dj,dg,dh⟩⟩,cZ,dm,c9,c_,cR⟩)=true:=by
    rw [iE];simp only [fg,z];simp [z5]
   refine Ud (J4 (eq_true z) z8 (eq_true qo) z5) ?_;repeat intro hc
   simp [jM,hr]
end Go.Proofs.YtohlfelngklcfaaGreat.OM
