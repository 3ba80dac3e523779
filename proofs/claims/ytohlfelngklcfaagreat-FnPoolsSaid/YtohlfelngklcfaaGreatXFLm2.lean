/- A part of the proof. -/
import Derived.Test.YtohlfelngklcfaaGreatXFLm1
set_option linter.all false
namespace Go.Proofs.YtohlfelngklcfaaGreat.OM
open Decidable renaming not_not→za
open List renaming getElem?_eq_some_iff→zb,length_append→zd,length_cons→ze,length_nil→zf,length_eq_zero_iff→zg,append_nil→zi,mem_of_getElem?→zj,getElem?_eq_getElem→zk,map_nil→zn,mem_append→zp,getElem?_append_left→zq,map→zt,length_map→zu,mem_map→zx,flatMap_nil→zz,length_drop→zA,length_take→zB,nil_append→zC,mem_cons→zD,map_drop→zF,map_take→zG
open Classical renaming choose_spec→zh,choose→zo
open Int renaming eq_ofNat_of_zero_le→zm,toNat_of_nonneg→zw
open Bool renaming and_eq_true→zr
open Nat renaming zero_add→zy
open Eq renaming trans→zH
set_option maxHeartbeats 4000000
set_option maxRecDepth 100000
variable (x:Nat) (k0:Bool) (s:ByteArray) (kind:Int) (k1:Bool) (slots:Int) (ab:List Int) (d:List aa) (bC:Int) (b:List Int) (mc:Int) (bh:List aj) (n u w cy gI i ty cx fD:Int) (v:List aa) (k:Int) (bt:ByteArray) (ep:List aj) (l:List aa) (mf:Int) (du:List Int) (me:Int) (od:ByteArray)
@[simp] theorem Wy (l:List ao) (h:ab.length≤1048576) (h2:l.length≤1048576) (hs:ao.aq l):Gw TT 497 [.one (.ro k0 (.sl 1 (ab.map ei))),.one (.ro k1 (.sl 2 (l.map ao.e)))]=some (vb (eo ab l),[]):=by
 refine Ga qs Fx ?_;unfold Fx;cases dF:gp ab with
 |false=>
  have hf:eo ab l=false:=by simp [eo,dF]
  refine Ud (J3 h dF hf) ?_;simp [qs,hf]
 |true=>
 by_cases hm:12<l.length
 ·have hf:eo ab l=false:=by simp [eo];intro _ _;omega
  have iC:(12:Int)<(l.length:Int):=by omega
  refine Ud (J4 h dF hf iC) ?_;simp [qs,hf]
 have iC:¬(12:Int)<(l.length:Int):=by omega
 have br:eo ab l=kq ab none l:=by
  simp only [eo,dF];simp;intro _;omega
 refine Ud (J3 h dF iC) ?_;refine ba (σ:=List ao×List ao) (fun s=>[(0,AV.v k0 (D.sl 1 (ab.map ei)),none),(1,AV.v k1 (D.sl 2 (l.map ao.e)),none),(15,AV.v k1 (D.sl 2 (l.map ao.e)),none),(16,AV.v false (di (l.length:Nat)),none),(17,AV.v false (di ((s.1.length:Nat):Int)),none)]) (fun s=>l=s.1++s.2∧kq ab none l=kq ab (tm s.1) s.2) (fun s=>s.2.length) ([],l) (by simp) ⟨rfl,rfl⟩ ?_;rintro ⟨pre,rest⟩ ⟨y1,y2⟩;simp only at y1 y2;have y3:l.length=pre.length+rest.length:=by rw [y1,zd]
 rcases rest with _|⟨⟨dg,b9⟩,rest⟩
 ·simp only [zf] at y3;have c1:¬(pre.length:Int)<(l.length:Int):=by omega
  unfold Ip;have hf:eo ab l=true:=by rw [br,y2];try rfl
  refine Ud (J2 c1 hf) ?_;simp [qs,hf]
 ·simp only [ze] at y3;have hg:l[pre.length]?=some ⟨dg,b9⟩:=by rw [y1];simp
  have dL:=hs ⟨dg,b9⟩ (zj hg);simp only [ao.sm] at dL;obtain ⟨mT,mU⟩:=dL;obtain ⟨ae,au⟩:=zb.1 hg;have c1:(pre.length:Int)<(l.length:Int):=by omega
  have hw:=Wi ((pre.length:Int)+1);unfold Ip;cases gb:l8 ab ⟨dg,b9⟩ with
  |false=>
   rw [tY (by rw [gb];simp)] at y2;have hf:eo ab l=false:=by rw [br];exact y2
   refine Ud (J8 hg au ae c1 hw h mT (J3 mU gb hf)) ?_;simp [qs,hf]
  |true=>
   by_cases mG:1000000000<dg
   ·rw [tY (by simp only;omega)] at y2;have hf:eo ab l=false:=by rw [br];exact y2
    refine Ud (J8 hg au ae c1 hw h mT (J4 mU gb mG hf)) ?_;simp [qs,hf]
   ·by_cases ry:pre.length=0
    ·have j9:pre=[]:=zg.1 ry;rw [Bc ⟨gb,by simp only;omega,by rw [j9];rfl⟩] at y2;subst j9;simp only [zf] at hg ae au;have c1:(0:Int)<(l.length:Int):=by omega
     have w1:IntKind.wrap .i64 1=1:=wrap_i64 (by omega) (by omega);refine Ud (J8 hg au ae c1 w1 h mT (J3 mU gb mG)) ?_;exact ⟨([]++[⟨dg,b9⟩],rest),(by simp;try omega),⟨by rw [y1];simp,by rw [y2,yb]⟩,by simp⟩
    ·obtain ⟨m,mO⟩:∃m,pre.length=m+1:=⟨pre.length-1,by omega⟩;obtain ⟨⟨pG,JG⟩,hz⟩:∃z,pre[m]?=some z:=⟨_,zk (by omega)⟩;have kO:l[m]?=some ⟨pG,JG⟩:=by rw [y1,zq (by omega)];exact hz
     obtain ⟨iW,vw⟩:=zb.1 kO;have qi:=Nv mO hz dg;have q1:((m:Int)+1)-1=(m:Int):=by omega
     have q2:(0:Int)<(pre.length:Int):=by omega
     have q3:IntKind.wrap .i64 ((pre.length:Int)-1)=(m:Int):=by rw [mO];rw [show (((m+1:Nat):Int)-1)=(m:Int) by omega];exact wrap_i64 (by omega) (by omega)
     by_cases gA:pG<dg
     ·rw [Bc ⟨gb,by simp only;omega,by rw [qi];simpa using gA⟩] at y2;have q4:¬dg≤pG:=by omega
      refine Ud (J8 hg au ae c1 hw h mT (J8 mU gb mG q2 q3 kO vw (J2 iW q4))) ?_;repeat intro hc
      exact ⟨(pre++[⟨dg,b9⟩],rest),(by simp;try omega),⟨by rw [y1];simp,by rw [y2,yb]⟩,by simp⟩
     ·rw [tY (by rw [qi];simp;intro _ _;omega)] at y2;have q4:dg≤pG:=by omega
      have hf:eo ab l=false:=by rw [br];exact y2
      refine Ud (J8 hg au ae c1 hw h mT (J8 mU gb mG q2 q3 kO vw (J3 iW q4 hf))) ?_;repeat intro hc
      simp [qs,hf]
@[simp] theorem Ww (l:List ao) (h:ab.length≤1048576) (h2:l.length≤1048576) (hs:ao.aq l):Gw TT 493 [.one (.ro k0 (.sl 1 (ab.map ei))),.one (.ro k1 (.sl 2 (l.map ao.e)))]=some (vb (eo ab l),[]):=by
 refine Ga tI Ft ?_;unfold Ft;refine Ud h ?_;refine ba (σ:=List ao×List ao) (fun s=>[(0,AV.v k0 (D.sl 1 (ab.map ei)),none),(1,AV.v k1 (D.sl 2 (l.map ao.e)),none),(5,AV.v false (di ((s.1.length:Nat):Int)),none)]) (fun s=>l=s.1++s.2∧kq ab none l=kq ab (tm s.1) s.2) (fun s=>s.2.length) ([],l) (by simp) ⟨rfl,rfl⟩ ?_;rintro ⟨pre,rest⟩ ⟨y1,y2⟩;simp only at y1 y2;have y3:l.length=pre.length+rest.length:=by rw [y1,zd]
 rcases rest with _|⟨⟨dg,b9⟩,rest⟩
 ·simp only [zf] at y3;have c1:¬(pre.length:Int)<(l.length:Int):=by omega
  unfold Io
  have hf:eo ab l=(gp ab&&decide ((l.length:Int)≤12)):=by
   have e:decide (l.length≤12)=decide ((l.length:Int)≤12):=by simp;omega
   simp only [eo,y2,kq,Bool.and_true,e]
  refine Ud (J3 c1 h hf) ?_ ?_;all_goals repeat intro hc
  all_goals simp_all [tI]
 ·simp only [ze] at y3;have hg:l[pre.length]?=some ⟨dg,b9⟩:=by rw [y1];simp
  have dL:=hs ⟨dg,b9⟩ (zj hg);simp only [ao.sm] at dL;obtain ⟨mT,mU⟩:=dL;obtain ⟨ae,au⟩:=zb.1 hg;have c1:(pre.length:Int)<(l.length:Int):=by omega
  have hw:=Wi ((pre.length:Int)+1);unfold Io;cases gb:l8 ab ⟨dg,b9⟩ with
  |false=>
   rw [tY (by rw [gb];simp)] at y2;have hf:eo ab l=false:=by simp [eo,y2]
   refine Ud (J8 hg au ae c1 hw h mT (J3 mU gb hf)) ?_;simp [tI,hf]
  |true=>
   by_cases mG:1000000000<dg
   ·rw [tY (by simp only;omega)] at y2;have hf:eo ab l=false:=by simp [eo,y2]
    refine Ud (J8 hg au ae c1 hw h mT (J4 mU gb mG hf)) ?_;simp [tI,hf]
   ·by_cases ry:pre.length=0
    ·have j9:pre=[]:=zg.1 ry;rw [Bc ⟨gb,by simp only;omega,by rw [j9];rfl⟩] at y2;subst j9;simp only [zf] at hg ae au;have c1:(0:Int)<(l.length:Int):=by omega
     have w1:IntKind.wrap .i64 1=1:=wrap_i64 (by omega) (by omega);refine Ud (J8 hg au ae c1 w1 h mT (J3 mU gb mG)) ?_;exact ⟨([]++[⟨dg,b9⟩],rest),(by simp;try omega),⟨by rw [y1];simp,by rw [y2,yb]⟩,by simp⟩
    ·obtain ⟨m,mO⟩:∃m,pre.length=m+1:=⟨pre.length-1,by omega⟩;obtain ⟨⟨pG,JG⟩,hz⟩:∃z,pre[m]?=some z:=⟨_,zk (by omega)⟩;have kO:l[m]?=some ⟨pG,JG⟩:=by rw [y1,zq (by omega)];exact hz
     obtain ⟨iW,vw⟩:=zb.1 kO;have qi:=Nv mO hz dg;have q1:((m:Int)+1)-1=(m:Int):=by omega
     have q2:(0:Int)<(pre.length:Int):=by omega
     have q3:IntKind.wrap .i64 ((pre.length:Int)-1)=(m:Int):=by rw [mO];rw [show (((m+1:Nat):Int)-1)=(m:Int) by omega];exact wrap_i64 (by omega) (by omega)
     by_cases gA:pG<dg
     ·rw [Bc ⟨gb,by simp only;omega,by rw [qi];simpa using gA⟩] at y2;have q4:¬dg≤pG:=by omega
      refine Ud (J8 hg au ae c1 hw h mT (J8 mU gb mG q2 q3 kO vw (J2 iW q4))) ?_;repeat intro hc
      exact ⟨(pre++[⟨dg,b9⟩],rest),(by simp;try omega),⟨by rw [y1];simp,by rw [y2,yb]⟩,by simp⟩
     ·rw [tY (by rw [qi];simp;intro _ _;omega)] at y2;have q4:dg≤pG:=by omega
      have hf:eo ab l=false:=by simp [eo,y2]
      refine Ud (J8 hg au ae c1 hw h mT (J8 mU gb mG q2 q3 kO vw (J3 iW q4 hf))) ?_;repeat intro hc
      simp [tI,hf]
theorem CA:∀l:List Int,(l.flatMap bw).length≤5*l.length
 |[]=>by simp
 |n::l=>by
  have:=CA l;have:=fP n;simp only [List.flatMap_cons,zd,ze];omega
theorem M4 {n:Int} (h:-1000000000≤n∧n≤1000000000):fB n=true:=by simp [fB,h.1,h.2]
@[simp] theorem WC (l:List Int) (h:l.length≤64) (hn:∀n∈l,-1000000000≤n∧n≤1000000000):Gw TT 530 [.one (.ro k0 (.sl 1 [])),.one (.ro k1 (.sl 1 (l.map ei)))]=some (.one (.own (.sl 1 ((jX l).map eb))),[]):=by
 refine Ga HC FU ?_;unfold FU;have LH:=t69 k0 [] (by simp);simp only [zn] at LH;have c0:¬(1000000000:Int)<(l.length:Int):=by omega
 refine Ua (J2 LH c0) ?_;refine ba (σ:=List Int×List Int) (fun s=>[(1,AV.v k1 (D.sl 1 (l.map ei)),none),(5,AV.pl 5 0 [],some (Rt.an [C.own (D.sl 1 [])])),(16,AV.v k1 (D.sl 1 (l.map ei)),none),(17,AV.v false (di (l.length:Nat)),none),(18,AV.v false (di ((s.1.length:Nat):Int)),none)]) (fun s=>l=s.1++s.2) (fun s=>s.2.length) ([],l) (by simp) rfl ?_;rintro ⟨pre,rest⟩ y1;simp only at y1;have y3:l.length=pre.length+rest.length:=by rw [y1,zd]
 rcases rest with _|⟨d,rest⟩
 ·simp only [zf] at y3;have c1:¬(pre.length:Int)<(l.length:Int):=by omega
  have LD:=Jw true [] (l.length:Int) (by simp);have LF:=Jw false [] (l.length:Int) (by simp);simp only [zn,zC] at LD LF;unfold Iu;refine Ua (J3 c1 LD LF) ?_;have qc:=fP (l.length:Int);refine ba (σ:=List Int×List Int×List Int) (fun s=>[(5,AV.pl 5 0 [],some (Rt.an [C.own (D.sl 1 (s.2.2.map eb))])),(31,AV.v k1 (D.sl 1 (l.map ei)),none),(32,AV.v false (di (l.length:Nat)),none),(33,AV.v false (di ((s.1.length:Nat):Int)),none)]) (fun s=>l=s.1++s.2.1∧jX l=s.2.2++s.2.1.flatMap bw∧s.2.2.length≤5+5*s.1.length) (fun s=>s.2.1.length) ([],l,bw (l.length:Int)) (by simp) ⟨rfl,rfl,by simpa using qc⟩ ?_;rintro ⟨pre,rest,a⟩ ⟨z1,z2,z4⟩;simp only at z1 z2 z4;have z3:l.length=pre.length+rest.length:=by rw [z1,zd]
  rcases rest with _|⟨d,rest⟩
  ·simp only [zf] at z3;have c1:¬(pre.length:Int)<(l.length:Int):=by omega
   simp only [zz,zi] at z2;unfold It;refine Ua (J2 c1 z2) ?_;simp [HC,z2]
  ·simp only [ze] at z3;have hg:l[pre.length]?=some d:=by rw [z1];simp
   obtain ⟨ae,au⟩:=zb.1 hg;have c1:(pre.length:Int)<(l.length:Int):=by omega
   have hw:=Wi ((pre.length:Int)+1);have ha:a.length≤1048576:=by omega
   have RB:=fP d;unfold It;refine Ua (J6 hg au ae c1 hw ha) ?_;exact ⟨(pre++[d],rest,a++bw d),(by simp;try omega),⟨by rw [z1];simp,by rw [z2];simp,by simp only [zd,ze,zf];omega⟩,by simp⟩
 ·simp only [ze] at y3;have hg:l[pre.length]?=some d:=by rw [y1];simp
  have xP:=M4 (hn d (zj hg));obtain ⟨ae,au⟩:=zb.1 hg;have c1:(pre.length:Int)<(l.length:Int):=by omega
  have hw:=Wi ((pre.length:Int)+1);unfold Iu;refine Ua (J6 hg au ae c1 hw xP) ?_;exact ⟨(pre++[d],rest),(by simp;try omega),by rw [y1];simp,by simp⟩
def my (l:List ao) (n j:Nat):List Int:=if l.length=0 then [] else pP l n j
theorem KB (l:List ao) (j:Nat):my l 0 j=[]:=by unfold my pP;split<;>rfl
theorem B4 {l:List ao} (h:l.length=0) (n j:Nat):my l n j=[]:=by unfold my;rw [if_pos h]
theorem KA {l:List ao} (h:¬l.length=0) (n j:Nat):my l (n+1) j=bw ((bP (ct j l)).length:Int)++bP (ct j l)++my l n (j+1):=by
 unfold my;rw [if_neg h,if_neg h];try rfl
theorem Nx {ab:List Int} {l:List ao} (h:eo ab l=true):il ab l=jX (l.map (·.Id))++my l ab.length 0:=by
 unfold il my;rw [if_pos h]
theorem Je {ab:List Int} {l:List ao} (h:eo ab l=true):gp ab=true∧l.length≤12∧∀n∈l.map (·.Id),-1000000000≤n∧n≤1000000000:=by
 simp only [eo,zr,decide_eq_true_eq] at h;refine ⟨h.1,h.2.1,fun n hn=>?_⟩;obtain ⟨r,hr,rfl⟩:=zx.1 hn;have:=NR h.2.2 r hr;omega
theorem xi {ab:List Int} (h:gp ab=true):1≤ab.length∧ab.length≤3:=by
 simp only [gp,zr,decide_eq_true_eq] at h;omega
@[simp] theorem Wz (l:List ao) (h:ab.length≤1048576) (h2:l.length≤1048576) (hs:ao.aq l):Gw TT 498 [.one (.ro k0 (.sl 1 (ab.map ei))),.one (.ro k1 (.sl 2 (l.map ao.e)))]=some (.one (.own (.sl 1 ((il ab l).map eb))),[]):=by
 refine Ga yI Fy ?_;unfold Fy;cases br:eo ab l with
 |false=>
  have hp:il ab l=[]:=by unfold il;rw [br];try rfl
  refine Uw (J5 h h2 hs br hp) ?_;simp [yI,hp]
 |true=>
 obtain ⟨eh,Sb,Dj⟩:=Je br;obtain ⟨lb,xF⟩:=xi eh;refine Uw (J4 h h2 hs br) ?_;refine ba (σ:=List ao×List ao) (fun s=>[(0,AV.v k0 (D.sl 1 (ab.map ei)),none),(1,AV.v k1 (D.sl 2 (l.map ao.e)),none),(5,AV.pl 5 0 [],some (Rt.an [C.own (D.sl 1 ((s.1.map (·.Id)).map ei))])),(16,AV.v k1 (D.sl 2 (l.map ao.e)),none),(17,AV.v false (di (l.length:Nat)),none),(18,AV.v false (di ((s.1.length:Nat):Int)),none)]) (fun s=>l=s.1++s.2) (fun s=>s.2.length) ([],l) (by simp) rfl ?_;rintro ⟨pre,rest⟩ y1;simp only at y1;have y3:l.length=pre.length+rest.length:=by rw [y1,zd]
 rcases rest with _|⟨⟨dg,b9⟩,rest⟩
 ·simp only [zf] at y3;simp only [zi] at y1;have c1:¬(pre.length:Int)<(l.length:Int):=by omega
  have Q4:∀k0 k1:Bool,Gw TT 530 [.one (.ro k0 (.sl 1 [])),.one (.ro k1 (.sl 1 ((pre.map (·.Id)).map ei)))]=some (.one (.own (.sl 1 ((jX (l.map (·.Id))).map eb))),[]):=fun k0 k1=>by
   rw [←y1];exact WC k0 k1 (l.map (·.Id)) (by simp;omega) Dj
  have LC:=fun k0 k1:Bool=>Q4 k0 k1
  simp at LC;unfold Iq;refine Uw (J2 c1 LC) ?_
  have tc:(jX (l.map (·.Id))).length≤70:=by
   have:=fP ((l.map (·.Id)).length:Int);have:=CA (l.map (·.Id));simp only [jX,zd];rw [zu] at *;omega
  refine ba (σ:=Nat×Nat×List Int) (fun s=>[(1,AV.v k1 (D.sl 2 (l.map ao.e)),none),(8,AV.pl 8 0 [],some (Rt.an [C.own (D.sl 1 (s.2.2.map eb))])),(31,AV.v false (di (ab.length:Nat)),none),(32,AV.v false (di (s.1:Nat)),none)]) (fun s=>s.1+s.2.1=ab.length∧il ab l=s.2.2++my l s.2.1 s.1∧s.2.2.length≤70+1100*s.1) (fun s=>s.2.1) (0,ab.length,jX (l.map (·.Id))) (by simp) ⟨by simp,Nx br,by simpa using tc⟩ ?_;rintro ⟨j,n,a⟩ ⟨z1,z2,z4⟩;simp only at z1 z2 z4;rcases n with _|n
  ·have c1:¬(j:Int)<(ab.length:Int):=by omega
   rw [KB,zi] at z2;unfold AS;refine Uw (J2 c1 z2) ?_;simp [yI,z2]
  ·have c1:(j:Int)<(ab.length:Int):=by omega
   have hj:j≤1048576:=by omega
   have hw:=Wi ((j:Int)+1);by_cases h0:l.length=0
   ·have c2:¬(0:Int)<(l.length:Int):=by omega
    rw [B4 h0] at z2;have bm:l=[]:=zg.1 h0;unfold AS;refine Uw (J4 c1 hw c2 bm) ?_;exact ⟨(j+1,n,a),(by simp;try omega),⟨by simp only;omega,by rw [z2,B4 h0],by simp only;omega⟩,by simp⟩
   ·have c2:(0:Int)<(l.length:Int):=by omega
    rw [KA h0] at z2;have bq:(ct j l).length≤1048576:=Nat.le_trans (Ku j l) h2;have cC:=Kw (k:=j) hs;have ha:a.length≤1048576:=by omega
    have Rz:=KX (ct j l);have qc:=fP ((bP (ct j l)).length:Int);have hq:a.length+(bw ((bP (ct j l)).length:Int)).length+(bP (ct j l)).length≤70368744177664:=by omega
    have dY:a.length+((bw ((bP (ct j l)).length:Int)).length+(bP (ct j l)).length)≤70368744177664:=by omega
    have h_:fZ (zt eb (bP (ct j l)))=true:=by simp [fZ]
    have bm:¬l=[]:=fun e=>h0 (by rw [e];rfl)
    unfold AS;refine Uw (J8 c1 hw c2 bm h2 hs hj (J5 bq cC ha hq dY)) ?_ ?_;all_goals repeat intro hc
    all_goals first|exact absurd ‹l=[]› bm|exact ⟨(j+1,n,a++bw ((bP (ct j l)).length:Int)++bP (ct j l)),(by simp;try omega),⟨by simp only;omega,by rw [z2];simp,by simp only [zd];omega⟩,by simp⟩
 ·simp only [ze] at y3;have hg:l[pre.length]?=some ⟨dg,b9⟩:=by rw [y1];simp
  obtain ⟨ae,au⟩:=zb.1 hg;have c1:(pre.length:Int)<(l.length:Int):=by omega
  have hw:=Wi ((pre.length:Int)+1);have hq:(pre.length+1)*8≤70368744177664:=by omega
  unfold Iq;refine Uw (J6 hg au ae c1 hw hq) ?_;exact ⟨(pre++[⟨dg,b9⟩],rest),(by simp;try omega),by rw [y1];simp,by simp⟩
def xB (r:Option (List ao)):V:=match r with
 |some l=>.a_ [.one (.own (.sl 2 (l.map ao.e))),vb true]
 |none=>.a_ [.one (.own (.sl 2 [])),vb false]
@[simp] theorem abe (l:List ao):xB (some l)=.a_ [.one (.own (.sl 2 (l.map ao.e))),vb true]:=rfl
@[simp] theorem abd:xB none=.a_ [.one (.own (.sl 2 [])),vb false]:=rfl
theorem Ky:∀{l:List Int},lJ l=true→∀p∈l,p=1∨p=2
 |[],_,p,h=>by simp at h
 |q::l,hb,p,h=>by
  simp only [lJ] at hb;split at hb
  ·cases hb
  ·rcases zD.1 h with rfl|h
   ·omega
   ·exact Ky hb p h
theorem KC {l:List Int} (h:gp l=true):∀p∈l,p=1∨p=2:=by
 simp only [gp,zr] at h;exact Ky h.1
theorem Lf {b:List Int} {m ty u:Int} {cs:List Int} {rows:List ao} (h:gN b u=none):iO b m (ty::cs) u rows=none:=by
 simp only [iO,h]
theorem Lg {b:List Int} {m ty u n t:Int} {cs:List Int} {rows:List ao} (h:gN b u=some (n,t)) (h2:¬(0≤n∧n≤(b.length:Int)-t)):iO b m (ty::cs) u rows=none:=by
 simp only [iO,h];rw [if_neg h2]
theorem Lh {b:List Int} {m ty u n t:Int} {cs:List Int} {rows:List ao} (h:gN b u=some (n,t)) (h2:0≤n∧n≤(b.length:Int)-t) (h3:cV (gF b t n) ty m=none):iO b m (ty::cs) u rows=none:=by
 simp only [iO,h];rw [if_pos h2,h3]
theorem Li {b:List Int} {m ty u n t:Int} {cs:List Int} {rows:List ao} {vs:List aa} (h:gN b u=some (n,t)) (h2:0≤n∧n≤(b.length:Int)-t) (h3:cV (gF b t n) ty m=some vs):iO b m (ty::cs) u rows=iO b m cs (t+n) (fo rows vs):=by
 simp only [iO,h];rw [if_pos h2,h3]
theorem KM {b:List Int} {ty k:Int} {l:List aa} (hb:aZ b) (dx:ty=1∨ty=2) (h:cV b ty k=some l):aa.aq l:=by
 have:=(xo hb h).2.1;exact Bm (by omega)
theorem BI {j:Nat} (hj:j<1048576):∀{rows:List ao} {vs:List aa},lE j rows→ao.aq rows→aa.aq vs→ao.aq (fo rows vs)
 |[],_,_,_,_=>fun r hr=>by simp [fo] at hr
 |_::_,[],_,_,_=>fun r hr=>by simp [fo] at hr
 |r::rows,v::vs,ha,hr,hv=>fun x hx=>by
  simp only [fo] at hx;rcases zD.1 hx with rfl|hx
  ·have h1:=ha r (by simp);have h2:=hr r (by simp);refine ⟨by simp;omega,fun y hy=>?_⟩;simp only [zp,List.mem_singleton] at hy;rcases hy with hy|rfl
   ·exact h2.2 y hy
   ·exact hv y (by simp)
  ·exact BI hj (rows:=rows) (vs:=vs) (fun y hy=>ha y (by simp [hy])) (fun y hy=>hr y (by simp [hy])) (fun y hy=>hv y (by simp [hy])) x hx
theorem NP (ids:List Int):lE 0 (ej ids):=fun r hr=>by
 simp only [ej,zx] at hr;obtain ⟨i,_,rfl⟩:=hr;rfl
theorem NQ (ids:List Int):ao.aq (ej ids):=fun r hr=>by
 simp only [ej,zx] at hr;obtain ⟨i,_,rfl⟩:=hr;exact ⟨by simp,fun v hv=>by simp at hv⟩
theorem JO (vs:List aa):fo [] vs=[]:=rfl
theorem Lo {ab b:List Int} (h:fh b 0=none):cP ab b=none:=by unfold cP;rw [h]
theorem CH {ab b:List Int} (h:¬gp ab=true):cP ab b=none:=by
 unfold cP;split
 ·rw [if_neg h]
 ·rfl
theorem qZ {ab b ids:List Int} {u:Int} (h:fh b 0=some (ids,u)) (h2:iN b ab u ids=none):cP ab b=none:=by
 unfold cP;rw [h];simp only;rw [h2];split<;>rfl
theorem k_ {ab b ids:List Int} {u t:Int} {rows:List ao} (h:fh b 0=some (ids,u)) (h1:gp ab=true) (h2:iN b ab u ids=some (rows,t)):cP ab b=if t=(b.length:Int)∧eo ab rows=true then some rows else none:=by
 unfold cP;rw [h];simp only;rw [h2,if_pos h1]
theorem QH {ab b ids:List Int} {u:Int} (hb:aZ b) (h:fh b 0=some (ids,u)) (h2:12<ids.length):cP ab b=none:=by
 by_cases h1:gp ab=true
 ·cases hg:iN b ab u ids with
  |none=>exact qZ h hg
  |some q=>
   obtain ⟨rows,t⟩:=q;have hl:=QA hb h hg;rw [k_ h h1 hg,if_neg];intro e;have:=(Je e.2).2.1;omega
 ·exact CH h1
theorem Ol (h:ab.length≤1048576) (h2:b.length≤1048576) (hb:aZ b):Gw TT 463 [.one (.ro k0 (.sl 1 (ab.map ei))),.one (.ro k1 (.sl 1 (b.map eb)))]=some (xB (cP ab b),[]):=by
 refine Ga kQ Fi ?_;unfold Fi;cases hg:fh b 0 with
 |none=>
  have hd:cP ab b=none:=Lo hg;refine Uw (J5 h h2 hb hg hd) ?_;simp [kQ,hd]
 |some q=>
 obtain ⟨ids,u⟩:=q;obtain ⟨i1,i2,i3,i4,i5⟩:=xy hb hg;by_cases eh:gp ab=true
 ·skip;obtain ⟨PS,PT⟩:=xi eh;have B6:=KC eh;refine Uw (J5 h h2 hb hg eh) ?_;refine ba (σ:=List Int×List Int) (fun s=>[(0,AV.v k0 (D.sl 1 (ab.map ei)),none),(1,AV.v k1 (D.sl 1 (b.map eb)),none),(6,AV.pl 6 0 [],some (Rt.an [C.own (D.sl 1 (ids.map ei)),C.ro false (di u),C.ro false (D.bool true)])),(7,AV.v false (di u),none),(9,AV.pl 9 0 [],some (Rt.an [C.own (D.sl 2 ((ej s.1).map ao.e))])),(33,AV.pl 6 0 [],none),(34,AV.v false (di (ids.length:Nat)),none),(35,AV.v false (di ((s.1.length:Nat):Int)),none)]) (fun s=>ids=s.1++s.2) (fun s=>s.2.length) ([],ids) (by simp [ej]) rfl ?_;rintro ⟨pre,rest⟩ y1;simp only at y1;have y3:ids.length=pre.length+rest.length:=by rw [y1,zd]
  rcases rest with _|⟨d,rest⟩
  ·simp only [zf] at y3;simp only [zi] at y1;subst y1;have c1:¬(ids.length:Int)<(ids.length:Int):=by omega
   unfold Ih;refine Uw c1 ?_;have DE:(ej ids).length=ids.length:=by simp [ej]
   by_cases h0:ids.length=0
   ·have bm:ids=[]:=zg.1 h0;subst bm;have cN:iN b ab u []=some ([],u):=rfl;refine ba (σ:=List Int×List Int×Int×List ao) (fun s=>[(0,AV.v k0 (D.sl 1 (ab.map ei)),none),(1,AV.v k1 (D.sl 1 (b.map eb)),none),(6,AV.pl 6 0 [],some (Rt.an [C.own (D.sl 1 []),C.ro false (di u),C.ro false (D.bool true)])),(7,AV.v false (di s.2.2.1),none),(9,AV.pl 9 0 [],some (Rt.an [C.own (D.sl 2 (s.2.2.2.map ao.e))])),(45,AV.v k0 (D.sl 1 (ab.map ei)),none),(46,AV.v false (di (ab.length:Nat)),none),(47,AV.v false (di ((s.1.length:Nat):Int)),none)]) (fun s=>s=([],ab,u,[])) (fun _=>0) ([],ab,u,[]) (by simp [ej]) rfl ?_;rintro s rfl;obtain ⟨ty,eY⟩:∃ty,ab[0]?=some ty:=⟨_,zk (by omega)⟩;obtain ⟨ae,au⟩:=zb.1 eY;have c1:(0:Int)<(ab.length:Int):=by omega
    have lR:=fun k0 k1:Bool=>Wy k0 k1 ab [] h (by simp) (fun r hr=>by simp at hr)
    simp only [zn] at lR;have ru:=fun k0 k1:Bool=>Wz k0 k1 ab [] h (by simp) (fun r hr=>by simp at hr)
    simp only [zn] at ru;unfold AP;skip;cases br:eo ab [] with
    |false=>
     have hd:cP ab b=none:=by rw [k_ hg eh cN,if_neg (by rw [br];simp)]
     refine Uw (J8 c1 eY ae au lR ru h (J2 br hd)) ?_;all_goals refine BP (by decide) ?_
     refine Uw (J8 c1 eY ae au lR ru h (J2 br hd)) ?_;simp [kQ,hd]
    |true=>
     have fU:=Lp hb hg cN br;have fx:=nq (Ny ab []) hb;by_cases e3:il ab []=b
     ·have e4:((strOf (il ab [])).toList==(strOf b).toList)=true:=by rw [fx];simpa using e3
      have hd:cP ab b=some []:=by rw [k_ hg eh cN,if_pos ⟨fU.1 e3.symm,br⟩]
      refine Uw (J8 c1 eY ae au lR ru h (J3 br e4 hd)) ?_;all_goals refine BP (by decide) ?_
      refine Uw (J8 c1 eY ae au lR ru h (J3 br e4 hd)) ?_;simp [kQ,hd]
     ·have e4:((strOf (il ab [])).toList==(strOf b).toList)=false:=by rw [fx];simpa using e3
      have hd:cP ab b=none:=by rw [k_ hg eh cN,if_neg (fun e=>e3 (fU.2 e.1).symm)]
      refine Uw (J8 c1 eY ae au lR ru h (J3 br e4 hd)) ?_;all_goals refine BP (by decide) ?_
      refine Uw (J8 c1 eY ae au lR ru h (J3 br e4 hd)) ?_;simp [kQ,hd]
   ·have bm:¬ids=[]:=fun e=>h0 (by rw [e];rfl)
    have De:iN b ab u ids=iO b (ids.length:Int) ab u (ej ids):=by unfold iN;rw [if_neg h0]
    have mM:(0:Int)<(ids.length:Int):=by omega
    refine ba (σ:=List Int×List Int×Int×List ao) (fun s=>[(0,AV.v k0 (D.sl 1 (ab.map ei)),none),(1,AV.v k1 (D.sl 1 (b.map eb)),none),(6,AV.pl 6 0 [],some (Rt.an [C.own (D.sl 1 (ids.map ei)),C.ro false (di u),C.ro false (D.bool true)])),(7,AV.v false (di s.2.2.1),none),(9,AV.pl 9 0 [],some (Rt.an [C.own (D.sl 2 (s.2.2.2.map ao.e))])),(45,AV.v k0 (D.sl 1 (ab.map ei)),none),(46,AV.v false (di (ab.length:Nat)),none),(47,AV.v false (di ((s.1.length:Nat):Int)),none)]) (fun s=>ab=s.1++s.2.1∧iN b ab u ids=iO b (ids.length:Int) s.2.1 s.2.2.1 s.2.2.2∧s.2.2.2.length=ids.length∧lE s.1.length s.2.2.2∧ao.aq s.2.2.2∧0≤s.2.2.1∧s.2.2.1≤(b.length:Int)) (fun s=>s.2.1.length) ([],ab,u,ej ids) (by simp) ⟨rfl,De,DE,NP ids,NQ ids,i3,i4⟩ ?_;rintro ⟨pre,rest,v,rows⟩ ⟨z1,z2,z4,z5,z6,z7,z8⟩;simp only at z1 z2 z4 z5 z6 z7 z8;have z3:ab.length=pre.length+rest.length:=by rw [z1,zd]
    rcases rest with _|⟨ty,rest⟩
    ·simp only [zf] at z3;have cN:iN b ab u ids=some (rows,v):=z2;have rB:rows.length≤1048576:=by omega
     have oT:=z6;have c1:¬(pre.length:Int)<(ab.length:Int):=by omega
     unfold AP;skip;cases br:eo ab rows with
     |false=>
      have hd:cP ab b=none:=by rw [k_ hg eh cN,if_neg (by rw [br];simp)]
      refine Uw (J6 c1 h br rB oT hd) ?_;simp [kQ,hd]
     |true=>
      have fU:=Lp hb hg cN br;have fx:=nq (Ny ab rows) hb;by_cases e3:il ab rows=b
      ·have e4:((strOf (il ab rows)).toList==(strOf b).toList)=true:=by rw [fx];simpa using e3
       have hd:cP ab b=some rows:=by rw [k_ hg eh cN,if_pos ⟨fU.1 e3.symm,br⟩]
       refine Uw (J7 c1 h br rB oT e4 hd) ?_;simp [kQ,hd]
      ·have e4:((strOf (il ab rows)).toList==(strOf b).toList)=false:=by rw [fx];simpa using e3
       have hd:cP ab b=none:=by rw [k_ hg eh cN,if_neg (fun e=>e3 (fU.2 e.1).symm)]
       refine Uw (J7 c1 h br rB oT e4 hd) ?_;simp [kQ,hd]
    ·simp only [ze] at z3;have eY:ab[pre.length]?=some ty:=by rw [z1];simp
     have dx:=B6 ty (zj eY);obtain ⟨ae,au⟩:=zb.1 eY;have c1:(pre.length:Int)<(ab.length:Int):=by omega
     have hw:=Wi ((pre.length:Int)+1);unfold AP;cases cS:gN b v with
     |none=>
      have hd:cP ab b=none:=qZ hg (by rw [z2,Lf cS]);refine Uw (J8 eY au ae c1 hw bm mM (J4 h2 hb cS hd)) ?_ ?_;all_goals repeat intro hc
      all_goals first|exact absurd ‹ids=[]› bm|(simp [kQ,hd];done)
     |some q=>
      obtain ⟨n,t⟩:=q;obtain ⟨g1,g2,g3,g4,g5⟩:=lL hb cS;have w1:=Wi ((b.length:Int)-t);by_cases fy:0≤n∧n≤(b.length:Int)-t
      ·obtain ⟨nn,rfl⟩:=zm fy.1;obtain ⟨tt,rfl⟩:=zm (show (0:Int)≤t by omega);have w2:=Wi ((tt:Int)+(nn:Int));have w3:((tt:Int)+(nn:Int)).toNat=tt+nn:=by omega
       have p1:=fy.1;have p2:=fy.2;have p3:tt+nn≤b.length:=by omega
       have p4:(tt:Int)+(nn:Int)≤(b.length:Int):=by omega
       have p5:(tt:Int)≤(tt:Int)+(nn:Int):=by omega
       have fa:aZ (gF b tt nn):=mq _ (sM _ hb);have iD:(gF b tt nn).length≤1048576:=by simp only [gF,zA,zB];omega
       have vf:List.drop tt (List.take (tt+nn) (zt eb b))=zt eb (gF b tt nn):=by
        simp only [gF,zF,zG];rw [w3,show ((tt:Int)).toNat=tt by omega]
       have p6:(0:Int)≤(tt:Int)+(nn:Int):=by omega
       have kk:1≤ids.length∧ids.length≤64:=by omega
       have D7:(1:Int)≤(ids.length:Int)∧(ids.length:Int)≤64:=by omega
       have dq:=fun kb:Bool=>Wx kb (gF b tt nn) ty (ids.length:Int) iD fa dx D7
       cases lj:cV (gF b tt nn) ty (ids.length:Int) with
       |none=>
        have hd:cP ab b=none:=qZ hg (by rw [z2,Lh cS fy lj]);rw [lj] at dq;refine Uw (J8 eY au ae c1 hw bm mM (J8 h2 hb cS w1 w2 w3 p1 (J8 p2 p3 p4 p5 p6 vf dq hd))) ?_ ?_;all_goals repeat intro hc
        all_goals first|exact absurd ‹ids=[]› bm|(simp [kQ,hd];done)
       |some vs=>
        rw [lj] at dq;have kg:=(xo fa lj).1;have jC:=KM fa dx lj;rw [Li cS fy lj] at z2;have qk:rows.length=vs.length:=by omega
        have uN:=ui qk;refine Uw (J8 eY au ae c1 hw bm mM (J8 h2 hb cS w1 w2 w3 p1 (J7 p2 p3 p4 p5 p6 vf dq))) ?_ ?_;all_goals repeat intro hc
        all_goals first|exact absurd ‹ids=[]› bm|skip
        refine ba (σ:=List ao×List ao×List aa×List aa) (fun s=>[(0,AV.v k0 (D.sl 1 (ab.map ei)),none),(1,AV.v k1 (D.sl 1 (b.map eb)),none),(6,AV.pl 6 0 [],some (Rt.an [C.own (D.sl 1 (ids.map ei)),C.ro false (di u),C.ro false (D.bool true)])),(9,AV.pl 9 0 [],some (Rt.an [C.own (D.sl 2 (s.1.map ao.e++s.2.1.map ao.e))])),(14,AV.v false (di (nn:Nat)),none),(15,AV.v false (di (tt:Nat)),none),(16,AV.v false (.bool true),some (Rt.an [C.own (D.sl 3 (vs.map aa.e)),C.ro false (D.bool true)])),(17,AV.pl 16 0 [],none),(45,AV.v k0 (D.sl 1 (ab.map ei)),none),(46,AV.v false (di (ab.length:Nat)),none),(47,AV.v false (di (pre.length:Nat)),none),(88,AV.v false (di (rows.length:Nat)),none),(89,AV.v false (di ((s.1.length:Nat):Int)),none)]) (fun s=>fo rows vs=s.1++fo s.2.1 s.2.2.2∧s.2.1.length=s.2.2.2.length∧vs=s.2.2.1++s.2.2.2∧s.2.2.1.length=s.1.length∧lE pre.length s.2.1) (fun s=>s.2.1.length) ([],rows,[],vs) (by simp) ⟨rfl,qk,rfl,rfl,z5⟩ ?_;rintro ⟨A,R,P,W⟩ ⟨x1,x2,x3,x4,x5⟩;simp only at x1 x2 x3 x4 x5;have x6:vs.length=P.length+W.length:=by rw [x3,zd]
        rcases R with _|⟨⟨dg,b9⟩,R⟩
        ·have C4:W=[]:=zg.1 (by simpa using x2.symm);subst C4;simp only [zf] at x6;simp only [JO,zi] at x1;have c1:¬(A.length:Int)<(rows.length:Int):=by omega
         have c2:¬(A.length:Int)<(ids.length:Int):=by omega
         unfold Ig;refine Uw (J5 c1 c2 w2 hw x1) ?_;exact ⟨(pre++[ty],rest,(tt:Int)+(nn:Int),A),(by simp;try omega),⟨by rw [z1];simp,by rw [z2,x1],by simp only;rw [←x1];omega,by simp only;rw [←x1];simpa using wX z5,by simp only;rw [←x1];exact BI (by omega) z5 z6 jC,by simp only;omega,by simp only;omega⟩,by simp⟩
        ·rcases W with _|⟨⟨dT,dN,dS⟩,W⟩
         ·simp at x2
         ·simp only [ze] at x6 x2;have c1:(A.length:Int)<(rows.length:Int):=by omega
          have c2:(A.length:Int)<(ids.length:Int):=by omega
          have vr:=Wi ((A.length:Int)+1);have gX:vs[A.length]?=some ⟨dT,dN,dS⟩:=by rw [x3,←x4];simp
          obtain ⟨DS,DQ⟩:=zb.1 gX;have oW:=x5 ⟨dg,b9⟩ (by simp);simp only at oW;have hq:(b9.length+1)*32≤70368744177664:=by omega
          have q1:(A.length:Int)<(A.length:Int)+((R.length:Int)+1):=by omega
          have q2:A.length<A.length+(R.length+1):=by omega
          unfold Ig;refine Uw (J8 c1 c2 vr q1 q2 gX DS (J2 DQ hq)) ?_;exact ⟨(A++[⟨dg,b9++[⟨dT,dN,dS⟩]⟩],R,P++[⟨dT,dN,dS⟩],W),(by simp;try omega),⟨by rw [x1];simp [fo],by simp only;omega,by rw [x3];simp,by simp [x4],fun r hr=>x5 r (by simp [hr])⟩,by simp⟩
      ·have hd:cP ab b=none:=qZ hg (by rw [z2,Lg cS fy]);have SU:(decide (0≤n)&&decide (n≤(b.length:Int)-t))=false:=by simp;omega
       by_cases eL:0≤n
       ·have p1:¬n≤(b.length:Int)-t:=fun e=>fy ⟨eL,e⟩
        refine Uw (J8 eY au ae c1 hw bm mM (J7 h2 hb cS w1 eL p1 hd)) ?_ ?_;all_goals repeat intro hc
        all_goals first|exact absurd ‹ids=[]› bm|(simp [kQ,hd];done)
       ·refine Uw (J8 eY au ae c1 hw bm mM (J6 h2 hb cS w1 eL hd)) ?_ ?_;all_goals repeat intro hc
        all_goals first|exact absurd ‹ids=[]› bm|(simp [kQ,hd];done)
  ·simp only [ze] at y3;have uT:ids[pre.length]?=some d:=by rw [y1];simp
   obtain ⟨ae,au⟩:=zb.1 uT;have c1:(pre.length:Int)<(ids.length:Int):=by omega
   have hw:=Wi ((pre.length:Int)+1);have hq:(pre.length+1)*32≤70368744177664:=by omega
   have DH:(ej pre).length=pre.length:=by simp [ej]
   have dY:((ej pre).length+1)*32≤70368744177664:=by omega
   unfold Ih;refine Uw (J8 uT au ae c1 hw DH hq dY) ?_;exact ⟨(pre++[d],rest),(by simp [ej];try omega),by rw [y1];simp,by simp⟩
 ·have hd:cP ab b=none:=CH eh;refine Uw (J6 h h2 hb hg eh hd) ?_;simp [kQ,hd]
theorem Bl (h:ab.length≤1048576) (h2:b.length≤1048576) (hb:aZ b):Gw TT 462 [.one (.ro k0 (.sl 1 (ab.map ei))),.one (.ro k1 (.sl 1 (b.map eb)))]=some (xB (cP ab b),[]):=by
 refine Ga ko Fh ?_;unfold Fh;cases hg:fh b 0 with
 |none=>
  have hd:cP ab b=none:=Lo hg;refine Ud (J5 h h2 hb hg hd) ?_;simp [ko,hd]
 |some q=>
 obtain ⟨ids,u⟩:=q;obtain ⟨i1,i2,i3,i4,i5⟩:=xy hb hg;by_cases eh:gp ab=true
 ·skip;by_cases mG:12<ids.length
  ·have hd:cP ab b=none:=QH hb hg mG;have jx:(12:Int)<(ids.length:Int):=by omega
   refine Ud (J7 h h2 hb hg eh jx hd) ?_;simp [ko,hd]
  have jx:¬(12:Int)<(ids.length:Int):=by omega
  obtain ⟨PS,PT⟩:=xi eh;have B6:=KC eh;refine Ud (J6 h h2 hb hg eh jx) ?_;refine ba (σ:=List Int×List Int) (fun s=>[(0,AV.v k0 (D.sl 1 (ab.map ei)),none),(1,AV.v k1 (D.sl 1 (b.map eb)),none),(6,AV.pl 6 0 [],some (Rt.an [C.own (D.sl 2 [])])),(7,AV.pl 7 0 [],some (Rt.an [C.own (D.sl 1 (ids.map ei)),C.ro false (di u),C.ro false (D.bool true)])),(8,AV.v false (di u),none),(10,AV.pl 10 0 [],some (Rt.an [C.own (D.sl 2 ((ej s.1).map ao.e))])),(11,AV.v false (di ((s.1.length:Nat):Int)),none)]) (fun s=>ids=s.1++s.2) (fun s=>s.2.length) ([],ids) (by simp [ej]) rfl ?_;rintro ⟨pre,rest⟩ y1;simp only at y1;have y3:ids.length=pre.length+rest.length:=by rw [y1,zd]
  rcases rest with _|⟨d,rest⟩
  ·simp only [zf] at y3;simp only [zi] at y1;subst y1;have c1:¬(ids.length:Int)<(ids.length:Int):=by omega
   unfold Ie;refine Ud c1 ?_;have DE:(ej ids).length=ids.length:=by simp [ej]
   by_cases h0:ids.length=0
   ·have bm:ids=[]:=zg.1 h0;subst bm;have cN:iN b ab u []=some ([],u):=rfl;refine ba (σ:=List Int×List Int×Int×List ao) (fun s=>[(0,AV.v k0 (D.sl 1 (ab.map ei)),none),(1,AV.v k1 (D.sl 1 (b.map eb)),none),(6,AV.pl 6 0 [],some (Rt.an [C.own (D.sl 2 [])])),(7,AV.pl 7 0 [],some (Rt.an [C.own (D.sl 1 []),C.ro false (di u),C.ro false (D.bool true)])),(8,AV.v false (di s.2.2.1),none),(10,AV.pl 10 0 [],some (Rt.an [C.own (D.sl 2 (s.2.2.2.map ao.e))])),(12,AV.v false (di ((s.1.length:Nat):Int)),none)]) (fun s=>s=([],ab,u,[])) (fun _=>0) ([],ab,u,[]) (by simp [ej]) rfl ?_;rintro s rfl;obtain ⟨ty,eY⟩:∃ty,ab[0]?=some ty:=⟨_,zk (by omega)⟩;obtain ⟨ae,au⟩:=zb.1 eY;have c1:(0:Int)<(ab.length:Int):=by omega
    have lR:=fun k0 k1:Bool=>Ww k0 k1 ab [] h (by simp) (fun r hr=>by simp at hr)
    simp only [zn] at lR;unfold AO;skip;cases br:eo ab [] with
    |false=>
     have hd:cP ab b=none:=by rw [k_ hg eh cN,if_neg (by rw [br];simp)]
     refine Ud (J8 c1 eY ae au lR h br hd) ?_ ?_;all_goals repeat intro hc
     all_goals simp [ko,hd]
    |true=>
     by_cases e3:u=(b.length:Int)
     ·have hd:cP ab b=some []:=by rw [k_ hg eh cN,if_pos ⟨e3,br⟩]
      refine Ud (J8 c1 eY ae au lR h br (J2 e3 hd)) ?_;simp [ko,hd]
     ·have hd:cP ab b=none:=by rw [k_ hg eh cN,if_neg (fun e=>e3 e.1)]
      refine Ud (J8 c1 eY ae au lR h br (J2 e3 hd)) ?_;simp [ko,hd]
   ·have bm:¬ids=[]:=fun e=>h0 (by rw [e];rfl)
    have De:iN b ab u ids=iO b (ids.length:Int) ab u (ej ids):=by unfold iN;rw [if_neg h0]
    have mM:(0:Int)<(ids.length:Int):=by omega
    refine ba (σ:=List Int×List Int×Int×List ao) (fun s=>[(0,AV.v k0 (D.sl 1 (ab.map ei)),none),(1,AV.v k1 (D.sl 1 (b.map eb)),none),(6,AV.pl 6 0 [],some (Rt.an [C.own (D.sl 2 [])])),(7,AV.pl 7 0 [],some (Rt.an [C.own (D.sl 1 (ids.map ei)),C.ro false (di u),C.ro false (D.bool true)])),(8,AV.v false (di s.2.2.1),none),(10,AV.pl 10 0 [],some (Rt.an [C.own (D.sl 2 (s.2.2.2.map ao.e))])),(12,AV.v false (di ((s.1.length:Nat):Int)),none)]) (fun s=>ab=s.1++s.2.1∧iN b ab u ids=iO b (ids.length:Int) s.2.1 s.2.2.1 s.2.2.2∧s.2.2.2.length=ids.length∧lE s.1.length s.2.2.2∧ao.aq s.2.2.2∧0≤s.2.2.1∧s.2.2.1≤(b.length:Int)) (fun s=>s.2.1.length) ([],ab,u,ej ids) (by simp) ⟨rfl,De,DE,NP ids,NQ ids,i3,i4⟩ ?_;rintro ⟨pre,rest,v,rows⟩ ⟨z1,z2,z4,z5,z6,z7,z8⟩;simp only at z1 z2 z4 z5 z6 z7 z8;have z3:ab.length=pre.length+rest.length:=by rw [z1,zd]
    rcases rest with _|⟨ty,rest⟩
    ·simp only [zf] at z3;have cN:iN b ab u ids=some (rows,v):=z2;have rB:rows.length≤1048576:=by omega
     have oT:=z6;have c1:¬(pre.length:Int)<(ab.length:Int):=by omega
     unfold AO;skip;cases br:eo ab rows with
     |false=>
      have hd:cP ab b=none:=by rw [k_ hg eh cN,if_neg (by rw [br];simp)]
      refine Ud (J6 c1 h br rB oT hd) ?_ ?_;all_goals repeat intro hc
      all_goals simp [ko,hd]
     |true=>
      by_cases e3:v=(b.length:Int)
      ·have hd:cP ab b=some rows:=by rw [k_ hg eh cN,if_pos ⟨e3,br⟩]
       refine Ud (J7 c1 h br rB oT e3 hd) ?_;simp [ko,hd]
      ·have hd:cP ab b=none:=by rw [k_ hg eh cN,if_neg (fun e=>e3 e.1)]
       refine Ud (J7 c1 h br rB oT e3 hd) ?_;simp [ko,hd]
    ·simp only [ze] at z3;have eY:ab[pre.length]?=some ty:=by rw [z1];simp
     have dx:=B6 ty (zj eY);obtain ⟨ae,au⟩:=zb.1 eY;have c1:(pre.length:Int)<(ab.length:Int):=by omega
     have hw:=Wi ((pre.length:Int)+1);unfold AO;cases cS:gN b v with
     |none=>
      have hd:cP ab b=none:=qZ hg (by rw [z2,Lf cS]);refine Ud (J8 eY au ae c1 hw bm mM (J4 h2 hb cS hd)) ?_ ?_;all_goals repeat intro hc
      all_goals first|exact absurd ‹ids=[]› bm|(simp [ko,hd];done)
     |some q=>
      obtain ⟨n,t⟩:=q;obtain ⟨g1,g2,g3,g4,g5⟩:=lL hb cS;have w1:=Wi ((b.length:Int)-t);by_cases fy:0≤n∧n≤(b.length:Int)-t
      ·obtain ⟨nn,rfl⟩:=zm fy.1;obtain ⟨tt,rfl⟩:=zm (show (0:Int)≤t by omega);have w2:=Wi ((tt:Int)+(nn:Int));have w3:((tt:Int)+(nn:Int)).toNat=tt+nn:=by omega
       have p1:=fy.1;have p2:=fy.2;have p3:tt+nn≤b.length:=by omega
       have p4:(tt:Int)+(nn:Int)≤(b.length:Int):=by omega
       have p5:(tt:Int)≤(tt:Int)+(nn:Int):=by omega
       have fa:aZ (gF b tt nn):=mq _ (sM _ hb);have iD:(gF b tt nn).length≤1048576:=by simp only [gF,zA,zB];omega
       have vf:List.drop tt (List.take (tt+nn) (zt eb b))=zt eb (gF b tt nn):=by
        simp only [gF,zF,zG];rw [w3,show ((tt:Int)).toNat=tt by omega]
       have p6:(0:Int)≤(tt:Int)+(nn:Int):=by omega
       have kk:1≤ids.length∧ids.length≤64:=by omega
       have D7:(1:Int)≤(ids.length:Int)∧(ids.length:Int)≤64:=by omega
       have dq:=fun kb:Bool=>Wv kb (gF b tt nn) ty (ids.length:Int) iD fa dx D7
       cases lj:cV (gF b tt nn) ty (ids.length:Int) with
       |none=>
        have hd:cP ab b=none:=qZ hg (by rw [z2,Lh cS fy lj]);rw [lj] at dq;refine Ud (J8 eY au ae c1 hw bm mM (J8 h2 hb cS w1 w2 w3 p1 (J8 p2 p3 p4 p5 p6 vf dq hd))) ?_ ?_;all_goals repeat intro hc
        all_goals first|exact absurd ‹ids=[]› bm|(simp [ko,hd];done)
       |some vs=>
        rw [lj] at dq;have kg:=(xo fa lj).1;have jC:=KM fa dx lj;rw [Li cS fy lj] at z2;have qk:rows.length=vs.length:=by omega
        have uN:=ui qk;refine Ud (J8 eY au ae c1 hw bm mM (J8 h2 hb cS w1 w2 w3 p1 (J7 p2 p3 p4 p5 p6 vf dq))) ?_ ?_;all_goals repeat intro hc
        all_goals first|exact absurd ‹ids=[]› bm|skip
        refine ba (σ:=List ao×List ao×List aa×List aa) (fun s=>[(0,AV.v k0 (D.sl 1 (ab.map ei)),none),(1,AV.v k1 (D.sl 1 (b.map eb)),none),(6,AV.pl 6 0 [],some (Rt.an [C.own (D.sl 2 [])])),(7,AV.pl 7 0 [],some (Rt.an [C.own (D.sl 1 (ids.map ei)),C.ro false (di u),C.ro false (D.bool true)])),(10,AV.pl 10 0 [],some (Rt.an [C.own (D.sl 2 (s.1.map ao.e++s.2.1.map ao.e))])),(12,AV.v false (di (pre.length:Nat)),none),(13,AV.v false (di (nn:Nat)),none),(14,AV.v false (di (tt:Nat)),none),(16,AV.pl 16 0 [],some (Rt.an [C.own (D.sl 3 (vs.map aa.e)),C.ro false (D.bool true)])),(18,AV.v false (di ((s.1.length:Nat):Int)),none)]) (fun s=>fo rows vs=s.1++fo s.2.1 s.2.2.2∧s.2.1.length=s.2.2.2.length∧vs=s.2.2.1++s.2.2.2∧s.2.2.1.length=s.1.length∧lE pre.length s.2.1) (fun s=>s.2.1.length) ([],rows,[],vs) (by simp) ⟨rfl,qk,rfl,rfl,z5⟩ ?_;rintro ⟨A,R,P,W⟩ ⟨x1,x2,x3,x4,x5⟩;simp only at x1 x2 x3 x4 x5;have x6:vs.length=P.length+W.length:=by rw [x3,zd]
        rcases R with _|⟨⟨dg,b9⟩,R⟩
        ·have C4:W=[]:=zg.1 (by simpa using x2.symm);subst C4;simp only [zf] at x6;simp only [JO,zi] at x1;have c1:¬(A.length:Int)<(rows.length:Int):=by omega
         have c2:¬(A.length:Int)<(ids.length:Int):=by omega
         unfold Ic;refine Ud (J5 c1 c2 w2 hw x1) ?_;exact ⟨(pre++[ty],rest,(tt:Int)+(nn:Int),A),(by simp;try omega),⟨by rw [z1];simp,by rw [z2,x1],by simp only;rw [←x1];omega,by simp only;rw [←x1];simpa using wX z5,by simp only;rw [←x1];exact BI (by omega) z5 z6 jC,by simp only;omega,by simp only;omega⟩,by simp⟩
        ·rcases W with _|⟨⟨dT,dN,dS⟩,W⟩
         ·simp at x2
         ·simp only [ze] at x6 x2;have c1:(A.length:Int)<(rows.length:Int):=by omega
          have c2:(A.length:Int)<(ids.length:Int):=by omega
          have vr:=Wi ((A.length:Int)+1);have gX:vs[A.length]?=some ⟨dT,dN,dS⟩:=by rw [x3,←x4];simp
          obtain ⟨DS,DQ⟩:=zb.1 gX;have oW:=x5 ⟨dg,b9⟩ (by simp);simp only at oW;have hq:(b9.length+1)*32≤70368744177664:=by omega
          have q1:(A.length:Int)<(A.length:Int)+((R.length:Int)+1):=by omega
          have q2:A.length<A.length+(R.length+1):=by omega
          unfold Ic;refine Ud (J8 c1 c2 vr q1 q2 gX DS (J2 DQ hq)) ?_;exact ⟨(A++[⟨dg,b9++[⟨dT,dN,dS⟩]⟩],R,P++[⟨dT,dN,dS⟩],W),(by simp;try omega),⟨by rw [x1];simp [fo],by simp only;omega,by rw [x3];simp,by simp [x4],fun r hr=>x5 r (by simp [hr])⟩,by simp⟩
      ·have hd:cP ab b=none:=qZ hg (by rw [z2,Lg cS fy]);have SU:(decide (0≤n)&&decide (n≤(b.length:Int)-t))=false:=by simp;omega
       by_cases eL:0≤n
       ·have p1:¬n≤(b.length:Int)-t:=fun e=>fy ⟨eL,e⟩
        refine Ud (J8 eY au ae c1 hw bm mM (J7 h2 hb cS w1 eL p1 hd)) ?_ ?_;all_goals repeat intro hc
        all_goals first|exact absurd ‹ids=[]› bm|(simp [ko,hd];done)
       ·refine Ud (J8 eY au ae c1 hw bm mM (J6 h2 hb cS w1 eL hd)) ?_ ?_;all_goals repeat intro hc
        all_goals first|exact absurd ‹ids=[]› bm|(simp [ko,hd];done)
  ·simp only [ze] at y3;have uT:ids[pre.length]?=some d:=by rw [y1];simp
   obtain ⟨ae,au⟩:=zb.1 uT;have c1:(pre.length:Int)<(ids.length:Int):=by omega
   have hw:=Wi ((pre.length:Int)+1);have hq:(pre.length+1)*32≤70368744177664:=by omega
   have DH:(ej pre).length=pre.length:=by simp [ej]
   have dY:((ej pre).length+1)*32≤70368744177664:=by omega
   unfold Ie;refine Ud (J8 uT au ae c1 hw DH hq dY) ?_;exact ⟨(pre++[d],rest),(by simp [ej];try omega),by rw [y1];simp,by simp⟩
 ·have hd:cP ab b=none:=CH eh;refine Ud (J6 h h2 hb hg eh hd) ?_;simp [ko,hd]
def js (nx:Int) (L:List aj):Bool:=decide (nx=0)&&decide (L=[])
theorem V1 (L:List aj):qB L []=decide (L=[]):=by
 unfold qB;cases L with
 |nil=>simp [nZ]
 |cons x l=>simp
def cJ (ab:List Int) (gen kind nx:Int) (L:List aj) (G:List Int):Bool:=
 if kind=0 then decide (0≤gen)&&js nx L&&decide (G=[])
 else if kind=1 then decide (0≤gen)&&hU ab nx L&&decide (G=[])
 else if kind=2 then decide (0≤gen)&&js nx L&&(cP ab G).isSome
 else false
@[simp] theorem acM (h:bh.length≤1048576):Gw TT 461 [.st [.ro false (di bC),.ro k0 (.sl 2 (bh.map aj.e))]]=some (vb (js bC bh),[]):=by
 refine Ga vY Fg ?_;unfold Fg;by_cases e1:bC=0
 ·by_cases e2:bh=[]
  ·refine Ua (J2 e1 e2) ?_;simp [vY,js,e1,e2]
  ·refine Ua (J2 e1 e2) ?_;simp [vY,js,e1,e2]
 ·refine Ua e1 ?_;simp [vY,js,e1]
@[simp] theorem acK (h:ab.length≤1048576) (h5:ep.length≤1048576) (hs:aj.aq ep) (cu:du.length≤1048576) (hb:aZ du):Gw TT 430 [.one (.ro k0 (.sl 1 (ab.map ei))),.st [.ro false (di mc),.ro false (di gI),.ro false (di fD),.ro k1 (.sl 2 (ep.map aj.e)),.ro k1 (.sl 1 (du.map eb))]]=some (vb (cJ ab mc gI fD ep du),[]):=by
 refine Ga fV E9 ?_;unfold E9;have ga:=fun k0 k1:Bool=>t83 k0 k1 fD 0 ep [] h5 hs (by simp) (fun v hv=>by simp at hv)
 have iz:(fD==0&&qB ep [])=js fD ep:=by
  rw [V1];unfold js;by_cases e:fD=0<;>simp [e]
 simp only [zn,iz] at ga;by_cases g0:0≤mc
 ·by_cases q0:gI=0
  ·subst q0;cases e1:js fD ep with
   |false=>
    refine Uw (J7 h h5 hs cu ga g0 e1) ?_;simp [fV,cJ,g0,e1]
   |true=>
    by_cases e2:du=[]
    ·refine Uw (J8 h h5 hs cu ga g0 e1 e2) ?_;simp [fV,cJ,g0,e1,e2]
    ·refine Uw (J8 h h5 hs cu ga g0 e1 e2) ?_;simp [fV,cJ,g0,e1,e2]
  ·by_cases q1:gI=1
   ·subst q1;cases e1:hU ab fD ep with
    |false=>
     refine Uw (J7 h h5 hs cu ga g0 e1) ?_;simp [fV,cJ,g0,e1]
    |true=>
     by_cases e2:du=[]
     ·refine Uw (J8 h h5 hs cu ga g0 e1 e2) ?_;simp [fV,cJ,g0,e1,e2]
     ·refine Uw (J8 h h5 hs cu ga g0 e1 e2) ?_;simp [fV,cJ,g0,e1,e2]
   ·by_cases q2:gI=2
    ·subst q2;have bL:=fun k0 k1:Bool=>Ol k0 k1 ab du h cu hb
     cases e1:js fD ep with
     |false=>
      cases e2:cP ab du with
      |none=>
       rw [e2] at bL;refine Uw (J8 h h5 hs cu ga g0 e1 bL) ?_;simp [fV,cJ,g0,e1,e2]
      |some rows=>
       rw [e2] at bL;refine Uw (J8 h h5 hs cu ga g0 e1 bL) ?_;simp [fV,cJ,g0,e1,e2]
     |true=>
      cases e2:cP ab du with
      |none=>
       rw [e2] at bL;refine Uw (J8 h h5 hs cu ga g0 e1 bL) ?_;simp [fV,cJ,g0,e1,e2]
      |some rows=>
       rw [e2] at bL;refine Uw (J8 h h5 hs cu ga g0 e1 bL) ?_;simp [fV,cJ,g0,e1,e2]
    ·skip;refine Uw (J8 h h5 hs cu ga g0 q0 (J2 q1 q2)) ?_;repeat intro hc
     simp [fV,cJ,g0,q0,q1,q2]
 ·by_cases q0:gI=0
  ·subst q0;cases e1:js fD ep with
   |false=>
    refine Uw (J7 h h5 hs cu ga g0 e1) ?_;simp [fV,cJ,g0,e1]
   |true=>
    by_cases e2:du=[]
    ·refine Uw (J8 h h5 hs cu ga g0 e1 e2) ?_;simp [fV,cJ,g0,e1,e2]
    ·refine Uw (J8 h h5 hs cu ga g0 e1 e2) ?_;simp [fV,cJ,g0,e1,e2]
  ·by_cases q1:gI=1
   ·subst q1;cases e1:hU ab fD ep with
    |false=>
     refine Uw (J7 h h5 hs cu ga g0 e1) ?_;simp [fV,cJ,g0,e1]
    |true=>
     by_cases e2:du=[]
     ·refine Uw (J8 h h5 hs cu ga g0 e1 e2) ?_;simp [fV,cJ,g0,e1,e2]
     ·refine Uw (J8 h h5 hs cu ga g0 e1 e2) ?_;simp [fV,cJ,g0,e1,e2]
   ·by_cases q2:gI=2
    ·subst q2;have bL:=fun k0 k1:Bool=>Ol k0 k1 ab du h cu hb
     cases e1:js fD ep with
     |false=>
      cases e2:cP ab du with
      |none=>
       rw [e2] at bL;refine Uw (J8 h h5 hs cu ga g0 e1 bL) ?_;simp [fV,cJ,g0,e1,e2]
      |some rows=>
       rw [e2] at bL;refine Uw (J8 h h5 hs cu ga g0 e1 bL) ?_;simp [fV,cJ,g0,e1,e2]
     |true=>
      cases e2:cP ab du with
      |none=>
       rw [e2] at bL;refine Uw (J8 h h5 hs cu ga g0 e1 bL) ?_;simp [fV,cJ,g0,e1,e2]
      |some rows=>
       rw [e2] at bL;refine Uw (J8 h h5 hs cu ga g0 e1 bL) ?_;simp [fV,cJ,g0,e1,e2]
    ·skip;refine Uw (J8 h h5 hs cu ga g0 q0 (J2 q1 q2)) ?_;repeat intro hc
     simp [fV,cJ,g0,q0,q1,q2]
@[simp] theorem acJ (h:ab.length≤1048576) (h5:ep.length≤1048576) (hs:aj.aq ep) (cu:du.length≤1048576) (hb:aZ du):Gw TT 429 [.one (.ro k0 (.sl 1 (ab.map ei))),.st [.ro false (di mc),.ro false (di gI),.ro false (di fD),.ro k1 (.sl 2 (ep.map aj.e)),.ro k1 (.sl 1 (du.map eb))]]=some (vb (cJ ab mc gI fD ep du),[]):=by
 refine Ga fC E8 ?_;unfold E8;by_cases g0:0≤mc
 ·by_cases q0:gI=0
  ·subst q0;cases e1:js fD ep with
   |false=>
    refine Uw (J6 h h5 hs cu g0 e1) ?_;simp [fC,cJ,g0,e1]
   |true=>
    by_cases e2:du=[]
    ·refine Uw (J7 h h5 hs cu g0 e1 e2) ?_;simp [fC,cJ,g0,e1,e2]
    ·refine Uw (J7 h h5 hs cu g0 e1 e2) ?_;simp [fC,cJ,g0,e1,e2]
  ·by_cases q1:gI=1
   ·subst q1;cases e1:hU ab fD ep with
    |false=>
     refine Uw (J6 h h5 hs cu g0 e1) ?_;simp [fC,cJ,g0,e1]
    |true=>
     by_cases e2:du=[]
     ·refine Uw (J7 h h5 hs cu g0 e1 e2) ?_;simp [fC,cJ,g0,e1,e2]
     ·refine Uw (J7 h h5 hs cu g0 e1 e2) ?_;simp [fC,cJ,g0,e1,e2]
   ·by_cases q2:gI=2
    ·subst q2;have bL:=fun k0 k1:Bool=>Bl k0 k1 ab du h cu hb
     cases e1:js fD ep with
     |false=>
      cases e2:cP ab du with
      |none=>
       rw [e2] at bL;refine Uw (J7 h h5 hs cu g0 e1 bL) ?_;simp [fC,cJ,g0,e1,e2]
      |some rows=>
       rw [e2] at bL;refine Uw (J7 h h5 hs cu g0 e1 bL) ?_;simp [fC,cJ,g0,e1,e2]
     |true=>
      cases e2:cP ab du with
      |none=>
       rw [e2] at bL;refine Uw (J7 h h5 hs cu g0 e1 bL) ?_;simp [fC,cJ,g0,e1,e2]
      |some rows=>
       rw [e2] at bL;refine Uw (J7 h h5 hs cu g0 e1 bL) ?_;simp [fC,cJ,g0,e1,e2]
    ·skip;have bL:=fun k0 k1:Bool=>Bl k0 k1 ab du h cu hb
     cases e2:cP ab du with
     |none=>
      rw [e2] at bL;refine Uw (J8 h h5 hs cu g0 q0 q1 (J2 q2 bL)) ?_;repeat intro hc
      simp [fC,cJ,g0,q0,q1,q2]
     |some rows=>
      rw [e2] at bL;refine Uw (J8 h h5 hs cu g0 q0 q1 (J2 q2 bL)) ?_;repeat intro hc
      simp [fC,cJ,g0,q0,q1,q2]
 ·by_cases q0:gI=0
  ·subst q0;cases e1:js fD ep with
   |false=>
    refine Uw (J6 h h5 hs cu g0 e1) ?_;simp [fC,cJ,g0,e1]
   |true=>
    by_cases e2:du=[]
    ·refine Uw (J7 h h5 hs cu g0 e1 e2) ?_;simp [fC,cJ,g0,e1,e2]
    ·refine Uw (J7 h h5 hs cu g0 e1 e2) ?_;simp [fC,cJ,g0,e1,e2]
  ·by_cases q1:gI=1
   ·subst q1;cases e1:hU ab fD ep with
    |false=>
     refine Uw (J6 h h5 hs cu g0 e1) ?_;simp [fC,cJ,g0,e1]
    |true=>
     by_cases e2:du=[]
     ·refine Uw (J7 h h5 hs cu g0 e1 e2) ?_;simp [fC,cJ,g0,e1,e2]
     ·refine Uw (J7 h h5 hs cu g0 e1 e2) ?_;simp [fC,cJ,g0,e1,e2]
   ·by_cases q2:gI=2
    ·subst q2;have bL:=fun k0 k1:Bool=>Bl k0 k1 ab du h cu hb
     cases e1:js fD ep with
     |false=>
      cases e2:cP ab du with
      |none=>
       rw [e2] at bL;refine Uw (J7 h h5 hs cu g0 e1 bL) ?_;simp [fC,cJ,g0,e1,e2]
      |some rows=>
       rw [e2] at bL;refine Uw (J7 h h5 hs cu g0 e1 bL) ?_;simp [fC,cJ,g0,e1,e2]
     |true=>
      cases e2:cP ab du with
      |none=>
       rw [e2] at bL;refine Uw (J7 h h5 hs cu g0 e1 bL) ?_;simp [fC,cJ,g0,e1,e2]
      |some rows=>
       rw [e2] at bL;refine Uw (J7 h h5 hs cu g0 e1 bL) ?_;simp [fC,cJ,g0,e1,e2]
    ·skip;have bL:=fun k0 k1:Bool=>Bl k0 k1 ab du h cu hb
     cases e2:cP ab du with
     |none=>
      rw [e2] at bL;refine Uw (J8 h h5 hs cu g0 q0 q1 (J2 q2 bL)) ?_;repeat intro hc
      simp [fC,cJ,g0,q0,q1,q2]
     |some rows=>
      rw [e2] at bL;refine Uw (J8 h h5 hs cu g0 q0 q1 (J2 q2 bL)) ?_;repeat intro hc
      simp [fC,cJ,g0,q0,q1,q2]
@[simp] theorem Wt (l:List ao) (k:Nat) (h:l.length≤1048576) (hs:ao.aq l) (hk:k≤1048576):Gw TT 477 [.one (.ro k0 (.sl 2 (l.map ao.e))),vi (k:Int)]=some (.one (.own (.sl 3 ((ct k l).map aa.e))),[]):=by
 refine Ga Hz Fm ?_;unfold Fm;refine Ud Oo ?_;refine ba (σ:=List ao×List ao×List aa) (fun s=>[(0,AV.v k0 (D.sl 2 (l.map ao.e)),none),(1,AV.v false (di (k:Nat)),none),(5,AV.pl 5 0 [],some (Rt.an [C.own (D.sl 3 ((s.2.2).map aa.e))])),(6,AV.v false (di ((s.1.length:Nat):Int)),none)]) (fun s=>l=s.1++s.2.1∧ct k l=s.2.2++ct k s.2.1∧s.2.2.length≤s.1.length) (fun s=>s.2.1.length) ([],l,[]) (by simp) ⟨rfl,by simp,by simp⟩ ?_;rintro ⟨pre,rest,a⟩ ⟨y1,y2,y4⟩;simp only at y1 y2 y4;have y3:l.length=pre.length+rest.length:=by rw [y1,zd]
 rcases rest with _|⟨⟨dg,b9⟩,rest⟩
 ·simp only [zf] at y3;simp only [ct,List.filterMap_nil,zi] at y2;have c1:¬(pre.length:Int)<(l.length:Int):=by omega
  unfold Ik;refine Ud c1 ?_;repeat intro hc
  simp [Hz,ct,y2]
 ·simp only [ze] at y3;have hg:l[pre.length]?=some ⟨dg,b9⟩:=by rw [y1];simp
  have dL:=hs ⟨dg,b9⟩ (zj hg);simp only [ao.sm] at dL;obtain ⟨ae,au⟩:=zb.1 hg;have c1:(pre.length:Int)<(l.length:Int):=by omega
  have hw:=Wi ((pre.length:Int)+1);have hq:(a.length+1)*32≤70368744177664:=by omega
  have ea:=Wi ((b9.length:Int)-1);unfold Ik;by_cases q:k<b9.length
  ·obtain ⟨⟨dT,dN,dS⟩,hv⟩:∃v,b9[k]?=some v:=⟨_,zk q⟩;have ia:=(zb.1 hv).2;rw [Kx hv] at y2;have p1:(k:Int)<(b9.length:Int):=by omega
   have p2:¬(b9.length:Int)≤(k:Int):=by omega
   have p3:(k:Int)≤(b9.length:Int)-1:=by omega
   refine Ud (J8 c1 hw hq ea hg ae au (J6 q hv ia p1 p2 p3)) ?_;repeat intro hc
   exact ⟨(pre++[⟨dg,b9⟩],rest,a++[⟨dT,dN,dS⟩]),(by simp;try omega),⟨by rw [y1];simp,y2,by simp;omega⟩,by simp⟩
  ·rw [Kv q] at y2;have p1:¬(k:Int)<(b9.length:Int):=by omega
   have p2:(b9.length:Int)≤(k:Int):=by omega
   have p3:¬(k:Int)≤(b9.length:Int)-1:=by omega
   refine Ud (J8 c1 hw ea hg ae au q (J3 p1 p2 p3)) ?_;repeat intro hc
   exact ⟨(pre++[⟨dg,b9⟩],rest,a),(by simp;try omega),⟨by rw [y1];simp,y2,by simp;omega⟩,by simp⟩
@[simp] theorem adp (l:List ao) (h:l.length≤1048576):Gw TT 565 [.one (.ro k0 (.sl 2 (l.map ao.e)))]=some (.one (.own (.sl 1 ((l.map (·.Id)).map ei))),[]):=by
 refine dD (F:=HF) rfl rfl ?_;show Wp _ Gq _ _;unfold Gq
 repeat' (first
  |with_reducible (first|refine wp_seq ?_|refine aU ?_|refine wp_skip ?_|refine wp_exit ?_|refine wp_ret ?_|refine aQ ?_|refine aR ?_|refine aP ?_|refine aC ?_|refine aD ?_|refine aB ?_|refine aM ?_|refine aL ?_|refine aO ?_|refine aK ?_|refine aJ ?_|refine aG ?_|refine aF ?_|refine aI ?_|refine aH ?_)
  |(with_reducible refine aV fun K hK=>?_
    simp
    repeat' (with_reducible first|refine hK _ ?_|(refine aw ?_ ?_<;>(intro hc;(try rw [za] at hc);first|(exfalso;omega)|(try simp [hc]))))
    all_goals (clear hK;clear K))
  |(with_reducible refine aW ?_
    refine ⟨_,rfl,?_,?_⟩<;>(intro hc;(try simp at hc);(all_goals first|(exfalso;omega)|skip))))
 refine ba (σ:=List ao×List ao) (fun s=>[(0,AV.v k0 (D.sl 2 (l.map ao.e)),none),(3,AV.pl 3 0 [],some (Rt.an [C.own (D.sl 1 ((s.1.map (·.Id)).map ei))])),(4,AV.v false (di ((s.1.length:Nat):Int)),none)]) (fun s=>l=s.1++s.2) (fun s=>s.2.length) ([],l) (by simp) rfl ?_;rintro ⟨pre,rest⟩ y1;simp only at y1;have y3:l.length=pre.length+rest.length:=by rw [y1,zd]
 rcases rest with _|⟨⟨dg,b9⟩,rest⟩
 ·simp only [zf] at y3;have c1:¬(pre.length:Int)<(l.length:Int):=by omega
  have e1:l=pre:=by rw [y1];simp
  unfold IM
  repeat' (first
   |with_reducible (first|refine wp_seq ?_|refine aU ?_|refine wp_skip ?_|refine wp_exit ?_|refine wp_ret ?_|refine aQ ?_|refine aR ?_|refine aP ?_|refine aC ?_|refine aD ?_|refine aB ?_|refine aM ?_|refine aL ?_|refine aO ?_|refine aK ?_|refine aJ ?_|refine aG ?_|refine aF ?_|refine aI ?_|refine aH ?_)
   |(with_reducible refine aV fun K hK=>?_
     simp[c1]
     repeat' (with_reducible first|refine hK _ ?_|(refine aw ?_ ?_<;>(intro hc;(try rw [za] at hc);first|(exfalso;omega)|(try simp [hc,c1]))))
     all_goals (clear hK;clear K))
   |(with_reducible refine aW ?_
     refine ⟨_,rfl,?_,?_⟩<;>(intro hc;(try simp at hc);(all_goals first|(exfalso;omega)|skip))))
  simp [HF,e1]
 ·simp only [ze] at y3;have hg:l[pre.length]?=some ⟨dg,b9⟩:=by rw [y1];simp
  obtain ⟨ae,au⟩:=zb.1 hg;have c1:(pre.length:Int)<(l.length:Int):=by omega
  have hw:IntKind.wrap .i64 ((pre.length:Int)+1)=(pre.length:Int)+1:=wrap_i64 (by omega) (by omega);have hq:(pre.length+1)*8≤70368744177664:=by omega
  unfold IM
  repeat' (first
   |with_reducible (first|refine wp_seq ?_|refine aU ?_|refine wp_skip ?_|refine wp_exit ?_|refine wp_ret ?_|refine aQ ?_|refine aR ?_|refine aP ?_|refine aC ?_|refine aD ?_|refine aB ?_|refine aM ?_|refine aL ?_|refine aO ?_|refine aK ?_|refine aJ ?_|refine aG ?_|refine aF ?_|refine aI ?_|refine aH ?_)
   |(with_reducible refine aV fun K hK=>?_
     simp[hg,au,ae,c1,hw,hq]
     repeat' (with_reducible first|refine hK _ ?_|(refine aw ?_ ?_<;>(intro hc;(try rw [za] at hc);first|(exfalso;omega)|(try simp [hc,hg,au,ae,c1,hw,hq]))))
     all_goals (clear hK;clear K))
   |(with_reducible refine aW ?_
     refine ⟨_,rfl,?_,?_⟩<;>(intro hc;(try simp at hc);(all_goals first|(exfalso;omega)|skip))))
  all_goals first|exact ⟨(pre++[⟨dg,b9⟩],rest),(by simp;try omega),by rw [y1];simp,by simp⟩|(exfalso;omega)
@[simp] theorem WJ (l:List Int) (h:l.length≤64) (hn:∀n∈l,-1000000000≤n∧n≤1000000000):Gw TT 564 [.one (.ro k0 (.sl 1 [])),.one (.ro k1 (.sl 1 (l.map ei)))]=some (.one (.own (.sl 1 ((jX l).map eb))),[]):=by
 refine dD (F:=HE) rfl rfl ?_;show Wp _ Gp _ _;unfold Gp;have CS:=fun k0:Bool=>OB k0 [] (l.length:Int) (by simp)
 simp only [zn,zC] at CS
 repeat' (first
  |with_reducible (first|refine wp_seq ?_|refine aU ?_|refine wp_skip ?_|refine wp_exit ?_|refine wp_ret ?_|refine aQ ?_|refine aR ?_|refine aP ?_|refine aC ?_|refine aD ?_|refine aB ?_|refine aM ?_|refine aL ?_|refine aO ?_|refine aK ?_|refine aJ ?_|refine aG ?_|refine aF ?_|refine aI ?_|refine aH ?_)
  |(with_reducible refine aV fun K hK=>?_
    simp[CS]
    repeat' (with_reducible first|refine hK _ ?_|(refine aw ?_ ?_<;>(intro hc;(try rw [za] at hc);first|(exfalso;omega)|(try simp [hc,CS]))))
    all_goals (clear hK;clear K))
  |(with_reducible refine aW ?_
    refine ⟨_,rfl,?_,?_⟩<;>(intro hc;(try simp at hc);(all_goals first|(exfalso;omega)|skip))))
 have qc:=fP (l.length:Int);refine ba (σ:=List Int×List Int×List Int) (fun s=>[(0,AV.v k0 (D.sl 1 []),none),(1,AV.v k1 (D.sl 1 (l.map ei)),none),(5,AV.pl 5 0 [],some (Rt.an [C.own (D.sl 1 (s.2.2.map eb))])),(6,AV.v false (di ((s.1.length:Nat):Int)),none)]) (fun s=>l=s.1++s.2.1∧jX l=s.2.2++s.2.1.flatMap bw∧s.2.2.length≤5+5*s.1.length) (fun s=>s.2.1.length) ([],l,bw (l.length:Int)) (by simp) ⟨rfl,rfl,by simp only [zf];omega⟩ ?_;rintro ⟨pre,rest,a⟩ ⟨z1,z2,z4⟩;simp only at z1 z2 z4;have z3:l.length=pre.length+rest.length:=by rw [z1,zd]
 rcases rest with _|⟨d,rest⟩
 ·simp only [zf] at z3;have c1:¬(pre.length:Int)<(l.length:Int):=by omega
  simp only [zz,zi] at z2;unfold IL
  repeat' (first
   |with_reducible (first|refine wp_seq ?_|refine aU ?_|refine wp_skip ?_|refine wp_exit ?_|refine wp_ret ?_|refine aQ ?_|refine aR ?_|refine aP ?_|refine aC ?_|refine aD ?_|refine aB ?_|refine aM ?_|refine aL ?_|refine aO ?_|refine aK ?_|refine aJ ?_|refine aG ?_|refine aF ?_|refine aI ?_|refine aH ?_)
   |(with_reducible refine aV fun K hK=>?_
     simp[c1,z2]
     repeat' (with_reducible first|refine hK _ ?_|(refine aw ?_ ?_<;>(intro hc;(try rw [za] at hc);first|(exfalso;omega)|(try simp [hc,c1,z2]))))
     all_goals (clear hK;clear K))
   |(with_reducible refine aW ?_
     refine ⟨_,rfl,?_,?_⟩<;>(intro hc;(try simp at hc);(all_goals first|(exfalso;omega)|skip))))
  all_goals first|(simp [HE,z2];done)|(exfalso;omega)
 ·simp only [ze] at z3;have hg:l[pre.length]?=some d:=by rw [z1];simp
  have xP:=M4 (hn d (zj hg));obtain ⟨ae,au⟩:=zb.1 hg;have c1:(pre.length:Int)<(l.length:Int):=by omega
  have hw:IntKind.wrap .i64 ((pre.length:Int)+1)=(pre.length:Int)+1:=wrap_i64 (by omega) (by omega);have ha:a.length≤1048576:=by omega
  have RB:=fP d;unfold IL
  repeat' (first
   |with_reducible (first|refine wp_seq ?_|refine aU ?_|refine wp_skip ?_|refine wp_exit ?_|refine wp_ret ?_|refine aQ ?_|refine aR ?_|refine aP ?_|refine aC ?_|refine aD ?_|refine aB ?_|refine aM ?_|refine aL ?_|refine aO ?_|refine aK ?_|refine aJ ?_|refine aG ?_|refine aF ?_|refine aI ?_|refine aH ?_)
   |(with_reducible refine aV fun K hK=>?_
     simp[hg,au,ae,c1,hw,ha,xP]
     repeat' (with_reducible first|refine hK _ ?_|(refine aw ?_ ?_<;>(intro hc;(try rw [za] at hc);first|(exfalso;omega)|(try simp [hc,hg,au,ae,c1,hw,ha,xP]))))
     all_goals (clear hK;clear K))
   |(with_reducible refine aW ?_
     refine ⟨_,rfl,?_,?_⟩<;>(intro hc;(try simp at hc);(all_goals first|(exfalso;omega)|skip))))
  all_goals first|exact ⟨(pre++[d],rest,a++bw d),(by simp;try omega),⟨by rw [z1];simp,by rw [z2];simp,by simp only [zd,ze,zf];omega⟩,by simp⟩|(exfalso;omega)
@[simp] theorem ac4 (l:List ao) (h:ab.length≤1048576) (h2:l.length≤1048576) (hs:ao.aq l):Gw TT 535 [.one (.ro k0 (.sl 1 (ab.map ei))),.one (.ro k1 (.sl 2 (l.map ao.e)))]=some (.one (.own (.sl 1 ((il ab l).map eb))),[]):=by
 refine dD (F:=tO) rfl rfl ?_;show Wp _ FW _ _;unfold FW;cases br:eo ab l with
 |false=>
  have hp:il ab l=[]:=by unfold il;rw [br];try rfl
  repeat' (first
   |with_reducible (first|refine wp_seq ?_|refine aU ?_|refine wp_skip ?_|refine wp_exit ?_|refine wp_ret ?_|refine aQ ?_|refine aR ?_|refine aP ?_|refine aC ?_|refine aD ?_|refine aB ?_|refine aM ?_|refine aL ?_|refine aO ?_|refine aK ?_|refine aJ ?_|refine aG ?_|refine aF ?_|refine aI ?_|refine aH ?_)
   |(with_reducible refine aV fun K hK=>?_
     simp[h,h2,hs,br,hp]
     repeat' (with_reducible first|refine hK _ ?_|(refine aw ?_ ?_<;>(intro hc;(try rw [za] at hc);first|(exfalso;omega)|(try simp [hc,h,h2,hs,br,hp]))))
     all_goals (clear hK;clear K))
   |(with_reducible refine aW ?_
     refine ⟨_,rfl,?_,?_⟩<;>(intro hc;(try simp at hc);(all_goals first|(exfalso;omega)|skip))))
  all_goals first|(simp [tO,hp];done)|(exfalso;omega)
 |true=>
 obtain ⟨eh,Sb,Dj⟩:=Je br;obtain ⟨lb,xF⟩:=xi eh;have CR:=fun k0 k1:Bool=>WJ k0 k1 (l.map (·.Id)) (by simp;omega) Dj
 simp at CR
 repeat' (first
  |with_reducible (first|refine wp_seq ?_|refine aU ?_|refine wp_skip ?_|refine wp_exit ?_|refine wp_ret ?_|refine aQ ?_|refine aR ?_|refine aP ?_|refine aC ?_|refine aD ?_|refine aB ?_|refine aM ?_|refine aL ?_|refine aO ?_|refine aK ?_|refine aJ ?_|refine aG ?_|refine aF ?_|refine aI ?_|refine aH ?_)
  |(with_reducible refine aV fun K hK=>?_
    simp[h,h2,hs,br,CR]
    repeat' (with_reducible first|refine hK _ ?_|(refine aw ?_ ?_<;>(intro hc;(try rw [za] at hc);first|(exfalso;omega)|(try simp [hc,h,h2,hs,br,CR]))))
    all_goals (clear hK;clear K))
  |(with_reducible refine aW ?_
    refine ⟨_,rfl,?_,?_⟩<;>(intro hc;(try simp at hc);(all_goals first|(exfalso;omega)|skip))))
 have tc:(jX (l.map (·.Id))).length≤70:=by
  have:=fP ((l.map (·.Id)).length:Int);have:=CA (l.map (·.Id));simp only [jX,zd];rw [zu] at *;omega
 refine ba (σ:=Nat×Nat×List Int) (fun s=>[(0,AV.v k0 (D.sl 1 (ab.map ei)),none),(1,AV.v k1 (D.sl 2 (l.map ao.e)),none),(5,AV.pl 5 0 [],some (Rt.an [C.own (D.sl 1 (s.2.2.map eb))])),(6,AV.v false (di (s.1:Nat)),none)]) (fun s=>s.1+s.2.1=ab.length∧il ab l=s.2.2++my l s.2.1 s.1∧s.2.2.length≤70+1100*s.1) (fun s=>s.2.1) (0,ab.length,jX (l.map (·.Id))) (by simp) ⟨by simp,Nx br,by simp only;omega⟩ ?_;rintro ⟨j,n,a⟩ ⟨z1,z2,z4⟩;simp only at z1 z2 z4;rcases n with _|n
 ·have c1:¬(j:Int)<(ab.length:Int):=by omega
  rw [KB,zi] at z2;unfold AU
  repeat' (first
   |with_reducible (first|refine wp_seq ?_|refine aU ?_|refine wp_skip ?_|refine wp_exit ?_|refine wp_ret ?_|refine aQ ?_|refine aR ?_|refine aP ?_|refine aC ?_|refine aD ?_|refine aB ?_|refine aM ?_|refine aL ?_|refine aO ?_|refine aK ?_|refine aJ ?_|refine aG ?_|refine aF ?_|refine aI ?_|refine aH ?_)
   |(with_reducible refine aV fun K hK=>?_
     simp[c1,z2]
     repeat' (with_reducible first|refine hK _ ?_|(refine aw ?_ ?_<;>(intro hc;(try rw [za] at hc);first|(exfalso;omega)|(try simp [hc,c1,z2]))))
     all_goals (clear hK;clear K))
   |(with_reducible refine aW ?_
     refine ⟨_,rfl,?_,?_⟩<;>(intro hc;(try simp at hc);(all_goals first|(exfalso;omega)|skip))))
  all_goals first|(simp [tO,z2];done)|(exfalso;omega)
 ·have c1:(j:Int)<(ab.length:Int):=by omega
  have hj:j≤1048576:=by omega
  have hw:IntKind.wrap .i64 ((j:Int)+1)=(j:Int)+1:=wrap_i64 (by omega) (by omega);by_cases h0:l.length=0
  ·have c2:¬(0:Int)<(l.length:Int):=by omega
   have bm:l=[]:=zg.1 h0;rw [B4 h0,zi] at z2;unfold AU
   repeat' (first
    |with_reducible (first|refine wp_seq ?_|refine aU ?_|refine wp_skip ?_|refine wp_exit ?_|refine wp_ret ?_|refine aQ ?_|refine aR ?_|refine aP ?_|refine aC ?_|refine aD ?_|refine aB ?_|refine aM ?_|refine aL ?_|refine aO ?_|refine aK ?_|refine aJ ?_|refine aG ?_|refine aF ?_|refine aI ?_|refine aH ?_)
    |(with_reducible refine aV fun K hK=>?_
      simp[c1,hw,c2,bm]
      repeat' (with_reducible first|refine hK _ ?_|(refine aw ?_ ?_<;>(intro hc;(try rw [za] at hc);first|(exfalso;omega)|(try simp [hc,c1,hw,c2,bm]))))
      all_goals (clear hK;clear K))
    |(with_reducible refine aW ?_
      refine ⟨_,rfl,?_,?_⟩<;>(intro hc;(try simp at hc);(all_goals first|(exfalso;omega)|skip))))
   all_goals first|(simp [tO,z2];done)|(simp [tO,←z2,bm];done)|(exfalso;omega)
  ·have c2:(0:Int)<(l.length:Int):=by omega
   rw [KA h0] at z2;have bq:(ct j l).length≤1048576:=Nat.le_trans (Ku j l) h2;have cC:=Kw (k:=j) hs;have ha:a.length≤1048576:=by omega
   have Rz:=KX (ct j l);have qc:=fP ((bP (ct j l)).length:Int);have hq:a.length+(bw ((bP (ct j l)).length:Int)).length+(bP (ct j l)).length≤70368744177664:=by omega
   have dY:a.length+((bw ((bP (ct j l)).length:Int)).length+(bP (ct j l)).length)≤70368744177664:=by omega
   have h_:fZ (zt eb (bP (ct j l)))=true:=by simp [fZ]
   have bm:¬l=[]:=fun e=>h0 (by rw [e];rfl)
   have Le:=fun k0:Bool=>Wt k0 l j h2 hs hj
   have cI:0<l.length:=by omega
   unfold AU
   repeat' (first
    |with_reducible (first|refine wp_seq ?_|refine aU ?_|refine wp_skip ?_|refine wp_exit ?_|refine wp_ret ?_|refine aQ ?_|refine aR ?_|refine aP ?_|refine aC ?_|refine aD ?_|refine aB ?_|refine aM ?_|refine aL ?_|refine aO ?_|refine aK ?_|refine aJ ?_|refine aG ?_|refine aF ?_|refine aI ?_|refine aH ?_)
    |(with_reducible refine aV fun K hK=>?_
      simp[c1,hw,c2,bm,Le,bq,cC,ha,hq,dY,h_,cI]
      repeat' (with_reducible first|refine hK _ ?_|(refine aw ?_ ?_<;>(intro hc;(try rw [za] at hc);first|(exfalso;omega)|(try simp [hc,c1,hw,c2,bm,Le,bq,cC,ha,hq,dY,h_,cI]))))
      all_goals (clear hK;clear K))
    |(with_reducible refine aW ?_
      refine ⟨_,rfl,?_,?_⟩<;>(intro hc;(try simp at hc);(all_goals first|(exfalso;omega)|skip))))
   all_goals first|exact ⟨(j+1,n,a++(bw ((bP (ct j l)).length:Int)++bP (ct j l))),(by simp;try omega),⟨by simp only;omega,by rw [z2];simp,by simp only [zd];omega⟩,by simp⟩|(exfalso;omega)
theorem KL (c:bc) (k0:Bool) (ab:List Int) (eE:Int) (h:ab.length≤1000) (h0:0≤eE) (hm:eE≤20):∃r:(List ao)×bc,Gw TT 536 [.ptr [.ro false (.sl 1 (c.b.map eb)),.ro false (di (c.i:Nat)),.ro false (di c.h)],.one (.ro k0 (.sl 1 (ab.map ei))),vi eE]=some (.one (.own (.sl 2 (r.1.map ao.e))),[(0,0,.ro false (.sl 1 (r.2.b.map eb))),(0,1,.ro false (di (r.2.i:Nat))),(0,2,.ro false (di r.2.h))])∧(r.1.length≤30∧ao.aq r.1):=by
 suffices h0:∃y,Gw TT 536 [.ptr [.ro false (.sl 1 (c.b.map eb)),.ro false (di (c.i:Nat)),.ro false (di c.h)],.one (.ro k0 (.sl 1 (ab.map ei))),vi eE]=some y∧∃r:(List ao)×bc,y=(.one (.own (.sl 2 (r.1.map ao.e))),[(0,0,.ro false (.sl 1 (r.2.b.map eb))),(0,1,.ro false (di (r.2.i:Nat))),(0,2,.ro false (di r.2.h))])∧(r.1.length≤30∧ao.aq r.1) by
  obtain ⟨y,h1,r,rfl,h2⟩:=h0;exact ⟨r,h1,h2⟩
 refine eW (F:=HD) rfl rfl ?_;show Wp _ FX _ _;unfold FX;have ME:IntKind.wrap .i64 (eE+1)=eE+1:=wrap_i64 (by omega) (by omega);have q2:=tx (d375 c 4).2 (eE+1);have hn:((((d375 (d375 c 4).2 (eE+1)).1.toNat:Nat)):Int)=(d375 (d375 c 4).2 (eE+1)).1:=zw q2.1;have q4:=q2.2.1 (by omega)
 repeat' (first
  |with_reducible (first|refine wp_seq ?_|refine aU ?_|refine wp_skip ?_|refine wp_exit ?_|refine wp_ret ?_|refine aQ ?_|refine aR ?_|refine aP ?_|refine aC ?_|refine aD ?_|refine aB ?_|refine aM ?_|refine aL ?_|refine aO ?_|refine aK ?_|refine aJ ?_|refine aG ?_|refine aF ?_|refine aI ?_|refine aH ?_)
  |(with_reducible refine aV fun K hK=>?_
    simp[ME]
    repeat' (with_reducible first|refine hK _ ?_|(refine aw ?_ ?_<;>(intro hc;(try rw [za] at hc);first|(exfalso;omega)|(try simp [hc,ME]))))
    all_goals (clear hK;clear K))
  |(with_reducible refine aW ?_
    refine ⟨_,rfl,?_,?_⟩<;>(intro hc;(try simp at hc);(all_goals first|(exfalso;omega)|skip))))
 refine ba (σ:=Nat×List ao×Int×bc) (fun s=>[(0,AV.bx 0 0,some (Rt.bx [.ro false (.sl 1 (s.2.2.2.b.map eb)),.ro false (di (s.2.2.2.i:Nat)),.ro false (di s.2.2.2.h)])),(1,AV.v k0 (D.sl 1 (ab.map ei)),none),(7,AV.pl 7 0 [],some (Rt.an [C.own (D.sl 2 (s.2.1.map ao.e))])),(8,AV.v false (di s.2.2.1),none),(9,AV.v false (di (s.1:Nat)),none)]) (fun s=>s.1+s.2.1.length≤30∧ao.aq s.2.1) (fun s=>s.1) ((d375 (d375 c 4).2 (eE+1)).1.toNat,[],(d375 c 4).1,(d375 (d375 c 4).2 (eE+1)).2) (by simp [hn]) ⟨by simp only [zf];omega,fun x hx=>by simp at hx⟩ ?_;rintro ⟨n,l,id,c1⟩ ⟨h1,h2⟩;simp only at h1 h2;rcases n with _|n
 ·unfold Iw
  repeat' (first
   |with_reducible (first|refine wp_seq ?_|refine aU ?_|refine wp_skip ?_|refine wp_exit ?_|refine wp_ret ?_|refine aQ ?_|refine aR ?_|refine aP ?_|refine aC ?_|refine aD ?_|refine aB ?_|refine aM ?_|refine aL ?_|refine aO ?_|refine aK ?_|refine aJ ?_|refine aG ?_|refine aF ?_|refine aI ?_|refine aH ?_)
   |(with_reducible refine aV fun K hK=>?_
     simp
     repeat' (with_reducible first|refine hK _ ?_|(refine aw ?_ ?_<;>(intro hc;(try rw [za] at hc);first|(exfalso;omega)|(try simp [hc]))))
     all_goals (clear hK;clear K))
   |(with_reducible refine aW ?_
     refine ⟨_,rfl,?_,?_⟩<;>(intro hc;(try simp at hc);(all_goals first|(exfalso;omega)|skip))))
  all_goals first|(exfalso;omega)|(refine ⟨_,by simp [HD];rfl,?_⟩;exact ⟨(l,c1),rfl,by simp only;omega,h2⟩)
 ·have lS:IntKind.wrap .i64 (n:Int)=(n:Int):=wrap_i64 (by omega) (by omega);have pv:=Eg c1 k0 ab h;obtain ⟨r,gr⟩:∃r:Int×bc,Gw TT 378 [.ptr [.ro false (.sl 1 ((d401 c1 k0 ab h).2.b.map eb)),.ro false (di ((d401 c1 k0 ab h).2.i:Nat)),.ro false (di (d401 c1 k0 ab h).2.h)],.one (.ro true (.sl 1 [[di 1],[di 1],[di 1],[di 2],[di 5]]))]=some (vi r.1,[(0,0,.ro false (.sl 1 (r.2.b.map eb))),(0,1,.ro false (di (r.2.i:Nat))),(0,2,.ro false (di r.2.h))]):=⟨_,qD (d401 c1 k0 ab h).2 true [[di 1],[di 1],[di 1],[di 2],[di 5]] (by simp) (by simp) (by simp)⟩;have hq:(l.length+1)*32≤70368744177664:=by omega
  have v1:(d401 c1 k0 ab h).1.length≤1048576:=by omega
  have DK:ao.aq (l++[⟨id,(d401 c1 k0 ab h).1⟩]):=fun x hx=>by
   rcases zp.1 hx with hx|hx
   ·exact h2 x hx
   ·simp at hx;subst hx;exact ⟨v1,pv.2⟩
  unfold Iw
  repeat' (first
   |with_reducible (first|refine wp_seq ?_|refine aU ?_|refine wp_skip ?_|refine wp_exit ?_|refine wp_ret ?_|refine aQ ?_|refine aR ?_|refine aP ?_|refine aC ?_|refine aD ?_|refine aB ?_|refine aM ?_|refine aL ?_|refine aO ?_|refine aK ?_|refine aJ ?_|refine aG ?_|refine aF ?_|refine aI ?_|refine aH ?_)
   |(with_reducible refine aV fun K hK=>?_
     simp[lS,h,gr,hq,v1]
     repeat' (with_reducible first|refine hK _ ?_|(refine aw ?_ ?_<;>(intro hc;(try rw [za] at hc);first|(exfalso;omega)|(try simp [hc,lS,h,gr,hq,v1]))))
     all_goals (clear hK;clear K))
   |(with_reducible refine aW ?_
     refine ⟨_,rfl,?_,?_⟩<;>(intro hc;(try simp at hc);(all_goals first|(exfalso;omega)|skip))))
  all_goals first|(exfalso;omega)|exact ⟨(n,l++[⟨id,(d401 c1 k0 ab h).1⟩],IntKind.wrap .i64 (id+r.1),r.2),by simp,⟨by simp only [zd,ze,zf];omega,DK⟩,by simp⟩
noncomputable def xm (c:bc) (k0:Bool) (ab:List Int) (eE:Int) (h:ab.length≤1000) (h0:0≤eE) (hm:eE≤20):(List ao)×bc:=zo (KL c k0 ab eE h h0 hm)
@[simp] theorem ac5 (c:bc) (k0:Bool) (ab:List Int) (eE:Int) (h:ab.length≤1000) (h0:0≤eE) (hm:eE≤20):Gw TT 536 [.ptr [.ro false (.sl 1 (c.b.map eb)),.ro false (di (c.i:Nat)),.ro false (di c.h)],.one (.ro k0 (.sl 1 (ab.map ei))),vi eE]=some (.one (.own (.sl 2 ((xm c k0 ab eE h h0 hm).1.map ao.e))),[(0,0,.ro false (.sl 1 ((xm c k0 ab eE h h0 hm).2.b.map eb))),(0,1,.ro false (di ((xm c k0 ab eE h h0 hm).2.i:Nat))),(0,2,.ro false (di (xm c k0 ab eE h h0 hm).2.h))]):=(zh (KL c k0 ab eE h h0 hm)).1
theorem aaN (c:bc) (k0:Bool) (ab:List Int) (eE:Int) (h:ab.length≤1000) (h0:0≤eE) (hm:eE≤20):(xm c k0 ab eE h h0 hm).1.length≤30∧ao.aq (xm c k0 ab eE h h0 hm).1:=(zh (KL c k0 ab eE h h0 hm)).2
theorem aaJ (l:List ao):∀(n j:Nat),(my l n j).length≤1100*n:=by
 intro n;induction n with
 |zero=>intro j;rw [KB];simp
 |succ n ih=>
  intro j;by_cases h0:l.length=0
  ·rw [B4 h0];simp
  ·rw [KA h0];have h1:=KX (ct j l);have h2:=fP ((bP (ct j l)).length:Int);have h3:=ih (j+1);simp only [zd];omega
theorem aaO {ab:List Int} (l:List ao) (h:ab.length≤3):(il ab l).length≤4000:=by
 cases br:eo ab l with
 |false=>
  have hp:il ab l=[]:=by unfold il;rw [br];try rfl
  rw [hp];simp
 |true=>
  obtain ⟨eh,Sb,Dj⟩:=Je br;have h1:=fP ((l.map (·.Id)).length:Int);have h2:=CA (l.map (·.Id));have h3:=aaJ l ab.length 0;rw [Nx br];simp only [jX,zd];rw [zu] at *;omega
theorem Cj (c:bc) (k0:Bool) (ab:List Int) (h:ab.length≤3):∃r:(ak)×bc,Gw TT 504 [.ptr [.ro false (.sl 1 (c.b.map eb)),.ro false (di (c.i:Nat)),.ro false (di c.h)],.one (.ro k0 (.sl 1 (ab.map ei)))]=some (.st [.ro false (di r.1.dV),.ro false (di r.1.Kind),.ro false (di r.1.C.Next),.own (.sl 2 (r.1.C.L.map aj.e)),.own (.sl 1 (r.1.G.map eb))],[(0,0,.ro false (.sl 1 (r.2.b.map eb))),(0,1,.ro false (di (r.2.i:Nat))),(0,2,.ro false (di r.2.h))])∧(r.1.C.L.length≤6∧aj.aq r.1.C.L∧r.1.G.length≤4001∧aZ r.1.G):=by
 suffices h0:∃y,Gw TT 504 [.ptr [.ro false (.sl 1 (c.b.map eb)),.ro false (di (c.i:Nat)),.ro false (di c.h)],.one (.ro k0 (.sl 1 (ab.map ei)))]=some y∧∃r:(ak)×bc,y=(.st [.ro false (di r.1.dV),.ro false (di r.1.Kind),.ro false (di r.1.C.Next),.own (.sl 2 (r.1.C.L.map aj.e)),.own (.sl 1 (r.1.G.map eb))],[(0,0,.ro false (.sl 1 (r.2.b.map eb))),(0,1,.ro false (di (r.2.i:Nat))),(0,2,.ro false (di r.2.h))])∧(r.1.C.L.length≤6∧aj.aq r.1.C.L∧r.1.G.length≤4001∧aZ r.1.G) by
  obtain ⟨y,h1,r,rfl,h2⟩:=h0;exact ⟨r,h1,h2⟩
 refine eW (F:=Nm) rfl rfl ?_;show Wp _ Fz _ _;unfold Fz;have hx:ab.length≤1000:=by omega
 have xF:ab.length≤1048576:=by omega
 have hn:aj.aq []:=fun y hy=>by simp at hy
 by_cases k1:(d375 (d375 c 3).2 3).1=1
 ·have p3:=Nd (d375 (d375 c 3).2 3).2 k0 ab hx
  repeat' (first
   |with_reducible (first|refine wp_seq ?_|refine aU ?_|refine wp_skip ?_|refine wp_exit ?_|refine wp_ret ?_|refine aQ ?_|refine aR ?_|refine aP ?_|refine aC ?_|refine aD ?_|refine aB ?_|refine aM ?_|refine aL ?_|refine aO ?_|refine aK ?_|refine aJ ?_|refine aG ?_|refine aF ?_|refine aI ?_|refine aH ?_)
   |(with_reducible refine aV fun K hK=>?_
     simp[h,hx,k1]
     repeat' (with_reducible first|refine hK _ ?_|(refine aw ?_ ?_<;>(intro hc;(try rw [za] at hc);first|(exfalso;omega)|(try simp [hc,h,hx,k1]))))
     all_goals (clear hK;clear K))
   |(with_reducible refine aW ?_
     refine ⟨_,rfl,?_,?_⟩<;>(intro hc;(try simp at hc);(all_goals first|(exfalso;omega)|skip))))
  all_goals first|(exfalso;omega)|(refine ⟨_,by simp [Nm];rfl,?_⟩;refine ⟨((⟨(d375 c 3).1,1,(d360 (d375 (d375 c 3).2 3).2 k0 ab hx).1,[]⟩:ak),(d360 (d375 (d375 c 3).2 3).2 k0 ab hx).2),?_,?_,?_,?_,?_⟩;(focus (first|(simp;done)|(simp [*];done)));(focus (simp only;omega));(focus (exact p3.2.2));(focus (simp));(focus (exact kC)))
 ·by_cases k2:(d375 (d375 c 3).2 3).1=2
  ·have p5:=aaN (d375 (d375 c 3).2 3).2 k0 ab 4 hx (by omega) (by omega);have p5a:(xm (d375 (d375 c 3).2 3).2 k0 ab 4 hx (by omega) (by omega)).1.length≤1048576:=by omega
   have p5b:=p5.2;have hl:=aaO (xm (d375 (d375 c 3).2 3).2 k0 ab 4 hx (by omega) (by omega)).1 h;have ho:=Ny ab (xm (d375 (d375 c 3).2 3).2 k0 ab 4 hx (by omega) (by omega)).1
   repeat' (first
    |with_reducible (first|refine wp_seq ?_|refine aU ?_|refine wp_skip ?_|refine wp_exit ?_|refine wp_ret ?_|refine aQ ?_|refine aR ?_|refine aP ?_|refine aC ?_|refine aD ?_|refine aB ?_|refine aM ?_|refine aL ?_|refine aO ?_|refine aK ?_|refine aJ ?_|refine aG ?_|refine aF ?_|refine aI ?_|refine aH ?_)
    |(with_reducible refine aV fun K hK=>?_
      simp[h,hx,xF,k1,k2,p5a,p5b]
      repeat' (with_reducible first|refine hK _ ?_|(refine aw ?_ ?_<;>(intro hc;(try rw [za] at hc);first|(exfalso;omega)|(try simp [hc,h,hx,xF,k1,k2,p5a,p5b]))))
      all_goals (clear hK;clear K))
    |(with_reducible refine aW ?_
      refine ⟨_,rfl,?_,?_⟩<;>(intro hc;(try simp at hc);(all_goals first|(exfalso;omega)|skip))))
   all_goals first|(exfalso;omega)|(refine ⟨_,by simp [Nm];rfl,?_⟩;refine ⟨((⟨(d375 c 3).1,2,⟨0,[]⟩,il ab (xm (d375 (d375 c 3).2 3).2 k0 ab 4 hx (by omega) (by omega)).1⟩:ak),(xm (d375 (d375 c 3).2 3).2 k0 ab 4 hx (by omega) (by omega)).2),?_,?_,?_,?_,?_⟩;(focus (first|(simp;done)|(simp [*];done)));(focus (simp));(focus (exact hn));(focus (simp only;omega));(focus (exact ho)))
  ·repeat' (first
    |with_reducible (first|refine wp_seq ?_|refine aU ?_|refine wp_skip ?_|refine wp_exit ?_|refine wp_ret ?_|refine aQ ?_|refine aR ?_|refine aP ?_|refine aC ?_|refine aD ?_|refine aB ?_|refine aM ?_|refine aL ?_|refine aO ?_|refine aK ?_|refine aJ ?_|refine aG ?_|refine aF ?_|refine aI ?_|refine aH ?_)
    |(with_reducible refine aV fun K hK=>?_
      simp[h,k1,k2]
      repeat' (with_reducible first|refine hK _ ?_|(refine aw ?_ ?_<;>(intro hc;(try rw [za] at hc);first|(exfalso;omega)|(try simp [hc,h,k1,k2]))))
      all_goals (clear hK;clear K))
    |(with_reducible refine aW ?_
      refine ⟨_,rfl,?_,?_⟩<;>(intro hc;(try simp at hc);(all_goals first|(exfalso;omega)|skip))))
   all_goals first|(exfalso;omega)|(refine ⟨_,by simp [Nm];rfl,?_⟩;refine ⟨((⟨(d375 c 3).1,(d375 (d375 c 3).2 3).1,⟨0,[]⟩,[]⟩:ak),(d375 (d375 c 3).2 3).2),?_,?_,?_,?_,?_⟩;(focus (first|(simp;done)|(simp [*];done)));(focus (simp));(focus (exact hn));(focus (simp));(focus (exact kC)))
noncomputable def c9 (c:bc) (k0:Bool) (ab:List Int) (h:ab.length≤3):(ak)×bc:=zo (Cj c k0 ab h)
@[simp] theorem acV (c:bc) (k0:Bool) (ab:List Int) (h:ab.length≤3):Gw TT 504 [.ptr [.ro false (.sl 1 (c.b.map eb)),.ro false (di (c.i:Nat)),.ro false (di c.h)],.one (.ro k0 (.sl 1 (ab.map ei)))]=some (.st [.ro false (di (c9 c k0 ab h).1.dV),.ro false (di (c9 c k0 ab h).1.Kind),.ro false (di (c9 c k0 ab h).1.C.Next),.own (.sl 2 ((c9 c k0 ab h).1.C.L.map aj.e)),.own (.sl 1 ((c9 c k0 ab h).1.G.map eb))],[(0,0,.ro false (.sl 1 ((c9 c k0 ab h).2.b.map eb))),(0,1,.ro false (di ((c9 c k0 ab h).2.i:Nat))),(0,2,.ro false (di (c9 c k0 ab h).2.h))]):=(zh (Cj c k0 ab h)).1
theorem Nj (c:bc) (k0:Bool) (ab:List Int) (h:ab.length≤3):(c9 c k0 ab h).1.C.L.length≤6∧aj.aq (c9 c k0 ab h).1.C.L∧(c9 c k0 ab h).1.G.length≤4001∧aZ (c9 c k0 ab h).1.G:=(zh (Cj c k0 ab h)).2
def jV (b:ak):Prop:=b.C.L.length≤6∧aj.aq b.C.L∧b.G.length≤4002∧aZ b.G
theorem Ke {l:List ak} (h:∀b∈l,jV b):ak.aq l:=fun b hb=>by
 obtain ⟨h1,h2,h3,_⟩:=h b hb;exact ⟨⟨by omega,h2⟩,by omega⟩
theorem Ch (c:bc) (k0:Bool) (ab:List Int) (h:ab.length≤3):∃r:(List ak)×bc,Gw TT 471 [.ptr [.ro false (.sl 1 (c.b.map eb)),.ro false (di (c.i:Nat)),.ro false (di c.h)],.one (.ro k0 (.sl 1 (ab.map ei)))]=some (.one (.own (.sl 5 (r.1.map ak.e))),[(0,0,.ro false (.sl 1 (r.2.b.map eb))),(0,1,.ro false (di (r.2.i:Nat))),(0,2,.ro false (di r.2.h))])∧(r.1.length≤4∧∀b∈r.1,jV b):=by
 suffices h0:∃y,Gw TT 471 [.ptr [.ro false (.sl 1 (c.b.map eb)),.ro false (di (c.i:Nat)),.ro false (di c.h)],.one (.ro k0 (.sl 1 (ab.map ei)))]=some y∧∃r:(List ak)×bc,y=(.one (.own (.sl 5 (r.1.map ak.e))),[(0,0,.ro false (.sl 1 (r.2.b.map eb))),(0,1,.ro false (di (r.2.i:Nat))),(0,2,.ro false (di r.2.h))])∧(r.1.length≤4∧∀b∈r.1,jV b) by
  obtain ⟨y,h1,r,rfl,h2⟩:=h0;exact ⟨r,h1,h2⟩
 refine eW (F:=Hx) rfl rfl ?_;show Wp _ Fj _ _;unfold Fj;have q2:=tx c 5;have hn:((((d375 c 5).1.toNat:Nat)):Int)=(d375 c 5).1:=zw q2.1;have q4:=q2.2.1 (by omega)
 repeat' (first
  |with_reducible (first|refine wp_seq ?_|refine aU ?_|refine wp_skip ?_|refine wp_exit ?_|refine wp_ret ?_|refine aQ ?_|refine aR ?_|refine aP ?_|refine aC ?_|refine aD ?_|refine aB ?_|refine aM ?_|refine aL ?_|refine aO ?_|refine aK ?_|refine aJ ?_|refine aG ?_|refine aF ?_|refine aI ?_|refine aH ?_)
  |(with_reducible refine aV fun K hK=>?_
    simp
    repeat' (with_reducible first|refine hK _ ?_|(refine aw ?_ ?_<;>(intro hc;(try rw [za] at hc);first|(exfalso;omega)|(try simp [hc]))))
    all_goals (clear hK;clear K))
  |(with_reducible refine aW ?_
    refine ⟨_,rfl,?_,?_⟩<;>(intro hc;(try simp at hc);(all_goals first|(exfalso;omega)|skip))))
 refine ba (σ:=Nat×List ak×bc) (fun s=>[(0,AV.bx 0 0,some (Rt.bx [.ro false (.sl 1 (s.2.2.b.map eb)),.ro false (di (s.2.2.i:Nat)),.ro false (di s.2.2.h)])),(1,AV.v k0 (D.sl 1 (ab.map ei)),none),(5,AV.pl 5 0 [],some (Rt.an [C.own (D.sl 5 (s.2.1.map ak.e))])),(6,AV.v false (di (s.1:Nat)),none)]) (fun s=>s.1+s.2.1.length≤4∧∀b∈s.2.1,jV b) (fun s=>s.1) ((d375 c 5).1.toNat,[],(d375 c 5).2) (by simp [hn]) ⟨by simp only [zf];omega,fun x hx=>by simp at hx⟩ ?_;rintro ⟨n,l,c1⟩ ⟨h1,h2⟩;simp only at h1 h2;rcases n with _|n
 ·unfold Ii
  repeat' (first
   |with_reducible (first|refine wp_seq ?_|refine aU ?_|refine wp_skip ?_|refine wp_exit ?_|refine wp_ret ?_|refine aQ ?_|refine aR ?_|refine aP ?_|refine aC ?_|refine aD ?_|refine aB ?_|refine aM ?_|refine aL ?_|refine aO ?_|refine aK ?_|refine aJ ?_|refine aG ?_|refine aF ?_|refine aI ?_|refine aH ?_)
   |(with_reducible refine aV fun K hK=>?_
     simp
     repeat' (with_reducible first|refine hK _ ?_|(refine aw ?_ ?_<;>(intro hc;(try rw [za] at hc);first|(exfalso;omega)|(try simp [hc]))))
     all_goals (clear hK;clear K))
   |(with_reducible refine aW ?_
     refine ⟨_,rfl,?_,?_⟩<;>(intro hc;(try simp at hc);(all_goals first|(exfalso;omega)|skip))))
  all_goals first|(exfalso;omega)|(refine ⟨_,by simp [Hx];rfl,?_⟩;exact ⟨(l,c1),rfl,by simp only;omega,h2⟩)
 ·have lS:IntKind.wrap .i64 (n:Int)=(n:Int):=wrap_i64 (by omega) (by omega);have pv:=Nj c1 k0 ab h;have hq:(l.length+1)*72≤70368744177664:=by omega
  have DK:∀b∈l++[(c9 c1 k0 ab h).1],jV b:=fun x hx=>by
   rcases zp.1 hx with hx|hx
   ·exact h2 x hx
   ·simp at hx;subst hx;exact ⟨pv.1,pv.2.1,by omega,pv.2.2.2⟩
  unfold Ii
  repeat' (first
   |with_reducible (first|refine wp_seq ?_|refine aU ?_|refine wp_skip ?_|refine wp_exit ?_|refine wp_ret ?_|refine aQ ?_|refine aR ?_|refine aP ?_|refine aC ?_|refine aD ?_|refine aB ?_|refine aM ?_|refine aL ?_|refine aO ?_|refine aK ?_|refine aJ ?_|refine aG ?_|refine aF ?_|refine aI ?_|refine aH ?_)
   |(with_reducible refine aV fun K hK=>?_
     simp[lS,h,hq]
     repeat' (with_reducible first|refine hK _ ?_|(refine aw ?_ ?_<;>(intro hc;(try rw [za] at hc);first|(exfalso;omega)|(try simp [hc,lS,h,hq]))))
     all_goals (clear hK;clear K))
   |(with_reducible refine aW ?_
     refine ⟨_,rfl,?_,?_⟩<;>(intro hc;(try simp at hc);(all_goals first|(exfalso;omega)|skip))))
  all_goals first|(exfalso;omega)|exact ⟨(n,l++[(c9 c1 k0 ab h).1],(c9 c1 k0 ab h).2),by simp,⟨by simp only [zd,ze,zf];omega,DK⟩,by simp⟩
noncomputable def mz (c:bc) (k0:Bool) (ab:List Int) (h:ab.length≤3):(List ak)×bc:=zo (Ch c k0 ab h)
@[simp] theorem acN (c:bc) (k0:Bool) (ab:List Int) (h:ab.length≤3):Gw TT 471 [.ptr [.ro false (.sl 1 (c.b.map eb)),.ro false (di (c.i:Nat)),.ro false (di c.h)],.one (.ro k0 (.sl 1 (ab.map ei)))]=some (.one (.own (.sl 5 ((mz c k0 ab h).1.map ak.e))),[(0,0,.ro false (.sl 1 ((mz c k0 ab h).2.b.map eb))),(0,1,.ro false (di ((mz c k0 ab h).2.i:Nat))),(0,2,.ro false (di (mz c k0 ab h).2.h))]):=(zh (Ch c k0 ab h)).1
theorem Ni (c:bc) (k0:Bool) (ab:List Int) (h:ab.length≤3):(mz c k0 ab h).1.length≤4∧∀b∈(mz c k0 ab h).1,jV b:=(zh (Ch c k0 ab h)).2
theorem Ci (c:bc) (k0:Bool) (ab:List Int) (h:ab.length≤3):∃r:(ak)×bc,Gw TT 472 [.ptr [.ro false (.sl 1 (c.b.map eb)),.ro false (di (c.i:Nat)),.ro false (di c.h)],.one (.ro k0 (.sl 1 (ab.map ei)))]=some (.st [.ro false (di r.1.dV),.ro false (di r.1.Kind),.ro false (di r.1.C.Next),.own (.sl 2 (r.1.C.L.map aj.e)),.own (.sl 1 (r.1.G.map eb))],[(0,0,.ro false (.sl 1 (r.2.b.map eb))),(0,1,.ro false (di (r.2.i:Nat))),(0,2,.ro false (di r.2.h))])∧(jV r.1):=by
 suffices h0:∃y,Gw TT 472 [.ptr [.ro false (.sl 1 (c.b.map eb)),.ro false (di (c.i:Nat)),.ro false (di c.h)],.one (.ro k0 (.sl 1 (ab.map ei)))]=some y∧∃r:(ak)×bc,y=(.st [.ro false (di r.1.dV),.ro false (di r.1.Kind),.ro false (di r.1.C.Next),.own (.sl 2 (r.1.C.L.map aj.e)),.own (.sl 1 (r.1.G.map eb))],[(0,0,.ro false (.sl 1 (r.2.b.map eb))),(0,1,.ro false (di (r.2.i:Nat))),(0,2,.ro false (di r.2.h))])∧(jV r.1) by
  obtain ⟨y,h1,r,rfl,h2⟩:=h0;exact ⟨r,h1,h2⟩
 refine eW (F:=rU) rfl rfl ?_;show Wp _ Fk _ _;unfold Fk;have hx:ab.length≤1000:=by omega
 have p:=Nj c k0 ab h;have pz:=U3 (d375 (c9 c k0 ab h).2 10).2 k0 ab hx
 have pg:aZ ((c9 c k0 ab h).1.G++[1]):=fun v hv=>by
  rcases zp.1 hv with hv|hv
  ·exact p.2.2.2 v hv
  ·simp at hv;omega
 have hq:(c9 c k0 ab h).1.G.length+1≤70368744177664:=by omega
 by_cases jl:(d375 (c9 c k0 ab h).2 10).1=0
 ·repeat' (first
   |with_reducible (first|refine wp_seq ?_|refine aU ?_|refine wp_skip ?_|refine wp_exit ?_|refine wp_ret ?_|refine aQ ?_|refine aR ?_|refine aP ?_|refine aC ?_|refine aD ?_|refine aB ?_|refine aM ?_|refine aL ?_|refine aO ?_|refine aK ?_|refine aJ ?_|refine aG ?_|refine aF ?_|refine aI ?_|refine aH ?_)
   |(with_reducible refine aV fun K hK=>?_
     simp[h,hx,jl]
     repeat' (with_reducible first|refine hK _ ?_|(refine aw ?_ ?_<;>(intro hc;(try rw [za] at hc);first|(exfalso;omega)|(try simp [hc,h,hx,jl]))))
     all_goals (clear hK;clear K))
   |(with_reducible refine aW ?_
     refine ⟨_,rfl,?_,?_⟩<;>(intro hc;(try simp at hc);(all_goals first|(exfalso;omega)|skip))))
  all_goals first|(exfalso;omega)|(refine ⟨_,by simp [rU];rfl,?_⟩;refine ⟨((⟨-1,(c9 c k0 ab h).1.Kind,(c9 c k0 ab h).1.C,(c9 c k0 ab h).1.G⟩:ak),(d375 (c9 c k0 ab h).2 10).2),?_,?_,?_,?_,?_⟩;(focus (first|(simp;done)|(simp [*];done)));(focus (exact p.1));(focus (exact p.2.1));(focus (simp only;omega));(focus (exact p.2.2.2)))
 by_cases k1:(d375 (c9 c k0 ab h).2 10).1=1
 ·repeat' (first
   |with_reducible (first|refine wp_seq ?_|refine aU ?_|refine wp_skip ?_|refine wp_exit ?_|refine wp_ret ?_|refine aQ ?_|refine aR ?_|refine aP ?_|refine aC ?_|refine aD ?_|refine aB ?_|refine aM ?_|refine aL ?_|refine aO ?_|refine aK ?_|refine aJ ?_|refine aG ?_|refine aF ?_|refine aI ?_|refine aH ?_)
   |(with_reducible refine aV fun K hK=>?_
     simp[h,hx,jl,k1]
     repeat' (with_reducible first|refine hK _ ?_|(refine aw ?_ ?_<;>(intro hc;(try rw [za] at hc);first|(exfalso;omega)|(try simp [hc,h,hx,jl,k1]))))
     all_goals (clear hK;clear K))
   |(with_reducible refine aW ?_
     refine ⟨_,rfl,?_,?_⟩<;>(intro hc;(try simp at hc);(all_goals first|(exfalso;omega)|skip))))
  all_goals first|(exfalso;omega)|(refine ⟨_,by simp [rU];rfl,?_⟩;refine ⟨((⟨(c9 c k0 ab h).1.dV,IntKind.wrap .i64 ((d375 (d375 (c9 c k0 ab h).2 10).2 5).1-1),(c9 c k0 ab h).1.C,(c9 c k0 ab h).1.G⟩:ak),(d375 (d375 (c9 c k0 ab h).2 10).2 5).2),?_,?_,?_,?_,?_⟩;(focus (first|(simp;done)|(simp [*];done)));(focus (exact p.1));(focus (exact p.2.1));(focus (simp only;omega));(focus (exact p.2.2.2)))
 by_cases k2:(d375 (c9 c k0 ab h).2 10).1=2
 ·repeat' (first
   |with_reducible (first|refine wp_seq ?_|refine aU ?_|refine wp_skip ?_|refine wp_exit ?_|refine wp_ret ?_|refine aQ ?_|refine aR ?_|refine aP ?_|refine aC ?_|refine aD ?_|refine aB ?_|refine aM ?_|refine aL ?_|refine aO ?_|refine aK ?_|refine aJ ?_|refine aG ?_|refine aF ?_|refine aI ?_|refine aH ?_)
   |(with_reducible refine aV fun K hK=>?_
     simp[h,hx,jl,k1,k2,hq]
     repeat' (with_reducible first|refine hK _ ?_|(refine aw ?_ ?_<;>(intro hc;(try rw [za] at hc);first|(exfalso;omega)|(try simp [hc,h,hx,jl,k1,k2,hq]))))
     all_goals (clear hK;clear K))
   |(with_reducible refine aW ?_
     refine ⟨_,rfl,?_,?_⟩<;>(intro hc;(try simp at hc);(all_goals first|(exfalso;omega)|skip))))
  all_goals first|(exfalso;omega)|(refine ⟨_,by simp [rU];rfl,?_⟩;refine ⟨((⟨(c9 c k0 ab h).1.dV,(c9 c k0 ab h).1.Kind,(c9 c k0 ab h).1.C,(c9 c k0 ab h).1.G++[1]⟩:ak),(d375 (c9 c k0 ab h).2 10).2),?_,?_,?_,?_,?_⟩;(focus (first|(simp;done)|(simp [*];done)));(focus (exact p.1));(focus (exact p.2.1));(focus (simp only [zd,ze,zf];omega));(focus (exact pg)))
 by_cases k3:(d375 (c9 c k0 ab h).2 10).1=3
 ·repeat' (first
   |with_reducible (first|refine wp_seq ?_|refine aU ?_|refine wp_skip ?_|refine wp_exit ?_|refine wp_ret ?_|refine aQ ?_|refine aR ?_|refine aP ?_|refine aC ?_|refine aD ?_|refine aB ?_|refine aM ?_|refine aL ?_|refine aO ?_|refine aK ?_|refine aJ ?_|refine aG ?_|refine aF ?_|refine aI ?_|refine aH ?_)
   |(with_reducible refine aV fun K hK=>?_
     simp[h,hx,jl,k1,k2,k3]
     repeat' (with_reducible first|refine hK _ ?_|(refine aw ?_ ?_<;>(intro hc;(try rw [za] at hc);first|(exfalso;omega)|(try simp [hc,h,hx,jl,k1,k2,k3]))))
     all_goals (clear hK;clear K))
   |(with_reducible refine aW ?_
     refine ⟨_,rfl,?_,?_⟩<;>(intro hc;(try simp at hc);(all_goals first|(exfalso;omega)|skip))))
  all_goals first|(exfalso;omega)|(refine ⟨_,by simp [rU];rfl,?_⟩;refine ⟨((⟨(c9 c k0 ab h).1.dV,(c9 c k0 ab h).1.Kind,(d358 (d375 (c9 c k0 ab h).2 10).2 k0 ab hx).1,(c9 c k0 ab h).1.G⟩:ak),(d358 (d375 (c9 c k0 ab h).2 10).2 k0 ab hx).2),?_,?_,?_,?_,?_⟩;(focus (first|(simp;done)|(simp [*];done)));(focus (exact pz.1));(focus (exact pz.2));(focus (simp only;omega));(focus (exact p.2.2.2)))
 ·repeat' (first
   |with_reducible (first|refine wp_seq ?_|refine aU ?_|refine wp_skip ?_|refine wp_exit ?_|refine wp_ret ?_|refine aQ ?_|refine aR ?_|refine aP ?_|refine aC ?_|refine aD ?_|refine aB ?_|refine aM ?_|refine aL ?_|refine aO ?_|refine aK ?_|refine aJ ?_|refine aG ?_|refine aF ?_|refine aI ?_|refine aH ?_)
   |(with_reducible refine aV fun K hK=>?_
     simp[h,hx,jl,k1,k2,k3]
     repeat' (with_reducible first|refine hK _ ?_|(refine aw ?_ ?_<;>(intro hc;(try rw [za] at hc);first|(exfalso;omega)|(try simp [hc,h,hx,jl,k1,k2,k3]))))
     all_goals (clear hK;clear K))
   |(with_reducible refine aW ?_
     refine ⟨_,rfl,?_,?_⟩<;>(intro hc;(try simp at hc);(all_goals first|(exfalso;omega)|skip))))
  all_goals first|(exfalso;omega)|(refine ⟨_,by simp [rU];rfl,?_⟩;refine ⟨((c9 c k0 ab h).1,(d375 (c9 c k0 ab h).2 10).2),?_,?_,?_,?_,?_⟩;(focus (first|(simp;done)|(simp [*];done)));(focus (exact p.1));(focus (exact p.2.1));(focus (simp only;omega));(focus (exact p.2.2.2)))
noncomputable def nB (c:bc) (k0:Bool) (ab:List Int) (h:ab.length≤3):(ak)×bc:=zo (Ci c k0 ab h)
@[simp] theorem acO (c:bc) (k0:Bool) (ab:List Int) (h:ab.length≤3):Gw TT 472 [.ptr [.ro false (.sl 1 (c.b.map eb)),.ro false (di (c.i:Nat)),.ro false (di c.h)],.one (.ro k0 (.sl 1 (ab.map ei)))]=some (.st [.ro false (di (nB c k0 ab h).1.dV),.ro false (di (nB c k0 ab h).1.Kind),.ro false (di (nB c k0 ab h).1.C.Next),.own (.sl 2 ((nB c k0 ab h).1.C.L.map aj.e)),.own (.sl 1 ((nB c k0 ab h).1.G.map eb))],[(0,0,.ro false (.sl 1 ((nB c k0 ab h).2.b.map eb))),(0,1,.ro false (di ((nB c k0 ab h).2.i:Nat))),(0,2,.ro false (di (nB c k0 ab h).2.h))]):=(zh (Ci c k0 ab h)).1
theorem U7 (c:bc) (k0:Bool) (ab:List Int) (h:ab.length≤3):jV (nB c k0 ab h).1:=(zh (Ci c k0 ab h)).2
theorem Qd (hb:b.length≤1048576):∃r:List ak×Int×Int,Gw TT 439 [.one (.ro false (.sl 1 (b.map eb)))]=some (.a_ [.one (.own (.sl 5 (r.1.map ak.e))),vi r.2.1,vi r.2.2],[])∧(r.1.length≤4∧∀b∈r.1,jV b):=by
 suffices h0:∃y,Gw TT 439 [.one (.ro false (.sl 1 (b.map eb)))]=some y∧∃r:List ak×Int×Int,y=(.a_ [.one (.own (.sl 5 (r.1.map ak.e))),vi r.2.1,vi r.2.2],[])∧(r.1.length≤4∧∀b∈r.1,jV b) by
  obtain ⟨y,h1,r,rfl,h2⟩:=h0;exact ⟨r,h1,h2⟩
 refine eW (F:=Hr) rfl rfl ?_;show Wp _ E_ _ _;unfold E_;have pc:=Ef (eR b hb);have hc:(d399 (eR b hb)).1.length≤3:=pc.2;have pp:=Ni (d399 (eR b hb)).2 true (d399 (eR b hb)).1 hc
 repeat' (first
  |with_reducible (first|refine wp_seq ?_|refine aU ?_|refine wp_skip ?_|refine wp_exit ?_|refine wp_ret ?_|refine aQ ?_|refine aR ?_|refine aP ?_|refine aC ?_|refine aD ?_|refine aB ?_|refine aM ?_|refine aL ?_|refine aO ?_|refine aK ?_|refine aJ ?_|refine aG ?_|refine aF ?_|refine aI ?_|refine aH ?_)
  |(with_reducible refine aV fun K hK=>?_
    simp[hb,hc]
    repeat' (with_reducible first|refine hK _ ?_|(refine aw ?_ ?_<;>(intro hc;(try rw [za] at hc);first|(exfalso;omega)|(try simp [hc,hb,hc]))))
    all_goals (clear hK;clear K))
  |(with_reducible refine aW ?_
    refine ⟨_,rfl,?_,?_⟩<;>(intro hc;(try simp at hc);(all_goals first|(exfalso;omega)|skip))))
 all_goals first|(exfalso;omega)|(refine ⟨_,by simp [Hr];rfl,?_⟩;exact ⟨((mz (d399 (eR b hb)).2 true (d399 (eR b hb)).1 hc).1,(d375 (mz (d399 (eR b hb)).2 true (d399 (eR b hb)).1 hc).2 4).1,IntKind.wrap .i64 ((d375 (d375 (mz (d399 (eR b hb)).2 true (d399 (eR b hb)).1 hc).2 4).2 7).1-1)),by simp,pp.1,pp.2⟩)
theorem Qe (hb:b.length≤1048576):∃r:List ak×Int,Gw TT 440 [.one (.ro false (.sl 1 (b.map eb)))]=some (.a_ [.one (.own (.sl 5 (r.1.map ak.e))),vi r.2],[])∧(r.1.length≤4∧∀b∈r.1,jV b):=by
 suffices h0:∃y,Gw TT 440 [.one (.ro false (.sl 1 (b.map eb)))]=some y∧∃r:List ak×Int,y=(.a_ [.one (.own (.sl 5 (r.1.map ak.e))),vi r.2],[])∧(r.1.length≤4∧∀b∈r.1,jV b) by
  obtain ⟨y,h1,r,rfl,h2⟩:=h0;exact ⟨r,h1,h2⟩
 refine eW (F:=Hs) rfl rfl ?_;show Wp _ Fa _ _;unfold Fa;have pc:=Ef (eR b hb);have hc:(d399 (eR b hb)).1.length≤3:=pc.2;have pp:=Ni (d399 (eR b hb)).2 true (d399 (eR b hb)).1 hc
 repeat' (first
  |with_reducible (first|refine wp_seq ?_|refine aU ?_|refine wp_skip ?_|refine wp_exit ?_|refine wp_ret ?_|refine aQ ?_|refine aR ?_|refine aP ?_|refine aC ?_|refine aD ?_|refine aB ?_|refine aM ?_|refine aL ?_|refine aO ?_|refine aK ?_|refine aJ ?_|refine aG ?_|refine aF ?_|refine aI ?_|refine aH ?_)
  |(with_reducible refine aV fun K hK=>?_
    simp[hb,hc]
    repeat' (with_reducible first|refine hK _ ?_|(refine aw ?_ ?_<;>(intro hc;(try rw [za] at hc);first|(exfalso;omega)|(try simp [hc,hb,hc]))))
    all_goals (clear hK;clear K))
  |(with_reducible refine aW ?_
    refine ⟨_,rfl,?_,?_⟩<;>(intro hc;(try simp at hc);(all_goals first|(exfalso;omega)|skip))))
 all_goals first|(exfalso;omega)|(refine ⟨_,by simp [Hs];rfl,?_⟩;exact ⟨((mz (d399 (eR b hb)).2 true (d399 (eR b hb)).1 hc).1,IntKind.wrap .i64 ((d375 (mz (d399 (eR b hb)).2 true (d399 (eR b hb)).1 hc).2 6).1-1)),by simp,pp.1,pp.2⟩)
theorem Qf (hb:b.length≤1048576):∃r:List Int×ak,Gw TT 441 [.one (.ro false (.sl 1 (b.map eb)))]=some (.a_ [.one (.own (.sl 1 (r.1.map ei))),.st [.ro false (di r.2.dV),.ro false (di r.2.Kind),.ro false (di r.2.C.Next),.own (.sl 2 (r.2.C.L.map aj.e)),.own (.sl 1 (r.2.G.map eb))]],[])∧(r.1.length≤3∧jV r.2):=by
 suffices h0:∃y,Gw TT 441 [.one (.ro false (.sl 1 (b.map eb)))]=some y∧∃r:List Int×ak,y=(.a_ [.one (.own (.sl 1 (r.1.map ei))),.st [.ro false (di r.2.dV),.ro false (di r.2.Kind),.ro false (di r.2.C.Next),.own (.sl 2 (r.2.C.L.map aj.e)),.own (.sl 1 (r.2.G.map eb))]],[])∧(r.1.length≤3∧jV r.2) by
  obtain ⟨y,h1,r,rfl,h2⟩:=h0;exact ⟨r,h1,h2⟩
 refine eW (F:=Ht) rfl rfl ?_;show Wp _ Fb _ _;unfold Fb;have pc:=Ef (eR b hb);have hc:(d399 (eR b hb)).1.length≤3:=pc.2;have pp:=U7 (d399 (eR b hb)).2 true (d399 (eR b hb)).1 hc
 repeat' (first
  |with_reducible (first|refine wp_seq ?_|refine aU ?_|refine wp_skip ?_|refine wp_exit ?_|refine wp_ret ?_|refine aQ ?_|refine aR ?_|refine aP ?_|refine aC ?_|refine aD ?_|refine aB ?_|refine aM ?_|refine aL ?_|refine aO ?_|refine aK ?_|refine aJ ?_|refine aG ?_|refine aF ?_|refine aI ?_|refine aH ?_)
  |(with_reducible refine aV fun K hK=>?_
    simp[hb,hc]
    repeat' (with_reducible first|refine hK _ ?_|(refine aw ?_ ?_<;>(intro hc;(try rw [za] at hc);first|(exfalso;omega)|(try simp [hc,hb,hc]))))
    all_goals (clear hK;clear K))
  |(with_reducible refine aW ?_
    refine ⟨_,rfl,?_,?_⟩<;>(intro hc;(try simp at hc);(all_goals first|(exfalso;omega)|skip))))
 all_goals first|(exfalso;omega)|(refine ⟨_,by simp [Ht];rfl,?_⟩;exact ⟨((d399 (eR b hb)).1,(nB (d399 (eR b hb)).2 true (d399 (eR b hb)).1 hc).1),by simp,pc.2,pp⟩)
theorem Qg (hb:b.length≤1048576):∃r:Int,Gw TT 442 [.one (.ro false (.sl 1 (b.map eb)))]=some (vi r,[])∧(True):=by
 suffices h0:∃y,Gw TT 442 [.one (.ro false (.sl 1 (b.map eb)))]=some y∧∃r:Int,y=(vi r,[])∧(True) by
  obtain ⟨y,h1,r,rfl,h2⟩:=h0;exact ⟨r,h1,h2⟩
 refine eW (F:=Hu) rfl rfl ?_;show Wp _ Fc _ _;unfold Fc
 repeat' (first
  |with_reducible (first|refine wp_seq ?_|refine aU ?_|refine wp_skip ?_|refine wp_exit ?_|refine wp_ret ?_|refine aQ ?_|refine aR ?_|refine aP ?_|refine aC ?_|refine aD ?_|refine aB ?_|refine aM ?_|refine aL ?_|refine aO ?_|refine aK ?_|refine aJ ?_|refine aG ?_|refine aF ?_|refine aI ?_|refine aH ?_)
  |(with_reducible refine aV fun K hK=>?_
    simp[hb]
    repeat' (with_reducible first|refine hK _ ?_|(refine aw ?_ ?_<;>(intro hc;(try rw [za] at hc);first|(exfalso;omega)|(try simp [hc,hb]))))
    all_goals (clear hK;clear K))
  |(with_reducible refine aW ?_
    refine ⟨_,rfl,?_,?_⟩<;>(intro hc;(try simp at hc);(all_goals first|(exfalso;omega)|skip))))
 all_goals first|(exfalso;omega)|(refine ⟨_,by simp [Hu];rfl,?_⟩;exact ⟨IntKind.wrap .i64 ((d375 (eR b hb) 12).1-2),by simp,trivial⟩)
@[simp] theorem acP (l:List Int) (h:l.length≤1048576):Gw TT 473 [.one (.ro k0 (.sl 1 (l.map eb))),.one (.ro k1 (.sl 1 (l.map eb)))]=some (vb true,[]):=by
 refine dD (F:=Hy) rfl rfl ?_;show Wp _ Fl _ _;unfold Fl
 repeat' (first
  |with_reducible (first|refine wp_seq ?_|refine aU ?_|refine wp_skip ?_|refine wp_exit ?_|refine wp_ret ?_|refine aQ ?_|refine aR ?_|refine aP ?_|refine aC ?_|refine aD ?_|refine aB ?_|refine aM ?_|refine aL ?_|refine aO ?_|refine aK ?_|refine aJ ?_|refine aG ?_|refine aF ?_|refine aI ?_|refine aH ?_)
  |(with_reducible refine aV fun K hK=>?_
    simp
    repeat' (with_reducible first|refine hK _ ?_|(refine aw ?_ ?_<;>(intro hc;(try rw [za] at hc);first|(exfalso;omega)|(try simp [hc]))))
    all_goals (clear hK;clear K))
  |(with_reducible refine aW ?_
    refine ⟨_,rfl,?_,?_⟩<;>(intro hc;(try simp at hc);(all_goals first|(exfalso;omega)|skip))))
 refine ba (σ:=List Int×List Int) (fun s=>[(0,AV.v k0 (D.sl 1 (l.map eb)),none),(1,AV.v k1 (D.sl 1 (l.map eb)),none),(5,AV.v false (di ((s.1.length:Nat):Int)),none)]) (fun s=>l=s.1++s.2) (fun s=>s.2.length) ([],l) (by simp) rfl ?_;rintro ⟨pre,rest⟩ h1;simp only at h1;subst h1;simp only [zd,ze] at h;rcases rest with _|⟨d,rest⟩
 ·unfold Ij
  repeat' (first
   |with_reducible (first|refine wp_seq ?_|refine aU ?_|refine wp_skip ?_|refine wp_exit ?_|refine wp_ret ?_|refine aQ ?_|refine aR ?_|refine aP ?_|refine aC ?_|refine aD ?_|refine aB ?_|refine aM ?_|refine aL ?_|refine aO ?_|refine aK ?_|refine aJ ?_|refine aG ?_|refine aF ?_|refine aI ?_|refine aH ?_)
   |(with_reducible refine aV fun K hK=>?_
     simp
     repeat' (with_reducible first|refine hK _ ?_|(refine aw ?_ ?_<;>(intro hc;(try rw [za] at hc);first|(exfalso;omega)|(try simp [hc]))))
     all_goals (clear hK;clear K))
   |(with_reducible refine aW ?_
     refine ⟨_,rfl,?_,?_⟩<;>(intro hc;(try simp at hc);(all_goals first|(exfalso;omega)|skip))))
  all_goals first|(simp [Hy];done)|(exfalso;omega)
 ·unfold Ij;simp only [ze] at h;have hw:IntKind.wrap .i64 ((pre.length:Int)+1)=(pre.length:Int)+1:=wrap_i64 (by omega) (by omega)
  repeat' (first
   |with_reducible (first|refine wp_seq ?_|refine aU ?_|refine wp_skip ?_|refine wp_exit ?_|refine wp_ret ?_|refine aQ ?_|refine aR ?_|refine aP ?_|refine aC ?_|refine aD ?_|refine aB ?_|refine aM ?_|refine aL ?_|refine aO ?_|refine aK ?_|refine aJ ?_|refine aG ?_|refine aF ?_|refine aI ?_|refine aH ?_)
   |(with_reducible refine aV fun K hK=>?_
     simp[hw]
     repeat' (with_reducible first|refine hK _ ?_|(refine aw ?_ ?_<;>(intro hc;(try rw [za] at hc);first|(exfalso;omega)|(try simp [hc,hw]))))
     all_goals (clear hK;clear K))
   |(with_reducible refine aW ?_
     refine ⟨_,rfl,?_,?_⟩<;>(intro hc;(try simp at hc);(all_goals first|(exfalso;omega)|skip))))
  all_goals first|exact ⟨(pre++[d],rest),by simp,by simp,by simp⟩|(exfalso;omega)
@[simp] theorem acL (l:List ak) (h:l.length≤1048576) (hs:ak.aq l):Gw TT 443 [.one (.ro k0 (.sl 5 (l.map ak.e))),.one (.ro k1 (.sl 5 (l.map ak.e)))]=some (vb true,[]):=by
 refine dD (F:=Hv) rfl rfl ?_;show Wp _ Fe _ _;unfold Fe
 repeat' (first
  |with_reducible (first|refine wp_seq ?_|refine aU ?_|refine wp_skip ?_|refine wp_exit ?_|refine wp_ret ?_|refine aQ ?_|refine aR ?_|refine aP ?_|refine aC ?_|refine aD ?_|refine aB ?_|refine aM ?_|refine aL ?_|refine aO ?_|refine aK ?_|refine aJ ?_|refine aG ?_|refine aF ?_|refine aI ?_|refine aH ?_)
  |(with_reducible refine aV fun K hK=>?_
    simp
    repeat' (with_reducible first|refine hK _ ?_|(refine aw ?_ ?_<;>(intro hc;(try rw [za] at hc);first|(exfalso;omega)|(try simp [hc]))))
    all_goals (clear hK;clear K))
  |(with_reducible refine aW ?_
    refine ⟨_,rfl,?_,?_⟩<;>(intro hc;(try simp at hc);(all_goals first|(exfalso;omega)|skip))))
 refine ba (σ:=List ak×List ak) (fun s=>[(0,AV.v k0 (D.sl 5 (l.map ak.e)),none),(1,AV.v k1 (D.sl 5 (l.map ak.e)),none),(5,AV.v false (di ((s.1.length:Nat):Int)),none)]) (fun s=>l=s.1++s.2) (fun s=>s.2.length) ([],l) (by simp) rfl ?_;rintro ⟨pre,rest⟩ h1;simp only at h1;subst h1;simp only [zd,ze] at h;rcases rest with _|⟨d,rest⟩
 ·unfold Ib
  repeat' (first
   |with_reducible (first|refine wp_seq ?_|refine aU ?_|refine wp_skip ?_|refine wp_exit ?_|refine wp_ret ?_|refine aQ ?_|refine aR ?_|refine aP ?_|refine aC ?_|refine aD ?_|refine aB ?_|refine aM ?_|refine aL ?_|refine aO ?_|refine aK ?_|refine aJ ?_|refine aG ?_|refine aF ?_|refine aI ?_|refine aH ?_)
   |(with_reducible refine aV fun K hK=>?_
     simp
     repeat' (with_reducible first|refine hK _ ?_|(refine aw ?_ ?_<;>(intro hc;(try rw [za] at hc);first|(exfalso;omega)|(try simp [hc]))))
     all_goals (clear hK;clear K))
   |(with_reducible refine aW ?_
     refine ⟨_,rfl,?_,?_⟩<;>(intro hc;(try simp at hc);(all_goals first|(exfalso;omega)|skip))))
  all_goals first|(simp [Hv];done)|(exfalso;omega)
 ·unfold Ib;simp only [ze] at h;have hd:=hs d (by simp);obtain ⟨⟨d1,d2⟩,d3⟩:=hd;have hw:IntKind.wrap .i64 ((pre.length:Int)+1)=(pre.length:Int)+1:=wrap_i64 (by omega) (by omega)
  repeat' (first
   |with_reducible (first|refine wp_seq ?_|refine aU ?_|refine wp_skip ?_|refine wp_exit ?_|refine wp_ret ?_|refine aQ ?_|refine aR ?_|refine aP ?_|refine aC ?_|refine aD ?_|refine aB ?_|refine aM ?_|refine aL ?_|refine aO ?_|refine aK ?_|refine aJ ?_|refine aG ?_|refine aF ?_|refine aI ?_|refine aH ?_)
   |(with_reducible refine aV fun K hK=>?_
     simp[hw,d1,d2,d3]
     repeat' (with_reducible first|refine hK _ ?_|(refine aw ?_ ?_<;>(intro hc;(try rw [za] at hc);first|(exfalso;omega)|(try simp [hc,hw,d1,d2,d3]))))
     all_goals (clear hK;clear K))
   |(with_reducible refine aW ?_
     refine ⟨_,rfl,?_,?_⟩<;>(intro hc;(try simp at hc);(all_goals first|(exfalso;omega)|skip))))
  all_goals first|exact ⟨(pre++[d],rest),by simp,by simp,by simp⟩|(exfalso;omega)
theorem OS:∀l:List aa,pF (l.zip l)=true
 |[]=>rfl
 |v::l=>by simp [pF,fL,OS l]
theorem N0:∀l:List aj,nZ (l.zip l)=true
 |[]=>rfl
 |v::l=>by simp [nZ,Bh,tZ,OS v.L,N0 l]
theorem Kf:∀l:List ak,oq (l.zip l)=true
 |[]=>rfl
 |v::l=>by simp [oq,xb,B3,qB,N0 v.C.L,Kf l]
theorem Vd (l:List ak):wD l l=true:=by simp [wD,Kf l]
def fw:List ak→Nat
 |[]=>0
 |d::l=>(if d.Kind=0 then 1 else 0)+fw l
theorem Ld:∀l:List ak,fw l≤l.length
 |[]=>by simp [fw]
 |d::l=>by have:=Ld l;simp only [fw,ze];split<;>omega
theorem qX:∀(l:List ak) (n:Nat),n+l.length≤1048576→ix (n:Int) l=((n+fw l:Nat):Int)
 |[],n,_=>by simp [ix,fw]
 |d::l,n,h=>by
  simp only [ze] at h;simp only [ix,fw];split
  ·rw [wrap_i64 (by omega) (by omega)];have:=qX l (n+1) (by omega);rw [Int.natCast_add] at this;simp only [Int.natCast_one] at this;rw [this];congr 1;omega
  ·rw [qX l n (by omega)];congr 1;omega
theorem uF:∀(p q:List ak),fw (p++q)=fw p+fw q
 |[],q=>by simp [fw]
 |d::p,q=>by simp only [List.cons_append,fw,uF p q];omega
theorem Lb:∀(l:List ak) (n:Nat),dn n l=none→fw l=0
 |[],n,_=>rfl
 |d::l,n,h=>by
  simp only [dn] at h;split at h
  ·cases h
  ·rename_i e;simp only [fw,if_neg e,Lb l (n+1) h]
theorem Lc:∀(l:List ak) (n m:Nat),dn n l=some m→∃p d q,l=p++d::q∧m=n+p.length∧d.Kind=0
 |[],n,m,h=>by simp [dn] at h
 |d::l,n,m,h=>by
  simp only [dn] at h;split at h
  ·rename_i e;cases h;exact ⟨[],d,l,rfl,by simp,e⟩
  ·obtain ⟨p,d',q,h1,h2,h3⟩:=Lc l (n+1) m h;exact ⟨d::p,d',q,by rw [h1];rfl,by simp only [ze];omega,h3⟩
theorem WY {kind slots:Int} {l:List ak} (h:ff kind l<0):eF kind slots l=l∧(¬ix 0 l=0→¬kind=1∧¬kind=2)∨1048576<l.length:=by
 by_cases hl:l.length≤1048576
 ·refine .inl ?_;unfold ff at h;unfold eF;split at h
  ·rename_i hk;rw [if_pos hk];split at h
   ·omega
   ·rename_i hn;try rw [hn]
    refine ⟨rfl,fun h0=>absurd ?_ h0⟩;have:=qX l 0 (by omega);rw [Lb l 0 hn] at this;simpa using this
  ·rename_i hk;rw [if_neg hk];exact ⟨rfl,fun _=>⟨fun e=>hk (.inl e),fun e=>hk (.inr e)⟩⟩
 ·exact .inr (by omega)
theorem WW {kind slots:Int} {l:List ak} (h:¬ff kind l<0) (hl:l.length≤1048576):∃(p:List ak) (d b:ak) (q:List ak),l=p++d::q∧d.Kind=0∧ff kind l=(p.length:Int)∧eF kind slots l=p++b::q∧b.Kind=kind∧b.dV=d.dV∧gx (ff kind l) (eF kind slots l)=p++⟨IntKind.wrap .i64 (d.dV+1),0,⟨0,[]⟩,[]⟩::q∧ix 0 l=((fw p+fw q+1:Nat):Int)∧ix 0 (eF kind slots l)=((fw p+fw q:Nat):Int)∧ix 0 (gx (ff kind l) (eF kind slots l))=((fw p+fw q+1:Nat):Int):=by
 have hk:kind=1∨kind=2:=by
  apply Classical.byContradiction;intro hk;unfold ff at h;rw [if_neg hk] at h;omega
 cases hf:dn 0 l with
 |none=>unfold ff at h;rw [if_pos hk,hf] at h;simp at h
 |some m=>
  obtain ⟨p,d,q,h1,h2,h3⟩:=Lc l 0 m hf;have hm:m=p.length:=by omega
  subst hm;have hg:l[p.length]?=some d:=by rw [h1];simp
  have hR:ff kind l=(p.length:Int):=by unfold ff;rw [if_pos hk,hf]
  have hs:∀b,l.set p.length b=p++b::q:=fun b=>by rw [h1];simp
  have hL:eF kind slots l=p++lz kind slots d::q:=by
   unfold eF;rw [if_pos hk,hf];simp only [hg];exact hs _
  have iP:(lz kind slots d).Kind=kind:=by
   unfold lz;split
   ·rename_i e;exact e.symm
   ·rename_i e;rcases hk with hk|hk
    ·exact absurd hk e
    ·exact hk.symm
  have jx:(lz kind slots d).dV=d.dV:=by unfold lz;split<;>rfl
  have nG:¬kind=0:=by omega
  have hG:gx (ff kind l) (eF kind slots l)=p++⟨IntKind.wrap .i64 (d.dV+1),0,⟨0,[]⟩,[]⟩::q:=by
   rw [hR,hL];unfold gx;simp [iP,jx,nG]
  have cI:l.length=p.length+(q.length+1):=by rw [h1];simp
  refine ⟨p,d,lz kind slots d,q,h1,h3,hR,hL,iP,jx,hG,?_,?_,?_⟩
  ·have:=qX l 0 (by omega);rw [h1] at this ⊢;rw [uF] at this;simp only [fw,if_pos h3,zy] at this;refine zH this ?_;congr 1;omega
  ·rw [hL];have:=qX (p++lz kind slots d::q) 0 (by simp;omega);rw [uF] at this;simp only [fw,iP,if_neg nG,zy] at this;exact this
  ·rw [hG];have:=qX (p++⟨IntKind.wrap .i64 (d.dV+1),0,⟨0,[]⟩,[]⟩::q) 0 (by simp;omega);rw [uF] at this;simp only [fw,if_true,zy] at this;refine zH this ?_;congr 1;omega
theorem T_:ix 0 (l6 3)=3:=by
 have:=qX (l6 3) 0 (by simp [l6]);refine zH this ?_;rfl
theorem Ws (code:List Int) (nM:code.length≤9223372036854775807):Gw TT 420 [.one (.ro false (.sl 1 (code.map eb)))]=some (vb true,[]):=by
 refine dD (F:=tF) rfl rfl ?_;show Wp _ E7 _ _;unfold E7;by_cases hb:code.length≤1048576
 ·have jx:¬(1048576<(code.length:Int)):=by omega
  obtain ⟨⟨l,kind,slots⟩,g1,a1,a2⟩:=Qd code hb;obtain ⟨⟨m,j⟩,g2,b1,b2⟩:=Qe code hb;obtain ⟨⟨ab,⟨bg,bk,⟨bn,bl⟩,bs⟩⟩,g3,c1,c2,c3,c4,c5⟩:=Qf code hb;obtain ⟨n,g4,_⟩:=Qg code hb;simp only at g1 a1 a2 g2 b1 b2 g3 c1 c2 c3 c4 c5 g4;have l1:l.length≤1048576:=by omega
  have ke:=Ke a2;have xl:(eF kind slots l).length≤1048576:=by rw [WU];exact l1
  have xs:=WV kind slots l ke;have m1:m.length≤1048576:=by omega
  have ms:=Ke b2;have yl:(gx j m).length≤1048576:=by rw [Lr];exact m1
  have ys:=Ls j m ms;have nl:=Nt n;have ns:=Ve n;have zl:(gx (ff kind l) (eF kind slots l)).length≤1048576:=by rw [Lr];exact xl
  have dG:ab.length≤1048576:=by omega
  have hl:bl.length≤1048576:=by omega
  have cC:=c3;have hg:bs.length≤1048576:=by omega
  have mK:=c5;have j9:=Vd l;by_cases hr:ff kind l<0
  ·rcases WY (slots:=slots) hr with ⟨o1,o2⟩|o
   ·by_cases h0:ix 0 l=0
    ·repeat' (first
      |with_reducible (first|refine wp_seq ?_|refine aU ?_|refine wp_skip ?_|refine wp_exit ?_|refine wp_ret ?_|refine aQ ?_|refine aR ?_|refine aP ?_|refine aC ?_|refine aD ?_|refine aB ?_|refine aM ?_|refine aL ?_|refine aO ?_|refine aK ?_|refine aJ ?_|refine aG ?_|refine aF ?_|refine aI ?_|refine aH ?_)
      |(with_reducible refine aV fun K hK=>?_
        simp[nM,jx,g1,g2,g3,g4,l1,ke,xl,xs,yl,ys,nl,ns,dG,hl,cC,hg,mK,j9,m1,ms,hr,o1,h0]
        repeat' (with_reducible first|refine hK _ ?_|(refine aw ?_ ?_<;>(intro hc;(try rw [za] at hc);first|(exfalso;omega)|(try simp [hc,nM,jx,g1,g2,g3,g4,l1,ke,xl,xs,yl,ys,nl,ns,dG,hl,cC,hg,mK,j9,m1,ms,hr,o1,h0]))))
        all_goals (clear hK;clear K))
      |(with_reducible refine aW ?_
        refine ⟨_,rfl,?_,?_⟩<;>(intro hc;(try simp at hc);(all_goals first|(exfalso;omega)|skip))))
     all_goals first|(simp [tF];done)|(exfalso;omega)
    ·obtain ⟨o3,o4⟩:=o2 h0
     repeat' (first
      |with_reducible (first|refine wp_seq ?_|refine aU ?_|refine wp_skip ?_|refine wp_exit ?_|refine wp_ret ?_|refine aQ ?_|refine aR ?_|refine aP ?_|refine aC ?_|refine aD ?_|refine aB ?_|refine aM ?_|refine aL ?_|refine aO ?_|refine aK ?_|refine aJ ?_|refine aG ?_|refine aF ?_|refine aI ?_|refine aH ?_)
      |(with_reducible refine aV fun K hK=>?_
        simp[nM,jx,g1,g2,g3,g4,l1,ke,xl,xs,yl,ys,nl,ns,dG,hl,cC,hg,mK,j9,m1,ms,hr,o1,h0,o3,o4]
        repeat' (with_reducible first|refine hK _ ?_|(refine aw ?_ ?_<;>(intro hc;(try rw [za] at hc);first|(exfalso;omega)|(try simp [hc,nM,jx,g1,g2,g3,g4,l1,ke,xl,xs,yl,ys,nl,ns,dG,hl,cC,hg,mK,j9,m1,ms,hr,o1,h0,o3,o4]))))
        all_goals (clear hK;clear K))
      |(with_reducible refine aW ?_
        refine ⟨_,rfl,?_,?_⟩<;>(intro hc;(try simp at hc);(all_goals first|(exfalso;omega)|skip))))
     all_goals first|(simp [tF,o3,o4];done)|(exfalso;omega)
   ·exfalso;omega
  ·obtain ⟨p,d,b,q,e1,e2,e3,e4,e5,e6,e7,e8,e9,KW⟩:=WW (slots:=slots) hr l1;have cX:=T_;have Mg:=Nt 3;have i1:l[p.length]?=some d:=by rw [e1];simp
   have i2:(eF kind slots l)[p.length]?=some b:=by rw [e4];simp
   have i3:(gx (ff kind l) (eF kind slots l))[p.length]?=some ⟨IntKind.wrap .i64 (d.dV+1),0,⟨0,[]⟩,[]⟩:=by rw [e7];simp
   obtain ⟨j1,k1⟩:=zb.1 i1;obtain ⟨j2,k2⟩:=zb.1 i2;obtain ⟨j3,k3⟩:=zb.1 i3
   obtain ⟨N,n1,n2,n3,n4⟩:∃N:Int,ix 0 l=N+1∧ix 0 (eF kind slots l)=N∧ix 0 (gx (ff kind l) (eF kind slots l))=N+1∧0≤N∧N≤4:=by
    have:=Ld l;rw [e1,uF] at this;simp only [fw,if_pos e2] at this;rw [←e1] at this;exact ⟨((fw p+fw q:Nat):Int),by rw [e8];omega,e9,by rw [KW];omega,by omega,by omega⟩
   obtain ⟨n4,n5⟩:=n4;have w1:IntKind.wrap .i64 N=N:=wrap_i64 (by omega) (by omega);clear e8 e9 KW;have zs:=Ls (ff kind l) _ xs;simp only [e3] at zl zs n3 i3 j3 k3;have h0:¬((p.length:Nat):Int)<0:=by omega
   clear e1 e4 e7
   repeat' (first
    |with_reducible (first|refine wp_seq ?_|refine aU ?_|refine wp_skip ?_|refine wp_exit ?_|refine wp_ret ?_|refine aQ ?_|refine aR ?_|refine aP ?_|refine aC ?_|refine aD ?_|refine aB ?_|refine aM ?_|refine aL ?_|refine aO ?_|refine aK ?_|refine aJ ?_|refine aG ?_|refine aF ?_|refine aI ?_|refine aH ?_)
    |(with_reducible refine aV fun K hK=>?_
      simp[nM,jx,g1,g2,g3,g4,l1,ke,xl,xs,yl,ys,nl,ns,dG,hl,cC,hg,mK,j9,m1,ms,h0,e3,zl,zs,i1,i2,i3,j1,j2,j3,k1,k2,k3,e5,e6,n1,n2,n3,w1,cX,Mg]
      repeat' (with_reducible first|refine hK _ ?_|(refine aw ?_ ?_<;>(intro hc;(try rw [za] at hc);first|(exfalso;omega)|(try simp [hc,nM,jx,g1,g2,g3,g4,l1,ke,xl,xs,yl,ys,nl,ns,dG,hl,cC,hg,mK,j9,m1,ms,h0,e3,zl,zs,i1,i2,i3,j1,j2,j3,k1,k2,k3,e5,e6,n1,n2,n3,w1,cX,Mg]))))
      all_goals (clear hK;clear K))
    |(with_reducible refine aW ?_
      refine ⟨_,rfl,?_,?_⟩<;>(intro hc;(try simp at hc);(all_goals first|(exfalso;omega)|skip))))
   all_goals first|(simp [tF];done)|(exfalso;omega)
 ·have jx:1048576<(code.length:Int):=by omega
  repeat' (first
   |with_reducible (first|refine wp_seq ?_|refine aU ?_|refine wp_skip ?_|refine wp_exit ?_|refine wp_ret ?_|refine aQ ?_|refine aR ?_|refine aP ?_|refine aC ?_|refine aD ?_|refine aB ?_|refine aM ?_|refine aL ?_|refine aO ?_|refine aK ?_|refine aJ ?_|refine aG ?_|refine aF ?_|refine aI ?_|refine aH ?_)
   |(with_reducible refine aV fun K hK=>?_
     simp[nM,jx]
     repeat' (with_reducible first|refine hK _ ?_|(refine aw ?_ ?_<;>(intro hc;(try rw [za] at hc);first|(exfalso;omega)|(try simp [hc,nM,jx]))))
     all_goals (clear hK;clear K))
   |(with_reducible refine aW ?_
     refine ⟨_,rfl,?_,?_⟩<;>(intro hc;(try simp at hc);(all_goals first|(exfalso;omega)|skip))))
  all_goals first|(simp [tF];done)|(exfalso;omega)
end Go.Proofs.YtohlfelngklcfaaGreat.OM
