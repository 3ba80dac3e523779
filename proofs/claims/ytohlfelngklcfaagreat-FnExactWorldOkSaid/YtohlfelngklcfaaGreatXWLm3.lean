/- A part of the proof. -/
import Derived.Test.YtohlfelngklcfaaGreatXWLm2
set_option linter.all false
namespace Go.Proofs.YtohlfelngklcfaaGreat.OM
open List renaming getElem?_eq_some_iff→za,mem_of_getElem?→zb,getElem?_eq_getElem→zd,length_append→ze,length_cons→zh,length_nil→zj,all_cons→zk
open Bool renaming true_and→zf,and_eq_true→zi,false_and→zn
open Int renaming toNat_natCast→zg
open Option renaming getD_some→zm
set_option maxHeartbeats 4000000
set_option maxRecDepth 100000
variable (oB:Int) (x:an) (s:ByteArray) (cols:List Int) (k0 k1:Bool) (b:List Int) (d:List ab) (af rA:List Int) (iL xZ eu:Int) (oC:List aA) (n u w dB ax x8 fP cd ty du aM xX iy sA nG k:Int) (xY:Bool) (bJ:ByteArray) (aG:Int) (fA:List bp) (qL nF kN ak:Int) (eI:List Int) (nH kL aI nJ:Int) (ft:ByteArray) (aK nI:Int) (au:List aL) (ke:ByteArray) (ae:List aU) (ik:List an) (aj:List Int) (cH:Int) (aw:List cD) (cG:Int) (j_ aH:List Int) (jl sF dG cO:Int) (aq:List bM) (jO dF:Int) (az:List ca) (dU:List ab) (cV:ByteArray) (bo aW fB bz ay iN bV dO iP bj:Int) (bq:List ab) (iO aZ bf iQ bB iS bD iR bC:Int) (fD:ByteArray) (bE:Int) (dQ:List an) (bH iM bF:Int) (fC:List Int) (bw:ByteArray) (mX:List aA) (jR:Int) (br:List an) (uv ef bA:Int) (uu:Bool) (ao:List aL) (bu:List Int) (ux jP bt uw jQ bY:Int) (pX:ByteArray) (aF:List aL) (sy aR sE bm sB bX sC bW sD aO:Int) (b_:Bool) (b9:List aA) (cQ kd cS:Int) (l cj:List ab) (left cp cx cz cy cA cC cB:Int) (ct:ByteArray) (cg:List an) (cw:Int) (cq:List Int) (de:List aA) (dc:Int) (db:Bool) (dj dg:Int) (dh:ByteArray) (cZ dm c9 c_ cR:Int)
theorem al8 (k:Nat) (aW ay dO:Int) (bq:List ab) (bf bB:Int) (bD bC:Int) (bE bH bF:Int) (bw:ByteArray) (br:List an) (bA:Int) (bu:List Int) (bt bY:Int) (aF:List aL) (aR bm:Int) (bX bW aO:Int) (b_:Bool) (b9:List aA) (aD:af.length≤1048576) (cT:ae.length≤1048576) (hs:aU.aJ ae) (hG:∀b∈ae,b.G.length≤1048576∧bI b.G) (qj:az.length≤1048576) (qm:ca.aJ az) (hk:aq[k]?=some ⟨aW,ay,dO,bq,bf,⟨bB,⟨bD,bC,bE,⟨bH,bF,bw⟩,br⟩,bA,bu⟩,bt,bY,aF,aR,bm,bX,bW,aO,b_,b9⟩) (hm:bM.sm ⟨aW,ay,dO,bq,bf,⟨bB,⟨bD,bC,bE,⟨bH,bF,bw⟩,br⟩,bA,bu⟩,bt,bY,aF,aR,bm,bX,bW,aO,b_,b9⟩) (p:Int) (hp:aH[k]?=some p):Gw TT 454 [.st (cb k0 af ax aM aG ak aI aK au ae aj aw aH aq az),vi (k:Int)]=some (vb (wJ af ax ae aj.length ak az (k:Int) p ⟨aW,ay,dO,bq,bf,⟨bB,⟨bD,bC,bE,⟨bH,bF,bw⟩,br⟩,bA,bu⟩,bt,bY,aF,aR,bm,bX,bW,aO,b_,b9⟩),[]):=by
 refine Ga oZ OX ?_;unfold OX;obtain ⟨jd,pG⟩:=za.1 hk;obtain ⟨cJ,ku⟩:=za.1 hp;simp only [bM.sm,ia.sm,an.iJ,ab.sm,and_assoc] at hm;obtain ⟨m1,m2,m3,m4,m5,m6,m7,m8,m9⟩:=hm;have t0:=ada (k:=(k:Int)) (t:=⟨aW,ay,dO,bq,bf,⟨bB,⟨bD,bC,bE,⟨bH,bF,bw⟩,br⟩,bA,bu⟩,bt,bY,aF,aR,bm,bX,bW,aO,b_,b9⟩);simp only [Bc] at t0;simp only [wJ,Bc];generalize hA:oA (nj (k:Int) ay dO bf bt bY aR bm bX bW aO aF.length) aF (pV (k:Int) aW bf (pj ay dO bq bf (qC bB bD bC bE bH bF bw br bA bu) bt bY aF aR bm bX bW aO b_ b9))=aa at t0 ⊢;cases aa with
 |false=>
  refine Ud (J8 m1 m2 m3 m4 m5 m6 m7 (J8 m8 m9 hk jd pG hp cJ (J3 ku cT hA))) ?_;repeat intro hc
  simp [oZ]
 |true=>
 obtain ⟨u1,u2,u3,u4,u5,u6,u7⟩:=t0 rfl;by_cases hq:((p !=-1)==pQ aW ay)=true
 rotate_left
 ·have e2:pQ aW ay=!(p !=-1):=by revert hq;cases (p !=-1)<;>cases pQ aW ay<;>simp
  refine Ud (J8 m1 m2 m3 m4 m5 m6 m7 (J8 m8 m9 hk jd pG hp cJ (J4 ku cT hA e2))) ?_;repeat intro hc
  simp [oZ,e2]
 have e2:pQ aW ay=(p !=-1):=by revert hq;cases (p !=-1)<;>cases pQ aW ay<;>simp
 rw [hq];by_cases o0:aW=0
 ·subst o0;have u8:=u6 rfl;skip;subst u8;have ho:cL ae ax 0 ay 0=true:=by simp [cL]
  refine Ud (J8 m1 m2 m3 m4 m5 m6 m7 (J8 m8 m9 hk jd pG hp cJ (J5 ku cT hA e2 ho))) ?_;repeat intro hc
  simp [oZ]
 rw [if_neg o0];cases ho:cL ae ax aW ay aO with
 |false=>
  have hr:uo af ax ae aj.length ak az (k:Int) ⟨aW,ay,dO,bq,bf,⟨bB,⟨bD,bC,bE,⟨bH,bF,bw⟩,br⟩,bA,bu⟩,bt,bY,aF,aR,bm,bX,bW,aO,b_,b9⟩=false:=by
   simp only [uo];cases az[dO.toNat]? with
   |none=>simp
   |some d=>simp [ho]
  refine Ud (J8 m1 m2 m3 m4 m5 m6 m7 (J8 m8 m9 hk jd pG hp cJ (J5 ku cT hA e2 ho))) ?_;repeat intro hc
  simp [oZ,hr]
 |true=>
 by_cases g:dO<(az.length:Int)
 rotate_left
 ·have hr:uo af ax ae aj.length ak az (k:Int) ⟨aW,ay,dO,bq,bf,⟨bB,⟨bD,bC,bE,⟨bH,bF,bw⟩,br⟩,bA,bu⟩,bt,bY,aF,aR,bm,bX,bW,aO,b_,b9⟩=false:=by simp only [uo,decide_eq_false g,zn]
  have g2:(az.length:Int)≤dO:=by omega
  refine Ud (J8 m1 m2 m3 m4 m5 m6 m7 (J8 m8 m9 hk jd pG hp cJ (J7 ku cT hA e2 ho o0 g2))) ?_;repeat intro hc
  simp [oZ,hr]
 obtain ⟨n,rfl⟩:=Int.eq_ofNat_of_zero_le u1;have dL:n<az.length:=by omega
 have g2:¬(az.length:Int)≤(n:Int):=by omega
 obtain ⟨⟨cQ,cS,cj,cp,⟨cx,⟨cz,cy,cA,⟨cC,cB,ct⟩,cg⟩,cw,cq⟩,⟨de,dc,db,⟨dj,dg,dh⟩⟩,cZ,dm,c9,c_,cR⟩,hd⟩:∃s,az[n]?=some s:=⟨_,zd dL⟩;have eo:=(za.1 hd).2;have eW:=qm _ (zb hd);simp only [ca.sm,ia.sm,an.iJ,ab.sm,and_assoc] at eW;obtain ⟨Fw,_,JC,JD,JE,JF,_⟩:=eW;have lF:uo af ax ae aj.length ak az (k:Int) ⟨aW,ay,((n:Nat):Int),bq,bf,⟨bB,⟨bD,bC,bE,⟨bH,bF,bw⟩,br⟩,bA,bu⟩,bt,bY,aF,aR,bm,bX,bW,aO,b_,b9⟩=(lG (k:Int) ⟨aW,ay,((n:Nat):Int),bq,bf,⟨bB,⟨bD,bC,bE,⟨bH,bF,bw⟩,br⟩,bA,bu⟩,bt,bY,aF,aR,bm,bX,bW,aO,b_,b9⟩ ⟨cQ,cS,cj,cp,⟨cx,⟨cz,cy,cA,⟨cC,cB,ct⟩,cg⟩,cw,cq⟩,⟨de,dc,db,⟨dj,dg,dh⟩⟩,cZ,dm,c9,c_,cR⟩&&(aF.all (mA ae)&&(cL ae ax aW ay aO&&fg af ae aj.length ak ⟨aW,ay,((n:Nat):Int),bq,bf,⟨bB,⟨bD,bC,bE,⟨bH,bF,bw⟩,br⟩,bA,bu⟩,bt,bY,aF,aR,bm,bX,bW,aO,b_,b9⟩ ⟨cQ,cS,cj,cp,⟨cx,⟨cz,cy,cA,⟨cC,cB,ct⟩,cg⟩,cw,cq⟩,⟨de,dc,db,⟨dj,dg,dh⟩⟩,cZ,dm,c9,c_,cR⟩))):=by simp only [uo,decide_eq_true g,zf,zg,hd]
 rw [lF];refine Ud (J8 m1 m2 m3 m4 m5 m6 m7 (J8 m8 m9 hk jd pG hp cJ (J8 ku cT hA e2 ho o0 g2 (J3 hd dL eo)))) ?_;repeat intro hc
 refine ajo k0 af ax aM aG ak aI aK au ae aj aw aH aq az aW ay _ bq bf bB bD bC bE bH bF bw br bA bu bt bY aF aR bm bX bW aO b_ b9 _ m7 cT (fun e=>?_) (fun e=>?_)
 rotate_left
 ·have hr:(lG (k:Int) ⟨aW,ay,((n:Nat):Int),bq,bf,⟨bB,⟨bD,bC,bE,⟨bH,bF,bw⟩,br⟩,bA,bu⟩,bt,bY,aF,aR,bm,bX,bW,aO,b_,b9⟩ ⟨cQ,cS,cj,cp,⟨cx,⟨cz,cy,cA,⟨cC,cB,ct⟩,cg⟩,cw,cq⟩,⟨de,dc,db,⟨dj,dg,dh⟩⟩,cZ,dm,c9,c_,cR⟩&&(aF.all (mA ae)&&(cL ae ax aW ay aO&&fg af ae aj.length ak ⟨aW,ay,((n:Nat):Int),bq,bf,⟨bB,⟨bD,bC,bE,⟨bH,bF,bw⟩,br⟩,bA,bu⟩,bt,bY,aF,aR,bm,bX,bW,aO,b_,b9⟩ ⟨cQ,cS,cj,cp,⟨cx,⟨cz,cy,cA,⟨cC,cB,ct⟩,cg⟩,cw,cq⟩,⟨de,dc,db,⟨dj,dg,dh⟩⟩,cZ,dm,c9,c_,cR⟩)))=false:=by rw [e,zn,Bool.and_false]
  refine Ud Oo ?_;simp [oZ,hr]
 have qp:∀r∈aF,jk ae r.dW r.fW r.Kind r.ek=true:=fun r hr=>List.all_eq_true.1 e r hr
 rw [e,ho,zf,zf];by_cases w1:cS=(k:Int)
 rotate_left
 ·have hr:(lG (k:Int) ⟨aW,ay,((n:Nat):Int),bq,bf,⟨bB,⟨bD,bC,bE,⟨bH,bF,bw⟩,br⟩,bA,bu⟩,bt,bY,aF,aR,bm,bX,bW,aO,b_,b9⟩ ⟨cQ,cS,cj,cp,⟨cx,⟨cz,cy,cA,⟨cC,cB,ct⟩,cg⟩,cw,cq⟩,⟨de,dc,db,⟨dj,dg,dh⟩⟩,cZ,dm,c9,c_,cR⟩&&fg af ae aj.length ak ⟨aW,ay,((n:Nat):Int),bq,bf,⟨bB,⟨bD,bC,bE,⟨bH,bF,bw⟩,br⟩,bA,bu⟩,bt,bY,aF,aR,bm,bX,bW,aO,b_,b9⟩ ⟨cQ,cS,cj,cp,⟨cx,⟨cz,cy,cA,⟨cC,cB,ct⟩,cg⟩,cw,cq⟩,⟨de,dc,db,⟨dj,dg,dh⟩⟩,cZ,dm,c9,c_,cR⟩)=false:=by simp [lG,w1]
  refine Ud (J4 hd dL eo w1) ?_;repeat intro hc
  simp [oZ,hr]
 by_cases w2:cQ=aW
 rotate_left
 ·have hr:(lG (k:Int) ⟨aW,ay,((n:Nat):Int),bq,bf,⟨bB,⟨bD,bC,bE,⟨bH,bF,bw⟩,br⟩,bA,bu⟩,bt,bY,aF,aR,bm,bX,bW,aO,b_,b9⟩ ⟨cQ,cS,cj,cp,⟨cx,⟨cz,cy,cA,⟨cC,cB,ct⟩,cg⟩,cw,cq⟩,⟨de,dc,db,⟨dj,dg,dh⟩⟩,cZ,dm,c9,c_,cR⟩&&fg af ae aj.length ak ⟨aW,ay,((n:Nat):Int),bq,bf,⟨bB,⟨bD,bC,bE,⟨bH,bF,bw⟩,br⟩,bA,bu⟩,bt,bY,aF,aR,bm,bX,bW,aO,b_,b9⟩ ⟨cQ,cS,cj,cp,⟨cx,⟨cz,cy,cA,⟨cC,cB,ct⟩,cg⟩,cw,cq⟩,⟨de,dc,db,⟨dj,dg,dh⟩⟩,cZ,dm,c9,c_,cR⟩)=false:=by simp [lG,w2]
  refine Ud (J5 hd dL eo (eq_true w1) w2) ?_;repeat intro hc
  simp [oZ,hr]
 by_cases w3:cR=-1
 rotate_left
 ·have hr:(lG (k:Int) ⟨aW,ay,((n:Nat):Int),bq,bf,⟨bB,⟨bD,bC,bE,⟨bH,bF,bw⟩,br⟩,bA,bu⟩,bt,bY,aF,aR,bm,bX,bW,aO,b_,b9⟩ ⟨cQ,cS,cj,cp,⟨cx,⟨cz,cy,cA,⟨cC,cB,ct⟩,cg⟩,cw,cq⟩,⟨de,dc,db,⟨dj,dg,dh⟩⟩,cZ,dm,c9,c_,cR⟩&&fg af ae aj.length ak ⟨aW,ay,((n:Nat):Int),bq,bf,⟨bB,⟨bD,bC,bE,⟨bH,bF,bw⟩,br⟩,bA,bu⟩,bt,bY,aF,aR,bm,bX,bW,aO,b_,b9⟩ ⟨cQ,cS,cj,cp,⟨cx,⟨cz,cy,cA,⟨cC,cB,ct⟩,cg⟩,cw,cq⟩,⟨de,dc,db,⟨dj,dg,dh⟩⟩,cZ,dm,c9,c_,cR⟩)=false:=by simp [lG,w3]
  refine Ud (J6 hd dL eo (eq_true w1) (eq_true w2) w3) ?_;repeat intro hc
  simp [oZ,hr]
 have KU:lG (k:Int) ⟨aW,ay,((n:Nat):Int),bq,bf,⟨bB,⟨bD,bC,bE,⟨bH,bF,bw⟩,br⟩,bA,bu⟩,bt,bY,aF,aR,bm,bX,bW,aO,b_,b9⟩ ⟨cQ,cS,cj,cp,⟨cx,⟨cz,cy,cA,⟨cC,cB,ct⟩,cg⟩,cw,cq⟩,⟨de,dc,db,⟨dj,dg,dh⟩⟩,cZ,dm,c9,c_,cR⟩=true:=by simp [lG,w1,w2,w3]
 rw [KU,zf];by_cases z1:aW=1
 ·subst z1;have hr:fg af ae aj.length ak ⟨1,ay,((n:Nat):Int),bq,bf,⟨bB,⟨bD,bC,bE,⟨bH,bF,bw⟩,br⟩,bA,bu⟩,bt,bY,aF,aR,bm,bX,bW,aO,b_,b9⟩ ⟨cQ,cS,cj,cp,⟨cx,⟨cz,cy,cA,⟨cC,cB,ct⟩,cg⟩,cw,cq⟩,⟨de,dc,db,⟨dj,dg,dh⟩⟩,cZ,dm,c9,c_,cR⟩=fV af bq cj ay aF aR:=by simp [fg]
  have gb:=fun k0:Bool=>amd k0 af ax aM aG ak aI aK au ae aj aw aH aq az 1 ay ((n:Nat):Int) bq bf bB bD bC bE bH bF bw br bA bu bt bY aF aR bm bX bW aO b_ b9 cQ cS cj cp cx cz cy cA cC cB ct cg cw cq de dc db dj dg dh cZ dm c9 c_ cR aD m1 m2 m7 Fw qp u2
  refine Ud (J7 hd dL eo (eq_true w1) (eq_true w2) (eq_true w3) gb) ?_;repeat intro hc
  simp [oZ,hr]
 by_cases z2:aW=2
 ·subst z2;have hr:fg af ae aj.length ak ⟨2,ay,((n:Nat):Int),bq,bf,⟨bB,⟨bD,bC,bE,⟨bH,bF,bw⟩,br⟩,bA,bu⟩,bt,bY,aF,aR,bm,bX,bW,aO,b_,b9⟩ ⟨cQ,cS,cj,cp,⟨cx,⟨cz,cy,cA,⟨cC,cB,ct⟩,cg⟩,cw,cq⟩,⟨de,dc,db,⟨dj,dg,dh⟩⟩,cZ,dm,c9,c_,cR⟩=fX bf cp ay aF aj.length:=by simp [fg]
  have gb:=fun k0:Bool=>ame k0 af ax aM aG ak aI aK au ae aj aw aH aq az 2 ay ((n:Nat):Int) bq bf bB bD bC bE bH bF bw br bA bu bt bY aF aR bm bX bW aO b_ b9 cQ cS cj cp cx cz cy cA cC cB ct cg cw cq de dc db dj dg dh cZ dm c9 c_ cR m7
  refine Ud (J7 hd dL eo (eq_true w1) (eq_true w2) (eq_true w3) gb) ?_;repeat intro hc
  simp [oZ,hr]
 by_cases z3:aW=3
 ·subst z3;have hr:fg af ae aj.length ak ⟨3,ay,((n:Nat):Int),bq,bf,⟨bB,⟨bD,bC,bE,⟨bH,bF,bw⟩,br⟩,bA,bu⟩,bt,bY,aF,aR,bm,bX,bW,aO,b_,b9⟩ ⟨cQ,cS,cj,cp,⟨cx,⟨cz,cy,cA,⟨cC,cB,ct⟩,cg⟩,cw,cq⟩,⟨de,dc,db,⟨dj,dg,dh⟩⟩,cZ,dm,c9,c_,cR⟩=gh af ae aj.length ak ⟨bB,⟨bD,bC,bE,⟨bH,bF,bw⟩,br⟩,bA,bu⟩ ⟨cx,⟨cz,cy,cA,⟨cC,cB,ct⟩,cg⟩,cw,cq⟩ bt ay aF aR bm:=by simp [fg]
  have gb:=fun k0:Bool=>amf k0 af ax aM aG ak aI aK au ae aj aw aH aq az 3 ay ((n:Nat):Int) bq bf bB bD bC bE bH bF bw br bA bu bt bY aF aR bm bX bW aO b_ b9 cQ cS cj cp cx cz cy cA cC cB ct cg cw cq de dc db dj dg dh cZ dm c9 c_ cR aD cT hs hG m3 m4 m5 m6 JC JD JE JF m7 qp u5 u2 u3
  refine Ud (J7 hd dL eo (eq_true w1) (eq_true w2) (eq_true w3) gb) ?_;repeat intro hc
  simp [oZ,hr]
 by_cases z5:2≤ay∧ay≤5
 ·have hr:fg af ae aj.length ak ⟨aW,ay,((n:Nat):Int),bq,bf,⟨bB,⟨bD,bC,bE,⟨bH,bF,bw⟩,br⟩,bA,bu⟩,bt,bY,aF,aR,bm,bX,bW,aO,b_,b9⟩ ⟨cQ,cS,cj,cp,⟨cx,⟨cz,cy,cA,⟨cC,cB,ct⟩,cg⟩,cw,cq⟩,⟨de,dc,db,⟨dj,dg,dh⟩⟩,cZ,dm,c9,c_,cR⟩=(decide (1≤(aF.length:Int))&&decide ((aF.length:Int)≤2)):=by simp [fg,z1,z2,z3,z5]
  refine Ud (J8 hd dL eo (eq_true w1) (eq_true w2) (eq_true w3) z1 (J4 z2 z3 z5.1 z5.2)) ?_;repeat intro hc
  simp [oZ,hr]
 ·have hr:fg af ae aj.length ak ⟨aW,ay,((n:Nat):Int),bq,bf,⟨bB,⟨bD,bC,bE,⟨bH,bF,bw⟩,br⟩,bA,bu⟩,bt,bY,aF,aR,bm,bX,bW,aO,b_,b9⟩ ⟨cQ,cS,cj,cp,⟨cx,⟨cz,cy,cA,⟨cC,cB,ct⟩,cg⟩,cw,cq⟩,⟨de,dc,db,⟨dj,dg,dh⟩⟩,cZ,dm,c9,c_,cR⟩=true:=by simp only [fg];rw [if_neg z1,if_neg z2,if_neg z3,if_neg z5]
  refine Ud (J8 hd dL eo (eq_true w1) (eq_true w2) (eq_true w3) z1 (J3 z2 z3 z5)) ?_;repeat intro hc
  simp [oZ,hr]
def kJ (cols:List Int) (uf:Int) (B:List aU) (m:Nat) (T:Int) (D:List ca) (P:List Int) (i:Int) (t:bM):Bool:=wJ cols uf B m T D i ((P[i.toNat]?).getD 0) t
theorem ajg {Q:Out→Prop} (k0:Bool) (af:List Int) (ax aM:Int) (aG ak:Int) (aI aK:Int) (au:List aL) (ae:List aU) (aj:List Int) (aw:List cD) (aH:List Int) (aq:List bM) (az:List ca) (hl:aq.length≤1048576) (aD:af.length≤1048576) (cT:ae.length≤1048576) (hs:aU.aJ ae) (hG:∀b∈ae,b.G.length≤1048576∧bI b.G) (qj:az.length≤1048576) (qm:ca.aJ az) (yw:bM.aJ aq) (h5:aq.length=5) (h6:aH.length=5)
 (h1:allI (kJ af ax ae aj.length ak az aH) 0 aq=true→Q (.exit 0 ([(1,AV.bx 1 0,some (Rt.bx (cb k0 af ax aM aG ak aI aK au ae aj aw aH aq az))),(78,vn (aq.length:Nat),none),(79,vn (aq.length:Nat),none)]++[(80,AV.v false (.bool false),none)])))
 (h2:allI (kJ af ax ae aj.length ak az aH) 0 aq=false→Q (.ret [(2,AV.v false (.bool false),none)])):Wp (Gw TT) (.loop HG) Q ([(1,AV.bx 1 0,some (Rt.bx (cb k0 af ax aM aG ak aI aK au ae aj aw aH aq az))),(78,vn (aq.length:Nat),none),(79,vn 0,none)]):=by
 refine ba (σ:=List (bM)×List (bM)) (fun s=>[(1,AV.bx 1 0,some (Rt.bx (cb k0 af ax aM aG ak aI aK au ae aj aw aH aq az))),(78,vn (aq.length:Nat),none),(79,vn ((s.1.length:Nat):Int),none)]) (fun s=>aq=s.1++s.2∧allI (kJ af ax ae aj.length ak az aH) 0 aq=allI (kJ af ax ae aj.length ak az aH) (s.1.length:Int) s.2) (fun s=>s.2.length) ([],aq) (by simp) ⟨rfl,rfl⟩ ?_;rintro ⟨pre,rest⟩ ⟨y1,y2⟩;simp only at y1 y2;have y3:aq.length=pre.length+rest.length:=by rw [y1,ze]
 rcases rest with _|⟨⟨aW,ay,dO,bq,bf,⟨bB,⟨bD,bC,bE,⟨bH,bF,bw⟩,br⟩,bA,bu⟩,bt,bY,aF,aR,bm,bX,bW,aO,b_,b9⟩,rest⟩
 ·simp only [zj] at y3;have c1:¬(pre.length:Int)<(aq.length:Int):=by omega
  have y5:(pre.length:Int)=(aq.length:Int):=by omega
  have h3:=h1 (by rw [y2];rfl);skip;unfold HG;refine Ud c1 ?_;repeat intro hc
  all_goals simpa [y5] using h3
 ·simp only [zh] at y3;simp only [allI] at y2;have hg:aq[pre.length]?=some ⟨aW,ay,dO,bq,bf,⟨bB,⟨bD,bC,bE,⟨bH,bF,bw⟩,br⟩,bA,bu⟩,bt,bY,aF,aR,bm,bX,bW,aO,b_,b9⟩:=by rw [y1];simp
  obtain ⟨ai,aB⟩:=za.1 hg;have eW:=zb hg;have c1:(pre.length:Int)<(aq.length:Int):=by omega
  have hw:=Wi ((pre.length:Int)+1);have cJ:pre.length<aH.length:=by omega
  obtain ⟨p,hp⟩:∃p,aH[pre.length]?=some p:=⟨_,zd cJ⟩;have g0:=fun k0:Bool=>amb k0 af ax aM aG ak aI aK au ae aj aw aH aq az pre.length aW ay dO bq bf bB bD bC bE bH bF bw br bA bu bt bY aF aR bm bX bW aO b_ b9 aD cT hs hG qj qm hg (yw _ eW) p hp
  have Au:kJ af ax ae aj.length ak az aH (pre.length:Int) ⟨aW,ay,dO,bq,bf,⟨bB,⟨bD,bC,bE,⟨bH,bF,bw⟩,br⟩,bA,bu⟩,bt,bY,aF,aR,bm,bX,bW,aO,b_,b9⟩=wJ af ax ae aj.length ak az (pre.length:Int) p ⟨aW,ay,dO,bq,bf,⟨bB,⟨bD,bC,bE,⟨bH,bF,bw⟩,br⟩,bA,bu⟩,bt,bY,aF,aR,bm,bX,bW,aO,b_,b9⟩:=by simp only [kJ,zg,hp,zm]
  generalize hb:wJ af ax ae aj.length ak az (pre.length:Int) p ⟨aW,ay,dO,bq,bf,⟨bB,⟨bD,bC,bE,⟨bH,bF,bw⟩,br⟩,bA,bu⟩,bt,bY,aF,aR,bm,bX,bW,aO,b_,b9⟩=bb at g0 Au;unfold HG;cases bb with
  |false=>
   have hx:(kJ af ax ae aj.length ak az aH) (pre.length:Int) ⟨aW,ay,dO,bq,bf,⟨bB,⟨bD,bC,bE,⟨bH,bF,bw⟩,br⟩,bA,bu⟩,bt,bY,aF,aR,bm,bX,bW,aO,b_,b9⟩=false:=Au;have h3:=h2 (by rw [y2,hx];rfl);refine Ud (J6 c1 hw ai aB hg g0) ?_;repeat intro hc
   exact h3
  |true=>
   have hx:(kJ af ax ae aj.length ak az aH) (pre.length:Int) ⟨aW,ay,dO,bq,bf,⟨bB,⟨bD,bC,bE,⟨bH,bF,bw⟩,br⟩,bA,bu⟩,bt,bY,aF,aR,bm,bX,bW,aO,b_,b9⟩=true:=Au;refine Ud (J6 c1 hw ai aB hg g0) ?_;repeat intro hc
   exact ⟨(pre++[⟨aW,ay,dO,bq,bf,⟨bB,⟨bD,bC,bE,⟨bH,bF,bw⟩,br⟩,bA,bu⟩,bt,bY,aF,aR,bm,bX,bW,aO,b_,b9⟩],rest),(by simp),⟨by rw [y1];simp,by rw [y2,hx];simp⟩,by simp⟩
theorem aje {Q:Out→Prop} (k0:Bool) (af:List Int) (ax aM:Int) (aG ak:Int) (aI aK:Int) (au:List aL) (ae:List aU) (aj:List Int) (aw:List cD) (aH:List Int) (aq:List bM) (az:List ca) (hl:aq.length≤1048576) (aD:af.length≤1048576) (cT:ae.length≤1048576) (hs:aU.aJ ae) (hG:∀b∈ae,b.G.length≤1048576∧bI b.G) (qj:az.length≤1048576) (qm:ca.aJ az) (yw:bM.aJ aq) (h5:aq.length=5) (h6:aH.length=5)
 (h1:allI (kJ af ax ae aj.length ak az aH) 0 aq=true→Q (.exit 0 ([(1,AV.bx 1 0,some (Rt.bx (cb k0 af ax aM aG ak aI aK au ae aj aw aH aq az))),(3,vn (aq.length:Nat),none)]++[(80,AV.v false (.bool false),none)])))
 (h2:allI (kJ af ax ae aj.length ak az aH) 0 aq=false→Q (.ret [(2,AV.v false (.bool false),none)])):Wp (Gw TT) (.loop HE) Q ([(1,AV.bx 1 0,some (Rt.bx (cb k0 af ax aM aG ak aI aK au ae aj aw aH aq az))),(3,vn 0,none)]):=by
 refine ba (σ:=List (bM)×List (bM)) (fun s=>[(1,AV.bx 1 0,some (Rt.bx (cb k0 af ax aM aG ak aI aK au ae aj aw aH aq az))),(3,vn ((s.1.length:Nat):Int),none)]) (fun s=>aq=s.1++s.2∧allI (kJ af ax ae aj.length ak az aH) 0 aq=allI (kJ af ax ae aj.length ak az aH) (s.1.length:Int) s.2) (fun s=>s.2.length) ([],aq) (by simp) ⟨rfl,rfl⟩ ?_;rintro ⟨pre,rest⟩ ⟨y1,y2⟩;simp only at y1 y2;have y3:aq.length=pre.length+rest.length:=by rw [y1,ze]
 rcases rest with _|⟨⟨aW,ay,dO,bq,bf,⟨bB,⟨bD,bC,bE,⟨bH,bF,bw⟩,br⟩,bA,bu⟩,bt,bY,aF,aR,bm,bX,bW,aO,b_,b9⟩,rest⟩
 ·simp only [zj] at y3;have c1:¬(pre.length:Int)<(aq.length:Int):=by omega
  have y5:(pre.length:Int)=(aq.length:Int):=by omega
  have h3:=h1 (by rw [y2];rfl);skip;unfold HE;refine Ud c1 ?_;repeat intro hc
  all_goals simpa [y5] using h3
 ·simp only [zh] at y3;simp only [allI] at y2;have hg:aq[pre.length]?=some ⟨aW,ay,dO,bq,bf,⟨bB,⟨bD,bC,bE,⟨bH,bF,bw⟩,br⟩,bA,bu⟩,bt,bY,aF,aR,bm,bX,bW,aO,b_,b9⟩:=by rw [y1];simp
  obtain ⟨ai,aB⟩:=za.1 hg;have eW:=zb hg;have c1:(pre.length:Int)<(aq.length:Int):=by omega
  have hw:=Wi ((pre.length:Int)+1);have cJ:pre.length<aH.length:=by omega
  obtain ⟨p,hp⟩:∃p,aH[pre.length]?=some p:=⟨_,zd cJ⟩;have g0:=fun k0:Bool=>al8 k0 af ax aM aG ak aI aK au ae aj aw aH aq az pre.length aW ay dO bq bf bB bD bC bE bH bF bw br bA bu bt bY aF aR bm bX bW aO b_ b9 aD cT hs hG qj qm hg (yw _ eW) p hp
  have Au:kJ af ax ae aj.length ak az aH (pre.length:Int) ⟨aW,ay,dO,bq,bf,⟨bB,⟨bD,bC,bE,⟨bH,bF,bw⟩,br⟩,bA,bu⟩,bt,bY,aF,aR,bm,bX,bW,aO,b_,b9⟩=wJ af ax ae aj.length ak az (pre.length:Int) p ⟨aW,ay,dO,bq,bf,⟨bB,⟨bD,bC,bE,⟨bH,bF,bw⟩,br⟩,bA,bu⟩,bt,bY,aF,aR,bm,bX,bW,aO,b_,b9⟩:=by simp only [kJ,zg,hp,zm]
  generalize hb:wJ af ax ae aj.length ak az (pre.length:Int) p ⟨aW,ay,dO,bq,bf,⟨bB,⟨bD,bC,bE,⟨bH,bF,bw⟩,br⟩,bA,bu⟩,bt,bY,aF,aR,bm,bX,bW,aO,b_,b9⟩=bb at g0 Au;unfold HE;cases bb with
  |false=>
   have hx:(kJ af ax ae aj.length ak az aH) (pre.length:Int) ⟨aW,ay,dO,bq,bf,⟨bB,⟨bD,bC,bE,⟨bH,bF,bw⟩,br⟩,bA,bu⟩,bt,bY,aF,aR,bm,bX,bW,aO,b_,b9⟩=false:=Au;have h3:=h2 (by rw [y2,hx];rfl);refine Ud (J6 c1 hw ai aB hg g0) ?_;repeat intro hc
   exact h3
  |true=>
   have hx:(kJ af ax ae aj.length ak az aH) (pre.length:Int) ⟨aW,ay,dO,bq,bf,⟨bB,⟨bD,bC,bE,⟨bH,bF,bw⟩,br⟩,bA,bu⟩,bt,bY,aF,aR,bm,bX,bW,aO,b_,b9⟩=true:=Au;refine Ud (J6 c1 hw ai aB hg g0) ?_;repeat intro hc
   exact ⟨(pre++[⟨aW,ay,dO,bq,bf,⟨bB,⟨bD,bC,bE,⟨bH,bF,bw⟩,br⟩,bA,bu⟩,bt,bY,aF,aR,bm,bX,bW,aO,b_,b9⟩],rest),(by simp),⟨by rw [y1];simp,by rw [y2,hx];simp⟩,by simp⟩
theorem ajf {Q:Out→Prop} (k0:Bool) (af:List Int) (ax aM:Int) (aG ak:Int) (aI aK:Int) (au:List aL) (ae:List aU) (aj:List Int) (aw:List cD) (aH:List Int) (aq:List bM) (az:List ca) (hl:az.length≤1048576)
 (h1:az.all (gr aG)=true→Q (.exit 2 ([(1,AV.bx 1 0,some (Rt.bx (cb k0 af ax aM aG ak aI aK au ae aj aw aH aq az))),(88,AV.v k0 (D.sl 25 (az.map ca.e)),none),(89,vn (az.length:Nat),none),(90,vn (az.length:Nat),none)]++[(91,AV.v false (.bool false),none)])))
 (h2:az.all (gr aG)=false→Q (.ret [(2,AV.v false (.bool false),none)])):Wp (Gw TT) (.loop HF) Q ([(1,AV.bx 1 0,some (Rt.bx (cb k0 af ax aM aG ak aI aK au ae aj aw aH aq az))),(88,AV.v k0 (D.sl 25 (az.map ca.e)),none),(89,vn (az.length:Nat),none),(90,vn 0,none)]):=by
 refine ba (σ:=List (ca)×List (ca)) (fun s=>[(1,AV.bx 1 0,some (Rt.bx (cb k0 af ax aM aG ak aI aK au ae aj aw aH aq az))),(88,AV.v k0 (D.sl 25 (az.map ca.e)),none),(89,vn (az.length:Nat),none),(90,vn ((s.1.length:Nat):Int),none)]) (fun s=>az=s.1++s.2∧az.all (gr aG)=s.2.all (gr aG)) (fun s=>s.2.length) ([],az) (by simp) ⟨rfl,rfl⟩ ?_;rintro ⟨pre,rest⟩ ⟨y1,y2⟩;simp only at y1 y2;have y3:az.length=pre.length+rest.length:=by rw [y1,ze]
 rcases rest with _|⟨⟨ch,jz,eT,bU,⟨eK,⟨eN,eM,eP,⟨eS,eQ,eR⟩,eO⟩,eJ,eL⟩,⟨ki,kh,kg,⟨ko,kj,km⟩⟩,jx,jy,g_,hU,hY⟩,rest⟩
 ·simp only [zj] at y3;have c1:¬(pre.length:Int)<(az.length:Int):=by omega
  have y5:(pre.length:Int)=(az.length:Int):=by omega
  have h3:=h1 (by rw [y2];rfl);skip;unfold HF;refine Ud c1 ?_;repeat intro hc
  all_goals simpa [y5] using h3
 ·simp only [zh] at y3;simp only [zk] at y2;have hg:az[pre.length]?=some ⟨ch,jz,eT,bU,⟨eK,⟨eN,eM,eP,⟨eS,eQ,eR⟩,eO⟩,eJ,eL⟩,⟨ki,kh,kg,⟨ko,kj,km⟩⟩,jx,jy,g_,hU,hY⟩:=by rw [y1];simp
  obtain ⟨ai,aB⟩:=za.1 hg;have eW:=zb hg;have c1:(pre.length:Int)<(az.length:Int):=by omega
  have hw:=Wi ((pre.length:Int)+1);unfold HF;cases b1:vz ch jz jx jy g_ bU hU hY with
  |false=>
   have hx:(gr aG) ⟨ch,jz,eT,bU,⟨eK,⟨eN,eM,eP,⟨eS,eQ,eR⟩,eO⟩,eJ,eL⟩,⟨ki,kh,kg,⟨ko,kj,km⟩⟩,jx,jy,g_,hU,hY⟩=false:=by simp [gr,b1]
   have h3:=h2 (by rw [y2,hx];rfl);refine Ud (J6 c1 hw ai aB hg b1) ?_;repeat intro hc
   exact h3
  |true=>
   by_cases b2:g_<aG
   ·have b5:¬aG≤g_:=by omega
    by_cases b3:hU<aG
    ·have b6:¬aG≤hU:=by omega
     by_cases b4:hY<aG
     ·have b7:¬aG≤hY:=by omega
      have hx:(gr aG) ⟨ch,jz,eT,bU,⟨eK,⟨eN,eM,eP,⟨eS,eQ,eR⟩,eO⟩,eJ,eL⟩,⟨ki,kh,kg,⟨ko,kj,km⟩⟩,jx,jy,g_,hU,hY⟩=true:=by simp [gr,b1,b2,b3,b4]
      refine Ud (J8 c1 hw ai aB hg b1 b5 (J2 b6 b7)) ?_;repeat intro hc
      exact ⟨(pre++[⟨ch,jz,eT,bU,⟨eK,⟨eN,eM,eP,⟨eS,eQ,eR⟩,eO⟩,eJ,eL⟩,⟨ki,kh,kg,⟨ko,kj,km⟩⟩,jx,jy,g_,hU,hY⟩],rest),(by simp),⟨by rw [y1];simp,by rw [y2,hx];simp⟩,by simp⟩
     ·have b7:aG≤hY:=by omega
      have hx:(gr aG) ⟨ch,jz,eT,bU,⟨eK,⟨eN,eM,eP,⟨eS,eQ,eR⟩,eO⟩,eJ,eL⟩,⟨ki,kh,kg,⟨ko,kj,km⟩⟩,jx,jy,g_,hU,hY⟩=false:=by simp [gr,b4]
      have h3:=h2 (by rw [y2,hx];rfl);refine Ud (J8 c1 hw ai aB hg b1 b5 (J2 b6 b7)) ?_;repeat intro hc
      exact h3
    ·have b6:aG≤hU:=by omega
     have hx:(gr aG) ⟨ch,jz,eT,bU,⟨eK,⟨eN,eM,eP,⟨eS,eQ,eR⟩,eO⟩,eJ,eL⟩,⟨ki,kh,kg,⟨ko,kj,km⟩⟩,jx,jy,g_,hU,hY⟩=false:=by simp [gr,b3]
     have h3:=h2 (by rw [y2,hx];rfl);refine Ud (J8 c1 hw ai aB hg b1 b5 b6) ?_;repeat intro hc
     exact h3
   ·have b5:aG≤g_:=by omega
    have hx:(gr aG) ⟨ch,jz,eT,bU,⟨eK,⟨eN,eM,eP,⟨eS,eQ,eR⟩,eO⟩,eJ,eL⟩,⟨ki,kh,kg,⟨ko,kj,km⟩⟩,jx,jy,g_,hU,hY⟩=false:=by simp [gr,b2]
    have h3:=h2 (by rw [y2,hx];rfl);refine Ud (J7 c1 hw ai aB hg b1 b5) ?_;repeat intro hc
    exact h3
theorem al3 (aD:af.length≤1048576) (cT:ae.length≤1048576) (hs:aU.aJ ae) (hG:∀b∈ae,b.G.length≤1048576∧bI b.G) (qj:az.length≤1048576) (qm:ca.aJ az) (eV:au.length≤1048576) (Kg:aj.length≤1048576) (qi:aw.length≤1048576) (ir:aH.length≤1048576) (qh:aq.length≤1048576) (yw:bM.aJ aq):Gw TT 428 [.st (cb k0 af ax aM aG ak aI aK au ae aj aw aH aq az)]=some (vb (qP af ax aM&&(decide (0≤aG∧aG≤1000000)&&(decide (1≤ak∧ak≤1000000)&&(decide (0≤aI∧aI≤1000000)&&(lZ aK au&&(decide (aK≤1000000)&&((decide ((ae.length:Int)=aM)&&ae.all (kW af ak))&&((aj.all (iZ ak)&&decide ((aj.length:Int)=pq au))&&(au.all (kH af ax ae)&&(aw.all (gp aI ae)&&(decide (aq.length=5)&&(decide (aH.length=5)&&(nA aI aH&&(allI (kJ af ax ae aj.length ak az aH) 0 aq&&(az.all (gr aG)&&allI (mu au aw aq) 0 ae))))))))))))))),[]):=by
 refine Ga mP ON ?_;unfold ON;have nO:=fun k0:Bool=>al9 k0 af ax aM aG ak aI aK au ae aj aw aH aq az cT aD hs hG
 generalize apr:(decide ((ae.length:Int)=aM)&&ae.all (kW af ak))=anb at nO ⊢;have nP:=fun k0:Bool=>al_ k0 af ax aM aG ak aI aK au ae aj aw aH aq az Kg eV
 generalize aps:(aj.all (iZ ak)&&decide ((aj.length:Int)=pq au))=anc at nP ⊢;have nQ:=fun k0:Bool=>al' k0 af ax aM aG ak aI aK au ae aj aw aH aq az eV aD cT hs hG
 generalize apt:au.all (kH af ax ae)=ane at nQ ⊢;have nR:=fun k0:Bool=>ama k0 af ax aM aG ak aI aK au ae aj aw aH aq az qi
 generalize apu:aw.all (gp aI ae)=anf at nR ⊢;have nd:=fun k0:Bool=>amc k0 af ax aM aG ak aI aK au ae aj aw aH aq az cT eV qi qh
 generalize apv:allI (mu au aw aq) 0 ae=ang at nd ⊢;generalize fy:qP af ax aM=vc;generalize iu:lZ aK au=vd;generalize iv:nA aI aH=vp;generalize DA:allI (kJ af ax ae aj.length ak az aH) 0 aq=vt;generalize lE:az.all (gr aG)=ve;cases vc with
 |false=>
  refine Ud (J8 aD eV ir nO nP nQ nR (J4 nd fy iu iv)) ?_;repeat intro hc
  simp [mP]
 |true=>
 by_cases i2:0≤aG∧aG≤1000000
 rotate_left
 ·rw [decide_eq_false i2];refine Ud (J8 aD eV ir nO nP nQ nR (J5 nd fy iu iv i2)) ?_;repeat intro hc
  simp [mP]
 rw [decide_eq_true i2];by_cases i3:1≤ak∧ak≤1000000
 rotate_left
 ·rw [decide_eq_false i3];refine Ud (J8 aD eV ir nO nP nQ nR (J7 nd fy iu iv i2.1 i2.2 i3)) ?_;repeat intro hc
  simp [mP]
 rw [decide_eq_true i3];by_cases i4:0≤aI∧aI≤1000000
 rotate_left
 ·rw [decide_eq_false i4];refine Ud (J8 aD eV ir nO nP nQ nR (J8 nd fy iu iv i2.1 i2.2 i3.1 (J2 i3.2 i4))) ?_;repeat intro hc
  simp [mP]
 rw [decide_eq_true i4];cases vd with
 |false=>
  refine Ud (J8 aD eV ir nO nP nQ nR (J8 nd fy iu iv i2.1 i2.2 i3.1 (J3 i3.2 i4.1 i4.2))) ?_;repeat intro hc
  simp [mP]
 |true=>
 by_cases i7:aK≤1000000
 rotate_left
 ·rw [decide_eq_false i7];have j7:1000000<aK:=by omega
  refine Ud (J8 aD eV ir nO nP nQ nR (J8 nd fy iu iv i2.1 i2.2 i3.1 (J4 i3.2 i4.1 i4.2 j7))) ?_;repeat intro hc
  simp [mP]
 rw [decide_eq_true i7];have k7:¬1000000<aK:=by omega
 cases anb with
 |false=>
  refine Ud (J8 aD eV ir nO nP nQ nR (J8 nd fy iu iv i2.1 i2.2 i3.1 (J4 i3.2 i4.1 i4.2 k7))) ?_;repeat intro hc
  simp [mP]
 |true=>
 cases anc with
 |false=>
  refine Ud (J8 aD eV ir nO nP nQ nR (J8 nd fy iu iv i2.1 i2.2 i3.1 (J4 i3.2 i4.1 i4.2 k7))) ?_;repeat intro hc
  simp [mP]
 |true=>
 cases ane with
 |false=>
  refine Ud (J8 aD eV ir nO nP nQ nR (J8 nd fy iu iv i2.1 i2.2 i3.1 (J4 i3.2 i4.1 i4.2 k7))) ?_;repeat intro hc
  simp [mP]
 |true=>
 cases anf with
 |false=>
  refine Ud (J8 aD eV ir nO nP nQ nR (J8 nd fy iu iv i2.1 i2.2 i3.1 (J4 i3.2 i4.1 i4.2 k7))) ?_;repeat intro hc
  simp [mP]
 |true=>
 by_cases i5:aq.length=5
 rotate_left
 ·rw [decide_eq_false i5];have j5:¬(aq.length:Int)=5:=by omega
  refine Ud (J8 aD eV ir nO nP nQ nR (J8 nd fy iu iv i2.1 i2.2 i3.1 (J5 i3.2 i4.1 i4.2 k7 j5))) ?_;repeat intro hc
  simp [mP]
 rw [decide_eq_true i5];by_cases i6:aH.length=5
 rotate_left
 ·rw [decide_eq_false i6];have j6:¬(aH.length:Int)=5:=by omega
  refine Ud (J8 aD eV ir nO nP nQ nR (J8 nd fy iu iv i2.1 i2.2 i3.1 (J6 i3.2 i4.1 i4.2 k7 i5 j6))) ?_;repeat intro hc
  simp [mP]
 rw [decide_eq_true i6];cases vp with
 |false=>
  refine Ud (J8 aD eV ir nO nP nQ nR (J8 nd fy iu iv i2.1 i2.2 i3.1 (J6 i3.2 i4.1 i4.2 k7 i5 i6))) ?_;repeat intro hc
  simp [mP]
 |true=>
 refine Ud (J8 aD eV ir nO nP nQ nR (J8 nd fy iu iv i2.1 i2.2 i3.1 (J6 i3.2 i4.1 i4.2 k7 i5 i6))) ?_;repeat intro hc
 rw [show (5:Int)=((aq.length:Nat):Int) by omega];refine ajg k0 af ax aM aG ak aI aK au ae aj aw aH aq az qh aD cT hs hG qj qm yw i5 i6 (fun e=>?_) (fun e=>?_)
 rotate_left
 ·rw [DA] at e;subst e;refine Ud Oo ?_;simp [mP]
 rw [DA] at e;subst e;refine Ud (J8 aD eV ir nO nP nQ nR (J8 nd fy iu iv i2.1 i2.2 i3.1 (J6 i3.2 i4.1 i4.2 k7 i5 i6))) ?_;refine ajf k0 af ax aM aG ak aI aK au ae aj aw aH aq az qj (fun e=>?_) (fun e=>?_)
 rotate_left
 ·rw [lE] at e;subst e;refine Ud Oo ?_;simp [mP]
 rw [lE] at e;subst e;cases ang with
 |false=>
  refine Ud (J8 aD eV ir nO nP nQ nR (J8 nd fy iu iv i2.1 i2.2 i3.1 (J6 i3.2 i4.1 i4.2 k7 i5 i6))) ?_;simp [mP]
 |true=>
 refine Ud nd ?_;simp [mP]
theorem al2 (aD:af.length≤1048576) (cT:ae.length≤1048576) (hs:aU.aJ ae) (hG:∀b∈ae,b.G.length≤1048576∧bI b.G) (qj:az.length≤1048576) (qm:ca.aJ az) (eV:au.length≤1048576) (Kg:aj.length≤1048576) (qi:aw.length≤1048576) (ir:aH.length≤1048576) (qh:aq.length≤1048576) (yw:bM.aJ aq):Gw TT 427 [.st (cb k0 af ax aM aG ak aI aK au ae aj aw aH aq az)]=some (vb (qP af ax aM&&(decide (0≤aG∧aG≤1000000)&&(decide (1≤ak∧ak≤1000000)&&(decide (0≤aI∧aI≤1000000)&&(lZ aK au&&(decide (aK≤1000000)&&(decide (aH.length=5)&&(nA aI aH&&(decide (aq.length=5)&&(az.all (gr aG)&&((decide ((ae.length:Int)=aM)&&(allI (ib af ak au aw aq) 0 ae&&aw.all (gp aI ae)))&&(au.all (kV af ax ae)&&((aj.all (iZ ak)&&decide ((aj.length:Int)=pq au))&&allI (kJ af ax ae aj.length ak az aH) 0 aq))))))))))))),[]):=by
 refine Ga om OL ?_;unfold OL;have pv:=fun k0:Bool=>al4 k0 af ax aM aG ak aI aK au ae aj aw aH aq az qj
 generalize apm:az.all (gr aG)=am9 at pv ⊢;have pw:=fun k0:Bool=>al5 k0 af ax aM aG ak aI aK au ae aj aw aH aq az cT eV qi qh aD hs hG
 generalize apn:(decide ((ae.length:Int)=aM)&&(allI (ib af ak au aw aq) 0 ae&&aw.all (gp aI ae)))=am_ at pw ⊢;have py:=fun k0:Bool=>al6 k0 af ax aM aG ak aI aK au ae aj aw aH aq az eV aD cT hs hG
 generalize apo:au.all (kV af ax ae)=am' at py ⊢;have pz:=fun k0:Bool=>al7 k0 af ax aM aG ak aI aK au ae aj aw aH aq az Kg eV
 generalize apq:(aj.all (iZ ak)&&decide ((aj.length:Int)=pq au))=ana at pz ⊢;generalize fy:qP af ax aM=vc;generalize iu:lZ aK au=vd;generalize iv:nA aI aH=vp;generalize DA:allI (kJ af ax ae aj.length ak az aH) 0 aq=vt;cases vc with
 |false=>
  refine Ud (J8 aD eV ir pv pw py pz (J3 fy iu iv)) ?_;repeat intro hc
  simp [om]
 |true=>
 by_cases i2:0≤aG∧aG≤1000000
 rotate_left
 ·rw [decide_eq_false i2];refine Ud (J8 aD eV ir pv pw py pz (J4 fy iu iv i2)) ?_;repeat intro hc
  simp [om]
 rw [decide_eq_true i2];by_cases i3:1≤ak∧ak≤1000000
 rotate_left
 ·rw [decide_eq_false i3];refine Ud (J8 aD eV ir pv pw py pz (J6 fy iu iv i2.1 i2.2 i3)) ?_;repeat intro hc
  simp [om]
 rw [decide_eq_true i3];by_cases i4:0≤aI∧aI≤1000000
 rotate_left
 ·rw [decide_eq_false i4];refine Ud (J8 aD eV ir pv pw py pz (J8 fy iu iv i2.1 i2.2 i3.1 i3.2 i4)) ?_;repeat intro hc
  simp [om]
 rw [decide_eq_true i4];cases vd with
 |false=>
  refine Ud (J8 aD eV ir pv pw py pz (J8 fy iu iv i2.1 i2.2 i3.1 i3.2 (J2 i4.1 i4.2))) ?_;repeat intro hc
  simp [om]
 |true=>
 by_cases i7:aK≤1000000
 rotate_left
 ·rw [decide_eq_false i7];have j7:1000000<aK:=by omega
  refine Ud (J8 aD eV ir pv pw py pz (J8 fy iu iv i2.1 i2.2 i3.1 i3.2 (J3 i4.1 i4.2 j7))) ?_;repeat intro hc
  simp [om]
 rw [decide_eq_true i7];have k7:¬1000000<aK:=by omega
 by_cases i6:aH.length=5
 rotate_left
 ·rw [decide_eq_false i6];have j6:¬(aH.length:Int)=5:=by omega
  refine Ud (J8 aD eV ir pv pw py pz (J8 fy iu iv i2.1 i2.2 i3.1 i3.2 (J4 i4.1 i4.2 k7 j6))) ?_;repeat intro hc
  simp [om]
 rw [decide_eq_true i6];cases vp with
 |false=>
  refine Ud (J8 aD eV ir pv pw py pz (J8 fy iu iv i2.1 i2.2 i3.1 i3.2 (J4 i4.1 i4.2 k7 i6))) ?_;repeat intro hc
  simp [om]
 |true=>
 by_cases i5:aq.length=5
 rotate_left
 ·rw [decide_eq_false i5];have j5:¬(aq.length:Int)=5:=by omega
  refine Ud (J8 aD eV ir pv pw py pz (J8 fy iu iv i2.1 i2.2 i3.1 i3.2 (J5 i4.1 i4.2 k7 i6 j5))) ?_;repeat intro hc
  simp [om]
 rw [decide_eq_true i5];cases am9 with
 |false=>
  refine Ud (J8 aD eV ir pv pw py pz (J8 fy iu iv i2.1 i2.2 i3.1 i3.2 (J5 i4.1 i4.2 k7 i6 i5))) ?_;repeat intro hc
  simp [om]
 |true=>
 cases am_ with
 |false=>
  refine Ud (J8 aD eV ir pv pw py pz (J8 fy iu iv i2.1 i2.2 i3.1 i3.2 (J5 i4.1 i4.2 k7 i6 i5))) ?_;repeat intro hc
  simp [om]
 |true=>
 cases am' with
 |false=>
  refine Ud (J8 aD eV ir pv pw py pz (J8 fy iu iv i2.1 i2.2 i3.1 i3.2 (J5 i4.1 i4.2 k7 i6 i5))) ?_;repeat intro hc
  simp [om]
 |true=>
 cases ana with
 |false=>
  refine Ud (J8 aD eV ir pv pw py pz (J8 fy iu iv i2.1 i2.2 i3.1 i3.2 (J5 i4.1 i4.2 k7 i6 i5))) ?_;repeat intro hc
  simp [om]
 |true=>
 refine Ud (J8 aD eV ir pv pw py pz (J8 fy iu iv i2.1 i2.2 i3.1 i3.2 (J5 i4.1 i4.2 k7 i6 i5))) ?_;repeat intro hc
 refine aje k0 af ax aM aG ak aI aK au ae aj aw aH aq az qh aD cT hs hG qj qm yw i5 i6 (fun e=>?_) (fun e=>?_)
 rotate_left
 ·rw [DA] at e;subst e;refine Ud Oo ?_;simp [om]
 rw [DA] at e;subst e;refine Ud Oo ?_;simp [om]
theorem afg (cols b:List Int):∀r∈(dn cols b).getD [],0≤r.Id∧r.Id≤1000000000:=by
 cases hg:dn cols b with
 |none=>intro r hr;simp at hr
 |some l=>
  unfold dn at hg;split at hg
  ·split at hg
   ·split at hg
    ·split at hg
     ·rename_i hh;simp only [Option.some.injEq] at hg;subst hg;have h3:=hh.2;simp only [gG,zi] at h3;exact fun r hr=>UA h3.2.2 r (by simpa using hr)
     ·cases hg
    ·cases hg
   ·cases hg
  ·cases hg
theorem Wq:∀{l p:List aL} {e:Int},pn p e l=true→0≤e→e+(l.length:Int)*1000000000≤100000000000→∀r∈l,(r.Kind=1∨r.Kind=2)∧0≤r.iz∧r.iz≤100000000000∧1≤r.ek∧r.ek≤1000000000
 |[],_,_,_,_,_,r,hr=>by simp at hr
 |x::l,p,e,h,h0,h1,r,hr=>by
  simp only [pn] at h;split at h
  ·rename_i hx;have hk:=hx.1;simp only [sn,zi,decide_eq_true_eq] at hk;have h1':e+((l.length:Int)+1)*1000000000≤100000000000:=by simpa using h1
   have hf:=hx.2.1;rcases List.mem_cons.1 hr with rfl|hr
   ·omega
   ·have hw:=Wi (e+x.ek);rw [hw] at h;exact Wq h (by omega) (by omega) r hr
  ·cases h
theorem aay (i:Int):∀(p:List aL) (r:aL),gY i (p++[r])=(gY i p||decide (r.dW=i))
 |[],r=>by simp [gY]
 |x::p,r=>by
  simp only [List.cons_append,gY,aay i p r];split<;>simp
theorem Wo (i:Int):∀{l p:List aL} {e:Int},pn p e l=true→dA (nB i) l=(if gY i l=true then 1 else 0)∧(gY i p=true→gY i l=false)
 |[],_,_,_=>by simp [dA,gY]
 |x::l,p,e,h=>by
  simp only [pn] at h;split at h
  ·rename_i hx;obtain ⟨a1,a2⟩:=Wo i h;rw [aay] at a2;by_cases hi:x.dW=i
   ·have h2:gY i l=false:=a2 (by simp [hi]);have h3:gY i p=false:=by rw [←hi];exact hx.2.2
    rw [h2] at a1;simp only [dA,nB,hi,gY,a1];simp [h3]
   ·simp only [dA,nB,gY,if_neg hi,a1,decide_eq_false hi];exact ⟨by simp,fun e=>a2 (by rw [e];rfl)⟩
  ·cases h
theorem V0 {cols:List Int} {t:Int} {L:List aL} {X:List cD} {T:List bM} (hc:∀i,dA (nB i) L=if gY i L=true then 1 else 0):∀(B:List aU) (i:Int),allI (ib cols t L X T) i B=(B.all (kW cols t)&&allI (mu L X T) i B)
 |[],i=>by simp [allI]
 |b::B,i=>by
  simp only [allI,zk,V0 hc B (i+1)]
  have hn:ib cols t L X T i b=(kW cols t b&&mu L X T i b):=by
   have n1:=yl (nB i) L;have n2:=yl (kC i) X;have n3:=yl (mO i) T;simp only [ib,mu,nS,←hc i];split
   ·rw [decide_eq_decide.2 (show (dA (nB i) L+dA (kC i) X+dA (mO i) T=0)↔(dA (nB i) L+dA (kC i) X+dA (mO i) T≤0) by omega)]
   ·rfl
  rw [hn];cases kW cols t b<;>cases mu L X T i b<;>simp
theorem Ja {α:Type} {p q:α→Bool}:∀{l:List α},(∀x∈l,p x=q x)→l.all p=l.all q
 |[],_=>rfl
 |x::l,h=>by
  have h1:=Ja (l:=l) fun y hy=>h y (List.mem_cons_of_mem _ hy)
  simp only [zk,h x (List.mem_cons_self ..),h1]
theorem akw {cols:List Int} {s:Int} {B:List aU} {r:aL} (hk:r.Kind=1∨r.Kind=2) (h0:0≤r.iz) (h1:r.iz≤100000000000) (h2:1≤r.ek) (h3:r.ek≤1000000000):kH cols s B r=kV cols s B r:=by
 unfold kH kV;rcases hk with hk|hk
 ·rw [afz (by omega)];simp [hk]
 ·have e1:¬r.Kind=1:=by omega
  rw [if_neg e1];cases ht:jk B r.dW r.fW r.Kind r.ek with
  |false=>rfl
  |true=>
   have e2:gX cols B r=wF cols B r:=by
    unfold gX wF;rw [if_pos ⟨hk,ht⟩];try (generalize B[r.dW.toNat]?=o;cases o<;>rfl)
   rw [e2]
   have e3:(wF cols B r).all (ub r.iz r.ek)=(wF cols B r).all (wD r.iz r.ek):=by
    have KK:∀x∈wF cols B r,0≤x.Id∧x.Id≤1000000000:=by
     unfold wF;split
     ·exact afg cols _
     ·intro x hx;simp at hx
    refine Ja fun x hx=>?_
    obtain ⟨i1,i2⟩:=KK x hx;have w1:=Wi (r.iz+r.ek);have w2:=Wi (r.iz+r.ek-1);have w3:=Wi (x.Id-r.iz);unfold ub wD rh;rw [w1,w2,w3,Bool.eq_iff_iff];simp;omega
   rw [e3];simp [e1]
theorem parts_eq {cols:List Int} {s:Int} {B:List aU} {L:List aL} (h:∀r∈L,(r.Kind=1∨r.Kind=2)∧0≤r.iz∧r.iz≤100000000000∧1≤r.ek∧r.ek≤1000000000):L.all (kH cols s B)=L.all (kV cols s B):=
 Ja fun r hr=>akw (h r hr).1 (h r hr).2.1 (h r hr).2.2.1 (h r hr).2.2.2.1 (h r hr).2.2.2.2
theorem Wr {v:Int} {l:List aL} (h:lZ v l=true):(∀r∈l,(r.Kind=1∨r.Kind=2)∧0≤r.iz∧r.iz≤100000000000∧1≤r.ek∧r.ek≤1000000000)∧∀i,dA (nB i) l=if gY i l=true then 1 else 0:=by
 simp only [lZ,zi,decide_eq_true_eq] at h;exact ⟨Wq h.2 (by omega) (by omega),fun i=>(Wo i h.2).1⟩
theorem ann (c p2 p3 p4 d p6 bn mk dead l5 l6 j8 task JB abT abU Uu place VZ:Bool) (h1:d=true→abT=abU) (h2:d=true→VZ=(Uu&&place)):
 (c&&(p2&&(p3&&(p4&&(d&&(p6&&((bn&&Uu)&&(mk&&(abT&&(dead&&(l5&&(l6&&(j8&&(task&&(JB&&place)))))))))))))))
 =(c&&(p2&&(p3&&(p4&&(d&&(p6&&(l6&&(j8&&(l5&&(JB&&((bn&&(VZ&&dead))&&(abU&&(mk&&task))))))))))))):=by
 cases d
 ·simp
 ·rw [h1 rfl,h2 rfl];cases c<;>cases p2<;>cases p3<;>cases p4<;>cases p6<;>cases bn<;>cases mk<;>simp;cases l5<;>cases l6<;>cases j8<;>cases Uu<;>cases place<;>cases dead<;>simp;cases task<;>cases JB<;>simp
theorem al1 (mE:List Int) (pg rH:Int) (ph lb:Int) (nc rI:Int) (mF:List aL) (jB:List aU) (oE:List Int) (qO:List cD) (oF:List Int) (nL:List bM) (p0:List ca) (K2:mE.length≤9223372036854775807) (K3:mF.length≤9223372036854775807) (K1:jB.length≤9223372036854775807) (FV:aU.dx jB) (K5:oE.length≤9223372036854775807) (K8:qO.length≤9223372036854775807) (K6:oF.length≤9223372036854775807) (K7:nL.length≤9223372036854775807) (Lv:bM.dx nL) (K4:p0.length≤9223372036854775807) (Lu:ca.dx p0) (rT:∀b∈jB,bI b.G):Gw TT 414 [.st [rl false 1 (mE.map ei),ri pg,ri rH,ri ph,ri lb,ri nc,ri rI,rl false 5 (mF.map aL.e),rl false 5 (jB.map aU.e),rl false 1 (oE.map ei),rl false 3 (qO.map cD.e),rl false 1 (oF.map ei),rl false 25 (nL.map bM.e),rl false 25 (p0.map ca.e)]]=some (vb true,[]):=by
 refine Ga GQ OI ?_;unfold OI;obtain ⟨n1,g1,a1,b1,s1⟩:=t233 false mE pg rH ph lb nc rI mF jB oE qO oF nL p0 1048576 (by omega) (by omega) K2 K3 K1 FV K5 K8 K6 K7 Lv K4 Lu;refine Ud g1 ?_ ?_;all_goals repeat intro hc
 ·simp [GQ]
 have q1:=s1 (by omega);obtain ⟨LU,LV,LS,F1,LX,L0,LY,LZ,Mb,LW,Ma⟩:=q1;have hG:∀b∈jB,b.G.length≤1048576∧bI b.G:=fun b hb=>⟨(F1 b hb).2,rT b hb⟩
 have u1:=fun k:Bool=>al2 k mE pg rH ph lb nc rI mF jB oE qO oF nL p0 LU LS F1 hG LW Ma LV LX L0 LY LZ Mb
 have u2:=fun k:Bool=>al3 k mE pg rH ph lb nc rI mF jB oE qO oF nL p0 LU LS F1 hG LW Ma LV LX L0 LY LZ Mb
 have hw:(qP mE pg rH&&(decide (0≤ph∧ph≤1000000)&&(decide (1≤lb∧lb≤1000000)&&(decide (0≤nc∧nc≤1000000)&&(lZ rI mF&&(decide (rI≤1000000)&&((decide ((jB.length:Int)=rH)&&jB.all (kW mE lb))&&((oE.all (iZ lb)&&decide ((oE.length:Int)=pq mF))&&(mF.all (kH mE pg jB)&&(qO.all (gp nc jB)&&(decide (nL.length=5)&&(decide (oF.length=5)&&(nA nc oF&&(allI (kJ mE pg jB oE.length lb p0 oF) 0 nL&&(p0.all (gr ph)&&allI (mu mF qO nL) 0 jB)))))))))))))))=(qP mE pg rH&&(decide (0≤ph∧ph≤1000000)&&(decide (1≤lb∧lb≤1000000)&&(decide (0≤nc∧nc≤1000000)&&(lZ rI mF&&(decide (rI≤1000000)&&(decide (oF.length=5)&&(nA nc oF&&(decide (nL.length=5)&&(p0.all (gr ph)&&((decide ((jB.length:Int)=rH)&&(allI (ib mE lb mF qO nL) 0 jB&&qO.all (gp nc jB)))&&(mF.all (kV mE pg jB)&&((oE.all (iZ lb)&&decide ((oE.length:Int)=pq mF))&&allI (kJ mE pg jB oE.length lb p0 oF) 0 nL))))))))))))):=ann _ _ _ _ _ _ _ _ _ _ _ _ _ _ _ _ _ _ _ (fun hd=>parts_eq (Wr hd).1) (fun hd=>V0 (Wr hd).2 _ _);simp only [hw] at u2;generalize (qP mE pg rH&&(decide (0≤ph∧ph≤1000000)&&(decide (1≤lb∧lb≤1000000)&&(decide (0≤nc∧nc≤1000000)&&(lZ rI mF&&(decide (rI≤1000000)&&(decide (oF.length=5)&&(nA nc oF&&(decide (nL.length=5)&&(p0.all (gr ph)&&((decide ((jB.length:Int)=rH)&&(allI (ib mE lb mF qO nL) 0 jB&&qO.all (gp nc jB)))&&(mF.all (kV mE pg jB)&&((oE.all (iZ lb)&&decide ((oE.length:Int)=pq mF))&&allI (kJ mE pg jB oE.length lb p0 oF) 0 nL)))))))))))))=vw at u1 u2;refine Ud (J8 LU LV LS F1 LX L0 LY (J6 LZ Mb LW Ma u1 u2)) ?_;repeat intro hc
 simp [GQ]
end Go.Proofs.YtohlfelngklcfaaGreat.OM
