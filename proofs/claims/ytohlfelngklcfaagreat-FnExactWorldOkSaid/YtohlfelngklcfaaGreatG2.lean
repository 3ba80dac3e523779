/- A part of the proof. -/
import Derived.Test.YtohlfelngklcfaaGreatG1
import Derived.Test.YtohlfelngklcfaaGreatG0
import Derived.LoopN
set_option linter.all false
namespace Go.Proofs.YtohlfelngklcfaaGreat.OM
open Bool renaming and_eq_true→za,not_eq_true'→ze,or_eq_true→zf,not_eq_false→zg,not_eq_true→zw
open List renaming all_eq_true→zb,mem_of_getElem?→zd,mem_map→zh,mem_append→zi,mem_range→zm,mem_cons→zr,mem_flatMap→zu,getElem?_map→zx,map_congr_left→zy,mem_filter→zz,getElem?_set_self→zA,contains_iff_mem→zB,mem_cons_of_mem→zC,getElem?_set_ne→zD,range→zF,filter_eq_self→zG,getElem?_cons_succ→zK,pairwise_lt_range→zM,pairwise_cons→zO,any_eq_true→zR,isEmpty_iff→zT,map_cons→zU,mapM_nil→zV
open Nat renaming le_max_right→zj,zero_add→zk,le_max_left→zq,le_refl→zt,sub_zero→zP
open Option renaming map_eq_some_iff→zn,mem_toList→zQ,getD_some→zS
open _root_.Array renaming getD_eq_getD_getElem?→zo,length_toList→zH,replicate→zL
open Classical renaming choose_spec→zp,choose→zJ
open Option.some renaming injEq→zI
open List.Pairwise renaming filter→zN
section
section
variable {w0:World} {cl0:fS} {S:St} {ts:Array Value} {w:World} {g:Gh}
def Gh.gm (g:Gh) (I:Nat) (X:Nat→Value) (lent:Bool):Gh where
 cl:=fun b=>match g.cl b with
  |.nz=>.nz
  |.kQ=>.kQ
  |.own 0 q ρ=>.own (I+1) q ρ
  |.own (_+1) _ _=>if lent then .kQ else .no
  |.box _=>if lent then .kQ else .no
  |.no=>.no
 hd:=fun r j ρ=>if r=I+1 then (if ρ=[] then X j else g.hd 0 j ρ) else g.hd r j ρ
 bk:=g.bk
def Gh.gq (g g':Gh) (I:Nat) (size d bR:Nat) (cr:Bool) (X:Nat→Value):Gh where
 cl:=fun b=>if b<size∧(g.cl b).held=false then g.cl b else match g'.cl b with
  |.own 0 n ρ=>if cr then .own (d+1) n ρ else .no
  |.own r q ρ=>if r=I+1 then .own 0 q ρ else .no
  |.box _=>if cr=true∧b=bR then .box d else .no
  |_=>.no
 hd:=fun r j ρ=>if r=0 then g'.hd (I+1) j ρ else if r=d+1∧cr=true then (if ρ=[] then X j else g'.hd 0 j ρ) else g.hd r j ρ
 bk:=if cr then bO g.bk d bR else g.bk
theorem Gh.afs {I:Nat} {X:Nat→Value} {lent:Bool} {b:Nat} {k:Bool} (h:g.cl b=kc k):(g.gm I X lent).cl b=kc k:=by
 cases k<;>simp [kc] at h ⊢<;>simp [Gh.gm,h]
theorem Gh.afp {I:Nat} {X:Nat→Value} {lent:Bool} {b:Nat} {k:Bool} (hk:k=false∨lent=false) (h:(g.gm I X lent).cl b=kc k):g.cl b=kc k:=by
 simp only [Gh.gm] at h;revert h;cases hg:g.cl b with
 |own n j ρ=>rcases hk with rfl|rfl<;>cases n<;>first|(cases lent<;>simp [kc];done)|(cases k<;>simp [kc])
 |box r=>rcases hk with rfl|rfl<;>first|(cases lent<;>simp [kc];done)|(cases k<;>simp [kc])
 |no=>cases k<;>simp [kc]
 |nz=>simp
 |kQ=>simp
theorem Gh.afq {I:Nat} {X:Nat→Value} {lent:Bool} {b:Nat} {k:Bool} (h:(g.iG lent true fun _=>false).cl b=kc k):(g.gm I X lent).cl b=kc k:=by
 simp only [Gh.gm,Gh.iG] at h ⊢;revert h;cases hg:g.cl b with
 |own n j ρ=>cases n<;>simp<;>cases k<;>simp [kc]
 |box r=>simp
 |no=>simp
 |nz=>simp
 |kQ=>simp
theorem Gh.afr {I:Nat} {X:Nat→Value} {lent:Bool} {b:Nat} (h:g.cl b=.no):(g.gm I X lent).cl b=.no:=by simp [Gh.gm,h]
theorem Gh.W9 {I:Nat} {X:Nat→Value} {lent:Bool} {b:Nat}:((g.gm I X lent).cl b).eG=(g.cl b).held:=by
 simp only [Gh.gm];cases hb:g.cl b with
 |own n j ρ=>cases n<;>cases lent<;>rfl
 |box r=>cases lent<;>rfl
 |_=>rfl
theorem h_.gq {w':World} {g':Gh} {d bR:Nat} {I:Nat} {cr lent:Bool} {X X':Nat→Value} (gw:∀b,g.cl b≠.no→b<w.heap.size)
 (yC:∀b,b<w.heap.size→((g.gm I X' lent).cl b).eG=false→w'.heap[b]?=w.heap[b]?) (hs:w.heap.size≤w'.heap.size) (gD:il w w')
 (C6:∀b,g'.cl b≠.no→b<w'.heap.size) (n:Nat) (hn:cr=true→n=d):h_ n w w' g (g.gq g' I w.heap.size d bR cr X):=by
 have vJ:∀b,g.cl b≠.no→(g.cl b).held=false→(g.gq g' I w.heap.size d bR cr X).cl b=g.cl b:=fun b h1 h2=>by
  simp only [Gh.gq];rw [if_pos ⟨gw b h1,h2⟩]
 refine { hp:=fun b h h2=>yC b h ?_,hs:=hs,kc:=fun b k=>?_,cl:=fun b n1 j ρ h _=>?_,bx:=fun b n1 h _=>?_,hd:=fun n1 j ρ h=>?_,
          bk:=fun n1 h=>?_,bd:=fun b h=>?_,mi:=fun b hb h=>?_,sd:=gD }
 ·rw [Gh.W9];cases hh:(g.cl b).held with
  |false=>rfl
  |true=>obtain ⟨q,ρ,e⟩:=gR.BG hh;exact absurd e (h2 q ρ)
 ·by_cases hb:b<w.heap.size∧(g.cl b).held=false
  ·simp only [Gh.gq];rw [if_pos hb]
  ·have h1:∀k,g.cl b≠OM.kc k:=fun k e=>hb ⟨gw b (by rw [e];cases k<;>simp [OM.kc]),by rw [e];cases k<;>rfl⟩
   constructor
   ·intro h2;simp only [Gh.gq] at h2;rw [if_neg hb] at h2;split at h2<;>first|(cases k<;>simp [OM.kc] at h2;done)|(split at h2<;>cases k<;>simp [OM.kc] at h2)
   ·exact fun h2=>absurd h2 (h1 k)
 ·rw [vJ b (by rw [h];simp) (by rw [h];rfl)];exact h
 ·rw [vJ b (by rw [h];simp) (by rw [h];rfl)];exact h
 ·simp only [Gh.gq];rw [if_neg (by omega),if_neg (fun e=>h (by have:=hn e.2;omega))]
 ·simp only [Gh.gq];cases fu:cr with
  |false=>simp
  |true=>have:=hn fu;subst this;simp [bO,h]
 ·by_cases hb:b<w.heap.size∧(g.cl b).held=false
  ·left;simp only [Gh.gq] at h;rw [if_pos hb] at h;exact h
  ·by_cases ai:b<w.heap.size
   ·left
    have:(g.cl b).held=true:=by
     cases hh:(g.cl b).held with
     |true=>rfl
     |false=>exact absurd ⟨ai,hh⟩ hb
    obtain ⟨q,ρ,e⟩:=gR.BG this;rw [e];simp
   ·right;refine ⟨by omega,C6 b (fun e=>?_)⟩;simp only [Gh.gq] at h;rw [if_neg hb,e] at h;exact h rfl
 ·by_cases lv:(g.cl b).held=false
  ·simp only [Gh.gq] at h;rw [if_pos ⟨hb,lv⟩] at h;exact h
  ·obtain ⟨q,ρ,e⟩:=gR.BG (c:=g.cl b) (by simpa using lv);rw [e];rfl
section
variable {w':World} {g':Gh} {d bR:Nat} {I:Nat} {cr lent:Bool} {X X':Nat→Value}
theorem aab (je:∀b,b<w.heap.size→(g'.cl b).eG=true→((g.gm I X' lent).cl b).eG=true) {b:Nat} (hm:(g'.cl b).eG=true):
 (g.gq g' I w.heap.size d bR cr X).cl b=match g'.cl b with
  |.own 0 n ρ=>if cr then .own (d+1) n ρ else .no
  |.own r q ρ=>if r=I+1 then .own 0 q ρ else .no
  |.box _=>if cr=true∧b=bR then .box d else .no
  |_=>.no:=by
 simp only [Gh.gq];rw [if_neg (fun e=>?_)];have:=je b e.1 hm;rw [Gh.W9,e.2] at this;cases this
theorem aac (oP:∀b k,g'.cl b=kc k↔(g.gm I X' lent).cl b=kc k) (gw:∀b,g.cl b≠.no→b<w.heap.size) {k:Bool} {dd:D} {x:Value} (ez:(C.ro k dd).fl=true∨lent=false) (h:RO w' g'.cl k dd x):
 RO w' (g.gq g' I w.heap.size d bR cr X).cl k dd x:=by
 by_cases hs:dd.dt=true
 ·exact h.dt hs
 have tx:k=false∨lent=false:=by
  rcases ez with ez|ez
  ·left;simpa [C.fl,hs] using ez
  ·exact .inr ez
 exact h.mono fun b hb=>⟨rfl,by
  have h1:=Gh.afp tx ((oP b k).1 hb);simp only [Gh.gq];rw [if_pos ⟨gw b (by rw [h1];cases k<;>simp [kc]),by rw [h1];cases k<;>rfl⟩]
  exact h1⟩
theorem afx (je:∀b,b<w.heap.size→(g'.cl b).eG=true→((g.gm I X' lent).cl b).eG=true) (oP:∀b k,g'.cl b=kc k↔(g.gm I X' lent).cl b=kc k) (gw:∀b,g.cl b≠.no→b<w.heap.size)
 {j:Nat} {c:C} {x:Value} (ez:c.fl=true∨lent=false) (hn:c.dP=true) (hx:X j=x) (h:RC w' g' 0 j c x):RC w' (g.gq g' I w.heap.size d bR true X) (d+1) j c x:=by
 cases h with
 |ro k dd _ h=>exact .ro _ _ _ (aac oP gw ez h)
 |own dd _ h=>
  refine .own _ _ (Hd.place (w:=w') (g:=g') (.inl h) (fun b ρ hb=>⟨rfl,?_⟩) (fun ρ oe=>?_) ?_)
  ·rw [aab je (by rw [hb];rfl),hb];simp
  ·simp [Gh.gq,oe]
  ·simp [Gh.gq,hx]
 |rf=>simp [C.dP] at hn
end
end
section
variable {P:Program} {κ:Nat→FuncId} {w0:World} {cl0:fS} {S:St} {w:World} {g:Gh} {a:Act} {Γ:Env} {d:Nat}
theorem ago {x:V} {v:Value} {I:Nat} {X:Nat→Value} {lent:Bool} (hn:x.flat.all C.dP=true) (hX:∀j y,v.cells[j]?=some y→X j=y) (h:mY w g 0 0 x v):pY w (g.gm I X lent) I x v:=by
 have hc:∀{n:Nat} {c:C} {y:Value},c.dP=true→X n=y→RC w g 0 n c y→RC w (g.gm I X lent) (I+1) n c y:=fun {n c y} h1 hy h2=>by
  cases h2 with
  |ro k d _ h3=>exact .ro _ _ _ (h3.mono fun b hb=>⟨rfl,Gh.afs hb⟩)
  |own d _ h3=>
   refine .own _ _ (Hd.place (w:=w) (g:=g) (.inl h3) (fun b ρ hb=>⟨rfl,by simp [Gh.gm,hb]⟩) (fun ρ oe=>?_) ?_)
   ·simp [Gh.gm,oe]
   ·simp [Gh.gm,hy]
  |rf=>simp [C.dP] at h1
 cases x with
 |one c=>
  refine ⟨⟨hc (by simpa [V.flat] using hn) (hX 0 v (by rw [h.2];rfl)) h.1,h.2⟩,fun _ j y hy=>?_⟩;simp [Gh.gm,hX j y hy]
 |st cs=>
  obtain ⟨vs,rfl,hl,h2⟩:=h;refine ⟨⟨vs,rfl,hl,fun i c y h3 h4=>?_⟩,fun _ j y hy=>?_⟩
  ·refine hc (zb.1 hn c (zd h3)) (hX _ y ?_) (h2 i c y h3 h4);rw [zk];simpa [Value.cells] using h4
  ·simp [Gh.gm,hX j y hy]
 |ptr=>exact h.elim
 |cf=>exact h.elim
theorem Jq {I:Nat} {m1:Ms} {g1:Gh} (R1:Rel w0 cl0 { S with ms:=m1 } a.tmps w g1) {xs:List V} {args:Array Value} {us:List (Nat×Nat×C)} {w':World} {g':Gh}
 {X X':Nat→Value} {cr lent:Bool} {bR:Nat}
 (hL:Left w (g1.gm I X' lent) xs args us w' g') (hn:cr=true→(m1 d).1=none):
 ∃g3,Rel w0 cl0 { S with ms:=m1 } a.tmps w' g3∧
  (∀{c:C} {j:Nat} {x:Value},(c.fl=true∨lent=false)→c.gx=false→c.dP=true→RC w' g' 0 j c x→RC w' g3 (d+1) j c x)∧
  (cr=true→∀{c:C} {j:Nat} {x:Value},(c.fl=true∨lent=false)→c.dP=true→X j=x→RC w' g' 0 j c x→RC w' g3 (d+1) j c x)∧
  (cr=true→∀j,g3.hd (d+1) j []=X j)∧(cr=true→g3.bk d=bR∧∀n,g'.cl bR=.box n→g3.cl bR=.box d):=by
 have yC:=hL.fr;have je:=hL.mi;have oP:=hL.im;have H:∀n,(cr=true→n=d)→h_ n w w' g1 (g1.gq g' I w.heap.size d bR cr X):=fun n hn=>h_.gq (X':=X') (lent:=lent) R1.bd (fun b h1 h2=>yC b h1 h2) hL.sz hL.sd hL.bd n hn
 have R2:Rel w0 cl0 { S with ms:=m1 } a.tmps w' (g1.gq g' I w.heap.size d bR cr X):=by
  refine R1.pass (d0:=d) (H d fun _=>rfl) (fun n hs=>?_);cases fu:cr with
  |false=>
   subst fu;exact ⟨n+1,by omega,H _ (fun e=>by cases e)⟩
  |true=>
   subst fu;refine ⟨d,fun e=>?_,H d fun _=>rfl⟩;subst e;rw [hn rfl] at hs;cases hs
 refine ⟨_,R2,fun {c j x} ho h1 h2 h=>?_,fun fu {c j x} ho h1 hx h=>?_,fun fu j=>?_,fun fu=>⟨?_,fun n hb=>?_⟩⟩
 ·cases h with
  |ro k dd _ h=>exact .ro _ _ _ (aac (d:=d) (bR:=bR) (cr:=cr) (X:=X) oP R1.bd ho h)
  |own dd _ h=>
   simp only [C.gx,Bool.not_eq_false'] at h1;refine .own _ _ ?_;cases h<;>first|exact .int _ _ _|exact .bool _ _|exact .str _ _|simp [D.dt] at h1
  |rf=>simp [C.dP] at h2
 ·subst fu;exact afx (d:=d) (bR:=bR) je oP R1.bd ho h1 hx h
 ·subst fu;simp [Gh.gq]
 ·subst fu;simp [Gh.gq,bO]
 ·subst fu;rw [aab je (by rw [hb];rfl),hb];simp
theorem aef {I:Nat} {m1:Ms} {g1:Gh} (R1:Rel w0 cl0 { S with ms:=m1 } a.tmps w g1) {xs:List V} {args:Array Value} {us:List (Nat×Nat×C)} {w':World} {g':Gh} {r:V} {v:Value}
 {X':Nat→Value} {lent:Bool} (Dm:(r.fl||!lent)=true)
 (cJ:r.plain=true) (hr:uz w' g' r v)
 (hL:Left w (g1.gm I X' lent) xs args us w' g') (hn:((imp d r).2).isSome→(m1 d).1=none):
 kq w0 cl0 S a.tmps d (imp d r).1 (imp d r).2 m1 v w':=by
 by_cases qw:∃cs,r=.ptr cs
 ·obtain ⟨cs,rfl⟩:=qw;obtain ⟨Rn,b,vals,E,rfl,aD,ie,pD,fu⟩:=hr;obtain ⟨g3,R3,p1,p2,p3,p4⟩:=Jq (d:=d) (cr:=true) (bR:=b) (X:=fun j=>vals.getD j undef) R1 hL (fun _=>hn rfl);obtain ⟨p5,p6⟩:=p4 rfl;simp only [imp] at hn ⊢;have fK:=hn rfl;simp only [V.plain] at cJ
  have fU:∀(j:Nat) (c:C) (x:Value),cs[j]?=some c→vals[j]?=some x→RC w' g3 (d+1) j c x:=by
   intro j c x hc hx;have h5:=fu j c x hc (by simpa using hx);rw [zk] at h5
   have vM:c.fl=true∨lent=false:=by
    rcases zf _ _▸Dm with h|h
    ·simp only [V.fl,V.wj] at h;exact .inl (zb.1 h c (zd hc))
    ·right;simpa using h
   exact p2 rfl vM (zb.1 cJ c (zd hc)) (by simp [zo,hx]) h5
  refine ⟨_,R3.fresh (rt:=.bx cs) fK (h_.refl d w' g3) ⟨?_,vals,E,?_,by simpa using pD.symm,fU⟩ (fun j r1 j1 hj=>?_),?_,fun q hq=>?_⟩
  ·rw [p5];exact p6 _ aD
  ·rw [p5];exact ie
  ·have:=zb.1 cJ _ (zd hj);simp [C.dP] at this
  ·have rT:=RA.bx (w:=w') (g:=g3) (m:=bO m1 d (some (.bx cs),[])) d 0;rw [p5] at rT;exact rT
  ·simp [AV.refs] at hq;subst hq;simp [bO]
 ·have iY:∀cs,r≠.ptr cs:=fun cs e=>qw ⟨cs,e⟩
  obtain ⟨oO,xj⟩:=IZ hr iY;have tE:=Ip cJ iY
  have xp:∀c∈r.ja,c.fl=true∨lent=false:=by
   intro c hc;rcases zf _ _▸Dm with h|h
   ·exact .inl (zb.1 (MJ h iY) c hc)
   ·right;simpa using h
  rw [BU iY] at hn ⊢;by_cases mI:r.ja.any C.gx=true
  ·rw [if_pos mI] at hn ⊢;have fK:=hn rfl;obtain ⟨g3,R3,p1,p2,p3,p4⟩:=Jq (d:=d) (cr:=true) (bR:=0) (X:=fun j=>(r.vals v).getD j undef) R1 hL (fun _=>hn rfl)
   have fU:∀(j:Nat) (c:C) (x:Value),r.ja[j]?=some c→(r.vals v)[j]?=some x→RC w' g3 (d+1) j c x:=by
    intro j c x hc hx;have h5:=xj j c x hc hx;rw [zk] at h5;exact p2 rfl (xp c (zd hc)) (zb.1 tE c (zd hc)) (by simp [List.getD,hx]) h5
   refine ⟨_,R3.fresh (rt:=.aX r.ja) fK (h_.refl d w' g3) (fun j c hc=>?_) (fun j r1 j1 hj=>?_),?_,fun q hq=>?_⟩
   ·have ai:=cY hc;have hx:(r.vals v)[j]?=some (r.vals v)[j]:=by simp [show j<(r.vals v).length from by omega]
    have:=fU j c _ hc hx;rw [p3 rfl j];simpa [List.getD,hx] using this
   ·have:=zb.1 tE _ (zd hj);simp [C.dP] at this
   ·exact BT hr iY (fun i c y hc hy=>A_ (fU i c y hc hy))
   ·obtain ⟨rfl,_⟩:=AA cJ iY hq;simp [bO]
  ·rw [if_neg mI] at hn ⊢;obtain ⟨g3,R3,p1,p2,p3,p4⟩:=Jq (d:=d) (cr:=false) (bR:=0) (X:=fun _=>undef) R1 hL (fun e=>by cases e);refine ⟨g3,R3,?_,fun q hq=>?_⟩
   ·refine BT hr iY (fun i c y hc hy=>?_);have h5:=xj i c y hc hy;have jI:=zb.1 tE c (zd hc);rw [zk] at h5;refine A_ (p1 (xp c (zd hc)) ?_ jI h5);cases h8:c.gx
    ·rfl
    ·exact absurd (zR.2 ⟨_,zd hc,h8⟩) mI
   ·exact absurd (AA cJ iY hq).2 mI
end
end
section
section
variable {P:Program} {κ:Nat→FuncId} {w0:World} {cl0:fS} {S:St} {w:World} {g:Gh} {a:Act} {Γ:Env} {d:Nat}
def CC (P:Program) (K:Value→World→Prop):Result Next→Prop
 |.ok (.value v) w'=>K v w'
 |.ok .skip w'=>K undef w'
 |.ok (.enter f args) w'=>Calls P f args w' fun e Cz=>∃v,e=.returned v∧K v Cz
 |_=>False
structure wU (P:Program) (κ:Nat→FuncId) (Γ:Env):Prop where
 mh:κ=OM.mh
 ok:∀f xs r us,Γ f xs=some (r,us)→OK P (κ f) xs r us
 body:∀f xs y,Γ f xs=some y→yg P (κ f)=true
theorem Je (R:Rel w0 cl0 S a.tmps w g) {lent bl:Bool} {ex:Nat→Bool}:∀(as:List AV) (vs:List Value) (xs:List V) (i:Nat),as.length=vs.length→
 (∀(k:Nat) (av:AV) (x:Value),as[k]?=some av→vs[k]?=some x→RA w g S.ms av x)→jU S.ms [] i as=some xs→(og [] i as=true→lent=true)→(as.any AV.vE=true→bl=true)→(∀av∈as,∀r∈av.refs,ex r=false)→
 xs.length=vs.length∧∀(k:Nat) (x:V) (v:Value),xs[k]?=some x→vs[k]?=some v→pY w (g.iG lent bl ex) (i+k) x v:=by
 intro as;induction as with
 |nil=>intro vs xs i hl eA h vK yD hex;simp [jU] at h;subst h;cases vs<;>simp at hl ⊢
 |cons av as ih=>
  intro vs xs i hl eA h vK yD hex;cases vs with
  |nil=>simp at hl
  |cons v vs=>
   simp only [jU,List.contains_nil] at h;cases h1:oG S.ms false av with
   |none=>simp [h1] at h
   |some x=>
    simp only [h1] at h;cases h2:jU S.ms [] (i+1) as with
    |none=>simp [h2] at h
    |some xs2=>
     simp only [h2] at h;simp at h;subst h;have tz:av.lent=true→lent=true:=fun hh=>vK (by simp [og,hh])
     have dy:og [] (i+1) as=true→lent=true:=fun hh=>vK (by simp [og,hh])
     have FO:av.vE=true→bl=true:=fun hh=>yD (by simp [hh])
     have xi:as.any AV.vE=true→bl=true:=fun hh=>yD (by rw [List.any_cons,hh,Bool.or_true])
     obtain ⟨q1,q2⟩:=ih vs xs2 (i+1) (by simpa using hl) (fun k av x hk hx=>eA (k+1) av x hk hx) h2 dy xi (fun av hv=>hex av (zC _ hv));refine ⟨by simp [q1],fun k y z hy hz=>?_⟩;cases k with
     |zero=>simp at hy hz;subst hy;subst hz;exact ad1 R (eA 0 av v rfl rfl) h1 tz FO (hex _ (List.mem_cons_self ..)) i
     |succ k=>
      have:=q2 k y z hy hz;rwa [show i+(k+1)=i+1+k from by omega]
theorem ajV (R:Rel w0 cl0 S a.tmps w g) {f:Nat} {io:List Nat} {args:List PX} {op:Op} {av:AV} {rt:Option Rt} {m':Ms} (jH:rt.isSome→(m' d).1=none)
 (mL:wU P κ Γ)
 (hc:cv P κ (.call f io args) op=true) (h:bh Γ S.ev d S.ms (.call f io args)=some (av,rt,m')) (o:Oper) (ho:o.op=op):
 CC P (fun v w'=>kq w0 cl0 S a.tmps d av rt m' v w') ((execOp a.eval o).run P w):=by
 cases op with
 |call c=>?_
 |_=>simp [cv] at hc
 obtain ⟨callee,jV,aeB⟩:=c;obtain ⟨jV⟩:=jV;simp only [cv] at hc;split at hc
 ·rename_i f';simp only [za,beq_iff_eq] at hc;obtain ⟨⟨hk,n9⟩,qX⟩:=hc;subst hk;split at qX
  ·rename_i fn C';simp only [za,bne_iff_ne,ne_eq] at qX;obtain ⟨tr,KX⟩:=qX
   have gC:(execOp a.eval o).run P w=.ok (.enter (κ f) (jV.map a.eval).toArray) w:=by
    have BE:fn.body.isNone=false:=by cases hb:fn.body<;>simp_all
    have Di:(fn.name== "runtime.NumGoroutine")=false:=by simpa using KX
    simp only [execOp,ho,resolve,Act.eval,Deferred.ofValue,pure_bind,invoke,callFunc,Sem.run_bind,run_program,Result.andThen_ok,C'];simp [Di,BE]
   rw [gC];obtain ⟨BL,mc⟩:=V8 args jV n9;simp only [bh] at h;split at h
   ·split at h
    ·rename_i xs lu;split at h
     ·rename_i r us hg;split at h
      ·rename_i jb;simp only [za] at jb;obtain ⟨cJ,ez⟩:=jb;split at h
       ·simp at h;obtain ⟨rfl,rfl,rfl⟩:=h
        have eA:∀(k:Nat) (av:AV) (x:Value),(args.map S.ev)[k]?=some av→(jV.map a.eval)[k]?=some x→RA w g S.ms av x:=by
         intro k av x h1 h2;simp only [zx,zn] at h1 h2;obtain ⟨px,h1,rfl⟩:=h1;obtain ⟨ox,h2,rfl⟩:=h2;exact (en R (mc k px ox h1 h2)).1
        obtain ⟨q1,q2⟩:=Je (lent:=og [] 0 (args.map S.ev)) (bl:=true) (ex:=fun _=>false) R (args.map S.ev) (jV.map a.eval) xs 0 (by simpa using BL) eA lu (fun h=>h) (fun _=>rfl) (fun _ _ _ _=>rfl)
        have:=mL.ok f xs r [] hg w (jV.map a.eval).toArray (g.iG (og [] 0 (args.map S.ev)) true fun _=>false) (by simpa using q1.symm)
         (fun b hb=>R.bd b (fun e=>hb (Gh.ai_ e))) (fun i x v hx hv=>by
          have:=q2 i x v hx (by simpa using hv)
          rwa [zk] at this)
        refine this.mono (fun e w' he=>?_);obtain ⟨v,g',rfl,hr,hL⟩:=he;exact ⟨v,rfl,aed R cJ ez hr hL jH⟩
       ·cases h
      ·cases h
     ·cases h
    ·cases h
   ·split at h
    ·cases h
    ·rename_i a0 rest Kw;split at h
     ·cases h
     rename_i aqR;split at h
     ·rename_i x0 m1 BN;split at h
      ·rename_i xs lu
       ·split at h
        ·rename_i r us hg;split at h
         ·rename_i cJ;simp only [za] at cJ;obtain ⟨cJ,ahi⟩:=cJ;split at h
          ·rename_i m2 hu;simp at h;obtain ⟨rfl,rfl,rfl⟩:=h;cases args with
           |nil=>simp at Kw
           |cons px args=>
            simp only [zU,List.cons.injEq] at Kw;obtain ⟨rfl,rfl⟩:=Kw;cases jV with
            |nil=>simp at BL
            |cons o0 jV=>
             have nZ:eh px o0=true:=mc 0 px o0 rfl rfl;have agx:∀(k:Nat) (x:PX) (o:Operand),args[k]?=some x→jV[k]?=some o→eh x o=true:=fun k x o h1 h2=>mc (k+1) x o h1 h2
             have ahb:args.length=jV.length:=by simpa using BL
             obtain ⟨LH,jY,hot⟩:=abR BN;obtain ⟨g1,R1,T1,fM⟩:=Gi R (en R nZ).1 BN 0;have LL:∀{w:World} {g:Gh},Rel w0 cl0 { S with ms:=m1 } a.tmps w g→RA w g m1 (S.ev px) (a.eval o0):=fun R2=>(en R2 nZ).1
             have eA:∀(k:Nat) (av:AV) (x:Value),(args.map S.ev)[k]?=some av→(jV.map a.eval)[k]?=some x→RA w g1 m1 av x:=by
              intro k av x h1 h2;simp only [zx,zn] at h1 h2;obtain ⟨px,h1,rfl⟩:=h1;obtain ⟨ox,h2,rfl⟩:=h2;exact (en R1 (agx k px ox h1 h2)).1
             obtain ⟨q1,q2⟩:=Je (lent:=og [] 1 (args.map S.ev)) (bl:=true) (ex:=fun _=>false) R1 (args.map S.ev) (jV.map a.eval) xs 1 (by simpa using ahb) eA lu (fun h=>h) (fun _=>rfl) (fun _ _ _ _=>rfl);have hX:∀(j:Nat) (y:Value),(a.eval o0).cells[j]?=some y→(fun j:Nat=>((a.eval o0).cells[j]?).getD undef) j=y:=fun j y hy=>by simp [hy]
             have hA:=agn (X:=fun j:Nat=>((a.eval o0).cells[j]?).getD undef) (lent:=og [] 1 (args.map S.ev)) LH hX fM;have hK:∀b k,(g1.iG (og [] 1 (args.map S.ev)) true fun _=>false).cl b=kc k→(g1.gi (fun j:Nat=>((a.eval o0).cells[j]?).getD undef) (og [] 1 (args.map S.ev))).cl b=kc k:=fun b k hb=>Gh.afk hb
             have:=mL.ok f (x0::xs) r us hg w (((o0::jV).map a.eval).toArray) (g1.gi (fun j:Nat=>((a.eval o0).cells[j]?).getD undef) (og [] 1 (args.map S.ev))) (by simpa using q1.symm)
              (fun b hb=>R1.bd b (fun e=>hb (Gh.afl e))) (fun i x v hx hv=>by
               cases i with
               |zero=>
                simp at hx hv;subst hx;subst hv;exact hA
               |succ i=>
                have mK:xs[i]?=some x:=by simpa using hx
                have h1:=q2 i x v mK (by simpa using hv);rw [Nat.add_comm 1 i] at h1;obtain ⟨b,hb⟩:=VL _ _ _ lu i x mK
                exact h1.DL hK (VJ hb) (VK hb))
             refine this.mono (fun e w' he=>?_);obtain ⟨v,g',rfl,hr,hL⟩:=he;refine ⟨v,rfl,aee R1 ahi LL (fun hn=>?_) jY (by simp) cJ hr hL hu jH⟩;cases x0 with
             |one c=>exact fM.2
             |st cs=>
              exfalso;have h2:=BN;unfold ml at h2;split at h2
              ·rename_i rN h3;exact hn _ h3
              ·split at h2<;>simp at h2
             |ptr cs=>exact absurd rfl (jY cs)
             |cf=>exact absurd rfl (hot _)
          ·cases h
         ·cases h
        ·cases h
      ·cases h
     ·cases h
  ·cases qX
 ·cases hc
theorem ajW (R:Rel w0 cl0 S a.tmps w g) {f i:Nat} {args:List PX} {op:Op} {av:AV} {rt:Option Rt} {m':Ms} (jH:rt.isSome→(m' d).1=none)
 (mL:wU P κ Γ) (hc:cv P κ (.lj f i args) op=true) (h:bh Γ S.ev d S.ms (.lj f i args)=some (av,rt,m')) (o:Oper) (ho:o.op=op):
 CC P (fun v w'=>kq w0 cl0 S a.tmps d av rt m' v w') ((execOp a.eval o).run P w):=by
 cases op with
 |call c=>?_
 |_=>simp [cv] at hc
 obtain ⟨callee,jV,aeB⟩:=c;obtain ⟨jV⟩:=jV;simp only [cv] at hc;split at hc
 ·rename_i f';simp only [za,beq_iff_eq,decide_eq_true_eq] at hc;obtain ⟨⟨⟨hk,n9⟩,yE⟩,qX⟩:=hc;subst hk;split at qX
  ·rename_i fn C';simp only [za,bne_iff_ne,ne_eq] at qX;obtain ⟨tr,KX⟩:=qX
   have gC:(execOp a.eval o).run P w=.ok (.enter (κ f) (jV.map a.eval).toArray) w:=by
    have BE:fn.body.isNone=false:=by cases hb:fn.body<;>simp_all
    have Di:(fn.name== "runtime.NumGoroutine")=false:=by simpa using KX
    simp only [execOp,ho,resolve,Act.eval,Deferred.ofValue,pure_bind,invoke,callFunc,Sem.run_bind,run_program,Result.andThen_ok,C'];simp [Di,BE]
   rw [gC];obtain ⟨BL,mc⟩:=V8 args jV n9;simp only [bh] at h;split at h
   ·rename_i a0 qU;split at h
    ·rename_i x0 m1 BN;split at h
     ·rename_i xs lu;split at h
      ·rename_i r us hg;split at h
       ·rename_i jb;simp only [za] at jb;obtain ⟨cJ,ez⟩:=jb;simp at h;obtain ⟨rfl,rfl,rfl⟩:=h;simp only [zx,zn] at qU;obtain ⟨px,hpx,rfl⟩:=qU;have uL:i<jV.length:=by omega
        obtain ⟨o0,ho0⟩:∃o0,jV[i]?=some o0:=⟨_,List.getElem?_eq_getElem uL⟩;have nZ:eh px o0=true:=mc i px o0 hpx ho0;obtain ⟨LH,jY,hot⟩:=abR BN;obtain ⟨g1,R1,T1,fM⟩:=Gi R (en R nZ).1 BN 0;generalize vK:og [] 0 ((args.map S.ev).set i (.v false (.bool true)))=lent at ez
        have eA:∀(k:Nat) (av:AV) (x:Value),((args.map S.ev).set i (.v false (.bool true)))[k]?=some av→((jV.map a.eval).set i (.bool true))[k]?=some x→RA w g1 m1 av x:=by
         intro k av x h1 h2;by_cases e:i=k
         ·subst e;rw [zA (by simpa using yE)] at h1;rw [zA (by simpa using uL)] at h2;cases h1;cases h2;exact .v _ _ _ (.bool _)
         ·rw [zD e] at h1 h2;simp only [zx,zn] at h1 h2;obtain ⟨px,h1,rfl⟩:=h1;obtain ⟨ox,h2,rfl⟩:=h2;exact (en R1 (mc k px ox h1 h2)).1
        obtain ⟨q1,q2⟩:=Je (lent:=lent) (bl:=true) (ex:=fun _=>false) R1 ((args.map S.ev).set i (.v false (.bool true))) ((jV.map a.eval).set i (.bool true)) xs 0 (by simpa using BL) eA lu (fun h=>vK▸h) (fun _=>rfl) (fun _ _ _ _=>rfl);have hX:∀(j:Nat) (y:Value),(a.eval o0).cells[j]?=some y→(fun j:Nat=>((a.eval o0).cells[j]?).getD undef) j=y:=fun j y hy=>by simp [hy]
        have hA:=ago (I:=i) (X:=fun j:Nat=>((a.eval o0).cells[j]?).getD undef) (lent:=lent) LH hX fM;have hK:∀b k,(g1.iG lent true fun _=>false).cl b=kc k→(g1.gm i (fun j:Nat=>((a.eval o0).cells[j]?).getD undef) lent).cl b=kc k:=fun b k hb=>Gh.afq hb
        have jt:xs.length=jV.length:=by simpa using q1
        have:=mL.ok f (xs.set i x0) r us hg w (jV.map a.eval).toArray (g1.gm i (fun j:Nat=>((a.eval o0).cells[j]?).getD undef) lent) (by simpa using jt.symm)
         (fun b hb=>R1.bd b (fun e=>hb (Gh.afr e))) (fun k x v hx hv=>by
          by_cases e:i=k
          ·subst e;rw [zA (by omega)] at hx;cases hx;simp [ho0] at hv;subst hv;exact hA
          ·rw [zD e] at hx;have h1:=q2 k x v hx (by rw [zD e];simpa using hv);rw [zk] at h1;obtain ⟨b,hb⟩:=VL _ _ _ lu k x hx
           exact h1.DL hK (VJ hb) (VK hb))
        refine this.mono (fun e w' he=>?_);obtain ⟨v,g',rfl,hr,hL⟩:=he;exact ⟨v,rfl,aef R1 ez cJ hr hL jH⟩
       ·cases h
      ·cases h
     ·cases h
    ·cases h
   ·cases h
  ·cases qX
 ·cases hc
theorem mQ (R:Rel w0 cl0 S a.tmps w g) {av:AV} {rt:Option Rt} {m':Ms} {op:Op} {o:Oper} (ho:o.op=op) (h:lW P S w g a av rt m' op):
 CC P (fun v w'=>kq w0 cl0 S a.tmps d av rt m' v w') ((execOp a.eval o).run P w):=by
 obtain ⟨rfl,rfl,h⟩:=h;obtain ⟨v,h1,h2,h3⟩:=h o ho;rw [h1];exact ⟨g,R,h2,h3⟩
theorem xR {av:AV} {rt:Option Rt} {m':Ms} {o:Oper} (h:∃v w',(execOp a.eval o).run P w=.ok (.value v) w'∧kq w0 cl0 S a.tmps d av rt m' v w'):
 CC P (fun v w'=>kq w0 cl0 S a.tmps d av rt m' v w') ((execOp a.eval o).run P w):=by
 obtain ⟨v,w',h1,h2⟩:=h;rw [h1];exact h2
theorem adZ {sz gl:Nat} {x y:PX} {av:AV} {rt:Option Rt} {m':Ms} (h:bh Γ S.ev d S.ms (.p_ sz gl x y)=some (av,rt,m')):bh Γ S.ev d S.ms (.app sz gl x y)=some (av,rt,m'):=by
 simp only [bh] at h ⊢;split at h
 ·rename_i s1 ys he;split at h
  ·rename_i hf;simp only [he,hf,if_true];exact h
  ·cases h
 ·cases h
theorem akb (R:Rel w0 cl0 S a.tmps w g) {pop:bP} {op:Op} {av:AV} {rt:Option Rt} {m':Ms} (jH:rt.isSome→(m' d).1=none)
 (mL:wU P κ Γ)
 (hc:cv P κ pop op=true) (h:bh Γ S.ev d S.ms pop=some (av,rt,m')) (o:Oper) (ho:o.op=op):
 CC P (fun v w'=>kq w0 cl0 S a.tmps d av rt m' v w') ((execOp a.eval o).run P w):=by
 cases pop with
 |mv x=>exact mQ R ho (aj' R hc h)
 |pick c x y=>exact mQ R ho (akc R hc h)
 |bin b x y=>exact mQ R ho (ajR R hc h)
 |eqs n ks x y=>exact mQ R ho (aj1 R hc h)
 |rP n x y=>exact mQ R ho (aj0 R hc h)
 |un u x=>exact mQ R ho (akf R hc h)
 |len x=>exact mQ R ho (aj7 R hc h)
 |lens x=>exact mQ R ho (aj8 R hc h)
 |box n x=>
  have hh:rt.isSome∧m'=S.ms:=by
   simp only [bh] at h;split at h
   ·split at h
    ·simp at h;exact ⟨by rw [←h.2.1];rfl,h.2.2.symm⟩
    ·cases h
   ·cases h
  obtain ⟨fw,hm⟩:=hh;exact xR (ajS R (by rw [←hm];exact jH fw) hc h o ho)
 |alloc zs=>
  have fw:rt.isSome:=by simp only [bh] at h;split at h<;>simp at h;rw [←h.2.1];rfl
  have hm:m'=S.ms:=by simp only [bh] at h;split at h<;>simp at h;exact h.2.2.symm
  exact xR (ajP R (by rw [←hm];exact jH fw) hc h o ho)
 |build z ps=>exact mQ R ho (ajU R hc h)
 |bZ sz z n ps=>
  have fw:rt.isSome:=by simp only [bh] at h;split at h<;>simp at h;rw [←h.2.1];rfl
  exact xR (ajT R (jH fw) hc h o ho)
 |lH sz gl z x=>
  have hh:rt.isSome∧m'=S.ms:=by
   simp only [bh] at h;split at h
   ·split at h
    ·simp at h;exact ⟨by rw [←h.2.1];rfl,h.2.2.symm⟩
    ·cases h
   ·cases h
  obtain ⟨fw,hm⟩:=hh;exact xR (aj9 R (by rw [←hm];exact jH fw) hc h o ho)
 |ld ag n x=>exact mQ R ho (aj6 R hc h)
 |st n x y=>
  obtain ⟨rfl,w',g',h1,h2⟩:=ake R hc h o ho
  have fG:av=.un:=by
   simp only [bh] at h;split at h
   ·split at h
    ·split at h
     ·simp at h;exact h.1.symm
     ·cases h
    ·cases h
   ·cases h
  subst fG;rw [h1];exact ⟨g',h2,.un _,fun r hr=>by simp [AV.refs] at hr⟩
 |Cw=>simp [bh] at h
 |FB=>simp [bh] at h
 |DQ=>simp [bh] at h
 |ah x off=>exact mQ R ho (aj3 R hc h)
 |cK sz x i=>exact mQ R ho (aj4 R hc h)
 |iI sz x lo hi=>exact mQ R ho (akd R hc h)
 |Iz=>simp [bh] at h
 |ext x k=>exact mQ R ho (aj2 R hc h)
 |call f io args=>exact ajV R jH mL hc h o ho
 |app sz gl x y=>
  have fw:rt.isSome:=by
   simp only [bh] at h;split at h
   ·split at h
    ·split at h
     ·simp at h;rw [←h.2.1];rfl
     ·cases h
    ·cases h
   ·cases h
  exact xR (abM R (jH fw) hc h o ho)
 |apps x y=>
  have fw:rt.isSome:=by
   simp only [bh] at h;split at h
   ·split at h
    ·split at h
     ·simp at h;rw [←h.2.1];rfl
     ·cases h
    ·cases h
   ·cases h
  exact xR (ajQ R (jH fw) hc h o ho)
 |p_ sz gl x y=>
  have h:=adZ h;have hc:cv P κ (.app sz gl x y) op=true:=by cases op<;>first|exact hc|(simp [cv] at hc)
  have fw:rt.isSome:=by
   simp only [bh] at h;split at h
   ·split at h
    ·split at h
     ·simp at h;rw [←h.2.1];rfl
     ·cases h
    ·cases h
   ·cases h
  exact xR (abM R (jH fw) hc h o ho)
 |gn k x=>exact mQ R ho (ajY R hc h)
 |qg x=>exact mQ R ho (ajZ R hc h)
 |CR x=>simp [bh] at h
 |idx x i=>exact mQ R ho (aj5 R hc h)
 |mn x y=>exact mQ R ho (aj_ R hc h)
 |mx x y=>exact mQ R ho (aka R hc h)
 |Gd=>simp [bh] at h
 |vm=>simp [bh] at h
 |lj f i args=>exact ajW R jH mL hc h o ho
 |sV sz z x=>exact xR (ajX R hc h o ho)
end
end
section
def Fr (W:Nat→Prop) (m m' m1 dE:Ms):Prop:=(∀r,W r→dE r=m' r)∧(∀r,¬W r→m' r=m r)∧(∀r,¬W r→dE r=m1 r)
section
variable {m m' m1:Ms}
theorem Fr.none {W:Nat→Prop} (h:∀r,W r→m1 r=m r):Fr W m m m1 m1:=⟨h,fun _ _=>rfl,fun _ _=>rfl⟩
theorem Fr.trans {W W2 W':Nat→Prop} {xv dE abD:Ms} (h:Fr W m m' m1 dE) (h':Fr W' m' xv dE abD) (h1:∀r,W r→W2 r) (h2:∀r,W' r→W2 r)
 (ha:∀r,W2 r→m1 r=m r):Fr W2 m xv m1 abD:=by
 refine ⟨fun r hr=>?_,fun r hr=>?_,fun r hr=>?_⟩
 ·by_cases h3:W' r
  ·exact h'.1 r h3
  ·rw [h'.2.2 r h3,h'.2.1 r h3];by_cases h4:W r
   ·exact h.1 r h4
   ·rw [h.2.2 r h4,h.2.1 r h4];exact ha r hr
 ·rw [h'.2.1 r (fun e=>hr (h2 r e)),h.2.1 r (fun e=>hr (h1 r e))]
 ·rw [h'.2.2 r (fun e=>hr (h2 r e)),h.2.2 r (fun e=>hr (h1 r e))]
theorem Fr.vj {W:Nat→Prop} {dE:Ms} (h:Fr W m m' m1 dE) {r:Nat} (hr:m1 r=m r):dE r=m' r:=by
 by_cases h1:W r
 ·exact h.1 r h1
 ·rw [h.2.2 r h1,h.2.1 r h1,hr]
theorem Fr.wide {W W2:Nat→Prop} {dE:Ms} (h:Fr W m m' m1 dE) (h1:∀r,W r→W2 r) (ha:∀r,W2 r→m1 r=m r):Fr W2 m m' m1 dE:=
 ⟨fun r hr=>h.vj (ha r hr),fun r hr=>h.2.1 r fun e=>hr (h1 r e),fun r hr=>h.2.2 r fun e=>hr (h1 r e)⟩
theorem abu {r j:Nat} {p:bQ} (h:m1 r=m r):m1.eC r j p=m.eC r j p:=by simp only [Ms.eC,h]
theorem aei {r j:Nat} (h:m1 r=m r):m1.cell r j=m.cell r j:=by simp only [Ms.cell,h]
theorem qa {r j:Nat} {p:bQ} (h:m1 r=m r):m1.at r j p=m.at r j p:=by simp only [Ms.at,abu h,aei h]
theorem Fr.bO {r:Nat} {x:Mem}:Fr (·=r) m (OM.bO m r x) m1 (OM.bO m1 r x):=
 ⟨fun k hk=>by simp [OM.bO,hk],fun k hk=>by simp [OM.bO,hk],fun k hk=>by simp [OM.bO,hk]⟩
theorem Iq {r j:Nat} {p:bQ} {x:D} {kl:List (Nat×bQ)} (h:m.putAt r j p x kl=some m') (ha:m1 r=m r):
 ∃dE,m1.putAt r j p x kl=some dE∧Fr (·=r) m m' m1 dE:=by
 simp only [Ms.putAt,ha] at h ⊢;split at h
 ·split at h
  ·simp at h;subst h;exact ⟨_,rfl,.bO⟩
  ·cases h
 ·cases h
theorem ade {r j:Nat} {p:bQ} {d:D} (h:m.take r j p=some (d,m')) (ha:m1 r=m r):
 ∃dE,m1.take r j p=some (d,dE)∧Fr (·=r) m m' m1 dE:=by
 simp only [Ms.take,qa ha] at h ⊢;split at h
 ·split at h
  ·rename_i m2 hp;simp at h;obtain ⟨rfl,rfl⟩:=h;obtain ⟨dE,h1,h2⟩:=Iq hp ha;exact ⟨dE,by simp [h1],h2⟩
  ·cases h
 ·cases h
theorem Fx {a:AV} (ha:∀r∈a.refs,m1 r=m r):m1.jE a=m.jE a:=by
 cases a with
 |v k d=>cases d<;>rfl
 |pl r j p=>simp only [Ms.jE,qa (ha r (by simp [AV.refs]))]
 |rg r j p sz lo hi=>simp only [Ms.jE,qa (ha r (by simp [AV.refs]))]
 |_=>rfl
theorem Br {a:AV} {c:C} (h:iA m a=some (c,m')) (ha:∀r∈a.refs,m1 r=m r):
 ∃dE,iA m1 a=some (c,dE)∧Fr (·∈a.refs) m m' m1 dE:=by
 unfold iA at h;split at h
 ·cases h
 ·rename_i k d hd;simp at h;obtain ⟨rfl,rfl⟩:=h;exact ⟨m1,by cases d<;>first|rfl|exact absurd rfl hd,.none ha⟩
 ·simp at h;obtain ⟨rfl,rfl⟩:=h;exact ⟨m1,rfl,.none ha⟩
 ·rename_i r j p;split at h
  ·rename_i d m2 ht;simp at h;obtain ⟨rfl,rfl⟩:=h;obtain ⟨dE,h1,h2⟩:=ade ht (ha r (by simp [AV.refs]));exact ⟨dE,by simp [iA,h1],h2.wide (fun q hq=>by simp [AV.refs,hq]) ha⟩
  ·cases h
 ·rename_i r j p sz hi;split at h
  ·rename_i es _ m2 yy ht;simp at h;obtain ⟨rfl,rfl⟩:=h;obtain ⟨dE,h1,h2⟩:=ade ht (ha r (by simp [AV.refs]));exact ⟨dE,by simp [iA,h1,qa (ha r (by simp [AV.refs])),yy],h2.wide (fun q hq=>by simp [AV.refs,hq]) ha⟩
  ·cases h
 ·cases h
theorem I9:∀(as:List AV) {cs:List C} {m m' m1:Ms},jC m as=some (cs,m')→(∀r∈AV.ea as,m1 r=m r)→
 ∃dE,jC m1 as=some (cs,dE)∧Fr (·∈AV.ea as) m m' m1 dE:=by
 intro as;induction as with
 |nil=>intro cs m m' m1 h ha;simp [jC] at h;obtain ⟨rfl,rfl⟩:=h;exact ⟨m1,rfl,.none ha⟩
 |cons a as ih=>
  intro cs m m' m1 h ha;simp only [jC] at h;split at h
  ·rename_i c m2 h1;split at h
   ·rename_i Bz m3 h2;simp at h;obtain ⟨rfl,rfl⟩:=h;obtain ⟨q1,e1,f1⟩:=Br h1 (m1:=m1) (fun r hr=>ha r (by simp [AV.ea,hr]));obtain ⟨q2,e2,f2⟩:=ih h2 (m1:=q1) (fun r hr=>f1.vj (ha r (by simp [AV.ea,hr])));exact ⟨q2,by simp [jC,e1,e2],f1.trans f2 (fun r hr=>by simp [AV.ea,hr]) (fun r hr=>by simp [AV.ea,hr]) ha⟩
   ·cases h
  ·cases h
theorem akR {a:AV} (ha:∀r∈a.refs,m1 r=m r):sk m1 a=sk m a:=by
 cases a with
 |v k d=>cases d<;>rfl
 |pl r j p=>cases p with
  |nil=>simp only [sk,ha r (by simp [AV.refs]),abu (ha r (by simp [AV.refs]))]
  |cons=>rfl
 |_=>rfl
theorem ack:∀(as:List AV),(∀r∈AV.ea as,m1 r=m r)→mw m1 as=mw m as:=by
 intro as;induction as with
 |nil=>intro _;rfl
 |cons a as ih=>
  intro ha;simp only [mw,akR (a:=a) fun r hr=>ha r (by simp [AV.ea,hr]),ih fun r hr=>ha r (by simp [AV.ea,hr])]
theorem ajc {n:Nat} {a:AV} (ha:∀r∈a.refs,m1 r=m r):oW m1 n a=oW m n a:=by
 cases a with
 |bx r j=>simp only [oW,ha r (by simp [AV.refs])]
 |ad r j p sz i c=>simp only [oW,qa (ha r (by simp [AV.refs]))]
 |v k d=>cases d<;>rfl
 |_=>rfl
theorem alR {cs:List C} {a:AV} (h:uh m cs a=some m') (ha:∀r∈a.refs,m1 r=m r):
 ∃dE,uh m1 cs a=some dE∧Fr (·∈a.refs) m m' m1 dE:=by
 cases a with
 |bx r j=>
  simp only [uh,ha r (by simp [AV.refs])] at h ⊢;split at h
  ·split at h
   ·rename_i hl;simp at h;subst h;refine ⟨_,by rw [if_pos hl],Fr.bO.wide (fun q hq=>by simp [AV.refs,hq]) ha⟩
   ·cases h
  ·cases h
 |ad r j p sz i c=>
  simp only [uh] at h ⊢;rw [qa (ha r (by simp [AV.refs]))];split at h
  ·split at h
   ·split at h
    ·rename_i ds mJ _ gH es cN e he;split at h
     ·rename_i hl;obtain ⟨dE,h1,h2⟩:=Iq h (ha r (by simp [AV.refs]));refine ⟨dE,?_,h2.wide (fun q hq=>by simp [AV.refs,hq]) ha⟩;simp only [he,if_pos hl,h1]
     ·cases h
    ·cases h
   ·cases h
  ·cases h
 |_=>simp [uh] at h
theorem A' (a:AV):AV.ea a.cells=a.refs:=by
 cases a<;>simp [AV.cells,AV.ea,AV.refs]
theorem ae3 {sz:Nat}:∀(ps:List (Nat×AV)) {l l':List D} {m m' m1:Ms},th m sz l ps=some (l',m')→
 (∀x∈ps,∀r∈x.2.refs,m1 r=m r)→∃dE,th m1 sz l ps=some (l',dE)∧Fr (fun r=>∃x∈ps,r∈x.2.refs) m m' m1 dE:=by
 intro ps;induction ps with
 |nil=>intro l l' m m' m1 h ha;simp [th] at h;obtain ⟨rfl,rfl⟩:=h;exact ⟨m1,rfl,.none fun r hr=>by simp at hr⟩
 |cons x ps ih=>
  intro l l' m m' m1 h ha;obtain ⟨off,a⟩:=x;simp only [th] at h;split at h
  ·rename_i cs m2 h1;split at h
   ·rename_i ds mJ;split at h
    ·rename_i hl;have qU:∀r∈a.refs,m1 r=m r:=fun r hr=>ha (off,a) (by simp) r hr
     obtain ⟨q1,e1,f1⟩:=I9 a.cells h1 (m1:=m1) (fun r hr=>qU r (by rwa [A'] at hr));obtain ⟨q2,e2,f2⟩:=ih h (m1:=q1) (fun x hx r hr=>f1.vj (ha x (by simp [hx]) r hr));refine ⟨q2,by simp only [th,e1,mJ,if_pos hl,e2],f1.trans f2 (fun r hr=>⟨(off,a),by simp,by rwa [A'] at hr⟩) (fun r hr=>?_) (fun r hr=>?_)⟩
     ·obtain ⟨x,hx,hr⟩:=hr;exact ⟨x,by simp [hx],hr⟩
     ·obtain ⟨x,hx,hr⟩:=hr;exact ha x hx r hr
    ·cases h
   ·cases h
  ·cases h
theorem abQ {a:AV} {x:V} (h:ml m a=some (x,m')) (ha:∀r∈a.refs,m1 r=m r):∃dE,ml m1 a=some (x,dE)∧Fr (·∈a.refs) m m' m1 dE:=by
 have one:(∀cs,a≠.agg cs)→∃dE,ml m1 a=some (x,dE)∧Fr (·∈a.refs) m m' m1 dE:=by
  intro hn
  have e1:∀q:Ms,ml q a=match iA q a with
   |some (c,q')=>some (.one c,q')
   |none=>none:=by
   intro q;cases a with
   |agg cs=>exact absurd rfl (hn cs)
   |_=>rfl
  rw [e1] at h;split at h
  ·rename_i c m2 h1;simp at h;obtain ⟨rfl,rfl⟩:=h;obtain ⟨q1,e2,f1⟩:=Br h1 ha;exact ⟨q1,by rw [e1,e2],f1⟩
  ·cases h
 cases a with
 |agg cs=>
  simp only [ml] at h;split at h
  ·rename_i l m2 h1;simp at h;obtain ⟨rfl,rfl⟩:=h;obtain ⟨q1,e1,f1⟩:=I9 cs h1 (m1:=m1) (fun r hr=>ha r (by simpa [AV.refs] using hr));exact ⟨q1,by simp only [ml,e1],f1.wide (fun r hr=>by simpa [AV.refs] using hr) ha⟩
  ·cases h
 |_=>exact one (fun cs e=>by cases e)
theorem amV {a:AV} {c:C} (h:uk m c a=some m') (ha:∀r∈a.refs,m1 r=m r):∃dE,uk m1 c a=some dE∧Fr (·∈a.refs) m m' m1 dE:=by
 cases a with
 |pl r j p=>
  have hr:m1 r=m r:=ha r (by simp [AV.refs]);simp only [uk,qa hr] at h ⊢;split at h
  ·split at h
   ·obtain ⟨q,e,f⟩:=Iq h hr;exact ⟨q,e,f.wide (fun k hk=>by subst hk;simp [AV.refs]) (fun k hk=>by simp [AV.refs] at hk;subst hk;exact hr)⟩
   ·cases h
  ·cases h
 |nl sz=>
  simp only [uk] at h ⊢;split at h
  ·simp at h;subst h;exact ⟨m1,rfl,.none fun r hr=>by simp [AV.refs] at hr⟩
  ·cases h
 |_=>simp [uk] at h
theorem am1 {cs:List AV}:∀(us:List (Nat×Nat×C)) {lo:Nat} {m m' m1:Ms},pd cs lo m us=some m'→(∀r∈AV.ea cs,m1 r=m r)→∃dE,pd cs lo m1 us=some dE∧Fr (·∈AV.ea cs) m m' m1 dE:=by
 intro us;induction us with
 |nil=>intro lo m m' m1 h ha;simp [pd] at h;subst h;exact ⟨m1,rfl,.none ha⟩
 |cons u us ih=>
  intro lo m m' m1 h ha;obtain ⟨i,j,c⟩:=u;simp only [pd] at h;split at h
  ·rename_i hi;split at h
   ·rename_i a hj;split at h
    ·rename_i m2 h1
     have abc:∀r∈a.refs,r∈AV.ea cs:=fun r hr=>by
      clear ih h h1 ha hi;induction cs generalizing j with
      |nil=>simp at hj
      |cons b cs ih2=>
       simp only [AV.ea,zi];cases j with
       |zero=>simp at hj;subst hj;exact .inl hr
       |succ j=>exact .inr (ih2 j (by simpa using hj))
     obtain ⟨q1,e1,f1⟩:=amV h1 (m1:=m1) (fun r hr=>ha r (abc r hr));obtain ⟨q2,e2,f2⟩:=ih h (m1:=q1) (fun r hr=>f1.vj (ha r hr));exact ⟨q2,by simp only [pd,if_pos hi,hj,e1,e2],f1.trans f2 abc (fun r hr=>hr) ha⟩
    ·cases h
   ·cases h
  ·cases h
theorem VV {a:AV} (ha:∀r∈a.refs,m1 r=m r):qb m1 a=qb m a:=by
 cases a with
 |v k d=>cases d<;>rfl
 |pl r j p=>simp only [qb,qa (ha r (by simp [AV.refs]))]
 |rg r j p sz lo hi=>simp only [qb,qa (ha r (by simp [AV.refs]))]
 |fv f r=>simp only [qb,ha r (by simp [AV.refs])]
 |bx r j=>cases j<;>simp only [qb,ha r (by simp [AV.refs])]
 |_=>rfl
theorem abq {a:AV} (ha:∀r∈a.refs,m1 r=m r):DI m1 a=DI m a:=by
 cases a with
 |v k d=>cases d<;>rfl
 |pl r j p=>simp only [DI,qa (ha r (by simp [AV.refs]))]
 |_=>rfl
theorem ad8:∀(as:List AV),(∀r∈AV.ea as,m1 r=m r)→qc m1 as=qc m as:=by
 intro as;induction as with
 |nil=>intro _;rfl
 |cons a as ih=>
  intro ha;simp only [qc,VV (a:=a) fun r hr=>ha r (by simp [AV.ea,hr]),ih fun r hr=>ha r (by simp [AV.ea,hr])]
theorem aiy:∀(as:List AV),(∀r∈AV.ea as,m1 r=m r)→DJ m1 as=DJ m as:=by
 intro as;induction as with
 |nil=>intro _;rfl
 |cons a as ih=>
  intro ha;simp only [DJ,abq (a:=a) fun r hr=>ha r (by simp [AV.ea,hr]),ih fun r hr=>ha r (by simp [AV.ea,hr])]
theorem ad0 {a:AV} (io:Bool) (ha:∀r∈a.refs,m1 r=m r):oG m1 io a=oG m io a:=by
 cases a with
 |agg cs=>simp only [oG,ad8 cs ha,aiy cs ha]
 |_=>simp only [oG,VV ha,abq ha]
theorem Jd (io:List Nat):∀(as:List AV) (i:Nat),(∀a∈as,∀r∈a.refs,m1 r=m r)→jU m1 io i as=jU m io i as:=by
 intro as;induction as with
 |nil=>intro _ _;rfl
 |cons a as ih=>
  intro i ha;simp only [jU,ad0 (io.contains i) (ha a (by simp)),ih (i+1) fun b hb=>ha b (by simp [hb])]
theorem ajb {len:Nat} {ev ev':PX→AV} {lo hi:Option PX} (h1:∀x∈lo.toList,ev' x=ev x) (h2:∀x∈hi.toList,ev' x=ev x):tO len ev' lo hi=tO len ev lo hi:=by
 cases lo<;>cases hi<;>simp_all [tO]
end
end
section
def opR (ev:PX→AV) (op:bP) (r:Nat):Prop:=∃x∈op.reads,r∈(ev x).refs
def tS (ev:PX→AV) (op:bP) (r:Nat):Prop:=∃x∈op.lM,r∈(ev x).refs
theorem U0 {op:bP} {x:PX} (h:x∈op.lM):x∈op.reads:=by
 cases op with
 |call f io args=>
  simp only [bP.lM] at h;split at h
  ·simp at h
  ·exact h
 |p_ sz gl a b=>simp [bP.lM] at h;subst h;simp [bP.reads]
 |apps a b=>simp [bP.lM] at h;subst h;simp [bP.reads]
 |sV s z a=>simp [bP.lM] at h;subst h;simp [bP.reads]
 |lj f i as=>exact h
 |_=>first|exact h|(simp [bP.lM] at h)
theorem acj {op:bP} {x:PX} (h:x∈op.reads):x∈op.eE:=by
 cases op<;>first|exact h|exact zC _ h|(simp [bP.reads] at h;done)|(simp [bP.reads] at h;subst h;simp [bP.eE])
section
variable {Γ:Env} {ev ev':PX→AV} {d:Nat} {m m' m1:Ms} {av:AV} {rt:Option Rt}
theorem akC {a:AV} (h:∀r∈a.refs,m1 r=m r):a.AZ m1=a.AZ m:=by
 cases a with
 |bx r j=>
  cases j with
  |zero=>simp only [AV.AZ,h r (by simp [AV.refs])]
  |succ j=>rfl
 |_=>rfl
theorem aki {op:bP} (agj:∀a,ev (.c a)=a) (dX:∀x∈op.eE,ev' x=ev x) (hm:∀r,opR ev op r→m1 r=m r) (h:bh Γ ev d m op=some (av,rt,m')):
 ∃dE,bh Γ ev' d m1 op=some (av,rt,dE)∧Fr (tS ev op) m m' m1 dE:=by
 have hW:∀r,tS ev op r→m1 r=m r:=fun r ⟨x,hx,hr⟩=>hm r ⟨x,U0 hx,hr⟩
 have arh:bh Γ ev' d m1 op=(match bh Γ ev d m op with|some (a,b,_)=>some (a,b,m1)|none=>none)→m'=m→
  ∃dE,bh Γ ev' d m1 op=some (av,rt,dE)∧Fr (tS ev op) m m' m1 dE:=by
  intro h1 h2;subst h2;exact ⟨m1,by rw [h1,h],.none hW⟩
 cases op with
 |mv x=>
  simp only [bh,dX x (by simp [bP.eE])] at h ⊢;simp at h;obtain ⟨rfl,rfl,rfl⟩:=h;exact ⟨m1,rfl,.none hW⟩
 |pick c x y=>
  simp only [bh,dX x (by simp [bP.eE]),dX y (by simp [bP.eE]),dX c (by simp [bP.eE])] at h ⊢;split at h
  ·simp at h;obtain ⟨rfl,rfl,rfl⟩:=h;exact ⟨m1,rfl,.none hW⟩
  ·cases h
 |bin b x y=>
  simp only [bh,dX x (by simp [bP.eE]),dX y (by simp [bP.eE])] at h ⊢;split at h
  ·split at h
   ·rename_i hx hy _ _ hb;simp at h;obtain ⟨rfl,rfl,rfl⟩:=h;exact ⟨m1,by simp only [hx,hy,hb],.none hW⟩
   ·cases h
  ·cases h
 |eqs n ks x y=>
  simp only [bh,dX x (by simp [bP.eE]),dX y (by simp [bP.eE])] at h ⊢;split at h
  ·split at h
   ·rename_i hx hy _ _ hb;simp at h;obtain ⟨rfl,rfl,rfl⟩:=h;exact ⟨m1,by simp only [hx,hy,hb],.none hW⟩
   ·cases h
  ·cases h
 |rP n x y=>
  simp only [bh,dX x (by simp [bP.eE]),dX y (by simp [bP.eE])] at h ⊢;split at h
  ·rename_i _ _ hx hy;simp at h;obtain ⟨rfl,rfl,rfl⟩:=h;exact ⟨m1,by simp only [hx,hy],.none hW⟩
  ·cases h
 |un u x=>
  simp only [bh,dX x (by simp [bP.eE])] at h ⊢;split at h
  ·split at h
   ·rename_i hx _ _ hb;simp at h;obtain ⟨rfl,rfl,rfl⟩:=h;exact ⟨m1,by simp only [hx,hb],.none hW⟩
   ·cases h
  ·cases h
 |len x=>
  have e1:m1.jE (ev x)=m.jE (ev x):=Fx fun r hr=>hm r ⟨x,by simp [bP.reads],hr⟩
  simp only [bh,dX x (by simp [bP.eE]),e1] at h ⊢;split at h
  ·rename_i _ _ hx;simp at h;obtain ⟨rfl,rfl,rfl⟩:=h;exact ⟨m1,by simp only [hx],.none hW⟩
  ·cases h
 |lens x=>
  simp only [bh,dX x (by simp [bP.eE])] at h ⊢;split at h
  ·rename_i _ _ hx;simp at h;obtain ⟨rfl,rfl,rfl⟩:=h;exact ⟨m1,by simp only [hx],.none hW⟩
  ·cases h
 |box n x=>
  have e1:mw m1 (ev x).cells=mw m (ev x).cells:=ack _ fun r hr=>hm r ⟨x,by simp [bP.reads],by rwa [A'] at hr⟩
  simp only [bh,dX x (by simp [bP.eE]),e1] at h ⊢;split at h
  ·split at h
   ·rename_i _ hx hl;simp at h;obtain ⟨rfl,rfl,rfl⟩:=h;exact ⟨m1,by simp only [hx,if_pos hl],.none hW⟩
   ·cases h
  ·cases h
 |alloc zs=>
  have e1:mw m1 zs=mw m zs:=ack _ fun r hr=>by
   have yG:∀(l:List AV),r∈AV.ea l→∃a∈l,r∈a.refs:=by
    intro l;induction l with
    |nil=>intro h;simp [AV.ea] at h
    |cons b l ih=>
     intro h;simp only [AV.ea,zi] at h;rcases h with h|h
     ·exact ⟨b,by simp,h⟩
     ·obtain ⟨a,h1,h2⟩:=ih h;exact ⟨a,by simp [h1],h2⟩
   obtain ⟨a,h1,h2⟩:=yG zs hr;exact hm r ⟨.c a,by simp [bP.reads,h1],by rwa [agj]⟩
  simp only [bh,e1] at h ⊢;split at h
  ·rename_i _ hx;simp at h;obtain ⟨rfl,rfl,rfl⟩:=h;exact ⟨m1,by simp only [hx],.none hW⟩
  ·cases h
 |build z ps=>
  have e1:(ps.map fun x=>(x.1,x.2.1,ev' x.2.2))=ps.map fun x=>(x.1,x.2.1,ev x.2.2):=
   zy fun x hx=>by rw [dX x.2.2 (by simp only [bP.eE,zh];exact ⟨x,hx,rfl⟩)]
  simp only [bh,e1] at h ⊢;split at h
  ·rename_i _ hx;simp at h;obtain ⟨rfl,rfl,rfl⟩:=h;exact ⟨m1,by simp only [hx],.none hW⟩
  ·cases h
 |bZ sz z n ps=>
  have e1:(ps.map fun x=>(x.1,ev' x.2))=ps.map fun x=>(x.1,ev x.2):=
   zy fun x hx=>by rw [dX x.2 (by simp only [bP.eE,zh];exact ⟨x,hx,rfl⟩)]
  simp only [bh,e1] at h ⊢;split at h
  ·rename_i l m2 hx;simp at h;obtain ⟨rfl,rfl,rfl⟩:=h
   obtain ⟨q,h1,h2⟩:=ae3 _ hx (m1:=m1) (fun x hx r hr=>by
    simp only [zh] at hx;obtain ⟨y,hy,rfl⟩:=hx
    exact hm r ⟨y.2,by simp only [bP.reads,zh];exact ⟨y,hy,rfl⟩,hr⟩)
   refine ⟨q,by simp only [h1],h2.wide (fun r hr=>?_) hW⟩;obtain ⟨x,hx,hr⟩:=hr;simp only [zh] at hx;obtain ⟨y,hy,rfl⟩:=hx;exact ⟨y.2,by simp only [bP.lM,zh];exact ⟨y,hy,rfl⟩,hr⟩
  ·cases h
 |lH sz gl z x=>
  simp only [bh,dX x (by simp [bP.eE])] at h ⊢;split at h
  ·split at h
   ·rename_i _ hx hl;simp at h;obtain ⟨rfl,rfl,rfl⟩:=h;exact ⟨m1,by simp only [hx,if_pos hl],.none hW⟩
   ·cases h
  ·cases h
 |ld ag n x=>
  have e1:oW m1 n (ev x)=oW m n (ev x):=ajc fun r hr=>hm r ⟨x,by simp [bP.reads],hr⟩
  simp only [bh,dX x (by simp [bP.eE]),e1] at h ⊢;split at h
  ·rename_i l hx;split at h
   ·rename_i pC;simp at h;obtain ⟨rfl,rfl,rfl⟩:=h;exact ⟨m1,by simp only [hx,if_pos pC],.none hW⟩
   ·rename_i pC;split at h
    ·simp at h;obtain ⟨rfl,rfl,rfl⟩:=h;exact ⟨m1,by simp only [hx,if_neg pC],.none hW⟩
    ·cases h
  ·cases h
 |st n x y=>
  simp only [bh,dX x (by simp [bP.eE]),dX y (by simp [bP.eE])] at h ⊢;split at h
  ·rename_i cs m2 h1;split at h
   ·rename_i hl;split at h
    ·rename_i m3 h2;simp at h;obtain ⟨rfl,rfl,rfl⟩:=h;obtain ⟨q1,e1,f1⟩:=I9 _ h1 (m1:=m1) (fun r hr=>hm r ⟨y,by simp [bP.reads],by rwa [A'] at hr⟩);obtain ⟨q2,e2,f2⟩:=alR h2 (m1:=q1) (fun r hr=>f1.vj (hm r ⟨x,by simp [bP.reads],hr⟩));refine ⟨q2,by simp only [e1,if_pos hl,e2],f1.trans f2 (fun r hr=>⟨y,by simp [bP.lM],by rwa [A'] at hr⟩) (fun r hr=>⟨x,by simp [bP.lM],hr⟩) hW⟩
    ·cases h
   ·cases h
  ·cases h
 |Cw=>simp [bh] at h
 |FB=>simp [bh] at h
 |DQ=>simp [bh] at h
 |ah x off=>
  simp only [bh,dX x (by simp [bP.eE])] at h ⊢;split at h
  ·rename_i _ _ hx;simp at h;obtain ⟨rfl,rfl,rfl⟩:=h;exact ⟨m1,by simp only [hx],.none hW⟩
  ·rename_i hx;simp at h;obtain ⟨rfl,rfl,rfl⟩:=h;exact ⟨m1,by simp only [hx],.none hW⟩
  ·rename_i hx;simp at h;obtain ⟨rfl,rfl,rfl⟩:=h;exact ⟨m1,by simp only [hx],.none hW⟩
  ·cases h
 |cK sz x i=>
  simp only [bh,dX x (by simp [bP.eE]),dX i (by simp [bP.eE])] at h ⊢;split at h
  ·rename_i n hn;split at h
   ·rename_i hx;split at h
    ·rename_i hl;simp at h;obtain ⟨rfl,rfl,rfl⟩:=h;exact ⟨m1,by simp only [hx,if_pos hl],.none hW⟩
    ·cases h
   ·rename_i r j p hx;have e1:m1.at r j p=m.at r j p:=qa (hm r ⟨x,by simp [bP.reads],by simp [hx,AV.refs]⟩);split at h
    ·rename_i cN;split at h
     ·rename_i hl;simp at h;obtain ⟨rfl,rfl,rfl⟩:=h;exact ⟨m1,by simp only [hx,e1,cN,if_pos hl],.none hW⟩
     ·cases h
    ·cases h
   ·rename_i r j p gH lo hi hx;have e1:m1.at r j p=m.at r j p:=qa (hm r ⟨x,by simp [bP.reads],by simp [hx,AV.refs]⟩);split at h
    ·rename_i cN;split at h
     ·rename_i hl;simp at h;obtain ⟨rfl,rfl,rfl⟩:=h;exact ⟨m1,by simp only [hx,e1,cN,if_pos hl],.none hW⟩
     ·cases h
    ·cases h
   ·cases h
  ·cases h
 |iI sz x lo hi=>
  have e0:∀n,tO n ev' lo hi=tO n ev lo hi:=fun n=>ajb (fun y hy=>dX y (by simp only [bP.eE];simp only [zr,zi];exact .inr (.inl hy)))
   (fun y hy=>dX y (by simp only [bP.eE];simp only [zr,zi];exact .inr (.inr hy)))
  simp only [bh,dX x (by simp [bP.eE]),e0] at h ⊢;split at h
  ·rename_i hx;split at h
   ·rename_i tA;split at h
    ·rename_i hl;simp at h;obtain ⟨rfl,rfl,rfl⟩:=h;exact ⟨m1,by simp only [hx,tA,if_pos hl],.none hW⟩
    ·cases h
   ·cases h
  ·rename_i hx;split at h
   ·rename_i tA;simp at h;obtain ⟨rfl,rfl,rfl⟩:=h;exact ⟨m1,by simp only [hx,tA],.none hW⟩
   ·cases h
  ·rename_i r j p hx;have e1:m1.at r j p=m.at r j p:=qa (hm r ⟨x,by simp [bP.reads],by simp [hx,AV.refs]⟩);split at h
   ·rename_i cN;split at h
    ·rename_i tA;split at h
     ·rename_i hl;simp at h;obtain ⟨rfl,rfl,rfl⟩:=h;exact ⟨m1,by simp only [hx,e1,cN,tA,if_pos hl],.none hW⟩
     ·cases h
    ·cases h
   ·cases h
  ·cases h
 |Iz=>simp [bh] at h
 |ext x k=>
  simp only [bh,dX x (by simp [bP.eE])] at h ⊢;split at h
  ·split at h
   ·rename_i hx _ _ hk;simp at h;obtain ⟨rfl,rfl,rfl⟩:=h;exact ⟨m1,by simp only [hx,hk],.none hW⟩
   ·cases h
  ·cases h
 |call f io args=>
  have e0:args.map ev'=args.map ev:=zy fun x hx=>dX x hx
  cases io with
  |nil=>
   have e1:jU m1 [] 0 (args.map ev)=jU m [] 0 (args.map ev):=Jd [] _ _ fun a ha r hr=>by
    simp only [zh] at ha;obtain ⟨x,hx,rfl⟩:=ha;exact hm r ⟨x,hx,hr⟩
   simp only [bh,e0,e1] at h ⊢;split at h
   ·rename_i xs h1;split at h
    ·rename_i r us h2;split at h
     ·rename_i h3;split at h
      ·simp at h;obtain ⟨rfl,rfl,rfl⟩:=h;exact ⟨m1,by simp only [h1,h2,if_pos h3],.none hW⟩
      ·cases h
     ·cases h
    ·cases h
   ·cases h
  |cons i0 io=>
   have nT:∀a∈args.map ev,∀r∈a.refs,m1 r=m r:=fun a ha r hr=>by
    simp only [zh] at ha;obtain ⟨x,hx,rfl⟩:=ha;exact hm r ⟨x,hx,hr⟩
   have BB:∀a∈args.map ev,∀r∈a.refs,tS ev (.call f (i0::io) args) r:=fun a ha r hr=>by
    simp only [zh] at ha;obtain ⟨x,hx,rfl⟩:=ha;exact ⟨x,by simp [bP.lM,hx],hr⟩
   simp only [bh,e0] at h ⊢;generalize args.map ev=as at h nT BB ⊢;cases as with
   |nil=>simp at h
   |cons a0 rest=>
    simp only at h ⊢;rw [akC (nT a0 (by simp))];split at h
    ·cases h
    split at h
    ·rename_i x0 m2 h1;obtain ⟨q1,e1,f1⟩:=abQ h1 (m1:=m1) (nT a0 (by simp));have e2:jU q1 [] 1 rest=jU m2 [] 1 rest:=Jd [] _ _ fun a ha r hr=>f1.vj (nT a (by simp [ha]) r hr)
     split at h
     ·rename_i xs h2
      ·split at h
       ·rename_i r us h4;split at h
        ·rename_i h5;split at h
         ·rename_i m3 h6;simp at h;obtain ⟨rfl,rfl,rfl⟩:=h;obtain ⟨q2,e3,f2⟩:=am1 us h6 (m1:=q1) (fun r hr=>f1.vj (nT a0 (by simp) r (by rwa [A'] at hr)));exact ⟨q2,by simp only [e1,e2,h2,h4,if_pos h5,e3],f1.trans f2 (fun r hr=>BB a0 (by simp) r hr) (fun r hr=>BB a0 (by simp) r (by rwa [A'] at hr)) hW⟩
         ·cases h
        ·cases h
       ·cases h
     ·cases h
    ·cases h
 |app sz gl x y=>
  have e1:m1.jE (ev y)=m.jE (ev y):=Fx fun r hr=>hm r ⟨y,by simp [bP.reads],hr⟩
  simp only [bh,dX x (by simp [bP.eE]),dX y (by simp [bP.eE]),e1] at h ⊢;split at h
  ·rename_i s1 ys m2 h1;split at h
   ·rename_i s2 es m3 h2;split at h
    ·rename_i hl;simp at h;obtain ⟨rfl,rfl,rfl⟩:=h
     have fin:∀q1,Fr (tS ev (.app sz gl x y)) m m2 m1 q1→∃q2,iA q1 (ev x)=some (.own (.sl s2 es),q2)∧Fr (tS ev (.app sz gl x y)) m m3 m1 q2:=by
      intro q1 f1;obtain ⟨q2,e2,f2⟩:=Br h2 (m1:=q1) (fun r hr=>f1.vj (hm r ⟨x,by simp [bP.reads],hr⟩));exact ⟨q2,e2,f1.trans f2 (fun r hr=>hr) (fun r hr=>⟨x,by simp [bP.lM],hr⟩) hW⟩
     split at h1
     ·rename_i s ys0 he;split at h1
      ·rename_i hf;simp at h1;obtain ⟨rfl,rfl,rfl⟩:=h1;obtain ⟨q2,e2,f2⟩:=fin m1 (.none hW);exact ⟨q2,by simp only [he,if_pos hf,e2,if_pos hl],f2⟩
      ·rename_i hf;split at h1
       ·rename_i s3 ys3 m4 ha;split at h1
        ·rename_i pH;simp at h1;obtain ⟨rfl,rfl,rfl⟩:=h1;obtain ⟨q,e3,f3⟩:=Br ha (m1:=m1) (fun r hr=>hm r ⟨y,by simp [bP.reads],hr⟩);obtain ⟨q2,e2,f2⟩:=fin q (f3.wide (fun r hr=>⟨y,by simp [bP.lM],hr⟩) hW);exact ⟨q2,by simp only [he,if_neg hf,e3,if_pos pH,e2,if_pos hl],f2⟩
        ·cases h1
       ·cases h1
     ·cases h1
    ·cases h
   ·cases h
  ·cases h
 |apps x y=>
  simp only [bh,dX x (by simp [bP.eE]),dX y (by simp [bP.eE])] at h ⊢;split at h
  ·rename_i hy;split at h
   ·rename_i es m2 h2;split at h
    ·rename_i hl;simp at h;obtain ⟨rfl,rfl,rfl⟩:=h;obtain ⟨q2,e2,f2⟩:=Br h2 (m1:=m1) (fun r hr=>hm r ⟨x,by simp [bP.reads],hr⟩);exact ⟨q2,by simp only [hy,e2,if_pos hl],f2.wide (fun r hr=>⟨x,by simp [bP.lM],hr⟩) hW⟩
    ·cases h
   ·cases h
  ·cases h
 |p_ sz gl x y=>
  have e1:m1.jE (ev y)=m.jE (ev y):=Fx fun r hr=>hm r ⟨y,by simp [bP.reads],hr⟩
  simp only [bh,dX x (by simp [bP.eE]),dX y (by simp [bP.eE]),e1] at h ⊢;split at h
  ·rename_i s1 ys h1;split at h
   ·rename_i hf;split at h
    ·rename_i s2 es m3 h2;split at h
     ·rename_i hl;simp at h;obtain ⟨rfl,rfl,rfl⟩:=h;obtain ⟨q2,e2,f2⟩:=Br h2 (m1:=m1) (fun r hr=>hm r ⟨x,by simp [bP.reads],hr⟩);exact ⟨q2,by simp only [h1,if_pos hf,e2,if_pos hl],f2.wide (fun r hr=>⟨x,by simp [bP.lM],hr⟩) hW⟩
     ·cases h
    ·cases h
   ·cases h
  ·cases h
 |gn k x=>
  simp only [bh,dX x (by simp [bP.eE])] at h ⊢;split at h
  ·rename_i hx;simp at h;obtain ⟨rfl,rfl,rfl⟩:=h;exact ⟨m1,by simp only [hx],.none hW⟩
  ·cases h
 |qg x=>
  have e1:m1.jE (ev x)=m.jE (ev x):=Fx fun r hr=>hm r ⟨x,by simp [bP.reads],hr⟩
  simp only [bh,dX x (by simp [bP.eE]),e1] at h ⊢;split at h
  ·rename_i hx;split at h
   ·rename_i hb;simp at h;obtain ⟨rfl,rfl,rfl⟩:=h;exact ⟨m1,by simp only [hx,hb],.none hW⟩
   ·cases h
  ·cases h
 |CR x=>simp [bh] at h
 |idx x i=>
  simp only [bh,dX x (by simp [bP.eE]),dX i (by simp [bP.eE])] at h ⊢;split at h
  ·rename_i hx hi;split at h
   ·rename_i hl;split at h
    ·rename_i hb;simp at h;obtain ⟨rfl,rfl,rfl⟩:=h;exact ⟨m1,by simp only [hx,hi,if_pos hl,hb],.none hW⟩
    ·cases h
   ·cases h
  ·cases h
 |mn x y=>
  simp only [bh,dX x (by simp [bP.eE]),dX y (by simp [bP.eE])] at h ⊢;split at h
  ·rename_i hx hy;simp at h;obtain ⟨rfl,rfl,rfl⟩:=h;exact ⟨m1,by simp only [hx,hy],.none hW⟩
  ·cases h
 |mx x y=>
  simp only [bh,dX x (by simp [bP.eE]),dX y (by simp [bP.eE])] at h ⊢;split at h
  ·rename_i hx hy;simp at h;obtain ⟨rfl,rfl,rfl⟩:=h;exact ⟨m1,by simp only [hx,hy],.none hW⟩
  ·cases h
 |Gd=>simp [bh] at h
 |lj f i args=>
  have e0:args.map ev'=args.map ev:=zy fun x hx=>dX x hx
  have nT:∀a∈args.map ev,∀r∈a.refs,m1 r=m r:=fun a ha r hr=>by
   simp only [zh] at ha;obtain ⟨x,hx,rfl⟩:=ha;exact hm r ⟨x,hx,hr⟩
  have BB:∀a∈args.map ev,∀r∈a.refs,tS ev (.lj f i args) r:=fun a ha r hr=>by
   simp only [zh] at ha;obtain ⟨x,hx,rfl⟩:=ha;exact ⟨x,by simp [bP.lM,hx],hr⟩
  simp only [bh,e0] at h ⊢;generalize args.map ev=as at h nT BB ⊢;split at h
  ·rename_i a0 qU;have ha:=zd qU;split at h
   ·rename_i x0 m2 h1;obtain ⟨q1,e1,f1⟩:=abQ h1 (m1:=m1) (nT a0 ha)
    have e2:jU q1 [] 0 (as.set i (.v false (.bool true)))=jU m2 [] 0 (as.set i (.v false (.bool true))):=Jd [] _ _ fun a ha r hr=>f1.vj (by
     rcases List.mem_or_eq_of_mem_set ha with ha|rfl
     ·exact nT a ha r hr
     ·simp [AV.refs] at hr)
    split at h
    ·rename_i xs h2;split at h
     ·rename_i r us h4;split at h
      ·rename_i h5;simp at h;obtain ⟨rfl,rfl,rfl⟩:=h;exact ⟨q1,by simp only [qU,e1,e2,h2,h4,if_pos h5],f1.wide (fun r hr=>BB a0 ha r hr) hW⟩
      ·cases h
     ·cases h
    ·cases h
   ·cases h
  ·cases h
 |sV sz z x=>
  simp only [bh,dX x (by simp [bP.eE])] at h ⊢;split at h
  ·rename_i r j p u_ lo hi hx;have rW:m1 r=m r:=hm r ⟨x,by simp [bP.reads],by simp [hx,AV.refs]⟩;split at h
   ·rename_i EM es cN;split at h
    ·rename_i jb;split at h
     ·rename_i m2 kv;simp at h;obtain ⟨rfl,rfl,rfl⟩:=h;obtain ⟨q,e1,f1⟩:=Iq kv rW;exact ⟨q,by simp only [hx,qa rW,cN,if_pos jb,e1],f1.wide (fun r1 lB=>by subst lB;exact ⟨x,by simp [bP.lM],by simp [hx,AV.refs]⟩) hW⟩
     ·cases h
    ·cases h
   ·cases h
  ·cases h
 |vm=>simp [bh] at h
end
end
section
def PX.slot:PX→List Nat
 |.t n=>[n]
 |.c _=>[]
def PO.looks (o:PO):List Nat:=o.op.eE.flatMap PX.slot++(match o.g with|some (t,_)=>[t]|none=>[])
def kY (S:St) (dst:Option Nat) (a:AV):Nat→AV:=match dst with
 |some d=>bO S.av d a
 |none=>S.av
section
variable {Γ:Env}
theorem ads {S:St} {g:Option (Nat×Bool)} {b:Bool} (h:gd S g=some b):wanted S g=b:=by
 cases g with
 |none=>simp [gd] at h;subst h;rfl
 |some x=>
  obtain ⟨t,want⟩:=x;simp only [gd] at h;simp only [wanted];split at h
  ·rename_i hb;simp at h;subst h;simp [hb]
  ·rename_i hb;simp at h;subst h;simp [hb]
  ·cases h
theorem akh {ev:PX→AV} {d:Nat} {m m':Ms} {op:bP} {a:AV} {r:Rt} (h:bh Γ ev d m op=some (a,some r,m')):op.CQ=true:=by
 cases op with
 |box=>rfl
 |alloc=>rfl
 |bZ=>rfl
 |lH=>rfl
 |call=>rfl
 |lj=>rfl
 |vm=>rfl
 |app=>rfl
 |p_=>rfl
 |apps=>rfl
 |CR=>simp [bh] at h
 |_=>
  exfalso;simp only [bh] at h
  repeat' split at h
  all_goals first|(cases h;done)|(simp at h;done)
theorem acP {o:PO} {S S':St} (h:gz Γ o S=some S'):
 (gd S o.g=some false∧S'=⟨kY S o.dst (.cf []),S.ms⟩)∨
 (gd S o.g=some true∧∃av rt m',bh Γ S.ev (o.dst.getD 0) S.ms o.op=some (av,rt,m')∧
  ((rt=none∧S'=⟨kY S o.dst av,m'⟩)∨∃d r,rt=some r∧o.dst=some d∧(m' d).1=none∧S'=⟨kY S o.dst av,bO m' d (some r,[])⟩)):=by
 unfold gz at h;split at h
 ·rename_i h1;refine .inr ⟨h1,?_⟩;split at h
  ·rename_i d hd;split at h
   ·rename_i a m' ho;simp at h;subst h;exact ⟨a,none,m',by simpa [hd] using ho,.inl ⟨rfl,by simp [kY,hd]⟩⟩
   ·rename_i a r m' ho;split at h
    ·rename_i hm;simp at h;subst h;exact ⟨a,some r,m',by simpa [hd] using ho,.inr ⟨d,r,rfl,hd,by rw [hm],by simp [kY,hd]⟩⟩
    ·cases h
   ·cases h
  ·rename_i hd;split at h
   ·rename_i a m' ho;simp at h;subst h;exact ⟨a,none,m',by simpa [hd] using ho,.inl ⟨rfl,by simp [kY,hd]⟩⟩
   ·cases h
 ·rename_i h1;refine .inl ⟨h1,?_⟩;split at h
  ·rename_i d hd;simp at h;subst h;simp [kY,hd]
  ·rename_i hd;simp at h;subst h;simp [kY,hd]
 ·cases h
theorem alL {o:PO} {S:St} (h:gd S o.g=some false):gz Γ o S=some ⟨kY S o.dst (.cf []),S.ms⟩:=by
 unfold gz;cases hd:o.dst<;>simp [h,kY]
theorem acT {o:PO} {S:St} (h:gd S o.g=some true) {av:AV} {rt:Option Rt} {m':Ms} (ho:bh Γ S.ev (o.dst.getD 0) S.ms o.op=some (av,rt,m')):
 (rt=none→gz Γ o S=some ⟨kY S o.dst av,m'⟩)∧
 (∀d r,rt=some r→o.dst=some d→(m' d).1=none→gz Γ o S=some ⟨kY S o.dst av,bO m' d (some r,[])⟩):=by
 refine ⟨fun e=>?_,fun d r e hd hm=>?_⟩
 ·subst e;unfold gz;cases hd:o.dst with
  |none=>rw [hd] at ho;simp only [Option.getD_none] at ho;simp [h,kY,ho]
  |some d=>rw [hd] at ho;simp only [zS] at ho;simp [h,kY,ho]
 ·subst e;unfold gz;rw [hd] at ho ⊢;simp only [zS] at ho;have:m' d=(none,(m' d).2):=by rw [←hm]
  simp only [h,ho,kY];rw [this]
theorem ae' {S S':St} {g:Option (Nat×Bool)} (h:∀t w,g=some (t,w)→S'.av t=S.av t):gd S' g=gd S g:=by
 cases g with
 |none=>rfl
 |some x=>obtain ⟨t,w⟩:=x;simp only [gd,h t w rfl]
theorem ank {S S':St} {g:Option (Nat×Bool)} (h:∀t w,g=some (t,w)→S'.av t=S.av t):wanted S' g=wanted S g:=by
 cases g with
 |none=>rfl
 |some x=>obtain ⟨t,w⟩:=x;simp only [wanted,h t w rfl]
theorem JO {S S':St} {o:PO} (h:∀n∈o.looks,S'.av n=S.av n) {x:PX} (hx:x∈o.op.eE):S'.ev x=S.ev x:=by
 cases x with
 |c a=>rfl
 |t n=>exact h n (List.mem_append_left _ (zu.2 ⟨_,hx,by simp [PX.slot]⟩))
theorem amJ {op:bP} {x:PX} (h:x∈op.lM):x∈op.eE:=acj (U0 h)
theorem WO {l:List PX} {f f':PX→List Nat} (h:∀x∈l,f x=f' x):l.flatMap f=l.flatMap f':=by
 induction l with
 |nil=>rfl
 |cons a l ih=>simp only [List.flatMap_cons,h a (by simp),ih fun x hx=>h x (by simp [hx])]
theorem WT {S S':St} {o:PO} (h:∀n∈o.looks,S'.av n=S.av n):kE S' o=kE S o∧gu S' o=gu S o:=by
 have hw:wanted S' o.g=wanted S o.g:=ank fun t w e=>h t (by simp [PO.looks,e])
 simp only [kE,gu,hw]
 rw [WO (f:=fun x=>(S'.ev x).refs) (f':=fun x=>(S.ev x).refs) fun x hx=>by rw [JO h (acj hx)],
  WO (f:=fun x=>(S'.ev x).refs) (f':=fun x=>(S.ev x).refs) fun x hx=>by rw [JO h (amJ hx)]]
 exact ⟨rfl,rfl⟩
theorem UR {q:PO} {S S2 S':St} (h:gz Γ q S=some S2) (hl:∀n∈q.looks,S'.av n=S.av n) (hr:∀r∈kE S q,S'.ms r=S.ms r)
 (hn:∀d,q.dst=some d→d∈gu S q→S'.ms d=S.ms d):
 ∃wW,gz Γ q S'=some wW∧(∀n,q.dst=some n→wW.av n=S2.av n)∧(∀n,q.dst≠some n→wW.av n=S'.av n∧S2.av n=S.av n)∧
  (∀r∈gu S q,wW.ms r=S2.ms r)∧(∀r,r∉gu S q→wW.ms r=S'.ms r∧S2.ms r=S.ms r):=by
 have hg:gd S' q.g=gd S q.g:=ae' fun t w e=>hl t (by simp [PO.looks,e])
 have kv:∀av,(∀n,q.dst=some n→kY S' q.dst av n=kY S q.dst av n)∧(∀n,q.dst≠some n→kY S' q.dst av n=S'.av n∧kY S q.dst av n=S.av n):=by
  intro av;cases hd:q.dst with
  |none=>exact ⟨by simp,fun n _=>⟨rfl,rfl⟩⟩
  |some d=>exact ⟨fun n e=>by simp at e;subst e;simp [kY,bO],fun n e=>by
   have:n≠d:=fun e'=>e (by rw [e'])
   simp [kY,bO,this]⟩
 rcases acP h with ⟨h1,rfl⟩|⟨h1,av,rt,m',ho,h2⟩
 ·have hw:=ads h1;refine ⟨_,alL (hg.trans h1),(kv _).1,(kv _).2,fun r hr=>?_,fun r _=>⟨rfl,rfl⟩⟩;simp [gu,hw] at hr
 ·have hw:=ads h1;have hR:∀r,opR S.ev q.op r→S'.ms r=S.ms r:=fun r ⟨x,hx,h3⟩=>hr r (by simp only [kE,hw,if_true,zu];exact ⟨x,hx,h3⟩)
  obtain ⟨dE,Dk,hF⟩:=aki (ev:=S.ev) (ev':=S'.ev) (m1:=S'.ms) (fun a=>rfl) (fun x hx=>JO hl hx) hR ho
  have FK:∀r,tS S.ev q.op r→r∈gu S q:=fun r ⟨x,hx,h3⟩=>by
   simp only [gu,hw,if_true,zi,zu];exact .inr ⟨x,hx,h3⟩
  have yG:∀r,r∈gu S q→tS S.ev q.op r∨(q.op.CQ=true∧q.dst=some r):=fun r h3=>by
   simp only [gu,hw,if_true,zi,zu] at h3;rcases h3 with h3|h3
   ·split at h3
    ·rename_i hc;exact .inr ⟨hc,by simpa [zQ] using h3⟩
    ·simp at h3
   ·exact .inl h3
  rcases h2 with ⟨rfl,rfl⟩|⟨d,r,rfl,hd,hm,rfl⟩
  ·refine ⟨_,(acT (hg.trans h1) Dk).1 rfl,(kv _).1,(kv _).2,fun r hr=>?_,fun r hr=>?_⟩
   ·by_cases h4:tS S.ev q.op r
    ·exact hF.1 r h4
    ·rcases yG r hr with h3|h3
     ·exact absurd h3 h4
     ·show dE r=m' r;rw [hF.2.2 r h4,hF.2.1 r h4];exact hn r h3.2 hr
   ·exact ⟨hF.2.2 r fun e=>hr (FK r e),hF.2.1 r fun e=>hr (FK r e)⟩
  ·have hdW:d∈gu S q:=by
    simp only [gu,hw,if_true,akh ho,hd,zi];exact .inl (by simp)
   have nV:(dE d).1=none:=by
    by_cases h4:tS S.ev q.op d
    ·rw [hF.1 d h4,hm]
    ·rw [hF.2.2 d h4,hn d hd hdW,←hF.2.1 d h4,hm]
   refine ⟨_,(acT (hg.trans h1) Dk).2 d r rfl hd nV,(kv _).1,(kv _).2,fun k hk=>?_,fun k hk=>?_⟩
   ·by_cases e:k=d
    ·subst e;simp [bO]
    ·simp only [bO,if_neg e];rcases yG k hk with h3|h3
     ·exact hF.1 k h3
     ·rw [hd] at h3;simp at h3;exact absurd h3.2.symm e
   ·have e:k≠d:=fun e=>hk (e▸hdW)
    simp only [bO,if_neg e];exact ⟨hF.2.2 k fun e=>hk (FK k e),hF.2.1 k fun e=>hk (FK k e)⟩
def CG (p q:PO):Bool:=
 (match p.dst with
  |some d=>!q.looks.contains d&&q.dst !=some d
  |none=>true)&&
 (match q.dst with
  |some d=>!p.looks.contains d
  |none=>true)
theorem adY {p q:PO} (h:CG p q=true):(∀d,p.dst=some d→d∉q.looks)∧(∀d,p.dst=some d→q.dst≠some d)∧(∀d,q.dst=some d→d∉p.looks):=by
 refine ⟨fun d hd=>?_,fun d hd=>?_,fun d hd=>?_⟩<;>simp [CG,hd] at h
 ·exact h.1.1
 ·exact h.1.2
 ·exact h.2
theorem Fv {a b:List Nat} (h:sZ a b=true) {r:Nat} (ha:r∈a):r∉b:=by
 simp only [sZ,zb] at h;simpa using h r ha
theorem WS {S:St} {q:PO} {r:Nat} (h:r∈gu S q):r∈kE S q∨q.dst=some r:=by
 unfold gu at h;split at h
 ·rename_i hw;rcases zi.1 h with h|h
  ·split at h
   ·exact .inr (by simpa [zQ] using h)
   ·simp at h
  ·obtain ⟨x,hx,h3⟩:=zu.1 h;exact .inl (by simp only [kE,hw,if_true,zu];exact ⟨x,U0 hx,h3⟩)
 ·simp at h
theorem alH {p q:PO} {S S1 S2:St} (h1:gz Γ p S=some S1) (h2:gz Γ q S1=some S2) (ha:CG p q=true)
 (fj:sZ (gu S p) (kE S1 q)=true) (ck:sZ (gu S1 q) (kE S p)=true):
 ∃uB,gz Γ q S=some uB∧gz Γ p uB=some S2∧kE S q=kE S1 q∧gu S q=gu S1 q∧kE uB p=kE S p∧gu uB p=gu S p:=by
 obtain ⟨a1,a2,a3⟩:=adY ha;obtain ⟨Sx,hx,_,p2,_,p4⟩:=UR (S':=S) h1 (fun _ _=>rfl) (fun _ _=>rfl) (fun _ _ _=>rfl)
 have xm:∀r,r∈gu S p→r∈gu S1 q→False:=fun r h3 h4=>by
  rcases WS h4 with h5|h5
  ·exact Fv fj h3 h5
  ·rcases WS h3 with h6|h6
   ·exact Fv ck h4 h6
   ·exact a2 r h6 h5
 have KS:∀n∈q.looks,S.av n=S1.av n:=fun n hn=>(p2 n fun e=>a1 n e hn).2.symm
 obtain ⟨uB,e1,q1,q2,q3,q4⟩:=UR (S':=S) h2 KS (fun r hr=>(p4 r fun e=>Fv fj e hr).2.symm)
  (fun d hd hW=>(p4 d fun e=>xm d e hW).2.symm)
 obtain ⟨wW,e2,r1,r2,r3,r4⟩:=UR (S':=uB) h1 (fun n hn=>(q2 n fun e=>a3 n e hn).1)
  (fun r hr=>(q4 r fun e=>Fv ck e hr).1) (fun d hd hW=>(q4 d fun e=>xm d hW e).1)
 have FO:=WT (o:=q) (S:=S1) (S':=S) KS;have xi:=WT (o:=p) (S:=S) (S':=uB) (fun n hn=>(q2 n fun e=>a3 n e hn).1);refine ⟨uB,e1,?_,FO.1,FO.2,xi.1,xi.2⟩
 have:wW=S2:=by
  obtain ⟨av2,ms2⟩:=S2;obtain ⟨ad6,ajJ⟩:=wW
  have fG:ad6=av2:=by
   funext n;by_cases hp:p.dst=some n
   ·have hq:q.dst≠some n:=a2 n hp;have:=r1 n hp;have h3:=(q2 n hq).2;simp only at this h3 ⊢;rw [this,h3]
   ·by_cases hq:q.dst=some n
    ·have h3:=(r2 n hp).1;have h4:=q1 n hq;simp only at h3 h4 ⊢;rw [h3,h4]
    ·have h3:=(r2 n hp).1;have h4:=(q2 n hq).1;have h5:=(q2 n hq).2;have h6:=(p2 n hp).2;simp only at h3 h4 h5 h6 ⊢;rw [h3,h4,h5,h6]
  have uM:ajJ=ms2:=by
   funext r;by_cases hp:r∈gu S p
   ·have hq:r∉gu S1 q:=fun e=>xm r hp e
    have h3:=r3 r hp;have h4:=(q4 r hq).2;simp only at h3 h4 ⊢;rw [h3,h4]
   ·by_cases hq:r∈gu S1 q
    ·have h3:=(r4 r hp).1;have h4:=q3 r hq;simp only at h3 h4 ⊢;rw [h3,h4]
    ·have h3:=(r4 r hp).1;have h4:=(q4 r hq).1;have h5:=(q4 r hq).2;have h6:=(p4 r hp).2;simp only at h3 h4 h5 h6 ⊢;rw [h3,h4,h5,h6]
  rw [fG,uM]
 rw [←this];exact e2
def qN (Γ:Env) (ops:List PO) (F:Nat→List Nat×List Nat):List Nat→St→St→Prop
 |[],S,S'=>S=S'
 |i::l,S,S'=>∃o S1,ops[i]?=some o∧gz Γ o S=some S1∧kE S o=(F i).1∧gu S o=(F i).2∧qN Γ ops F l S1 S'
def IY (ops:List PO) (F:Nat→List Nat×List Nat) (k i:Nat):Prop:=
 ∀p q,ops[k]?=some p→ops[i]?=some q→CG p q=true∧sZ (F k).2 (F i).1=true∧sZ (F i).2 (F k).1=true
theorem qN.aeb {ops:List PO} {F:Nat→List Nat×List Nat} {i:Nat} {rest:List Nat}:∀(ks:List Nat) {S S':St},qN Γ ops F (ks++i::rest) S S'→
 (∀k∈ks,IY ops F k i)→qN Γ ops F (i::(ks++rest)) S S':=by
 intro ks;induction ks with
 |nil=>intro S S' h _;exact h
 |cons k ks ih=>
  intro S S' h hp;obtain ⟨p,S1,hp1,hs,hr,hw,h⟩:=h;obtain ⟨q,S2,jt,hs2,qy,eF,h⟩:=ih h fun j hj=>hp j (by simp [hj])
  obtain ⟨a,b,c⟩:=hp k (by simp) p q hp1 jt;obtain ⟨uB,e1,e2,f1,f2,f3,f4⟩:=alH hs hs2 a (by rw [hw,qy];exact b) (by rw [eF,hr];exact c);exact ⟨q,uB,jt,e1,f1.trans qy,f2.trans eF,p,S2,hp1,e2,f3.trans hr,f4.trans hw,h⟩
end
end
section
def jn (w0:World) (cl0:fS) (N:Nat) (S:St) (a:Act) (w:World):Prop:=∃g,Rel w0 cl0 S a.tmps w g∧a.defers=[]∧N≤a.tmps.size
def Bx (P:Program) (κ:Nat→FuncId) (N:Nat) (ops:Array Oper) (po:PO) (o:Oper):Bool:=
 decide (po.dst=o.dst)&&(match po.dst with|some d=>decide (d<N)|none=>true)&&
 (match po.g,o.guard with
  |none,none=>true
  |some (t,want),some (j,adr)=>want==adr&&decide ((ops[j]?).bind (·.dst)=some t)
  |_,_=>false)&&cv P κ po.op o.op
def sH (P:Program) (κ:Nat→FuncId) (Γ:Env) (_keys:List Nat):Prop:=wU P κ Γ
def bP.key:bP→List Nat
 |.call f _ _=>[f]
 |_=>[]
section
variable {P:Program} {κ:Nat→FuncId} {w0:World} {cl0:fS} {Γ:Env} {N:Nat} {ops:Array Oper}
theorem put_defers (a:Act) (d:Option Tmp) (v:Value):(a.put d v).defers=a.defers:=by cases d<;>rfl
theorem ab8 (a:Act) (d:Option Tmp) (v:Value):(a.put d v).tmps.size=a.tmps.size:=by cases d<;>simp [Act.put]
theorem Rel.put {S:St} {a:Act} {w:World} {g:Gh} (R:Rel w0 cl0 S a.tmps w g) {dst:Option Nat} {av:AV} {v:Value} (hd:∀d,dst=some d→d<a.tmps.size)
 (ha:RA w g S.ms av v) (hr:Live S.ms av):Rel w0 cl0 ⟨kY S dst av,S.ms⟩ (a.put dst v).tmps w g:=by
 cases dst with
 |none=>exact R
 |some d=>exact R.slot (hd d rfl) ha hr
theorem aaf {S:St} {a:Act} {w:World} {g:Gh} (R:Rel w0 cl0 S a.tmps w g) {po:PO} {o:Oper} (hc:Bx P κ N ops po o=true) {b:Bool} (h:gd S po.g=some b):
 Region.wanted o (yielded ops a.tmps)=b:=by
 simp only [Bx,za] at hc;obtain ⟨⟨⟨_,_⟩,hg⟩,_⟩:=hc;unfold Region.wanted;cases hpg:po.g with
 |none=>
  rw [hpg] at hg h;cases FU:o.guard with
  |none=>simp [gd] at h;subst h;rfl
  |some x=>rw [FU] at hg;simp at hg
 |some x=>
  obtain ⟨t,want⟩:=x;rw [hpg] at hg h;cases FU:o.guard with
  |none=>rw [FU] at hg;simp at hg
  |some y=>
   obtain ⟨j,adr⟩:=y;rw [FU] at hg;simp only [za,beq_iff_eq,decide_eq_true_eq] at hg;obtain ⟨rfl,hj⟩:=hg;have fG:=R.av t;simp only [gd] at h;simp only [yielded,hj,Option.bind_some];split at h
   ·rename_i k bb hb;simp at h;subst h;rw [hb] at fG;have hv:=EI fG
    have:a.tmps[t]?=some (.bool bb):=by
     rw [zo] at hv;cases h2:a.tmps[t]? with
     |none=>rw [h2] at hv;simp [undef] at hv
     |some y=>rw [h2] at hv;simp at hv;rw [hv]
    simp only [this];cases bb<;>cases want<;>rfl
   ·rename_i hb;simp at h;subst h;rw [hb] at fG
    have hv:a.tmps.getD t undef=.tuple #[]:=by
     generalize a.tmps.getD t undef=z at fG;cases fG with
     |cf _ vs hl _=>
      have:vs=#[]:=Array.eq_empty_of_size_eq_zero (by simpa using hl.symm);rw [this]
    rw [zo] at hv;cases h2:a.tmps[t]? with
    |none=>rfl
    |some y=>rw [h2] at hv;simp at hv;rw [hv];rfl
   ·cases h
theorem alN {S S':St} {a:Act} {w:World} {po:PO} {o:Oper} (mL:sH P κ Γ po.op.key) (hc:Bx P κ N ops po o=true) (hs:jn w0 cl0 N S a w)
 (h:gz Γ po S=some S') {Q:Exit→Act→World→Prop}:
 if Region.wanted o (yielded ops a.tmps) then o.wp P a w (jn w0 cl0 N S') Q else jn w0 cl0 N S' (a.put o.dst undef) w:=by
 obtain ⟨g,R,FM,hN⟩:=hs;have fT:=hc;simp only [Bx,za,decide_eq_true_eq] at hc;obtain ⟨⟨⟨aaI,ai⟩,_⟩,jY⟩:=hc;have hd:∀d,po.dst=some d→d<a.tmps.size:=fun d e=>by rw [e] at ai;have:=of_decide_eq_true ai;omega
 rcases acP h with ⟨h1,rfl⟩|⟨h1,av,rt,m',ho,h2⟩
 ·rw [aaf R fT h1,if_neg (by simp),←aaI];refine ⟨g,R.put hd ?_ (fun r hr=>by simp [AV.refs,AV.ea] at hr),by rw [put_defers];exact FM,by rw [ab8];exact hN⟩;exact .cf [] #[] rfl (fun i b x hb=>by simp at hb)
 ·rw [aaf R fT h1,if_pos rfl]
  have jH:rt.isSome→(m' (po.dst.getD 0)).1=none:=by
   rcases h2 with ⟨rfl,_⟩|⟨d,r,rfl,ck,hm,_⟩
   ·simp
   ·intro _;rw [ck];exact hm
  have hu:=akb R jH mL jY ho o rfl
  have key:∀v w',kq w0 cl0 S a.tmps (po.dst.getD 0) av rt m' v w'→jn w0 cl0 N S' (a.put o.dst v) w':=by
   intro v w' hp;obtain ⟨g',R',ha,hl⟩:=hp;rw [←aaI];refine ⟨g',?_,by rw [put_defers];exact FM,by rw [ab8];exact hN⟩;rcases h2 with ⟨rfl,rfl⟩|⟨d,r,rfl,ck,hm,rfl⟩
   ·exact Rel.put (S:={ S with ms:=m' }) R' hd ha hl
   ·have:=Rel.put (S:={ S with ms:=bO m' d (some r,[]) }) (dst:=po.dst) (by rw [ck] at R';exact R') hd (by rw [ck] at ha;exact ha) (by rw [ck] at hl;exact hl);exact this
  unfold Oper.wp;generalize (execOp a.eval o).run P w=res at hu;cases res with
  |ok n w'=>
   cases n with
   |value v=>exact key v w' hu
   |skip=>exact key undef w' hu
   |enter f args=>
    refine Calls.mono hu fun e Cz he=>?_
    obtain ⟨v,rfl,hp⟩:=he;exact key v Cz hp
   |_=>exact hu.elim
  |halt x w'=>exact hu.elim
def sU (P:Program) (κ:Nat→FuncId) (N:Nat) (ops:Array Oper):List PO→List Oper→Bool
 |[],[]=>true
 |p::ps,o::os=>Bx P κ N ops p o&&sU P κ N ops ps os
 |_,_=>false
theorem Fh:∀(ps:List PO) (os:List Oper),sU P κ N ops ps os=true→ps.length=os.length∧
 ∀(i:Nat) (p:PO) (o:Oper),ps[i]?=some p→os[i]?=some o→Bx P κ N ops p o=true:=by
 intro ps;induction ps with
 |nil=>intro os h;cases os<;>simp [sU] at h ⊢
 |cons p ps ih=>
  intro os h;cases os with
  |nil=>simp [sU] at h
  |cons o os=>
   simp only [sU,za] at h;obtain ⟨h1,h2⟩:=ih os h.2;refine ⟨by simp [h1],fun i q x hq hx=>?_⟩;cases i with
   |zero=>simp at hq hx;subst hq;subst hx;exact h.1
   |succ i=>exact h2 i q x (by simpa using hq) (by simpa using hx)
def BX (ps:List PO):List Nat:=ps.flatMap fun p=>p.op.key
theorem adu {pos:List PO} (mL:sH P κ Γ (BX pos)) (hc:sU P κ N ops pos ops.toList=true) {i:Nat} {po:PO} {S S1:St} {a:Act} {w:World} (hi:pos[i]?=some po)
 (hs:jn w0 cl0 N S a w) (h:gz Γ po S=some S1) {Q:Exit→Act→World→Prop} {K:Act→World→Prop} (hK:∀a w,jn w0 cl0 N S1 a w→K a w):
 wpOp P ops Q i K a w:=by
 obtain ⟨hl,hg⟩:=Fh pos ops.toList hc;have ai:=cY hi;have ho:ops[i]?=some ops[i]:=by simp [show i<ops.size by rw [hl] at ai;simpa using ai]
 generalize ops[i]=o at ho;have yx:=hg i po o hi (by simpa using ho);have d_:=alN (w0:=w0) (cl0:=cl0) (Q:=Q) mL yx hs h;unfold wpOp;simp only [ho];split
 ·rename_i hw;rw [if_pos hw] at d_;exact .inl (Oper.wp_mono hK d_)
 ·rename_i hw;rw [if_neg hw] at d_;exact hK _ _ d_
theorem ano {pos:List PO} {F:Nat→List Nat×List Nat} (mL:sH P κ Γ (BX pos)) (hc:sU P κ N ops pos ops.toList=true) {Q:Exit→Act→World→Prop} {S':St}
 (hQ:∀a w,jn w0 cl0 N S' a w→Q .normal a w):∀(l:List Nat) (S:St) (a:Act) (w:World),qN Γ pos F l S S'→jn w0 cl0 N S a w→wpOps P ops Q l a w:=by
 intro l;induction l with
 |nil=>intro S a w h hs;have:S=S':=h;subst this;exact hQ a w hs
 |cons i l ih=>
  intro S a w h hs;obtain ⟨po,S1,hi,d_,_,_,h⟩:=h;rw [wpOps_cons];exact adu mL hc hi hs d_ fun a w h2=>ih S1 a w h h2
theorem alc (all:List PO) (F:Nat→List Nat×List Nat):∀(os:List PO) (k:Nat) (S S':St),(∀i,i<os.length→all[k+i]?=os[i]?)→jv Γ os S=some S'→
 (∀i fp,(mH Γ os S)[i]?=some fp→F (k+i)=fp)→qN Γ all F (List.range' k os.length) S S':=by
 intro os;induction os with
 |nil=>intro k S S' _ h _;simp [jv] at h;exact h
 |cons o os ih=>
  intro k S S' ha h hF;simp only [jv] at h;split at h
  ·rename_i S1 d_;have FN:mH Γ (o::os) S=(kE S o,gu S o)::mH Γ os S1:=by simp only [mH,d_]
   have h0:=hF 0 (kE S o,gu S o) (by rw [FN];rfl);simp only [Nat.add_zero] at h0;rw [List.length_cons,List.range'_succ];refine ⟨o,S1,by have:=ha 0 (by simp);simpa using this,d_,by rw [h0],by rw [h0],ih (k+1) S1 S' (fun i hi=>?_) h (fun i fp hi=>?_)⟩
   ·have:=ha (i+1) (by simp;omega);rw [show k+1+i=k+(i+1) from by omega,this];rfl
   ·have:=hF (i+1) fp (by rw [FN];exact hi);rwa [show k+1+i=k+(i+1) from by omega]
  ·cases h
def FC (fs:List (List Nat×List Nat)) (i:Nat):List Nat×List Nat:=fs[i]?.getD ([],[])
theorem UI {os:List PO} {S S':St} (h:jv Γ os S=some S'):qN Γ os (FC (mH Γ os S)) (zF os.length) S S':=by
 rw [List.range_eq_range'];exact alc os _ os 0 S S' (fun i _=>by simp) h (fun i fp hi=>by simp [FC,hi])
theorem ans {pos:List PO} (mL:sH P κ Γ (BX pos)) (hc:sU P κ N ops pos ops.toList=true) {Q:Exit→Act→World→Prop} {S S':St} {id:Nat}
 (hQ:∀a w,jn w0 cl0 N S' a w→Q .normal a w) (h:jv Γ pos S=some S') {a:Act} {w:World} (hs:jn w0 cl0 N S a w):(Code.region id ops false).wp P Q a w:=by
 refine wp_region ?_;have hl:=(Fh pos ops.toList hc).1;have:=ano mL hc hQ _ S a w (UI h) hs;rwa [hl] at this
end
end
section
def direct (o:Oper):List Nat:=(o.after.toList.filter (Region.binds .any)).map (·.on)
def merge (a b:List Nat):List Nat:=a.foldl (fun acc x=>if acc.contains x then acc else x::acc) b
def Jb:List (List Nat)→List Oper→List (List Nat)
 |A,[]=>A
 |A,o::os=>Jb (A++[(direct o).foldl (fun s d=>merge (A.getD d []) (merge [d] s)) []]) os
def Js (ops:List Oper) (A:List (List Nat)):Bool:=
 (zF ops.length).all fun i=>match ops[i]?,A[i]? with
  |some o,some l=>(direct o).all (fun e=>decide (e<i))&&l.all fun k=>(direct o).contains k||(direct o).any fun d=>match A[d]? with|some m=>m.contains k|none=>false
  |_,_=>false
def quiet (p q:PO):Bool:=(p.op.lM.isEmpty&&!p.op.CQ)||q.op.reads.isEmpty
def Jx (pos:List PO) (A:List (List Nat)) (ps:List (Nat×Nat)):Bool:=
 (zF pos.length).all fun i=>match pos[i]?,A[i]? with
  |some q,some l=>(zF i).all fun k=>l.contains k||match pos[k]? with
   |some p=>CG p q&&((quiet p q&&quiet q p)||ps.contains (k,i))
   |none=>false
  |_,_=>false
def Ju (pos:List PO) (ops:List Oper) (ps:List (Nat×Nat)):Bool:=Js ops (Jb [] ops)&&Jx pos (Jb [] ops) ps
section
variable {P:Program} {κ:Nat→FuncId} {w0:World} {cl0:fS} {Γ:Env} {N:Nat} {ops:Array Oper}
theorem ab9 {p q:PO} {S S':St} (h:quiet p q=true):sZ (gu S p) (kE S' q)=true:=by
 simp only [quiet,zf,za,ze,zT] at h;rcases h with ⟨h1,h2⟩|h1
 ·have:gu S p=[]:=by simp [gu,h1,h2]
  rw [this];rfl
 ·have:kE S' q=[]:=by simp [kE,h1]
  rw [this];simp [sZ]
theorem qN.at {os:List PO} {F:Nat→List Nat×List Nat}:∀(l:List Nat) {S S':St},qN Γ os F l S S'→∀i∈l,∃o S1,os[i]?=some o∧kE S1 o=(F i).1∧gu S1 o=(F i).2:=by
 intro l;induction l with
 |nil=>intro S S' _ i hi;simp at hi
 |cons j l ih=>
  intro S S' h i hi;obtain ⟨o,S1,h1,_,h2,h3,h⟩:=h;rcases zr.1 hi with rfl|hi
  ·exact ⟨o,S,h1,h2,h3⟩
  ·exact ih h i hi
theorem akv {pos:List PO} {A:List (List Nat)} {ps:List (Nat×Nat)} {S S':St} (hc:Jx pos A ps=true) (hr:jv Γ pos S=some S') (hp:xw (mH Γ pos S) ps=true)
 {k i:Nat} (hi:i<pos.length) (hk:k<i) {l:List Nat} (hA:A[i]?=some l) (hn:k∉l):IY pos (FC (mH Γ pos S)) k i:=by
 intro p q vO hqi;simp only [Jx,zb,zm] at hc;have h1:=hc i hi;rw [hqi,hA] at h1;simp only [zb,zm,zf,zB] at h1;have h2:=(h1 k hk).resolve_left hn;rw [vO] at h2;simp only [za,zf] at h2;refine ⟨h2.1,?_⟩;have aa':=UI hr;obtain ⟨p',S1,e1,f1,f2⟩:=qN.at _ aa' k (by simp;omega);obtain ⟨q',S2,e2,f3,f4⟩:=qN.at _ aa' i (by simp;omega);rw [vO] at e1;cases e1;rw [hqi] at e2;cases e2;rcases h2.2 with ⟨h3,h4⟩|h3
 ·rw [←f1,←f2,←f3,←f4];exact ⟨ab9 h3,ab9 h4⟩
 ·simp only [xw,zb] at hp;have h5:=hp (k,i) (by simpa using h3);simp only at h5;split at h5
  ·rename_i r1 w1 r2 w2 g1 g2;simp only [za] at h5;simpa [FC,g1,g2] using h5
  ·cases h5
def left (n:Nat) (fe:Array Bool):List Nat:=(zF n).filter fun i=>!fe.getD i true
theorem ai2 {n i:Nat} {fe:Array Bool} (hs:fe.size=n) (hi:i∈left n fe):
 ∃ks rest,left n fe=ks++i::rest∧(∀k∈ks,k<i∧k∈left n fe)∧left n (fe.setIfInBounds i true)=ks++rest:=by
 obtain ⟨ks,rest,h⟩:=List.append_of_mem hi;have Dx:(left n fe).Pairwise (·<·):=zN _ zM;rw [h] at Dx;have h1:=List.pairwise_append.1 Dx;refine ⟨ks,rest,h,fun k hk=>⟨h1.2.2 k hk i (by simp),by rw [h];simp [hk]⟩,?_⟩;have BJ:i<n:=by simp only [left,zz,zm] at hi;exact hi.1
 have h2:left n (fe.setIfInBounds i true)=(left n fe).filter fun j=>j !=i:=by
  simp only [left,List.filter_filter];refine List.filter_congr fun j hj=>?_
  simp only [zm] at hj;by_cases e:j=i
  ·subst e;simp [hs,BJ]
  ·rw [getD_set_ne true (Ne.symm e)];have:(j !=i)=true:=by simpa using e
   rw [this,Bool.true_and]
 rw [h2,h,List.filter_append,List.filter_cons]
 have hk:ks.filter (fun j=>j !=i)=ks:=zG.2 fun j hj=>by
  have:=h1.2.2 j hj i (by simp);simp;omega
 have hr:rest.filter (fun j=>j !=i)=rest:=zG.2 fun j hj=>by
  have:=(zO.1 h1.2.1).1 j hj;simp;omega
 simp [hk,hr]
theorem adX {pos:List PO} (mL:sH P κ Γ (BX pos)) (hc:sU P κ N ops pos ops.toList=true) {F:Nat→List Nat×List Nat} {A:List (List Nat)} (hA:Js ops.toList A=true)
 (hp:∀i k l,i<pos.length→k<i→A[i]?=some l→k∉l→IY pos F k i) {Q:Exit→Act→World→Prop} {S':St} (hQ:∀a w,jn w0 cl0 N S' a w→Q .normal a w):
 ∀(fuel:Nat) (fe:Array Bool) (S:St) (a:Act) (w:World),fe.size=ops.size→(left ops.size fe).length=fuel→
  (∀x,fe.getD x false=true→∀l,A[x]?=some l→∀k∈l,fe.getD k false=true)→
  qN Γ pos F (left ops.size fe) S S'→jn w0 cl0 N S a w→wpAny P .any ops Q fuel fe a w:=by
 have hl:=(Fh pos ops.toList hc).1;simp only [zH] at hl;simp only [Js,zb,zm,zH] at hA
 have hAt:∀i,i<ops.size→∃o l,ops[i]?=some o∧A[i]?=some l∧(∀e∈direct o,e<i)∧
  ∀k∈l,k∈direct o∨∃d∈direct o,∃m,A[d]?=some m∧k∈m:=by
  intro i hi;have h1:=hA i hi;split at h1
  ·rename_i o l e1 e2;simp only [za,zb,decide_eq_true_eq,zf,zB,zR] at h1;refine ⟨o,l,by simpa using e1,e2,h1.1,fun k hk=>?_⟩;rcases h1.2 k hk with h2|⟨d,hd,h2⟩
   ·exact .inl h2
   ·right;refine ⟨d,hd,?_⟩;split at h2
    ·rename_i m hm;exact ⟨m,hm,by simpa using h2⟩
    ·cases h2
  ·cases h1
 have xm:∀(fe:Array Bool) k,fe.size=ops.size→(k∈left ops.size fe↔(k<ops.size∧fe.getD k false=false)):=by
  intro fe k hs;simp only [left,zz,zm,ze];constructor
  ·rintro ⟨h1,h2⟩;refine ⟨h1,?_⟩;simpa [hs,h1] using h2
  ·rintro ⟨h1,h2⟩;refine ⟨h1,?_⟩;simpa [hs,h1] using h2
 have aa8:∀(fe:Array Bool) i,fe.size=ops.size→i∈Region.ready .any ops fe→i∈left ops.size fe∧∀o,ops[i]?=some o→∀e∈direct o,fe.getD e false=true:=by
  intro fe i hs hi;obtain ⟨h1,o,ho,h2⟩:=mem_ready.1 hi;refine ⟨by simp only [left,zz,zm,h1];exact ⟨(Array.getElem?_eq_some_iff.1 ho).1,rfl⟩,fun o' Dk e he=>?_⟩;rw [ho] at Dk;cases Dk;simp only [direct,zh,zz] at he;obtain ⟨x,⟨hx1,vW⟩,rfl⟩:=he;exact h2 x (by simpa using hx1) vW
 intro fuel;induction fuel with
 |zero=>
  intro fe S a w hs hf aD hr LR;have BM:left ops.size fe=[]:=List.eq_nil_of_length_eq_zero hf;rw [BM] at hr;have:S=S':=hr;subst this;refine ⟨?_,hQ a w LR⟩;cases h:Region.ready .any ops fe with
  |nil=>rfl
  |cons i t=>
   have:=(aa8 fe i hs (by rw [h];simp)).1;rw [BM] at this;simp at this
 |succ fuel ih=>
  intro fe S a w hs hf aD hr LR;refine ⟨fun h=>?_,fun i hi=>?_⟩
  ·exfalso;cases fc:left ops.size fe with
   |nil=>rw [fc] at hf;simp at hf
   |cons i t=>
    have hi:i∈left ops.size fe:=by rw [fc];simp
    obtain ⟨BJ,hiu⟩:=(xm fe i hs).1 hi;obtain ⟨o,l,ho,Kh,ai,_⟩:=hAt i BJ
    have:i∈Region.ready .any ops fe:=by
     rw [mem_ready];refine ⟨by simpa [hs,BJ] using hiu,o,ho,fun e he hb=>?_⟩;have h1:e.on∈direct o:=by simp only [direct,zh,zz];exact ⟨e,⟨by simpa using he,hb⟩,rfl⟩
     have h2:=ai _ h1;cases h3:fe.getD e.on false with
     |true=>rfl
     |false=>
      have h4:e.on∈left ops.size fe:=(xm fe _ hs).2 ⟨by omega,h3⟩;have Dx:(left ops.size fe).Pairwise (·<·):=zN _ zM;rw [fc] at Dx h4;rcases zr.1 h4 with h5|h5
      ·omega
      ·have:=(zO.1 Dx).1 _ h5;omega
    rw [h] at this;simp at this
  ·obtain ⟨yE,agk⟩:=aa8 fe i hs hi;obtain ⟨BJ,hiu⟩:=(xm fe i hs).1 yE;obtain ⟨o,l,ho,Kh,ai,afV⟩:=hAt i BJ;have aaH:=agk o ho
   have nT:∀k∈l,fe.getD k false=true:=fun k hk=>by
    rcases afV k hk with h1|⟨d,hd,m,hm,hkm⟩
    ·exact aaH k h1
    ·exact aD d (aaH d hd) m hm k hkm
   obtain ⟨ks,rest,qz,hks,BP⟩:=ai2 hs yE;rw [qz] at hr
   have hb:=qN.aeb ks hr fun k hk=>hp i k l (by omega) (hks k hk).1 Kh fun jd=>by
    have h1:=nT k jd;have h2:=((xm fe k hs).1 (hks k hk).2).2;rw [h1] at h2;cases h2
   obtain ⟨po,S1,gA,d_,_,_,hb⟩:=hb;refine adu mL hc gA LR d_ fun a w h2=>ih _ S1 a w (by simp [hs]) ?_ ?_ (by rw [BP];exact hb) h2
   ·rw [BP];rw [qz] at hf;simp at hf ⊢;omega
   ·intro x hx m hm k hk;by_cases e:x=i
    ·subst e;rw [Kh] at hm;cases hm;exact getD_set_true (nT k hk)
    ·rw [getD_set_ne false (Ne.symm e)] at hx;exact getD_set_true (aD x hx m hm k hk)
theorem jn.drew {S:St} {a:Act} {w:World} {n:Nat} (yz:w.drawn≤n) (h:jn w0 cl0 N S a w):jn w0 cl0 N S a { w with drawn:=n }:=by
 obtain ⟨g,R,hd,hN⟩:=h
 exact ⟨g,R.grow (w':={ w with drawn:=n }) (g':=g) (fun _ _=>rfl) (zt _) ⟨rfl,rfl,fun _ h=>⟨h,rfl⟩,rfl,yz⟩ (fun _ _=>rfl)
  (fun b hb=>by
   by_cases h:g.cl b=.no
   ·exact h
   ·have:=R.bd b h;omega) rfl rfl,hd,hN⟩
theorem anp (hm:P.follows .mixedOrders=true) {pos:List PO} {ps:List (Nat×Nat)} (mL:sH P κ Γ (BX pos)) (hc:sU P κ N ops pos ops.toList=true) (hd:Ju pos ops.toList ps=true)
 {Q:Exit→Act→World→Prop} {S S':St} {id:Nat}
 (hQ:∀a w,jn w0 cl0 N S' a w→Q .normal a w) (h:jv Γ pos S=some S') (hp:xw (mH Γ pos S) ps=true) {a:Act} {w:World} (hs:jn w0 cl0 N S a w):(Code.region id ops true).wp P Q a w:=by
 refine wp_region_any hm ?_;simp only [Ju,za] at hd;have hl:=(Fh pos ops.toList hc).1;simp only [zH] at hl
 have h0:left ops.size (zL ops.size false)=zF pos.length:=by
  rw [left,hl];refine zG.2 fun i hi=>?_
  simp only [zm] at hi;simp [hi]
 refine adX mL hc hd.1 (fun i k l hi hk hA hn=>akv hd.2 h hp hi hk hA hn) hQ _ _ S a _ (by simp) (by rw [h0];simp [hl]) (fun x hx=>?_) (by rw [h0];exact UI h) (hs.drew (by omega));exfalso;by_cases n9:x<ops.size
 ·simp [n9] at hx
 ·simp [show ops.size≤x by omega] at hx
end
end
section
section
variable {w0:World} {cl0:fS} {S:St} {ts:Array Value} {w:World} {g:Gh} {live:List Nat} {aQ:List (Nat×Nat)}
theorem DR {r:Nat} (h:ju live aQ r=true):iH aQ r∈live∧wI aQ (iH aQ r)=r:=by
 simp only [ju,za,beq_iff_eq,zB] at h;exact h
theorem get_map (f:Nat→AV×Option Rt):∀(l:List Nat) (n:Nat),AL.get (l.map fun n=>(n,f n)) n=if n∈l then f n else (.un,none):=by
 intro l n;induction l with
 |nil=>rfl
 |cons k l ih=>
  simp only [zU,AL.get];by_cases e:n=k
  ·subst e;simp
  ·simp [e,ih]
theorem acE (n:Nat):(settle live aQ S).get n=if n∈live then (jG S.ms live aQ (S.av n),wb S live aQ n) else (.un,none):=
 get_map (fun n=>(jG S.ms live aQ (S.av n),wb S live aQ n)) live n
def Gh.set (g:Gh) (live:List Nat) (aQ:List (Nat×Nat)):Gh where
 cl:=fun b=>match g.cl b with
  |.own (n+1) j ρ=>if ju live aQ n then .own (iH aQ n+1) j ρ else .no
  |.own 0 _ _=>.no
  |.box n=>if ju live aQ n then .box (iH aQ n) else .no
  |c=>c
 hd:=fun r j ρ=>match r with
  |0=>g.hd 0 j ρ
  |n+1=>g.hd (wI aQ n+1) j ρ
 bk:=fun n=>g.bk (wI aQ n)
theorem Gh.Ix {b:Nat} {k:Bool}:(g.set live aQ).cl b=kc k↔g.cl b=kc k:=by
 simp only [Gh.set];cases h:g.cl b with
 |own r j ρ=>
  cases r with
  |zero=>cases k<;>simp [kc]
  |succ n=>simp only;split<;>cases k<;>simp [kc]
 |box n=>simp only;split<;>cases k<;>simp [kc]
 |_=>exact .rfl
theorem Gh.alp {b n j:Nat} {ρ:bQ} (h:g.cl b=.own (n+1) j ρ) (ho:ju live aQ n=true):(g.set live aQ).cl b=.own (iH aQ n+1) j ρ:=by
 simp [Gh.set,h,ho]
theorem Gh.alo {b n:Nat} (h:g.cl b=.box n) (ho:ju live aQ n=true):(g.set live aQ).cl b=.box (iH aQ n):=by
 simp [Gh.set,h,ho]
theorem Gh.Cv {n j:Nat} {ρ:bQ} (ho:ju live aQ n=true):(g.set live aQ).hd (iH aQ n+1) j ρ=g.hd (n+1) j ρ:=by
 simp only [Gh.set,(DR ho).2]
theorem Gh.Iw {n:Nat} (ho:ju live aQ n=true):(g.set live aQ).bk (iH aQ n)=g.bk n:=by
 simp only [Gh.set,(DR ho).2]
mutual
theorem WL {m':Ms} (hm:∀r j p,m'.eC r j p=false):∀(a:AV) (x:Value),RA w g S.ms a x→RA w (g.set live aQ) m' (jG S.ms live aQ a) x
 |.un,x,_=>.un x
 |.v k d,x,h=>by
  cases h with
  |v _ _ _ h=>exact .v _ _ _ (h.mono fun b hb=>⟨rfl,Gh.Ix.2 hb⟩)
 |.nl sz,x,h=>by cases h;exact .nl sz
 |.agg cs,x,h=>by
  cases h with
  |agg _ vs hl hc=>
   simp only [jG];have hf:=JQ live aQ S.ms cs;refine .agg _ vs (by rw [hf.1];exact hl) fun i a y ha hy=>?_
   obtain ⟨b,hb,rfl⟩:=hf.2 i a ha;exact JR hm cs i b y hb (hc i b y hb hy)
 |.cf cs,x,h=>by
  cases h with
  |cf _ vs hl hc=>
   simp only [jG];have hf:=JQ live aQ S.ms cs;refine .cf _ vs (by rw [hf.1];exact hl) fun i a y ha hy=>?_
   obtain ⟨b,hb,rfl⟩:=hf.2 i a ha;exact JR hm cs i b y hb (hc i b y hb hy)
 |.pl r j p,x,h=>by
  cases h with
  |pl _ _ _ b n c h=>
   simp only [jG];split
   ·exact .un _
   ·rename_i hk;simp only [zf,ze,not_or,zw,zg] at hk;exact .pl _ _ _ _ _ _ fun _=>by rw [Gh.Cv hk.2];exact h hk.1
 |.rg r j p sz lo hi,x,h=>by
  cases h with
  |rg _ _ _ _ _ _ b n c h=>
   simp only [jG];split
   ·exact .un _
   ·rename_i hk;simp only [zf,ze,not_or,zw,zg] at hk;exact .rg _ _ _ _ _ _ _ _ _ fun _=>by rw [Gh.Cv hk.2];exact h hk.1
 |.bx r j,x,h=>by
  cases h;simp only [jG];split
  ·exact .un _
  ·rename_i hk;simp only [ze,zg] at hk;rw [←Gh.Iw (g:=g) hk];exact .bx _ _
 |.fv f r,x,h=>by
  cases h;simp only [jG];split
  ·exact .un _
  ·rename_i hk;simp only [ze,zg] at hk;rw [←Gh.Iw (g:=g) hk];exact .fv _ _
 |.ad r j p sz i c,x,h=>by
  cases h with
  |ad _ _ _ _ _ _ b o h=>
   simp only [jG];split
   ·exact .un _
   ·rename_i hk;simp only [zf,ze,not_or,zw,zg] at hk;exact .ad _ _ _ _ _ _ _ _ fun _=>by rw [Gh.Cv hk.2];exact h hk.1
 |.ra k sz es i c,x,h=>by
  cases h with
  |ra _ _ _ _ _ b off cap h hi=>exact .ra _ _ _ _ _ _ _ _ (h.mono fun b hb=>⟨rfl,Gh.Ix.2 hb⟩) hi
theorem JR {m':Ms} (hm:∀r j p,m'.eC r j p=false):∀(cs:List AV) (i:Nat) (b:AV) (y:Value),cs[i]?=some b→RA w g S.ms b y→RA w (g.set live aQ) m' (jG S.ms live aQ b) y
 |[],i,b,y,hb,_=>by simp at hb
 |c::cs,i,b,y,hb,h=>by
  cases i with
  |zero=>simp at hb;subst hb;exact WL hm c y h
  |succ i=>exact JR hm cs i b y (by simpa using hb) h
theorem JQ (live:List Nat) (aQ:List (Nat×Nat)) (m:Ms):∀(cs:List AV),(qS m live aQ cs).length=cs.length∧∀(i:Nat) (a:AV),(qS m live aQ cs)[i]?=some a→∃b,cs[i]?=some b∧a=jG m live aQ b
 |[]=>⟨rfl,fun i a h=>by simp [qS] at h⟩
 |c::cs=>by
  obtain ⟨h1,h2⟩:=JQ live aQ m cs;refine ⟨by simp [qS,h1],fun i a h=>?_⟩;cases i with
  |zero=>simp [qS] at h;exact ⟨c,rfl,h.symm⟩
  |succ i=>simp only [qS,zK] at h;exact h2 i a h
end
mutual
theorem WM {m:Ms}:∀(a:AV) (r:Nat),r∈(jG m live aQ a).refs→∃r0,r0∈a.refs∧ju live aQ r0=true∧r=iH aQ r0
 |.un,r,h=>by simp [jG,AV.refs] at h
 |.v k d,r,h=>by simp [jG,AV.refs] at h
 |.nl sz,r,h=>by simp [jG,AV.refs] at h
 |.agg cs,r,h=>JS cs r h
 |.cf cs,r,h=>JS cs r h
 |.pl r0 j p,r,h=>by
  simp only [jG] at h;split at h
  ·simp [AV.refs] at h
  ·rename_i hk;simp only [zf,ze,not_or,zw,zg] at hk;simp [AV.refs] at h;exact ⟨r0,by simp [AV.refs],hk.2,h⟩
 |.rg r0 j p sz lo hi,r,h=>by
  simp only [jG] at h;split at h
  ·simp [AV.refs] at h
  ·rename_i hk;simp only [zf,ze,not_or,zw,zg] at hk;simp [AV.refs] at h;exact ⟨r0,by simp [AV.refs],hk.2,h⟩
 |.bx r0 j,r,h=>by
  simp only [jG] at h;split at h
  ·simp [AV.refs] at h
  ·rename_i hk;simp only [ze,zg] at hk;simp [AV.refs] at h;exact ⟨r0,by simp [AV.refs],hk,h⟩
 |.fv f r0,r,h=>by
  simp only [jG] at h;split at h
  ·simp [AV.refs] at h
  ·rename_i hk;simp only [ze,zg] at hk;simp [AV.refs] at h;exact ⟨r0,by simp [AV.refs],hk,h⟩
 |.ad r0 j p sz i c,r,h=>by
  simp only [jG] at h;split at h
  ·simp [AV.refs] at h
  ·rename_i hk;simp only [zf,ze,not_or,zw,zg] at hk;simp [AV.refs] at h;exact ⟨r0,by simp [AV.refs],hk.2,h⟩
 |.ra k sz es i c,r,h=>by simp [jG,AV.refs] at h
theorem JS {m:Ms}:∀(cs:List AV) (r:Nat),r∈AV.ea (qS m live aQ cs)→∃r0,r0∈AV.ea cs∧ju live aQ r0=true∧r=iH aQ r0
 |[],r,h=>by simp [qS,AV.ea] at h
 |c::cs,r,h=>by
  simp only [qS,AV.ea,zi] at h ⊢;rcases h with h|h
  ·obtain ⟨r0,h1,h2⟩:=WM c r h;exact ⟨r0,.inl h1,h2⟩
  ·obtain ⟨r0,h1,h2⟩:=JS cs r h;exact ⟨r0,.inr h1,h2⟩
end
theorem aiX {n:Nat} {rt:Rt} (hn:n∈live) (h:wb S live aQ n=some rt):∃a qH,ju live aQ a=true∧iH aQ a=n∧(S.ms a).1=some qH∧rt=xb live aQ qH:=by
 simp only [wb] at h;split at h
 ·rename_i hl;split at h
  ·rename_i qH h0;simp at h;exact ⟨wI aQ n,qH,by simp [ju,hl,hn],hl,h0,h.symm⟩
  ·cases h
 ·cases h
theorem aiW {r:Nat} {rt:Rt} (ho:ju live aQ r=true) (h:(S.ms r).1=some rt):wb S live aQ (iH aQ r)=some (xb live aQ rt):=by
 simp only [wb,(DR ho).2,if_true,h]
theorem JT {rt:Rt} {j:Nat} {c:C} (h:(xb live aQ rt).cells[j]?=some c):∃c0,rt.cells[j]?=some c0∧c=fixC live aQ c0:=by
 cases rt<;>simp only [xb,Rt.cells,zx,zn] at h<;>obtain ⟨c0,h1,h2⟩:=h<;>exact ⟨c0,h1,h2.symm⟩
theorem WN {n j:Nat} {c:C} {x:Value} (ho:ju live aQ n=true) (h:RC w g (n+1) j c x):RC w (g.set live aQ) (iH aQ n+1) j (fixC live aQ c) x:=by
 cases h with
 |ro k d _ h=>exact .ro _ _ _ (h.mono fun b hb=>⟨rfl,Gh.Ix.2 hb⟩)
 |own d _ h=>exact .own _ _ (h.mono (q':=[]) (fun b ρ hb=>⟨rfl,by simpa using Gh.alp hb ho⟩) (fun ρ=>by simpa using Gh.Cv ho))
 |rf r1 j1 b k c hh=>
  simp only [fixC];split
  ·rename_i hr;exact .rf _ _ _ _ _ (by rw [Gh.Cv hr];exact hh)
  ·exact .ro _ _ _ (.dead _)
theorem alq (R:Rel w0 cl0 S ts w g) (uL:∀i∈cl0.io,ju live aQ i=true∧iH aQ i=i):Rel w0 cl0 (settle live aQ S).st ts w (g.set live aQ):=by
 have fG:∀n,(settle live aQ S).st.av n=if n∈live then jG S.ms live aQ (S.av n) else .un:=fun n=>by
  simp only [AL.st,acE];split<;>rfl
 have uM:∀n,(settle live aQ S).st.ms n=(if n∈live then wb S live aQ n else none,[]):=fun n=>by
  simp only [AL.st,acE];split<;>rfl
 have hk:∀r j p,(settle live aQ S).st.ms.eC r j p=false:=fun r j p=>by simp [Ms.eC,uM]
 have aa9:∀n rt,((settle live aQ S).st.ms n).1=some rt→∃a qH,ju live aQ a=true∧iH aQ a=n∧(S.ms a).1=some qH∧rt=xb live aQ qH:=by
  intro n rt h;rw [uM] at h;simp only at h;split at h
  ·rename_i hn;exact aiX hn h
  ·cases h
 have vJ:∀r rt,ju live aQ r=true→(S.ms r).1=some rt→((settle live aQ S).st.ms (iH aQ r)).1=some (xb live aQ rt):=by
  intro r rt ho h;rw [uM];simp only [if_pos (DR ho).1,aiW ho h]
 refine { av:=fun n=>?_,rt:=fun n rt h=>?_,kI:=fun n r h=>?_,jN:=fun n rt j r j' h h1=>?_,bd:=fun b h=>R.bd b fun e=>h (by simp [Gh.set,e]),sz:=R.sz,fr:=R.fr,
          im:=fun b k=>Gh.Ix.trans (R.im b k),mi:=fun b hb h=>R.mi b hb ?_,sd:=R.sd,j8:=fun i hi=>?_ }
 ·rw [fG];split
  ·exact WL hk _ _ (R.av n)
  ·exact .un _
 ·obtain ⟨a,qH,ho,rfl,h0,rfl⟩:=aa9 n rt h;have hr:=R.rt a qH h0;cases qH with
  |aX cs=>
   intro j c hj;obtain ⟨c0,fT,rfl⟩:=JT (rt:=.aX cs) hj;rw [Gh.Cv ho];exact WN ho (hr j c0 fT)
  |bx cs=>
   obtain ⟨h1,vals,E,h2,h3,h4⟩:=hr;refine ⟨by rw [Gh.Iw ho];exact Gh.alo h1 ho,vals,E,by rw [Gh.Iw ho];exact h2,by simpa using h3,fun j c x hj hx=>?_⟩;obtain ⟨c0,fT,rfl⟩:=JT (rt:=.bx cs) hj;exact WN ho (h4 j c0 x fT hx)
 ·rw [fG] at h;split at h
  ·obtain ⟨r0,h1,h2,rfl⟩:=WM _ _ h;have h3:=R.kI n r0 h1;cases h4:(S.ms r0).1 with
   |none=>rw [h4] at h3;cases h3
   |some rt=>rw [vJ r0 rt h2 h4];rfl
  ·simp [AV.refs] at h
 ·obtain ⟨a,qH,ho,rfl,h0,rfl⟩:=aa9 n rt h;obtain ⟨c0,fT,hc⟩:=JT h1;cases c0 with
  |rf r0 j0=>
   simp only [fixC] at hc;split at hc
   ·rename_i hr;simp at hc;obtain ⟨rfl,rfl⟩:=hc;obtain ⟨cs,h2⟩:=R.jN a qH j r0 j' h0 fT;exact ⟨_,vJ r0 _ hr h2⟩
   ·cases hc
  |_=>simp [fixC] at hc
 ·simp only [Gh.set] at h;split at h
  ·rename_i e;rw [e];rfl
  ·cases h
  ·rename_i e;rw [e];rfl
  ·exact h
 ·obtain ⟨h1,h2⟩:=uL i hi;have h:=R.j8 i hi;have h3:=DR h1;rw [h2] at h3;cases h4:(S.ms i).1 with
  |none=>rw [h4] at h;exact h.elim
  |some rt=>
   have h5:=vJ i rt h1 h4;rw [h2] at h5;rw [h5];rw [h4] at h;cases rt with
   |aX cs=>intro j;rw [←h j];simp only [Gh.set,h3.2]
   |bx cs=>show g.bk (wI aQ i)=_;rw [h3.2];exact h
end
end
section
def kB (P:Program) (κ:Nat→FuncId) (N:Nat) (io:List Nat):PC→Code→Bool
 |.skip,.skip=>true
 |.ff live aQ pos draw,.region _ ops dr=>(io.all fun i=>ju live aQ i&&iH aQ i==i)&&sU P κ N ops pos ops.toList&&(match draw,dr with
  |none,false=>true
  |some ps,true=>Ju pos ops.toList ps
  |_,_=>false)
 |.seq a b,.seq a' b'=>kB P κ N io a a'&&kB P κ N io b b'
 |.cond x a b,.cond y a' b'=>eh x y&&kB P κ N io a a'&&kB P κ N io b b'
 |.uE id c,.block DG c'=>id==DG&&kB P κ N io c c'
 |.loop c,.loop c'=>kB P κ N io c c'
 |.exit id,.exit DG=>id==DG
 |.ret,.ret=>true
 |_,_=>false
def PC.keys:PC→List Nat
 |.ff _ _ pos _=>BX pos
 |.seq a b=>a.keys++b.keys
 |.cond _ a b=>a.keys++b.keys
 |.uE _ c=>c.keys
 |.loop c=>c.keys
 |_=>[]
section
variable {P:Program} {κ:Nat→FuncId} {w0:World} {cl0:fS} {Γ:Env} {N:Nat}
def Vn (w0:World) (cl0:fS) (N:Nat) (Q:Exit→Act→World→Prop):Out→Prop
 |.fail=>False
 |.norm L=>∀a w,jn w0 cl0 N L.st a w→Q .normal a w
 |.exit id L=>∀a w,jn w0 cl0 N L.st a w→Q (.exit id) a w
 |.ret L=>∀a w,jn w0 cl0 N L.st a w→Q .ret a w
theorem jn.settle {S:St} {a:Act} {w:World} {live:List Nat} {aQ:List (Nat×Nat)} (h:jn w0 cl0 N S a w) (uL:∀i∈cl0.io,ju live aQ i=true∧iH aQ i=i):jn w0 cl0 N (settle live aQ S).st a w:=by
 obtain ⟨g,R,h⟩:=h;exact ⟨_,alq R uL,h⟩
theorem sH.mono {k k':List Nat} (h:sH P κ Γ k) (hk:∀f∈k',f∈k):sH P κ Γ k':=h
theorem UD (Γ:Env) (live:List Nat) (aQ:List (Nat×Nat)) (ops:List PO) (draw:Option (List (Nat×Nat))) (L:AL):
 my Γ live aQ ops draw L=.fail∨∃S,jv Γ ops L.st=some S∧(∀ps,draw=some ps→xw (mH Γ ops L.st) ps=true)∧my Γ live aQ ops draw L=.norm (settle live aQ S):=by
 unfold my;cases hr:jv Γ ops L.st with
 |none=>left;cases draw<;>simp
 |some S=>
  cases draw with
  |none=>right;exact ⟨S,rfl,fun ps h=>(by cases h),by simp⟩
  |some ps=>
   by_cases h:(ps.isEmpty||xw (mH Γ ops L.st) ps)=true
   ·right;refine ⟨S,rfl,fun ps' h'=>?_,by simp [h]⟩;cases h';simp only [zf,zT] at h;rcases h with h|h
    ·subst h;rfl
    ·exact h
   ·left;simp only [h];rfl
theorem aky (hm:P.follows .mixedOrders=true) (fuel:Nat):∀(c:PC) (code:Code),kB P κ N cl0.io c code=true→sH P κ Γ c.keys→
 ∀(Q:Exit→Act→World→Prop) (L:AL) (a:Act) (w:World),Vn w0 cl0 N Q (dw Γ fuel c L)→jn w0 cl0 N L.st a w→code.wp P Q a w:=by
 intro c;induction c with
 |ext calls f=>
  intro code hc _ Q L a w hQ hs;simp [kB] at hc
 |skip=>
  intro code hc _ Q L a w hQ hs;cases code<;>simp [kB] at hc;exact wp_skip (hQ a w hs)
 |ff live aQ pos draw=>
  intro code hc hk Q L a w hQ hs;cases code with
  |region id ops dr=>
   simp only [kB,za] at hc;obtain ⟨⟨uL,hc⟩,hd⟩:=hc
   have agO:∀i∈cl0.io,ju live aQ i=true∧iH aQ i=i:=fun i hi=>by
    have:=zb.1 uL i hi;simpa using this
   simp only [dw] at hQ;rcases UD Γ live aQ pos draw L with h|⟨S',gC,hp,h⟩
   ·rw [h] at hQ;exact hQ.elim
   ·rw [h] at hQ;have hQ':∀a w,jn w0 cl0 N S' a w→Q .normal a w:=fun a w h=>hQ a w (h.settle agO)
    split at hd
    ·exact ans hk hc hQ' gC hs
    ·rename_i ps;exact anp hm hk hc hd hQ' gC (hp ps rfl) hs
    ·cases hd
  |_=>simp [kB] at hc
 |seq x y ihx ihy=>
  intro code hc hk Q L a w hQ hs;cases code with
  |seq x' y'=>
   simp only [kB,za] at hc;refine wp_seq (ihx x' hc.1 (hk.mono fun f hf=>by simp [PC.keys,hf]) _ L a w ?_ hs);simp only [dw] at hQ;cases h:dw Γ fuel x L with
   |fail=>rw [h] at hQ;exact hQ.elim
   |norm L'=>
    rw [h] at hQ;exact fun a w hs=>ihy y' hc.2 (hk.mono fun f hf=>by simp [PC.keys,hf]) Q L' a w hQ hs
   |exit id L'=>rw [h] at hQ;exact fun a w hs=>hQ a w hs
   |ret L'=>rw [h] at hQ;exact fun a w hs=>hQ a w hs
  |_=>simp [kB] at hc
 |cond x a1 b1 q_ vZ=>
  intro code hc hk Q L a w hQ hs;cases code with
  |cond y a' b'=>
   simp only [kB,za] at hc;simp only [dw] at hQ;cases ht:(L.st.ev x).asBool with
   |some t=>
    rw [ht] at hQ
    have hv:a.eval y=.bool t:=by
     obtain ⟨g,R,_⟩:=hs;exact E_ (en R hc.1.1).1 ht
    refine wp_cond hv ?_;cases t with
    |true=>exact q_ a' hc.1.2 (hk.mono fun f hf=>by simp [PC.keys,hf]) Q L a w (by simpa using hQ) hs
    |false=>exact vZ b' hc.2 (hk.mono fun f hf=>by simp [PC.keys,hf]) Q L a w (by simpa using hQ) hs
   |none=>rw [ht] at hQ;exact hQ.elim
  |_=>simp [kB] at hc
 |uE id c ih=>
  intro code hc hk Q L a w hQ hs;cases code with
  |block DG c'=>
   simp only [kB,za,beq_iff_eq] at hc;obtain ⟨rfl,hc⟩:=hc;refine wp_block (ih c' hc hk _ L a w ?_ hs);simp only [dw] at hQ;cases h:dw Γ fuel c L with
   |fail=>rw [h] at hQ;exact hQ.elim
   |norm L'=>rw [h] at hQ;exact fun a w hs=>hQ a w hs
   |exit i L'=>
    rw [h] at hQ;intro a w hs;simp only [Exit.inBlock];by_cases e:i=id
    ·simp only [e,if_true] at hQ ⊢;exact hQ a w hs
    ·simp only [e,if_false] at hQ ⊢;exact hQ a w hs
   |ret L'=>rw [h] at hQ;exact fun a w hs=>hQ a w hs
  |_=>simp [kB] at hc
 |loop c ih=>
  intro code hc hk Q L a w hQ hs;cases code with
  |loop c'=>
   simp only [kB] at hc;refine wp_loop_rounds fuel ?_;simp only [dw] at hQ
   have key:∀(n:Nat) (L:AL) (a:Act) (w:World),Vn w0 cl0 N Q (iter (dw Γ fuel c) n L)→jn w0 cl0 N L.st a w→Code.rounds P c' Q n a w:=by
    intro n;induction n with
    |zero=>intro L a w hQ _;exact hQ.elim
    |succ n ihn=>
     intro L a w hQ hs;rw [rounds_succ];refine ih c' hc hk _ L a w ?_ hs;simp only [iter] at hQ;cases h:dw Γ fuel c L with
     |fail=>rw [h] at hQ;exact hQ.elim
     |norm L'=>rw [h] at hQ;exact fun a w hs=>ihn L' a w hQ hs
     |exit i L'=>rw [h] at hQ;exact fun a w hs=>hQ a w hs
     |ret L'=>rw [h] at hQ;exact fun a w hs=>hQ a w hs
   exact key fuel L a w hQ hs
  |_=>simp [kB] at hc
 |exit id=>
  intro code hc _ Q L a w hQ hs;cases code with
  |exit DG=>
   simp only [kB,beq_iff_eq] at hc;subst hc;exact wp_exit (hQ a w hs)
  |_=>simp [kB] at hc
 |ret=>
  intro code hc _ Q L a w hQ hs;cases code<;>simp [kB] at hc;exact wp_ret (hQ a w hs)
end
end
section
def qe (P:Program):List PR→List ResultVar→Bool
 |[],[]=>true
 |.s n::l,.tmp t::l'=>n==t&&qe P l l'
 |.b n size agg::l,.cell a t::l'=>n==a&&(match la P t with|some (s,_)=>s==size|none=>false)&&decide (E9 P t=some agg)&&qe P l l'
 |_,_=>false
section
variable {P:Program} {κ:Nat→FuncId} {w0:World} {cl0:fS} {Γ:Env} {w:World} {g:Gh}
def wC (tmps:Array Value):ResultVar→Sem Value
 |.tmp t=>pure (tmps.getD t undef)
 |.cell a t=>do loadVar t (←asAddr (tmps.getD a undef))
theorem aco {L:AL} {tmps:Array Value} (R:Rel w0 cl0 L.st tmps w g) {r:PR} {rv:ResultVar} {rs:List PR} {pb:List ResultVar} (hc:qe P (r::rs) (rv::pb)=true) {a:AV} (h:Ct L r=some a):
 ∃v,(wC tmps rv).run P w=.ok v w∧RA w g L.st.ms a v∧qe P rs pb=true:=by
 cases r with
 |s n=>
  cases rv with
  |cell=>simp [qe] at hc
  |tmp t=>
   simp only [qe,za,beq_iff_eq] at hc;obtain ⟨rfl,hc⟩:=hc;simp only [Ct,zI] at h;subst h;exact ⟨_,by simp [wC],R.av n,hc⟩
 |b n size agg=>
  cases rv with
  |tmp=>simp [qe] at hc
  |cell ad t=>
   simp only [qe,za,beq_iff_eq,decide_eq_true_eq] at hc;obtain ⟨⟨⟨rfl,hs⟩,ha⟩,hc⟩:=hc;simp only [Ct] at h;split at h
   ·rename_i l hl;obtain ⟨b,off,xs,hv,iF,BD,fU,eA⟩:=abx R (R.av n) hl
    have dM:∀w1,(sizeOf t).run P w1=.ok size w1:=by
     intro w1;unfold la at hs;split at hs
     ·rename_i hi;split at hi
      ·rename_i i lz;simp at hi hs;simp [sizeOf,typeInfo,lz,hi.1,hs]
      ·cases hi
     ·cases hs
    have aax:(asAddr (.pointer (some ⟨b,off,none⟩))).run P w=.ok ⟨b,off,none⟩ w:=rfl;unfold E9 at ha;cases agg
    ·have pC:(isAgg t).run P w=.ok false w:=by
      cases hu:P.underlying t with
      |none=>simp [hu] at ha
      |some u=>cases u<;>simp [hu] at ha<;>simp [isAgg,run_underlying hu]
     simp only [Bool.false_eq_true,if_false] at h;split at h
     ·rename_i a1;simp at h;subst h;simp at BD;subst BD
      obtain ⟨x1,rfl⟩:∃x1,xs=[x1]:=by
       match xs,iF with
       |[x1],_=>exact ⟨x1,rfl⟩
      have h3:=eA 0 a1 x1 rfl rfl;have h4:=fU 0 x1 rfl;refine ⟨x1,?_,h3.1,hc⟩;simp only [wC];rw [hv];simp [aax,loadVar,pC,show w.cell? ⟨b,off,none⟩=some x1 from h4]
     ·cases h
    ·have pC:(isAgg t).run P w=.ok true w:=by
      cases hu:P.underlying t with
      |none=>simp [hu] at ha
      |some u=>cases u<;>simp [hu] at ha<;>simp [isAgg,run_underlying hu]
     simp at h;subst h;refine ⟨.agg xs.toArray,?_,.agg _ _ (by simp [BD,iF]) (fun i b y h5 h6=>(eA i b y h5 (by simpa using h6)).1),hc⟩;have hlc:=DN P (w:=w) (b:=b) (o:=off) iF fU;simp only [wC];rw [hv];simp [aax,loadVar,pC,dM,hlc]
   ·cases h
end
end
section
section
variable {P:Program} {κ:Nat→FuncId} {w0:World} {cl0:fS} {Γ:Env} {w:World} {g:Gh}
theorem abE {α β:Type} (f:α→Sem β) (x:α) (xs:List α) (v:β) (vs:List β) (h1:(f x).run P w=.ok v w) (h2:(xs.mapM f).run P w=.ok vs w):
 ((x::xs).mapM f).run P w=.ok (v::vs) w:=by
 simp [List.mapM_cons,h1,h2]
theorem ako {L:AL} {tmps:Array Value} {g0:Gh} (R0:Rel w0 cl0 L.st tmps w g0):∀(rs:List PR) (pb:List ResultVar) (m m':Ms) (g:Gh) (xs:List V) (n:Nat),Rel w0 cl0 { L.st with ms:=m } tmps w g→
 jA (fun _=>True) g0 L.st.ms g m→qe P rs pb=true→wk L m rs=some (xs,m')→
 ∃vs g',(pb.mapM (wC tmps)).run P w=.ok vs w∧Rel w0 cl0 { L.st with ms:=m' } tmps w g'∧sK w g' n xs vs∧jA (fun k=>n≤k) g m g' m'∧vs.length=rs.length:=by
 intro rs;induction rs with
 |nil=>
  intro pb m m' g xs n R T hc h;simp [wk] at h;obtain ⟨rfl,rfl⟩:=h;cases pb with
  |nil=>exact ⟨[],g,by simp [zV],R,trivial,.refl _ _ _,rfl⟩
  |cons rv pb=>cases rv<;>simp [qe] at hc
 |cons r rs ih=>
  intro pb m m' g xs n R T hc h;cases pb with
  |nil=>cases r<;>simp [qe] at hc
  |cons rv pb=>
   simp only [wk] at h;split at h
   ·rename_i a ha;split at h
    ·rename_i x m1 hx;split at h
     ·rename_i xs1 m2 n9;simp at h;obtain ⟨rfl,rfl⟩:=h;obtain ⟨v,hr,eA,xh⟩:=aco R0 hc ha;obtain ⟨g1,R1,T1,hv⟩:=Gi R (T.ra eA) hx n;obtain ⟨vs,g2,vR,R2,Dz,T2,hlen⟩:=ih pb m1 m2 g1 xs1 (n+x.flat.length) R1 (T.trans (T1.Bj fun _ _=>trivial)) xh n9
      exact ⟨v::vs,g2,abE _ _ _ _ _ hr vR,R2,⟨T2.rv1 (fun k h1 h2=>by omega) hv,Dz⟩,
       (T1.Bj fun k hk=>hk.1).trans (T2.Bj fun k hk=>by omega),by simp [hlen]⟩
     ·cases h
    ·cases h
   ·cases h
def E6 (I:fS) (m:Ms) (w:World) (g:Gh):Prop:=∀i∈I.io,∀rt,(m i).1=some rt→sM w g i rt∧E3 I i (some rt) g
theorem Rel.adl {S:St} {tmps:Array Value} (R:Rel w0 cl0 S tmps w g):E6 cl0 S.ms w g:=fun i hi rt h=>⟨R.rt i rt h,h▸R.j8 i hi⟩
def Gh.oL (g:Gh) (r:Nat):Gh where
 cl:=fun b=>match g.cl b with
  |.own (n+1) j ρ=>if n=r then .own 0 j ρ else .own (n+1) j ρ
  |c=>c
 hd:=fun n j ρ=>if n=0 then g.hd (r+1) j ρ else g.hd n j ρ
 bk:=g.bk
theorem Gh.W8 {r b:Nat} {k:Bool}:(g.oL r).cl b=kc k↔g.cl b=kc k:=by
 simp only [Gh.oL];cases h:g.cl b with
 |own n j ρ=>
  cases n with
  |zero=>cases k<;>simp [kc]
  |succ n=>simp only;split<;>cases k<;>simp [kc]
 |_=>exact .rfl
theorem Gh.afn {r b:Nat}:((g.oL r).cl b).eG=(g.cl b).eG:=by
 simp only [Gh.oL];cases h:g.cl b with
 |own n j ρ=>
  cases n with
  |zero=>rfl
  |succ n=>simp only;split<;>rfl
 |_=>rfl
theorem Gh.afo {r b:Nat}:(g.oL r).cl b=.no↔g.cl b=.no:=by
 simp only [Gh.oL];cases h:g.cl b with
 |own n j ρ=>
  cases n with
  |zero=>simp
  |succ n=>simp only;split<;>simp
 |_=>exact .rfl
structure EZ (I:fS) (w0 w:World) (g:Gh):Prop where
 sz:w0.heap.size≤w.heap.size
 fr:∀b,b<w0.heap.size→(I.g.cl b).eG=false→w.heap[b]?=w0.heap[b]?
 im:∀b k,g.cl b=kc k↔I.g.cl b=kc k
 bd:∀b,g.cl b≠.no→b<w.heap.size
 mi:∀b,b<w0.heap.size→(g.cl b).eG=true→(I.g.cl b).eG=true
 sd:il w0 w
theorem Rel.base {S:St} {tmps:Array Value} (R:Rel w0 cl0 S tmps w g):EZ cl0 w0 w g:=⟨R.sz,R.fr,R.im,R.bd,R.mi,R.sd⟩
theorem akl {S:St} {tmps:Array Value} (R:Rel w0 cl0 S tmps w g) {a:AV} {v:Value} {x:V} {m':Ms} (ha:RA w g S.ms a v) (h:B3 S.ms a=some (x,m')):
 ∃g',uz w g' x v∧E6 cl0 m' w g'∧EZ cl0 w0 w g':=by
 have plain:ml S.ms a=some (x,m')→(∃g',uz w g' x v∧E6 cl0 m' w g'∧EZ cl0 w0 w g'):=by
  intro h;obtain ⟨g',R',_,hv⟩:=Gi R ha h 0;refine ⟨g',?_,R'.adl,R'.base⟩;cases x with
  |one c=>exact hv
  |st cs=>exact hv
  |ptr=>exact hv.elim
  |cf=>exact hv.elim
 cases a with
 |bx r j=>
  cases j with
  |succ j=>exact plain (by simpa only [B3] using h)
  |zero=>
   simp only [B3] at h;split at h
   ·rename_i cs hm;split at h
    ·rename_i hnr;simp at h;obtain ⟨rfl,rfl⟩:=h;cases ha;obtain ⟨aD,vals,E,hw,hl,hc⟩:=R.rt r _ hm;have g9:∀b k,g.cl b=kc k→w.heap[b]?=w.heap[b]?∧(g.oL r).cl b=kc k:=fun b k h=>⟨rfl,Gh.W8.2 h⟩
     refine ⟨g.oL r,⟨r,g.bk r,vals,E,rfl,by simp [Gh.oL,aD],hw,by simpa using hl.symm,fun i c y h1 h2=>?_⟩,fun i hi rt h1=>?_,?_⟩
     ·have h3:=hc i c y h1 (by simpa using h2);rw [zk];have jI:=zb.1 hnr c (zd h1);refine h3.mono g9 (fun b ρ hb=>⟨rfl,by simp [Gh.oL,hb]⟩) (fun ρ=>by simp [Gh.oL]) (fun r1 j1 e=>?_);subst e;simp [C.dP] at jI
     ·have cE:i≠r:=fun e=>by subst e;simp [bO] at h1
      simp only [mW cE] at h1;refine ⟨(R.rt i rt h1).mono g9 (fun b j ρ hb=>⟨rfl,by simp [Gh.oL,hb,cE]⟩) (fun Fp e=>⟨rfl,rfl,?_⟩) (fun j ρ=>by simp [Gh.oL]) (fun _ _ _ _=>by simp [Gh.oL]),?_⟩
      ·have:=R.rt i rt h1;subst e;simp [Gh.oL,this.1]
      ·have h4:=R.j8 i hi;rw [h1] at h4;cases rt with
       |aX=>exact fun j=>by simp only [Gh.oL];exact h4 j
       |bx=>exact h4
     ·have B:=R.base;exact ⟨B.sz,B.fr,fun b k=>Gh.W8.trans (B.im b k),fun b h=>B.bd b (fun e=>h (Gh.afo.2 e)),fun b hb h=>B.mi b hb (by rwa [Gh.afn] at h),B.sd⟩
    ·cases h
   ·cases h
 |_=>exact plain (by simpa only [B3] using h)
theorem am0 {i i' j':Nat} {c:C}:∀(cs:List C) (j:Nat),(i',j',c)∈um i j cs→i'=i∧j≤j'∧cs[j'-j]?=some c:=by
 intro cs;induction cs with
 |nil=>intro j h;simp [um] at h
 |cons b cs ih=>
  intro j h
  have step:(i',j',c)∈um i (j+1) cs→i'=i∧j≤j'∧(b::cs)[j'-j]?=some c:=fun h=>by
   obtain ⟨h1,h2,h3⟩:=ih _ h;exact ⟨h1,by omega,by rw [show j'-j=(j'-(j+1))+1 from by omega];simpa using h3⟩
  simp only [um] at h;split at h
  ·rcases zr.1 h with h|h
   ·simp at h;obtain ⟨rfl,rfl,rfl⟩:=h;exact ⟨rfl,zt _,by simp⟩
   ·exact step h
  ·exact step h
theorem amZ {i i' j':Nat} {c:C}:∀(cs:List C) (j:Nat),(i',j',c)∈xU i j cs→i'=i∧j≤j'∧cs[j'-j]?=some c:=by
 intro cs;induction cs with
 |nil=>intro j h;simp [xU] at h
 |cons b cs ih=>
  intro j h;simp only [xU] at h;rcases zr.1 h with h|h
  ·simp at h;obtain ⟨rfl,rfl,rfl⟩:=h;exact ⟨rfl,zt _,by simp⟩
  ·obtain ⟨h1,h2,h3⟩:=ih _ h;exact ⟨h1,by omega,by rw [show j'-j=(j'-(j+1))+1 from by omega];simpa using h3⟩
theorem amY (i:Nat):∀(cs:List C) (j:Nat),(xU i j cs).length=cs.length:=by
 intro cs;induction cs with
 |nil=>intro j;rfl
 |cons c cs ih=>intro j;simp [xU,ih]
theorem akm {xs:List V} {m:Ms} {i:Nat} {cs cs0:List C} (h1:(m i).1=some (.bx cs)) (h2:xs[i]?=some (.ptr cs0)):∀(is:List Nat) {us:List (Nat×Nat×C)},se xs m is=some us→i∈is→cs.length≤us.length:=by
 intro is;induction is with
 |nil=>intro us _ hm;simp at hm
 |cons i0 is ih=>
  intro us h hm;simp only [se] at h;split at h
  ·rename_i l h3;split at h
   ·rename_i l2 h4;simp at h;subst h;rcases zr.1 hm with e|hm
    ·subst e;simp only [h1,h2,zI] at h3;subst h3;simp [amY]
    ·have:=ih h4 hm;simp only [List.length_append];omega
   ·cases h
  ·cases h
theorem akn {xs:List V} {m:Ms} {i j:Nat} {c:C}:∀(is:List Nat) {us:List (Nat×Nat×C)},se xs m is=some us→(i,j,c)∈us→i∈is∧
 ((∃cs x,(m i).1=some (.aX cs)∧xs[i]?=some x∧cs[j]?=some c∧j<x.flat.length)∨∃cs cs0,(m i).1=some (.bx cs)∧xs[i]?=some (.ptr cs0)∧cs[j]?=some c):=by
 intro is;induction is with
 |nil=>intro us h hm;simp [se] at h;subst h;simp at hm
 |cons i0 is ih=>
  intro us h hm;simp only [se] at h;split at h
  ·rename_i l h1;split at h
   ·rename_i l2 h2;simp at h;subst h;rcases zi.1 hm with hm|hm
    ·split at h1
     ·rename_i cs x e1 e2;split at h1
      ·rename_i hl;simp at h1;subst h1;obtain ⟨rfl,_,h3⟩:=am0 cs 0 hm;simp only [zP] at h3;exact ⟨by simp,.inl ⟨cs,x,e1,e2,h3,by have:=cY h3;omega⟩⟩
      ·cases h1
     ·rename_i cs cs0 e1 e2;simp at h1;subst h1;obtain ⟨rfl,_,h3⟩:=amZ cs 0 hm;simp only [zP] at h3;exact ⟨by simp,.inr ⟨cs,cs0,e1,e2,h3⟩⟩
     ·cases h1
    ·obtain ⟨h3,h4⟩:=ih h2 hm;exact ⟨by simp [h3],h4⟩
   ·cases h
  ·cases h
end
end
section
def Bv (P:Program) (κ:Nat→FuncId) (f:FuncId) (F:PF):Bool:=
 match P.funcs[f]? with
 |some fn=>match fn.body with
  |some c=>(fn.name != "runtime.NumGoroutine")&&(kB P κ fn.ntmps F.io F.body c&&qe P F.res fn.results.toList)
  |none=>false
 |none=>false
section
variable {P:Program} {κ:Nat→FuncId} {Γ:Env} {w:World} {g:Gh}
theorem abn:∀(xs:List V) (i n:Nat),(f_ i xs).get n=if i≤n then (match xs[n-i]? with|some x=>((imp n x).1,(imp n x).2)|none=>(.un,none)) else (.un,none):=by
 intro xs;induction xs with
 |nil=>intro i n;simp [f_,AL.get]
 |cons x xs ih=>
  intro i n;simp only [f_,AL.get];by_cases e:n=i
  ·subst e;simp
  ·rw [if_neg e,ih];by_cases h:i≤n
   ·rw [if_pos (by omega),if_pos h,show n-i=(n-(i+1))+1 from by omega,zK]
   ·rw [if_neg (by omega),if_neg h]
def Gh.start (g:Gh) (args:Array Value):Gh where
 cl:=g.cl
 hd:=g.hd
 bk:=fun i=>match args[i]? with
  |some (.pointer (some a))=>a.block
  |_=>0
theorem EL {args:Array Value} {r j:Nat} {c:C} {x:Value} (h:RC w g r j c x):RC w (g.start args) r j c x:=
 h.mono (fun _ _ h=>⟨rfl,h⟩) (fun _ _ h=>⟨rfl,h⟩) (fun _=>rfl) (fun _ _ _=>rfl)
theorem VI {x:V} (h:x.sN=true):x.plain=true:=by
 cases x<;>first|exact h|(simp [V.sN] at h)
theorem alG {args:Array Value} {xs:List V} {io:List Nat} (k:Nat) (dM:args.size=xs.length) (gw:∀b,g.cl b≠.no→b<w.heap.size)
 (eA:∀(i:Nat) (x:V) (v:Value),xs[i]?=some x→args[i]?=some v→pY w g i x v) (ez:xs.all V.sN=true) (uL:io.all (fun i=>((f_ 0 xs).get i).2.isSome)=true):
 Rel w ⟨g.start args,io⟩ (f_ 0 xs).st (args++zL k undef) w (g.start args):=by
 have cF:∀n,(f_ 0 xs).get n=match xs[n]? with|some x=>((imp n x).1,(imp n x).2)|none=>(.un,none):=fun n=>by rw [abn];simp
 have fG:∀n,(f_ 0 xs).st.av n=match xs[n]? with|some x=>(imp n x).1|none=>.un:=fun n=>by
  simp only [AL.st,cF];cases xs[n]?<;>rfl
 have uM:∀n,(f_ 0 xs).st.ms n=(match xs[n]? with|some x=>(imp n x).2|none=>none,[]):=fun n=>by
  simp only [AL.st,cF];cases xs[n]?<;>rfl
 have hv:∀(n:Nat) (x:V),xs[n]?=some x→∃v,args[n]?=some v∧(args++zL k undef).getD n undef=v∧pY w g n x v∧x.sN=true:=by
  intro n x hx;have ai:=cY hx;have h1:args[n]?=some args[n]:=by simp [show n<args.size from by omega]
  refine ⟨args[n],h1,?_,eA n x _ hx h1,zb.1 ez x (zd hx)⟩;rw [zo,Array.getElem?_append_left (by omega),h1];rfl
 have ap6:∀r j p,(f_ 0 xs).st.ms.eC r j p=false:=fun r j p=>by simp [Ms.eC,uM]
 have ahI:∀{r j:Nat} {x:V} {v:Value},mY w g r j x v→mY w (g.start args) r j x v:=by
  intro r j x v h;cases x with
  |one c=>exact ⟨EL h.1,h.2⟩
  |st cs=>obtain ⟨vs,h1,h2,h3⟩:=h;exact ⟨vs,h1,h2,fun i c y h4 h5=>EL (h3 i c y h4 h5)⟩
  |ptr=>exact h
  |cf=>exact h
 have fw:∀n rt,((f_ 0 xs).st.ms n).1=some rt→sM w (g.start args) n rt∧rt.cells.all C.dP=true:=by
  intro n rt h;rw [uM] at h;simp only at h;cases hx:xs[n]? with
  |none=>rw [hx] at h;cases h
  |some x=>
   rw [hx] at h;simp only at h;obtain ⟨v,kG,fO,tN,BR⟩:=hv n x hx;by_cases hp:∃cs,x=.ptr cs
   ·obtain ⟨cs,rfl⟩:=hp;simp [imp] at h;subst h;obtain ⟨b,vals,E,rfl,h2,h3,h4,h5⟩:=tN;have hb:(g.start args).bk n=b:=by simp [Gh.start,kG]
    refine ⟨⟨by rw [hb];exact h2,vals,E,by rw [hb];exact h3,by simpa using h4.symm,fun j c y h6 h7=>?_⟩,BR⟩;have:=h5 j c y h6 (by simpa using h7);rw [zk] at this;exact EL this
   ·have hn:∀cs,x≠.ptr cs:=fun cs e=>hp ⟨cs,e⟩
    rw [BU hn] at h;split at h
    ·rename_i mI;simp at h;subst h;have oO:x.ja=x.flat:=by cases x<;>first|rfl|(simp [V.sN] at BR)
     rw [oO] at mI
     have h3:mY w g (n+1) 0 x v∧(x.flat.any C.gx=true→∀(j:Nat) (y:Value),v.cells[j]?=some y→g.hd (n+1) j []=y):=by
      cases x with
      |ptr cs=>exact absurd rfl (hn cs)
      |cf=>exact tN.elim
      |one=>exact tN
      |st=>exact tN
     obtain ⟨h4,h5⟩:=yd h3.1;refine ⟨fun j c hj=>?_,Ip (VI BR) hn⟩;rw [oO] at hj;have ai:=cY hj
     have hy:v.cells[j]?=some v.cells[j]:=by
      have:j<v.cells.size:=by rw [h4] at ai;simpa using ai
      simp [this]
     have h6:=h5 j c _ hj (by rw [Array.getElem?_toList];exact hy);rw [zk] at h6;have h7:=h3.2 mI j _ hy;show RC w (g.start args) (n+1) j c (g.hd (n+1) j []);rw [h7];exact EL h6
    ·cases h
 refine { av:=fun n=>?_,rt:=fun n rt h=>(fw n rt h).1,kI:=fun n r h=>?_,jN:=fun n rt j r j' h h1=>?_,bd:=gw,sz:=zt _,fr:=fun _ _ _=>rfl,
          im:=fun _ _=>.rfl,mi:=fun _ _ h=>h,sd:=.refl _,j8:=fun i hi=>?_ }
 ·rw [fG];cases hx:xs[n]? with
  |none=>exact .un _
  |some x=>
   obtain ⟨v,kG,fO,tN,BR⟩:=hv n x hx;rw [fO];simp only;by_cases hp:∃cs,x=.ptr cs
   ·obtain ⟨cs,rfl⟩:=hp;obtain ⟨b,vals,E,rfl,_⟩:=tN;have hb:(g.start args).bk n=b:=by simp [Gh.start,kG]
    have:=RA.bx (w:=w) (g:=g.start args) (m:=(f_ 0 xs).st.ms) n 0;rw [hb] at this;exact this
   ·have hn:∀cs,x≠.ptr cs:=fun cs e=>hp ⟨cs,e⟩
    have h3:mY w g (n+1) 0 x v:=by
     cases x with
     |ptr cs=>exact absurd rfl (hn cs)
     |cf=>exact tN.elim
     |one=>exact tN.1
     |st=>exact tN.1
    obtain ⟨h4,h5⟩:=yd h3;have himp:(imp n x).1=v_ n 0 x:=by cases x<;>first|rfl|exact absurd rfl (hn _)|exact tN.elim
    rw [himp];refine F4 (ahI h3) (fun i c y h6 h7=>?_);have:=h5 i c y h6 (by simpa using h7);rw [zk] at this ⊢;exact A_ (EL this)
 ·rw [fG] at h;cases hx:xs[n]? with
  |none=>rw [hx] at h;simp [AV.refs] at h
  |some x=>
   rw [hx] at h;simp only at h;obtain ⟨v,kG,fO,tN,BR⟩:=hv n x hx;by_cases hp:∃cs,x=.ptr cs
   ·obtain ⟨cs,rfl⟩:=hp;simp [imp,AV.refs] at h;subst h;rw [uM,hx];rfl
   ·have hn:∀cs,x≠.ptr cs:=fun cs e=>hp ⟨cs,e⟩
    obtain ⟨rfl,h2⟩:=AA (VI BR) hn h;rw [uM,hx];simp only [BU hn,if_pos h2];rfl
 ·have:=zb.1 (fw n rt h).2 _ (zd h1);simp [C.dP] at this
 ·have h:=zb.1 uL i hi;have h2:((f_ 0 xs).st.ms i).1=((f_ 0 xs).get i).2:=rfl;rw [h2];cases h3:((f_ 0 xs).get i).2 with
  |none=>rw [h3] at h;cases h
  |some rt=>cases rt with
   |aX=>exact fun _=>rfl
   |bx=>rfl
def It:List Value→Value
 |[v]=>v
 |vs=>.tuple vs.toArray
theorem alb {fn:Func} {tmps:Array Value} {vs:List Value} (h:(fn.results.toList.mapM (wC tmps)).run P w=.ok vs w):
 (results fn tmps).run P w=.ok (It vs) w:=by
 have h1:(fn.results.mapM (wC tmps)).run P w=.ok vs.toArray w:=by
  rw [Array.mapM_eq_mapM_toList];simp [h]
 have h2:results fn tmps=(do
  let vs ←fn.results.mapM (wC tmps)
  pure (if h:vs.size=1 then vs[0] else .tuple vs)):=by
  unfold results;congr 1
 rw [h2];simp only [Sem.run_bind,h1,Result.andThen_ok,Sem.run_pure];congr 1
 match vs with
 |[]=>rfl
 |[v]=>rfl
 |v::v2::vs=>simp [It]
theorem aek {f:FuncId} {F:PF} (hc:Bv P κ f F=true):yg P f=true:=by
 unfold Bv at hc;unfold yg;split at hc
 ·rename_i fn qX;split at hc
  ·rename_i code tr;simp only [za] at hc;simp [qX,tr,hc.1]
  ·cases hc
 ·cases hc
theorem ae7 (hm:P.follows .mixedOrders=true) {f:FuncId} {F:PF} (hc:Bv P κ f F=true) (hk:sH P κ Γ F.body.keys) {fuel:Nat} {xs:List V} {r:V} {us:List (Nat×Nat×C)}
 (h:prun Γ fuel F xs=some (r,us)):OK P f xs r us:=by
 intro w args g dM gw eA;unfold Bv at hc;split at hc
 ·rename_i fn qX;split at hc
  ·rename_i code tr;simp only [za] at hc
   replace hc:=hc.2
   unfold prun at h;split at h
   ·rename_i jb;simp only [za] at jb;have R:=alG (io:=F.io) (fn.ntmps-args.size) dM gw eA jb.1 jb.2;refine calls_of_wp qX tr (aky (w0:=w) (cl0:=⟨g.start args,F.io⟩) (N:=fn.ntmps) hm fuel F.body code hc.1 hk _ (f_ 0 xs) _ w ?_ ⟨_,R,rfl,by simp;omega⟩)
    have key:∀L,finish F xs L=some (r,us)→∀a w',jn w ⟨g.start args,F.io⟩ fn.ntmps L.st a w'→a.defers=[]∧∃v,(results fn a.tmps).run P w'=.ok v w'∧
     ∃v1 g',(Ending.returned v)=.returned v1∧uz w' g' r v1∧Left w g xs args us w' g':=by
     intro L hf a w' hs;obtain ⟨g1,R1,FM,_⟩:=hs;refine ⟨FM,?_⟩;unfold finish at hf
     have LM:∃x m,AG F L=some (x,m)∧se xs m F.io=some us∧x=r:=by
      split at hf
      ·rename_i x m h1;split at hf
       ·rename_i us1 h2;simp at hf;obtain ⟨rfl,rfl⟩:=hf;exact ⟨x,m,h1,h2,rfl⟩
       ·cases hf
      ·cases hf
     obtain ⟨x,m,h1,h2,rfl⟩:=LM
     have ahd:∃vs g',(fn.results.toList.mapM (wC a.tmps)).run P w'=.ok vs w'∧uz w' g' x (It vs)∧E6 ⟨g.start args,F.io⟩ m w' g'∧EZ ⟨g.start args,F.io⟩ w w' g':=by
      have fu:=hc.2;unfold AG at h1;split at h1
      ·rename_i pr hpr;rw [hpr] at fu;split at h1
       ·rename_i av fG;cases qZ:fn.results.toList with
        |nil=>rw [qZ] at fu;cases pr<;>simp [qe] at fu
        |cons rv pb=>
         rw [qZ] at fu;obtain ⟨v,q1,q2,q3⟩:=aco R1 fu fG
         have:pb=[]:=by
          cases pb with
          |nil=>rfl
          |cons rv2 pb=>cases rv2<;>simp [qe] at q3
         subst this;obtain ⟨g',q4,q5,q6⟩:=akl R1 q2 h1;exact ⟨[v],g',abE _ _ _ _ _ q1 (by simp [zV]),q4,q5,q6⟩
       ·cases h1
      ·rename_i cE;split at h1
       ·rename_i ys m1 vX;simp at h1;obtain ⟨rfl,rfl⟩:=h1;obtain ⟨vs,g',q1,q2,q3,q4,q5⟩:=ako R1 F.res fn.results.toList L.st.ms m1 g1 ys 0 R1 (.refl _ _ _) fu vX
        have hlen:∀v,vs≠[v]:=by
         intro v e;subst e;simp at q5
         match hF:F.res,q5 with
         |[pr],_=>exact cE pr hF
        refine ⟨vs,g',q1,?_,q2.adl,q2.base⟩
        have:It vs=.tuple vs.toArray:=by
         match vs,hlen with
         |[],_=>rfl
         |[v],h=>exact absurd rfl (h v)
         |_::_::_,_=>rfl
        rw [this];exact ⟨vs.toArray,rfl,by simpa using q3⟩
       ·cases h1
     obtain ⟨vs,g',q1,q2,q3,q4⟩:=ahd;refine ⟨_,alb q1,_,g',rfl,q2,?_⟩;refine { sd:=q4.sd,sz:=q4.sz,fr:=q4.fr,im:=q4.im,bd:=q4.bd,mi:=q4.mi,up:=fun i j c hu=>?_ };obtain ⟨hi,h3⟩:=akn F.io h2 hu;rcases h3 with ⟨cs,x1,e1,e2,e3,e4⟩|⟨cs,cs0,e1,e2,e3⟩
     ·obtain ⟨p1,p2⟩:=q3 i hi _ e1;have ai:=cY e2;have pB:args[i]?=some args[i]:=by simp [show i<args.size from by omega]
      have F2:=eA i x1 _ e2 pB
      have xu:mY w g (i+1) 0 x1 args[i]∧(x1.flat.any C.gx=true→∀(j:Nat) (y:Value),(args[i]).cells[j]?=some y→g.hd (i+1) j []=y):=by
       cases x1 with
       |ptr cs=>simp [V.flat] at e4
       |cf=>exact F2.elim
       |one=>exact F2
       |st=>exact F2
      have mI:x1.flat.any C.gx=true:=by
       have h5:=zb.1 jb.2 i hi;rw [abn] at h5;simp only [Nat.zero_le,if_true,zP,e2] at h5;have hn:∀cs,x1≠.ptr cs:=fun cs e=>by subst e;simp [V.flat] at e4
       rw [BU hn] at h5;have oO:x1.ja=x1.flat:=by cases x1<;>first|rfl|exact F2.elim
       rw [oO] at h5;cases h6:x1.flat.any C.gx with
       |true=>rfl
       |false=>rw [h6] at h5;simp at h5
      obtain ⟨h4,h5⟩:=yd xu.1
      have hy:(args[i]).cells[j]?=some (args[i]).cells[j]:=by
       have:j<(args[i]).cells.size:=by rw [h4] at e4;simpa using e4
       simp [this]
      have hx:=p1 j c e3;have hh:g'.hd (i+1) j []=(args[i]).cells[j]:=(p2 j).trans (xu.2 mI j _ hy);rw [hh] at hx;have agw:∃v x,args[i]?=some v∧v.cells[j]?=some x∧RC w' g' (i+1) j c x:=⟨_,_,pB,hy,hx⟩;rw [e2];cases x1 with
      |ptr cs=>simp [V.flat] at e4
      |_=>exact agw
     ·obtain ⟨p1,p2⟩:=q3 i hi _ e1;have ai:=cY e2;have pB:args[i]?=some args[i]:=by simp [show i<args.size from by omega]
      obtain ⟨b,vals,E,hb,_⟩:=eA i _ _ e2 pB;rw [hb] at pB;obtain ⟨p3,iK,E',p4,p5,p6⟩:=p1
      have qq:g'.bk i=b:=by
       have:g'.bk i=(g.start args).bk i:=p2;rw [this];simp [Gh.start,pB]
      rw [qq] at p3 p4;have hj:=cY e3;have hy:iK[j]?=some iK[j]:=by simp [show j<iK.size from by omega]
      rw [e2];exact ⟨b,iK,E',_,pB,p3,p4,(by rw [p5];exact akm e1 e2 F.io h2 hi),hy,p6 j c _ e3 hy⟩
    cases hp:dw Γ fuel F.body (f_ 0 xs) with
    |fail=>rw [hp] at h;cases h
    |exit=>rw [hp] at h;cases h
    |norm L=>rw [hp] at h;exact fun a w' hs=>key L h a w' hs
    |ret L=>rw [hp] at h;exact fun a w' hs=>key L h a w' hs
   ·cases h
  ·cases hc
 ·cases hc
end
end
section
def Env.le (Γ lV:Env):Prop:=∀f xs y,Γ f xs=some y→lV f xs=some y
theorem MM {Γ lV:Env} (hle:Env.le Γ lV) {ev:PX→AV} {d:Nat} {m:Ms} {op:bP} {z:AV×Option Rt×Ms} (h:bh Γ ev d m op=some z):bh lV ev d m op=some z:=by
 cases op with
 |call f io args=>
  simp only [bh] at h ⊢;cases io with
  |nil=>
   dsimp only at h ⊢;cases h1:jU m [] 0 (args.map ev) with
   |none=>rw [h1] at h;cases h
   |some xs=>
    rw [h1] at h;dsimp only at h ⊢;cases hg:Γ f xs with
    |none=>rw [hg] at h;cases h
    |some y=>rw [hg] at h;rw [hle _ _ _ hg];exact h
  |cons i io=>
   dsimp only at h ⊢;cases h1:args.map ev with
   |nil=>rw [h1] at h;cases h
   |cons a0 rest=>
    rw [h1] at h;dsimp only at h ⊢;cases hp:a0.AZ m with
    |some y=>rw [hp] at h;cases h
    |none=>
    rw [hp] at h;dsimp only at h ⊢;cases h2:ml m a0 with
    |none=>rw [h2] at h;cases h
    |some y0=>
     obtain ⟨x0,m1⟩:=y0;rw [h2] at h;dsimp only at h ⊢;cases h3:jU m1 [] 1 rest with
     |none=>rw [h3] at h;cases h
     |some xs=>
      rw [h3] at h;dsimp only at h ⊢;cases hg:Γ f (x0::xs) with
      |none=>rw [hg] at h;cases h
      |some y=>rw [hg] at h;rw [hle _ _ _ hg];exact h
 |lj f i args=>
  simp only [bh] at h ⊢;split at h
  ·split at h
   ·split at h
    ·split at h
     ·rename_i hg;rw [hle _ _ _ hg];exact h
     ·cases h
    ·cases h
   ·cases h
  ·cases h
 |vm=>simp [bh] at h
 |_=>exact h
theorem acS {Γ lV:Env} (hle:Env.le Γ lV) {o:PO} {S S':St} (h:gz Γ o S=some S'):gz lV o S=some S':=by
 unfold gz at h ⊢;split at h
 ·split at h
  ·split at h
   ·rename_i a m jY;rw [MM hle jY];exact h
   ·rename_i a r m jY;rw [MM hle jY];exact h
   ·cases h
  ·split at h
   ·rename_i x m jY;rw [MM hle jY];exact h
   ·cases h
 ·exact h
 ·cases h
theorem UC {Γ lV:Env} (hle:Env.le Γ lV):∀{ops:List PO} {S S':St},jv Γ ops S=some S'→jv lV ops S=some S'∧mH lV ops S=mH Γ ops S:=by
 intro ops;induction ops with
 |nil=>intro S S' h;exact ⟨h,rfl⟩
 |cons o os ih=>
  intro S S' h;simp only [jv,mH] at h ⊢;split at h
  ·rename_i S1 h1;rw [acS hle h1];obtain ⟨h2,h3⟩:=ih h;exact ⟨h2,by simp only [h3]⟩
  ·cases h
theorem ak7 {Γ lV:Env} (hle:Env.le Γ lV) {live aQ ops draw} {L:AL} {o:Out} (h:my Γ live aQ ops draw L=o) (ho:o≠.fail):my lV live aQ ops draw L=o:=by
 rcases UD Γ live aQ ops draw L with h1|⟨S,h1,h2,h3⟩
 ·rw [h1] at h;exact absurd h.symm ho
 ·obtain ⟨h4,h5⟩:=UC hle h1;rw [←h];unfold my at h3 ⊢;rw [h5,h4,h1]
theorem Mx {f f':AL→Out} (hf:∀L o,f L=o→o≠.fail→f' L=o):∀(n n':Nat),n≤n'→∀L o,iter f n L=o→o≠.fail→iter f' n' L=o:=by
 intro n;induction n with
 |zero=>intro n' _ L o h ho;exact absurd h.symm ho
 |succ n ih=>
  intro n' hn L o h ho;cases n' with
  |zero=>omega
  |succ n'=>
   simp only [iter] at h ⊢;cases h1:f L with
   |fail=>rw [h1] at h;exact absurd h.symm ho
   |norm L'=>
    rw [h1] at h;rw [hf L _ h1 (by simp)];exact ih n' (by omega) L' o h ho
   |exit i L'=>rw [h1] at h;rw [hf L _ h1 (by simp)];exact h
   |ret L'=>rw [h1] at h;rw [hf L _ h1 (by simp)];exact h
theorem sf {Γ lV:Env} (hle:Env.le Γ lV) {n n':Nat} (hn:n≤n'):∀(c:PC) (L:AL) (o:Out),dw Γ n c L=o→o≠.fail→dw lV n' c L=o:=by
 intro c;induction c with
 |ext calls f=>
  intro L o h ho;simp only [dw] at h ⊢;split at h
  ·rename_i hc
   have xh:uy lV (calls L):=by
    unfold uy at hc ⊢;split at hc
    ·exact fun c hm=>hle _ _ _ (hc c hm)
    ·exact hc.elim
   rw [if_pos xh];exact h
  ·exact absurd h.symm ho
 |skip=>intro L o h _;exact h
 |ff live aQ ops draw=>intro L o h ho;exact ak7 hle h ho
 |seq a b q_ vZ=>
  intro L o h ho;simp only [dw] at h ⊢;cases h1:dw Γ n a L with
  |fail=>rw [h1] at h;exact absurd h.symm ho
  |norm L'=>rw [h1] at h;rw [q_ L _ h1 (by simp)];exact vZ L' o h ho
  |exit i L'=>rw [h1] at h;rw [q_ L _ h1 (by simp)];exact h
  |ret L'=>rw [h1] at h;rw [q_ L _ h1 (by simp)];exact h
 |cond x a b q_ vZ=>
  intro L o h ho;simp only [dw] at h ⊢;cases h1:(L.st.ev x).asBool with
  |none=>rw [h1] at h;exact absurd h.symm ho
  |some t=>
   rw [h1] at h;cases t with
   |true=>exact q_ L o h ho
   |false=>exact vZ L o h ho
 |uE id c ih=>
  intro L o h ho;simp only [dw] at h ⊢;cases h1:dw Γ n c L with
  |fail=>rw [h1] at h;exact absurd h.symm ho
  |norm L'=>rw [h1] at h;rw [ih L _ h1 (by simp)];exact h
  |exit i L'=>rw [h1] at h;rw [ih L _ h1 (by simp)];exact h
  |ret L'=>rw [h1] at h;rw [ih L _ h1 (by simp)];exact h
 |loop c ih=>
  intro L o h ho;simp only [dw] at h ⊢;exact Mx ih n n' hn L o h ho
 |exit id=>intro L o h _;exact h
 |ret=>intro L o h _;exact h
theorem ab3 {Γ lV:Env} (hle:Env.le Γ lV) {n n':Nat} (hn:n≤n') {F:PF} {xs:List V} {y} (h:prun Γ n F xs=some y):prun lV n' F xs=some y:=by
 unfold prun at h ⊢;split at h
 ·rename_i hc;rw [if_pos hc];cases h1:dw Γ n F.body (f_ 0 xs) with
  |fail=>rw [h1] at h;cases h
  |norm L'=>rw [h1] at h;rw [sf hle hn _ _ _ h1 (by simp)];exact h
  |exit i L'=>rw [h1] at h;cases h
  |ret L'=>rw [h1] at h;rw [sf hle hn _ _ _ h1 (by simp)];exact h
 ·cases h
noncomputable def Gn (T:Nat→Option PF):Nat→Env
 |0=>fun _ _=>none
 |n+1=>fun f xs=>match T f with
  |some F=>prun (Gn T n) n F xs
  |none=>none
theorem adH (T:Nat→Option PF):∀n,Env.le (Gn T n) (Gn T (n+1)):=by
 intro n;induction n with
 |zero=>intro f xs y h;cases h
 |succ n ih=>
  intro f xs y h;simp only [Gn] at h ⊢;split at h
  ·rename_i F hF;exact ab3 ih (by omega) h
  ·cases h
theorem sJ (T:Nat→Option PF) {n m:Nat} (h:n≤m):Env.le (Gn T n) (Gn T m):=by
 induction h with
 |refl=>intro f xs y h;exact h
 |step _ ih=>intro f xs y h;exact adH T _ f xs y (ih f xs y h)
open Classical in
noncomputable def Gw (T:Nat→Option PF):Env:=fun f xs=>
 if h:∃n y,Gn T n f xs=some y then some (zJ (zp h)) else none
theorem ya (T:Nat→Option PF) {f:Nat} {xs:List V} {y}:Gw T f xs=some y↔∃n,Gn T n f xs=some y:=by
 unfold Gw;constructor
 ·intro h;split at h
  ·rename_i hh;simp only [zI] at h;exact ⟨_,by rw [←h];exact zp (zp hh)⟩
  ·cases h
 ·intro ⟨n,h⟩;have hh:∃n y,Gn T n f xs=some y:=⟨n,y,h⟩;rw [dif_pos hh];have h1:=zp (zp hh);have h2:=sJ T (zq (zJ hh) n) _ _ _ h1;have h3:=sJ T (zj (zJ hh) n) _ _ _ h;rw [h2] at h3;exact h3
theorem adG (T:Nat→Option PF) (n:Nat):Env.le (Gn T n) (Gw T):=fun f xs y h=>(ya T).2 ⟨n,h⟩
section
variable {T:Nat→Option PF}
theorem ML {ev:PX→AV} {d:Nat} {m:Ms} {op:bP} {z:AV×Option Rt×Ms} (h:bh (Gw T) ev d m op=some z):∃n,bh (Gn T n) ev d m op=some z:=by
 cases op with
 |call f io args=>
  simp only [bh] at h ⊢;cases io with
  |nil=>
   dsimp only at h ⊢;cases h1:jU m [] 0 (args.map ev) with
   |none=>rw [h1] at h;cases h
   |some xs=>
    rw [h1] at h;dsimp only at h ⊢;cases hg:Gw T f xs with
    |none=>rw [hg] at h;cases h
    |some y=>
     rw [hg] at h;obtain ⟨n,hg⟩:=(ya T).1 hg;exact ⟨n,by rw [hg];exact h⟩
  |cons i io=>
   dsimp only at h ⊢;cases h1:args.map ev with
   |nil=>rw [h1] at h;cases h
   |cons a0 rest=>
    rw [h1] at h;dsimp only at h ⊢;cases hp:a0.AZ m with
    |some y=>rw [hp] at h;cases h
    |none=>
    rw [hp] at h;dsimp only at h ⊢;cases h2:ml m a0 with
    |none=>rw [h2] at h;cases h
    |some y0=>
     obtain ⟨x0,m1⟩:=y0;rw [h2] at h;dsimp only at h ⊢;cases h3:jU m1 [] 1 rest with
     |none=>rw [h3] at h;cases h
     |some xs=>
      rw [h3] at h;dsimp only at h ⊢;cases hg:Gw T f (x0::xs) with
      |none=>rw [hg] at h;cases h
      |some y=>
       rw [hg] at h;obtain ⟨n,hg⟩:=(ya T).1 hg;exact ⟨n,by rw [hg];exact h⟩
 |lj f i args=>
  simp only [bh] at h ⊢;split at h
  ·split at h
   ·split at h
    ·split at h
     ·rename_i hg;obtain ⟨n,hg⟩:=(ya T).1 hg;exact ⟨n,by rw [hg];exact h⟩
     ·cases h
    ·cases h
   ·cases h
  ·cases h
 |vm=>simp [bh] at h
 |_=>exact ⟨0,h⟩
theorem alJ {o:PO} {S S':St} (h:gz (Gw T) o S=some S'):∃n,gz (Gn T n) o S=some S':=by
 unfold gz at h ⊢;split at h
 ·split at h
  ·split at h
   ·rename_i a m jY;obtain ⟨n,jY⟩:=ML jY;exact ⟨n,by rw [jY];exact h⟩
   ·rename_i a r m jY;obtain ⟨n,jY⟩:=ML jY;exact ⟨n,by rw [jY];exact h⟩
   ·cases h
  ·split at h
   ·rename_i x m jY;obtain ⟨n,jY⟩:=ML jY;exact ⟨n,by rw [jY];exact h⟩
   ·cases h
 ·exact ⟨0,h⟩
 ·cases h
theorem ak4:∀{ops:List PO} {S S':St},jv (Gw T) ops S=some S'→∃n,jv (Gn T n) ops S=some S':=by
 intro ops;induction ops with
 |nil=>intro S S' h;exact ⟨0,h⟩
 |cons o os ih=>
  intro S S' h;simp only [jv] at h ⊢;split at h
  ·rename_i S1 h1;obtain ⟨n1,h1⟩:=alJ h1;obtain ⟨n2,h2⟩:=ih h;refine ⟨max n1 n2,?_⟩;rw [acS (sJ T (zq n1 n2)) h1];exact (UC (sJ T (zj n1 n2)) h2).1
  ·cases h
theorem ak6 {live aQ ops draw} {L:AL} {o:Out} (h:my (Gw T) live aQ ops draw L=o) (ho:o≠.fail):∃n,my (Gn T n) live aQ ops draw L=o:=by
 rcases UD (Gw T) live aQ ops draw L with h1|⟨S,h1,h2,h3⟩
 ·rw [h1] at h;exact absurd h.symm ho
 ·obtain ⟨n,h4⟩:=ak4 h1;refine ⟨n,?_⟩;obtain ⟨h5,h6⟩:=UC (adG T n) h4;rw [←h];unfold my at h3 ⊢;rw [←h6,h4,h1]
theorem aiC {c:PC} {fuel:Nat} (hf:∀L o,dw (Gw T) fuel c L=o→o≠.fail→∃n,dw (Gn T n) fuel c L=o):∀(k:Nat) L o,iter (dw (Gw T) fuel c) k L=o→o≠.fail→∃n,iter (dw (Gn T n) fuel c) k L=o:=by
 intro k;induction k with
 |zero=>intro L o h ho;exact absurd h.symm ho
 |succ k ih=>
  intro L o h ho;simp only [iter] at h ⊢;cases h1:dw (Gw T) fuel c L with
  |fail=>rw [h1] at h;exact absurd h.symm ho
  |norm L'=>
   rw [h1] at h;obtain ⟨n1,h1⟩:=hf L _ h1 (by simp);obtain ⟨n2,h2⟩:=ih L' o h ho;refine ⟨max n1 n2,?_⟩;rw [sf (sJ T (zq n1 n2)) (zt _) _ _ _ h1 (by simp)];exact Mx (fun L o=>sf (sJ T (zj n1 n2)) (zt _) c L o) k k (zt _) L' o h2 ho
  |exit i L'=>rw [h1] at h;obtain ⟨n1,h1⟩:=hf L _ h1 (by simp);exact ⟨n1,by rw [h1];exact h⟩
  |ret L'=>rw [h1] at h;obtain ⟨n1,h1⟩:=hf L _ h1 (by simp);exact ⟨n1,by rw [h1];exact h⟩
theorem aeg {l:Option (List (Nat×List V×V))} (h:uy (Gw T) l):∃n,uy (Gn T n) l:=by
 cases l with
 |none=>exact h.elim
 |some cs=>
  simp only [uy] at h ⊢;induction cs with
  |nil=>exact ⟨0,fun c hc=>by simp at hc⟩
  |cons c cs ih=>
   obtain ⟨n1,h1⟩:=ih fun c hc=>h c (zC _ hc)
   obtain ⟨n2,h2⟩:=(ya T).1 (h c (by simp));refine ⟨max n1 n2,fun d hd=>?_⟩;rcases zr.1 hd with rfl|hd
   ·exact sJ T (zj n1 n2) _ _ _ h2
   ·exact sJ T (zq n1 n2) _ _ _ (h1 d hd)
theorem abV {fuel:Nat}:∀(c:PC) (L:AL) (o:Out),dw (Gw T) fuel c L=o→o≠.fail→∃n,dw (Gn T n) fuel c L=o:=by
 intro c;induction c with
 |ext calls f=>
  intro L o h ho;simp only [dw] at h ⊢;split at h
  ·rename_i hc;obtain ⟨n,hn⟩:=aeg hc;exact ⟨n,by rw [if_pos hn];exact h⟩
  ·exact absurd h.symm ho
 |skip=>intro L o h _;exact ⟨0,h⟩
 |ff live aQ ops draw=>intro L o h ho;exact ak6 h ho
 |seq a b q_ vZ=>
  intro L o h ho;simp only [dw] at h ⊢;cases h1:dw (Gw T) fuel a L with
  |fail=>rw [h1] at h;exact absurd h.symm ho
  |norm L'=>
   rw [h1] at h;obtain ⟨n1,h1⟩:=q_ L _ h1 (by simp);obtain ⟨n2,h2⟩:=vZ L' o h ho;refine ⟨max n1 n2,?_⟩;rw [sf (sJ T (zq n1 n2)) (zt _) _ _ _ h1 (by simp)];exact sf (sJ T (zj n1 n2)) (zt _) _ _ _ h2 ho
  |exit i L'=>rw [h1] at h;obtain ⟨n1,h1⟩:=q_ L _ h1 (by simp);exact ⟨n1,by rw [h1];exact h⟩
  |ret L'=>rw [h1] at h;obtain ⟨n1,h1⟩:=q_ L _ h1 (by simp);exact ⟨n1,by rw [h1];exact h⟩
 |cond x a b q_ vZ=>
  intro L o h ho;simp only [dw] at h ⊢;cases h1:(L.st.ev x).asBool with
  |none=>rw [h1] at h;exact absurd h.symm ho
  |some t=>
   rw [h1] at h;cases t with
   |true=>exact q_ L o h ho
   |false=>exact vZ L o h ho
 |uE id c ih=>
  intro L o h ho;simp only [dw] at h ⊢;cases h1:dw (Gw T) fuel c L with
  |fail=>rw [h1] at h;exact absurd h.symm ho
  |norm L'=>rw [h1] at h;obtain ⟨n1,h1⟩:=ih L _ h1 (by simp);exact ⟨n1,by rw [h1];exact h⟩
  |exit i L'=>rw [h1] at h;obtain ⟨n1,h1⟩:=ih L _ h1 (by simp);exact ⟨n1,by rw [h1];exact h⟩
  |ret L'=>rw [h1] at h;obtain ⟨n1,h1⟩:=ih L _ h1 (by simp);exact ⟨n1,by rw [h1];exact h⟩
 |loop c ih=>
  intro L o h ho;simp only [dw] at h ⊢;exact aiC ih fuel L o h ho
 |exit id=>intro L o h _;exact ⟨0,h⟩
 |ret=>intro L o h _;exact ⟨0,h⟩
theorem adI {f:Nat} {F:PF} {fuel:Nat} {xs:List V} {y} (hT:T f=some F) (h:prun (Gw T) fuel F xs=some y):Gw T f xs=some y:=by
 refine (ya T).2 ?_
 have h':∃n,prun (Gn T n) fuel F xs=some y:=by
  unfold prun at h ⊢;split at h
  ·rename_i hc;cases h1:dw (Gw T) fuel F.body (f_ 0 xs) with
   |fail=>rw [h1] at h;cases h
   |norm L'=>rw [h1] at h;obtain ⟨n,h1⟩:=abV _ _ _ h1 (by simp);exact ⟨n,by rw [if_pos hc,h1];exact h⟩
   |exit i L'=>rw [h1] at h;cases h
   |ret L'=>rw [h1] at h;obtain ⟨n,h1⟩:=abV _ _ _ h1 (by simp);exact ⟨n,by rw [if_pos hc,h1];exact h⟩
  ·cases h
 obtain ⟨n,h'⟩:=h';refine ⟨max n fuel+1,?_⟩;simp only [Gn,hT];exact ab3 (sJ T (zq n fuel)) (zj n fuel) h'
theorem adK {P:Program} {κ:Nat→FuncId} (hκ:κ=mh) (hm:P.follows .mixedOrders=true)
 (hc:∀f F,T f=some F→Bv P κ (κ f) F=true∨(yg P (κ f)=true∧∀Γ fuel xs r us,wU P κ Γ→prun Γ fuel F xs=some (r,us)→OK P (κ f) xs r us)):
 ∀f xs r us,Gw T f xs=some (r,us)→OK P (κ f) xs r us:=by
 have key:∀n,wU P κ (Gn T n):=by
  intro n;induction n with
  |zero=>exact ⟨hκ,fun f xs r us h=>(by cases h),fun f xs y h=>(by cases h)⟩
  |succ n ih=>
   refine ⟨hκ,fun f xs r us h=>?_,fun f xs y h=>?_⟩
   ·simp only [Gn] at h;split at h
    ·rename_i F hF;rcases hc f F hF with hc|hc
     ·exact ae7 hm hc ih h
     ·exact hc.2 _ _ _ _ _ ih h
    ·cases h
   ·simp only [Gn] at h;split at h
    ·rename_i F hF;rcases hc f F hF with hc|hc
     ·exact aek hc
     ·exact hc.1
    ·cases h
 intro f xs r us h;obtain ⟨n,h⟩:=(ya T).1 h;exact (key n).ok f xs r us h
end
end
section
section
variable {Γ:Env} {Q:Out→Prop} {L:AL}
def Wp (Γ:Env) (c:PC) (Q:Out→Prop) (L:AL):Prop:=∃fuel o,dw Γ fuel c L=o∧o≠.fail∧Q o
theorem Env.le_refl (Γ:Env):Env.le Γ Γ:=fun _ _ _ h=>h
theorem Wp.mono {c:PC} {Q':Out→Prop} (h:Wp Γ c Q L) (hq:∀o,o≠.fail→Q o→Q' o):Wp Γ c Q' L:=by
 obtain ⟨n,o,h1,h2,h3⟩:=h;exact ⟨n,o,h1,h2,hq o h2 h3⟩
def wH (Γ:Env) (b:PC) (Q:Out→Prop):Out→Prop
 |.norm L'=>Wp Γ b Q L'
 |o=>Q o
def rK (id:Nat) (Q:Out→Prop):Out→Prop
 |.exit i L'=>if i=id then Q (.norm L') else Q (.exit i L')
 |o=>Q o
def t_ (Q:Out→Prop):Out→Prop
 |.fail=>False
 |o=>Q o
theorem anq {calls:AL→Option (List (Nat×List V×V))} {f:AL→Option AL} {L':AL} (hc:uy Γ (calls L)) (hf:f L=some L') (h:Q (.norm L')):Wp Γ (.ext calls f) Q L:=
 ⟨0,.norm L',by simp only [dw];rw [if_pos hc,hf],by simp,h⟩
theorem wp_skip (h:Q (.norm L)):Wp Γ .skip Q L:=⟨0,_,rfl,by simp [dw],h⟩
theorem wp_exit {id:Nat} (h:Q (.exit id L)):Wp Γ (.exit id) Q L:=⟨0,_,rfl,by simp [dw],h⟩
theorem wp_ret (h:Q (.ret L)):Wp Γ .ret Q L:=⟨0,_,rfl,by simp [dw],h⟩
theorem wp_seq {a b:PC} (h:Wp Γ a (wH Γ b Q) L):Wp Γ (.seq a b) Q L:=by
 obtain ⟨n,o,h1,h2,h3⟩:=h;cases o with
 |fail=>exact absurd rfl h2
 |norm L'=>
  obtain ⟨m,o',h4,h5,h6⟩:=h3;refine ⟨max n m,o',?_,h5,h6⟩;simp only [dw];rw [sf (Env.le_refl Γ) (zq n m) _ _ _ h1 h2];exact sf (Env.le_refl Γ) (zj n m) _ _ _ h4 h5
 |exit i L'=>exact ⟨n,_,by simp only [dw];rw [h1],h2,h3⟩
 |ret L'=>exact ⟨n,_,by simp only [dw];rw [h1],h2,h3⟩
theorem uq {id:Nat} {c:PC} (h:Wp Γ c (rK id Q) L):Wp Γ (.uE id c) Q L:=by
 obtain ⟨n,o,h1,h2,h3⟩:=h;cases o with
 |fail=>exact absurd rfl h2
 |norm L'=>exact ⟨n,_,by simp only [dw];rw [h1],h2,h3⟩
 |exit i L'=>
  simp only [rK] at h3;by_cases e:i=id
  ·rw [if_pos e] at h3;exact ⟨n,_,by simp only [dw];rw [h1];simp only [if_pos e],by simp,h3⟩
  ·rw [if_neg e] at h3;exact ⟨n,_,by simp only [dw];rw [h1];simp only [if_neg e],by simp,h3⟩
 |ret L'=>exact ⟨n,_,by simp only [dw];rw [h1],h2,h3⟩
theorem wp_cond {x:PX} {a b:PC} {t:Bool} (ht:(L.st.ev x).asBool=some t) (h1:t=true→Wp Γ a Q L) (h2:t=false→Wp Γ b Q L):Wp Γ (.cond x a b) Q L:=by
 cases t with
 |true=>
  obtain ⟨n,o,h1,h2,h3⟩:=h1 rfl;exact ⟨n,o,by simp only [dw];rw [ht];exact h1,h2,h3⟩
 |false=>
  obtain ⟨n,o,h1,h2,h3⟩:=h2 rfl;exact ⟨n,o,by simp only [dw];rw [ht];exact h1,h2,h3⟩
theorem anr {live aQ ops draw} (h:t_ Q (my Γ live aQ ops draw L)):Wp Γ (.ff live aQ ops draw) Q L:=by
 cases ho:my Γ live aQ ops draw L with
 |fail=>rw [ho] at h;exact h.elim
 |_=>rw [ho] at h;exact ⟨0,_,by simp only [dw];exact ho,by simp,h⟩
theorem wp_loop {c:PC} (h:Wp Γ c (wH Γ (.loop c) Q) L):Wp Γ (.loop c) Q L:=by
 obtain ⟨n,o,h1,h2,h3⟩:=h;cases o with
 |fail=>exact absurd rfl h2
 |norm L'=>
  obtain ⟨m,o',h4,h5,h6⟩:=h3;refine ⟨max n m+1,o',?_,h5,h6⟩;simp only [dw,iter];rw [sf (Env.le_refl Γ) (show n≤max n m+1 by omega) _ _ _ h1 h2];simp only [dw] at h4;exact Mx (sf (Env.le_refl Γ) (by omega) c) _ _ (zj n m) _ _ h4 h5
 |exit i L'=>exact ⟨n+1,_,by simp only [dw,iter];rw [sf (Env.le_refl Γ) (show n≤n+1 by omega) _ _ _ h1 h2],h2,h3⟩
 |ret L'=>exact ⟨n+1,_,by simp only [dw,iter];rw [sf (Env.le_refl Γ) (show n≤n+1 by omega) _ _ _ h1 h2],h2,h3⟩
def yp (F:PF) (xs:List V) (y:V×List (Nat×Nat×C)):Out→Prop
 |.ret L|.norm L=>finish F xs L=some y
 |_=>False
end
theorem oD {T:Nat→Option PF} {f:Nat} {F:PF} {xs:List V} {y} (hT:T f=some F)
 (hc:(xs.all V.sN&&F.io.all (fun i=>((f_ 0 xs).get i).2.isSome))=true)
 (h:Wp (Gw T) F.body (yp F xs y) (f_ 0 xs)):Gw T f xs=some y:=by
 obtain ⟨n,o,h1,h2,h3⟩:=h;refine adI (fuel:=n) hT ?_;unfold prun;rw [if_pos hc,h1];cases o with
 |fail=>exact absurd rfl h2
 |norm L=>exact h3
 |ret L=>exact h3
 |exit i L=>exact h3.elim
end
end Go.Proofs.YtohlfelngklcfaaGreat.OM
