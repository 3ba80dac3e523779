/- A part of the proof. -/
import Derived.Test.YtohlfelngklcfaaGreatF1
import Derived.Test.YtohlfelngklcfaaGreatF0
import Derived.LoopN
set_option linter.all false
namespace Go.Proofs.YtohlfelngklcfaaGreat.OM
open List renaming mem_of_getElem?→za,all_eq_true→zb,mem_map→zh,mem_append→zi,mem_range→zk,getElem?_map→zo,mem_flatMap→zp,map_congr_left→zq,mem_cons→zr,any_eq_true→zu,mem_cons_of_mem→zw,mem_filter→zx,getElem?_cons_zero→zz,getElem?_set_self→zA,getElem?_set_ne→zC,range→zD,filter_eq_self→zF,getD→zH,getElem?_append_left→zJ,pairwise_lt_range→zL,mem_iff_getElem?→zM,contains_iff_mem→zN,pairwise_cons→zQ,contains_nil→zR,length_cons→zU,map_cons→zW
open Bool renaming and_eq_true→zd,or_eq_true→zg,false_eq_true→zt,not_eq_false'→zy,not_eq_true'→zI
open Nat renaming zero_add→ze,lt_of_lt_of_le→zn,add_comm→zP
open Option.some renaming injEq→zf
open Option renaming map_eq_some_iff→zj,mem_toList→zS,getD_some→zT
open _root_.Array renaming getD_eq_getD_getElem?→zm,eq_empty_of_size_eq_zero→zB,length_toList→zG,getElem?_eq_none→zK
open List.Pairwise renaming filter→zO
open List.cons renaming injEq→zV
section
section
variable {P:Program} {κ:Nat→FuncId} {w0:World} {cl0:dv} {Γ:Env} {w:World} {g:Gh}
theorem yr {S:St} {tmps:Array Value} (R:Rel w0 cl0 S tmps w g) {a:AV} {v:Value} {x:V} {m':Ms} (ha:RA w g S.ms a v) (h:ie S.ms a=some (x,m')) (q:Nat):
 ∃g',Rel w0 cl0 { S with ms:=m' } tmps w g'∧fl (fun k=>q≤k∧k<q+x.flat.length) g S.ms g' m'∧iM w g' 0 q x v:=by
 by_cases hn:∃cs,a=.agg cs
 ·obtain ⟨cs,rfl⟩:=hn;simp only [ie] at h;split at h
  ·rename_i l m1 h1;simp at h;obtain ⟨rfl,rfl⟩:=h;cases ha with
   |agg _ vs hl ch=>
    obtain ⟨g',R',T,xM,hc⟩:=BH cs R (vals:=vs.toList) q (by simpa using hl) (fun i a x h2 h3=>ch i a x h2 (by simpa using h3)) h1;refine ⟨g',R',T.sD (fun k hk=>by simp only [V.flat,xM];exact hk),vs,rfl,by simp [xM,hl],fun i c x h2 h3=>hc i c x h2 h3⟩
  ·cases h
 ·have h1:∃c,eH S.ms a=some (c,m')∧x=.one c:=by
   cases a with
   |agg cs=>exact absurd ⟨cs,rfl⟩ hn
   |_=>
    simp only [ie] at h;split at h
    ·rename_i c m1 h1;simp at h;obtain ⟨rfl,rfl⟩:=h;exact ⟨c,h1,rfl⟩
    ·cases h
  obtain ⟨c,h1,rfl⟩:=h1;obtain ⟨g',R',T,hc⟩:=uh R ha h1 q
  have hv:a.isVal=true:=by
   cases a with
   |un=>simp [eH] at h1
   |a_=>simp [eH] at h1
   |v k d=>cases d<;>first|rfl|(simp [eH] at h1)
   |_=>rfl
  exact ⟨g',R',T.sD (fun k hk=>by subst hk;simp [V.flat]),hc,(val_one ha hv fun cs e=>hn ⟨cs,e⟩).1⟩
theorem fl.VO {N:Nat→Prop} {g g':Gh} {m m':Ms} (h:fl N g m g' m') {x:V} {v:Value} {q:Nat} (hq:∀k,q≤k→k<q+x.flat.length→¬N k) (hx:iM w g 0 q x v):iM w g' 0 q x v:=by
 cases x with
 |one c=>exact ⟨h.rc (hq q (Nat.le_refl _) (by simp [V.flat])) hx.1,hx.2⟩
 |st cs=>
  obtain ⟨vs,rfl,hl,hc⟩:=hx;exact ⟨vs,rfl,hl,fun i c x h1 h2=>h.rc (hq _ (by omega) (by have:=bE h1;simp only [V.flat];omega)) (hc i c x h1 h2)⟩
 |ptr=>exact hx.elim
 |a_=>exact hx.elim
theorem JL {m m':Ms} {a:AV} {c:C} (h:eH m a=some (c,m')):c.bA=true:=by
 unfold eH at h;split at h
 ·cases h
 ·simp at h;obtain ⟨rfl,_⟩:=h;rfl
 ·simp at h;obtain ⟨rfl,_⟩:=h;rfl
 ·split at h
  ·simp at h;obtain ⟨rfl,_⟩:=h;rfl
  ·cases h
 ·split at h
  ·simp at h;obtain ⟨rfl,_⟩:=h;rfl
  ·cases h
 ·cases h
theorem Pe:∀(as:List AV) {m m':Ms} {cs:List C},fm m as=some (cs,m')→cs.all C.bA=true:=by
 intro as;induction as with
 |nil=>intro m m' cs h;simp [fm] at h;obtain ⟨rfl,_⟩:=h;rfl
 |cons a as ih=>
  intro m m' cs h;simp only [fm] at h;split at h
  ·rename_i c m1 h1;split at h
   ·rename_i jt m2 h2;simp at h;obtain ⟨rfl,_⟩:=h;simp [JL h1,ih h2]
   ·cases h
  ·cases h
theorem Nc {m m':Ms} {a:AV} {x:V} (h:ie m a=some (x,m')):x.flat.all C.bA=true∧(∀cs,x≠.ptr cs)∧(∀cs,x≠.a_ cs):=by
 unfold ie at h;split at h
 ·split at h
  ·rename_i h1;simp at h;obtain ⟨rfl,_⟩:=h;exact ⟨Pe _ h1,by simp,by simp⟩
  ·cases h
 ·split at h
  ·rename_i h1;simp at h;obtain ⟨rfl,_⟩:=h;exact ⟨by simp [V.flat,JL h1],by simp,by simp⟩
  ·cases h
theorem Kb {m:Ms} {a:AV} {c:C} (h:kA m a=some c):c.gB=true:=by
 unfold kA at h;split at h<;>first|(cases h;done)|(simp at h;subst h;rfl)|(split at h<;>first|(cases h;done)|(simp at h;subst h;rfl)|(split at h<;>first|(cases h;done)|(simp at h;subst h;rfl)))
theorem Pt {m:Ms}:∀(as:List AV) {cs:List C},kB m as=some cs→cs.all C.gB=true:=by
 intro as;induction as with
 |nil=>intro cs h;simp [kB] at h;subst h;rfl
 |cons a as ih=>
  intro cs h;simp only [kB] at h;split at h
  ·rename_i c h1;split at h
   ·rename_i jt h2;simp at h;subst h;simp [Kb h1,ih h2]
   ·cases h
  ·cases h
theorem wY {m:Ms} {a:AV} {x:V} (h:jq m false a=some x):x.flat.all C.gB=true:=by
 cases a with
 |agg cs=>
  simp only [jq,zt,if_false] at h;split at h
  ·rename_i h1;simp at h;subst h;exact Pt _ h1
  ·cases h
 |_=>
  simp only [jq,zt,if_false] at h;split at h
  ·rename_i h1;simp at h;subst h;simp [V.flat,Kb h1]
  ·cases h
theorem iM.rJ {g':Gh} {r j:Nat} {x:V} {v:Value} (hk:∀b k,g.cl b=kc k→g'.cl b=kc k) (hx:x.flat.all C.gB=true) (h:iM w g r j x v):iM w g' r j x v:=by
 have hc:∀{n:Nat} {c:C} {y:Value},c.gB=true→RC w g r n c y→RC w g' r n c y:=fun {n c y} h1 h2=>by
  cases h2 with
  |ro k d _ h3=>exact .ro _ _ _ (h3.mono fun b hb=>⟨rfl,hk b _ hb⟩)
  |own=>simp [C.gB] at h1
  |rf=>simp [C.gB] at h1
 cases x with
 |one c=>exact ⟨hc (by simpa [V.flat] using hx) h.1,h.2⟩
 |st cs=>
  obtain ⟨vs,rfl,hl,h2⟩:=h;exact ⟨vs,rfl,hl,fun i c y h3 h4=>hc (zb.1 hx c (za h3)) (h2 i c y h3 h4)⟩
 |ptr=>exact h.elim
 |a_=>exact h.elim
theorem jb.rJ {g':Gh} {i:Nat} {x:V} {v:Value} (hk:∀b k,g.cl b=kc k→g'.cl b=kc k) (hx:x.flat.all C.gB=true) (hp:∀cs,x≠.ptr cs) (h:jb w g i x v):jb w g' i x v:=by
 have e_:∀x:V,x.flat.all C.gB=true→¬x.flat.any C.cY=true:=fun x h1 h2=>by
  obtain ⟨c,h3,h4⟩:=zu.1 h2;have:=zb.1 h1 c h3;cases c<;>simp [C.gB,C.cY] at this h4
 cases x with
 |one c=>exact ⟨h.1.rJ hk hx,fun h2=>absurd h2 (e_ _ hx)⟩
 |st cs=>exact ⟨h.1.rJ hk hx,fun h2=>absurd h2 (e_ _ hx)⟩
 |ptr cs=>exact absurd rfl (hp cs)
 |a_=>exact h.elim
theorem wZ {m:Ms} {a:AV} {x:V} (h:jq m false a=some x):∀cs,x≠.ptr cs:=by
 intro cs e;subst e;cases a with
 |_=>
  simp only [jq,zt,if_false] at h;split at h<;>simp at h
theorem w7 {m:Ms}:∀(as:List AV) (xs:List V) (i:Nat),dW m [] i as=some xs→∀(k:Nat) (x:V),xs[k]?=some x→∃a,jq m false a=some x:=by
 intro as;induction as with
 |nil=>intro xs i h k x hx;simp [dW] at h;subst h;simp at hx
 |cons a as ih=>
  intro xs i h k x hx;simp only [dW,zR] at h;split at h
  ·rename_i y h1;split at h
   ·rename_i ys h2;simp at h;subst h;cases k with
    |zero=>simp at hx;subst hx;exact ⟨a,h1⟩
    |succ k=>exact ih ys _ h2 k x (by simpa using hx)
   ·cases h
  ·cases h
theorem RE {x:V} {v:Value} {X:Nat→Value} {lent:Bool} (hn:x.flat.all C.bA=true) (hX:∀j y,v.cells[j]?=some y→X j=y) (h:iM w g 0 0 x v):jb w (g.gi X lent) 0 x v:=by
 have hc:∀{n:Nat} {c:C} {y:Value},c.bA=true→X n=y→RC w g 0 n c y→RC w (g.gi X lent) 1 n c y:=fun {n c y} h1 hy h2=>by
  cases h2 with
  |ro k d _ h3=>exact .ro _ _ _ (h3.mono fun b hb=>⟨rfl,Gh.QL hb⟩)
  |own d _ h3=>
   refine .own _ _ (Hd.place (w:=w) (g:=g) (.inl h3) (fun b ρ hb=>⟨rfl,by simp [Gh.gi,hb]⟩) (fun ρ g7=>?_) ?_)
   ·simp [Gh.gi,g7]
   ·simp [Gh.gi,hy]
  |rf=>simp [C.bA] at h1
 cases x with
 |one c=>
  refine ⟨⟨hc (by simpa [V.flat] using hn) (hX 0 v (by rw [h.2];rfl)) h.1,h.2⟩,fun _ j y hy=>?_⟩;simp [Gh.gi,hX j y hy]
 |st cs=>
  obtain ⟨vs,rfl,hl,h2⟩:=h;refine ⟨⟨vs,rfl,hl,fun i c y h3 h4=>?_⟩,fun _ j y hy=>?_⟩
  ·refine hc (zb.1 hn c (za h3)) (hX _ y ?_) (h2 i c y h3 h4);rw [ze];simpa [Value.cells] using h4
  ·simp [Gh.gi,hX j y hy]
 |ptr=>exact h.elim
 |a_=>exact h.elim
theorem aad {m m':Ms} {c:C} {a:AV} (h:nu m c a=some m'):(∀r,(m' r).1.isSome=(m r).1.isSome)∧c.bA=true:=by
 unfold nu at h;split at h
 ·rename_i r j p;split at h
  ·split at h
   ·rename_i bI;obtain ⟨nK,rt,d0,h1,h2,h3⟩:=gl bI;simp only [Ms.putAt,h1,h2] at h;simp at h;subst h;refine ⟨fun r1=>?_,rfl⟩;by_cases e:r1=r
    ·subst e;simp [g_,h1]
    ·simp [fk e]
   ·cases h
  ·cases h
 ·split at h
  ·simp at h;subst h;exact ⟨fun _=>rfl,rfl⟩
  ·cases h
 ·cases h
theorem OO {as:List AV}:∀(us:List (Nat×Nat×C)) {lo:Nat} {m m':Ms},jN as lo m us=some m'→(∀r,(m' r).1.isSome=(m r).1.isSome)∧∀i j c,(i,j,c)∈us→i=0∧c.bA=true:=by
 intro us;induction us with
 |nil=>intro lo m m' h;simp [jN] at h;subst h;exact ⟨fun _=>rfl,fun i j c h=>by simp at h⟩
 |cons u us ih=>
  intro lo m m' h;obtain ⟨i,j,c⟩:=u;simp only [jN] at h;split at h
  ·rename_i Dk;split at h
   ·split at h
    ·rename_i h1;obtain ⟨k1,k2⟩:=aad h1;obtain ⟨k3,k4⟩:=ih h;refine ⟨fun r=>(k3 r).trans (k1 r),fun i' j' c' hm=>?_⟩;rcases zr.1 hm with e|hm
     ·simp only [Prod.mk.injEq] at e;obtain ⟨rfl,rfl,rfl⟩:=e;exact ⟨Dk.1,k2⟩
     ·exact k4 i' j' c' hm
    ·cases h
   ·cases h
  ·cases h
end
end
section
section
variable {P:Program} {κ:Nat→FuncId} {w0:World} {cl0:dv} {S:St} {w:World} {g:Gh} {a:Act} {Γ:Env} {d:Nat}
theorem BT {m1 m2:Ms} {g1:Gh} (R1:Rel w0 cl0 { S with ms:=m1 } a.tmps w g1) {a0:AV} {v0:Value} {x0:V} {xs:List V} {args:Array Value} {us:List (Nat×Nat×C)} {w':World} {g':Gh}
 {X X':Nat→Value} {cr lent:Bool} {bR:Nat}
 (la:∀{w:World} {g:Gh},Rel w0 cl0 { S with ms:=m1 } a.tmps w g→RA w g m1 a0 v0) (iE:(∀cs,a0≠.agg cs)→v0.cells=#[v0]) (vt:∀cs,x0≠.ptr cs) (h0:args[0]?=some v0)
 (hL:Left w (g1.gi X' lent) (x0::xs) args us w' g') (hu:jN a0.cells 0 m1 us=some m2) (u':∀i j c,(i,j,c)∈us→c.bB=true∨lent=false) (hn:cr=true→(m1 d).1=none):
 ∃g3,Rel w0 cl0 { S with ms:=m2 } a.tmps w' g3∧
  (∀{c:C} {j:Nat} {x:Value},(c.bB=true∨lent=false)→c.cY=false→c.bA=true→RC w' g' 0 j c x→RC w' g3 (d+1) j c x)∧
  (cr=true→∀{c:C} {j:Nat} {x:Value},(c.bB=true∨lent=false)→c.bA=true→X j=x→RC w' g' 0 j c x→RC w' g3 (d+1) j c x)∧
  (cr=true→∀j,g3.hd (d+1) j []=X j)∧(cr=true→g3.bk d=bR∧∀n,g'.cl bR=.box n→g3.cl bR=.box d):=by
 have ri:=hL.fr;have eZ:=hL.mi;have jz:=hL.im;have H:∀n,(cr=true→n=d)→ek n w w' g1 (g1.go g' w.heap.size d bR cr X):=fun n hn=>ek.go (X':=X') (lent:=lent) R1.bd (fun b h1 h2=>ri b h1 h2) hL.sz hL.sd hL.bd n hn
 have R2:Rel w0 cl0 { S with ms:=m1 } a.tmps w' (g1.go g' w.heap.size d bR cr X):=by
  refine R1.pass (d0:=d) (H d fun _=>rfl) (fun n hs=>?_);cases bW:cr with
  |false=>
   subst bW;exact ⟨n+1,by omega,H _ (fun e=>by cases e)⟩
  |true=>
   subst bW;refine ⟨d,fun e=>?_,H d fun _=>rfl⟩;subst e;rw [hn rfl] at hs;cases hs
 obtain ⟨mW,xY⟩:=OO us hu;have Mq:=la R2
 have uP:∀(j:Nat) (b:AV),a0.cells[j]?=some b→∃x,v0.cells.toList[j]?=some x∧RA w' (g1.go g' w.heap.size d bR cr X) m1 b x:=by
  intro j b hj;by_cases jf:∃cs,a0=.agg cs
  ·obtain ⟨cs,rfl⟩:=jf;cases Mq with
   |agg _ vs hl hr=>
    simp only [AV.cells] at hj;have ae:=bE hj;have hx:vs[j]?=some vs[j]:=by simp [show j<vs.size from by omega]
    exact ⟨vs[j],by simp [Value.cells,hx],hr j b _ hj hx⟩
  ·have hv:=iE (fun cs e=>jf ⟨cs,e⟩)
   have:a0.cells=[a0]:=by
    cases a0 with
    |agg cs=>exact absurd ⟨cs,rfl⟩ jf
    |_=>rfl
   rw [this] at hj;rw [hv];cases j with
   |zero=>simp at hj;subst hj;exact ⟨v0,rfl,Mq⟩
   |succ j=>simp at hj
 obtain ⟨g3,R3,k1,k2,k3,k4,k5,k6,k7⟩:=aai us (as:=a0.cells) (vals:=v0.cells.toList) (lo:=0) R2 uP (fun i j c hm _=>by
  obtain ⟨rfl,e_⟩:=xY i j c hm;have h1:=hL.up 0 j c hm
  have h2:∃v x,args[0]?=some v∧v.cells[j]?=some x∧RC w' g' (0+1) j c x:=by
   revert h1;simp only [zz];cases x0 with
   |ptr cs=>exact absurd rfl (vt cs)
   |_=>exact id
  obtain ⟨v,x,h3,h4,h5⟩:=h2;rw [h0] at h3;cases h3
  exact ⟨x,by simpa using h4,e_,QS (X':=X') (lent:=lent) eZ jz R1.bd (u' 0 j c hm) e_ h5⟩) hu
 refine ⟨g3,R3,fun {c j x} ho h1 h2 h=>?_,fun bW {c j x} ho h1 hx h=>?_,fun bW j=>?_,fun bW=>⟨?_,fun n hb=>?_⟩⟩
 ·cases h with
  |ro k dd _ h=>
   refine .ro _ _ _ ((CJ (d:=d) (bR:=bR) (cr:=cr) (X:=X) jz R1.bd ho h).mono fun b hb=>⟨rfl,(k1 b k).2 hb⟩)
  |own dd _ h=>
   simp only [C.cY,zy] at h1;refine .own _ _ ?_;cases h<;>first|exact .int _ _ _|exact .bool _ _|exact .str _ _|simp [D.bF] at h1
  |rf=>simp [C.bA] at h2
 ·subst bW;refine (QT (d:=d) (bR:=bR) eZ jz R1.bd ho h1 hx h).mono (fun b k hb=>⟨rfl,(k1 b k).2 hb⟩) (fun b ρ hb=>⟨rfl,k6 b d j ρ hb⟩) (fun ρ=>k5 d (hn rfl) j ρ) (fun r' j' e=>?_);subst e;simp [C.bA] at h1
 ·subst bW;rw [k5 d (hn rfl) j []];simp [Gh.go]
 ·subst bW;rw [k2];simp [Gh.go,az]
 ·subst bW;refine k7 bR d ?_;rw [CI eZ (by rw [hb];rfl),hb];simp
theorem PH {m1 m2:Ms} {g1:Gh} (R1:Rel w0 cl0 { S with ms:=m1 } a.tmps w g1) {a0:AV} {v0:Value} {x0:V} {xs:List V} {args:Array Value} {us:List (Nat×Nat×C)} {w':World} {g':Gh} {r:V} {v:Value}
 {X':Nat→Value} {lent:Bool} (dm:((r.bB&&us.all fun u=>u.2.2.bB)||!lent)=true)
 (la:∀{w:World} {g:Gh},Rel w0 cl0 { S with ms:=m1 } a.tmps w g→RA w g m1 a0 v0) (iE:(∀cs,a0≠.agg cs)→v0.cells=#[v0]) (vt:∀cs,x0≠.ptr cs) (h0:args[0]?=some v0)
 (bZ:r.plain=true) (hr:kY w' g' r v)
 (hL:Left w (g1.gi X' lent) (x0::xs) args us w' g') (hu:jN a0.cells 0 m1 us=some m2) (hn:((imp d r).2).isSome→(m2 d).1=none):
 eX w0 cl0 S a.tmps d (imp d r).1 (imp d r).2 m2 v w':=by
 have oO:(r.bB||!lent)=true:=by
  revert dm;cases r.bB<;>simp
 have u':∀i j c,(i,j,c)∈us→c.bB=true∨lent=false:=by
  intro i j c hm;rcases zg _ _▸dm with h|h
  ·simp only [zd] at h;exact .inl (zb.1 h.2 _ hm)
  ·right;simpa using h
 have mW:=(OO us hu).1 d
 have nJ:((imp d r).2).isSome→(m1 d).1=none:=fun h=>by
  have:=hn h;rw [this] at mW;cases h1:(m1 d).1 with
  |none=>rfl
  |some _=>rw [h1] at mW;cases mW
 by_cases jB:∃cs,r=.ptr cs
 ·obtain ⟨cs,rfl⟩:=jB;obtain ⟨Rn,b,vals,E,rfl,bq,ey,jZ,bW⟩:=hr;obtain ⟨g3,R3,p1,p2,p3,p4⟩:=BT (d:=d) (cr:=true) (bR:=b) (X:=fun j=>vals.getD j undef) R1 la iE vt h0 hL hu u' (fun _=>nJ rfl);obtain ⟨p5,p6⟩:=p4 rfl;simp only [imp] at hn ⊢;have eL:=hn rfl;simp only [V.plain] at bZ
  have dp:∀(j:Nat) (c:C) (x:Value),cs[j]?=some c→vals[j]?=some x→RC w' g3 (d+1) j c x:=by
   intro j c x hc hx;have h5:=bW j c x hc (by simpa using hx);rw [ze] at h5
   have jh:c.bB=true∨lent=false:=by
    rcases zg _ _▸oO with h|h
    ·simp only [V.bB,V.pb] at h;exact .inl (zb.1 h c (za hc))
    ·right;simpa using h
   exact p2 rfl jh (zb.1 bZ c (za hc)) (by simp [zm,hx]) h5
  refine ⟨_,R3.fresh (rt:=.bx cs) eL (ek.refl d w' g3) ⟨?_,vals,E,?_,by simpa using jZ.symm,dp⟩ (fun j r1 j1 hj=>?_),?_,fun q hq=>?_⟩
  ·rw [p5];exact p6 _ bq
  ·rw [p5];exact ey
  ·have:=zb.1 bZ _ (za hj);simp [C.bA] at this
  ·have nD:=RA.bx (w:=w') (g:=g3) (m:=az m2 d (some (.bx cs),[])) d 0;rw [p5] at nD;exact nD
  ·simp [AV.refs] at hq;subst hq;simp [az]
 ·have dj:∀cs,r≠.ptr cs:=fun cs e=>jB ⟨cs,e⟩
  obtain ⟨h_,mI⟩:=wU hr dj;have j_:=wC bZ dj
  have mP:∀c∈r.eu,c.bB=true∨lent=false:=by
   intro c hc;rcases zg _ _▸oO with h|h
   ·exact .inl (zb.1 (yq h dj) c hc)
   ·right;simpa using h
  rw [rH dj] at hn nJ ⊢;by_cases fR:r.eu.any C.cY=true
  ·rw [if_pos fR] at hn nJ ⊢;have eL:=hn rfl;obtain ⟨g3,R3,p1,p2,p3,p4⟩:=BT (d:=d) (cr:=true) (bR:=0) (X:=fun j=>(r.vals v).getD j undef) R1 la iE vt h0 hL hu u' (fun _=>nJ rfl)
   have dp:∀(j:Nat) (c:C) (x:Value),r.eu[j]?=some c→(r.vals v)[j]?=some x→RC w' g3 (d+1) j c x:=by
    intro j c x hc hx;have h5:=mI j c x hc hx;rw [ze] at h5;exact p2 rfl (mP c (za hc)) (zb.1 j_ c (za hc)) (by simp [zH,hx]) h5
   refine ⟨_,R3.fresh (rt:=.an r.eu) eL (ek.refl d w' g3) (fun j c hc=>?_) (fun j r1 j1 hj=>?_),?_,fun q hq=>?_⟩
   ·have ae:=bE hc;have hx:(r.vals v)[j]?=some (r.vals v)[j]:=by simp [show j<(r.vals v).length from by omega]
    have:=dp j c _ hc hx;rw [p3 rfl j];simpa [zH,hx] using this
   ·have:=zb.1 j_ _ (za hj);simp [C.bA] at this
   ·exact qm hr dj (fun i c y hc hy=>pw (dp i c y hc hy))
   ·obtain ⟨rfl,_⟩:=o6 bZ dj hq;simp [az]
  ·rw [if_neg fR] at hn ⊢;obtain ⟨g3,R3,p1,p2,p3,p4⟩:=BT (d:=d) (cr:=false) (bR:=0) (X:=fun _=>undef) R1 la iE vt h0 hL hu u' (fun e=>by cases e);refine ⟨g3,R3,?_,fun q hq=>?_⟩
   ·refine qm hr dj (fun i c y hc hy=>?_);have h5:=mI i c y hc hy;have e_:=zb.1 j_ c (za hc);rw [ze] at h5;refine pw (p1 (mP c (za hc)) ?_ e_ h5);cases h8:c.cY
    ·rfl
    ·exact absurd (zu.2 ⟨_,za hc,h8⟩) fR
   ·exact absurd (o6 bZ dj hq).2 fR
end
end
section
section
variable {w0:World} {cl0:dv} {S:St} {ts:Array Value} {w:World} {g:Gh}
def Gh.gm (g:Gh) (I:Nat) (X:Nat→Value) (lent:Bool):Gh where
 cl:=fun b=>match g.cl b with
  |.iX=>.iX
  |.gn=>.gn
  |.own 0 q ρ=>.own (I+1) q ρ
  |.own (_+1) _ _=>if lent then .gn else .no
  |.box _=>if lent then .gn else .no
  |.no=>.no
 hd:=fun r j ρ=>if r=I+1 then (if ρ=[] then X j else g.hd 0 j ρ) else g.hd r j ρ
 bk:=g.bk
def Gh.gq (g g':Gh) (I:Nat) (size d bR:Nat) (cr:Bool) (X:Nat→Value):Gh where
 cl:=fun b=>if b<size∧(g.cl b).held=false then g.cl b else match g'.cl b with
  |.own 0 n ρ=>if cr then .own (d+1) n ρ else .no
  |.own r q ρ=>if r=I+1 then .own 0 q ρ else .no
  |.box _=>if cr=true∧b=bR then .box d else .no
  |_=>.no
 hd:=fun r j ρ=>if r=0 then g'.hd (I+1) j ρ else if r=d+1∧cr=true then (if ρ=[] then X j else g'.hd 0 j ρ) else g.hd r j ρ
 bk:=if cr then az g.bk d bR else g.bk
theorem Gh.QR {I:Nat} {X:Nat→Value} {lent:Bool} {b:Nat} {k:Bool} (h:g.cl b=kc k):(g.gm I X lent).cl b=kc k:=by
 cases k<;>simp [kc] at h ⊢<;>simp [Gh.gm,h]
theorem Gh.QO {I:Nat} {X:Nat→Value} {lent:Bool} {b:Nat} {k:Bool} (hk:k=false∨lent=false) (h:(g.gm I X lent).cl b=kc k):g.cl b=kc k:=by
 simp only [Gh.gm] at h;revert h;cases hg:g.cl b with
 |own n j ρ=>rcases hk with rfl|rfl<;>cases n<;>first|(cases lent<;>simp [kc];done)|(cases k<;>simp [kc])
 |box r=>rcases hk with rfl|rfl<;>first|(cases lent<;>simp [kc];done)|(cases k<;>simp [kc])
 |no=>cases k<;>simp [kc]
 |iX=>simp
 |gn=>simp
theorem Gh.QP {I:Nat} {X:Nat→Value} {lent:Bool} {b:Nat} {k:Bool} (h:(g.de lent true fun _=>false).cl b=kc k):(g.gm I X lent).cl b=kc k:=by
 simp only [Gh.gm,Gh.de] at h ⊢;revert h;cases hg:g.cl b with
 |own n j ρ=>cases n<;>simp<;>cases k<;>simp [kc]
 |box r=>simp
 |no=>simp
 |iX=>simp
 |gn=>simp
theorem Gh.QQ {I:Nat} {X:Nat→Value} {lent:Bool} {b:Nat} (h:g.cl b=.no):(g.gm I X lent).cl b=.no:=by simp [Gh.gm,h]
theorem Gh.Lu {I:Nat} {X:Nat→Value} {lent:Bool} {b:Nat}:((g.gm I X lent).cl b).ck=(g.cl b).held:=by
 simp only [Gh.gm];cases hb:g.cl b with
 |own n j ρ=>cases n<;>cases lent<;>rfl
 |box r=>cases lent<;>rfl
 |_=>rfl
theorem ek.gq {w':World} {g':Gh} {d bR:Nat} {I:Nat} {cr lent:Bool} {X X':Nat→Value} (dU:∀b,g.cl b≠.no→b<w.heap.size)
 (ri:∀b,b<w.heap.size→((g.gm I X' lent).cl b).ck=false→w'.heap[b]?=w.heap[b]?) (hs:w.heap.size≤w'.heap.size) (dL:eB w w')
 (uO:∀b,g'.cl b≠.no→b<w'.heap.size) (n:Nat) (hn:cr=true→n=d):ek n w w' g (g.gq g' I w.heap.size d bR cr X):=by
 have oK:∀b,g.cl b≠.no→(g.cl b).held=false→(g.gq g' I w.heap.size d bR cr X).cl b=g.cl b:=fun b h1 h2=>by
  simp only [Gh.gq];rw [if_pos ⟨dU b h1,h2⟩]
 refine { hp:=fun b h h2=>ri b h ?_,hs:=hs,kc:=fun b k=>?_,cl:=fun b n1 j ρ h _=>?_,bx:=fun b n1 h _=>?_,hd:=fun n1 j ρ h=>?_,
          bk:=fun n1 h=>?_,bd:=fun b h=>?_,mi:=fun b hb h=>?_,sd:=dL }
 ·rw [Gh.Lu];cases hh:(g.cl b).held with
  |false=>rfl
  |true=>obtain ⟨q,ρ,e⟩:=cG.sX hh;exact absurd e (h2 q ρ)
 ·by_cases hb:b<w.heap.size∧(g.cl b).held=false
  ·simp only [Gh.gq];rw [if_pos hb]
  ·have h1:∀k,g.cl b≠OM.kc k:=fun k e=>hb ⟨dU b (by rw [e];cases k<;>simp [OM.kc]),by rw [e];cases k<;>rfl⟩
   constructor
   ·intro h2;simp only [Gh.gq] at h2;rw [if_neg hb] at h2;split at h2<;>first|(cases k<;>simp [OM.kc] at h2;done)|(split at h2<;>cases k<;>simp [OM.kc] at h2)
   ·exact fun h2=>absurd h2 (h1 k)
 ·rw [oK b (by rw [h];simp) (by rw [h];rfl)];exact h
 ·rw [oK b (by rw [h];simp) (by rw [h];rfl)];exact h
 ·simp only [Gh.gq];rw [if_neg (by omega),if_neg (fun e=>h (by have:=hn e.2;omega))]
 ·simp only [Gh.gq];cases bW:cr with
  |false=>simp
  |true=>have:=hn bW;subst this;simp [az,h]
 ·by_cases hb:b<w.heap.size∧(g.cl b).held=false
  ·left;simp only [Gh.gq] at h;rw [if_pos hb] at h;exact h
  ·by_cases ae:b<w.heap.size
   ·left
    have:(g.cl b).held=true:=by
     cases hh:(g.cl b).held with
     |true=>rfl
     |false=>exact absurd ⟨ae,hh⟩ hb
    obtain ⟨q,ρ,e⟩:=cG.sX this;rw [e];simp
   ·right;refine ⟨by omega,uO b (fun e=>?_)⟩;simp only [Gh.gq] at h;rw [if_neg hb,e] at h;exact h rfl
 ·by_cases dK:(g.cl b).held=false
  ·simp only [Gh.gq] at h;rw [if_pos ⟨hb,dK⟩] at h;exact h
  ·obtain ⟨q,ρ,e⟩:=cG.sX (c:=g.cl b) (by simpa using dK);rw [e];rfl
section
variable {w':World} {g':Gh} {d bR:Nat} {I:Nat} {cr lent:Bool} {X X':Nat→Value}
theorem Lw (eZ:∀b,b<w.heap.size→(g'.cl b).ck=true→((g.gm I X' lent).cl b).ck=true) {b:Nat} (hm:(g'.cl b).ck=true):
 (g.gq g' I w.heap.size d bR cr X).cl b=match g'.cl b with
  |.own 0 n ρ=>if cr then .own (d+1) n ρ else .no
  |.own r q ρ=>if r=I+1 then .own 0 q ρ else .no
  |.box _=>if cr=true∧b=bR then .box d else .no
  |_=>.no:=by
 simp only [Gh.gq];rw [if_neg (fun e=>?_)];have:=eZ b e.1 hm;rw [Gh.Lu,e.2] at this;cases this
theorem Lx (jz:∀b k,g'.cl b=kc k↔(g.gm I X' lent).cl b=kc k) (dU:∀b,g.cl b≠.no→b<w.heap.size) {k:Bool} {dd:D} {x:Value} (dm:(C.ro k dd).bB=true∨lent=false) (h:RO w' g'.cl k dd x):
 RO w' (g.gq g' I w.heap.size d bR cr X).cl k dd x:=by
 by_cases hs:dd.bF=true
 ·exact h.bF hs
 have j6:k=false∨lent=false:=by
  rcases dm with dm|dm
  ·left;simpa [C.bB,hs] using dm
  ·exact .inr dm
 exact h.mono fun b hb=>⟨rfl,by
  have h1:=Gh.QO j6 ((jz b k).1 hb);simp only [Gh.gq];rw [if_pos ⟨dU b (by rw [h1];cases k<;>simp [kc]),by rw [h1];cases k<;>rfl⟩]
  exact h1⟩
theorem QV (eZ:∀b,b<w.heap.size→(g'.cl b).ck=true→((g.gm I X' lent).cl b).ck=true) (jz:∀b k,g'.cl b=kc k↔(g.gm I X' lent).cl b=kc k) (dU:∀b,g.cl b≠.no→b<w.heap.size)
 {j:Nat} {c:C} {x:Value} (dm:c.bB=true∨lent=false) (hn:c.bA=true) (hx:X j=x) (h:RC w' g' 0 j c x):RC w' (g.gq g' I w.heap.size d bR true X) (d+1) j c x:=by
 cases h with
 |ro k dd _ h=>exact .ro _ _ _ (Lx jz dU dm h)
 |own dd _ h=>
  refine .own _ _ (Hd.place (w:=w') (g:=g') (.inl h) (fun b ρ hb=>⟨rfl,?_⟩) (fun ρ g7=>?_) ?_)
  ·rw [Lw eZ (by rw [hb];rfl),hb];simp
  ·simp [Gh.gq,g7]
  ·simp [Gh.gq,hx]
 |rf=>simp [C.bA] at hn
end
end
section
variable {P:Program} {κ:Nat→FuncId} {w0:World} {cl0:dv} {S:St} {w:World} {g:Gh} {a:Act} {Γ:Env} {d:Nat}
theorem RF {x:V} {v:Value} {I:Nat} {X:Nat→Value} {lent:Bool} (hn:x.flat.all C.bA=true) (hX:∀j y,v.cells[j]?=some y→X j=y) (h:iM w g 0 0 x v):jb w (g.gm I X lent) I x v:=by
 have hc:∀{n:Nat} {c:C} {y:Value},c.bA=true→X n=y→RC w g 0 n c y→RC w (g.gm I X lent) (I+1) n c y:=fun {n c y} h1 hy h2=>by
  cases h2 with
  |ro k d _ h3=>exact .ro _ _ _ (h3.mono fun b hb=>⟨rfl,Gh.QR hb⟩)
  |own d _ h3=>
   refine .own _ _ (Hd.place (w:=w) (g:=g) (.inl h3) (fun b ρ hb=>⟨rfl,by simp [Gh.gm,hb]⟩) (fun ρ g7=>?_) ?_)
   ·simp [Gh.gm,g7]
   ·simp [Gh.gm,hy]
  |rf=>simp [C.bA] at h1
 cases x with
 |one c=>
  refine ⟨⟨hc (by simpa [V.flat] using hn) (hX 0 v (by rw [h.2];rfl)) h.1,h.2⟩,fun _ j y hy=>?_⟩;simp [Gh.gm,hX j y hy]
 |st cs=>
  obtain ⟨vs,rfl,hl,h2⟩:=h;refine ⟨⟨vs,rfl,hl,fun i c y h3 h4=>?_⟩,fun _ j y hy=>?_⟩
  ·refine hc (zb.1 hn c (za h3)) (hX _ y ?_) (h2 i c y h3 h4);rw [ze];simpa [Value.cells] using h4
  ·simp [Gh.gm,hX j y hy]
 |ptr=>exact h.elim
 |a_=>exact h.elim
theorem BU {I:Nat} {m1:Ms} {g1:Gh} (R1:Rel w0 cl0 { S with ms:=m1 } a.tmps w g1) {xs:List V} {args:Array Value} {us:List (Nat×Nat×C)} {w':World} {g':Gh}
 {X X':Nat→Value} {cr lent:Bool} {bR:Nat}
 (hL:Left w (g1.gm I X' lent) xs args us w' g') (hn:cr=true→(m1 d).1=none):
 ∃g3,Rel w0 cl0 { S with ms:=m1 } a.tmps w' g3∧
  (∀{c:C} {j:Nat} {x:Value},(c.bB=true∨lent=false)→c.cY=false→c.bA=true→RC w' g' 0 j c x→RC w' g3 (d+1) j c x)∧
  (cr=true→∀{c:C} {j:Nat} {x:Value},(c.bB=true∨lent=false)→c.bA=true→X j=x→RC w' g' 0 j c x→RC w' g3 (d+1) j c x)∧
  (cr=true→∀j,g3.hd (d+1) j []=X j)∧(cr=true→g3.bk d=bR∧∀n,g'.cl bR=.box n→g3.cl bR=.box d):=by
 have ri:=hL.fr;have eZ:=hL.mi;have jz:=hL.im;have H:∀n,(cr=true→n=d)→ek n w w' g1 (g1.gq g' I w.heap.size d bR cr X):=fun n hn=>ek.gq (X':=X') (lent:=lent) R1.bd (fun b h1 h2=>ri b h1 h2) hL.sz hL.sd hL.bd n hn
 have R2:Rel w0 cl0 { S with ms:=m1 } a.tmps w' (g1.gq g' I w.heap.size d bR cr X):=by
  refine R1.pass (d0:=d) (H d fun _=>rfl) (fun n hs=>?_);cases bW:cr with
  |false=>
   subst bW;exact ⟨n+1,by omega,H _ (fun e=>by cases e)⟩
  |true=>
   subst bW;refine ⟨d,fun e=>?_,H d fun _=>rfl⟩;subst e;rw [hn rfl] at hs;cases hs
 refine ⟨_,R2,fun {c j x} ho h1 h2 h=>?_,fun bW {c j x} ho h1 hx h=>?_,fun bW j=>?_,fun bW=>⟨?_,fun n hb=>?_⟩⟩
 ·cases h with
  |ro k dd _ h=>exact .ro _ _ _ (Lx (d:=d) (bR:=bR) (cr:=cr) (X:=X) jz R1.bd ho h)
  |own dd _ h=>
   simp only [C.cY,zy] at h1;refine .own _ _ ?_;cases h<;>first|exact .int _ _ _|exact .bool _ _|exact .str _ _|simp [D.bF] at h1
  |rf=>simp [C.bA] at h2
 ·subst bW;exact QV (d:=d) (bR:=bR) eZ jz R1.bd ho h1 hx h
 ·subst bW;simp [Gh.gq]
 ·subst bW;simp [Gh.gq,az]
 ·subst bW;rw [Lw eZ (by rw [hb];rfl),hb];simp
theorem PI {I:Nat} {m1:Ms} {g1:Gh} (R1:Rel w0 cl0 { S with ms:=m1 } a.tmps w g1) {xs:List V} {args:Array Value} {us:List (Nat×Nat×C)} {w':World} {g':Gh} {r:V} {v:Value}
 {X':Nat→Value} {lent:Bool} (oO:(r.bB||!lent)=true)
 (bZ:r.plain=true) (hr:kY w' g' r v)
 (hL:Left w (g1.gm I X' lent) xs args us w' g') (hn:((imp d r).2).isSome→(m1 d).1=none):
 eX w0 cl0 S a.tmps d (imp d r).1 (imp d r).2 m1 v w':=by
 by_cases jB:∃cs,r=.ptr cs
 ·obtain ⟨cs,rfl⟩:=jB;obtain ⟨Rn,b,vals,E,rfl,bq,ey,jZ,bW⟩:=hr;obtain ⟨g3,R3,p1,p2,p3,p4⟩:=BU (d:=d) (cr:=true) (bR:=b) (X:=fun j=>vals.getD j undef) R1 hL (fun _=>hn rfl);obtain ⟨p5,p6⟩:=p4 rfl;simp only [imp] at hn ⊢;have eL:=hn rfl;simp only [V.plain] at bZ
  have dp:∀(j:Nat) (c:C) (x:Value),cs[j]?=some c→vals[j]?=some x→RC w' g3 (d+1) j c x:=by
   intro j c x hc hx;have h5:=bW j c x hc (by simpa using hx);rw [ze] at h5
   have jh:c.bB=true∨lent=false:=by
    rcases zg _ _▸oO with h|h
    ·simp only [V.bB,V.pb] at h;exact .inl (zb.1 h c (za hc))
    ·right;simpa using h
   exact p2 rfl jh (zb.1 bZ c (za hc)) (by simp [zm,hx]) h5
  refine ⟨_,R3.fresh (rt:=.bx cs) eL (ek.refl d w' g3) ⟨?_,vals,E,?_,by simpa using jZ.symm,dp⟩ (fun j r1 j1 hj=>?_),?_,fun q hq=>?_⟩
  ·rw [p5];exact p6 _ bq
  ·rw [p5];exact ey
  ·have:=zb.1 bZ _ (za hj);simp [C.bA] at this
  ·have nD:=RA.bx (w:=w') (g:=g3) (m:=az m1 d (some (.bx cs),[])) d 0;rw [p5] at nD;exact nD
  ·simp [AV.refs] at hq;subst hq;simp [az]
 ·have dj:∀cs,r≠.ptr cs:=fun cs e=>jB ⟨cs,e⟩
  obtain ⟨h_,mI⟩:=wU hr dj;have j_:=wC bZ dj
  have mP:∀c∈r.eu,c.bB=true∨lent=false:=by
   intro c hc;rcases zg _ _▸oO with h|h
   ·exact .inl (zb.1 (yq h dj) c hc)
   ·right;simpa using h
  rw [rH dj] at hn ⊢;by_cases fR:r.eu.any C.cY=true
  ·rw [if_pos fR] at hn ⊢;have eL:=hn rfl;obtain ⟨g3,R3,p1,p2,p3,p4⟩:=BU (d:=d) (cr:=true) (bR:=0) (X:=fun j=>(r.vals v).getD j undef) R1 hL (fun _=>hn rfl)
   have dp:∀(j:Nat) (c:C) (x:Value),r.eu[j]?=some c→(r.vals v)[j]?=some x→RC w' g3 (d+1) j c x:=by
    intro j c x hc hx;have h5:=mI j c x hc hx;rw [ze] at h5;exact p2 rfl (mP c (za hc)) (zb.1 j_ c (za hc)) (by simp [zH,hx]) h5
   refine ⟨_,R3.fresh (rt:=.an r.eu) eL (ek.refl d w' g3) (fun j c hc=>?_) (fun j r1 j1 hj=>?_),?_,fun q hq=>?_⟩
   ·have ae:=bE hc;have hx:(r.vals v)[j]?=some (r.vals v)[j]:=by simp [show j<(r.vals v).length from by omega]
    have:=dp j c _ hc hx;rw [p3 rfl j];simpa [zH,hx] using this
   ·have:=zb.1 j_ _ (za hj);simp [C.bA] at this
   ·exact qm hr dj (fun i c y hc hy=>pw (dp i c y hc hy))
   ·obtain ⟨rfl,_⟩:=o6 bZ dj hq;simp [az]
  ·rw [if_neg fR] at hn ⊢;obtain ⟨g3,R3,p1,p2,p3,p4⟩:=BU (d:=d) (cr:=false) (bR:=0) (X:=fun _=>undef) R1 hL (fun e=>by cases e);refine ⟨g3,R3,?_,fun q hq=>?_⟩
   ·refine qm hr dj (fun i c y hc hy=>?_);have h5:=mI i c y hc hy;have e_:=zb.1 j_ c (za hc);rw [ze] at h5;refine pw (p1 (mP c (za hc)) ?_ e_ h5);cases h8:c.cY
    ·rfl
    ·exact absurd (zu.2 ⟨_,za hc,h8⟩) fR
   ·exact absurd (o6 bZ dj hq).2 fR
end
end
section
section
variable {P:Program} {κ:Nat→FuncId} {w0:World} {cl0:dv} {S:St} {w:World} {g:Gh} {a:Act} {Γ:Env} {d:Nat}
theorem Vh {m:Ms} {a:AV} {r:Nat} {cs:List C} (h:a.ni m=some (r,cs)):a=.bx r 0∧(m r).1=some (.bx cs)∧cs.all C.bA=true:=by
 unfold AV.ni at h;split at h
 ·split at h
  ·rename_i hm;split at h
   ·rename_i hc;simp at h;obtain ⟨rfl,rfl⟩:=h;exact ⟨rfl,hm,hc⟩
   ·cases h
  ·cases h
 ·cases h
theorem Bp:∀(us:List (Nat×Nat×C)) {n:Nat} {cs:List C},n9 n us=some cs→
 cs.length=us.length∧∀(j:Nat) (c:C),cs[j]?=some c→(0,n+j,c)∈us∧c.bA=true:=by
 intro us;induction us with
 |nil=>intro n cs h;simp [n9] at h;subst h;exact ⟨rfl,fun j c h=>by simp at h⟩
 |cons u us ih=>
  intro n cs h;obtain ⟨i,j,c⟩:=u;simp only [n9] at h;split at h
  ·rename_i hc;obtain ⟨rfl,rfl,h3⟩:=hc;split at h
   ·rename_i jt h2;simp at h;subst h;obtain ⟨h4,h5⟩:=ih h2;refine ⟨by simp [h4],fun k c' hk=>?_⟩;cases k with
    |zero=>simp at hk;subst hk;exact ⟨by simp,h3⟩
    |succ k=>
     obtain ⟨h6,h7⟩:=h5 k c' (by simpa using hk);exact ⟨zw _ (by rwa [show j+(k+1)=j+1+k from by omega]),h7⟩
   ·cases h
  ·cases h
def Gh.km (g:Gh) (b0:Nat) (lent:Bool):Gh where
 cl:=fun b=>if b=b0 then .box 0 else (g.de lent false fun _=>false).cl b
 hd:=g.hd
 bk:=g.bk
theorem Gh.TO {b0 b:Nat} {k lent:Bool} (h0:∀k,g.cl b0≠kc k) (h:g.cl b=kc k):(g.km b0 lent).cl b=kc k:=by
 simp only [Gh.km];rw [if_neg (fun e=>by subst e;exact h0 k h)];exact Gh.ye h
theorem Gh.TN {b0 b:Nat} {k lent:Bool} (hk:k=false∨lent=false) (h:(g.km b0 lent).cl b=kc k):g.cl b=kc k:=by
 simp only [Gh.km] at h;split at h
 ·cases k<;>simp [kc] at h
 ·exact Gh.D9 hk h
theorem Gh.MR {b0 b:Nat} {lent:Bool}:((g.km b0 lent).cl b).ck=true→b=b0:=by
 simp only [Gh.km];by_cases e:b=b0
 ·exact fun _=>e
 ·rw [if_neg e];intro h;have:((g.de lent false fun _=>false).cl b).ck=false:=Gh.yf;rw [this] at h;cases h
theorem BQ {r:Nat} {cs:List C} (h:ku w g r (.bx cs)):∀k,g.cl (g.bk r)≠kc k:=fun k e=>by
 rw [h.1] at e;cases k<;>simp [kc] at e
theorem Pw {r:Nat} {cs:List C} {lent:Bool} (h:ku w g r (.bx cs)) (br:cs.all C.gB=true):jb w (g.km (g.bk r) lent) 0 (.ptr cs) (.pointer (some ⟨g.bk r,0,none⟩)):=by
 obtain ⟨vals,E,h2,h3,h4⟩:=h.2;refine ⟨g.bk r,vals,E,rfl,by simp [Gh.km],h2,by simpa using h3.symm,fun j c x hc hx=>?_⟩;rw [ze];have h5:=h4 j c x hc (by simpa using hx);have h6:=zb.1 br c (za hc);cases h5 with
 |ro k dd _ h7=>exact .ro _ _ _ (h7.mono fun b hb=>⟨rfl,Gh.TO (BQ h) hb⟩)
 |own=>simp [C.gB] at h6
 |rf=>simp [C.gB] at h6
def Gh.jr (g g':Gh) (size d:Nat) (cr:Bool) (X:Nat→Value):Gh where
 cl:=fun b=>if b<size then g.cl b else match g'.cl b with
  |.own 0 n ρ=>if cr then .own (d+1) n ρ else .no
  |_=>.no
 hd:=fun r j ρ=>if r=d+1∧cr=true then (if ρ=[] then X j else g'.hd 0 j ρ) else g.hd r j ρ
 bk:=g.bk
theorem PD (R:Rel w0 cl0 S a.tmps w g) {r0:Nat} {cs bH:List C} {xs:List V} {args:Array Value} {us:List (Nat×Nat×C)} {w':World} {g':Gh} {X:Nat→Value} {cr lent:Bool}
 (hb:(S.ms r0).1=some (.bx cs)) (h0:args[0]?=some (.pointer (some ⟨g.bk r0,0,none⟩)))
 (hL:Left w (g.km (g.bk r0) lent) (.ptr cs::xs) args us w' g') (hu:n9 0 us=some bH) (gb:bH.all C.gB=true) (hlen:bH.length=cs.length) (qj:0<cs.length)
 (hn:cr=true→(S.ms d).1=none) (jh:∀c∈bH,c.bB=true∨lent=false):
 ∃g3,Rel w0 cl0 { S with ms:=az S.ms r0 (some (.bx bH),(S.ms r0).2) } a.tmps w' g3∧
  (∀{c:C} {j:Nat} {x:Value},(c.bB=true∨lent=false)→c.cY=false→c.bA=true→RC w' g' 0 j c x→RC w' g3 (d+1) j c x)∧
  (cr=true→∀{c:C} {j:Nat} {x:Value},(c.bB=true∨lent=false)→c.bA=true→X j=x→RC w' g' 0 j c x→RC w' g3 (d+1) j c x)∧
  (cr=true→∀j,g3.hd (d+1) j []=X j):=by
 have cj:=R.rt r0 _ hb;have nG:=BQ cj;have lO:g.cl (g.bk r0)=.box r0:=cj.1;obtain ⟨SP,vp⟩:=Bp us hu
 have rF:∀(j:Nat) (c:C),bH[j]?=some c→c.gB=true∧∃vals E x,g'.cl (g.bk r0)=.box 0∧w'.heap[g.bk r0]?=some (.cells vals E)∧vals.size≤us.length∧vals[j]?=some x∧RC w' g' 1 j c x:=by
  intro j c hc;obtain ⟨h1,h2⟩:=vp j c hc;rw [ze] at h1;have h3:=hL.up 0 j c h1;simp only [zz] at h3;obtain ⟨b,vals,E,x,e1,e2,e3,e4,e5,e6⟩:=h3;rw [h0] at e1;simp only [zf,Value.pointer.injEq,Addr.mk.injEq] at e1;obtain ⟨rfl,_⟩:=e1;exact ⟨zb.1 gb c (za hc),vals,E,x,e2,e3,e4,e5,e6⟩
 obtain ⟨C8,vals,E,rk,jC,ql⟩:g'.cl (g.bk r0)=.box 0∧∃vals E,w'.heap[g.bk r0]?=some (.cells vals E)∧vals.size=bH.length∧
  ∀(j:Nat) (c:C) (x:Value),bH[j]?=some c→vals[j]?=some x→c.gB=true∧RC w' g' 1 j c x:=by
  have bm:bH[0]?=some bH[0]:=by simp [show 0<bH.length from by omega]
  obtain ⟨_,vals,E,x,e1,e2,e3,e4,e5⟩:=rF 0 _ bm;refine ⟨e1,vals,E,e2,?_,fun j c y hc hy=>?_⟩
  ·have uW:bH[bH.length-1]?=some bH[bH.length-1]:=by simp [show bH.length-1<bH.length from by omega]
   obtain ⟨_,JB,E2,x2,q1,q2,q3,q4,q5⟩:=rF _ _ uW;rw [e2] at q2;simp only [zf,Obj.cells.injEq] at q2;obtain ⟨rfl,_⟩:=q2
   have:bH.length-1<vals.size:=by
    rcases Nat.lt_or_ge (bH.length-1) vals.size with h|h
    ·exact h
    ·rw [zK h] at q4;cases q4
   omega
  ·obtain ⟨p0,JB,E2,x2,q1,q2,q3,q4,q5⟩:=rF j c hc;rw [e2] at q2;simp only [zf,Obj.cells.injEq] at q2;obtain ⟨rfl,_⟩:=q2;rw [hy] at q4;simp only [zf] at q4;subst q4;exact ⟨p0,q5⟩
 have ae:∀b,g.cl b≠.no→b<w.heap.size:=R.bd
 have mV:∀b,b<w.heap.size→b≠g.bk r0→w'.heap[b]?=w.heap[b]?:=fun b h1 h2=>by
  refine hL.fr b h1 ?_;cases h:((g.km (g.bk r0) lent).cl b).ck with
  |false=>rfl
  |true=>exact absurd (Gh.MR h) h2
 have lg:∀b,b<w.heap.size→(g.jr g' w.heap.size d cr X).cl b=g.cl b:=fun b h=>by simp [Gh.jr,h]
 have c_:∀b k,g.cl b=kc k→w'.heap[b]?=w.heap[b]?∧(g.jr g' w.heap.size d cr X).cl b=kc k:=fun b k h=>by
  have h1:=ae b (by rw [h];cases k<;>simp [kc]);exact ⟨mV b h1 (fun e=>by subst e;exact nG k h),by rw [lg b h1,h]⟩
 have Dn:∀b k,(k=false∨lent=false)→g'.cl b=kc k→(g.jr g' w.heap.size d cr X).cl b=kc k:=fun b k hk h=>(c_ b k (Gh.TN hk ((hL.im b k).1 h))).2
 have cq:∀n,((S.ms n).1).isSome→∀j ρ,(g.jr g' w.heap.size d cr X).hd (n+1) j ρ=g.hd (n+1) j ρ:=fun n hs j ρ=>by
  simp only [Gh.jr];rw [if_neg];rintro ⟨h1,h2⟩;have:n=d:=by omega
  subst this;rw [hn h2] at hs;cases hs
 have xL:∀r j p,Ms.b_ (az S.ms r0 (some (.bx bH),(S.ms r0).2)) r j p=S.ms.b_ r j p:=fun r j p=>by
  by_cases e:r=r0
  ·subst e;simp [Ms.b_,az]
  ·simp [Ms.b_,az,e]
 have br:∀{k:Bool} {dd:D} {x:Value},((C.ro k dd).bB=true∨lent=false)→RO w' g'.cl k dd x→RO w' (g.jr g' w.heap.size d cr X).cl k dd x:=fun {k dd x} hk h=>by
  by_cases hs:dd.bF=true
  ·cases h<;>first|exact .int _ _|exact .bool _|exact .str _|(simp [D.bF] at hs)
  ·have j6:k=false∨lent=false:=by
    rcases hk with hk|hk
    ·left;simpa [C.bB,hs] using hk
    ·exact .inr hk
   exact h.mono fun b hb=>⟨rfl,Dn b _ j6 hb⟩
 have DO:∀n,((az S.ms r0 (some (.bx bH),(S.ms r0).2) n).1).isSome=((S.ms n).1).isSome:=fun n=>by
  by_cases e:n=r0
  ·subst e;simp [az,hb]
  ·simp [az,e]
 have oP:∀{j:Nat} {dd:D} {x:Value},cr=true→X j=x→OW w' g' 0 j [] dd x→RC w' (g.jr g' w.heap.size d cr X) (d+1) j (.own dd) x:=by
  intro j dd x bW hx h;subst bW;refine .own _ _ (Hd.place (w:=w') (g:=g') (.inl h) (fun b ρ hb=>⟨rfl,?_⟩) (fun ρ g7=>?_) ?_)
  ·have au:¬b<w.heap.size:=fun ae=>by
    have h1:=hL.mi b ae (by rw [hb];rfl);have h2:=Gh.MR h1;subst h2;rw [C8] at hb;cases hb
   simp [Gh.jr,au,hb]
  ·simp [Gh.jr,g7]
  ·simp [Gh.jr,hx]
 refine ⟨g.jr g' w.heap.size d cr X,?_,fun {c j x} ho h1 h2 h=>?_,fun bW {c j x} ho h1 hx h=>?_,fun bW j=>?_⟩
 ·refine { av:=fun n=>?_,rt:=fun n cw h=>?_,eT:=fun n r h=>(by rw [DO];exact R.eT n r h),eA:=fun n cw j r1 j1 h hj=>?_,
           bd:=fun b h=>?_,sz:=Nat.le_trans R.sz hL.sz,fr:=fun b h hm=>?_,im:=fun b k=>?_,mi:=fun b h hm=>?_,sd:=R.sd.trans hL.sd,fK:=fun i hi=>?_ }
  ·exact (R.av n).mono c_ (fun r hr=>⟨rfl,fun j p hk=>⟨by rw [←xL];exact hk,cq r (R.eT n r hr) j p⟩⟩)
  ·by_cases e:n=r0
   ·subst e;simp only [g_,zf] at h;subst h;refine ⟨?_,vals,E,rk,jC,fun j c x hc hx=>?_⟩
    ·show (g.jr g' w.heap.size d cr X).cl (g.bk n)=.box n;rw [lg _ (ae _ (by rw [lO];simp)),lO]
    ·obtain ⟨h1,h2⟩:=ql j c x hc hx;cases h2 with
     |ro k dd _ h3=>exact .ro _ _ _ (br (jh _ (za hc)) h3)
     |own=>simp [C.gB] at h1
     |rf=>simp [C.gB] at h1
   ·simp only [fk e] at h;have h1:=R.rt n cw h;have hs:((S.ms n).1).isSome:=by rw [h];rfl
    refine h1.mono c_ (fun b j ρ hb=>?_) (fun jt cC=>?_) (fun j ρ=>cq n hs j ρ) (fun j r1 j1 hj=>?_)
    ·have h2:=ae b (by rw [hb];simp);exact ⟨mV b h2 (fun e2=>by subst e2;rw [lO] at hb;cases hb),by rw [lg b h2,hb]⟩
    ·subst cC;have h2:=h1.1;have h3:=ae (g.bk n) (by rw [h2];simp);refine ⟨rfl,mV _ h3 (fun e2=>?_),by rw [lg _ h3]⟩;rw [e2,lO] at h2;simp only [cG.box.injEq] at h2;exact e h2.symm
    ·obtain ⟨jt,h2⟩:=R.eA n cw j r1 j1 h hj;exact cq r1 (by rw [h2];rfl) j1 []
  ·by_cases e:n=r0
   ·subst e;simp only [g_,zf] at h;subst h;have:=(vp j _ hj).2;simp [C.bA] at this
   ·simp only [fk e] at h;obtain ⟨jt,h2⟩:=R.eA n cw j r1 j1 h hj;have:r1≠r0:=fun e2=>by subst e2;rw [hb] at h2;cases h2
    exact ⟨jt,by simp only [fk this];exact h2⟩
  ·by_cases h1:b<w.heap.size
   ·exact zn h1 hL.sz
   ·refine hL.bd b (fun e=>?_);simp [Gh.jr,h1,e] at h
  ·have h1:=zn h R.sz;rw [mV b h1 (fun e=>?_),R.fr b h hm];subst e;have:=R.mi _ h (by rw [lO];rfl);rw [this] at hm;cases hm
  ·refine Iff.trans ?_ (R.im b k);constructor
   ·intro h;by_cases h1:b<w.heap.size
    ·rwa [lg b h1] at h
    ·exfalso;simp only [Gh.jr,if_neg h1] at h;split at h<;>first|(cases k<;>simp [kc] at h;done)|(split at h<;>cases k<;>simp [kc] at h)
   ·exact fun h=>(c_ b k h).2
  ·have h1:=zn h R.sz;rw [lg b h1] at hm;exact R.mi b h hm
  ·have h4:=R.fK i hi;by_cases e:i=r0
   ·subst e;simp only [g_];rw [hb] at h4;exact h4
   ·simp only [fk e]
    have hs:((S.ms i).1).isSome:=by
     revert h4;cases (S.ms i).1 with
     |none=>exact fun h=>h.elim
     |some _=>exact fun _=>rfl
    have h5:=cq i hs;revert h4;cases (S.ms i).1 with
    |none=>exact id
    |some cw=>
     cases cw with
     |an cs=>exact fun h j1=>(h5 j1 []).trans (h j1)
     |bx cs=>exact id
 ·cases h with
  |ro k dd _ h=>exact .ro _ _ _ (br ho h)
  |own dd _ h=>
   simp only [C.cY,zy] at h1;refine .own _ _ ?_;cases h<;>first|exact .int _ _ _|exact .bool _ _|exact .str _ _|simp [D.bF] at h1
  |rf=>simp [C.bA] at h2
 ·cases h with
  |ro k dd _ h=>exact .ro _ _ _ (br ho h)
  |own dd _ h=>exact oP bW hx h
  |rf=>simp [C.bA] at h1
 ·subst bW;simp [Gh.jr]
theorem M3 {r:V} (h:r.tr=true):∀cs,r≠.ptr cs:=fun cs e=>by subst e;simp [V.tr] at h
theorem Nu {m2:Ms} {r:V} {v:Value} {w':World} {g':Gh} {lent:Bool} (dm:(r.bB||!lent)=true) (bZ:r.plain=true) (dj:∀cs,r≠.ptr cs) (hr:kY w' g' r v)
 (H:∀(cr:Bool) (X:Nat→Value),(cr=true→(m2 d).1=none)→∃g3,Rel w0 cl0 { S with ms:=m2 } a.tmps w' g3∧
  (∀{c:C} {j:Nat} {x:Value},(c.bB=true∨lent=false)→c.cY=false→c.bA=true→RC w' g' 0 j c x→RC w' g3 (d+1) j c x)∧
  (cr=true→∀{c:C} {j:Nat} {x:Value},(c.bB=true∨lent=false)→c.bA=true→X j=x→RC w' g' 0 j c x→RC w' g3 (d+1) j c x)∧
  (cr=true→∀j,g3.hd (d+1) j []=X j))
 (hn:((imp d r).2).isSome→(m2 d).1=none):eX w0 cl0 S a.tmps d (imp d r).1 (imp d r).2 m2 v w':=by
 obtain ⟨h_,mI⟩:=wU hr dj;have j_:=wC bZ dj
 have mP:∀c∈r.eu,c.bB=true∨lent=false:=by
  intro c hc;rcases zg _ _▸dm with h|h
  ·exact .inl (zb.1 (yq h dj) c hc)
  ·right;simpa using h
 rw [rH dj] at hn ⊢;by_cases fR:r.eu.any C.cY=true
 ·rw [if_pos fR] at hn ⊢;have eL:=hn rfl;obtain ⟨g3,R3,p1,p2,p3⟩:=H true (fun j=>(r.vals v).getD j undef) (fun _=>eL)
  have dp:∀(j:Nat) (c:C) (x:Value),r.eu[j]?=some c→(r.vals v)[j]?=some x→RC w' g3 (d+1) j c x:=by
   intro j c x hc hx;have h5:=mI j c x hc hx;rw [ze] at h5;exact p2 rfl (mP c (za hc)) (zb.1 j_ c (za hc)) (by simp [zH,hx]) h5
  refine ⟨_,R3.fresh (rt:=.an r.eu) eL (ek.refl d w' g3) (fun j c hc=>?_) (fun j r1 j1 hj=>?_),?_,fun q hq=>?_⟩
  ·have ae:=bE hc;have hx:(r.vals v)[j]?=some (r.vals v)[j]:=by simp [show j<(r.vals v).length from by omega]
   have:=dp j c _ hc hx;rw [p3 rfl j];simpa [zH,hx] using this
  ·have:=zb.1 j_ _ (za hj);simp [C.bA] at this
  ·exact qm hr dj (fun i c y hc hy=>pw (dp i c y hc hy))
  ·obtain ⟨rfl,_⟩:=o6 bZ dj hq;simp [az]
 ·rw [if_neg fR] at hn ⊢;obtain ⟨g3,R3,p1,p2,p3⟩:=H false (fun _=>undef) (fun e=>by cases e);refine ⟨g3,R3,?_,fun q hq=>?_⟩
  ·refine qm hr dj (fun i c y hc hy=>?_);have h5:=mI i c y hc hy;have e_:=zb.1 j_ c (za hc);rw [ze] at h5;refine pw (p1 (mP c (za hc)) ?_ e_ h5);cases h8:c.cY
   ·rfl
   ·exact absurd (zu.2 ⟨_,za hc,h8⟩) fR
  ·exact absurd (o6 bZ dj hq).2 fR
theorem PG (R:Rel w0 cl0 S a.tmps w g) {r0:Nat} {cs bH:List C} {xs:List V} {args:Array Value} {us:List (Nat×Nat×C)} {w':World} {g':Gh} {r:V} {v:Value} {lent:Bool}
 (hb:(S.ms r0).1=some (.bx cs)) (h0:args[0]?=some (.pointer (some ⟨g.bk r0,0,none⟩)))
 (dm:((r.bB&&us.all fun u=>u.2.2.bB)||!lent)=true) (bZ:r.plain=true) (dj:r.tr=true) (hr:kY w' g' r v)
 (hL:Left w (g.km (g.bk r0) lent) (.ptr cs::xs) args us w' g') (hu:n9 0 us=some bH) (gb:bH.all C.gB=true) (hlen:bH.length=cs.length) (qj:0<cs.length)
 (hn:((imp d r).2).isSome→(az S.ms r0 (some (.bx bH),(S.ms r0).2) d).1=none):
 eX w0 cl0 S a.tmps d (imp d r).1 (imp d r).2 (az S.ms r0 (some (.bx bH),(S.ms r0).2)) v w':=by
 have oO:(r.bB||!lent)=true:=by
  revert dm;cases r.bB<;>simp
 have jh:∀c∈bH,c.bB=true∨lent=false:=by
  intro c hc;obtain ⟨j,hj⟩:=zM.1 hc;have h1:=((Bp us hu).2 j c hj).1;rcases zg _ _▸dm with h|h
  ·simp only [zd] at h;exact .inl (zb.1 h.2 _ h1)
  ·right;simpa using h
 refine Nu oO bZ (M3 dj) hr (fun cr X h=>PD R hb h0 hL hu gb hlen qj (fun hc=>?_) jh) hn;have:=h hc;by_cases e:d=r0
 ·subst e;simp [az] at this
 ·simpa [az,e] using this
end
end
section
def cG.iH (r0:Nat):cG→Bool
 |.own (n+1) _ _=>n==r0
 |_=>false
theorem cG.yo {r0:Nat} {c:cG} (h:c.iH r0=true):∃j ρ,c=.own (r0+1) j ρ:=by
 cases c with
 |own n j ρ=>
  cases n with
  |zero=>simp [cG.iH] at h
  |succ n=>simp [cG.iH] at h;subst h;exact ⟨_,_,rfl⟩
 |_=>simp [cG.iH] at h
def Gh.iG (g:Gh) (b0 r0:Nat) (lent:Bool):Gh where
 cl:=fun b=>if b=b0 then .box 0 else if (g.cl b).iH r0 then (match g.cl b with
  |.own _ j ρ=>.own 1 j ρ
  |c=>c) else (g.de lent false fun r=>r==r0).cl b
 hd:=fun r j ρ=>if r=1 then g.hd (r0+1) j ρ else g.hd r j ρ
 bk:=g.bk
section
variable {P:Program} {κ:Nat→FuncId} {w0:World} {cl0:dv} {S:St} {w:World} {g:Gh} {a:Act} {Γ:Env} {d:Nat}
theorem Gh.TR {b0 r0 b j:Nat} {ρ:aY} {lent:Bool} (h0:g.cl b0=.box r0) (h:g.cl b=.own (r0+1) j ρ):(g.iG b0 r0 lent).cl b=.own 1 j ρ:=by
 simp only [Gh.iG];rw [if_neg (fun e=>by subst e;rw [h0] at h;cases h),if_pos (by rw [h];simp [cG.iH]),h]
theorem Gh.MS {b0 r0 b:Nat} {k lent:Bool} (h0:g.cl b0=.box r0) (h:(g.de lent false fun r=>r==r0).cl b=kc k):(g.iG b0 r0 lent).cl b=kc k:=by
 simp only [Gh.iG];rw [if_neg (fun e=>?_),if_neg (fun e=>?_)]
 ·exact h
 ·obtain ⟨j,ρ,e⟩:=cG.yo e;simp [Gh.de,e] at h;cases k<;>simp [kc] at h
 ·subst e;simp [Gh.de,h0] at h;cases k<;>simp [kc] at h
theorem Gh.TS {b0 r0 b:Nat} {k lent:Bool} (h0:g.cl b0=.box r0) (h:g.cl b=kc k):(g.iG b0 r0 lent).cl b=kc k:=Gh.MS h0 (Gh.ye h)
theorem Gh.TP {b0 r0 b:Nat} {k lent:Bool} (hk:k=false∨lent=false) (h:(g.iG b0 r0 lent).cl b=kc k):g.cl b=kc k:=by
 simp only [Gh.iG] at h;split at h
 ·cases k<;>simp [kc] at h
 ·split at h
  ·rename_i hr;obtain ⟨j,ρ,e⟩:=cG.yo hr;rw [e] at h;cases k<;>simp [kc] at h
  ·exact Gh.D9 hk h
theorem Gh.MT {b0 r0 b:Nat} {lent:Bool} (h:((g.iG b0 r0 lent).cl b).ck=true):b=b0∨(g.cl b).iH r0=true:=by
 simp only [Gh.iG] at h;split at h
 ·exact .inl (by assumption)
 ·split at h
  ·exact .inr (by assumption)
  ·rw [Gh.yf] at h;cases h
theorem Gh.TQ {b0 r0 b:Nat} {lent:Bool} (h0:g.cl b0=.box r0) (h:g.cl b=.no):(g.iG b0 r0 lent).cl b=.no:=by
 simp only [Gh.iG];rw [if_neg (fun e=>by subst e;rw [h0] at h;cases h),if_neg (by rw [h];simp [cG.iH])];exact Gh.D_ h
theorem Px {r:Nat} {cs:List C} {lent:Bool} (h:ku w g r (.bx cs)) (xR:cs.all C.bA=true):jb w (g.iG (g.bk r) r lent) 0 (.ptr cs) (.pointer (some ⟨g.bk r,0,none⟩)):=by
 obtain ⟨vals,E,h2,h3,h4⟩:=h.2;refine ⟨g.bk r,vals,E,rfl,by simp [Gh.iG],h2,by simpa using h3.symm,fun j c x hc hx=>?_⟩;rw [ze];have h5:=h4 j c x hc (by simpa using hx);have h6:=zb.1 xR c (za hc);cases h5 with
 |ro k dd _ h7=>exact .ro _ _ _ (h7.mono fun b hb=>⟨rfl,Gh.TS h.1 hb⟩)
 |own dd _ h7=>exact .own _ _ (h7.mono (q':=[]) (fun b ρ hb=>⟨rfl,by simpa using Gh.TR h.1 (by simpa using hb)⟩) (fun ρ=>by simp [Gh.iG]))
 |rf=>simp [C.bA] at h6
def Gh.hJ (g g':Gh) (size r0 n0 d:Nat) (cr:Bool) (X:Nat→Value):Gh where
 cl:=fun b=>if b<size∧(g.cl b).iH r0=false then g.cl b else match g'.cl b with
  |.own 1 j ρ=>.own (r0+1) j ρ
  |.own 0 n ρ=>if cr then .own (d+1) n ρ else .no
  |_=>.no
 hd:=fun r j ρ=>if r=r0+1∧j<n0 then g'.hd 1 j ρ else if r=d+1∧cr=true then (if ρ=[] then X j else g'.hd 0 j ρ) else g.hd r j ρ
 bk:=g.bk
theorem TG {r:Nat}:∀{n j:Nat},j<n→(j,([]:aY))∈nc r n:=by
 intro n;induction n with
 |zero=>intro j h;omega
 |succ n ih=>
  intro j h;simp only [nc];by_cases e:j=n
  ·subst e;simp
  ·exact zw _ (ih (by omega))
theorem PE (R:Rel w0 cl0 S a.tmps w g) {r0:Nat} {cs bH:List C} {xs:List V} {args:Array Value} {us:List (Nat×Nat×C)} {w':World} {g':Gh} {X:Nat→Value} {cr lent:Bool}
 (hb:(S.ms r0).1=some (.bx cs)) (h0:args[0]?=some (.pointer (some ⟨g.bk r0,0,none⟩)))
 (hL:Left w (g.iG (g.bk r0) r0 lent) (.ptr cs::xs) args us w' g') (hu:n9 0 us=some bH) (hlen:bH.length=cs.length) (qj:0<cs.length)
 (hn:cr=true→(S.ms d).1=none) (jh:∀c∈bH,c.bB=true∨lent=false):
 ∃g3,Rel w0 cl0 { S with ms:=az S.ms r0 (some (.bx bH),nc r0 cs.length++(S.ms r0).2) } a.tmps w' g3∧
  (∀{c:C} {j:Nat} {x:Value},(c.bB=true∨lent=false)→c.cY=false→c.bA=true→RC w' g' 0 j c x→RC w' g3 (d+1) j c x)∧
  (cr=true→∀{c:C} {j:Nat} {x:Value},(c.bB=true∨lent=false)→c.bA=true→X j=x→RC w' g' 0 j c x→RC w' g3 (d+1) j c x)∧
  (cr=true→∀j,g3.hd (d+1) j []=X j):=by
 have cj:=R.rt r0 _ hb;have nG:=BQ cj;have lO:g.cl (g.bk r0)=.box r0:=cj.1;obtain ⟨SP,vp⟩:=Bp us hu;have hdr:cr=true→d≠r0:=fun h e=>by have:=hn h;rw [e,hb] at this;cases this
 have rF:∀(j:Nat) (c:C),bH[j]?=some c→c.bA=true∧∃vals E x,g'.cl (g.bk r0)=.box 0∧w'.heap[g.bk r0]?=some (.cells vals E)∧vals.size≤us.length∧vals[j]?=some x∧RC w' g' 1 j c x:=by
  intro j c hc;obtain ⟨h1,h2⟩:=vp j c hc;rw [ze] at h1;have h3:=hL.up 0 j c h1;simp only [zz] at h3;obtain ⟨b,vals,E,x,e1,e2,e3,e4,e5,e6⟩:=h3;rw [h0] at e1;simp only [zf,Value.pointer.injEq,Addr.mk.injEq] at e1;obtain ⟨rfl,_⟩:=e1;exact ⟨h2,vals,E,x,e2,e3,e4,e5,e6⟩
 obtain ⟨C8,vals,E,rk,jC,ql⟩:g'.cl (g.bk r0)=.box 0∧∃vals E,w'.heap[g.bk r0]?=some (.cells vals E)∧vals.size=bH.length∧
  ∀(j:Nat) (c:C) (x:Value),bH[j]?=some c→vals[j]?=some x→c.bA=true∧RC w' g' 1 j c x:=by
  have bm:bH[0]?=some bH[0]:=by simp [show 0<bH.length from by omega]
  obtain ⟨_,vals,E,x,e1,e2,e3,e4,e5⟩:=rF 0 _ bm;refine ⟨e1,vals,E,e2,?_,fun j c y hc hy=>?_⟩
  ·have uW:bH[bH.length-1]?=some bH[bH.length-1]:=by simp [show bH.length-1<bH.length from by omega]
   obtain ⟨_,JB,E2,x2,q1,q2,q3,q4,q5⟩:=rF _ _ uW;rw [e2] at q2;simp only [zf,Obj.cells.injEq] at q2;obtain ⟨rfl,_⟩:=q2
   have:bH.length-1<vals.size:=by
    rcases Nat.lt_or_ge (bH.length-1) vals.size with h|h
    ·exact h
    ·rw [zK h] at q4;cases q4
   omega
  ·obtain ⟨p0,JB,E2,x2,q1,q2,q3,q4,q5⟩:=rF j c hc;rw [e2] at q2;simp only [zf,Obj.cells.injEq] at q2;obtain ⟨rfl,_⟩:=q2;rw [hy] at q4;simp only [zf] at q4;subst q4;exact ⟨p0,q5⟩
 have ae:∀b,g.cl b≠.no→b<w.heap.size:=R.bd
 have mV:∀b,b<w.heap.size→b≠g.bk r0→(g.cl b).iH r0=false→w'.heap[b]?=w.heap[b]?:=fun b h1 h2 h3=>by
  refine hL.fr b h1 ?_;cases h:((g.iG (g.bk r0) r0 lent).cl b).ck with
  |false=>rfl
  |true=>
   rcases Gh.MT h with h|h
   ·exact absurd h h2
   ·rw [h3] at h;cases h
 have lg:∀b,b<w.heap.size→(g.cl b).iH r0=false→(g.hJ g' w.heap.size r0 cs.length d cr X).cl b=g.cl b:=fun b h h2=>by simp only [Gh.hJ];rw [if_pos ⟨h,h2⟩]
 have xQ:∀b,(g'.cl b).ck=true→g'.cl b≠.box 0→¬(b<w.heap.size∧(g.cl b).iH r0=false):=fun b h1 h2 h3=>by
  rcases Gh.MT (hL.mi b h3.1 h1) with e|e
  ·subst e;exact h2 C8
  ·rw [h3.2] at e;cases e
 have Rl:∀b j ρ,g'.cl b=.own 1 j ρ→(g.hJ g' w.heap.size r0 cs.length d cr X).cl b=.own (r0+1) j ρ:=fun b j ρ h=>by
  simp only [Gh.hJ];rw [if_neg (xQ b (by rw [h];rfl) (by rw [h];simp))];simp only [h]
 have Mi:∀b k,g.cl b=kc k→(g.cl b).iH r0=false:=fun b k h=>by rw [h];cases k<;>rfl
 have c_:∀b k,g.cl b=kc k→w'.heap[b]?=w.heap[b]?∧(g.hJ g' w.heap.size r0 cs.length d cr X).cl b=kc k:=fun b k h=>by
  have h1:=ae b (by rw [h];cases k<;>simp [kc]);exact ⟨mV b h1 (fun e=>by subst e;exact nG k h) (Mi b k h),by rw [lg b h1 (Mi b k h),h]⟩
 have Dn:∀b k,(k=false∨lent=false)→g'.cl b=kc k→(g.hJ g' w.heap.size r0 cs.length d cr X).cl b=kc k:=fun b k hk h=>(c_ b k (Gh.TP hk ((hL.im b k).1 h))).2
 have cq:∀n,n≠r0→((S.ms n).1).isSome→∀j ρ,(g.hJ g' w.heap.size r0 cs.length d cr X).hd (n+1) j ρ=g.hd (n+1) j ρ:=fun n bm hs j ρ=>by
  simp only [Gh.hJ];rw [if_neg (fun e=>bm (by omega)),if_neg];rintro ⟨h1,h2⟩;have:n=d:=by omega
  subst this;rw [hn h2] at hs;cases hs
 have xL:∀r j p,r≠r0→Ms.b_ (az S.ms r0 (some (.bx bH),nc r0 cs.length++(S.ms r0).2)) r j p=S.ms.b_ r j p:=fun r j p e=>by
  simp [Ms.b_,az,e]
 have R8:∀j p,Ms.b_ (az S.ms r0 (some (.bx bH),nc r0 cs.length++(S.ms r0).2)) r0 j p=false→¬j<cs.length∧S.ms.b_ r0 j p=false:=fun j p h=>by
  simp only [Ms.b_,g_,List.any_append,Bool.or_eq_false_iff] at h;refine ⟨fun hj=>?_,h.2⟩;have:=List.any_eq_false.1 h.1 (j,[]) (TG hj);simp [jM] at this
 have br:∀{k:Bool} {dd:D} {x:Value},((C.ro k dd).bB=true∨lent=false)→RO w' g'.cl k dd x→RO w' (g.hJ g' w.heap.size r0 cs.length d cr X).cl k dd x:=fun {k dd x} hk h=>by
  by_cases hs:dd.bF=true
  ·exact h.bF hs
  ·have j6:k=false∨lent=false:=by
    rcases hk with hk|hk
    ·left;simpa [C.bB,hs] using hk
    ·exact .inr hk
   exact h.mono fun b hb=>⟨rfl,Dn b _ j6 hb⟩
 have DO:∀n,((az S.ms r0 (some (.bx bH),nc r0 cs.length++(S.ms r0).2) n).1).isSome=((S.ms n).1).isSome:=fun n=>by
  by_cases e:n=r0
  ·subst e;simp [az,hb]
  ·simp [az,e]
 have oP:∀{j:Nat} {dd:D} {x:Value},cr=true→X j=x→OW w' g' 0 j [] dd x→RC w' (g.hJ g' w.heap.size r0 cs.length d cr X) (d+1) j (.own dd) x:=by
  intro j dd x bW hx h;have iA:=hdr bW;subst bW;refine .own _ _ (Hd.place (w:=w') (g:=g') (.inl h) (fun b ρ hb=>⟨rfl,?_⟩) (fun ρ g7=>?_) ?_)
  ·simp only [Gh.hJ];rw [if_neg (xQ b (by rw [hb];rfl) (by rw [hb];simp)),hb];simp
  ·simp only [Gh.hJ];rw [if_neg (fun e=>iA (by omega))];simp [g7]
  ·simp only [Gh.hJ];rw [if_neg (fun e=>iA (by omega))];simp [hx]
 refine ⟨g.hJ g' w.heap.size r0 cs.length d cr X,?_,fun {c j x} ho h1 h2 h=>?_,fun bW {c j x} ho h1 hx h=>?_,fun bW j=>?_⟩
 ·refine { av:=fun n=>?_,rt:=fun n cw h=>?_,eT:=fun n r h=>(by rw [DO];exact R.eT n r h),eA:=fun n cw j r1 j1 h hj=>?_,
           bd:=fun b h=>?_,sz:=Nat.le_trans R.sz hL.sz,fr:=fun b h hm=>?_,im:=fun b k=>?_,mi:=fun b h hm=>?_,sd:=R.sd.trans hL.sd,fK:=fun i hi=>?_ }
  ·refine (R.av n).mono c_ (fun r hr=>⟨rfl,fun j p hk=>?_⟩);by_cases e:r=r0
   ·subst e;obtain ⟨q1,q2⟩:=R8 j p hk;refine ⟨q2,?_⟩;simp only [Gh.hJ];rw [if_neg (fun e=>q1 e.2),if_neg];rintro ⟨e1,e2⟩;exact hdr e2 (by omega)
   ·exact ⟨by rw [←xL r j p e];exact hk,cq r e (R.eT n r hr) j p⟩
  ·by_cases e:n=r0
   ·subst e;simp only [g_,zf] at h;subst h;refine ⟨?_,vals,E,rk,jC,fun j c x hc hx=>?_⟩
    ·show (g.hJ g' w.heap.size n cs.length d cr X).cl (g.bk n)=.box n;rw [lg _ (ae _ (by rw [lO];simp)) (by rw [lO];rfl),lO]
    ·obtain ⟨h1,h2⟩:=ql j c x hc hx;have RY:j<cs.length:=by have:=bE hc;omega
     cases h2 with
     |ro k dd _ h3=>exact .ro _ _ _ (br (jh _ (za hc)) h3)
     |own dd _ h3=>exact .own _ _ (h3.mono (q':=[]) (fun b ρ hb=>⟨rfl,by simpa using Rl b j _ hb⟩) (fun ρ=>by simp [Gh.hJ,RY]))
     |rf=>simp [C.bA] at h1
   ·simp only [fk e] at h;have h1:=R.rt n cw h;have hs:((S.ms n).1).isSome:=by rw [h];rfl
    refine h1.mono c_ (fun b j ρ hb=>?_) (fun jt cC=>?_) (fun j ρ=>cq n e hs j ρ) (fun j r1 j1 hj=>?_)
    ·have h2:=ae b (by rw [hb];simp);have h3:(g.cl b).iH r0=false:=by rw [hb];simp [cG.iH,e]
     exact ⟨mV b h2 (fun e2=>by subst e2;rw [lO] at hb;cases hb) h3,by rw [lg b h2 h3,hb]⟩
    ·subst cC;have h2:=h1.1;have h3:=ae (g.bk n) (by rw [h2];simp);have h4:(g.cl (g.bk n)).iH r0=false:=by rw [h2];rfl
     refine ⟨rfl,mV _ h3 (fun e2=>?_) h4,by rw [lg _ h3 h4]⟩;rw [e2,lO] at h2;simp only [cG.box.injEq] at h2;exact e h2.symm
    ·obtain ⟨jt,h2⟩:=R.eA n cw j r1 j1 h hj;have Sm:r1≠r0:=fun e2=>by subst e2;rw [hb] at h2;cases h2
     exact cq r1 Sm (by rw [h2];rfl) j1 []
  ·by_cases e:n=r0
   ·subst e;simp only [g_,zf] at h;subst h;have:=(vp j _ hj).2;simp [C.bA] at this
   ·simp only [fk e] at h;obtain ⟨jt,h2⟩:=R.eA n cw j r1 j1 h hj;have:r1≠r0:=fun e2=>by subst e2;rw [hb] at h2;cases h2
    exact ⟨jt,by simp only [fk this];exact h2⟩
  ·by_cases h1:b<w.heap.size
   ·exact zn h1 hL.sz
   ·refine hL.bd b (fun e=>?_);simp only [Gh.hJ] at h;rw [if_neg (fun e2=>h1 e2.1),e] at h;exact h rfl
  ·have h1:=zn h R.sz
   have lQ:(g.cl b).ck=false:=by
    cases h2:(g.cl b).ck with
    |false=>rfl
    |true=>have:=R.mi b h h2;rw [this] at hm;cases hm
   rw [mV b h1 (fun e=>by subst e;rw [lO] at lQ;cases lQ) (by
    cases h3:(g.cl b).iH r0 with
    |false=>rfl
    |true=>obtain ⟨j,ρ,e⟩:=cG.yo h3;rw [e] at lQ;cases lQ),R.fr b h hm]
  ·refine Iff.trans ?_ (R.im b k);constructor
   ·intro h;by_cases h1:b<w.heap.size∧(g.cl b).iH r0=false
    ·rwa [lg b h1.1 h1.2] at h
    ·exfalso;simp only [Gh.hJ,if_neg h1] at h;split at h<;>first|(cases k<;>simp [kc] at h;done)|(split at h<;>cases k<;>simp [kc] at h)
   ·exact fun h=>(c_ b k h).2
  ·have h1:=zn h R.sz;by_cases h2:(g.cl b).iH r0=false
   ·rw [lg b h1 h2] at hm;exact R.mi b h hm
   ·obtain ⟨j,ρ,e⟩:=cG.yo (c:=g.cl b) (r0:=r0) (by simpa using h2);exact R.mi b h (by rw [e];rfl)
  ·have h4:=R.fK i hi;by_cases e:i=r0
   ·subst e;simp only [g_];rw [hb] at h4;exact h4
   ·simp only [fk e]
    have hs:((S.ms i).1).isSome:=by
     revert h4;cases (S.ms i).1 with
     |none=>exact fun h=>h.elim
     |some _=>exact fun _=>rfl
    have h5:=cq i e hs;revert h4;cases (S.ms i).1 with
    |none=>exact id
    |some cw=>
     cases cw with
     |an cs=>exact fun h j1=>(h5 j1 []).trans (h j1)
     |bx cs=>exact id
 ·cases h with
  |ro k dd _ h=>exact .ro _ _ _ (br ho h)
  |own dd _ h=>
   simp only [C.cY,zy] at h1;refine .own _ _ ?_;cases h<;>first|exact .int _ _ _|exact .bool _ _|exact .str _ _|simp [D.bF] at h1
  |rf=>simp [C.bA] at h2
 ·cases h with
  |ro k dd _ h=>exact .ro _ _ _ (br ho h)
  |own dd _ h=>exact oP bW hx h
  |rf=>simp [C.bA] at h1
 ·have iA:=hdr bW;subst bW;simp only [Gh.hJ];rw [if_neg (fun e=>iA (by omega))];simp
theorem PJ (R:Rel w0 cl0 S a.tmps w g) {r0:Nat} {cs bH:List C} {xs:List V} {args:Array Value} {us:List (Nat×Nat×C)} {w':World} {g':Gh} {r:V} {v:Value} {lent:Bool}
 (hb:(S.ms r0).1=some (.bx cs)) (h0:args[0]?=some (.pointer (some ⟨g.bk r0,0,none⟩)))
 (dm:((r.bB&&us.all fun u=>u.2.2.bB)||!lent)=true) (bZ:r.plain=true) (dj:r.tr=true) (hr:kY w' g' r v)
 (hL:Left w (g.iG (g.bk r0) r0 lent) (.ptr cs::xs) args us w' g') (hu:n9 0 us=some bH) (hlen:bH.length=cs.length) (qj:0<cs.length)
 (hn:((imp d r).2).isSome→(az S.ms r0 (some (.bx bH),nc r0 cs.length++(S.ms r0).2) d).1=none):
 eX w0 cl0 S a.tmps d (imp d r).1 (imp d r).2 (az S.ms r0 (some (.bx bH),nc r0 cs.length++(S.ms r0).2)) v w':=by
 have oO:(r.bB||!lent)=true:=by
  revert dm;cases r.bB<;>simp
 have jh:∀c∈bH,c.bB=true∨lent=false:=by
  intro c hc;obtain ⟨j,hj⟩:=zM.1 hc;have h1:=((Bp us hu).2 j c hj).1;rcases zg _ _▸dm with h|h
  ·simp only [zd] at h;exact .inl (zb.1 h.2 _ h1)
  ·right;simpa using h
 refine Nu oO bZ (M3 dj) hr (fun cr X h=>PE R hb h0 hL hu hlen qj (fun hc=>?_) jh) hn;have:=h hc;by_cases e:d=r0
 ·subst e;simp [az] at this
 ·simpa [az,e] using this
end
end
section
section
variable {P:Program} {κ:Nat→FuncId} {w0:World} {cl0:dv} {S:St} {w:World} {g:Gh} {a:Act} {Γ:Env} {d:Nat}
def sF (P:Program) (K:Value→World→Prop):Result Next→Prop
 |.ok (.value v) w'=>K v w'
 |.ok .skip w'=>K undef w'
 |.ok (.enter f args) w'=>Calls P f args w' fun e ub=>∃v,e=.returned v∧K v ub
 |_=>False
structure og (P:Program) (κ:Nat→FuncId) (Γ:Env):Prop where
 fI:κ=OM.fI
 ok:∀f xs r us,Γ f xs=some (r,us)→OK P (κ f) xs r us
 body:∀f xs y,Γ f xs=some y→pK P (κ f)=true
theorem sI (R:Rel w0 cl0 S a.tmps w g) {lent bl:Bool} {ex:Nat→Bool}:∀(as:List AV) (vs:List Value) (xs:List V) (i:Nat),as.length=vs.length→
 (∀(k:Nat) (av:AV) (x:Value),as[k]?=some av→vs[k]?=some x→RA w g S.ms av x)→dW S.ms [] i as=some xs→(eD [] i as=true→lent=true)→(as.any AV.kH=true→bl=true)→(∀av∈as,∀r∈av.refs,ex r=false)→
 xs.length=vs.length∧∀(k:Nat) (x:V) (v:Value),xs[k]?=some x→vs[k]?=some v→jb w (g.de lent bl ex) (i+k) x v:=by
 intro as;induction as with
 |nil=>intro vs xs i hl ch h oL oI hex;simp [dW] at h;subst h;cases vs<;>simp at hl ⊢
 |cons av as ih=>
  intro vs xs i hl ch h oL oI hex;cases vs with
  |nil=>simp at hl
  |cons v vs=>
   simp only [dW,zR] at h;cases h1:jq S.ms false av with
   |none=>simp [h1] at h
   |some x=>
    simp only [h1] at h;cases h2:dW S.ms [] (i+1) as with
    |none=>simp [h2] at h
    |some xs2=>
     simp only [h2] at h;simp at h;subst h;have mN:av.lent=true→lent=true:=fun hh=>oL (by simp [eD,hh])
     have bY:eD [] (i+1) as=true→lent=true:=fun hh=>oL (by simp [eD,hh])
     have xI:av.kH=true→bl=true:=fun hh=>oI (by simp [hh])
     have qd:as.any AV.kH=true→bl=true:=fun hh=>oI (by rw [List.any_cons,hh,Bool.or_true])
     obtain ⟨q1,q2⟩:=ih vs xs2 (i+1) (by simpa using hl) (fun k av x hk hx=>ch (k+1) av x hk hx) h2 bY qd (fun av hv=>hex av (zw _ hv));refine ⟨by simp [q1],fun k y z hy hz=>?_⟩;cases k with
     |zero=>simp at hy hz;subst hy;subst hz;exact Pk R (ch 0 av v rfl rfl) h1 mN xI (hex _ (List.mem_cons_self ..)) i
     |succ k=>
      have:=q2 k y z hy hz;rwa [show i+(k+1)=i+1+k from by omega]
theorem UD (R:Rel w0 cl0 S a.tmps w g) {k:Nat} {x:PX} {op:Op} {av:AV} {rt:Option Rt} {m':Ms}
 (hc:bf P κ (.rL k x) op=true) (h:ay Γ S.ev d S.ms (.rL k x)=some (av,rt,m')):fN P S w g a av rt m' op:=by
 cases op with
 |makeFunc fn first captured=>?_
 |_=>simp [bf] at hc
 simp only [bf] at hc;split at hc
 ·rename_i f c cz;simp only [zd,beq_iff_eq] at hc;obtain ⟨⟨RI,Da⟩,hx⟩:=hc;simp only [ay] at h;split at h
  ·rename_i r bJ;simp at h;obtain ⟨rfl,rfl,rfl⟩:=h;obtain ⟨h1,h2⟩:=b8 R hx;rw [bJ] at h1 h2;have dG:captured=#[c]:=by rw [←cz]
   refine ⟨rfl,rfl,fun o ho=>?_⟩;generalize hv:a.eval c=v at h1;cases h1;refine ⟨_,?_,.fv k r,fun q hq=>h2 q (by simpa [AV.refs] using hq)⟩;have sY:first=#[]:=zB Da
   subst dG sY;simp [execOp,ho,Instr.makeFunc,hv,RI]
  ·cases h
 ·cases hc
theorem Un (R:Rel w0 cl0 S a.tmps w g) {x:PX} {args:List PX} {op:Op} {av:AV} {rt:Option Rt} {m':Ms} (eC:rt.isSome→(m' d).1=none)
 (fA:og P κ Γ) (hc:bf P κ (.lG x args) op=true) (h:ay Γ S.ev d S.ms (.lG x args)=some (av,rt,m')) (o:Oper) (ho:o.op=op):
 sF P (fun v w'=>eX w0 cl0 S a.tmps d av rt m' v w') ((execOp a.eval o).run P w):=by
 cases op with
 |call c=>?_
 |_=>simp [bf] at hc
 obtain ⟨callee,cZ,KD⟩:=c;obtain ⟨cZ⟩:=cZ;simp only [bf] at hc;split at hc
 ·rename_i t;simp only [zd] at hc;obtain ⟨hx,lq⟩:=hc;obtain ⟨nH,fS⟩:=B2 args cZ lq;simp only [ay] at h;split at h
  ·rename_i k f ds bJ;split at h
   ·rename_i xs ew;split at h
    ·rename_i r us hg;split at h
     ·rename_i dA;simp only [zd] at dA;obtain ⟨bZ,dm⟩:=dA;split at h
      ·simp at h;obtain ⟨rfl,rfl,rfl⟩:=h
       have ch:∀(k:Nat) (av:AV) (x:Value),(args.map S.ev)[k]?=some av→(cZ.map a.eval)[k]?=some x→RA w g S.ms av x:=by
        intro k av x h1 h2;simp only [zo,zj] at h1 h2;obtain ⟨px,h1,rfl⟩:=h1;obtain ⟨ox,h2,rfl⟩:=h2;exact (b8 R (fS k px ox h1 h2)).1
       obtain ⟨q1,q2⟩:=sI (lent:=eD [] 0 (args.map S.ev)) (bl:=true) (ex:=fun _=>false) R (args.map S.ev) (cZ.map a.eval) xs 0 (by simpa using nH) ch ew (fun h=>h) (fun _=>rfl) (fun _ _ _ _=>rfl);have iQ:=fA.body f _ _ hg;have LZ:=fA.ok f _ _ _ hg;rw [fA.fI] at iQ LZ;have Dc:=(b8 R hx).1;rw [bJ] at Dc
       have cz:∃qP:List Value,a.eval (.tmp t)=.func (.func (fI f)) #[] qP.toArray∧(pL k ds).length=qP.length∧
        ∀(i:Nat) (y:V) (v:Value),(pL k ds)[i]?=some y→qP[i]?=some v→∀n,jb w (g.de (eD [] 0 (args.map S.ev)) true fun _=>false) n y v:=by
        generalize a.eval (.tmp t)=fv at Dc ⊢;cases Dc with
        |v _ _ _ br=>
         cases br with
         |fn=>exact ⟨[],rfl,rfl,fun i y v hy=>by simp [pL] at hy⟩
         |sR _ _ b bm bq hs hk=>
          cases ds with
          |nil=>exact absurd rfl bm
          |cons d0 ds=>
           refine ⟨[.pointer (some ⟨b,0,none⟩)],rfl,rfl,fun i y v hy hv n=>?_⟩;cases i with
           |succ i=>simp at hv
           |zero=>
            simp [pL] at hy hv;subst hy;subst hv;have h1:RO w g.cl k (.rp (d0::ds)) (.pointer (some ⟨b,0,none⟩)):=.rp _ b (by simp) bq hs hk;have h2:RO w (g.de (eD [] 0 (args.map S.ev)) true fun _=>false).cl k (.rp (d0::ds)) (.pointer (some ⟨b,0,none⟩)):=h1.mono fun b hb=>⟨rfl,Gh.ye hb⟩
            exact ⟨⟨.ro _ _ _ h2,rfl⟩,fun h=>by simp [V.flat,C.cY] at h⟩
       obtain ⟨qP,oI,bq,bW⟩:=cz
       have dC:(execOp a.eval o).run P w=.ok (.enter (fI f) (cZ.map a.eval++qP).toArray) w:=by
        unfold pK at iQ;split at iQ
        ·rename_i fn rj;simp only [zd,bne_iff_ne,ne_eq] at iQ;have p_:fn.body.isNone=false:=by cases hb:fn.body<;>simp_all
         have lQ:(fn.name== "runtime.NumGoroutine")=false:=by simpa using iQ.2
         simp only [execOp,ho,resolve,oI,Deferred.ofValue,pure_bind,invoke,callFunc,Sem.run_bind,run_program,Result.andThen_ok,List.map_toArray,Array.empty_append,List.append_toArray,rj];simp [lQ,p_]
        ·cases iQ
       rw [dC]
       have:=LZ w (cZ.map a.eval++qP).toArray (g.de (eD [] 0 (args.map S.ev)) true fun _=>false) (by simp only [List.size_toArray,List.length_append];omega)
        (fun b hb=>R.bd b (fun e=>hb (Gh.D_ e))) (fun i y v hy hv=>by
         have hv:(cZ.map a.eval++qP)[i]?=some v:=by simpa using hv
         by_cases hi:i<xs.length
         ·rw [zJ hi] at hy;rw [zJ (by omega)] at hv;have:=q2 i y v hy hv;rwa [ze] at this
         ·rw [List.getElem?_append_right (by omega)] at hy hv;rw [q1] at hy
          exact bW _ y v hy hv i)
       refine this.mono (fun e w' he=>?_);obtain ⟨v,g',rfl,hr,hL⟩:=he;exact ⟨v,rfl,Ki R bZ dm hr hL eC⟩
      ·cases h
     ·cases h
    ·cases h
   ·cases h
  ·cases h
 ·cases hc
theorem Ul (R:Rel w0 cl0 S a.tmps w g) {f:Nat} {io:List Nat} {args:List PX} {op:Op} {av:AV} {rt:Option Rt} {m':Ms} (eC:rt.isSome→(m' d).1=none)
 (fA:og P κ Γ)
 (hc:bf P κ (.call f io args) op=true) (h:ay Γ S.ev d S.ms (.call f io args)=some (av,rt,m')) (o:Oper) (ho:o.op=op):
 sF P (fun v w'=>eX w0 cl0 S a.tmps d av rt m' v w') ((execOp a.eval o).run P w):=by
 cases op with
 |call c=>?_
 |_=>simp [bf] at hc
 obtain ⟨callee,cZ,KD⟩:=c;obtain ⟨cZ⟩:=cZ;simp only [bf] at hc;split at hc
 ·rename_i f';simp only [zd,beq_iff_eq] at hc;obtain ⟨⟨hk,lq⟩,lk⟩:=hc;subst hk;split at lk
  ·rename_i fn rj;simp only [zd,bne_iff_ne,ne_eq] at lk;obtain ⟨iQ,Dw⟩:=lk
   have dC:(execOp a.eval o).run P w=.ok (.enter (κ f) (cZ.map a.eval).toArray) w:=by
    have p_:fn.body.isNone=false:=by cases hb:fn.body<;>simp_all
    have lQ:(fn.name== "runtime.NumGoroutine")=false:=by simpa using Dw
    simp only [execOp,ho,resolve,Act.eval,Deferred.ofValue,pure_bind,invoke,callFunc,Sem.run_bind,run_program,Result.andThen_ok,rj];simp [lQ,p_]
   rw [dC];obtain ⟨nH,fS⟩:=B2 args cZ lq;simp only [ay] at h;split at h
   ·split at h
    ·rename_i xs ew;split at h
     ·rename_i r us hg;split at h
      ·rename_i dA;simp only [zd] at dA;obtain ⟨bZ,dm⟩:=dA;split at h
       ·simp at h;obtain ⟨rfl,rfl,rfl⟩:=h
        have ch:∀(k:Nat) (av:AV) (x:Value),(args.map S.ev)[k]?=some av→(cZ.map a.eval)[k]?=some x→RA w g S.ms av x:=by
         intro k av x h1 h2;simp only [zo,zj] at h1 h2;obtain ⟨px,h1,rfl⟩:=h1;obtain ⟨ox,h2,rfl⟩:=h2;exact (b8 R (fS k px ox h1 h2)).1
        obtain ⟨q1,q2⟩:=sI (lent:=eD [] 0 (args.map S.ev)) (bl:=true) (ex:=fun _=>false) R (args.map S.ev) (cZ.map a.eval) xs 0 (by simpa using nH) ch ew (fun h=>h) (fun _=>rfl) (fun _ _ _ _=>rfl)
        have:=fA.ok f xs r [] hg w (cZ.map a.eval).toArray (g.de (eD [] 0 (args.map S.ev)) true fun _=>false) (by simpa using q1.symm)
         (fun b hb=>R.bd b (fun e=>hb (Gh.D_ e))) (fun i x v hx hv=>by
          have:=q2 i x v hx (by simpa using hv)
          rwa [ze] at this)
        refine this.mono (fun e w' he=>?_);obtain ⟨v,g',rfl,hr,hL⟩:=he;exact ⟨v,rfl,Ki R bZ dm hr hL eC⟩
       ·cases h
      ·cases h
     ·cases h
    ·cases h
   ·split at h
    ·cases h
    ·rename_i a0 rest sU;split at h
     ·rename_i r0 cs0 jB;split at h
      ·rename_i xs ew
       have Dy:rest.any AV.kH=false:=by
        cases hh:rest.any AV.kH with
        |false=>rfl
        |true=>rw [hh] at ew;simp at ew
       rw [Dy] at ew;simp only [zt,if_false] at ew;split at h
       ·rename_i r us hg;split at h
        ·rename_i dA;simp only [zd] at dA;split at h
         ·rename_i bH xY;split at h
          ·rename_i hlen;split at h
           ·rename_i mb lN;simp at h;obtain ⟨rfl,rfl,rfl⟩:=h;cases args with
            |nil=>simp at sU
            |cons px args=>
             simp only [zW,zV] at sU;obtain ⟨rfl,rfl⟩:=sU;cases cZ with
             |nil=>simp at nH
             |cons o0 cZ=>
             have iE:b7 px o0=true:=fS 0 px o0 rfl rfl;have Di:∀(k:Nat) (x:PX) (o:Operand),args[k]?=some x→cZ[k]?=some o→b7 x o=true:=fun k x o h1 h2=>fS (k+1) x o h1 h2
             have xO:args.length=cZ.length:=by simpa using nH
             obtain ⟨bJ,hb,br⟩:=Vh jB;have cj:=R.rt r0 _ hb
             have cO:a.eval o0=.pointer (some ⟨g.bk r0,0,none⟩):=by
              have h1:=(b8 R iE).1;rw [bJ] at h1;generalize a.eval o0=y at h1 ⊢;cases h1;rfl
             have ch:∀(k:Nat) (av:AV) (x:Value),(args.map S.ev)[k]?=some av→(cZ.map a.eval)[k]?=some x→RA w g S.ms av x:=by
              intro k av x h1 h2;simp only [zo,zj] at h1 h2;obtain ⟨px,h1,rfl⟩:=h1;obtain ⟨ox,h2,rfl⟩:=h2;exact (b8 R (Di k px ox h1 h2)).1
             have dc:g.bk r0<w.heap.size:=R.bd _ (by rw [cj.1];simp);unfold sK at lN;split at lN
             ·rename_i LW;simp only [zd] at LW;obtain ⟨br,gb⟩:=LW;simp at lN;subst lN;obtain ⟨q1,q2⟩:=sI (lent:=eD [] 1 (args.map S.ev)) (bl:=false) (ex:=fun _=>false) R (args.map S.ev) (cZ.map a.eval) xs 1 (by simpa using xO) ch ew (fun h=>h) (fun h=>by rw [Dy] at h;cases h) (fun _ _ _ _=>rfl)
              have hK:∀b k,(g.de (eD [] 1 (args.map S.ev)) false fun _=>false).cl b=kc k→(g.km (g.bk r0) (eD [] 1 (args.map S.ev))).cl b=kc k:=fun b k hb=>by
               simp only [Gh.km];rw [if_neg (fun e=>?_)]
               ·exact hb
               ·subst e;simp only [Gh.de,cj.1,Bool.and_false,Bool.false_and,zt,if_false] at hb;cases k<;>simp [kc] at hb
              have:=fA.ok f (.ptr cs0::xs) r us hg w (((o0::cZ).map a.eval).toArray) (g.km (g.bk r0) (eD [] 1 (args.map S.ev))) (by simpa using q1.symm)
               (fun b hb=>by
                by_cases e:b=g.bk r0
                ·rw [e];exact dc
                ·exact R.bd b (fun e2=>hb (by simp [Gh.km,Gh.de,e,e2]))) (fun i x v hx hv=>by
                cases i with
                |zero=>
                 simp at hx hv;subst hx;subst hv;rw [cO];exact Pw cj br
                |succ i=>
                 have fH:xs[i]?=some x:=by simpa using hx
                 have h1:=q2 i x v fH (by simpa using hv);rw [zP 1 i] at h1;obtain ⟨b,hb⟩:=w7 _ _ _ ew i x fH
                 exact h1.rJ hK (wY hb) (wZ hb))
              refine this.mono (fun e w' he=>?_);obtain ⟨v,g',rfl,hr,hL⟩:=he;exact ⟨v,rfl,PG R hb (by simp [cO]) dA.2 dA.1.1 dA.1.2 hr hL xY gb hlen.1 hlen.2 eC⟩
             ·split at lN
              ·rename_i ve;simp at lN;subst lN
               have hex:∀av∈args.map S.ev,∀r∈av.refs,(fun r=>r==r0) r=false:=fun av cQ r hr=>by
                have h1:=zb.1 ve av cQ;simp only [zI,List.contains_eq_mem,decide_eq_false_iff_not] at h1;simp only [beq_eq_false_iff_ne,ne_eq];exact fun e=>h1 (e▸hr)
               obtain ⟨q1,q2⟩:=sI (lent:=eD [] 1 (args.map S.ev)) (bl:=false) (ex:=fun r=>r==r0) R (args.map S.ev) (cZ.map a.eval) xs 1 (by simpa using xO) ch ew (fun h=>h) (fun h=>by rw [Dy] at h;cases h) hex;have hK:∀b k,(g.de (eD [] 1 (args.map S.ev)) false fun r=>r==r0).cl b=kc k→(g.iG (g.bk r0) r0 (eD [] 1 (args.map S.ev))).cl b=kc k:=fun b k hb=>Gh.MS cj.1 hb
               have:=fA.ok f (.ptr cs0::xs) r us hg w (((o0::cZ).map a.eval).toArray) (g.iG (g.bk r0) r0 (eD [] 1 (args.map S.ev))) (by simpa using q1.symm)
                (fun b hb=>R.bd b (fun e=>hb (Gh.TQ cj.1 e))) (fun i x v hx hv=>by
                cases i with
                |zero=>
                 simp at hx hv;subst hx;subst hv;rw [cO];exact Px cj br
                |succ i=>
                 have fH:xs[i]?=some x:=by simpa using hx
                 have h1:=q2 i x v fH (by simpa using hv);rw [zP 1 i] at h1;obtain ⟨b,hb⟩:=w7 _ _ _ ew i x fH
                 exact h1.rJ hK (wY hb) (wZ hb))
               refine this.mono (fun e w' he=>?_);obtain ⟨v,g',rfl,hr,hL⟩:=he;exact ⟨v,rfl,PJ R hb (by simp [cO]) dA.2 dA.1.1 dA.1.2 hr hL xY hlen.1 hlen.2 eC⟩
              ·cases lN
           ·cases h
          ·cases h
         ·cases h
        ·cases h
       ·cases h
      ·cases h
     rename_i abE;split at h
     ·rename_i x0 m1 td;split at h
      ·rename_i xs ew
       ·split at h
        ·rename_i r us hg;split at h
         ·rename_i bZ;simp only [zd] at bZ;obtain ⟨bZ,So⟩:=bZ;split at h
          ·rename_i m2 hu;simp at h;obtain ⟨rfl,rfl,rfl⟩:=h;cases args with
           |nil=>simp at sU
           |cons px args=>
            simp only [zW,zV] at sU;obtain ⟨rfl,rfl⟩:=sU;cases cZ with
            |nil=>simp at nH
            |cons o0 cZ=>
             have iE:b7 px o0=true:=fS 0 px o0 rfl rfl;have Di:∀(k:Nat) (x:PX) (o:Operand),args[k]?=some x→cZ[k]?=some o→b7 x o=true:=fun k x o h1 h2=>fS (k+1) x o h1 h2
             have xO:args.length=cZ.length:=by simpa using nH
             obtain ⟨DB,fG,Mj⟩:=Nc td;obtain ⟨g1,R1,T1,cO⟩:=yr R (b8 R iE).1 td 0;have DF:∀{w:World} {g:Gh},Rel w0 cl0 { S with ms:=m1 } a.tmps w g→RA w g m1 (S.ev px) (a.eval o0):=fun R2=>(b8 R2 iE).1
             have ch:∀(k:Nat) (av:AV) (x:Value),(args.map S.ev)[k]?=some av→(cZ.map a.eval)[k]?=some x→RA w g1 m1 av x:=by
              intro k av x h1 h2;simp only [zo,zj] at h1 h2;obtain ⟨px,h1,rfl⟩:=h1;obtain ⟨ox,h2,rfl⟩:=h2;exact (b8 R1 (Di k px ox h1 h2)).1
             obtain ⟨q1,q2⟩:=sI (lent:=eD [] 1 (args.map S.ev)) (bl:=true) (ex:=fun _=>false) R1 (args.map S.ev) (cZ.map a.eval) xs 1 (by simpa using xO) ch ew (fun h=>h) (fun _=>rfl) (fun _ _ _ _=>rfl);have hX:∀(j:Nat) (y:Value),(a.eval o0).cells[j]?=some y→(fun j:Nat=>((a.eval o0).cells[j]?).getD undef) j=y:=fun j y hy=>by simp [hy]
             have hA:=RE (X:=fun j:Nat=>((a.eval o0).cells[j]?).getD undef) (lent:=eD [] 1 (args.map S.ev)) DB hX cO;have hK:∀b k,(g1.de (eD [] 1 (args.map S.ev)) true fun _=>false).cl b=kc k→(g1.gi (fun j:Nat=>((a.eval o0).cells[j]?).getD undef) (eD [] 1 (args.map S.ev))).cl b=kc k:=fun b k hb=>Gh.QJ hb
             have:=fA.ok f (x0::xs) r us hg w (((o0::cZ).map a.eval).toArray) (g1.gi (fun j:Nat=>((a.eval o0).cells[j]?).getD undef) (eD [] 1 (args.map S.ev))) (by simpa using q1.symm)
              (fun b hb=>R1.bd b (fun e=>hb (Gh.QK e))) (fun i x v hx hv=>by
               cases i with
               |zero=>
                simp at hx hv;subst hx;subst hv;exact hA
               |succ i=>
                have fH:xs[i]?=some x:=by simpa using hx
                have h1:=q2 i x v fH (by simpa using hv);rw [zP 1 i] at h1;obtain ⟨b,hb⟩:=w7 _ _ _ ew i x fH
                exact h1.rJ hK (wY hb) (wZ hb))
             refine this.mono (fun e w' he=>?_);obtain ⟨v,g',rfl,hr,hL⟩:=he;refine ⟨v,rfl,PH R1 So DF (fun hn=>?_) fG (by simp) bZ hr hL hu eC⟩;cases x0 with
             |one c=>exact cO.2
             |st cs=>
              exfalso;have h2:=td;unfold ie at h2;split at h2
              ·rename_i kF h3;exact hn _ h3
              ·split at h2<;>simp at h2
             |ptr cs=>exact absurd rfl (fG cs)
             |a_=>exact absurd rfl (Mj _)
          ·cases h
         ·cases h
        ·cases h
      ·cases h
     ·cases h
  ·cases lk
 ·cases hc
theorem Um (R:Rel w0 cl0 S a.tmps w g) {f i:Nat} {args:List PX} {op:Op} {av:AV} {rt:Option Rt} {m':Ms} (eC:rt.isSome→(m' d).1=none)
 (fA:og P κ Γ) (hc:bf P κ (.gM f i args) op=true) (h:ay Γ S.ev d S.ms (.gM f i args)=some (av,rt,m')) (o:Oper) (ho:o.op=op):
 sF P (fun v w'=>eX w0 cl0 S a.tmps d av rt m' v w') ((execOp a.eval o).run P w):=by
 cases op with
 |call c=>?_
 |_=>simp [bf] at hc
 obtain ⟨callee,cZ,KD⟩:=c;obtain ⟨cZ⟩:=cZ;simp only [bf] at hc;split at hc
 ·rename_i f';simp only [zd,beq_iff_eq,decide_eq_true_eq] at hc;obtain ⟨⟨⟨hk,lq⟩,rl⟩,lk⟩:=hc;subst hk;split at lk
  ·rename_i fn rj;simp only [zd,bne_iff_ne,ne_eq] at lk;obtain ⟨iQ,Dw⟩:=lk
   have dC:(execOp a.eval o).run P w=.ok (.enter (κ f) (cZ.map a.eval).toArray) w:=by
    have p_:fn.body.isNone=false:=by cases hb:fn.body<;>simp_all
    have lQ:(fn.name== "runtime.NumGoroutine")=false:=by simpa using Dw
    simp only [execOp,ho,resolve,Act.eval,Deferred.ofValue,pure_bind,invoke,callFunc,Sem.run_bind,run_program,Result.andThen_ok,rj];simp [lQ,p_]
   rw [dC];obtain ⟨nH,fS⟩:=B2 args cZ lq;simp only [ay] at h;split at h
   ·rename_i a0 la;split at h
    ·rename_i x0 m1 td;split at h
     ·rename_i xs ew;split at h
      ·rename_i r us hg;split at h
       ·rename_i dA;simp only [zd] at dA;obtain ⟨bZ,dm⟩:=dA;simp at h;obtain ⟨rfl,rfl,rfl⟩:=h;simp only [zo,zj] at la;obtain ⟨px,SA,rfl⟩:=la;have nF:i<cZ.length:=by omega
        obtain ⟨o0,Mh⟩:∃o0,cZ[i]?=some o0:=⟨_,List.getElem?_eq_getElem nF⟩;have iE:b7 px o0=true:=fS i px o0 SA Mh;obtain ⟨DB,fG,Mj⟩:=Nc td;obtain ⟨g1,R1,T1,cO⟩:=yr R (b8 R iE).1 td 0;generalize oL:eD [] 0 ((args.map S.ev).set i (.v false (.bool true)))=lent at dm
        have ch:∀(k:Nat) (av:AV) (x:Value),((args.map S.ev).set i (.v false (.bool true)))[k]?=some av→((cZ.map a.eval).set i (.bool true))[k]?=some x→RA w g1 m1 av x:=by
         intro k av x h1 h2;by_cases e:i=k
         ·subst e;rw [zA (by simpa using rl)] at h1;rw [zA (by simpa using nF)] at h2;cases h1;cases h2;exact .v _ _ _ (.bool _)
         ·rw [zC e] at h1 h2;simp only [zo,zj] at h1 h2;obtain ⟨px,h1,rfl⟩:=h1;obtain ⟨ox,h2,rfl⟩:=h2;exact (b8 R1 (fS k px ox h1 h2)).1
        obtain ⟨q1,q2⟩:=sI (lent:=lent) (bl:=true) (ex:=fun _=>false) R1 ((args.map S.ev).set i (.v false (.bool true))) ((cZ.map a.eval).set i (.bool true)) xs 0 (by simpa using nH) ch ew (fun h=>oL▸h) (fun _=>rfl) (fun _ _ _ _=>rfl);have hX:∀(j:Nat) (y:Value),(a.eval o0).cells[j]?=some y→(fun j:Nat=>((a.eval o0).cells[j]?).getD undef) j=y:=fun j y hy=>by simp [hy]
        have hA:=RF (I:=i) (X:=fun j:Nat=>((a.eval o0).cells[j]?).getD undef) (lent:=lent) DB hX cO;have hK:∀b k,(g1.de lent true fun _=>false).cl b=kc k→(g1.gm i (fun j:Nat=>((a.eval o0).cells[j]?).getD undef) lent).cl b=kc k:=fun b k hb=>Gh.QP hb
        have cv:xs.length=cZ.length:=by simpa using q1
        have:=fA.ok f (xs.set i x0) r us hg w (cZ.map a.eval).toArray (g1.gm i (fun j:Nat=>((a.eval o0).cells[j]?).getD undef) lent) (by simpa using cv.symm)
         (fun b hb=>R1.bd b (fun e=>hb (Gh.QQ e))) (fun k x v hx hv=>by
          by_cases e:i=k
          ·subst e;rw [zA (by omega)] at hx;cases hx;simp [Mh] at hv;subst hv;exact hA
          ·rw [zC e] at hx;have h1:=q2 k x v hx (by rw [zC e];simpa using hv);rw [ze] at h1;obtain ⟨b,hb⟩:=w7 _ _ _ ew k x hx
           exact h1.rJ hK (wY hb) (wZ hb))
        refine this.mono (fun e w' he=>?_);obtain ⟨v,g',rfl,hr,hL⟩:=he;exact ⟨v,rfl,PI R1 dm bZ hr hL eC⟩
       ·cases h
      ·cases h
     ·cases h
    ·cases h
   ·cases h
  ·cases lk
 ·cases hc
theorem gf (R:Rel w0 cl0 S a.tmps w g) {av:AV} {rt:Option Rt} {m':Ms} {op:Op} {o:Oper} (ho:o.op=op) (h:fN P S w g a av rt m' op):
 sF P (fun v w'=>eX w0 cl0 S a.tmps d av rt m' v w') ((execOp a.eval o).run P w):=by
 obtain ⟨rfl,rfl,h⟩:=h;obtain ⟨v,h1,h2,h3⟩:=h o ho;rw [h1];exact ⟨g,R,h2,h3⟩
theorem qE {av:AV} {rt:Option Rt} {m':Ms} {o:Oper} (h:∃v w',(execOp a.eval o).run P w=.ok (.value v) w'∧eX w0 cl0 S a.tmps d av rt m' v w'):
 sF P (fun v w'=>eX w0 cl0 S a.tmps d av rt m' v w') ((execOp a.eval o).run P w):=by
 obtain ⟨v,w',h1,h2⟩:=h;rw [h1];exact h2
theorem Ph {sz dI:Nat} {x y:PX} {av:AV} {rt:Option Rt} {m':Ms} (h:ay Γ S.ev d S.ms (.kx sz dI x y)=some (av,rt,m')):ay Γ S.ev d S.ms (.app sz dI x y)=some (av,rt,m'):=by
 simp only [ay] at h ⊢;split at h
 ·rename_i s1 ys he;split at h
  ·rename_i hf;simp only [he,hf,if_true];exact h
  ·cases h
 ·cases h
theorem UJ (R:Rel w0 cl0 S a.tmps w g) {pop:aA} {op:Op} {av:AV} {rt:Option Rt} {m':Ms} (eC:rt.isSome→(m' d).1=none)
 (fA:og P κ Γ)
 (hc:bf P κ pop op=true) (h:ay Γ S.ev d S.ms pop=some (av,rt,m')) (o:Oper) (ho:o.op=op):
 sF P (fun v w'=>eX w0 cl0 S a.tmps d av rt m' v w') ((execOp a.eval o).run P w):=by
 cases pop with
 |mv x=>exact gf R ho (UG R hc h)
 |pick c x y=>exact gf R ho (UK R hc h)
 |bin b x y=>exact gf R ho (Uh R hc h)
 |eqs n ks x y=>exact gf R ho (Ut R hc h)
 |pU n x y=>exact gf R ho (Us R hc h)
 |un u x=>exact gf R ho (UP R hc h)
 |len x=>exact gf R ho (UB R hc h)
 |lens x=>exact gf R ho (UC R hc h)
 |box n x=>
  have hh:rt.isSome∧m'=S.ms:=by
   simp only [ay] at h;split at h
   ·split at h
    ·simp at h;exact ⟨by rw [←h.2.1];rfl,h.2.2.symm⟩
    ·cases h
   ·cases h
  obtain ⟨cj,hm⟩:=hh;exact qE (Ui R (by rw [←hm];exact eC cj) hc h o ho)
 |alloc zs=>
  have cj:rt.isSome:=by simp only [ay] at h;split at h<;>simp at h;rw [←h.2.1];rfl
  have hm:m'=S.ms:=by simp only [ay] at h;split at h<;>simp at h;exact h.2.2.symm
  exact qE (Uf R (by rw [←hm];exact eC cj) hc h o ho)
 |build z ps=>exact gf R ho (Uk R hc h)
 |ax sz z n ps=>
  have cj:rt.isSome:=by simp only [ay] at h;split at h<;>simp at h;rw [←h.2.1];rfl
  exact qE (Uj R (eC cj) hc h o ho)
 |lY sz dI z x=>
  have hh:rt.isSome∧m'=S.ms:=by
   simp only [ay] at h;split at h
   ·split at h
    ·simp at h;exact ⟨by rw [←h.2.1];rfl,h.2.2.symm⟩
    ·cases h
   ·cases h
  obtain ⟨cj,hm⟩:=hh;exact qE (UE R (by rw [←hm];exact eC cj) hc h o ho)
 |ld ag n x=>exact gf R ho (UA R hc h)
 |st n x y=>
  obtain ⟨rfl,w',g',h1,h2⟩:=UN R hc h o ho
  have cQ:av=.un:=by
   simp only [ay] at h;split at h
   ·split at h
    ·split at h
     ·simp at h;exact h.1.symm
     ·cases h
    ·cases h
   ·cases h
  subst cQ;rw [h1];exact ⟨g',h2,.un _,fun r hr=>by simp [AV.refs] at hr⟩
 |n7 n x y=>
  obtain ⟨rfl,w',g',h1,h2⟩:=UO R hc h o ho
  have cQ:av=.un:=by
   simp only [ay] at h;split at h
   ·split at h
    ·split at h
     ·simp at h;exact h.1.symm
     ·cases h
    ·cases h
   ·cases h
  subst cQ;rw [h1];exact ⟨g',h2,.un _,fun r hr=>by simp [AV.refs] at hr⟩
 |qW x k=>exact gf R ho (Ux R hc h)
 |qn x=>exact gf R ho (UI R hc h)
 |bo x off=>exact gf R ho (Uv R hc h)
 |cf sz x i=>exact gf R ho (Uy R hc h)
 |eV sz x lo hi=>exact gf R ho (UL R hc h)
 |su x lo hi=>exact gf R ho (UM R hc h)
 |ext x k=>exact gf R ho (Uu R hc h)
 |call f io args=>exact Ul R eC fA hc h o ho
 |app sz dI x y=>
  have cj:rt.isSome:=by
   simp only [ay] at h;split at h
   ·split at h
    ·split at h
     ·simp at h;rw [←h.2.1];rfl
     ·cases h
    ·cases h
   ·cases h
  exact qE (M9 R (eC cj) hc h o ho)
 |apps x y=>
  have cj:rt.isSome:=by
   simp only [ay] at h;split at h
   ·split at h
    ·split at h
     ·simp at h;rw [←h.2.1];rfl
     ·cases h
    ·cases h
   ·cases h
  exact qE (Ug R (eC cj) hc h o ho)
 |kx sz dI x y=>
  have h:=Ph h;have hc:bf P κ (.app sz dI x y) op=true:=by cases op<;>first|exact hc|(simp [bf] at hc)
  have cj:rt.isSome:=by
   simp only [ay] at h;split at h
   ·split at h
    ·split at h
     ·simp at h;rw [←h.2.1];rfl
     ·cases h
    ·cases h
   ·cases h
  exact qE (M9 R (eC cj) hc h o ho)
 |dE k x=>exact gf R ho (Uq R hc h)
 |kG x=>exact gf R ho (Ur R hc h)
 |uB x=>simp [ay] at h
 |idx x i=>exact gf R ho (Uz R hc h)
 |mn x y=>exact gf R ho (UF R hc h)
 |mx x y=>exact gf R ho (UH R hc h)
 |rL k x=>exact gf R ho (UD R hc h)
 |lG x args=>exact Un R eC fA hc h o ho
 |gM f i args=>exact Um R eC fA hc h o ho
 |mw sz z x=>exact qE (Uo R hc h o ho)
end
end
section
def Fr (W:Nat→Prop) (m m' m1 cb:Ms):Prop:=(∀r,W r→cb r=m' r)∧(∀r,¬W r→m' r=m r)∧(∀r,¬W r→cb r=m1 r)
section
variable {m m' m1:Ms}
theorem Fr.none {W:Nat→Prop} (h:∀r,W r→m1 r=m r):Fr W m m m1 m1:=⟨h,fun _ _=>rfl,fun _ _=>rfl⟩
theorem Fr.trans {W W2 W':Nat→Prop} {nR cb MY:Ms} (h:Fr W m m' m1 cb) (h':Fr W' m' nR cb MY) (h1:∀r,W r→W2 r) (h2:∀r,W' r→W2 r)
 (ha:∀r,W2 r→m1 r=m r):Fr W2 m nR m1 MY:=by
 refine ⟨fun r hr=>?_,fun r hr=>?_,fun r hr=>?_⟩
 ·by_cases h3:W' r
  ·exact h'.1 r h3
  ·rw [h'.2.2 r h3,h'.2.1 r h3];by_cases h4:W r
   ·exact h.1 r h4
   ·rw [h.2.2 r h4,h.2.1 r h4];exact ha r hr
 ·rw [h'.2.1 r (fun e=>hr (h2 r e)),h.2.1 r (fun e=>hr (h1 r e))]
 ·rw [h'.2.2 r (fun e=>hr (h2 r e)),h.2.2 r (fun e=>hr (h1 r e))]
theorem Fr.om {W:Nat→Prop} {cb:Ms} (h:Fr W m m' m1 cb) {r:Nat} (hr:m1 r=m r):cb r=m' r:=by
 by_cases h1:W r
 ·exact h.1 r h1
 ·rw [h.2.2 r h1,h.2.1 r h1,hr]
theorem Fr.wide {W W2:Nat→Prop} {cb:Ms} (h:Fr W m m' m1 cb) (h1:∀r,W r→W2 r) (ha:∀r,W2 r→m1 r=m r):Fr W2 m m' m1 cb:=
 ⟨fun r hr=>h.om (ha r hr),fun r hr=>h.2.1 r fun e=>hr (h1 r e),fun r hr=>h.2.2 r fun e=>hr (h1 r e)⟩
theorem MP {r j:Nat} {p:aY} (h:m1 r=m r):m1.b_ r j p=m.b_ r j p:=by simp only [Ms.b_,h]
theorem PL {r j:Nat} (h:m1 r=m r):m1.cell r j=m.cell r j:=by simp only [Ms.cell,h]
theorem kz {r j:Nat} {p:aY} (h:m1 r=m r):m1.at r j p=m.at r j p:=by simp only [Ms.at,MP h,PL h]
theorem Fr.az {r:Nat} {x:Mem}:Fr (·=r) m (OM.az m r x) m1 (OM.az m1 r x):=
 ⟨fun k hk=>by simp [OM.az,hk],fun k hk=>by simp [OM.az,hk],fun k hk=>by simp [OM.az,hk]⟩
theorem A' {r j:Nat} {p:aY} {x:D} {kl:List (Nat×aY)} (h:m.putAt r j p x kl=some m') (ha:m1 r=m r):
 ∃cb,m1.putAt r j p x kl=some cb∧Fr (·=r) m m' m1 cb:=by
 simp only [Ms.putAt,ha] at h ⊢;split at h
 ·split at h
  ·simp at h;subst h;exact ⟨_,rfl,.az⟩
  ·cases h
 ·cases h
theorem OD {r j:Nat} {p:aY} {d:D} (h:m.take r j p=some (d,m')) (ha:m1 r=m r):
 ∃cb,m1.take r j p=some (d,cb)∧Fr (·=r) m m' m1 cb:=by
 simp only [Ms.take,kz ha] at h ⊢;split at h
 ·split at h
  ·rename_i m2 hp;simp at h;obtain ⟨rfl,rfl⟩:=h;obtain ⟨cb,h1,h2⟩:=A' hp ha;exact ⟨cb,by simp [h1],h2⟩
  ·cases h
 ·cases h
theorem xr {a:AV} (ha:∀r∈a.refs,m1 r=m r):m1.fq a=m.fq a:=by
 cases a with
 |v k d=>cases d<;>rfl
 |pl r j p=>simp only [Ms.fq,kz (ha r (by simp [AV.refs]))]
 |rg r j p sz lo hi=>simp only [Ms.fq,kz (ha r (by simp [AV.refs]))]
 |_=>rfl
theorem sG {a:AV} {c:C} (h:eH m a=some (c,m')) (ha:∀r∈a.refs,m1 r=m r):
 ∃cb,eH m1 a=some (c,cb)∧Fr (·∈a.refs) m m' m1 cb:=by
 unfold eH at h;split at h
 ·cases h
 ·rename_i k d hd;simp at h;obtain ⟨rfl,rfl⟩:=h;exact ⟨m1,by cases d<;>first|rfl|exact absurd rfl hd,.none ha⟩
 ·simp at h;obtain ⟨rfl,rfl⟩:=h;exact ⟨m1,rfl,.none ha⟩
 ·rename_i r j p;split at h
  ·rename_i d m2 ht;simp at h;obtain ⟨rfl,rfl⟩:=h;obtain ⟨cb,h1,h2⟩:=OD ht (ha r (by simp [AV.refs]));exact ⟨cb,by simp [eH,h1],h2.wide (fun q hq=>by simp [AV.refs,hq]) ha⟩
  ·cases h
 ·rename_i r j p sz hi;split at h
  ·rename_i es _ m2 q_ ht;simp at h;obtain ⟨rfl,rfl⟩:=h;obtain ⟨cb,h1,h2⟩:=OD ht (ha r (by simp [AV.refs]));exact ⟨cb,by simp [eH,h1,kz (ha r (by simp [AV.refs])),q_],h2.wide (fun q hq=>by simp [AV.refs,hq]) ha⟩
  ·cases h
 ·cases h
theorem BG:∀(as:List AV) {cs:List C} {m m' m1:Ms},fm m as=some (cs,m')→(∀r∈AV.cA as,m1 r=m r)→
 ∃cb,fm m1 as=some (cs,cb)∧Fr (·∈AV.cA as) m m' m1 cb:=by
 intro as;induction as with
 |nil=>intro cs m m' m1 h ha;simp [fm] at h;obtain ⟨rfl,rfl⟩:=h;exact ⟨m1,rfl,.none ha⟩
 |cons a as ih=>
  intro cs m m' m1 h ha;simp only [fm] at h;split at h
  ·rename_i c m2 h1;split at h
   ·rename_i jt m3 h2;simp at h;obtain ⟨rfl,rfl⟩:=h;obtain ⟨q1,e1,f1⟩:=sG h1 (m1:=m1) (fun r hr=>ha r (by simp [AV.cA,hr]));obtain ⟨q2,e2,f2⟩:=ih h2 (m1:=q1) (fun r hr=>f1.om (ha r (by simp [AV.cA,hr])));exact ⟨q2,by simp [fm,e1,e2],f1.trans f2 (fun r hr=>by simp [AV.cA,hr]) (fun r hr=>by simp [AV.cA,hr]) ha⟩
   ·cases h
  ·cases h
theorem Vs {a:AV} (ha:∀r∈a.refs,m1 r=m r):l7 m1 a=l7 m a:=by
 cases a with
 |v k d=>cases d<;>rfl
 |pl r j p=>cases p with
  |nil=>simp only [l7,ha r (by simp [AV.refs]),MP (ha r (by simp [AV.refs]))]
  |cons=>rfl
 |_=>rfl
theorem NK:∀(as:List AV),(∀r∈AV.cA as,m1 r=m r)→iq m1 as=iq m as:=by
 intro as;induction as with
 |nil=>intro _;rfl
 |cons a as ih=>
  intro ha;simp only [iq,Vs (a:=a) fun r hr=>ha r (by simp [AV.cA,hr]),ih fun r hr=>ha r (by simp [AV.cA,hr])]
theorem TY {n:Nat} {a:AV} (ha:∀r∈a.refs,m1 r=m r):jG m1 n a=jG m n a:=by
 cases a with
 |bx r j=>simp only [jG,ha r (by simp [AV.refs])]
 |ad r j p sz i c=>simp only [jG,kz (ha r (by simp [AV.refs]))]
 |v k d=>cases d<;>rfl
 |_=>rfl
theorem Og {cs:List C} {a:AV} (h:kU m cs a=some m') (ha:∀r∈a.refs,m1 r=m r):
 ∃cb,kU m1 cs a=some cb∧Fr (·∈a.refs) m m' m1 cb:=by
 cases a with
 |bx r j=>
  simp only [kU,ha r (by simp [AV.refs])] at h ⊢;split at h
  ·split at h
   ·rename_i hl;simp at h;subst h;refine ⟨_,by rw [if_pos hl],Fr.az.wide (fun q hq=>by simp [AV.refs,hq]) ha⟩
   ·cases h
  ·cases h
 |ad r j p sz i c=>
  simp only [kU] at h ⊢;rw [kz (ha r (by simp [AV.refs]))];split at h
  ·split at h
   ·split at h
    ·rename_i ds iB _ ec es bI e he;split at h
     ·rename_i hl;obtain ⟨cb,h1,h2⟩:=A' h (ha r (by simp [AV.refs]));refine ⟨cb,?_,h2.wide (fun q hq=>by simp [AV.refs,hq]) ha⟩;simp only [he,if_pos hl,h1]
     ·cases h
    ·cases h
   ·cases h
  ·cases h
 |_=>simp [kU] at h
theorem ss (a:AV):AV.cA a.cells=a.refs:=by
 cases a<;>simp [AV.cells,AV.cA,AV.refs]
theorem Qv {sz:Nat}:∀(ps:List (Nat×AV)) {l l':List D} {m m' m1:Ms},mD m sz l ps=some (l',m')→
 (∀x∈ps,∀r∈x.2.refs,m1 r=m r)→∃cb,mD m1 sz l ps=some (l',cb)∧Fr (fun r=>∃x∈ps,r∈x.2.refs) m m' m1 cb:=by
 intro ps;induction ps with
 |nil=>intro l l' m m' m1 h ha;simp [mD] at h;obtain ⟨rfl,rfl⟩:=h;exact ⟨m1,rfl,.none fun r hr=>by simp at hr⟩
 |cons x ps ih=>
  intro l l' m m' m1 h ha;obtain ⟨off,a⟩:=x;simp only [mD] at h;split at h
  ·rename_i cs m2 h1;split at h
   ·rename_i ds iB;split at h
    ·rename_i hl;have la:∀r∈a.refs,m1 r=m r:=fun r hr=>ha (off,a) (by simp) r hr
     obtain ⟨q1,e1,f1⟩:=BG a.cells h1 (m1:=m1) (fun r hr=>la r (by rwa [ss] at hr));obtain ⟨q2,e2,f2⟩:=ih h (m1:=q1) (fun x hx r hr=>f1.om (ha x (by simp [hx]) r hr));refine ⟨q2,by simp only [mD,e1,iB,if_pos hl,e2],f1.trans f2 (fun r hr=>⟨(off,a),by simp,by rwa [ss] at hr⟩) (fun r hr=>?_) (fun r hr=>?_)⟩
     ·obtain ⟨x,hx,hr⟩:=hr;exact ⟨x,by simp [hx],hr⟩
     ·obtain ⟨x,hx,hr⟩:=hr;exact ha x hx r hr
    ·cases h
   ·cases h
  ·cases h
theorem Nb {a:AV} {x:V} (h:ie m a=some (x,m')) (ha:∀r∈a.refs,m1 r=m r):∃cb,ie m1 a=some (x,cb)∧Fr (·∈a.refs) m m' m1 cb:=by
 have one:(∀cs,a≠.agg cs)→∃cb,ie m1 a=some (x,cb)∧Fr (·∈a.refs) m m' m1 cb:=by
  intro hn
  have e1:∀q:Ms,ie q a=match eH q a with
   |some (c,q')=>some (.one c,q')
   |none=>none:=by
   intro q;cases a with
   |agg cs=>exact absurd rfl (hn cs)
   |_=>rfl
  rw [e1] at h;split at h
  ·rename_i c m2 h1;simp at h;obtain ⟨rfl,rfl⟩:=h;obtain ⟨q1,e2,f1⟩:=sG h1 ha;exact ⟨q1,by rw [e1,e2],f1⟩
  ·cases h
 cases a with
 |agg cs=>
  simp only [ie] at h;split at h
  ·rename_i l m2 h1;simp at h;obtain ⟨rfl,rfl⟩:=h;obtain ⟨q1,e1,f1⟩:=BG cs h1 (m1:=m1) (fun r hr=>ha r (by simpa [AV.refs] using hr));exact ⟨q1,by simp only [ie,e1],f1.wide (fun r hr=>by simpa [AV.refs] using hr) ha⟩
  ·cases h
 |_=>exact one (fun cs e=>by cases e)
theorem aab {a:AV} {c:C} (h:nu m c a=some m') (ha:∀r∈a.refs,m1 r=m r):∃cb,nu m1 c a=some cb∧Fr (·∈a.refs) m m' m1 cb:=by
 cases a with
 |pl r j p=>
  have hr:m1 r=m r:=ha r (by simp [AV.refs]);simp only [nu,kz hr] at h ⊢;split at h
  ·split at h
   ·obtain ⟨q,e,f⟩:=A' h hr;exact ⟨q,e,f.wide (fun k hk=>by subst hk;simp [AV.refs]) (fun k hk=>by simp [AV.refs] at hk;subst hk;exact hr)⟩
   ·cases h
  ·cases h
 |nl sz=>
  simp only [nu] at h ⊢;split at h
  ·simp at h;subst h;exact ⟨m1,rfl,.none fun r hr=>by simp [AV.refs] at hr⟩
  ·cases h
 |_=>simp [nu] at h
theorem aah {cs:List AV}:∀(us:List (Nat×Nat×C)) {lo:Nat} {m m' m1:Ms},jN cs lo m us=some m'→(∀r∈AV.cA cs,m1 r=m r)→∃cb,jN cs lo m1 us=some cb∧Fr (·∈AV.cA cs) m m' m1 cb:=by
 intro us;induction us with
 |nil=>intro lo m m' m1 h ha;simp [jN] at h;subst h;exact ⟨m1,rfl,.none ha⟩
 |cons u us ih=>
  intro lo m m' m1 h ha;obtain ⟨i,j,c⟩:=u;simp only [jN] at h;split at h
  ·rename_i hi;split at h
   ·rename_i a hj;split at h
    ·rename_i m2 h1
     have Mx:∀r∈a.refs,r∈AV.cA cs:=fun r hr=>by
      clear ih h h1 ha hi;induction cs generalizing j with
      |nil=>simp at hj
      |cons b cs S7=>
       simp only [AV.cA,zi];cases j with
       |zero=>simp at hj;subst hj;exact .inl hr
       |succ j=>exact .inr (S7 j (by simpa using hj))
     obtain ⟨q1,e1,f1⟩:=aab h1 (m1:=m1) (fun r hr=>ha r (Mx r hr));obtain ⟨q2,e2,f2⟩:=ih h (m1:=q1) (fun r hr=>f1.om (ha r hr));exact ⟨q2,by simp only [jN,if_pos hi,hj,e1,e2],f1.trans f2 Mx (fun r hr=>hr) ha⟩
    ·cases h
   ·cases h
  ·cases h
theorem Ka {a:AV} (ha:∀r∈a.refs,m1 r=m r):kA m1 a=kA m a:=by
 cases a with
 |v k d=>cases d<;>rfl
 |pl r j p=>simp only [kA,kz (ha r (by simp [AV.refs]))]
 |rg r j p sz lo hi=>simp only [kA,kz (ha r (by simp [AV.refs]))]
 |fv f r=>simp only [kA,ha r (by simp [AV.refs])]
 |bx r j=>cases j<;>simp only [kA,ha r (by simp [AV.refs])]
 |_=>rfl
theorem MN {a:AV} (ha:∀r∈a.refs,m1 r=m r):vA m1 a=vA m a:=by
 cases a with
 |v k d=>cases d<;>rfl
 |pl r j p=>simp only [vA,kz (ha r (by simp [AV.refs]))]
 |_=>rfl
theorem Ps:∀(as:List AV),(∀r∈AV.cA as,m1 r=m r)→kB m1 as=kB m as:=by
 intro as;induction as with
 |nil=>intro _;rfl
 |cons a as ih=>
  intro ha;simp only [kB,Ka (a:=a) fun r hr=>ha r (by simp [AV.cA,hr]),ih fun r hr=>ha r (by simp [AV.cA,hr])]
theorem Tf:∀(as:List AV),(∀r∈AV.cA as,m1 r=m r)→vB m1 as=vB m as:=by
 intro as;induction as with
 |nil=>intro _;rfl
 |cons a as ih=>
  intro ha;simp only [vB,MN (a:=a) fun r hr=>ha r (by simp [AV.cA,hr]),ih fun r hr=>ha r (by simp [AV.cA,hr])]
theorem Pj {a:AV} (io:Bool) (ha:∀r∈a.refs,m1 r=m r):jq m1 io a=jq m io a:=by
 cases a with
 |agg cs=>simp only [jq,Ps cs ha,Tf cs ha]
 |_=>simp only [jq,Ka ha,MN ha]
theorem um (io:List Nat):∀(as:List AV) (i:Nat),(∀a∈as,∀r∈a.refs,m1 r=m r)→dW m1 io i as=dW m io i as:=by
 intro as;induction as with
 |nil=>intro _ _;rfl
 |cons a as ih=>
  intro i ha;simp only [dW,Pj (io.contains i) (ha a (by simp)),ih (i+1) fun b hb=>ha b (by simp [hb])]
theorem MU {len:Nat} {ev ev':PX→AV} {lo hi:Option PX} (h1:∀x∈lo.toList,ev' x=ev x) (h2:∀x∈hi.toList,ev' x=ev x):kP len ev' lo hi=kP len ev lo hi:=by
 cases lo<;>cases hi<;>simp_all [kP]
end
end
section
def M' (ev:PX→AV) (op:aA) (r:Nat):Prop:=∃x∈op.reads,r∈(ev x).refs
def nd (ev:PX→AV) (op:aA) (r:Nat):Prop:=∃x∈op.gH,r∈(ev x).refs
theorem Jx {op:aA} {x:PX} (h:x∈op.gH):x∈op.reads:=by
 cases op with
 |call f io args=>
  simp only [aA.gH] at h;split at h
  ·simp at h
  ·exact h
 |kx sz dI a b=>simp [aA.gH] at h;subst h;simp [aA.reads]
 |apps a b=>simp [aA.gH] at h;subst h;simp [aA.reads]
 |mw s z a=>simp [aA.gH] at h;subst h;simp [aA.reads]
 |gM f i as=>exact h
 |_=>first|exact h|(simp [aA.gH] at h)
theorem NJ {op:aA} {x:PX} (h:x∈op.reads):x∈op.cd:=by
 cases op<;>first|exact h|exact zw _ h|(simp [aA.reads] at h;done)|(simp [aA.reads] at h;subst h;simp [aA.cd])
section
variable {Γ:Env} {ev ev':PX→AV} {d:Nat} {m m' m1:Ms} {av:AV} {rt:Option Rt}
theorem Vg {a:AV} {r:Nat} {cs:List C} (h:a.ni m=some (r,cs)):a=.bx r 0∧(m r).1=some (.bx cs)∧cs.all C.bA=true:=by
 unfold AV.ni at h;split at h
 ·split at h
  ·rename_i hm;split at h
   ·rename_i hc;simp at h;obtain ⟨rfl,rfl⟩:=h;exact ⟨rfl,hm,hc⟩
   ·cases h
  ·cases h
 ·cases h
theorem Vf {a:AV} (h:∀r∈a.refs,m1 r=m r):a.ni m1=a.ni m:=by
 cases a with
 |bx r j=>
  cases j with
  |zero=>simp only [AV.ni,h r (by simp [AV.refs])]
  |succ j=>rfl
 |_=>rfl
theorem Pv {m m1 m':Ms} {r0:Nat} {rest:List AV} {cs bH:List C} (h:sK m r0 rest cs bH=some m') (hm:m1 r0=m r0):
 ∃x,m'=az m r0 x∧sK m1 r0 rest cs bH=some (az m1 r0 x):=by
 unfold sK at h ⊢;split at h
 ·rename_i h1;simp at h;exact ⟨_,h.symm,by rw [if_pos h1,hm]⟩
 ·rename_i h1;split at h
  ·rename_i h2;simp at h;exact ⟨_,h.symm,by rw [if_neg h1,if_pos h2,hm]⟩
  ·cases h
theorem UR {op:aA} (Rw:∀a,ev (.c a)=a) (bJ:∀x∈op.cd,ev' x=ev x) (hm:∀r,M' ev op r→m1 r=m r) (h:ay Γ ev d m op=some (av,rt,m')):
 ∃cb,ay Γ ev' d m1 op=some (av,rt,cb)∧Fr (nd ev op) m m' m1 cb:=by
 have hW:∀r,nd ev op r→m1 r=m r:=fun r ⟨x,hx,hr⟩=>hm r ⟨x,Jx hx,hr⟩
 have ab8:ay Γ ev' d m1 op=(match ay Γ ev d m op with|some (a,b,_)=>some (a,b,m1)|none=>none)→m'=m→
  ∃cb,ay Γ ev' d m1 op=some (av,rt,cb)∧Fr (nd ev op) m m' m1 cb:=by
  intro h1 h2;subst h2;exact ⟨m1,by rw [h1,h],.none hW⟩
 cases op with
 |mv x=>
  simp only [ay,bJ x (by simp [aA.cd])] at h ⊢;simp at h;obtain ⟨rfl,rfl,rfl⟩:=h;exact ⟨m1,rfl,.none hW⟩
 |pick c x y=>
  simp only [ay,bJ x (by simp [aA.cd]),bJ y (by simp [aA.cd]),bJ c (by simp [aA.cd])] at h ⊢;split at h
  ·simp at h;obtain ⟨rfl,rfl,rfl⟩:=h;exact ⟨m1,rfl,.none hW⟩
  ·cases h
 |bin b x y=>
  simp only [ay,bJ x (by simp [aA.cd]),bJ y (by simp [aA.cd])] at h ⊢;split at h
  ·split at h
   ·rename_i hx hy _ _ hb;simp at h;obtain ⟨rfl,rfl,rfl⟩:=h;exact ⟨m1,by simp only [hx,hy,hb],.none hW⟩
   ·cases h
  ·cases h
 |eqs n ks x y=>
  simp only [ay,bJ x (by simp [aA.cd]),bJ y (by simp [aA.cd])] at h ⊢;split at h
  ·split at h
   ·rename_i hx hy _ _ hb;simp at h;obtain ⟨rfl,rfl,rfl⟩:=h;exact ⟨m1,by simp only [hx,hy,hb],.none hW⟩
   ·cases h
  ·cases h
 |pU n x y=>
  simp only [ay,bJ x (by simp [aA.cd]),bJ y (by simp [aA.cd])] at h ⊢;split at h
  ·rename_i _ _ hx hy;simp at h;obtain ⟨rfl,rfl,rfl⟩:=h;exact ⟨m1,by simp only [hx,hy],.none hW⟩
  ·cases h
 |un u x=>
  simp only [ay,bJ x (by simp [aA.cd])] at h ⊢;split at h
  ·split at h
   ·rename_i hx _ _ hb;simp at h;obtain ⟨rfl,rfl,rfl⟩:=h;exact ⟨m1,by simp only [hx,hb],.none hW⟩
   ·cases h
  ·cases h
 |len x=>
  have e1:m1.fq (ev x)=m.fq (ev x):=xr fun r hr=>hm r ⟨x,by simp [aA.reads],hr⟩
  simp only [ay,bJ x (by simp [aA.cd]),e1] at h ⊢;split at h
  ·rename_i _ _ hx;simp at h;obtain ⟨rfl,rfl,rfl⟩:=h;exact ⟨m1,by simp only [hx],.none hW⟩
  ·cases h
 |lens x=>
  simp only [ay,bJ x (by simp [aA.cd])] at h ⊢;split at h
  ·rename_i _ _ hx;simp at h;obtain ⟨rfl,rfl,rfl⟩:=h;exact ⟨m1,by simp only [hx],.none hW⟩
  ·cases h
 |box n x=>
  have e1:iq m1 (ev x).cells=iq m (ev x).cells:=NK _ fun r hr=>hm r ⟨x,by simp [aA.reads],by rwa [ss] at hr⟩
  simp only [ay,bJ x (by simp [aA.cd]),e1] at h ⊢;split at h
  ·split at h
   ·rename_i _ hx hl;simp at h;obtain ⟨rfl,rfl,rfl⟩:=h;exact ⟨m1,by simp only [hx,if_pos hl],.none hW⟩
   ·cases h
  ·cases h
 |alloc zs=>
  have e1:iq m1 zs=iq m zs:=NK _ fun r hr=>by
   have rn:∀(l:List AV),r∈AV.cA l→∃a∈l,r∈a.refs:=by
    intro l;induction l with
    |nil=>intro h;simp [AV.cA] at h
    |cons b l ih=>
     intro h;simp only [AV.cA,zi] at h;rcases h with h|h
     ·exact ⟨b,by simp,h⟩
     ·obtain ⟨a,h1,h2⟩:=ih h;exact ⟨a,by simp [h1],h2⟩
   obtain ⟨a,h1,h2⟩:=rn zs hr;exact hm r ⟨.c a,by simp [aA.reads,h1],by rwa [Rw]⟩
  simp only [ay,e1] at h ⊢;split at h
  ·rename_i _ hx;simp at h;obtain ⟨rfl,rfl,rfl⟩:=h;exact ⟨m1,by simp only [hx],.none hW⟩
  ·cases h
 |build z ps=>
  have e1:(ps.map fun x=>(x.1,x.2.1,ev' x.2.2))=ps.map fun x=>(x.1,x.2.1,ev x.2.2):=
   zq fun x hx=>by rw [bJ x.2.2 (by simp only [aA.cd,zh];exact ⟨x,hx,rfl⟩)]
  simp only [ay,e1] at h ⊢;split at h
  ·rename_i _ hx;simp at h;obtain ⟨rfl,rfl,rfl⟩:=h;exact ⟨m1,by simp only [hx],.none hW⟩
  ·cases h
 |ax sz z n ps=>
  have e1:(ps.map fun x=>(x.1,ev' x.2))=ps.map fun x=>(x.1,ev x.2):=
   zq fun x hx=>by rw [bJ x.2 (by simp only [aA.cd,zh];exact ⟨x,hx,rfl⟩)]
  simp only [ay,e1] at h ⊢;split at h
  ·rename_i l m2 hx;simp at h;obtain ⟨rfl,rfl,rfl⟩:=h
   obtain ⟨q,h1,h2⟩:=Qv _ hx (m1:=m1) (fun x hx r hr=>by
    simp only [zh] at hx;obtain ⟨y,hy,rfl⟩:=hx
    exact hm r ⟨y.2,by simp only [aA.reads,zh];exact ⟨y,hy,rfl⟩,hr⟩)
   refine ⟨q,by simp only [h1],h2.wide (fun r hr=>?_) hW⟩;obtain ⟨x,hx,hr⟩:=hr;simp only [zh] at hx;obtain ⟨y,hy,rfl⟩:=hx;exact ⟨y.2,by simp only [aA.gH,zh];exact ⟨y,hy,rfl⟩,hr⟩
  ·cases h
 |lY sz dI z x=>
  simp only [ay,bJ x (by simp [aA.cd])] at h ⊢;split at h
  ·split at h
   ·rename_i _ hx hl;simp at h;obtain ⟨rfl,rfl,rfl⟩:=h;exact ⟨m1,by simp only [hx,if_pos hl],.none hW⟩
   ·cases h
  ·cases h
 |ld ag n x=>
  have e1:jG m1 n (ev x)=jG m n (ev x):=TY fun r hr=>hm r ⟨x,by simp [aA.reads],hr⟩
  simp only [ay,bJ x (by simp [aA.cd]),e1] at h ⊢;split at h
  ·rename_i l hx;split at h
   ·rename_i jf;simp at h;obtain ⟨rfl,rfl,rfl⟩:=h;exact ⟨m1,by simp only [hx,if_pos jf],.none hW⟩
   ·rename_i jf;split at h
    ·simp at h;obtain ⟨rfl,rfl,rfl⟩:=h;exact ⟨m1,by simp only [hx,if_neg jf],.none hW⟩
    ·cases h
  ·cases h
 |st n x y=>
  simp only [ay,bJ x (by simp [aA.cd]),bJ y (by simp [aA.cd])] at h ⊢;split at h
  ·rename_i cs m2 h1;split at h
   ·rename_i hl;split at h
    ·rename_i m3 h2;simp at h;obtain ⟨rfl,rfl,rfl⟩:=h;obtain ⟨q1,e1,f1⟩:=BG _ h1 (m1:=m1) (fun r hr=>hm r ⟨y,by simp [aA.reads],by rwa [ss] at hr⟩);obtain ⟨q2,e2,f2⟩:=Og h2 (m1:=q1) (fun r hr=>f1.om (hm r ⟨x,by simp [aA.reads],hr⟩));refine ⟨q2,by simp only [e1,if_pos hl,e2],f1.trans f2 (fun r hr=>⟨y,by simp [aA.gH],by rwa [ss] at hr⟩) (fun r hr=>⟨x,by simp [aA.gH],hr⟩) hW⟩
    ·cases h
   ·cases h
  ·cases h
 |n7 n x y=>
  simp only [ay,bJ x (by simp [aA.cd]),bJ y (by simp [aA.cd])] at h ⊢;split at h
  ·rename_i cs h1;split at h
   ·rename_i hl;split at h
    ·rename_i m3 h2;simp at h;obtain ⟨rfl,rfl,rfl⟩:=h
     have h3:kU m cs (ev x)=some m3:=by
      revert h2;unfold sw;split
      ·rename_i hx;rw [hx];exact id
      ·intro h;cases h
     have h4:∀q,sw q cs (ev x)=kU q cs (ev x):=by
      intro q;revert h2;unfold sw;split
      ·rename_i hx;rw [hx];intro _;rfl
      ·intro h;cases h
     obtain ⟨q2,e2,f2⟩:=Og h3 (m1:=m1) (fun r hr=>hm r ⟨x,by simp [aA.reads],hr⟩);refine ⟨q2,by simp only [h1,if_pos hl,h4,e2],.wide f2 (fun r hr=>⟨x,by simp [aA.gH],hr⟩) hW⟩
    ·cases h
   ·cases h
  ·cases h
 |qW x k=>
  simp only [ay,bJ x (by simp [aA.cd])] at h ⊢;split at h
  ·split at h
   ·rename_i hx _ _ hk;simp at h;obtain ⟨rfl,rfl,rfl⟩:=h;exact ⟨m1,by simp only [hx,hk],.none hW⟩
   ·cases h
  ·cases h
 |qn x=>
  simp only [ay,bJ x (by simp [aA.cd])] at h ⊢;split at h
  ·rename_i _ _ hx;simp at h;obtain ⟨rfl,rfl,rfl⟩:=h;exact ⟨m1,by simp only [hx],.none hW⟩
  ·rename_i _ _ _ hx;simp at h;obtain ⟨rfl,rfl,rfl⟩:=h;exact ⟨m1,by simp only [hx],.none hW⟩
  ·rename_i hx;simp at h;obtain ⟨rfl,rfl,rfl⟩:=h;exact ⟨m1,by simp only [hx],.none hW⟩
  ·rename_i hx;simp at h;obtain ⟨rfl,rfl,rfl⟩:=h;exact ⟨m1,by simp only [hx],.none hW⟩
  ·cases h
 |bo x off=>
  simp only [ay,bJ x (by simp [aA.cd])] at h ⊢;split at h
  ·rename_i _ _ hx;simp at h;obtain ⟨rfl,rfl,rfl⟩:=h;exact ⟨m1,by simp only [hx],.none hW⟩
  ·rename_i hx;simp at h;obtain ⟨rfl,rfl,rfl⟩:=h;exact ⟨m1,by simp only [hx],.none hW⟩
  ·rename_i hx;simp at h;obtain ⟨rfl,rfl,rfl⟩:=h;exact ⟨m1,by simp only [hx],.none hW⟩
  ·cases h
 |cf sz x i=>
  simp only [ay,bJ x (by simp [aA.cd]),bJ i (by simp [aA.cd])] at h ⊢;split at h
  ·rename_i n hn;split at h
   ·rename_i hx;split at h
    ·rename_i hl;simp at h;obtain ⟨rfl,rfl,rfl⟩:=h;exact ⟨m1,by simp only [hx,if_pos hl],.none hW⟩
    ·cases h
   ·rename_i r j p hx;have e1:m1.at r j p=m.at r j p:=kz (hm r ⟨x,by simp [aA.reads],by simp [hx,AV.refs]⟩);split at h
    ·rename_i bI;split at h
     ·rename_i hl;simp at h;obtain ⟨rfl,rfl,rfl⟩:=h;exact ⟨m1,by simp only [hx,e1,bI,if_pos hl],.none hW⟩
     ·cases h
    ·cases h
   ·rename_i r j p ec lo hi hx;have e1:m1.at r j p=m.at r j p:=kz (hm r ⟨x,by simp [aA.reads],by simp [hx,AV.refs]⟩);split at h
    ·rename_i bI;split at h
     ·rename_i hl;simp at h;obtain ⟨rfl,rfl,rfl⟩:=h;exact ⟨m1,by simp only [hx,e1,bI,if_pos hl],.none hW⟩
     ·cases h
    ·cases h
   ·cases h
  ·cases h
 |eV sz x lo hi=>
  have e0:∀n,kP n ev' lo hi=kP n ev lo hi:=fun n=>MU (fun y hy=>bJ y (by simp only [aA.cd];simp only [zr,zi];exact .inr (.inl hy)))
   (fun y hy=>bJ y (by simp only [aA.cd];simp only [zr,zi];exact .inr (.inr hy)))
  simp only [ay,bJ x (by simp [aA.cd]),e0] at h ⊢;split at h
  ·rename_i hx;split at h
   ·rename_i j7;split at h
    ·rename_i hl;simp at h;obtain ⟨rfl,rfl,rfl⟩:=h;exact ⟨m1,by simp only [hx,j7,if_pos hl],.none hW⟩
    ·cases h
   ·cases h
  ·rename_i hx;split at h
   ·rename_i j7;simp at h;obtain ⟨rfl,rfl,rfl⟩:=h;exact ⟨m1,by simp only [hx,j7],.none hW⟩
   ·cases h
  ·rename_i r j p hx;have e1:m1.at r j p=m.at r j p:=kz (hm r ⟨x,by simp [aA.reads],by simp [hx,AV.refs]⟩);split at h
   ·rename_i bI;split at h
    ·rename_i j7;split at h
     ·rename_i hl;simp at h;obtain ⟨rfl,rfl,rfl⟩:=h;exact ⟨m1,by simp only [hx,e1,bI,j7,if_pos hl],.none hW⟩
     ·cases h
    ·cases h
   ·cases h
  ·cases h
 |su x lo hi=>
  have e0:∀n,kP n ev' lo hi=kP n ev lo hi:=fun n=>MU (fun y hy=>bJ y (by simp only [aA.cd];simp only [zr,zi];exact .inr (.inl hy)))
   (fun y hy=>bJ y (by simp only [aA.cd];simp only [zr,zi];exact .inr (.inr hy)))
  simp only [ay,bJ x (by simp [aA.cd]),e0] at h ⊢;split at h
  ·rename_i hx;split at h
   ·rename_i j7;simp at h;obtain ⟨rfl,rfl,rfl⟩:=h;exact ⟨m1,by simp only [hx,j7],.none hW⟩
   ·cases h
  ·cases h
 |ext x k=>
  simp only [ay,bJ x (by simp [aA.cd])] at h ⊢;split at h
  ·split at h
   ·rename_i hx _ _ hk;simp at h;obtain ⟨rfl,rfl,rfl⟩:=h;exact ⟨m1,by simp only [hx,hk],.none hW⟩
   ·cases h
  ·cases h
 |call f io args=>
  have e0:args.map ev'=args.map ev:=zq fun x hx=>bJ x hx
  cases io with
  |nil=>
   have e1:dW m1 [] 0 (args.map ev)=dW m [] 0 (args.map ev):=um [] _ _ fun a ha r hr=>by
    simp only [zh] at ha;obtain ⟨x,hx,rfl⟩:=ha;exact hm r ⟨x,hx,hr⟩
   simp only [ay,e0,e1] at h ⊢;split at h
   ·rename_i xs h1;split at h
    ·rename_i r us h2;split at h
     ·rename_i h3;split at h
      ·simp at h;obtain ⟨rfl,rfl,rfl⟩:=h;exact ⟨m1,by simp only [h1,h2,if_pos h3],.none hW⟩
      ·cases h
     ·cases h
    ·cases h
   ·cases h
  |cons i0 io=>
   have iy:∀a∈args.map ev,∀r∈a.refs,m1 r=m r:=fun a ha r hr=>by
    simp only [zh] at ha;obtain ⟨x,hx,rfl⟩:=ha;exact hm r ⟨x,hx,hr⟩
   have q8:∀a∈args.map ev,∀r∈a.refs,nd ev (.call f (i0::io) args) r:=fun a ha r hr=>by
    simp only [zh] at ha;obtain ⟨x,hx,rfl⟩:=ha;exact ⟨x,by simp [aA.gH,hx],hr⟩
   simp only [ay,e0] at h ⊢;generalize args.map ev=as at h iy q8 ⊢;cases as with
   |nil=>simp at h
   |cons a0 rest=>
    simp only at h ⊢;rw [Vf (iy a0 (by simp))];split at h
    ·rename_i r0 cs0 hp;have e2:dW m1 [] 1 rest=dW m [] 1 rest:=um [] _ _ fun a ha r hr=>iy a (by simp [ha]) r hr
     have mS:r0∈a0.refs:=by rw [(Vg hp).1];simp [AV.refs]
     split at h
     ·rename_i xs h2;split at h
      ·rename_i r us h4;split at h
       ·rename_i h5;split at h
        ·rename_i bH h6;split at h
         ·rename_i h7;split at h
          ·rename_i mb lN;simp at h;obtain ⟨rfl,rfl,rfl⟩:=h;have iC:=iy a0 (by simp) r0 mS;obtain ⟨x,rfl,e3⟩:=Pv lN iC;refine ⟨az m1 r0 x,by simp only [hp,e2,h2,h4,if_pos h5,h6,if_pos h7,e3],Fr.az.wide (fun r e=>?_) hW⟩;subst e;exact q8 a0 (by simp) r mS
          ·cases h
         ·cases h
        ·cases h
       ·cases h
      ·cases h
     ·cases h
    split at h
    ·rename_i x0 m2 h1;obtain ⟨q1,e1,f1⟩:=Nb h1 (m1:=m1) (iy a0 (by simp));have e2:dW q1 [] 1 rest=dW m2 [] 1 rest:=um [] _ _ fun a ha r hr=>f1.om (iy a (by simp [ha]) r hr)
     split at h
     ·rename_i xs h2
      ·split at h
       ·rename_i r us h4;split at h
        ·rename_i h5;split at h
         ·rename_i m3 h6;simp at h;obtain ⟨rfl,rfl,rfl⟩:=h;obtain ⟨q2,e3,f2⟩:=aah us h6 (m1:=q1) (fun r hr=>f1.om (iy a0 (by simp) r (by rwa [ss] at hr)));exact ⟨q2,by simp only [e1,e2,h2,h4,if_pos h5,e3],f1.trans f2 (fun r hr=>q8 a0 (by simp) r hr) (fun r hr=>q8 a0 (by simp) r (by rwa [ss] at hr)) hW⟩
         ·cases h
        ·cases h
       ·cases h
     ·cases h
    ·cases h
 |app sz dI x y=>
  have e1:m1.fq (ev y)=m.fq (ev y):=xr fun r hr=>hm r ⟨y,by simp [aA.reads],hr⟩
  simp only [ay,bJ x (by simp [aA.cd]),bJ y (by simp [aA.cd]),e1] at h ⊢;split at h
  ·rename_i s1 ys m2 h1;split at h
   ·rename_i s2 es m3 h2;split at h
    ·rename_i hl;simp at h;obtain ⟨rfl,rfl,rfl⟩:=h
     have fin:∀q1,Fr (nd ev (.app sz dI x y)) m m2 m1 q1→∃q2,eH q1 (ev x)=some (.own (.sl s2 es),q2)∧Fr (nd ev (.app sz dI x y)) m m3 m1 q2:=by
      intro q1 f1;obtain ⟨q2,e2,f2⟩:=sG h2 (m1:=q1) (fun r hr=>f1.om (hm r ⟨x,by simp [aA.reads],hr⟩));exact ⟨q2,e2,f1.trans f2 (fun r hr=>hr) (fun r hr=>⟨x,by simp [aA.gH],hr⟩) hW⟩
     split at h1
     ·rename_i s ys0 he;split at h1
      ·rename_i hf;simp at h1;obtain ⟨rfl,rfl,rfl⟩:=h1;obtain ⟨q2,e2,f2⟩:=fin m1 (.none hW);exact ⟨q2,by simp only [he,if_pos hf,e2,if_pos hl],f2⟩
      ·rename_i hf;split at h1
       ·rename_i s3 ys3 m4 ha;split at h1
        ·rename_i j8;simp at h1;obtain ⟨rfl,rfl,rfl⟩:=h1;obtain ⟨q,e3,f3⟩:=sG ha (m1:=m1) (fun r hr=>hm r ⟨y,by simp [aA.reads],hr⟩);obtain ⟨q2,e2,f2⟩:=fin q (f3.wide (fun r hr=>⟨y,by simp [aA.gH],hr⟩) hW);exact ⟨q2,by simp only [he,if_neg hf,e3,if_pos j8,e2,if_pos hl],f2⟩
        ·cases h1
       ·cases h1
     ·cases h1
    ·cases h
   ·cases h
  ·cases h
 |apps x y=>
  simp only [ay,bJ x (by simp [aA.cd]),bJ y (by simp [aA.cd])] at h ⊢;split at h
  ·rename_i hy;split at h
   ·rename_i es m2 h2;split at h
    ·rename_i hl;simp at h;obtain ⟨rfl,rfl,rfl⟩:=h;obtain ⟨q2,e2,f2⟩:=sG h2 (m1:=m1) (fun r hr=>hm r ⟨x,by simp [aA.reads],hr⟩);exact ⟨q2,by simp only [hy,e2,if_pos hl],f2.wide (fun r hr=>⟨x,by simp [aA.gH],hr⟩) hW⟩
    ·cases h
   ·cases h
  ·cases h
 |kx sz dI x y=>
  have e1:m1.fq (ev y)=m.fq (ev y):=xr fun r hr=>hm r ⟨y,by simp [aA.reads],hr⟩
  simp only [ay,bJ x (by simp [aA.cd]),bJ y (by simp [aA.cd]),e1] at h ⊢;split at h
  ·rename_i s1 ys h1;split at h
   ·rename_i hf;split at h
    ·rename_i s2 es m3 h2;split at h
     ·rename_i hl;simp at h;obtain ⟨rfl,rfl,rfl⟩:=h;obtain ⟨q2,e2,f2⟩:=sG h2 (m1:=m1) (fun r hr=>hm r ⟨x,by simp [aA.reads],hr⟩);exact ⟨q2,by simp only [h1,if_pos hf,e2,if_pos hl],f2.wide (fun r hr=>⟨x,by simp [aA.gH],hr⟩) hW⟩
     ·cases h
    ·cases h
   ·cases h
  ·cases h
 |dE k x=>
  simp only [ay,bJ x (by simp [aA.cd])] at h ⊢;split at h
  ·rename_i hx;simp at h;obtain ⟨rfl,rfl,rfl⟩:=h;exact ⟨m1,by simp only [hx],.none hW⟩
  ·cases h
 |kG x=>
  have e1:m1.fq (ev x)=m.fq (ev x):=xr fun r hr=>hm r ⟨x,by simp [aA.reads],hr⟩
  simp only [ay,bJ x (by simp [aA.cd]),e1] at h ⊢;split at h
  ·rename_i hx;split at h
   ·rename_i hb;simp at h;obtain ⟨rfl,rfl,rfl⟩:=h;exact ⟨m1,by simp only [hx,hb],.none hW⟩
   ·cases h
  ·cases h
 |uB x=>simp [ay] at h
 |idx x i=>
  simp only [ay,bJ x (by simp [aA.cd]),bJ i (by simp [aA.cd])] at h ⊢;split at h
  ·rename_i hx hi;split at h
   ·rename_i hl;split at h
    ·rename_i hb;simp at h;obtain ⟨rfl,rfl,rfl⟩:=h;exact ⟨m1,by simp only [hx,hi,if_pos hl,hb],.none hW⟩
    ·cases h
   ·cases h
  ·cases h
 |mn x y=>
  simp only [ay,bJ x (by simp [aA.cd]),bJ y (by simp [aA.cd])] at h ⊢;split at h
  ·rename_i hx hy;simp at h;obtain ⟨rfl,rfl,rfl⟩:=h;exact ⟨m1,by simp only [hx,hy],.none hW⟩
  ·cases h
 |mx x y=>
  simp only [ay,bJ x (by simp [aA.cd]),bJ y (by simp [aA.cd])] at h ⊢;split at h
  ·rename_i hx hy;simp at h;obtain ⟨rfl,rfl,rfl⟩:=h;exact ⟨m1,by simp only [hx,hy],.none hW⟩
  ·cases h
 |rL k x=>
  simp only [ay,bJ x (by simp [aA.cd])] at h ⊢;split at h
  ·rename_i hx;simp at h;obtain ⟨rfl,rfl,rfl⟩:=h;exact ⟨m1,by simp only [hx],.none hW⟩
  ·cases h
 |gM f i args=>
  have e0:args.map ev'=args.map ev:=zq fun x hx=>bJ x hx
  have iy:∀a∈args.map ev,∀r∈a.refs,m1 r=m r:=fun a ha r hr=>by
   simp only [zh] at ha;obtain ⟨x,hx,rfl⟩:=ha;exact hm r ⟨x,hx,hr⟩
  have q8:∀a∈args.map ev,∀r∈a.refs,nd ev (.gM f i args) r:=fun a ha r hr=>by
   simp only [zh] at ha;obtain ⟨x,hx,rfl⟩:=ha;exact ⟨x,by simp [aA.gH,hx],hr⟩
  simp only [ay,e0] at h ⊢;generalize args.map ev=as at h iy q8 ⊢;split at h
  ·rename_i a0 la;have ha:=za la;split at h
   ·rename_i x0 m2 h1;obtain ⟨q1,e1,f1⟩:=Nb h1 (m1:=m1) (iy a0 ha)
    have e2:dW q1 [] 0 (as.set i (.v false (.bool true)))=dW m2 [] 0 (as.set i (.v false (.bool true))):=um [] _ _ fun a ha r hr=>f1.om (by
     rcases List.mem_or_eq_of_mem_set ha with ha|rfl
     ·exact iy a ha r hr
     ·simp [AV.refs] at hr)
    split at h
    ·rename_i xs h2;split at h
     ·rename_i r us h4;split at h
      ·rename_i h5;simp at h;obtain ⟨rfl,rfl,rfl⟩:=h;exact ⟨q1,by simp only [la,e1,e2,h2,h4,if_pos h5],f1.wide (fun r hr=>q8 a0 ha r hr) hW⟩
      ·cases h
     ·cases h
    ·cases h
   ·cases h
  ·cases h
 |mw sz z x=>
  simp only [ay,bJ x (by simp [aA.cd])] at h ⊢;split at h
  ·rename_i r j p n8 lo hi hx;have mS:m1 r=m r:=hm r ⟨x,by simp [aA.reads],by simp [hx,AV.refs]⟩;split at h
   ·rename_i wM es bI;split at h
    ·rename_i dA;split at h
     ·rename_i m2 fU;simp at h;obtain ⟨rfl,rfl,rfl⟩:=h;obtain ⟨q,e1,f1⟩:=A' fU mS;exact ⟨q,by simp only [hx,kz mS,bI,if_pos dA,e1],f1.wide (fun r1 gZ=>by subst gZ;exact ⟨x,by simp [aA.gH],by simp [hx,AV.refs]⟩) hW⟩
     ·cases h
    ·cases h
   ·cases h
  ·cases h
 |lG x args=>
  have e0:args.map ev'=args.map ev:=zq fun y hy=>bJ y (by simp [aA.cd,hy])
  have e1:dW m1 [] 0 (args.map ev)=dW m [] 0 (args.map ev):=um [] _ _ fun a ha r hr=>by
   simp only [zh] at ha;obtain ⟨x,hx,rfl⟩:=ha;exact hm r ⟨x,hx,hr⟩
  simp only [ay,bJ x (by simp [aA.cd]),e0,e1] at h ⊢;split at h
  ·rename_i k f ds hx;split at h
   ·rename_i xs h1;split at h
    ·rename_i r us h2;split at h
     ·rename_i h3;split at h
      ·simp at h;obtain ⟨rfl,rfl,rfl⟩:=h;exact ⟨m1,by simp only [hx,h1,h2,if_pos h3],.none hW⟩
      ·cases h
     ·cases h
    ·cases h
   ·cases h
  ·cases h
end
end
section
def PX.slot:PX→List Nat
 |.t n=>[n]
 |.c _=>[]
def PO.looks (o:PO):List Nat:=o.op.cd.flatMap PX.slot++(match o.g with|some (t,_)=>[t]|none=>[])
def gD (S:St) (dst:Option Nat) (a:AV):Nat→AV:=match dst with
 |some d=>az S.av d a
 |none=>S.av
section
variable {Γ:Env}
theorem OU {S:St} {g:Option (Nat×Bool)} {b:Bool} (h:gd S g=some b):wanted S g=b:=by
 cases g with
 |none=>simp [gd] at h;subst h;rfl
 |some x=>
  obtain ⟨t,want⟩:=x;simp only [gd] at h;simp only [wanted];split at h
  ·rename_i hb;simp at h;subst h;simp [hb]
  ·rename_i hb;simp at h;subst h;simp [hb]
  ·cases h
theorem UQ {ev:PX→AV} {d:Nat} {m m':Ms} {op:aA} {a:AV} {r:Rt} (h:ay Γ ev d m op=some (a,some r,m')):op.uA=true:=by
 cases op with
 |box=>rfl
 |alloc=>rfl
 |ax=>rfl
 |lY=>rfl
 |call=>rfl
 |gM=>rfl
 |lG=>rfl
 |app=>rfl
 |kx=>rfl
 |apps=>rfl
 |uB=>simp [ay] at h
 |_=>
  exfalso;simp only [ay] at h
  repeat' split at h
  all_goals first|(cases h;done)|(simp at h;done)
theorem Oa {o:PO} {S S':St} (h:dP Γ o S=some S'):
 (gd S o.g=some false∧S'=⟨gD S o.dst (.a_ []),S.ms⟩)∨
 (gd S o.g=some true∧∃av rt m',ay Γ S.ev (o.dst.getD 0) S.ms o.op=some (av,rt,m')∧
  ((rt=none∧S'=⟨gD S o.dst av,m'⟩)∨∃d r,rt=some r∧o.dst=some d∧(m' d).1=none∧S'=⟨gD S o.dst av,az m' d (some r,[])⟩)):=by
 unfold dP at h;split at h
 ·rename_i h1;refine .inr ⟨h1,?_⟩;split at h
  ·rename_i d hd;split at h
   ·rename_i a m' ho;simp at h;subst h;exact ⟨a,none,m',by simpa [hd] using ho,.inl ⟨rfl,by simp [gD,hd]⟩⟩
   ·rename_i a r m' ho;split at h
    ·rename_i hm;simp at h;subst h;exact ⟨a,some r,m',by simpa [hd] using ho,.inr ⟨d,r,rfl,hd,by rw [hm],by simp [gD,hd]⟩⟩
    ·cases h
   ·cases h
  ·rename_i hd;split at h
   ·rename_i a m' ho;simp at h;subst h;exact ⟨a,none,m',by simpa [hd] using ho,.inl ⟨rfl,by simp [gD,hd]⟩⟩
   ·cases h
 ·rename_i h1;refine .inl ⟨h1,?_⟩;split at h
  ·rename_i d hd;simp at h;subst h;simp [gD,hd]
  ·rename_i hd;simp at h;subst h;simp [gD,hd]
 ·cases h
theorem Wh {o:PO} {S:St} (h:gd S o.g=some false):dP Γ o S=some ⟨gD S o.dst (.a_ []),S.ms⟩:=by
 unfold dP;cases hd:o.dst<;>simp [h,gD]
theorem Oe {o:PO} {S:St} (h:gd S o.g=some true) {av:AV} {rt:Option Rt} {m':Ms} (ho:ay Γ S.ev (o.dst.getD 0) S.ms o.op=some (av,rt,m')):
 (rt=none→dP Γ o S=some ⟨gD S o.dst av,m'⟩)∧
 (∀d r,rt=some r→o.dst=some d→(m' d).1=none→dP Γ o S=some ⟨gD S o.dst av,az m' d (some r,[])⟩):=by
 refine ⟨fun e=>?_,fun d r e hd hm=>?_⟩
 ·subst e;unfold dP;cases hd:o.dst with
  |none=>rw [hd] at ho;simp only [Option.getD_none] at ho;simp [h,gD,ho]
  |some d=>rw [hd] at ho;simp only [zT] at ho;simp [h,gD,ho]
 ·subst e;unfold dP;rw [hd] at ho ⊢;simp only [zT] at ho;have:m' d=(none,(m' d).2):=by rw [←hm]
  simp only [h,ho,gD];rw [this]
theorem QC {S S':St} {g:Option (Nat×Bool)} (h:∀t w,g=some (t,w)→S'.av t=S.av t):gd S' g=gd S g:=by
 cases g with
 |none=>rfl
 |some x=>obtain ⟨t,w⟩:=x;simp only [gd,h t w rfl]
theorem aap {S S':St} {g:Option (Nat×Bool)} (h:∀t w,g=some (t,w)→S'.av t=S.av t):wanted S' g=wanted S g:=by
 cases g with
 |none=>rfl
 |some x=>obtain ⟨t,w⟩:=x;simp only [wanted,h t w rfl]
theorem Ct {S S':St} {o:PO} (h:∀n∈o.looks,S'.av n=S.av n) {x:PX} (hx:x∈o.op.cd):S'.ev x=S.ev x:=by
 cases x with
 |c a=>rfl
 |t n=>exact h n (List.mem_append_left _ (zp.2 ⟨_,hx,by simp [PX.slot]⟩))
theorem WZ {op:aA} {x:PX} (h:x∈op.gH):x∈op.cd:=NJ (Jx h)
theorem K8 {l:List PX} {f f':PX→List Nat} (h:∀x∈l,f x=f' x):l.flatMap f=l.flatMap f':=by
 induction l with
 |nil=>rfl
 |cons a l ih=>simp only [List.flatMap_cons,h a (by simp),ih fun x hx=>h x (by simp [hx])]
theorem K' {S S':St} {o:PO} (h:∀n∈o.looks,S'.av n=S.av n):fQ S' o=fQ S o∧dJ S' o=dJ S o:=by
 have hw:wanted S' o.g=wanted S o.g:=aap fun t w e=>h t (by simp [PO.looks,e])
 simp only [fQ,dJ,hw]
 rw [K8 (f:=fun x=>(S'.ev x).refs) (f':=fun x=>(S.ev x).refs) fun x hx=>by rw [Ct h (NJ hx)],
  K8 (f:=fun x=>(S'.ev x).refs) (f':=fun x=>(S.ev x).refs) fun x hx=>by rw [Ct h (WZ hx)]]
 exact ⟨rfl,rfl⟩
theorem Js {q:PO} {S S2 S':St} (h:dP Γ q S=some S2) (hl:∀n∈q.looks,S'.av n=S.av n) (hr:∀r∈fQ S q,S'.ms r=S.ms r)
 (hn:∀d,q.dst=some d→d∈dJ S q→S'.ms d=S.ms d):
 ∃pI,dP Γ q S'=some pI∧(∀n,q.dst=some n→pI.av n=S2.av n)∧(∀n,q.dst≠some n→pI.av n=S'.av n∧S2.av n=S.av n)∧
  (∀r∈dJ S q,pI.ms r=S2.ms r)∧(∀r,r∉dJ S q→pI.ms r=S'.ms r∧S2.ms r=S.ms r):=by
 have hg:gd S' q.g=gd S q.g:=QC fun t w e=>hl t (by simp [PO.looks,e])
 have fU:∀av,(∀n,q.dst=some n→gD S' q.dst av n=gD S q.dst av n)∧(∀n,q.dst≠some n→gD S' q.dst av n=S'.av n∧gD S q.dst av n=S.av n):=by
  intro av;cases hd:q.dst with
  |none=>exact ⟨by simp,fun n _=>⟨rfl,rfl⟩⟩
  |some d=>exact ⟨fun n e=>by simp at e;subst e;simp [gD,az],fun n e=>by
   have:n≠d:=fun e'=>e (by rw [e'])
   simp [gD,az,this]⟩
 rcases Oa h with ⟨h1,rfl⟩|⟨h1,av,rt,m',ho,h2⟩
 ·have hw:=OU h1;refine ⟨_,Wh (hg.trans h1),(fU _).1,(fU _).2,fun r hr=>?_,fun r _=>⟨rfl,rfl⟩⟩;simp [dJ,hw] at hr
 ·have hw:=OU h1;have hR:∀r,M' S.ev q.op r→S'.ms r=S.ms r:=fun r ⟨x,hx,h3⟩=>hr r (by simp only [fQ,hw,if_true,zp];exact ⟨x,hx,h3⟩)
  obtain ⟨cb,u9,hF⟩:=UR (ev:=S.ev) (ev':=S'.ev) (m1:=S'.ms) (fun a=>rfl) (fun x hx=>Ct hl hx) hR ho
  have xE:∀r,nd S.ev q.op r→r∈dJ S q:=fun r ⟨x,hx,h3⟩=>by
   simp only [dJ,hw,if_true,zi,zp];exact .inr ⟨x,hx,h3⟩
  have rn:∀r,r∈dJ S q→nd S.ev q.op r∨(q.op.uA=true∧q.dst=some r):=fun r h3=>by
   simp only [dJ,hw,if_true,zi,zp] at h3;rcases h3 with h3|h3
   ·split at h3
    ·rename_i hc;exact .inr ⟨hc,by simpa [zS] using h3⟩
    ·simp at h3
   ·exact .inl h3
  rcases h2 with ⟨rfl,rfl⟩|⟨d,r,rfl,hd,hm,rfl⟩
  ·refine ⟨_,(Oe (hg.trans h1) u9).1 rfl,(fU _).1,(fU _).2,fun r hr=>?_,fun r hr=>?_⟩
   ·by_cases h4:nd S.ev q.op r
    ·exact hF.1 r h4
    ·rcases rn r hr with h3|h3
     ·exact absurd h3 h4
     ·show cb r=m' r;rw [hF.2.2 r h4,hF.2.1 r h4];exact hn r h3.2 hr
   ·exact ⟨hF.2.2 r fun e=>hr (xE r e),hF.2.1 r fun e=>hr (xE r e)⟩
  ·have L2:d∈dJ S q:=by
    simp only [dJ,hw,if_true,UQ ho,hd,zi];exact .inl (by simp)
   have iC:(cb d).1=none:=by
    by_cases h4:nd S.ev q.op d
    ·rw [hF.1 d h4,hm]
    ·rw [hF.2.2 d h4,hn d hd L2,←hF.2.1 d h4,hm]
   refine ⟨_,(Oe (hg.trans h1) u9).2 d r rfl hd iC,(fU _).1,(fU _).2,fun k hk=>?_,fun k hk=>?_⟩
   ·by_cases e:k=d
    ·subst e;simp [az]
    ·simp only [az,if_neg e];rcases rn k hk with h3|h3
     ·exact hF.1 k h3
     ·rw [hd] at h3;simp at h3;exact absurd h3.2.symm e
   ·have e:k≠d:=fun e=>hk (e▸L2)
    simp only [az,if_neg e];exact ⟨hF.2.2 k fun e=>hk (xE k e),hF.2.1 k fun e=>hk (xE k e)⟩
def uk (p q:PO):Bool:=
 (match p.dst with
  |some d=>!q.looks.contains d&&q.dst !=some d
  |none=>true)&&
 (match q.dst with
  |some d=>!p.looks.contains d
  |none=>true)
theorem Pg {p q:PO} (h:uk p q=true):(∀d,p.dst=some d→d∉q.looks)∧(∀d,p.dst=some d→q.dst≠some d)∧(∀d,q.dst=some d→d∉p.looks):=by
 refine ⟨fun d hd=>?_,fun d hd=>?_,fun d hd=>?_⟩<;>simp [uk,hd] at h
 ·exact h.1.1
 ·exact h.1.2
 ·exact h.2
theorem xq {a b:List Nat} (h:mA a b=true) {r:Nat} (ha:r∈a):r∉b:=by
 simp only [mA,zb] at h;simpa using h r ha
theorem K_ {S:St} {q:PO} {r:Nat} (h:r∈dJ S q):r∈fQ S q∨q.dst=some r:=by
 unfold dJ at h;split at h
 ·rename_i hw;rcases zi.1 h with h|h
  ·split at h
   ·exact .inr (by simpa [zS] using h)
   ·simp at h
  ·obtain ⟨x,hx,h3⟩:=zp.1 h;exact .inl (by simp only [fQ,hw,if_true,zp];exact ⟨x,Jx hx,h3⟩)
 ·simp at h
theorem Wc {p q:PO} {S S1 S2:St} (h1:dP Γ p S=some S1) (h2:dP Γ q S1=some S2) (ha:uk p q=true)
 (eQ:mA (dJ S p) (fQ S1 q)=true) (bp:mA (dJ S1 q) (fQ S p)=true):
 ∃nA,dP Γ q S=some nA∧dP Γ p nA=some S2∧fQ S q=fQ S1 q∧dJ S q=dJ S1 q∧fQ nA p=fQ S p∧dJ nA p=dJ S p:=by
 obtain ⟨a1,a2,a3⟩:=Pg ha;obtain ⟨Sx,hx,_,p2,_,p4⟩:=Js (S':=S) h1 (fun _ _=>rfl) (fun _ _=>rfl) (fun _ _ _=>rfl)
 have qg:∀r,r∈dJ S p→r∈dJ S1 q→False:=fun r h3 h4=>by
  rcases K_ h4 with h5|h5
  ·exact xq eQ h3 h5
  ·rcases K_ h3 with h6|h6
   ·exact xq bp h4 h6
   ·exact a2 r h6 h5
 have Ds:∀n∈q.looks,S.av n=S1.av n:=fun n hn=>(p2 n fun e=>a1 n e hn).2.symm
 obtain ⟨nA,e1,q1,q2,q3,q4⟩:=Js (S':=S) h2 Ds (fun r hr=>(p4 r fun e=>xq eQ e hr).2.symm)
  (fun d hd hW=>(p4 d fun e=>qg d e hW).2.symm)
 obtain ⟨pI,e2,r1,r2,r3,r4⟩:=Js (S':=nA) h1 (fun n hn=>(q2 n fun e=>a3 n e hn).1)
  (fun r hr=>(q4 r fun e=>xq bp e hr).1) (fun d hd hW=>(q4 d fun e=>qg d hW e).1)
 have xI:=K' (o:=q) (S:=S1) (S':=S) Ds;have qd:=K' (o:=p) (S:=S) (S':=nA) (fun n hn=>(q2 n fun e=>a3 n e hn).1);refine ⟨nA,e1,?_,xI.1,xI.2,qd.1,qd.2⟩
 have:pI=S2:=by
  obtain ⟨Po,T8⟩:=S2;obtain ⟨Pp,T9⟩:=pI
  have cQ:Pp=Po:=by
   funext n;by_cases hp:p.dst=some n
   ·have hq:q.dst≠some n:=a2 n hp;have:=r1 n hp;have h3:=(q2 n hq).2;simp only at this h3 ⊢;rw [this,h3]
   ·by_cases hq:q.dst=some n
    ·have h3:=(r2 n hp).1;have h4:=q1 n hq;simp only at h3 h4 ⊢;rw [h3,h4]
    ·have h3:=(r2 n hp).1;have h4:=(q2 n hq).1;have h5:=(q2 n hq).2;have h6:=(p2 n hp).2;simp only at h3 h4 h5 h6 ⊢;rw [h3,h4,h5,h6]
  have nI:T9=T8:=by
   funext r;by_cases hp:r∈dJ S p
   ·have hq:r∉dJ S1 q:=fun e=>qg r hp e
    have h3:=r3 r hp;have h4:=(q4 r hq).2;simp only at h3 h4 ⊢;rw [h3,h4]
   ·by_cases hq:r∈dJ S1 q
    ·have h3:=(r4 r hp).1;have h4:=q3 r hq;simp only at h3 h4 ⊢;rw [h3,h4]
    ·have h3:=(r4 r hp).1;have h4:=(q4 r hq).1;have h5:=(q4 r hq).2;have h6:=(p4 r hp).2;simp only at h3 h4 h5 h6 ⊢;rw [h3,h4,h5,h6]
  rw [cQ,nI]
 rw [←this];exact e2
def kZ (Γ:Env) (ops:List PO) (F:Nat→List Nat×List Nat):List Nat→St→St→Prop
 |[],S,S'=>S=S'
 |i::l,S,S'=>∃o S1,ops[i]?=some o∧dP Γ o S=some S1∧fQ S o=(F i).1∧dJ S o=(F i).2∧kZ Γ ops F l S1 S'
def BC (ops:List PO) (F:Nat→List Nat×List Nat) (k i:Nat):Prop:=
 ∀p q,ops[k]?=some p→ops[i]?=some q→uk p q=true∧mA (F k).2 (F i).1=true∧mA (F i).2 (F k).1=true
theorem kZ.Pz {ops:List PO} {F:Nat→List Nat×List Nat} {i:Nat} {rest:List Nat}:∀(ks:List Nat) {S S':St},kZ Γ ops F (ks++i::rest) S S'→
 (∀k∈ks,BC ops F k i)→kZ Γ ops F (i::(ks++rest)) S S':=by
 intro ks;induction ks with
 |nil=>intro S S' h _;exact h
 |cons k ks ih=>
  intro S S' h hp;obtain ⟨p,S1,Mk,hs,hr,hw,h⟩:=h;obtain ⟨q,S2,cv,SH,kL,ea,h⟩:=ih h fun j hj=>hp j (by simp [hj])
  obtain ⟨a,b,c⟩:=hp k (by simp) p q Mk cv;obtain ⟨nA,e1,e2,f1,f2,f3,f4⟩:=Wc hs SH a (by rw [hw,kL];exact b) (by rw [ea,hr];exact c);exact ⟨q,nA,cv,e1,f1.trans kL,f2.trans ea,p,S2,Mk,e2,f3.trans hr,f4.trans hw,h⟩
end
end
section
def fg (w0:World) (cl0:dv) (N:Nat) (S:St) (a:Act) (w:World):Prop:=∃g,Rel w0 cl0 S a.tmps w g∧a.defers=[]∧N≤a.tmps.size
def sO (P:Program) (κ:Nat→FuncId) (N:Nat) (ops:Array Oper) (po:PO) (o:Oper):Bool:=
 decide (po.dst=o.dst)&&(match po.dst with|some d=>decide (d<N)|none=>true)&&
 (match po.g,o.guard with
  |none,none=>true
  |some (t,want),some (j,OT)=>want==OT&&decide ((ops[j]?).bind (·.dst)=some t)
  |_,_=>false)&&bf P κ po.op o.op
def mh (P:Program) (κ:Nat→FuncId) (Γ:Env) (_keys:List Nat):Prop:=og P κ Γ
def aA.key:aA→List Nat
 |.call f _ _=>[f]
 |_=>[]
section
variable {P:Program} {κ:Nat→FuncId} {w0:World} {cl0:dv} {Γ:Env} {N:Nat} {ops:Array Oper}
theorem put_defers (a:Act) (d:Option Tmp) (v:Value):(a.put d v).defers=a.defers:=by cases d<;>rfl
theorem NC (a:Act) (d:Option Tmp) (v:Value):(a.put d v).tmps.size=a.tmps.size:=by cases d<;>simp [Act.put]
theorem Rel.put {S:St} {a:Act} {w:World} {g:Gh} (R:Rel w0 cl0 S a.tmps w g) {dst:Option Nat} {av:AV} {v:Value} (hd:∀d,dst=some d→d<a.tmps.size)
 (ha:RA w g S.ms av v) (hr:Live S.ms av):Rel w0 cl0 ⟨gD S dst av,S.ms⟩ (a.put dst v).tmps w g:=by
 cases dst with
 |none=>exact R
 |some d=>exact R.slot (hd d rfl) ha hr
theorem Lz {S:St} {a:Act} {w:World} {g:Gh} (R:Rel w0 cl0 S a.tmps w g) {po:PO} {o:Oper} (hc:sO P κ N ops po o=true) {b:Bool} (h:gd S po.g=some b):
 Region.wanted o (yielded ops a.tmps)=b:=by
 simp only [sO,zd] at hc;obtain ⟨⟨⟨_,_⟩,hg⟩,_⟩:=hc;unfold Region.wanted;cases Mm:po.g with
 |none=>
  rw [Mm] at hg h;cases xU:o.guard with
  |none=>simp [gd] at h;subst h;rfl
  |some x=>rw [xU] at hg;simp at hg
 |some x=>
  obtain ⟨t,want⟩:=x;rw [Mm] at hg h;cases xU:o.guard with
  |none=>rw [xU] at hg;simp at hg
  |some y=>
   obtain ⟨j,OT⟩:=y;rw [xU] at hg;simp only [zd,beq_iff_eq,decide_eq_true_eq] at hg;obtain ⟨rfl,hj⟩:=hg;have cQ:=R.av t;simp only [gd] at h;simp only [yielded,hj,Option.bind_some];split at h
   ·rename_i k bb hb;simp at h;subst h;rw [hb] at cQ;have hv:=wG cQ
    have:a.tmps[t]?=some (.bool bb):=by
     rw [zm] at hv;cases h2:a.tmps[t]? with
     |none=>rw [h2] at hv;simp [undef] at hv
     |some y=>rw [h2] at hv;simp at hv;rw [hv]
    simp only [this];cases bb<;>cases want<;>rfl
   ·rename_i hb;simp at h;subst h;rw [hb] at cQ
    have hv:a.tmps.getD t undef=.tuple #[]:=by
     generalize a.tmps.getD t undef=z at cQ;cases cQ with
     |a_ _ vs hl _=>
      have:vs=#[]:=zB (by simpa using hl.symm);rw [this]
    rw [zm] at hv;cases h2:a.tmps[t]? with
    |none=>rfl
    |some y=>rw [h2] at hv;simp at hv;rw [hv];rfl
   ·cases h
theorem Wk {S S':St} {a:Act} {w:World} {po:PO} {o:Oper} (fA:mh P κ Γ po.op.key) (hc:sO P κ N ops po o=true) (hs:fg w0 cl0 N S a w)
 (h:dP Γ po S=some S') {Q:Exit→Act→World→Prop}:
 if Region.wanted o (yielded ops a.tmps) then o.wp P a w (fg w0 cl0 N S') Q else fg w0 cl0 N S' (a.put o.dst undef) w:=by
 obtain ⟨g,R,xG,hN⟩:=hs;have dF:=hc;simp only [sO,zd,decide_eq_true_eq] at hc;obtain ⟨⟨⟨L4,ae⟩,_⟩,fG⟩:=hc;have hd:∀d,po.dst=some d→d<a.tmps.size:=fun d e=>by rw [e] at ae;have:=of_decide_eq_true ae;omega
 rcases Oa h with ⟨h1,rfl⟩|⟨h1,av,rt,m',ho,h2⟩
 ·rw [Lz R dF h1,if_neg (by simp),←L4];refine ⟨g,R.put hd ?_ (fun r hr=>by simp [AV.refs,AV.cA] at hr),by rw [put_defers];exact xG,by rw [NC];exact hN⟩;exact .a_ [] #[] rfl (fun i b x hb=>by simp at hb)
 ·rw [Lz R dF h1,if_pos rfl]
  have eC:rt.isSome→(m' (po.dst.getD 0)).1=none:=by
   rcases h2 with ⟨rfl,_⟩|⟨d,r,rfl,bp,hm,_⟩
   ·simp
   ·intro _;rw [bp];exact hm
  have hu:=UJ R eC fA fG ho o rfl
  have key:∀v w',eX w0 cl0 S a.tmps (po.dst.getD 0) av rt m' v w'→fg w0 cl0 N S' (a.put o.dst v) w':=by
   intro v w' hp;obtain ⟨g',R',ha,hl⟩:=hp;rw [←L4];refine ⟨g',?_,by rw [put_defers];exact xG,by rw [NC];exact hN⟩;rcases h2 with ⟨rfl,rfl⟩|⟨d,r,rfl,bp,hm,rfl⟩
   ·exact Rel.put (S:={ S with ms:=m' }) R' hd ha hl
   ·have:=Rel.put (S:={ S with ms:=az m' d (some r,[]) }) (dst:=po.dst) (by rw [bp] at R';exact R') hd (by rw [bp] at ha;exact ha) (by rw [bp] at hl;exact hl);exact this
  unfold Oper.wp;generalize (execOp a.eval o).run P w=res at hu;cases res with
  |ok n w'=>
   cases n with
   |value v=>exact key v w' hu
   |skip=>exact key undef w' hu
   |enter f args=>
    refine Calls.mono hu fun e ub he=>?_
    obtain ⟨v,rfl,hp⟩:=he;exact key v ub hp
   |_=>exact hu.elim
  |halt x w'=>exact hu.elim
def mu (P:Program) (κ:Nat→FuncId) (N:Nat) (ops:Array Oper):List PO→List Oper→Bool
 |[],[]=>true
 |p::ps,o::os=>sO P κ N ops p o&&mu P κ N ops ps os
 |_,_=>false
theorem xf:∀(ps:List PO) (os:List Oper),mu P κ N ops ps os=true→ps.length=os.length∧
 ∀(i:Nat) (p:PO) (o:Oper),ps[i]?=some p→os[i]?=some o→sO P κ N ops p o=true:=by
 intro ps;induction ps with
 |nil=>intro os h;cases os<;>simp [mu] at h ⊢
 |cons p ps ih=>
  intro os h;cases os with
  |nil=>simp [mu] at h
  |cons o os=>
   simp only [mu,zd] at h;obtain ⟨h1,h2⟩:=ih os h.2;refine ⟨by simp [h1],fun i q x hq hx=>?_⟩;cases i with
   |zero=>simp at hq hx;subst hq;subst hx;exact h.1
   |succ i=>exact h2 i q x (by simpa using hq) (by simpa using hx)
def tl (ps:List PO):List Nat:=ps.flatMap fun p=>p.op.key
theorem OX {pos:List PO} (fA:mh P κ Γ (tl pos)) (hc:mu P κ N ops pos ops.toList=true) {i:Nat} {po:PO} {S S1:St} {a:Act} {w:World} (hi:pos[i]?=some po)
 (hs:fg w0 cl0 N S a w) (h:dP Γ po S=some S1) {Q:Exit→Act→World→Prop} {K:Act→World→Prop} (hK:∀a w,fg w0 cl0 N S1 a w→K a w):
 wpOp P ops Q i K a w:=by
 obtain ⟨hl,hg⟩:=xf pos ops.toList hc;have ae:=bE hi;have ho:ops[i]?=some ops[i]:=by simp [show i<ops.size by rw [hl] at ae;simpa using ae]
 generalize ops[i]=o at ho;have q9:=hg i po o hi (by simpa using ho);have bQ:=Wk (w0:=w0) (cl0:=cl0) (Q:=Q) fA q9 hs h;unfold wpOp;simp only [ho];split
 ·rename_i hw;rw [if_pos hw] at bQ;exact .inl (Oper.wp_mono hK bQ)
 ·rename_i hw;rw [if_neg hw] at bQ;exact hK _ _ bQ
theorem aar {pos:List PO} {F:Nat→List Nat×List Nat} (fA:mh P κ Γ (tl pos)) (hc:mu P κ N ops pos ops.toList=true) {Q:Exit→Act→World→Prop} {S':St}
 (hQ:∀a w,fg w0 cl0 N S' a w→Q .normal a w):∀(l:List Nat) (S:St) (a:Act) (w:World),kZ Γ pos F l S S'→fg w0 cl0 N S a w→wpOps P ops Q l a w:=by
 intro l;induction l with
 |nil=>intro S a w h hs;have:S=S':=h;subst this;exact hQ a w hs
 |cons i l ih=>
  intro S a w h hs;obtain ⟨po,S1,hi,bQ,_,_,h⟩:=h;rw [wpOps_cons];exact OX fA hc hi hs bQ fun a w h2=>ih S1 a w h h2
theorem VN (all:List PO) (F:Nat→List Nat×List Nat):∀(os:List PO) (k:Nat) (S S':St),(∀i,i<os.length→all[k+i]?=os[i]?)→eU Γ os S=some S'→
 (∀i fp,(f_ Γ os S)[i]?=some fp→F (k+i)=fp)→kZ Γ all F (List.range' k os.length) S S':=by
 intro os;induction os with
 |nil=>intro k S S' _ h _;simp [eU] at h;exact h
 |cons o os ih=>
  intro k S S' ha h hF;simp only [eU] at h;split at h
  ·rename_i S1 bQ;have sY:f_ Γ (o::os) S=(fQ S o,dJ S o)::f_ Γ os S1:=by simp only [f_,bQ]
   have h0:=hF 0 (fQ S o,dJ S o) (by rw [sY];rfl);simp only [Nat.add_zero] at h0;rw [zU,List.range'_succ];refine ⟨o,S1,by have:=ha 0 (by simp);simpa using this,bQ,by rw [h0],by rw [h0],ih (k+1) S1 S' (fun i hi=>?_) h (fun i fp hi=>?_)⟩
   ·have:=ha (i+1) (by simp;omega);rw [show k+1+i=k+(i+1) from by omega,this];rfl
   ·have:=hF (i+1) fp (by rw [sY];exact hi);rwa [show k+1+i=k+(i+1) from by omega]
  ·cases h
theorem aa8:∀(os:List PO) (S S':St),eU Γ os S=some S'→(f_ Γ os S).length=os.length:=by
 intro os;induction os with
 |nil=>intro S S' _;rfl
 |cons o os ih=>
  intro S S' h;simp only [eU] at h;split at h
  ·rename_i S1 bQ;simp only [f_,bQ,zU,ih S1 S' h]
  ·cases h
def xx (fs:List (List Nat×List Nat)) (i:Nat):List Nat×List Nat:=fs[i]?.getD ([],[])
theorem Jm {os:List PO} {S S':St} (h:eU Γ os S=some S'):kZ Γ os (xx (f_ Γ os S)) (zD os.length) S S':=by
 rw [List.range_eq_range'];exact VN os _ os 0 S S' (fun i _=>by simp) h (fun i fp hi=>by simp [xx,hi])
theorem aav {pos:List PO} (fA:mh P κ Γ (tl pos)) (hc:mu P κ N ops pos ops.toList=true) {Q:Exit→Act→World→Prop} {S S':St} {id:Nat}
 (hQ:∀a w,fg w0 cl0 N S' a w→Q .normal a w) (h:eU Γ pos S=some S') {a:Act} {w:World} (hs:fg w0 cl0 N S a w):(Code.region id ops false).wp P Q a w:=by
 refine wp_region ?_;have hl:=(xf pos ops.toList hc).1;have:=aar fA hc hQ _ S a w (Jm h) hs;rwa [hl] at this
end
end
section
def direct (o:Oper):List Nat:=(o.after.toList.filter (Region.binds .any)).map (·.on)
def merge (a b:List Nat):List Nat:=a.foldl (fun acc x=>if acc.contains x then acc else x::acc) b
def BJ:List (List Nat)→List Oper→List (List Nat)
 |A,[]=>A
 |A,o::os=>BJ (A++[(direct o).foldl (fun s d=>merge (A.getD d []) (merge [d] s)) []]) os
def BW (ops:List Oper) (A:List (List Nat)):Bool:=
 (zD ops.length).all fun i=>match ops[i]?,A[i]? with
  |some o,some l=>(direct o).all (fun e=>decide (e<i))&&l.all fun k=>(direct o).contains k||(direct o).any fun d=>match A[d]? with|some m=>m.contains k|none=>false
  |_,_=>false
def quiet (p q:PO):Bool:=(p.op.gH.isEmpty&&!p.op.uA)||q.op.reads.isEmpty
def B1 (pos:List PO) (A:List (List Nat)) (ps:List (Nat×Nat)):Bool:=
 (zD pos.length).all fun i=>match pos[i]?,A[i]? with
  |some q,some l=>(zD i).all fun k=>l.contains k||match pos[k]? with
   |some p=>uk p q&&((quiet p q&&quiet q p)||ps.contains (k,i))
   |none=>false
  |_,_=>false
def BY (pos:List PO) (ops:List Oper) (ps:List (Nat×Nat)):Bool:=BW ops (BJ [] ops)&&B1 pos (BJ [] ops) ps
section
variable {P:Program} {κ:Nat→FuncId} {w0:World} {cl0:dv} {Γ:Env} {N:Nat} {ops:Array Oper}
theorem ND {p q:PO} {S S':St} (h:quiet p q=true):mA (dJ S p) (fQ S' q)=true:=by
 simp only [quiet,zg,zd,zI,List.isEmpty_iff] at h;rcases h with ⟨h1,h2⟩|h1
 ·have:dJ S p=[]:=by simp [dJ,h1,h2]
  rw [this];rfl
 ·have:fQ S' q=[]:=by simp [fQ,h1]
  rw [this];simp [mA]
theorem kZ.at {os:List PO} {F:Nat→List Nat×List Nat}:∀(l:List Nat) {S S':St},kZ Γ os F l S S'→∀i∈l,∃o S1,os[i]?=some o∧fQ S1 o=(F i).1∧dJ S1 o=(F i).2:=by
 intro l;induction l with
 |nil=>intro S S' _ i hi;simp at hi
 |cons j l ih=>
  intro S S' h i hi;obtain ⟨o,S1,h1,_,h2,h3,h⟩:=h;rcases zr.1 hi with rfl|hi
  ·exact ⟨o,S,h1,h2,h3⟩
  ·exact ih h i hi
theorem U_ {pos:List PO} {A:List (List Nat)} {ps:List (Nat×Nat)} {S S':St} (hc:B1 pos A ps=true) (hr:eU Γ pos S=some S') (hp:qo (f_ Γ pos S) ps=true)
 {k i:Nat} (hi:i<pos.length) (hk:k<i) {l:List Nat} (hA:A[i]?=some l) (hn:k∉l):BC pos (xx (f_ Γ pos S)) k i:=by
 intro p q oQ Mp;simp only [B1,zb,zk] at hc;have h1:=hc i hi;rw [Mp,hA] at h1;simp only [zb,zk,zg,zN] at h1;have h2:=(h1 k hk).resolve_left hn;rw [oQ] at h2;simp only [zd,zg] at h2;refine ⟨h2.1,?_⟩;have Mv:=Jm hr;obtain ⟨p',S1,e1,f1,f2⟩:=kZ.at _ Mv k (by simp;omega);obtain ⟨q',S2,e2,f3,f4⟩:=kZ.at _ Mv i (by simp;omega);rw [oQ] at e1;cases e1;rw [Mp] at e2;cases e2;rcases h2.2 with ⟨h3,h4⟩|h3
 ·rw [←f1,←f2,←f3,←f4];exact ⟨ND h3,ND h4⟩
 ·simp only [qo,zb] at hp;have h5:=hp (k,i) (by simpa using h3);simp only at h5;split at h5
  ·rename_i r1 w1 r2 w2 g1 g2;simp only [zd] at h5;simpa [xx,g1,g2] using h5
  ·cases h5
def left (n:Nat) (cU:Array Bool):List Nat:=(zD n).filter fun i=>!cU.getD i true
theorem TI {n i:Nat} {cU:Array Bool} (hs:cU.size=n) (hi:i∈left n cU):
 ∃ks rest,left n cU=ks++i::rest∧(∀k∈ks,k<i∧k∈left n cU)∧left n (cU.setIfInBounds i true)=ks++rest:=by
 obtain ⟨ks,rest,h⟩:=List.append_of_mem hi;have aaP:(left n cU).Pairwise (·<·):=zO _ zL;rw [h] at aaP;have h1:=List.pairwise_append.1 aaP;refine ⟨ks,rest,h,fun k hk=>⟨h1.2.2 k hk i (by simp),by rw [h];simp [hk]⟩,?_⟩;have sZ:i<n:=by simp only [left,zx,zk] at hi;exact hi.1
 have h2:left n (cU.setIfInBounds i true)=(left n cU).filter fun j=>j !=i:=by
  simp only [left,List.filter_filter];refine List.filter_congr fun j hj=>?_
  simp only [zk] at hj;by_cases e:j=i
  ·subst e;simp [hs,sZ]
  ·rw [getD_set_ne true (Ne.symm e)];have:(j !=i)=true:=by simpa using e
   rw [this,Bool.true_and]
 rw [h2,h,List.filter_append,List.filter_cons]
 have hk:ks.filter (fun j=>j !=i)=ks:=zF.2 fun j hj=>by
  have:=h1.2.2 j hj i (by simp);simp;omega
 have hr:rest.filter (fun j=>j !=i)=rest:=zF.2 fun j hj=>by
  have:=(zQ.1 h1.2.1).1 j hj;simp;omega
 simp [hk,hr]
theorem Pf {pos:List PO} (fA:mh P κ Γ (tl pos)) (hc:mu P κ N ops pos ops.toList=true) {F:Nat→List Nat×List Nat} {A:List (List Nat)} (hA:BW ops.toList A=true)
 (hp:∀i k l,i<pos.length→k<i→A[i]?=some l→k∉l→BC pos F k i) {Q:Exit→Act→World→Prop} {S':St} (hQ:∀a w,fg w0 cl0 N S' a w→Q .normal a w):
 ∀(fuel:Nat) (cU:Array Bool) (S:St) (a:Act) (w:World),cU.size=ops.size→(left ops.size cU).length=fuel→
  (∀x,cU.getD x false=true→∀l,A[x]?=some l→∀k∈l,cU.getD k false=true)→
  kZ Γ pos F (left ops.size cU) S S'→fg w0 cl0 N S a w→wpAny P .any ops Q fuel cU a w:=by
 have hl:=(xf pos ops.toList hc).1;simp only [zG] at hl;simp only [BW,zb,zk,zG] at hA
 have LJ:∀i,i<ops.size→∃o l,ops[i]?=some o∧A[i]?=some l∧(∀e∈direct o,e<i)∧
  ∀k∈l,k∈direct o∨∃d∈direct o,∃m,A[d]?=some m∧k∈m:=by
  intro i hi;have h1:=hA i hi;split at h1
  ·rename_i o l e1 e2;simp only [zd,zb,decide_eq_true_eq,zg,zN,zu] at h1;refine ⟨o,l,by simpa using e1,e2,h1.1,fun k hk=>?_⟩;rcases h1.2 k hk with h2|⟨d,hd,h2⟩
   ·exact .inl h2
   ·right;refine ⟨d,hd,?_⟩;split at h2
    ·rename_i m hm;exact ⟨m,hm,by simpa using h2⟩
    ·cases h2
  ·cases h1
 have qg:∀(cU:Array Bool) k,cU.size=ops.size→(k∈left ops.size cU↔(k<ops.size∧cU.getD k false=false)):=by
  intro cU k hs;simp only [left,zx,zk,zI];constructor
  ·rintro ⟨h1,h2⟩;refine ⟨h1,?_⟩;simpa [hs,h1] using h2
  ·rintro ⟨h1,h2⟩;refine ⟨h1,?_⟩;simpa [hs,h1] using h2
 have Mr:∀(cU:Array Bool) i,cU.size=ops.size→i∈Region.ready .any ops cU→i∈left ops.size cU∧∀o,ops[i]?=some o→∀e∈direct o,cU.getD e false=true:=by
  intro cU i hs hi;obtain ⟨h1,o,ho,h2⟩:=mem_ready.1 hi;refine ⟨by simp only [left,zx,zk,h1];exact ⟨(Array.getElem?_eq_some_iff.1 ho).1,rfl⟩,fun o' u9 e he=>?_⟩;rw [ho] at u9;cases u9;simp only [direct,zh,zx] at he;obtain ⟨x,⟨SV,kh⟩,rfl⟩:=he;exact h2 x (by simpa using SV) kh
 intro fuel;induction fuel with
 |zero=>
  intro cU S a w hs hf bq hr DJ;have ta:left ops.size cU=[]:=List.eq_nil_of_length_eq_zero hf;rw [ta] at hr;have:S=S':=hr;subst this;refine ⟨?_,hQ a w DJ⟩;cases h:Region.ready .any ops cU with
  |nil=>rfl
  |cons i t=>
   have:=(Mr cU i hs (by rw [h];simp)).1;rw [ta] at this;simp at this
 |succ fuel ih=>
  intro cU S a w hs hf bq hr DJ;refine ⟨fun h=>?_,fun i hi=>?_⟩
  ·exfalso;cases cI:left ops.size cU with
   |nil=>rw [cI] at hf;simp at hf
   |cons i t=>
    have hi:i∈left ops.size cU:=by rw [cI];simp
    obtain ⟨sZ,Mb⟩:=(qg cU i hs).1 hi;obtain ⟨o,l,ho,CT,ae,_⟩:=LJ i sZ
    have:i∈Region.ready .any ops cU:=by
     rw [mem_ready];refine ⟨by simpa [hs,sZ] using Mb,o,ho,fun e he hb=>?_⟩;have h1:e.on∈direct o:=by simp only [direct,zh,zx];exact ⟨e,⟨by simpa using he,hb⟩,rfl⟩
     have h2:=ae _ h1;cases h3:cU.getD e.on false with
     |true=>rfl
     |false=>
      have h4:e.on∈left ops.size cU:=(qg cU _ hs).2 ⟨by omega,h3⟩;have aaP:(left ops.size cU).Pairwise (·<·):=zO _ zL;rw [cI] at aaP h4;rcases zr.1 h4 with h5|h5
      ·omega
      ·have:=(zQ.1 aaP).1 _ h5;omega
    rw [h] at this;simp at this
  ·obtain ⟨rl,Rx⟩:=Mr cU i hs hi;obtain ⟨sZ,Mb⟩:=(qg cU i hs).1 rl;obtain ⟨o,l,ho,CT,ae,Ri⟩:=LJ i sZ;have L3:=Rx o ho
   have iy:∀k∈l,cU.getD k false=true:=fun k hk=>by
    rcases Ri k hk with h1|⟨d,hd,m,hm,R_⟩
    ·exact L3 k h1
    ·exact bq d (L3 d hd) m hm k R_
   obtain ⟨ks,rest,kM,Mc,tf⟩:=TI hs rl;rw [kM] at hr
   have hb:=kZ.Pz ks hr fun k hk=>hp i k l (by omega) (Mc k hk).1 CT fun lP=>by
    have h1:=iy k lP;have h2:=((qg cU k hs).1 (Mc k hk).2).2;rw [h1] at h2;cases h2
   obtain ⟨po,S1,dX,bQ,_,_,hb⟩:=hb;refine OX fA hc dX DJ bQ fun a w h2=>ih _ S1 a w (by simp [hs]) ?_ ?_ (by rw [tf];exact hb) h2
   ·rw [tf];rw [kM] at hf;simp at hf ⊢;omega
   ·intro x hx m hm k hk;by_cases e:x=i
    ·subst e;rw [CT] at hm;cases hm;exact getD_set_true (iy k hk)
    ·rw [getD_set_ne false (Ne.symm e)] at hx;exact getD_set_true (bq x hx m hm k hk)
theorem fg.drew {S:St} {a:Act} {w:World} {n:Nat} (re:w.drawn≤n) (h:fg w0 cl0 N S a w):fg w0 cl0 N S a { w with drawn:=n }:=by
 obtain ⟨g,R,hd,hN⟩:=h
 exact ⟨g,R.grow (w':={ w with drawn:=n }) (g':=g) (fun _ _=>rfl) (Nat.le_refl _) ⟨rfl,rfl,fun _ h=>⟨h,rfl⟩,rfl,re⟩ (fun _ _=>rfl)
  (fun b hb=>by
   by_cases h:g.cl b=.no
   ·exact h
   ·have:=R.bd b h;omega) rfl rfl,hd,hN⟩
theorem aas (hm:P.follows .mixedOrders=true) {pos:List PO} {ps:List (Nat×Nat)} (fA:mh P κ Γ (tl pos)) (hc:mu P κ N ops pos ops.toList=true) (hd:BY pos ops.toList ps=true)
 {Q:Exit→Act→World→Prop} {S S':St} {id:Nat}
 (hQ:∀a w,fg w0 cl0 N S' a w→Q .normal a w) (h:eU Γ pos S=some S') (hp:qo (f_ Γ pos S) ps=true) {a:Act} {w:World} (hs:fg w0 cl0 N S a w):(Code.region id ops true).wp P Q a w:=by
 refine wp_region_any hm ?_;simp only [BY,zd] at hd;have hl:=(xf pos ops.toList hc).1;simp only [zG] at hl
 have h0:left ops.size (Array.replicate ops.size false)=zD pos.length:=by
  rw [left,hl];refine zF.2 fun i hi=>?_
  simp only [zk] at hi;simp [hi]
 refine Pf fA hc hd.1 (fun i k l hi hk hA hn=>U_ hd.2 h hp hi hk hA hn) hQ _ _ S a _ (by simp) (by rw [h0];simp [hl]) (fun x hx=>?_) (by rw [h0];exact Jm h) (hs.drew (by omega));exfalso;by_cases lq:x<ops.size
 ·simp [lq] at hx
 ·simp [show ops.size≤x by omega] at hx
end
end
end Go.Proofs.YtohlfelngklcfaaGreat.OM
