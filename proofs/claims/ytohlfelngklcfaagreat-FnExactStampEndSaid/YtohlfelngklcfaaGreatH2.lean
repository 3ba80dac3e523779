/- A part of the proof. -/
import Derived.Test.YtohlfelngklcfaaGreatH1
import Derived.Test.YtohlfelngklcfaaGreatH0
set_option linter.all false
namespace Go.Proofs.YtohlfelngklcfaaGreat.OM
open List renaming mem_of_getElem?→za,all_eq_true→zb,getElem?_map→zj,mem_cons_of_mem→zn,getElem?_cons_zero→zp,getElem?_set_self→zr,any_eq_true→zt,getElem?_set_ne→zu,getD→zx,getElem?_append_left→zy,mem_iff_getElem?→zz,contains_nil→zD,any_append→zE,any_cons→zG,map_cons→zH
open Bool renaming and_eq_true→zd,or_eq_true→zi,false_eq_true→zm,not_eq_false'→zo
open Option.some renaming injEq→ze
open Nat renaming zero_add→zf,lt_of_lt_of_le→zg,le_trans→zA,lt_or_ge→zB,add_comm→zC
open Option renaming map_eq_some_iff→zh
open _root_.Array renaming getElem?_eq_getElem→zk,getElem?_eq_none→zq,getD_eq_getD_getElem?→zw
open List.cons renaming injEq→zF
section
def Gh.gv (g:Gh) (m':Ms) (r j:Nat) (p:aI) (q:Nat):Gh where
 cl:=fun b=>match g.cl b with
  |.own 0 q1 ρ=>if q1=q then .own (r+1) j (p++ρ) else .own 0 q1 ρ
  |c=>c
 hd:=fun r1 j1 ρ=>if r1=r+1∧j1=j∧p <+: ρ∧m'.bM r j ρ=true then g.hd 0 q (ρ.drop p.length) else g.hd r1 j1 ρ
 bk:=g.bk
section
variable {w0:World} {cl0:dv} {S:St} {ts:Array Value} {w:World} {g:Gh}
theorem Gh.Cc {m':Ms} {r j:Nat} {p:aI} {q b:Nat} {k:Bool}:(g.gv m' r j p q).cl b=kc k↔g.cl b=kc k:=by
 simp only [Gh.gv];split
 ·rename_i q1 ρ h;rw [h];split<;>cases k<;>simp [kc]
 ·exact .rfl
theorem Gh.Oq {m':Ms} {r j:Nat} {p:aI} {q b:Nat}:(g.gv m' r j p q).cl b=.no↔g.cl b=.no:=by
 simp only [Gh.gv];split
 ·rename_i q1 ρ h;rw [h];split<;>simp
 ·exact .rfl
theorem Gh.On {m':Ms} {r j:Nat} {p:aI} {q b:Nat}:((g.gv m' r j p q).cl b).bS=(g.cl b).bS:=by
 simp only [Gh.gv];split
 ·rename_i q1 ρ h;rw [h];split<;>rfl
 ·rfl
theorem Gh.Cd {m':Ms} {r j:Nat} {p:aI} {q b n j1:Nat} {ρ:aI} (h:g.cl b=.own (n+1) j1 ρ):(g.gv m' r j p q).cl b=.own (n+1) j1 ρ:=by
 simp only [Gh.gv,h]
theorem Gh.Cb {m':Ms} {r j:Nat} {p:aI} {q b n:Nat} (h:g.cl b=.box n):(g.gv m' r j p q).cl b=.box n:=by
 simp only [Gh.gv,h]
theorem Va (p:aI) (c:Nat):jG (p++[(0,c)]) p=false:=by
 induction p with
 |nil=>rfl
 |cons x p ih=>obtain ⟨i,k⟩:=x;simp [jG,ih]
theorem U' (p:aI) (i c:Nat) (ρ:aI):jG (p++[(0,c)]) (p++(i,c)::ρ)=true:=by
 induction p with
 |nil=>simp [jG]
 |cons x p ih=>obtain ⟨i1,k⟩:=x;simp [jG,ih]
theorem SF {j:Nat} {p:aI}:∀{n c:Nat},c<n→(j,p++[(0,c)])∈pZ j p n:=by
 intro n;induction n with
 |zero=>intro c h;omega
 |succ n ih=>
  intro c h;simp only [pZ];by_cases e:c=n
  ·subst e;simp
  ·exact zn _ (ih (by omega))
theorem Sc {j:Nat} {p:aI}:∀{n:Nat},(pZ j p n).any (fun x=>x.1==j&&jG x.2 p)=false:=by
 intro n;induction n with
 |zero=>rfl
 |succ n ih=>simp only [pZ,zG,ih,Va];simp
structure rL (q:Nat) (g:Gh) (m:Ms) (g':Gh) (m':Ms):Prop where
 kc:∀b k,g'.cl b=kc k↔g.cl b=kc k
 bk:g'.bk=g.bk
 kl:∀r j p,m'.bM r j p=false→m.bM r j p=false
 hd:∀r j p,m'.bM r j p=false→g'.hd (r+1) j p=g.hd (r+1) j p
 cl0:∀b q1 ρ,q1≠q→g.cl b=.own 0 q1 ρ→g'.cl b=.own 0 q1 ρ
 g9:∀q1 ρ,g'.hd 0 q1 ρ=g.hd 0 q1 ρ
 no:∀r,(m r).1=none↔(m' r).1=none
 so:∀r,(m' r).1.isSome=(m r).1.isSome
 nw:∀n,(m n).1=none→(∀j ρ,g'.hd (n+1) j ρ=g.hd (n+1) j ρ)
 ow:∀b n j ρ,g.cl b=.own (n+1) j ρ→g'.cl b=.own (n+1) j ρ
 bx:∀b n,g.cl b=.box n→g'.cl b=.box n
theorem rL.refl (q:Nat) (g:Gh) (m:Ms):rL q g m g m:=⟨fun _ _=>.rfl,rfl,fun _ _ _ h=>h,fun _ _ _ _=>rfl,fun _ _ _ _ h=>h,fun _ _=>rfl,fun _=>.rfl,fun _=>rfl,fun _ _ _ _=>rfl,fun _ _ _ _ h=>h,fun _ _ h=>h⟩
theorem rL.ra {q:Nat} {g':Gh} {m m':Ms} (h:rL q g m g' m') {a:AV} {x:Value} (ha:RA w g m a x):RA w g' m' a x:=
 ha.mono (fun b k hb=>⟨rfl,(h.kc b k).2 hb⟩) (fun r _=>⟨by rw [h.bk],fun j p hk=>⟨h.kl r j p hk,h.hd r j p hk⟩⟩)
theorem rL.rc {q q1:Nat} {g':Gh} {m m':Ms} (h:rL q g m g' m') (hq:q1≠q) {c:C} {x:Value} (hn:c.bg=true) (ha:RC w g 0 q1 c x):RC w g' 0 q1 c x:=
 ha.mono (fun b k hb=>⟨rfl,(h.kc b k).2 hb⟩) (fun b ρ hb=>⟨rfl,h.cl0 b q1 ρ hq hb⟩) (fun ρ=>h.g9 q1 ρ) (fun r1 j1 e=>by subst e;simp [C.bg] at hn)
theorem Vj (R:Rel w0 cl0 S ts w g) {a:AV} {c:C} {x:Value} {m':Ms} {q:Nat} (ha:RA w g S.ms a x) (hc:RC w g 0 q c x) (h:oB S.ms c a=some m'):
 ∃g',Rel w0 cl0 { S with ms:=m' } ts w g'∧rL q g S.ms g' m':=by
 unfold oB at h;split at h
 ·rename_i r j p;split at h
  ·rename_i sz es;split at h
   ·rename_i bz;obtain ⟨o3,rt,d0,h1,h2,h3⟩:=fo bz;simp only [Ms.putAt,h1,h2] at h;simp at h
    have hx:x=g.hd (r+1) j p:=by
     cases ha with
     |pl _ _ _ _ _ _ hh=>exact hh o3
    have OA:OW w g 0 q [] (.sl sz es) x:=by cases hc with|own _ _ ho=>exact ho
    have CS:m'.bM r j p=false:=by
     subst h;simp only [Ms.bM,gL,zE,Sc,Bool.false_or];exact o3
    have eg:∀r1 j1 ρ,m'.bM r1 j1 ρ=false→S.ms.bM r1 j1 ρ=false:=fun r1 j1 ρ hk=>DJ (m:=S.ms) (kl:=pZ j p sz) (by rw [←h] at hk;exact hk)
    have bY:∀r1 j1 ρ,¬(r1=r∧j1=j∧p <+: ρ∧m'.bM r j ρ=true)→(g.gv m' r j p q).hd (r1+1) j1 ρ=g.hd (r1+1) j1 ρ:=fun r1 j1 ρ hn=>by
     simp only [Gh.gv];rw [if_neg (fun e=>hn ⟨by omega,e.2.1,e.2.2.1,e.2.2.2⟩)]
    have Q6:∀j1,(g.gv m' r j p q).hd (r+1) j1 []=g.hd (r+1) j1 []:=fun j1=>bY r j1 [] (fun e=>by
     have hp:p=[]:=List.prefix_nil.1 e.2.2.1;rw [hp] at CS;rw [CS] at e
     exact absurd e.2.2.2 (by simp))
    have P9:∀(i c:Nat) (ρ:aI),c<sz→(g.gv m' r j p q).hd (r+1) j ((p++[(i,c)])++ρ)=g.hd 0 q ([(i,c)]++ρ):=fun i c ρ ah=>by
     have e1:p <+: (p++[(i,c)])++ρ:=⟨[(i,c)]++ρ,by simp⟩
     have e2:m'.bM r j ((p++[(i,c)])++ρ)=true:=by
      refine DI (k:=p++[(0,c)]) ?_ (by simpa using U' p i c ρ);subst h;simp only [gL];exact List.mem_append_left _ (SF ah)
     simp only [Gh.gv];rw [if_pos (by simp only [true_and];exact ⟨e1,e2⟩)];simp
    have de:∀b k,g.cl b=kc k→w.heap[b]?=w.heap[b]?∧(g.gv m' r j p q).cl b=kc k:=fun b k hb=>⟨rfl,Gh.Cc.2 hb⟩
    have bA:∀b ρ,g.cl b=.own 0 q ρ→(g.gv m' r j p q).cl b=.own (r+1) j (p++ρ):=fun b ρ hb=>by simp [Gh.gv,hb]
    have Aa:OW w (g.gv m' r j p q) (r+1) j p (.sl sz es) x:=by
     have Lb:(g.gv m' r j p q).hd (r+1) j p=x:=by
      rw [bY r j p (fun e=>by rw [CS] at e;exact absurd e.2.2.2 (by simp)),hx]
     cases OA with
     |nil _ _ hh=>exact .nil _ _ Lb
     |sl _ _ _ b off cap vals E hh ml hl cf hw hN hk=>
      refine .sl _ _ _ b off cap vals E Lb (by simpa using bA b [] ml) hl cf hw hN (fun i c e d y he hd hy=>?_)
      have ah:c<sz:=by
       have h1:=hl e (za he);have h2:=(List.getElem?_eq_some_iff.1 hd).1;omega
      exact (hk i c e d y he hd hy).mono (q':=p++[(i,c)]) (fun b1 ρ hb=>⟨rfl,by simpa using bA b1 _ hb⟩) (fun ρ=>by simpa using P9 i c ρ ah)
    have sh:m'=aB S.ms r (some (rt.gB j (.own (d0.put p (.sl sz es)))),pZ j p sz++(S.ms r).2):=h.symm;refine ⟨g.gv m' r j p q,?_,?_⟩
    ·have mr:=R.rt r rt h1
     have pI:∀r1 j1,(g.gv m' r j p q).hd (r1+1) j1 []=g.hd (r1+1) j1 []:=fun r1 j1=>by
      by_cases e:r1=r
      ·subst e;exact Q6 j1
      ·exact bY r1 j1 [] (fun e2=>e e2.1)
     refine { av:=fun n=>?_,rt:=fun n bX h4=>?_,ey:=fun n r1 h4=>by rw [sh];exact yg (R.ey n r1 h4),ea:=by rw [sh];exact L1 h1 (by simp) R.ea,
              bd:=fun b h4=>R.bd b (by rwa [ne_eq,Gh.Oq] at h4),sz:=R.sz,fr:=R.fr,im:=fun b k=>Gh.Cc.trans (R.im b k),
              mi:=fun b h4 h5=>R.mi b h4 (by rwa [Gh.On] at h5),sd:=R.sd,fi:=fun i hi=>?_ }
     rotate_left 2
     ·have h4:=R.fi i hi;show yq cl0 i (m' i).1 _;by_cases e:i=r
      ·subst e;rw [h1] at h4;rw [show (m' i).1=some (rt.gB j (.own (d0.put p (.sl sz es)))) from by rw [sh];simp [gL]];cases rt with
       |aR cs=>exact fun j1=>(pI _ _).trans (h4 j1)
       |bx cs=>exact h4
      ·rw [show (m' i).1=(S.ms i).1 from by rw [sh];simp [eL e]];revert h4;cases (S.ms i).1 with
       |none=>exact id
       |some bX=>
        cases bX with
        |aR cs=>exact fun h4 j1=>(pI _ _).trans (h4 j1)
        |bx cs=>exact id
     ·refine (R.av n).mono de (fun r1 _=>⟨rfl,fun j1 p1 h4=>⟨eg _ _ _ h4,bY _ _ _ (fun e=>?_)⟩⟩);obtain ⟨rfl,rfl,_,e4⟩:=e;rw [h4] at e4;cases e4
     ·simp only [sh] at h4;by_cases e:n=r
      ·subst e;simp only [gL,ze] at h4;subst h4
       refine mr.put h2 h3 de (fun b j1 ρ h5 _=>⟨rfl,Gh.Cd h5⟩) (fun cs dx=>⟨rfl,rfl,?_⟩)
        (fun j1 ρ hn=>bY _ _ _ (fun e=>hn ⟨e.2.1,e.2.2.1⟩)) (fun _ _=>pI _ _) (fun _ _ _ _=>pI _ _) (fun y hy=>?_)
       ·subst dx;rw [Gh.Cb mr.1,mr.1]
       ·cases hy with
        |dead _ _ hh=>rw [←hh,←hx];exact Aa
      ·simp only [eL e] at h4;have h5:=R.rt n bX h4;refine h5.mono de (fun b j1 ρ h6=>⟨rfl,Gh.Cd h6⟩) (fun cs hb=>⟨rfl,rfl,?_⟩) (fun j1 ρ=>bY _ _ _ (fun e2=>e e2.1)) (fun _ _ _ _=>pI _ _);subst hb;rw [Gh.Cb h5.1,h5.1]
    ·refine ⟨fun _ _=>Gh.Cc,rfl,eg,fun r1 j1 ρ hk=>bY _ _ _ (fun e=>?_),fun b q1 ρ hq hb=>by simp [Gh.gv,hb,hq],fun q1 ρ=>by simp [Gh.gv],fun r1=>?_,fun r1=>?_,fun n hn j1 ρ=>bY _ _ _ (fun e=>?_),fun b n j1 ρ hb=>Gh.Cd hb,fun b n hb=>Gh.Cb hb⟩
     ·obtain ⟨rfl,rfl,_,e4⟩:=e;rw [hk] at e4;cases e4
     ·rw [sh];by_cases e:r1=r
      ·subst e;simp [gL,h1]
      ·simp [eL e]
     ·rw [sh];by_cases e:r1=r
      ·subst e;simp [gL,h1]
      ·simp [eL e]
     ·rw [e.1,h1] at hn;cases hn
   ·cases h
  ·cases h
 ·split at h
  ·simp at h;subst h;exact ⟨g,R,.refl _ _ _⟩
  ·cases h
 ·cases h
theorem Vp {as:List AV} {vals:List Value}:∀(us:List (Nat×Nat×C)) {lo:Nat} {S:St} {g:Gh} {m':Ms} (R:Rel w0 cl0 S ts w g),
 (∀(j:Nat) (a:AV),as[j]?=some a→∃x,vals[j]?=some x∧RA w g S.ms a x)→
 (∀i j c,(i,j,c)∈us→lo≤j→∃x,vals[j]?=some x∧c.bg=true∧RC w g 0 j c x)→jH as lo S.ms us=some m'→
 ∃g',Rel w0 cl0 { S with ms:=m' } ts w g'∧(∀b k,g'.cl b=kc k↔g.cl b=kc k)∧g'.bk=g.bk∧(∀r j p,m'.bM r j p=false→S.ms.bM r j p=false∧g'.hd (r+1) j p=g.hd (r+1) j p)∧
  (∀r,(m' r).1.isSome=(S.ms r).1.isSome)∧(∀n,(S.ms n).1=none→∀j ρ,g'.hd (n+1) j ρ=g.hd (n+1) j ρ)∧
  (∀b n j ρ,g.cl b=.own (n+1) j ρ→g'.cl b=.own (n+1) j ρ)∧(∀b n,g.cl b=.box n→g'.cl b=.box n):=by
 intro us;induction us with
 |nil=>
  intro lo S g m' R _ _ h;simp [jH] at h;subst h;exact ⟨g,R,fun _ _=>.rfl,rfl,fun _ _ _ h=>⟨h,rfl⟩,fun _=>rfl,fun _ _ _ _=>rfl,fun _ _ _ _ h=>h,fun _ _ h=>h⟩
 |cons u us ih=>
  intro lo S g m' R ha hc h;obtain ⟨i,j,c⟩:=u;simp only [jH] at h;split at h
  ·rename_i CC;split at h
   ·rename_i a OH;split at h
    ·rename_i m2 h1;obtain ⟨x,hx,OZ⟩:=ha j a OH;obtain ⟨y,hy,hn,Cm⟩:=hc i j c (by simp) CC.2;rw [hx] at hy;cases hy;obtain ⟨g1,R1,U⟩:=Vj R OZ Cm h1
     obtain ⟨g2,R2,k1,k2,k3,k4,k5,k6,k7⟩:=ih (S:={ S with ms:=m2 }) R1 (fun j a h2=>by
      obtain ⟨z,hz,mw⟩:=ha j a h2
      exact ⟨z,hz,U.ra mw⟩) (fun i' j' c' hm hj=>by
      obtain ⟨z,hz,mw,lA⟩:=hc i' j' c' (by simp [hm]) (by omega)
      exact ⟨z,hz,mw,U.rc (by omega) mw lA⟩) h
     exact ⟨g2,R2,fun b k=>(k1 b k).trans (U.kc b k),k2.trans U.bk,fun r j p hk=>⟨U.kl r j p (k3 r j p hk).1,(k3 r j p hk).2.trans (U.hd r j p (k3 r j p hk).1)⟩,
      fun r=>(k4 r).trans (U.so r),fun n hn j ρ=>(k5 n ((U.no n).1 hn) j ρ).trans (U.nw n hn j ρ),fun b n j ρ hb=>k6 b n j ρ (U.ow b n j ρ hb),fun b n hb=>k7 b n (U.bx b n hb)⟩
    ·cases h
   ·cases h
  ·cases h
theorem Rel.pass (R:Rel w0 cl0 S ts w g) {w':World} {g':Gh} {d0:Nat} (H0:dT d0 w w' g g') (H:∀n,((S.ms n).1).isSome→∃d,n≠d∧dT d w w' g g'):Rel w0 cl0 S ts w' g':=by
 have ah:∀b,g.cl b≠.no→(∀j ρ,g.cl b≠.own 0 j ρ)→w'.heap[b]?=w.heap[b]?:=fun b hb=>H0.hp b (R.bd b hb)
 have de:∀b k,g.cl b=OM.kc k→w'.heap[b]?=w.heap[b]?∧g'.cl b=OM.kc k:=
  fun b k h=>⟨ah b (by rw [h];cases k<;>simp [OM.kc]) (by rw [h];cases k<;>simp [OM.kc]),(H0.kc b k).2 h⟩
 have bY:∀n,((S.ms n).1).isSome→∀j ρ,g'.hd (n+1) j ρ=g.hd (n+1) j ρ:=fun n hn j ρ=>by
  obtain ⟨d,h1,h2⟩:=H n hn;exact h2.hd n j ρ h1
 have kM:∀n,((S.ms n).1).isSome→g'.bk n=g.bk n:=fun n hn=>by
  obtain ⟨d,h1,h2⟩:=H n hn;exact h2.bk n h1
 refine { av:=fun n=>?_,rt:=fun n bX h=>?_,ey:=R.ey,ea:=R.ea,bd:=fun b h=>?_,sz:=zA R.sz H0.hs,fr:=fun b hb hm=>?_,
          im:=fun b k=>(H0.kc b k).trans (R.im b k),mi:=fun b hb hm=>R.mi b hb (H0.mi b (zg hb R.sz) hm),sd:=R.sd.trans H0.sd,
          fi:=fun i hi=>(by
           have h:=R.fi i hi
           have hs:((S.ms i).1).isSome:=by
            revert h;cases (S.ms i).1 with
            |none=>exact fun h=>h.elim
            |some _=>exact fun _=>rfl
           have h1:=bY i hs;have h2:=kM i hs;revert h;cases (S.ms i).1 with
           |none=>exact id
           |some bX=>
            cases bX with
            |aR cs=>exact fun h j1=>(h1 j1 []).trans (h j1)
            |bx cs=>exact fun h=>h2.trans h) }
 ·exact (R.av n).mono de (fun r hr=>⟨kM r (R.ey n r hr),fun j p hk=>⟨hk,bY r (R.ey n r hr) j p⟩⟩)
 ·have h0:=R.rt n bX h;have hs:((S.ms n).1).isSome:=by rw [h];rfl
  obtain ⟨d,sc,jU⟩:=H n hs;refine h0.mono de (fun b j ρ hb=>⟨ah b (by rw [hb];simp) (by rw [hb];simp),jU.cl b n j ρ hb sc⟩) (fun cs dx=>?_) (fun j ρ=>jU.hd n j ρ sc) (fun j r1 j1 hc=>?_)
  ·subst dx;exact ⟨jU.bk n sc,ah _ (by rw [h0.1];simp) (by rw [h0.1];simp),by rw [h0.1];exact jU.bx _ _ h0.1 sc⟩
  ·obtain ⟨cs,h2⟩:=R.ea n bX j r1 j1 h hc;exact bY r1 (by rw [h2];rfl) j1 []
 ·rcases H0.bd b h with h1|h1
  ·exact zg (R.bd b h1) H0.hs
  ·exact h1.2
 ·rw [H0.hp b (zg hb R.sz) (fun j ρ h=>by
   have:=R.mi b hb (by rw [h];rfl)
   rw [this] at hm;cases hm)]
  exact R.fr b hb hm
def Gh.gi (g:Gh) (X:Nat→Value) (lent:Bool):Gh where
 cl:=fun b=>match g.cl b with
  |.iH=>.iH
  |.gr=>.gr
  |.own 0 q ρ=>.own 1 q ρ
  |.own (_+1) _ _=>if lent then .gr else .no
  |.box _=>if lent then .gr else .no
  |.no=>.no
 hd:=fun r j ρ=>if r=1 then (if ρ=[] then X j else g.hd 0 j ρ) else g.hd r j ρ
 bk:=g.bk
def cM.held:cM→Bool
 |.own 0 _ _=>true
 |_=>false
def Gh.go (g g':Gh) (size d bR:Nat) (cr:Bool) (X:Nat→Value):Gh where
 cl:=fun b=>if b<size∧(g.cl b).held=false then g.cl b else match g'.cl b with
  |.own 1 q ρ=>.own 0 q ρ
  |.own 0 n ρ=>if cr then .own (d+1) n ρ else .no
  |.box _=>if cr=true∧b=bR then .box d else .no
  |_=>.no
 hd:=fun r j ρ=>if r=0 then g'.hd 1 j ρ else if r=d+1∧cr=true then (if ρ=[] then X j else g'.hd 0 j ρ) else g.hd r j ρ
 bk:=if cr then aB g.bk d bR else g.bk
theorem Gh.Oc {X:Nat→Value} {lent:Bool} {b:Nat} {k:Bool} (h:g.cl b=kc k):(g.gi X lent).cl b=kc k:=by
 cases k<;>simp [kc] at h ⊢<;>simp [Gh.gi,h]
theorem Gh.N_ {X:Nat→Value} {lent:Bool} {b:Nat} {k:Bool} (hk:k=false∨lent=false) (h:(g.gi X lent).cl b=kc k):g.cl b=kc k:=by
 simp only [Gh.gi] at h;revert h;cases hg:g.cl b with
 |own n j ρ=>rcases hk with rfl|rfl<;>cases n<;>first|(cases lent<;>simp [kc];done)|(cases k<;>simp [kc])
 |box r=>rcases hk with rfl|rfl<;>first|(cases lent<;>simp [kc];done)|(cases k<;>simp [kc])
 |no=>cases k<;>simp [kc]
 |iH=>simp
 |gr=>simp
theorem Gh.Oa {X:Nat→Value} {lent:Bool} {b:Nat} {k:Bool} (h:(g.c6 lent true fun _=>false).cl b=kc k):(g.gi X lent).cl b=kc k:=by
 simp only [Gh.gi,Gh.c6] at h ⊢;revert h;cases hg:g.cl b with
 |own n j ρ=>cases n<;>simp<;>cases k<;>simp [kc]
 |box r=>simp
 |no=>simp
 |iH=>simp
 |gr=>simp
theorem Gh.Ob {X:Nat→Value} {lent:Bool} {b:Nat} (h:g.cl b=.no):(g.gi X lent).cl b=.no:=by simp [Gh.gi,h]
theorem Gh.Ki {X:Nat→Value} {lent:Bool} {b:Nat}:((g.gi X lent).cl b).bS=(g.cl b).held:=by
 simp only [Gh.gi];cases hb:g.cl b with
 |own n j ρ=>cases n<;>cases lent<;>rfl
 |box r=>cases lent<;>rfl
 |_=>rfl
theorem cM.ue {c:cM} (h:c.held=true):∃q ρ,c=.own 0 q ρ:=by
 cases c with
 |own r j p=>
  cases r with
  |zero=>exact ⟨_,_,rfl⟩
  |succ r=>simp [cM.held] at h
 |_=>simp [cM.held] at h
theorem dT.go {w':World} {g':Gh} {d bR:Nat} {cr lent:Bool} {X X':Nat→Value} (d_:∀b,g.cl b≠.no→b<w.heap.size)
 (se:∀b,b<w.heap.size→((g.gi X' lent).cl b).bS=false→w'.heap[b]?=w.heap[b]?) (hs:w.heap.size≤w'.heap.size) (eJ:ee w w')
 (u3:∀b,g'.cl b≠.no→b<w'.heap.size) (n:Nat) (hn:cr=true→n=d):dT n w w' g (g.go g' w.heap.size d bR cr X):=by
 have pC:∀b,g.cl b≠.no→(g.cl b).held=false→(g.go g' w.heap.size d bR cr X).cl b=g.cl b:=fun b h1 h2=>by
  simp only [Gh.go];rw [if_pos ⟨d_ b h1,h2⟩]
 refine { hp:=fun b h h2=>se b h ?_,hs:=hs,kc:=fun b k=>?_,cl:=fun b n1 j ρ h _=>?_,bx:=fun b n1 h _=>?_,hd:=fun n1 j ρ h=>?_,
          bk:=fun n1 h=>?_,bd:=fun b h=>?_,mi:=fun b hb h=>?_,sd:=eJ }
 ·rw [Gh.Ki];cases hh:(g.cl b).held with
  |false=>rfl
  |true=>obtain ⟨q,ρ,e⟩:=cM.ue hh;exact absurd e (h2 q ρ)
 ·by_cases hb:b<w.heap.size∧(g.cl b).held=false
  ·simp only [Gh.go];rw [if_pos hb]
  ·have h1:∀k,g.cl b≠OM.kc k:=fun k e=>hb ⟨d_ b (by rw [e];cases k<;>simp [OM.kc]),by rw [e];cases k<;>rfl⟩
   constructor
   ·intro h2;simp only [Gh.go] at h2;rw [if_neg hb] at h2;split at h2<;>first|(cases k<;>simp [OM.kc] at h2;done)|(split at h2<;>cases k<;>simp [OM.kc] at h2)
   ·exact fun h2=>absurd h2 (h1 k)
 ·rw [pC b (by rw [h];simp) (by rw [h];rfl)];exact h
 ·rw [pC b (by rw [h];simp) (by rw [h];rfl)];exact h
 ·simp only [Gh.go];rw [if_neg (by omega),if_neg (fun e=>h (by have:=hn e.2;omega))]
 ·simp only [Gh.go];cases bG:cr with
  |false=>simp
  |true=>have:=hn bG;subst this;simp [aB,h]
 ·by_cases hb:b<w.heap.size∧(g.cl b).held=false
  ·left;simp only [Gh.go] at h;rw [if_pos hb] at h;exact h
  ·by_cases ah:b<w.heap.size
   ·left
    have:(g.cl b).held=true:=by
     cases hh:(g.cl b).held with
     |true=>rfl
     |false=>exact absurd ⟨ah,hh⟩ hb
    obtain ⟨q,ρ,e⟩:=cM.ue this;rw [e];simp
   ·right;refine ⟨by omega,u3 b (fun e=>?_)⟩;simp only [Gh.go] at h;rw [if_neg hb,e] at h;exact h rfl
 ·by_cases gu:(g.cl b).held=false
  ·simp only [Gh.go] at h;rw [if_pos ⟨hb,gu⟩] at h;exact h
  ·obtain ⟨q,ρ,e⟩:=cM.ue (c:=g.cl b) (by simpa using gu);rw [e];rfl
section
variable {w':World} {g':Gh} {d bR:Nat} {cr lent:Bool} {X X':Nat→Value}
theorem B_ (jr:∀b,b<w.heap.size→(g'.cl b).bS=true→((g.gi X' lent).cl b).bS=true) {b:Nat} (hm:(g'.cl b).bS=true):
 (g.go g' w.heap.size d bR cr X).cl b=match g'.cl b with
   |.own 1 q ρ=>.own 0 q ρ
   |.own 0 n ρ=>if cr then .own (d+1) n ρ else .no
   |.box _=>if cr=true∧b=bR then .box d else .no
   |_=>.no:=by
 simp only [Gh.go];rw [if_neg (fun e=>?_)];have:=jr b e.1 hm;rw [Gh.Ki,e.2] at this;cases this
theorem B' (jq:∀b k,g'.cl b=kc k↔(g.gi X' lent).cl b=kc k) (d_:∀b,g.cl b≠.no→b<w.heap.size) {k:Bool} {dd:D} {x:Value} (aP:(C.ro k dd).bp=true∨lent=false) (h:RO w' g'.cl k dd x):
 RO w' (g.go g' w.heap.size d bR cr X).cl k dd x:=by
 by_cases hs:dd.bC=true
 ·exact h.bC hs
 have jW:k=false∨lent=false:=by
  rcases aP with aP|aP
  ·left;simpa [C.bp,hs] using aP
  ·exact .inr aP
 exact h.mono fun b hb=>⟨rfl,by
  have h1:=Gh.N_ jW ((jq b k).1 hb);simp only [Gh.go];rw [if_pos ⟨d_ b (by rw [h1];cases k<;>simp [kc]),by rw [h1];cases k<;>rfl⟩]
  exact h1⟩
theorem Oj (jr:∀b,b<w.heap.size→(g'.cl b).bS=true→((g.gi X' lent).cl b).bS=true) (jq:∀b k,g'.cl b=kc k↔(g.gi X' lent).cl b=kc k) (d_:∀b,g.cl b≠.no→b<w.heap.size)
 {j:Nat} {c:C} {x:Value} (aP:c.bp=true∨lent=false) (hn:c.bg=true) (h:RC w' g' 1 j c x):RC w' (g.go g' w.heap.size d bR cr X) 0 j c x:=by
 cases h with
 |ro k dd _ h=>exact .ro _ _ _ (B' jq d_ aP h)
 |own dd _ h=>
  refine .own _ _ (h.mono (q':=[]) (fun b ρ hb=>⟨rfl,?_⟩) (fun ρ=>by simp [Gh.go]));rw [B_ jr (by rw [hb];rfl),hb];rfl
 |rf=>simp [C.bg] at hn
theorem Ok (jr:∀b,b<w.heap.size→(g'.cl b).bS=true→((g.gi X' lent).cl b).bS=true) (jq:∀b k,g'.cl b=kc k↔(g.gi X' lent).cl b=kc k) (d_:∀b,g.cl b≠.no→b<w.heap.size)
 {j:Nat} {c:C} {x:Value} (aP:c.bp=true∨lent=false) (hn:c.bg=true) (hx:X j=x) (h:RC w' g' 0 j c x):RC w' (g.go g' w.heap.size d bR true X) (d+1) j c x:=by
 cases h with
 |ro k dd _ h=>exact .ro _ _ _ (B' jq d_ aP h)
 |own dd _ h=>
  refine .own _ _ (Hd.place (w:=w') (g:=g') (.inl h) (fun b ρ hb=>⟨rfl,?_⟩) (fun ρ gJ=>?_) ?_)
  ·rw [B_ jr (by rw [hb];rfl),hb];simp
  ·simp [Gh.go,gJ]
  ·simp [Gh.go,hx]
 |rf=>simp [C.bg] at hn
end
end
end
section
section
variable {P:Program} {κ:Nat→FuncId} {w0:World} {cl0:dv} {Γ:Env} {w:World} {g:Gh}
theorem A8 {S:St} {tmps:Array Value} (R:Rel w0 cl0 S tmps w g) {a:AV} {v:Value} {x:V} {m':Ms} (ha:RA w g S.ms a v) (h:gS S.ms a=some (x,m')) (q:Nat):
 ∃g',Rel w0 cl0 { S with ms:=m' } tmps w g'∧eV (fun k=>q≤k∧k<q+x.flat.length) g S.ms g' m'∧ig w g' 0 q x v:=by
 by_cases hn:∃cs,a=.agg cs
 ·obtain ⟨cs,rfl⟩:=hn;simp only [gS] at h;split at h
  ·rename_i l m1 h1;simp at h;obtain ⟨rfl,rfl⟩:=h;cases ha with
   |agg _ vs hl bZ=>
    obtain ⟨g',R',T,y9,hc⟩:=BI cs R (vals:=vs.toList) q (by simpa using hl) (fun i a x h2 h3=>bZ i a x h2 (by simpa using h3)) h1;refine ⟨g',R',T.tD (fun k hk=>by simp only [V.flat,y9];exact hk),vs,rfl,by simp [y9,hl],fun i c x h2 h3=>hc i c x h2 h3⟩
  ·cases h
 ·have h1:∃c,eo S.ms a=some (c,m')∧x=.one c:=by
   cases a with
   |agg cs=>exact absurd ⟨cs,rfl⟩ hn
   |_=>
    simp only [gS] at h;split at h
    ·rename_i c m1 h1;simp at h;obtain ⟨rfl,rfl⟩:=h;exact ⟨c,h1,rfl⟩
    ·cases h
  obtain ⟨c,h1,rfl⟩:=h1;obtain ⟨g',R',T,hc⟩:=uJ R ha h1 q
  have hv:a.isVal=true:=by
   cases a with
   |un=>simp [eo] at h1
   |bu=>simp [eo] at h1
   |v k d=>cases d<;>first|rfl|(simp [eo] at h1)
   |_=>rfl
  exact ⟨g',R',T.tD (fun k hk=>by subst hk;simp [V.flat]),hc,(val_one ha hv fun cs e=>hn ⟨cs,e⟩).1⟩
theorem eV.Uo {N:Nat→Prop} {g g':Gh} {m m':Ms} (h:eV N g m g' m') {x:V} {v:Value} {q:Nat} (hq:∀k,q≤k→k<q+x.flat.length→¬N k) (hx:ig w g 0 q x v):ig w g' 0 q x v:=by
 cases x with
 |one c=>exact ⟨h.rc (hq q (Nat.le_refl _) (by simp [V.flat])) hx.1,hx.2⟩
 |st cs=>
  obtain ⟨vs,rfl,hl,hc⟩:=hx;exact ⟨vs,rfl,hl,fun i c x h1 h2=>h.rc (hq _ (by omega) (by have:=bj h1;simp only [V.flat];omega)) (hc i c x h1 h2)⟩
 |ptr=>exact hx.elim
 |bu=>exact hx.elim
theorem I_ {m m':Ms} {a:AV} {c:C} (h:eo m a=some (c,m')):c.bg=true:=by
 unfold eo at h;split at h
 ·cases h
 ·simp at h;obtain ⟨rfl,_⟩:=h;rfl
 ·simp at h;obtain ⟨rfl,_⟩:=h;rfl
 ·split at h
  ·simp at h;obtain ⟨rfl,_⟩:=h;rfl
  ·cases h
 ·split at h
  ·simp at h;obtain ⟨rfl,_⟩:=h;rfl
  ·cases h
 ·cases h
theorem M1:∀(as:List AV) {m m':Ms} {cs:List C},eX m as=some (cs,m')→cs.all C.bg=true:=by
 intro as;induction as with
 |nil=>intro m m' cs h;simp [eX] at h;obtain ⟨rfl,_⟩:=h;rfl
 |cons a as ih=>
  intro m m' cs h;simp only [eX] at h;split at h
  ·rename_i c m1 h1;split at h
   ·rename_i jk m2 h2;simp at h;obtain ⟨rfl,_⟩:=h;simp [I_ h1,ih h2]
   ·cases h
  ·cases h
theorem LN {m m':Ms} {a:AV} {x:V} (h:gS m a=some (x,m')):x.flat.all C.bg=true∧(∀cs,x≠.ptr cs)∧(∀cs,x≠.bu cs):=by
 unfold gS at h;split at h
 ·split at h
  ·rename_i h1;simp at h;obtain ⟨rfl,_⟩:=h;exact ⟨M1 _ h1,by simp,by simp⟩
  ·cases h
 ·split at h
  ·rename_i h1;simp at h;obtain ⟨rfl,_⟩:=h;exact ⟨by simp [V.flat,I_ h1],by simp,by simp⟩
  ·cases h
theorem Jg {m:Ms} {a:AV} {c:C} (h:kF m a=some c):c.gz=true:=by
 unfold kF at h;split at h<;>first|(cases h;done)|(simp at h;subst h;rfl)|(split at h<;>first|(cases h;done)|(simp at h;subst h;rfl)|(split at h<;>first|(cases h;done)|(simp at h;subst h;rfl)))
theorem Nf {m:Ms}:∀(as:List AV) {cs:List C},kG m as=some cs→cs.all C.gz=true:=by
 intro as;induction as with
 |nil=>intro cs h;simp [kG] at h;subst h;rfl
 |cons a as ih=>
  intro cs h;simp only [kG] at h;split at h
  ·rename_i c h1;split at h
   ·rename_i jk h2;simp at h;subst h;simp [Jg h1,ih h2]
   ·cases h
  ·cases h
theorem yw {m:Ms} {a:AV} {x:V} (h:ji m false a=some x):x.flat.all C.gz=true:=by
 cases a with
 |agg cs=>
  simp only [ji,zm,if_false] at h;split at h
  ·rename_i h1;simp at h;subst h;exact Nf _ h1
  ·cases h
 |_=>
  simp only [ji,zm,if_false] at h;split at h
  ·rename_i h1;simp at h;subst h;simp [V.flat,Jg h1]
  ·cases h
theorem ig.sV {g':Gh} {r j:Nat} {x:V} {v:Value} (hk:∀b k,g.cl b=kc k→g'.cl b=kc k) (hx:x.flat.all C.gz=true) (h:ig w g r j x v):ig w g' r j x v:=by
 have hc:∀{n:Nat} {c:C} {y:Value},c.gz=true→RC w g r n c y→RC w g' r n c y:=fun {n c y} h1 h2=>by
  cases h2 with
  |ro k d _ h3=>exact .ro _ _ _ (h3.mono fun b hb=>⟨rfl,hk b _ hb⟩)
  |own=>simp [C.gz] at h1
  |rf=>simp [C.gz] at h1
 cases x with
 |one c=>exact ⟨hc (by simpa [V.flat] using hx) h.1,h.2⟩
 |st cs=>
  obtain ⟨vs,rfl,hl,h2⟩:=h;exact ⟨vs,rfl,hl,fun i c y h3 h4=>hc (zb.1 hx c (za h3)) (h2 i c y h3 h4)⟩
 |ptr=>exact h.elim
 |bu=>exact h.elim
theorem jh.sV {g':Gh} {i:Nat} {x:V} {v:Value} (hk:∀b k,g.cl b=kc k→g'.cl b=kc k) (hx:x.flat.all C.gz=true) (hp:∀cs,x≠.ptr cs) (h:jh w g i x v):jh w g' i x v:=by
 have eF:∀x:V,x.flat.all C.gz=true→¬x.flat.any C.dn=true:=fun x h1 h2=>by
  obtain ⟨c,h3,h4⟩:=zt.1 h2;have:=zb.1 h1 c h3;cases c<;>simp [C.gz,C.dn] at this h4
 cases x with
 |one c=>exact ⟨h.1.sV hk hx,fun h2=>absurd h2 (eF _ hx)⟩
 |st cs=>exact ⟨h.1.sV hk hx,fun h2=>absurd h2 (eF _ hx)⟩
 |ptr cs=>exact absurd rfl (hp cs)
 |bu=>exact h.elim
theorem yx {m:Ms} {a:AV} {x:V} (h:ji m false a=some x):∀cs,x≠.ptr cs:=by
 intro cs e;subst e;cases a with
 |_=>
  simp only [ji,zm,if_false] at h;split at h<;>simp at h
theorem yy {m:Ms}:∀(as:List AV) (xs:List V) (i:Nat),dP m [] i as=some xs→∀(k:Nat) (x:V),xs[k]?=some x→∃a,ji m false a=some x:=by
 intro as;induction as with
 |nil=>intro xs i h k x hx;simp [dP] at h;subst h;simp at hx
 |cons a as ih=>
  intro xs i h k x hx;simp only [dP,zD] at h;split at h
  ·rename_i y h1;split at h
   ·rename_i ys h2;simp at h;subst h;cases k with
    |zero=>simp at hx;subst hx;exact ⟨a,h1⟩
    |succ k=>exact ih ys _ h2 k x (by simpa using hx)
   ·cases h
  ·cases h
theorem Pf {x:V} {v:Value} {X:Nat→Value} {lent:Bool} (hn:x.flat.all C.bg=true) (hX:∀j y,v.cells[j]?=some y→X j=y) (h:ig w g 0 0 x v):jh w (g.gi X lent) 0 x v:=by
 have hc:∀{n:Nat} {c:C} {y:Value},c.bg=true→X n=y→RC w g 0 n c y→RC w (g.gi X lent) 1 n c y:=fun {n c y} h1 hy h2=>by
  cases h2 with
  |ro k d _ h3=>exact .ro _ _ _ (h3.mono fun b hb=>⟨rfl,Gh.Oc hb⟩)
  |own d _ h3=>
   refine .own _ _ (Hd.place (w:=w) (g:=g) (.inl h3) (fun b ρ hb=>⟨rfl,by simp [Gh.gi,hb]⟩) (fun ρ gJ=>?_) ?_)
   ·simp [Gh.gi,gJ]
   ·simp [Gh.gi,hy]
  |rf=>simp [C.bg] at h1
 cases x with
 |one c=>
  refine ⟨⟨hc (by simpa [V.flat] using hn) (hX 0 v (by rw [h.2];rfl)) h.1,h.2⟩,fun _ j y hy=>?_⟩;simp [Gh.gi,hX j y hy]
 |st cs=>
  obtain ⟨vs,rfl,hl,h2⟩:=h;refine ⟨⟨vs,rfl,hl,fun i c y h3 h4=>?_⟩,fun _ j y hy=>?_⟩
  ·refine hc (zb.1 hn c (za h3)) (hX _ y ?_) (h2 i c y h3 h4);rw [zf];simpa [Value.cells] using h4
  ·simp [Gh.gi,hX j y hy]
 |ptr=>exact h.elim
 |bu=>exact h.elim
theorem Vk {m m':Ms} {c:C} {a:AV} (h:oB m c a=some m'):(∀r,(m' r).1.isSome=(m r).1.isSome)∧c.bg=true:=by
 unfold oB at h;split at h
 ·rename_i r j p;split at h
  ·split at h
   ·rename_i bz;obtain ⟨o3,rt,d0,h1,h2,h3⟩:=fo bz;simp only [Ms.putAt,h1,h2] at h;simp at h;subst h;refine ⟨fun r1=>?_,rfl⟩;by_cases e:r1=r
    ·subst e;simp [gL,h1]
    ·simp [eL e]
   ·cases h
  ·cases h
 ·split at h
  ·simp at h;subst h;exact ⟨fun _=>rfl,rfl⟩
  ·cases h
 ·cases h
theorem MC {as:List AV}:∀(us:List (Nat×Nat×C)) {lo:Nat} {m m':Ms},jH as lo m us=some m'→(∀r,(m' r).1.isSome=(m r).1.isSome)∧∀i j c,(i,j,c)∈us→i=0∧c.bg=true:=by
 intro us;induction us with
 |nil=>intro lo m m' h;simp [jH] at h;subst h;exact ⟨fun _=>rfl,fun i j c h=>by simp at h⟩
 |cons u us ih=>
  intro lo m m' h;obtain ⟨i,j,c⟩:=u;simp only [jH] at h;split at h
  ·rename_i CC;split at h
   ·split at h
    ·rename_i h1;obtain ⟨k1,k2⟩:=Vk h1;obtain ⟨k3,k4⟩:=ih h;refine ⟨fun r=>(k3 r).trans (k1 r),fun i' j' c' hm=>?_⟩;rcases List.mem_cons.1 hm with e|hm
     ·simp only [Prod.mk.injEq] at e;obtain ⟨rfl,rfl,rfl⟩:=e;exact ⟨CC.1,k2⟩
     ·exact k4 i' j' c' hm
    ·cases h
   ·cases h
  ·cases h
end
end
section
section
variable {P:Program} {κ:Nat→FuncId} {w0:World} {cl0:dv} {S:St} {w:World} {g:Gh} {a:Act} {Γ:Env} {d:Nat}
theorem BP {m1 m2:Ms} {g1:Gh} (R1:Rel w0 cl0 { S with ms:=m1 } a.tmps w g1) {a0:AV} {v0:Value} {x0:V} {xs:List V} {args:Array Value} {us:List (Nat×Nat×C)} {w':World} {g':Gh}
 {X X':Nat→Value} {cr lent:Bool} {bR:Nat}
 (la:∀{w:World} {g:Gh},Rel w0 cl0 { S with ms:=m1 } a.tmps w g→RA w g m1 a0 v0) (fI:(∀cs,a0≠.agg cs)→v0.cells=#[v0]) (wZ:∀cs,x0≠.ptr cs) (h0:args[0]?=some v0)
 (hL:Left w (g1.gi X' lent) (x0::xs) args us w' g') (hu:jH a0.cells 0 m1 us=some m2) (vW:∀i j c,(i,j,c)∈us→c.bp=true∨lent=false) (hn:cr=true→(m1 d).1=none):
 ∃g3,Rel w0 cl0 { S with ms:=m2 } a.tmps w' g3∧
  (∀{c:C} {j:Nat} {x:Value},(c.bp=true∨lent=false)→c.dn=false→c.bg=true→RC w' g' 0 j c x→RC w' g3 (d+1) j c x)∧
  (cr=true→∀{c:C} {j:Nat} {x:Value},(c.bp=true∨lent=false)→c.bg=true→X j=x→RC w' g' 0 j c x→RC w' g3 (d+1) j c x)∧
  (cr=true→∀j,g3.hd (d+1) j []=X j)∧(cr=true→g3.bk d=bR∧∀n,g'.cl bR=.box n→g3.cl bR=.box d):=by
 have se:=hL.fr;have jr:=hL.mi;have jq:=hL.im;have H:∀n,(cr=true→n=d)→dT n w w' g1 (g1.go g' w.heap.size d bR cr X):=fun n hn=>dT.go (X':=X') (lent:=lent) R1.bd (fun b h1 h2=>se b h1 h2) hL.sz hL.sd hL.bd n hn
 have R2:Rel w0 cl0 { S with ms:=m1 } a.tmps w' (g1.go g' w.heap.size d bR cr X):=by
  refine R1.pass (d0:=d) (H d fun _=>rfl) (fun n hs=>?_);cases bG:cr with
  |false=>
   subst bG;exact ⟨n+1,by omega,H _ (fun e=>by cases e)⟩
  |true=>
   subst bG;refine ⟨d,fun e=>?_,H d fun _=>rfl⟩;subst e;rw [hn rfl] at hs;cases hs
 obtain ⟨AM,AN⟩:=MC us hu;have Lf:=la R2
 have u6:∀(j:Nat) (b:AV),a0.cells[j]?=some b→∃x,v0.cells.toList[j]?=some x∧RA w' (g1.go g' w.heap.size d bR cr X) m1 b x:=by
  intro j b hj;by_cases iR:∃cs,a0=.agg cs
  ·obtain ⟨cs,rfl⟩:=iR;cases Lf with
   |agg _ vs hl hr=>
    simp only [AV.cells] at hj;have ah:=bj hj;have hx:vs[j]?=some vs[j]:=by simp [show j<vs.size from by omega]
    exact ⟨vs[j],by simp [Value.cells,hx],hr j b _ hj hx⟩
  ·have hv:=fI (fun cs e=>iR ⟨cs,e⟩)
   have:a0.cells=[a0]:=by
    cases a0 with
    |agg cs=>exact absurd ⟨cs,rfl⟩ iR
    |_=>rfl
   rw [this] at hj;rw [hv];cases j with
   |zero=>simp at hj;subst hj;exact ⟨v0,rfl,Lf⟩
   |succ j=>simp at hj
 obtain ⟨g3,R3,k1,k2,k3,k4,k5,k6,k7⟩:=Vp us (as:=a0.cells) (vals:=v0.cells.toList) (lo:=0) R2 u6 (fun i j c hm _=>by
  obtain ⟨rfl,eF⟩:=AN i j c hm;have h1:=hL.up 0 j c hm
  have h2:∃v x,args[0]?=some v∧v.cells[j]?=some x∧RC w' g' (0+1) j c x:=by
   revert h1;simp only [zp];cases x0 with
   |ptr cs=>exact absurd rfl (wZ cs)
   |_=>exact id
  obtain ⟨v,x,h3,h4,h5⟩:=h2;rw [h0] at h3;cases h3
  exact ⟨x,by simpa using h4,eF,Oj (X':=X') (lent:=lent) jr jq R1.bd (vW 0 j c hm) eF h5⟩) hu
 refine ⟨g3,R3,fun {c j x} ho h1 h2 h=>?_,fun bG {c j x} ho h1 hx h=>?_,fun bG j=>?_,fun bG=>⟨?_,fun n hb=>?_⟩⟩
 ·cases h with
  |ro k dd _ h=>
   refine .ro _ _ _ ((B' (d:=d) (bR:=bR) (cr:=cr) (X:=X) jq R1.bd ho h).mono fun b hb=>⟨rfl,(k1 b k).2 hb⟩)
  |own dd _ h=>
   simp only [C.dn,zo] at h1;refine .own _ _ ?_;cases h<;>first|exact .int _ _ _|exact .bool _ _|exact .str _ _|simp [D.bC] at h1
  |rf=>simp [C.bg] at h2
 ·subst bG;refine (Ok (d:=d) (bR:=bR) jr jq R1.bd ho h1 hx h).mono (fun b k hb=>⟨rfl,(k1 b k).2 hb⟩) (fun b ρ hb=>⟨rfl,k6 b d j ρ hb⟩) (fun ρ=>k5 d (hn rfl) j ρ) (fun r' j' e=>?_);subst e;simp [C.bg] at h1
 ·subst bG;rw [k5 d (hn rfl) j []];simp [Gh.go]
 ·subst bG;rw [k2];simp [Gh.go,aB]
 ·subst bG;refine k7 bR d ?_;rw [B_ jr (by rw [hb];rfl),hb];simp
theorem Np {m1 m2:Ms} {g1:Gh} (R1:Rel w0 cl0 { S with ms:=m1 } a.tmps w g1) {a0:AV} {v0:Value} {x0:V} {xs:List V} {args:Array Value} {us:List (Nat×Nat×C)} {w':World} {g':Gh} {r:V} {v:Value}
 {X':Nat→Value} {lent:Bool} (aP:((r.bp&&us.all fun u=>u.2.2.bp)||!lent)=true)
 (la:∀{w:World} {g:Gh},Rel w0 cl0 { S with ms:=m1 } a.tmps w g→RA w g m1 a0 v0) (fI:(∀cs,a0≠.agg cs)→v0.cells=#[v0]) (wZ:∀cs,x0≠.ptr cs) (h0:args[0]?=some v0)
 (dy:r.plain=true) (hr:kW w' g' r v)
 (hL:Left w (g1.gi X' lent) (x0::xs) args us w' g') (hu:jH a0.cells 0 m1 us=some m2) (hn:((imp d r).2).isSome→(m2 d).1=none):
 et w0 cl0 S a.tmps d (imp d r).1 (imp d r).2 m2 v w':=by
 have pF:(r.bp||!lent)=true:=by
  revert aP;cases r.bp<;>simp
 have vW:∀i j c,(i,j,c)∈us→c.bp=true∨lent=false:=by
  intro i j c hm;rcases zi _ _▸aP with h|h
  ·simp only [zd] at h;exact .inl (zb.1 h.2 _ hm)
  ·right;simpa using h
 have AM:=(MC us hu).1 d
 have uh:((imp d r).2).isSome→(m1 d).1=none:=fun h=>by
  have:=hn h;rw [this] at AM;cases h1:(m1 d).1 with
  |none=>rfl
  |some _=>rw [h1] at AM;cases AM
 by_cases jt:∃cs,r=.ptr cs
 ·obtain ⟨cs,rfl⟩:=jt;obtain ⟨Rn,b,vals,E,rfl,bA,gy,jT,bG⟩:=hr;obtain ⟨g3,R3,p1,p2,p3,p4⟩:=BP (d:=d) (cr:=true) (bR:=b) (X:=fun j=>vals.getD j undef) R1 la fI wZ h0 hL hu vW (fun _=>uh rfl);obtain ⟨p5,p6⟩:=p4 rfl;simp only [imp] at hn ⊢;have iv:=hn rfl;simp only [V.plain] at dy
  have dF:∀(j:Nat) (c:C) (x:Value),cs[j]?=some c→vals[j]?=some x→RC w' g3 (d+1) j c x:=by
   intro j c x hc hx;have h5:=bG j c x hc (by simpa using hx);rw [zf] at h5
   have iU:c.bp=true∨lent=false:=by
    rcases zi _ _▸pF with h|h
    ·simp only [V.bp,V.p8] at h;exact .inl (zb.1 h c (za hc))
    ·right;simpa using h
   exact p2 rfl iU (zb.1 dy c (za hc)) (by simp [zw,hx]) h5
  refine ⟨_,R3.fresh (rt:=.bx cs) iv (dT.refl d w' g3) ⟨?_,vals,E,?_,by simpa using jT.symm,dF⟩ (fun j r1 j1 hj=>?_),?_,fun q hq=>?_⟩
  ·rw [p5];exact p6 _ bA
  ·rw [p5];exact gy
  ·have:=zb.1 dy _ (za hj);simp [C.bg] at this
  ·have oV:=RA.bx (w:=w') (g:=g3) (m:=aB m2 d (some (.bx cs),[])) d 0;rw [p5] at oV;exact oV
  ·simp [AV.refs] at hq;subst hq;simp [aB]
 ·have dm:∀cs,r≠.ptr cs:=fun cs e=>jt ⟨cs,e⟩
  obtain ⟨kN,m_⟩:=yt hr dm;have jZ:=ye dy dm
  have nu:∀c∈r.dZ,c.bp=true∨lent=false:=by
   intro c hc;rcases zi _ _▸pF with h|h
   ·exact .inl (zb.1 (A6 h dm) c hc)
   ·right;simpa using h
  rw [sT dm] at hn uh ⊢;by_cases ft:r.dZ.any C.dn=true
  ·rw [if_pos ft] at hn uh ⊢;have iv:=hn rfl;obtain ⟨g3,R3,p1,p2,p3,p4⟩:=BP (d:=d) (cr:=true) (bR:=0) (X:=fun j=>(r.vals v).getD j undef) R1 la fI wZ h0 hL hu vW (fun _=>uh rfl)
   have dF:∀(j:Nat) (c:C) (x:Value),r.dZ[j]?=some c→(r.vals v)[j]?=some x→RC w' g3 (d+1) j c x:=by
    intro j c x hc hx;have h5:=m_ j c x hc hx;rw [zf] at h5;exact p2 rfl (nu c (za hc)) (zb.1 jZ c (za hc)) (by simp [zx,hx]) h5
   refine ⟨_,R3.fresh (rt:=.aR r.dZ) iv (dT.refl d w' g3) (fun j c hc=>?_) (fun j r1 j1 hj=>?_),?_,fun q hq=>?_⟩
   ·have ah:=bj hc;have hx:(r.vals v)[j]?=some (r.vals v)[j]:=by simp [show j<(r.vals v).length from by omega]
    have:=dF j c _ hc hx;rw [p3 rfl j];simpa [zx,hx] using this
   ·have:=zb.1 jZ _ (za hj);simp [C.bg] at this
   ·exact rm hr dm (fun i c y hc hy=>ql (dF i c y hc hy))
   ·obtain ⟨rfl,_⟩:=pX dy dm hq;simp [aB]
  ·rw [if_neg ft] at hn ⊢;obtain ⟨g3,R3,p1,p2,p3,p4⟩:=BP (d:=d) (cr:=false) (bR:=0) (X:=fun _=>undef) R1 la fI wZ h0 hL hu vW (fun e=>by cases e);refine ⟨g3,R3,?_,fun q hq=>?_⟩
   ·refine rm hr dm (fun i c y hc hy=>?_);have h5:=m_ i c y hc hy;have eF:=zb.1 jZ c (za hc);rw [zf] at h5;refine ql (p1 (nu c (za hc)) ?_ eF h5);cases h8:c.dn
    ·rfl
    ·exact absurd (zt.2 ⟨_,za hc,h8⟩) ft
   ·exact absurd (pX dy dm hq).2 ft
end
end
section
section
variable {w0:World} {cl0:dv} {S:St} {ts:Array Value} {w:World} {g:Gh}
def Gh.gm (g:Gh) (I:Nat) (X:Nat→Value) (lent:Bool):Gh where
 cl:=fun b=>match g.cl b with
  |.iH=>.iH
  |.gr=>.gr
  |.own 0 q ρ=>.own (I+1) q ρ
  |.own (_+1) _ _=>if lent then .gr else .no
  |.box _=>if lent then .gr else .no
  |.no=>.no
 hd:=fun r j ρ=>if r=I+1 then (if ρ=[] then X j else g.hd 0 j ρ) else g.hd r j ρ
 bk:=g.bk
def Gh.gq (g g':Gh) (I:Nat) (size d bR:Nat) (cr:Bool) (X:Nat→Value):Gh where
 cl:=fun b=>if b<size∧(g.cl b).held=false then g.cl b else match g'.cl b with
  |.own 0 n ρ=>if cr then .own (d+1) n ρ else .no
  |.own r q ρ=>if r=I+1 then .own 0 q ρ else .no
  |.box _=>if cr=true∧b=bR then .box d else .no
  |_=>.no
 hd:=fun r j ρ=>if r=0 then g'.hd (I+1) j ρ else if r=d+1∧cr=true then (if ρ=[] then X j else g'.hd 0 j ρ) else g.hd r j ρ
 bk:=if cr then aB g.bk d bR else g.bk
theorem Gh.Oi {I:Nat} {X:Nat→Value} {lent:Bool} {b:Nat} {k:Bool} (h:g.cl b=kc k):(g.gm I X lent).cl b=kc k:=by
 cases k<;>simp [kc] at h ⊢<;>simp [Gh.gm,h]
theorem Gh.Of {I:Nat} {X:Nat→Value} {lent:Bool} {b:Nat} {k:Bool} (hk:k=false∨lent=false) (h:(g.gm I X lent).cl b=kc k):g.cl b=kc k:=by
 simp only [Gh.gm] at h;revert h;cases hg:g.cl b with
 |own n j ρ=>rcases hk with rfl|rfl<;>cases n<;>first|(cases lent<;>simp [kc];done)|(cases k<;>simp [kc])
 |box r=>rcases hk with rfl|rfl<;>first|(cases lent<;>simp [kc];done)|(cases k<;>simp [kc])
 |no=>cases k<;>simp [kc]
 |iH=>simp
 |gr=>simp
theorem Gh.Og {I:Nat} {X:Nat→Value} {lent:Bool} {b:Nat} {k:Bool} (h:(g.c6 lent true fun _=>false).cl b=kc k):(g.gm I X lent).cl b=kc k:=by
 simp only [Gh.gm,Gh.c6] at h ⊢;revert h;cases hg:g.cl b with
 |own n j ρ=>cases n<;>simp<;>cases k<;>simp [kc]
 |box r=>simp
 |no=>simp
 |iH=>simp
 |gr=>simp
theorem Gh.Oh {I:Nat} {X:Nat→Value} {lent:Bool} {b:Nat} (h:g.cl b=.no):(g.gm I X lent).cl b=.no:=by simp [Gh.gm,h]
theorem Gh.Kk {I:Nat} {X:Nat→Value} {lent:Bool} {b:Nat}:((g.gm I X lent).cl b).bS=(g.cl b).held:=by
 simp only [Gh.gm];cases hb:g.cl b with
 |own n j ρ=>cases n<;>cases lent<;>rfl
 |box r=>cases lent<;>rfl
 |_=>rfl
theorem dT.gq {w':World} {g':Gh} {d bR:Nat} {I:Nat} {cr lent:Bool} {X X':Nat→Value} (d_:∀b,g.cl b≠.no→b<w.heap.size)
 (se:∀b,b<w.heap.size→((g.gm I X' lent).cl b).bS=false→w'.heap[b]?=w.heap[b]?) (hs:w.heap.size≤w'.heap.size) (eJ:ee w w')
 (u3:∀b,g'.cl b≠.no→b<w'.heap.size) (n:Nat) (hn:cr=true→n=d):dT n w w' g (g.gq g' I w.heap.size d bR cr X):=by
 have pC:∀b,g.cl b≠.no→(g.cl b).held=false→(g.gq g' I w.heap.size d bR cr X).cl b=g.cl b:=fun b h1 h2=>by
  simp only [Gh.gq];rw [if_pos ⟨d_ b h1,h2⟩]
 refine { hp:=fun b h h2=>se b h ?_,hs:=hs,kc:=fun b k=>?_,cl:=fun b n1 j ρ h _=>?_,bx:=fun b n1 h _=>?_,hd:=fun n1 j ρ h=>?_,
          bk:=fun n1 h=>?_,bd:=fun b h=>?_,mi:=fun b hb h=>?_,sd:=eJ }
 ·rw [Gh.Kk];cases hh:(g.cl b).held with
  |false=>rfl
  |true=>obtain ⟨q,ρ,e⟩:=cM.ue hh;exact absurd e (h2 q ρ)
 ·by_cases hb:b<w.heap.size∧(g.cl b).held=false
  ·simp only [Gh.gq];rw [if_pos hb]
  ·have h1:∀k,g.cl b≠OM.kc k:=fun k e=>hb ⟨d_ b (by rw [e];cases k<;>simp [OM.kc]),by rw [e];cases k<;>rfl⟩
   constructor
   ·intro h2;simp only [Gh.gq] at h2;rw [if_neg hb] at h2;split at h2<;>first|(cases k<;>simp [OM.kc] at h2;done)|(split at h2<;>cases k<;>simp [OM.kc] at h2)
   ·exact fun h2=>absurd h2 (h1 k)
 ·rw [pC b (by rw [h];simp) (by rw [h];rfl)];exact h
 ·rw [pC b (by rw [h];simp) (by rw [h];rfl)];exact h
 ·simp only [Gh.gq];rw [if_neg (by omega),if_neg (fun e=>h (by have:=hn e.2;omega))]
 ·simp only [Gh.gq];cases bG:cr with
  |false=>simp
  |true=>have:=hn bG;subst this;simp [aB,h]
 ·by_cases hb:b<w.heap.size∧(g.cl b).held=false
  ·left;simp only [Gh.gq] at h;rw [if_pos hb] at h;exact h
  ·by_cases ah:b<w.heap.size
   ·left
    have:(g.cl b).held=true:=by
     cases hh:(g.cl b).held with
     |true=>rfl
     |false=>exact absurd ⟨ah,hh⟩ hb
    obtain ⟨q,ρ,e⟩:=cM.ue this;rw [e];simp
   ·right;refine ⟨by omega,u3 b (fun e=>?_)⟩;simp only [Gh.gq] at h;rw [if_neg hb,e] at h;exact h rfl
 ·by_cases gu:(g.cl b).held=false
  ·simp only [Gh.gq] at h;rw [if_pos ⟨hb,gu⟩] at h;exact h
  ·obtain ⟨q,ρ,e⟩:=cM.ue (c:=g.cl b) (by simpa using gu);rw [e];rfl
section
variable {w':World} {g':Gh} {d bR:Nat} {I:Nat} {cr lent:Bool} {X X':Nat→Value}
theorem Kp (jr:∀b,b<w.heap.size→(g'.cl b).bS=true→((g.gm I X' lent).cl b).bS=true) {b:Nat} (hm:(g'.cl b).bS=true):
 (g.gq g' I w.heap.size d bR cr X).cl b=match g'.cl b with
   |.own 0 n ρ=>if cr then .own (d+1) n ρ else .no
   |.own r q ρ=>if r=I+1 then .own 0 q ρ else .no
   |.box _=>if cr=true∧b=bR then .box d else .no
   |_=>.no:=by
 simp only [Gh.gq];rw [if_neg (fun e=>?_)];have:=jr b e.1 hm;rw [Gh.Kk,e.2] at this;cases this
theorem Kq (jq:∀b k,g'.cl b=kc k↔(g.gm I X' lent).cl b=kc k) (d_:∀b,g.cl b≠.no→b<w.heap.size) {k:Bool} {dd:D} {x:Value} (aP:(C.ro k dd).bp=true∨lent=false) (h:RO w' g'.cl k dd x):
 RO w' (g.gq g' I w.heap.size d bR cr X).cl k dd x:=by
 by_cases hs:dd.bC=true
 ·exact h.bC hs
 have jW:k=false∨lent=false:=by
  rcases aP with aP|aP
  ·left;simpa [C.bp,hs] using aP
  ·exact .inr aP
 exact h.mono fun b hb=>⟨rfl,by
  have h1:=Gh.Of jW ((jq b k).1 hb);simp only [Gh.gq];rw [if_pos ⟨d_ b (by rw [h1];cases k<;>simp [kc]),by rw [h1];cases k<;>rfl⟩]
  exact h1⟩
theorem Om (jr:∀b,b<w.heap.size→(g'.cl b).bS=true→((g.gm I X' lent).cl b).bS=true) (jq:∀b k,g'.cl b=kc k↔(g.gm I X' lent).cl b=kc k) (d_:∀b,g.cl b≠.no→b<w.heap.size)
 {j:Nat} {c:C} {x:Value} (aP:c.bp=true∨lent=false) (hn:c.bg=true) (hx:X j=x) (h:RC w' g' 0 j c x):RC w' (g.gq g' I w.heap.size d bR true X) (d+1) j c x:=by
 cases h with
 |ro k dd _ h=>exact .ro _ _ _ (Kq jq d_ aP h)
 |own dd _ h=>
  refine .own _ _ (Hd.place (w:=w') (g:=g') (.inl h) (fun b ρ hb=>⟨rfl,?_⟩) (fun ρ gJ=>?_) ?_)
  ·rw [Kp jr (by rw [hb];rfl),hb];simp
  ·simp [Gh.gq,gJ]
  ·simp [Gh.gq,hx]
 |rf=>simp [C.bg] at hn
end
end
section
variable {P:Program} {κ:Nat→FuncId} {w0:World} {cl0:dv} {S:St} {w:World} {g:Gh} {a:Act} {Γ:Env} {d:Nat}
theorem Pg {x:V} {v:Value} {I:Nat} {X:Nat→Value} {lent:Bool} (hn:x.flat.all C.bg=true) (hX:∀j y,v.cells[j]?=some y→X j=y) (h:ig w g 0 0 x v):jh w (g.gm I X lent) I x v:=by
 have hc:∀{n:Nat} {c:C} {y:Value},c.bg=true→X n=y→RC w g 0 n c y→RC w (g.gm I X lent) (I+1) n c y:=fun {n c y} h1 hy h2=>by
  cases h2 with
  |ro k d _ h3=>exact .ro _ _ _ (h3.mono fun b hb=>⟨rfl,Gh.Oi hb⟩)
  |own d _ h3=>
   refine .own _ _ (Hd.place (w:=w) (g:=g) (.inl h3) (fun b ρ hb=>⟨rfl,by simp [Gh.gm,hb]⟩) (fun ρ gJ=>?_) ?_)
   ·simp [Gh.gm,gJ]
   ·simp [Gh.gm,hy]
  |rf=>simp [C.bg] at h1
 cases x with
 |one c=>
  refine ⟨⟨hc (by simpa [V.flat] using hn) (hX 0 v (by rw [h.2];rfl)) h.1,h.2⟩,fun _ j y hy=>?_⟩;simp [Gh.gm,hX j y hy]
 |st cs=>
  obtain ⟨vs,rfl,hl,h2⟩:=h;refine ⟨⟨vs,rfl,hl,fun i c y h3 h4=>?_⟩,fun _ j y hy=>?_⟩
  ·refine hc (zb.1 hn c (za h3)) (hX _ y ?_) (h2 i c y h3 h4);rw [zf];simpa [Value.cells] using h4
  ·simp [Gh.gm,hX j y hy]
 |ptr=>exact h.elim
 |bu=>exact h.elim
theorem BQ {I:Nat} {m1:Ms} {g1:Gh} (R1:Rel w0 cl0 { S with ms:=m1 } a.tmps w g1) {xs:List V} {args:Array Value} {us:List (Nat×Nat×C)} {w':World} {g':Gh}
 {X X':Nat→Value} {cr lent:Bool} {bR:Nat}
 (hL:Left w (g1.gm I X' lent) xs args us w' g') (hn:cr=true→(m1 d).1=none):
 ∃g3,Rel w0 cl0 { S with ms:=m1 } a.tmps w' g3∧
  (∀{c:C} {j:Nat} {x:Value},(c.bp=true∨lent=false)→c.dn=false→c.bg=true→RC w' g' 0 j c x→RC w' g3 (d+1) j c x)∧
  (cr=true→∀{c:C} {j:Nat} {x:Value},(c.bp=true∨lent=false)→c.bg=true→X j=x→RC w' g' 0 j c x→RC w' g3 (d+1) j c x)∧
  (cr=true→∀j,g3.hd (d+1) j []=X j)∧(cr=true→g3.bk d=bR∧∀n,g'.cl bR=.box n→g3.cl bR=.box d):=by
 have se:=hL.fr;have jr:=hL.mi;have jq:=hL.im;have H:∀n,(cr=true→n=d)→dT n w w' g1 (g1.gq g' I w.heap.size d bR cr X):=fun n hn=>dT.gq (X':=X') (lent:=lent) R1.bd (fun b h1 h2=>se b h1 h2) hL.sz hL.sd hL.bd n hn
 have R2:Rel w0 cl0 { S with ms:=m1 } a.tmps w' (g1.gq g' I w.heap.size d bR cr X):=by
  refine R1.pass (d0:=d) (H d fun _=>rfl) (fun n hs=>?_);cases bG:cr with
  |false=>
   subst bG;exact ⟨n+1,by omega,H _ (fun e=>by cases e)⟩
  |true=>
   subst bG;refine ⟨d,fun e=>?_,H d fun _=>rfl⟩;subst e;rw [hn rfl] at hs;cases hs
 refine ⟨_,R2,fun {c j x} ho h1 h2 h=>?_,fun bG {c j x} ho h1 hx h=>?_,fun bG j=>?_,fun bG=>⟨?_,fun n hb=>?_⟩⟩
 ·cases h with
  |ro k dd _ h=>exact .ro _ _ _ (Kq (d:=d) (bR:=bR) (cr:=cr) (X:=X) jq R1.bd ho h)
  |own dd _ h=>
   simp only [C.dn,zo] at h1;refine .own _ _ ?_;cases h<;>first|exact .int _ _ _|exact .bool _ _|exact .str _ _|simp [D.bC] at h1
  |rf=>simp [C.bg] at h2
 ·subst bG;exact Om (d:=d) (bR:=bR) jr jq R1.bd ho h1 hx h
 ·subst bG;simp [Gh.gq]
 ·subst bG;simp [Gh.gq,aB]
 ·subst bG;rw [Kp jr (by rw [hb];rfl),hb];simp
theorem Nq {I:Nat} {m1:Ms} {g1:Gh} (R1:Rel w0 cl0 { S with ms:=m1 } a.tmps w g1) {xs:List V} {args:Array Value} {us:List (Nat×Nat×C)} {w':World} {g':Gh} {r:V} {v:Value}
 {X':Nat→Value} {lent:Bool} (pF:(r.bp||!lent)=true)
 (dy:r.plain=true) (hr:kW w' g' r v)
 (hL:Left w (g1.gm I X' lent) xs args us w' g') (hn:((imp d r).2).isSome→(m1 d).1=none):
 et w0 cl0 S a.tmps d (imp d r).1 (imp d r).2 m1 v w':=by
 by_cases jt:∃cs,r=.ptr cs
 ·obtain ⟨cs,rfl⟩:=jt;obtain ⟨Rn,b,vals,E,rfl,bA,gy,jT,bG⟩:=hr;obtain ⟨g3,R3,p1,p2,p3,p4⟩:=BQ (d:=d) (cr:=true) (bR:=b) (X:=fun j=>vals.getD j undef) R1 hL (fun _=>hn rfl);obtain ⟨p5,p6⟩:=p4 rfl;simp only [imp] at hn ⊢;have iv:=hn rfl;simp only [V.plain] at dy
  have dF:∀(j:Nat) (c:C) (x:Value),cs[j]?=some c→vals[j]?=some x→RC w' g3 (d+1) j c x:=by
   intro j c x hc hx;have h5:=bG j c x hc (by simpa using hx);rw [zf] at h5
   have iU:c.bp=true∨lent=false:=by
    rcases zi _ _▸pF with h|h
    ·simp only [V.bp,V.p8] at h;exact .inl (zb.1 h c (za hc))
    ·right;simpa using h
   exact p2 rfl iU (zb.1 dy c (za hc)) (by simp [zw,hx]) h5
  refine ⟨_,R3.fresh (rt:=.bx cs) iv (dT.refl d w' g3) ⟨?_,vals,E,?_,by simpa using jT.symm,dF⟩ (fun j r1 j1 hj=>?_),?_,fun q hq=>?_⟩
  ·rw [p5];exact p6 _ bA
  ·rw [p5];exact gy
  ·have:=zb.1 dy _ (za hj);simp [C.bg] at this
  ·have oV:=RA.bx (w:=w') (g:=g3) (m:=aB m1 d (some (.bx cs),[])) d 0;rw [p5] at oV;exact oV
  ·simp [AV.refs] at hq;subst hq;simp [aB]
 ·have dm:∀cs,r≠.ptr cs:=fun cs e=>jt ⟨cs,e⟩
  obtain ⟨kN,m_⟩:=yt hr dm;have jZ:=ye dy dm
  have nu:∀c∈r.dZ,c.bp=true∨lent=false:=by
   intro c hc;rcases zi _ _▸pF with h|h
   ·exact .inl (zb.1 (A6 h dm) c hc)
   ·right;simpa using h
  rw [sT dm] at hn ⊢;by_cases ft:r.dZ.any C.dn=true
  ·rw [if_pos ft] at hn ⊢;have iv:=hn rfl;obtain ⟨g3,R3,p1,p2,p3,p4⟩:=BQ (d:=d) (cr:=true) (bR:=0) (X:=fun j=>(r.vals v).getD j undef) R1 hL (fun _=>hn rfl)
   have dF:∀(j:Nat) (c:C) (x:Value),r.dZ[j]?=some c→(r.vals v)[j]?=some x→RC w' g3 (d+1) j c x:=by
    intro j c x hc hx;have h5:=m_ j c x hc hx;rw [zf] at h5;exact p2 rfl (nu c (za hc)) (zb.1 jZ c (za hc)) (by simp [zx,hx]) h5
   refine ⟨_,R3.fresh (rt:=.aR r.dZ) iv (dT.refl d w' g3) (fun j c hc=>?_) (fun j r1 j1 hj=>?_),?_,fun q hq=>?_⟩
   ·have ah:=bj hc;have hx:(r.vals v)[j]?=some (r.vals v)[j]:=by simp [show j<(r.vals v).length from by omega]
    have:=dF j c _ hc hx;rw [p3 rfl j];simpa [zx,hx] using this
   ·have:=zb.1 jZ _ (za hj);simp [C.bg] at this
   ·exact rm hr dm (fun i c y hc hy=>ql (dF i c y hc hy))
   ·obtain ⟨rfl,_⟩:=pX dy dm hq;simp [aB]
  ·rw [if_neg ft] at hn ⊢;obtain ⟨g3,R3,p1,p2,p3,p4⟩:=BQ (d:=d) (cr:=false) (bR:=0) (X:=fun _=>undef) R1 hL (fun e=>by cases e);refine ⟨g3,R3,?_,fun q hq=>?_⟩
   ·refine rm hr dm (fun i c y hc hy=>?_);have h5:=m_ i c y hc hy;have eF:=zb.1 jZ c (za hc);rw [zf] at h5;refine ql (p1 (nu c (za hc)) ?_ eF h5);cases h8:c.dn
    ·rfl
    ·exact absurd (zt.2 ⟨_,za hc,h8⟩) ft
   ·exact absurd (pX dy dm hq).2 ft
end
end
section
section
variable {P:Program} {κ:Nat→FuncId} {w0:World} {cl0:dv} {S:St} {w:World} {g:Gh} {a:Act} {Γ:Env} {d:Nat}
theorem TP {m:Ms} {a:AV} {r:Nat} {cs:List C} (h:a.oq m=some (r,cs)):a=.bx r 0∧(m r).1=some (.bx cs)∧cs.all C.bg=true:=by
 unfold AV.oq at h;split at h
 ·split at h
  ·rename_i hm;split at h
   ·rename_i hc;simp at h;obtain ⟨rfl,rfl⟩:=h;exact ⟨rfl,hm,hc⟩
   ·cases h
  ·cases h
 ·cases h
theorem Bk:∀(us:List (Nat×Nat×C)) {n:Nat} {cs:List C},o8 n us=some cs→
 cs.length=us.length∧∀(j:Nat) (c:C),cs[j]?=some c→(0,n+j,c)∈us∧c.bg=true:=by
 intro us;induction us with
 |nil=>intro n cs h;simp [o8] at h;subst h;exact ⟨rfl,fun j c h=>by simp at h⟩
 |cons u us ih=>
  intro n cs h;obtain ⟨i,j,c⟩:=u;simp only [o8] at h;split at h
  ·rename_i hc;obtain ⟨rfl,rfl,h3⟩:=hc;split at h
   ·rename_i jk h2;simp at h;subst h;obtain ⟨h4,h5⟩:=ih h2;refine ⟨by simp [h4],fun k c' hk=>?_⟩;cases k with
    |zero=>simp at hk;subst hk;exact ⟨by simp,h3⟩
    |succ k=>
     obtain ⟨h6,h7⟩:=h5 k c' (by simpa using hk);exact ⟨zn _ (by rwa [show j+(k+1)=j+1+k from by omega]),h7⟩
   ·cases h
  ·cases h
def Gh.kp (g:Gh) (b0:Nat) (lent:Bool):Gh where
 cl:=fun b=>if b=b0 then .box 0 else (g.c6 lent false fun _=>false).cl b
 hd:=g.hd
 bk:=g.bk
theorem Gh.Sr {b0 b:Nat} {k lent:Bool} (h0:∀k,g.cl b0≠kc k) (h:g.cl b=kc k):(g.kp b0 lent).cl b=kc k:=by
 simp only [Gh.kp];rw [if_neg (fun e=>by subst e;exact h0 k h)];exact Gh.AT h
theorem Gh.Sq {b0 b:Nat} {k lent:Bool} (hk:k=false∨lent=false) (h:(g.kp b0 lent).cl b=kc k):g.cl b=kc k:=by
 simp only [Gh.kp] at h;split at h
 ·cases k<;>simp [kc] at h
 ·exact Gh.DK hk h
theorem Gh.Lx {b0 b:Nat} {lent:Bool}:((g.kp b0 lent).cl b).bS=true→b=b0:=by
 simp only [Gh.kp];by_cases e:b=b0
 ·exact fun _=>e
 ·rw [if_neg e];intro h;have:((g.c6 lent false fun _=>false).cl b).bS=false:=Gh.AU;rw [this] at h;cases h
theorem BO {r:Nat} {cs:List C} (h:kE w g r (.bx cs)):∀k,g.cl (g.bk r)≠kc k:=fun k e=>by
 rw [h.1] at e;cases k<;>simp [kc] at e
theorem Ni {r:Nat} {cs:List C} {lent:Bool} (h:kE w g r (.bx cs)) (dz:cs.all C.gz=true):jh w (g.kp (g.bk r) lent) 0 (.ptr cs) (.pointer (some ⟨g.bk r,0,none⟩)):=by
 obtain ⟨vals,E,h2,h3,h4⟩:=h.2;refine ⟨g.bk r,vals,E,rfl,by simp [Gh.kp],h2,by simpa using h3.symm,fun j c x hc hx=>?_⟩;rw [zf];have h5:=h4 j c x hc (by simpa using hx);have h6:=zb.1 dz c (za hc);cases h5 with
 |ro k dd _ h7=>exact .ro _ _ _ (h7.mono fun b hb=>⟨rfl,Gh.Sr (BO h) hb⟩)
 |own=>simp [C.gz] at h6
 |rf=>simp [C.gz] at h6
def Gh.jj (g g':Gh) (size d:Nat) (cr:Bool) (X:Nat→Value):Gh where
 cl:=fun b=>if b<size then g.cl b else match g'.cl b with
  |.own 0 n ρ=>if cr then .own (d+1) n ρ else .no
  |_=>.no
 hd:=fun r j ρ=>if r=d+1∧cr=true then (if ρ=[] then X j else g'.hd 0 j ρ) else g.hd r j ρ
 bk:=g.bk
theorem Nm (R:Rel w0 cl0 S a.tmps w g) {r0:Nat} {cs bw:List C} {xs:List V} {args:Array Value} {us:List (Nat×Nat×C)} {w':World} {g':Gh} {X:Nat→Value} {cr lent:Bool}
 (hb:(S.ms r0).1=some (.bx cs)) (h0:args[0]?=some (.pointer (some ⟨g.bk r0,0,none⟩)))
 (hL:Left w (g.kp (g.bk r0) lent) (.ptr cs::xs) args us w' g') (hu:o8 0 us=some bw) (v_:bw.all C.gz=true) (hlen:bw.length=cs.length) (rj:0<cs.length)
 (hn:cr=true→(S.ms d).1=none) (iU:∀c∈bw,c.bp=true∨lent=false):
 ∃g3,Rel w0 cl0 { S with ms:=aB S.ms r0 (some (.bx bw),(S.ms r0).2) } a.tmps w' g3∧
  (∀{c:C} {j:Nat} {x:Value},(c.bp=true∨lent=false)→c.dn=false→c.bg=true→RC w' g' 0 j c x→RC w' g3 (d+1) j c x)∧
  (cr=true→∀{c:C} {j:Nat} {x:Value},(c.bp=true∨lent=false)→c.bg=true→X j=x→RC w' g' 0 j c x→RC w' g3 (d+1) j c x)∧
  (cr=true→∀j,g3.hd (d+1) j []=X j):=by
 have bP:=R.rt r0 _ hb;have sg:=BO bP;have mm:g.cl (g.bk r0)=.box r0:=bP.1;obtain ⟨Rm,wR⟩:=Bk us hu
 have sM:∀(j:Nat) (c:C),bw[j]?=some c→c.gz=true∧∃vals E x,g'.cl (g.bk r0)=.box 0∧w'.heap[g.bk r0]?=some (.cells vals E)∧vals.size≤us.length∧vals[j]?=some x∧RC w' g' 1 j c x:=by
  intro j c hc;obtain ⟨h1,h2⟩:=wR j c hc;rw [zf] at h1;have h3:=hL.up 0 j c h1;simp only [zp] at h3;obtain ⟨b,vals,E,x,e1,e2,e3,e4,e5,e6⟩:=h3;rw [h0] at e1;simp only [ze,Value.pointer.injEq,Addr.mk.injEq] at e1;obtain ⟨rfl,_⟩:=e1;exact ⟨zb.1 v_ c (za hc),vals,E,x,e2,e3,e4,e5,e6⟩
 obtain ⟨Cl,vals,E,Ct,wS,rl⟩:g'.cl (g.bk r0)=.box 0∧∃vals E,w'.heap[g.bk r0]?=some (.cells vals E)∧vals.size=bw.length∧
  ∀(j:Nat) (c:C) (x:Value),bw[j]?=some c→vals[j]?=some x→c.gz=true∧RC w' g' 1 j c x:=by
  have cg:bw[0]?=some bw[0]:=by simp [show 0<bw.length from by omega]
  obtain ⟨_,vals,E,x,e1,e2,e3,e4,e5⟩:=sM 0 _ cg;refine ⟨e1,vals,E,e2,?_,fun j c y hc hy=>?_⟩
  ·have CF:bw[bw.length-1]?=some bw[bw.length-1]:=by simp [show bw.length-1<bw.length from by omega]
   obtain ⟨_,IL,E2,x2,q1,q2,q3,q4,q5⟩:=sM _ _ CF;rw [e2] at q2;simp only [ze,Obj.cells.injEq] at q2;obtain ⟨rfl,_⟩:=q2
   have:bw.length-1<vals.size:=by
    rcases zB (bw.length-1) vals.size with h|h
    ·exact h
    ·rw [zq h] at q4;cases q4
   omega
  ·obtain ⟨p0,IL,E2,x2,q1,q2,q3,q4,q5⟩:=sM j c hc;rw [e2] at q2;simp only [ze,Obj.cells.injEq] at q2;obtain ⟨rfl,_⟩:=q2;rw [hy] at q4;simp only [ze] at q4;subst q4;exact ⟨p0,q5⟩
 have ah:∀b,g.cl b≠.no→b<w.heap.size:=R.bd
 have mu:∀b,b<w.heap.size→b≠g.bk r0→w'.heap[b]?=w.heap[b]?:=fun b h1 h2=>by
  refine hL.fr b h1 ?_;cases h:((g.kp (g.bk r0) lent).cl b).bS with
  |false=>rfl
  |true=>exact absurd (Gh.Lx h) h2
 have lk:∀b,b<w.heap.size→(g.jj g' w.heap.size d cr X).cl b=g.cl b:=fun b h=>by simp [Gh.jj,h]
 have de:∀b k,g.cl b=kc k→w'.heap[b]?=w.heap[b]?∧(g.jj g' w.heap.size d cr X).cl b=kc k:=fun b k h=>by
  have h1:=ah b (by rw [h];cases k<;>simp [kc]);exact ⟨mu b h1 (fun e=>by subst e;exact sg k h),by rw [lk b h1,h]⟩
 have CE:∀b k,(k=false∨lent=false)→g'.cl b=kc k→(g.jj g' w.heap.size d cr X).cl b=kc k:=fun b k hk h=>(de b k (Gh.Sq hk ((hL.im b k).1 h))).2
 have bY:∀n,((S.ms n).1).isSome→∀j ρ,(g.jj g' w.heap.size d cr X).hd (n+1) j ρ=g.hd (n+1) j ρ:=fun n hs j ρ=>by
  simp only [Gh.jj];rw [if_neg];rintro ⟨h1,h2⟩;have:n=d:=by omega
  subst this;rw [hn h2] at hs;cases hs
 have y8:∀r j p,Ms.bM (aB S.ms r0 (some (.bx bw),(S.ms r0).2)) r j p=S.ms.bM r j p:=fun r j p=>by
  by_cases e:r=r0
  ·subst e;simp [Ms.bM,aB]
  ·simp [Ms.bM,aB,e]
 have dz:∀{k:Bool} {dd:D} {x:Value},((C.ro k dd).bp=true∨lent=false)→RO w' g'.cl k dd x→RO w' (g.jj g' w.heap.size d cr X).cl k dd x:=fun {k dd x} hk h=>by
  by_cases hs:dd.bC=true
  ·cases h<;>first|exact .int _ _|exact .bool _|exact .str _|(simp [D.bC] at hs)
  ·have jW:k=false∨lent=false:=by
    rcases hk with hk|hk
    ·left;simpa [C.bp,hs] using hk
    ·exact .inr hk
   exact h.mono fun b hb=>⟨rfl,CE b _ jW hb⟩
 have Ds:∀n,((aB S.ms r0 (some (.bx bw),(S.ms r0).2) n).1).isSome=((S.ms n).1).isSome:=fun n=>by
  by_cases e:n=r0
  ·subst e;simp [aB,hb]
  ·simp [aB,e]
 have pH:∀{j:Nat} {dd:D} {x:Value},cr=true→X j=x→OW w' g' 0 j [] dd x→RC w' (g.jj g' w.heap.size d cr X) (d+1) j (.own dd) x:=by
  intro j dd x bG hx h;subst bG;refine .own _ _ (Hd.place (w:=w') (g:=g') (.inl h) (fun b ρ hb=>⟨rfl,?_⟩) (fun ρ gJ=>?_) ?_)
  ·have vk:¬b<w.heap.size:=fun ah=>by
    have h1:=hL.mi b ah (by rw [hb];rfl);have h2:=Gh.Lx h1;subst h2;rw [Cl] at hb;cases hb
   simp [Gh.jj,vk,hb]
  ·simp [Gh.jj,gJ]
  ·simp [Gh.jj,hx]
 refine ⟨g.jj g' w.heap.size d cr X,?_,fun {c j x} ho h1 h2 h=>?_,fun bG {c j x} ho h1 hx h=>?_,fun bG j=>?_⟩
 ·refine { av:=fun n=>?_,rt:=fun n bX h=>?_,ey:=fun n r h=>(by rw [Ds];exact R.ey n r h),ea:=fun n bX j r1 j1 h hj=>?_,
           bd:=fun b h=>?_,sz:=zA R.sz hL.sz,fr:=fun b h hm=>?_,im:=fun b k=>?_,mi:=fun b h hm=>?_,sd:=R.sd.trans hL.sd,fi:=fun i hi=>?_ }
  ·exact (R.av n).mono de (fun r hr=>⟨rfl,fun j p hk=>⟨by rw [←y8];exact hk,bY r (R.ey n r hr) j p⟩⟩)
  ·by_cases e:n=r0
   ·subst e;simp only [gL,ze] at h;subst h;refine ⟨?_,vals,E,Ct,wS,fun j c x hc hx=>?_⟩
    ·show (g.jj g' w.heap.size d cr X).cl (g.bk n)=.box n;rw [lk _ (ah _ (by rw [mm];simp)),mm]
    ·obtain ⟨h1,h2⟩:=rl j c x hc hx;cases h2 with
     |ro k dd _ h3=>exact .ro _ _ _ (dz (iU _ (za hc)) h3)
     |own=>simp [C.gz] at h1
     |rf=>simp [C.gz] at h1
   ·simp only [eL e] at h;have h1:=R.rt n bX h;have hs:((S.ms n).1).isSome:=by rw [h];rfl
    refine h1.mono de (fun b j ρ hb=>?_) (fun jk dx=>?_) (fun j ρ=>bY n hs j ρ) (fun j r1 j1 hj=>?_)
    ·have h2:=ah b (by rw [hb];simp);exact ⟨mu b h2 (fun e2=>by subst e2;rw [mm] at hb;cases hb),by rw [lk b h2,hb]⟩
    ·subst dx;have h2:=h1.1;have h3:=ah (g.bk n) (by rw [h2];simp);refine ⟨rfl,mu _ h3 (fun e2=>?_),by rw [lk _ h3]⟩;rw [e2,mm] at h2;simp only [cM.box.injEq] at h2;exact e h2.symm
    ·obtain ⟨jk,h2⟩:=R.ea n bX j r1 j1 h hj;exact bY r1 (by rw [h2];rfl) j1 []
  ·by_cases e:n=r0
   ·subst e;simp only [gL,ze] at h;subst h;have:=(wR j _ hj).2;simp [C.bg] at this
   ·simp only [eL e] at h;obtain ⟨jk,h2⟩:=R.ea n bX j r1 j1 h hj;have:r1≠r0:=fun e2=>by subst e2;rw [hb] at h2;cases h2
    exact ⟨jk,by simp only [eL this];exact h2⟩
  ·by_cases h1:b<w.heap.size
   ·exact zg h1 hL.sz
   ·refine hL.bd b (fun e=>?_);simp [Gh.jj,h1,e] at h
  ·have h1:=zg h R.sz;rw [mu b h1 (fun e=>?_),R.fr b h hm];subst e;have:=R.mi _ h (by rw [mm];rfl);rw [this] at hm;cases hm
  ·refine Iff.trans ?_ (R.im b k);constructor
   ·intro h;by_cases h1:b<w.heap.size
    ·rwa [lk b h1] at h
    ·exfalso;simp only [Gh.jj,if_neg h1] at h;split at h<;>first|(cases k<;>simp [kc] at h;done)|(split at h<;>cases k<;>simp [kc] at h)
   ·exact fun h=>(de b k h).2
  ·have h1:=zg h R.sz;rw [lk b h1] at hm;exact R.mi b h hm
  ·have h4:=R.fi i hi;by_cases e:i=r0
   ·subst e;simp only [gL];rw [hb] at h4;exact h4
   ·simp only [eL e]
    have hs:((S.ms i).1).isSome:=by
     revert h4;cases (S.ms i).1 with
     |none=>exact fun h=>h.elim
     |some _=>exact fun _=>rfl
    have h5:=bY i hs;revert h4;cases (S.ms i).1 with
    |none=>exact id
    |some bX=>
     cases bX with
     |aR cs=>exact fun h j1=>(h5 j1 []).trans (h j1)
     |bx cs=>exact id
 ·cases h with
  |ro k dd _ h=>exact .ro _ _ _ (dz ho h)
  |own dd _ h=>
   simp only [C.dn,zo] at h1;refine .own _ _ ?_;cases h<;>first|exact .int _ _ _|exact .bool _ _|exact .str _ _|simp [D.bC] at h1
  |rf=>simp [C.bg] at h2
 ·cases h with
  |ro k dd _ h=>exact .ro _ _ _ (dz ho h)
  |own dd _ h=>exact pH bG hx h
  |rf=>simp [C.bg] at h1
 ·subst bG;simp [Gh.jj]
theorem LH {r:V} (h:r.uv=true):∀cs,r≠.ptr cs:=fun cs e=>by subst e;simp [V.uv] at h
theorem LR {m2:Ms} {r:V} {v:Value} {w':World} {g':Gh} {lent:Bool} (aP:(r.bp||!lent)=true) (dy:r.plain=true) (dm:∀cs,r≠.ptr cs) (hr:kW w' g' r v)
 (H:∀(cr:Bool) (X:Nat→Value),(cr=true→(m2 d).1=none)→∃g3,Rel w0 cl0 { S with ms:=m2 } a.tmps w' g3∧
   (∀{c:C} {j:Nat} {x:Value},(c.bp=true∨lent=false)→c.dn=false→c.bg=true→RC w' g' 0 j c x→RC w' g3 (d+1) j c x)∧
   (cr=true→∀{c:C} {j:Nat} {x:Value},(c.bp=true∨lent=false)→c.bg=true→X j=x→RC w' g' 0 j c x→RC w' g3 (d+1) j c x)∧
   (cr=true→∀j,g3.hd (d+1) j []=X j))
 (hn:((imp d r).2).isSome→(m2 d).1=none):et w0 cl0 S a.tmps d (imp d r).1 (imp d r).2 m2 v w':=by
 obtain ⟨kN,m_⟩:=yt hr dm;have jZ:=ye dy dm
 have nu:∀c∈r.dZ,c.bp=true∨lent=false:=by
  intro c hc;rcases zi _ _▸aP with h|h
  ·exact .inl (zb.1 (A6 h dm) c hc)
  ·right;simpa using h
 rw [sT dm] at hn ⊢;by_cases ft:r.dZ.any C.dn=true
 ·rw [if_pos ft] at hn ⊢;have iv:=hn rfl;obtain ⟨g3,R3,p1,p2,p3⟩:=H true (fun j=>(r.vals v).getD j undef) (fun _=>iv)
  have dF:∀(j:Nat) (c:C) (x:Value),r.dZ[j]?=some c→(r.vals v)[j]?=some x→RC w' g3 (d+1) j c x:=by
   intro j c x hc hx;have h5:=m_ j c x hc hx;rw [zf] at h5;exact p2 rfl (nu c (za hc)) (zb.1 jZ c (za hc)) (by simp [zx,hx]) h5
  refine ⟨_,R3.fresh (rt:=.aR r.dZ) iv (dT.refl d w' g3) (fun j c hc=>?_) (fun j r1 j1 hj=>?_),?_,fun q hq=>?_⟩
  ·have ah:=bj hc;have hx:(r.vals v)[j]?=some (r.vals v)[j]:=by simp [show j<(r.vals v).length from by omega]
   have:=dF j c _ hc hx;rw [p3 rfl j];simpa [zx,hx] using this
  ·have:=zb.1 jZ _ (za hj);simp [C.bg] at this
  ·exact rm hr dm (fun i c y hc hy=>ql (dF i c y hc hy))
  ·obtain ⟨rfl,_⟩:=pX dy dm hq;simp [aB]
 ·rw [if_neg ft] at hn ⊢;obtain ⟨g3,R3,p1,p2,p3⟩:=H false (fun _=>undef) (fun e=>by cases e);refine ⟨g3,R3,?_,fun q hq=>?_⟩
  ·refine rm hr dm (fun i c y hc hy=>?_);have h5:=m_ i c y hc hy;have eF:=zb.1 jZ c (za hc);rw [zf] at h5;refine ql (p1 (nu c (za hc)) ?_ eF h5);cases h8:c.dn
   ·rfl
   ·exact absurd (zt.2 ⟨_,za hc,h8⟩) ft
  ·exact absurd (pX dy dm hq).2 ft
theorem No (R:Rel w0 cl0 S a.tmps w g) {r0:Nat} {cs bw:List C} {xs:List V} {args:Array Value} {us:List (Nat×Nat×C)} {w':World} {g':Gh} {r:V} {v:Value} {lent:Bool}
 (hb:(S.ms r0).1=some (.bx cs)) (h0:args[0]?=some (.pointer (some ⟨g.bk r0,0,none⟩)))
 (aP:((r.bp&&us.all fun u=>u.2.2.bp)||!lent)=true) (dy:r.plain=true) (dm:r.uv=true) (hr:kW w' g' r v)
 (hL:Left w (g.kp (g.bk r0) lent) (.ptr cs::xs) args us w' g') (hu:o8 0 us=some bw) (v_:bw.all C.gz=true) (hlen:bw.length=cs.length) (rj:0<cs.length)
 (hn:((imp d r).2).isSome→(aB S.ms r0 (some (.bx bw),(S.ms r0).2) d).1=none):
 et w0 cl0 S a.tmps d (imp d r).1 (imp d r).2 (aB S.ms r0 (some (.bx bw),(S.ms r0).2)) v w':=by
 have pF:(r.bp||!lent)=true:=by
  revert aP;cases r.bp<;>simp
 have iU:∀c∈bw,c.bp=true∨lent=false:=by
  intro c hc;obtain ⟨j,hj⟩:=zz.1 hc;have h1:=((Bk us hu).2 j c hj).1;rcases zi _ _▸aP with h|h
  ·simp only [zd] at h;exact .inl (zb.1 h.2 _ h1)
  ·right;simpa using h
 refine LR pF dy (LH dm) hr (fun cr X h=>Nm R hb h0 hL hu v_ hlen rj (fun hc=>?_) iU) hn;have:=h hc;by_cases e:d=r0
 ·subst e;simp [aB] at this
 ·simpa [aB,e] using this
end
end
section
def cM.ia (r0:Nat):cM→Bool
 |.own (n+1) _ _=>n==r0
 |_=>false
theorem cM.A5 {r0:Nat} {c:cM} (h:c.ia r0=true):∃j ρ,c=.own (r0+1) j ρ:=by
 cases c with
 |own n j ρ=>
  cases n with
  |zero=>simp [cM.ia] at h
  |succ n=>simp [cM.ia] at h;subst h;exact ⟨_,_,rfl⟩
 |_=>simp [cM.ia] at h
def Gh.hO (g:Gh) (b0 r0:Nat) (lent:Bool):Gh where
 cl:=fun b=>if b=b0 then .box 0 else if (g.cl b).ia r0 then (match g.cl b with
  |.own _ j ρ=>.own 1 j ρ
  |c=>c) else (g.c6 lent false fun r=>r==r0).cl b
 hd:=fun r j ρ=>if r=1 then g.hd (r0+1) j ρ else g.hd r j ρ
 bk:=g.bk
section
variable {P:Program} {κ:Nat→FuncId} {w0:World} {cl0:dv} {S:St} {w:World} {g:Gh} {a:Act} {Γ:Env} {d:Nat}
theorem Gh.Sv {b0 r0 b j:Nat} {ρ:aI} {lent:Bool} (h0:g.cl b0=.box r0) (h:g.cl b=.own (r0+1) j ρ):(g.hO b0 r0 lent).cl b=.own 1 j ρ:=by
 simp only [Gh.hO];rw [if_neg (fun e=>by subst e;rw [h0] at h;cases h),if_pos (by rw [h];simp [cM.ia]),h]
theorem Gh.Ly {b0 r0 b:Nat} {k lent:Bool} (h0:g.cl b0=.box r0) (h:(g.c6 lent false fun r=>r==r0).cl b=kc k):(g.hO b0 r0 lent).cl b=kc k:=by
 simp only [Gh.hO];rw [if_neg (fun e=>?_),if_neg (fun e=>?_)]
 ·exact h
 ·obtain ⟨j,ρ,e⟩:=cM.A5 e;simp [Gh.c6,e] at h;cases k<;>simp [kc] at h
 ·subst e;simp [Gh.c6,h0] at h;cases k<;>simp [kc] at h
theorem Gh.Sw {b0 r0 b:Nat} {k lent:Bool} (h0:g.cl b0=.box r0) (h:g.cl b=kc k):(g.hO b0 r0 lent).cl b=kc k:=Gh.Ly h0 (Gh.AT h)
theorem Gh.Ss {b0 r0 b:Nat} {k lent:Bool} (hk:k=false∨lent=false) (h:(g.hO b0 r0 lent).cl b=kc k):g.cl b=kc k:=by
 simp only [Gh.hO] at h;split at h
 ·cases k<;>simp [kc] at h
 ·split at h
  ·rename_i hr;obtain ⟨j,ρ,e⟩:=cM.A5 hr;rw [e] at h;cases k<;>simp [kc] at h
  ·exact Gh.DK hk h
theorem Gh.Lz {b0 r0 b:Nat} {lent:Bool} (h:((g.hO b0 r0 lent).cl b).bS=true):b=b0∨(g.cl b).ia r0=true:=by
 simp only [Gh.hO] at h;split at h
 ·exact .inl (by assumption)
 ·split at h
  ·exact .inr (by assumption)
  ·rw [Gh.AU] at h;cases h
theorem Gh.Su {b0 r0 b:Nat} {lent:Bool} (h0:g.cl b0=.box r0) (h:g.cl b=.no):(g.hO b0 r0 lent).cl b=.no:=by
 simp only [Gh.hO];rw [if_neg (fun e=>by subst e;rw [h0] at h;cases h),if_neg (by rw [h];simp [cM.ia])];exact Gh.AW h
theorem Nj {r:Nat} {cs:List C} {lent:Bool} (h:kE w g r (.bx cs)) (e_:cs.all C.bg=true):jh w (g.hO (g.bk r) r lent) 0 (.ptr cs) (.pointer (some ⟨g.bk r,0,none⟩)):=by
 obtain ⟨vals,E,h2,h3,h4⟩:=h.2;refine ⟨g.bk r,vals,E,rfl,by simp [Gh.hO],h2,by simpa using h3.symm,fun j c x hc hx=>?_⟩;rw [zf];have h5:=h4 j c x hc (by simpa using hx);have h6:=zb.1 e_ c (za hc);cases h5 with
 |ro k dd _ h7=>exact .ro _ _ _ (h7.mono fun b hb=>⟨rfl,Gh.Sw h.1 hb⟩)
 |own dd _ h7=>exact .own _ _ (h7.mono (q':=[]) (fun b ρ hb=>⟨rfl,by simpa using Gh.Sv h.1 (by simpa using hb)⟩) (fun ρ=>by simp [Gh.hO]))
 |rf=>simp [C.bg] at h6
def Gh.gO (g g':Gh) (size r0 n0 d:Nat) (cr:Bool) (X:Nat→Value):Gh where
 cl:=fun b=>if b<size∧(g.cl b).ia r0=false then g.cl b else match g'.cl b with
  |.own 1 j ρ=>.own (r0+1) j ρ
  |.own 0 n ρ=>if cr then .own (d+1) n ρ else .no
  |_=>.no
 hd:=fun r j ρ=>if r=r0+1∧j<n0 then g'.hd 1 j ρ else if r=d+1∧cr=true then (if ρ=[] then X j else g'.hd 0 j ρ) else g.hd r j ρ
 bk:=g.bk
theorem Sd {r:Nat}:∀{n j:Nat},j<n→(j,([]:aI))∈nU r n:=by
 intro n;induction n with
 |zero=>intro j h;omega
 |succ n ih=>
  intro j h;simp only [nU];by_cases e:j=n
  ·subst e;simp
  ·exact zn _ (ih (by omega))
theorem Nn (R:Rel w0 cl0 S a.tmps w g) {r0:Nat} {cs bw:List C} {xs:List V} {args:Array Value} {us:List (Nat×Nat×C)} {w':World} {g':Gh} {X:Nat→Value} {cr lent:Bool}
 (hb:(S.ms r0).1=some (.bx cs)) (h0:args[0]?=some (.pointer (some ⟨g.bk r0,0,none⟩)))
 (hL:Left w (g.hO (g.bk r0) r0 lent) (.ptr cs::xs) args us w' g') (hu:o8 0 us=some bw) (hlen:bw.length=cs.length) (rj:0<cs.length)
 (hn:cr=true→(S.ms d).1=none) (iU:∀c∈bw,c.bp=true∨lent=false):
 ∃g3,Rel w0 cl0 { S with ms:=aB S.ms r0 (some (.bx bw),nU r0 cs.length++(S.ms r0).2) } a.tmps w' g3∧
  (∀{c:C} {j:Nat} {x:Value},(c.bp=true∨lent=false)→c.dn=false→c.bg=true→RC w' g' 0 j c x→RC w' g3 (d+1) j c x)∧
  (cr=true→∀{c:C} {j:Nat} {x:Value},(c.bp=true∨lent=false)→c.bg=true→X j=x→RC w' g' 0 j c x→RC w' g3 (d+1) j c x)∧
  (cr=true→∀j,g3.hd (d+1) j []=X j):=by
 have bP:=R.rt r0 _ hb;have sg:=BO bP;have mm:g.cl (g.bk r0)=.box r0:=bP.1;obtain ⟨Rm,wR⟩:=Bk us hu;have hdr:cr=true→d≠r0:=fun h e=>by have:=hn h;rw [e,hb] at this;cases this
 have sM:∀(j:Nat) (c:C),bw[j]?=some c→c.bg=true∧∃vals E x,g'.cl (g.bk r0)=.box 0∧w'.heap[g.bk r0]?=some (.cells vals E)∧vals.size≤us.length∧vals[j]?=some x∧RC w' g' 1 j c x:=by
  intro j c hc;obtain ⟨h1,h2⟩:=wR j c hc;rw [zf] at h1;have h3:=hL.up 0 j c h1;simp only [zp] at h3;obtain ⟨b,vals,E,x,e1,e2,e3,e4,e5,e6⟩:=h3;rw [h0] at e1;simp only [ze,Value.pointer.injEq,Addr.mk.injEq] at e1;obtain ⟨rfl,_⟩:=e1;exact ⟨h2,vals,E,x,e2,e3,e4,e5,e6⟩
 obtain ⟨Cl,vals,E,Ct,wS,rl⟩:g'.cl (g.bk r0)=.box 0∧∃vals E,w'.heap[g.bk r0]?=some (.cells vals E)∧vals.size=bw.length∧
  ∀(j:Nat) (c:C) (x:Value),bw[j]?=some c→vals[j]?=some x→c.bg=true∧RC w' g' 1 j c x:=by
  have cg:bw[0]?=some bw[0]:=by simp [show 0<bw.length from by omega]
  obtain ⟨_,vals,E,x,e1,e2,e3,e4,e5⟩:=sM 0 _ cg;refine ⟨e1,vals,E,e2,?_,fun j c y hc hy=>?_⟩
  ·have CF:bw[bw.length-1]?=some bw[bw.length-1]:=by simp [show bw.length-1<bw.length from by omega]
   obtain ⟨_,IL,E2,x2,q1,q2,q3,q4,q5⟩:=sM _ _ CF;rw [e2] at q2;simp only [ze,Obj.cells.injEq] at q2;obtain ⟨rfl,_⟩:=q2
   have:bw.length-1<vals.size:=by
    rcases zB (bw.length-1) vals.size with h|h
    ·exact h
    ·rw [zq h] at q4;cases q4
   omega
  ·obtain ⟨p0,IL,E2,x2,q1,q2,q3,q4,q5⟩:=sM j c hc;rw [e2] at q2;simp only [ze,Obj.cells.injEq] at q2;obtain ⟨rfl,_⟩:=q2;rw [hy] at q4;simp only [ze] at q4;subst q4;exact ⟨p0,q5⟩
 have ah:∀b,g.cl b≠.no→b<w.heap.size:=R.bd
 have mu:∀b,b<w.heap.size→b≠g.bk r0→(g.cl b).ia r0=false→w'.heap[b]?=w.heap[b]?:=fun b h1 h2 h3=>by
  refine hL.fr b h1 ?_;cases h:((g.hO (g.bk r0) r0 lent).cl b).bS with
  |false=>rfl
  |true=>
   rcases Gh.Lz h with h|h
   ·exact absurd h h2
   ·rw [h3] at h;cases h
 have lk:∀b,b<w.heap.size→(g.cl b).ia r0=false→(g.gO g' w.heap.size r0 cs.length d cr X).cl b=g.cl b:=fun b h h2=>by simp only [Gh.gO];rw [if_pos ⟨h,h2⟩]
 have Aa:∀b,(g'.cl b).bS=true→g'.cl b≠.box 0→¬(b<w.heap.size∧(g.cl b).ia r0=false):=fun b h1 h2 h3=>by
  rcases Gh.Lz (hL.mi b h3.1 h1) with e|e
  ·subst e;exact h2 Cl
  ·rw [h3.2] at e;cases e
 have O0:∀b j ρ,g'.cl b=.own 1 j ρ→(g.gO g' w.heap.size r0 cs.length d cr X).cl b=.own (r0+1) j ρ:=fun b j ρ h=>by
  simp only [Gh.gO];rw [if_neg (Aa b (by rw [h];rfl) (by rw [h];simp))];simp only [h]
 have K7:∀b k,g.cl b=kc k→(g.cl b).ia r0=false:=fun b k h=>by rw [h];cases k<;>rfl
 have de:∀b k,g.cl b=kc k→w'.heap[b]?=w.heap[b]?∧(g.gO g' w.heap.size r0 cs.length d cr X).cl b=kc k:=fun b k h=>by
  have h1:=ah b (by rw [h];cases k<;>simp [kc]);exact ⟨mu b h1 (fun e=>by subst e;exact sg k h) (K7 b k h),by rw [lk b h1 (K7 b k h),h]⟩
 have CE:∀b k,(k=false∨lent=false)→g'.cl b=kc k→(g.gO g' w.heap.size r0 cs.length d cr X).cl b=kc k:=fun b k hk h=>(de b k (Gh.Ss hk ((hL.im b k).1 h))).2
 have bY:∀n,n≠r0→((S.ms n).1).isSome→∀j ρ,(g.gO g' w.heap.size r0 cs.length d cr X).hd (n+1) j ρ=g.hd (n+1) j ρ:=fun n cg hs j ρ=>by
  simp only [Gh.gO];rw [if_neg (fun e=>cg (by omega)),if_neg];rintro ⟨h1,h2⟩;have:n=d:=by omega
  subst this;rw [hn h2] at hs;cases hs
 have y8:∀r j p,r≠r0→Ms.bM (aB S.ms r0 (some (.bx bw),nU r0 cs.length++(S.ms r0).2)) r j p=S.ms.bM r j p:=fun r j p e=>by
  simp [Ms.bM,aB,e]
 have P_:∀j p,Ms.bM (aB S.ms r0 (some (.bx bw),nU r0 cs.length++(S.ms r0).2)) r0 j p=false→¬j<cs.length∧S.ms.bM r0 j p=false:=fun j p h=>by
  simp only [Ms.bM,gL,zE,Bool.or_eq_false_iff] at h;refine ⟨fun hj=>?_,h.2⟩;have:=List.any_eq_false.1 h.1 (j,[]) (Sd hj);simp [jG] at this
 have dz:∀{k:Bool} {dd:D} {x:Value},((C.ro k dd).bp=true∨lent=false)→RO w' g'.cl k dd x→RO w' (g.gO g' w.heap.size r0 cs.length d cr X).cl k dd x:=fun {k dd x} hk h=>by
  by_cases hs:dd.bC=true
  ·exact h.bC hs
  ·have jW:k=false∨lent=false:=by
    rcases hk with hk|hk
    ·left;simpa [C.bp,hs] using hk
    ·exact .inr hk
   exact h.mono fun b hb=>⟨rfl,CE b _ jW hb⟩
 have Ds:∀n,((aB S.ms r0 (some (.bx bw),nU r0 cs.length++(S.ms r0).2) n).1).isSome=((S.ms n).1).isSome:=fun n=>by
  by_cases e:n=r0
  ·subst e;simp [aB,hb]
  ·simp [aB,e]
 have pH:∀{j:Nat} {dd:D} {x:Value},cr=true→X j=x→OW w' g' 0 j [] dd x→RC w' (g.gO g' w.heap.size r0 cs.length d cr X) (d+1) j (.own dd) x:=by
  intro j dd x bG hx h;have g9:=hdr bG;subst bG;refine .own _ _ (Hd.place (w:=w') (g:=g') (.inl h) (fun b ρ hb=>⟨rfl,?_⟩) (fun ρ gJ=>?_) ?_)
  ·simp only [Gh.gO];rw [if_neg (Aa b (by rw [hb];rfl) (by rw [hb];simp)),hb];simp
  ·simp only [Gh.gO];rw [if_neg (fun e=>g9 (by omega))];simp [gJ]
  ·simp only [Gh.gO];rw [if_neg (fun e=>g9 (by omega))];simp [hx]
 refine ⟨g.gO g' w.heap.size r0 cs.length d cr X,?_,fun {c j x} ho h1 h2 h=>?_,fun bG {c j x} ho h1 hx h=>?_,fun bG j=>?_⟩
 ·refine { av:=fun n=>?_,rt:=fun n bX h=>?_,ey:=fun n r h=>(by rw [Ds];exact R.ey n r h),ea:=fun n bX j r1 j1 h hj=>?_,
           bd:=fun b h=>?_,sz:=zA R.sz hL.sz,fr:=fun b h hm=>?_,im:=fun b k=>?_,mi:=fun b h hm=>?_,sd:=R.sd.trans hL.sd,fi:=fun i hi=>?_ }
  ·refine (R.av n).mono de (fun r hr=>⟨rfl,fun j p hk=>?_⟩);by_cases e:r=r0
   ·subst e;obtain ⟨q1,q2⟩:=P_ j p hk;refine ⟨q2,?_⟩;simp only [Gh.gO];rw [if_neg (fun e=>q1 e.2),if_neg];rintro ⟨e1,e2⟩;exact hdr e2 (by omega)
   ·exact ⟨by rw [←y8 r j p e];exact hk,bY r e (R.ey n r hr) j p⟩
  ·by_cases e:n=r0
   ·subst e;simp only [gL,ze] at h;subst h;refine ⟨?_,vals,E,Ct,wS,fun j c x hc hx=>?_⟩
    ·show (g.gO g' w.heap.size n cs.length d cr X).cl (g.bk n)=.box n;rw [lk _ (ah _ (by rw [mm];simp)) (by rw [mm];rfl),mm]
    ·obtain ⟨h1,h2⟩:=rl j c x hc hx;have P6:j<cs.length:=by have:=bj hc;omega
     cases h2 with
     |ro k dd _ h3=>exact .ro _ _ _ (dz (iU _ (za hc)) h3)
     |own dd _ h3=>exact .own _ _ (h3.mono (q':=[]) (fun b ρ hb=>⟨rfl,by simpa using O0 b j _ hb⟩) (fun ρ=>by simp [Gh.gO,P6]))
     |rf=>simp [C.bg] at h1
   ·simp only [eL e] at h;have h1:=R.rt n bX h;have hs:((S.ms n).1).isSome:=by rw [h];rfl
    refine h1.mono de (fun b j ρ hb=>?_) (fun jk dx=>?_) (fun j ρ=>bY n e hs j ρ) (fun j r1 j1 hj=>?_)
    ·have h2:=ah b (by rw [hb];simp);have h3:(g.cl b).ia r0=false:=by rw [hb];simp [cM.ia,e]
     exact ⟨mu b h2 (fun e2=>by subst e2;rw [mm] at hb;cases hb) h3,by rw [lk b h2 h3,hb]⟩
    ·subst dx;have h2:=h1.1;have h3:=ah (g.bk n) (by rw [h2];simp);have h4:(g.cl (g.bk n)).ia r0=false:=by rw [h2];rfl
     refine ⟨rfl,mu _ h3 (fun e2=>?_) h4,by rw [lk _ h3 h4]⟩;rw [e2,mm] at h2;simp only [cM.box.injEq] at h2;exact e h2.symm
    ·obtain ⟨jk,h2⟩:=R.ea n bX j r1 j1 h hj;have QY:r1≠r0:=fun e2=>by subst e2;rw [hb] at h2;cases h2
     exact bY r1 QY (by rw [h2];rfl) j1 []
  ·by_cases e:n=r0
   ·subst e;simp only [gL,ze] at h;subst h;have:=(wR j _ hj).2;simp [C.bg] at this
   ·simp only [eL e] at h;obtain ⟨jk,h2⟩:=R.ea n bX j r1 j1 h hj;have:r1≠r0:=fun e2=>by subst e2;rw [hb] at h2;cases h2
    exact ⟨jk,by simp only [eL this];exact h2⟩
  ·by_cases h1:b<w.heap.size
   ·exact zg h1 hL.sz
   ·refine hL.bd b (fun e=>?_);simp only [Gh.gO] at h;rw [if_neg (fun e2=>h1 e2.1),e] at h;exact h rfl
  ·have h1:=zg h R.sz
   have jY:(g.cl b).bS=false:=by
    cases h2:(g.cl b).bS with
    |false=>rfl
    |true=>have:=R.mi b h h2;rw [this] at hm;cases hm
   rw [mu b h1 (fun e=>by subst e;rw [mm] at jY;cases jY) (by
    cases h3:(g.cl b).ia r0 with
    |false=>rfl
    |true=>obtain ⟨j,ρ,e⟩:=cM.A5 h3;rw [e] at jY;cases jY),R.fr b h hm]
  ·refine Iff.trans ?_ (R.im b k);constructor
   ·intro h;by_cases h1:b<w.heap.size∧(g.cl b).ia r0=false
    ·rwa [lk b h1.1 h1.2] at h
    ·exfalso;simp only [Gh.gO,if_neg h1] at h;split at h<;>first|(cases k<;>simp [kc] at h;done)|(split at h<;>cases k<;>simp [kc] at h)
   ·exact fun h=>(de b k h).2
  ·have h1:=zg h R.sz;by_cases h2:(g.cl b).ia r0=false
   ·rw [lk b h1 h2] at hm;exact R.mi b h hm
   ·obtain ⟨j,ρ,e⟩:=cM.A5 (c:=g.cl b) (r0:=r0) (by simpa using h2);exact R.mi b h (by rw [e];rfl)
  ·have h4:=R.fi i hi;by_cases e:i=r0
   ·subst e;simp only [gL];rw [hb] at h4;exact h4
   ·simp only [eL e]
    have hs:((S.ms i).1).isSome:=by
     revert h4;cases (S.ms i).1 with
     |none=>exact fun h=>h.elim
     |some _=>exact fun _=>rfl
    have h5:=bY i e hs;revert h4;cases (S.ms i).1 with
    |none=>exact id
    |some bX=>
     cases bX with
     |aR cs=>exact fun h j1=>(h5 j1 []).trans (h j1)
     |bx cs=>exact id
 ·cases h with
  |ro k dd _ h=>exact .ro _ _ _ (dz ho h)
  |own dd _ h=>
   simp only [C.dn,zo] at h1;refine .own _ _ ?_;cases h<;>first|exact .int _ _ _|exact .bool _ _|exact .str _ _|simp [D.bC] at h1
  |rf=>simp [C.bg] at h2
 ·cases h with
  |ro k dd _ h=>exact .ro _ _ _ (dz ho h)
  |own dd _ h=>exact pH bG hx h
  |rf=>simp [C.bg] at h1
 ·have g9:=hdr bG;subst bG;simp only [Gh.gO];rw [if_neg (fun e=>g9 (by omega))];simp
theorem Nr (R:Rel w0 cl0 S a.tmps w g) {r0:Nat} {cs bw:List C} {xs:List V} {args:Array Value} {us:List (Nat×Nat×C)} {w':World} {g':Gh} {r:V} {v:Value} {lent:Bool}
 (hb:(S.ms r0).1=some (.bx cs)) (h0:args[0]?=some (.pointer (some ⟨g.bk r0,0,none⟩)))
 (aP:((r.bp&&us.all fun u=>u.2.2.bp)||!lent)=true) (dy:r.plain=true) (dm:r.uv=true) (hr:kW w' g' r v)
 (hL:Left w (g.hO (g.bk r0) r0 lent) (.ptr cs::xs) args us w' g') (hu:o8 0 us=some bw) (hlen:bw.length=cs.length) (rj:0<cs.length)
 (hn:((imp d r).2).isSome→(aB S.ms r0 (some (.bx bw),nU r0 cs.length++(S.ms r0).2) d).1=none):
 et w0 cl0 S a.tmps d (imp d r).1 (imp d r).2 (aB S.ms r0 (some (.bx bw),nU r0 cs.length++(S.ms r0).2)) v w':=by
 have pF:(r.bp||!lent)=true:=by
  revert aP;cases r.bp<;>simp
 have iU:∀c∈bw,c.bp=true∨lent=false:=by
  intro c hc;obtain ⟨j,hj⟩:=zz.1 hc;have h1:=((Bk us hu).2 j c hj).1;rcases zi _ _▸aP with h|h
  ·simp only [zd] at h;exact .inl (zb.1 h.2 _ h1)
  ·right;simpa using h
 refine LR pF dy (LH dm) hr (fun cr X h=>Nn R hb h0 hL hu hlen rj (fun hc=>?_) iU) hn;have:=h hc;by_cases e:d=r0
 ·subst e;simp [aB] at this
 ·simpa [aB,e] using this
end
end
section
section
variable {P:Program} {κ:Nat→FuncId} {w0:World} {cl0:dv} {S:St} {w:World} {g:Gh} {a:Act} {Γ:Env} {d:Nat}
def rM (P:Program) (K:Value→World→Prop):Result Next→Prop
 |.ok (.value v) w'=>K v w'
 |.ok .skip w'=>K undef w'
 |.ok (.enter f args) w'=>Calls P f args w' fun e uC=>∃v,e=.returned v∧K v uC
 |_=>False
def oU:Array Value:=#[.int .i64 0,.int .i64 0,.slice none 0 0,.int .i64 0,.int .i64 0,.int .i64 0,.int .i64 0,.int .i64 0,.int .i64 0,.int .i64 0,.string ⟨#[]⟩,.slice none 0 0,.int .i64 0,.slice none 0 0,.slice none 0 0,.int .i64 0,.bool false,.int .i64 0,.int .i64 0,.string ⟨#[]⟩,.int .i64 0,.int .i64 0,.int .i64 0,.int .i64 0,.int .i64 0]
def uF (P:Program) (f:FuncId):Prop:=
 ∀(w:World) (b:Nat) (vals:Array Value) (E:TypeId) (bt ot nt ct k:Nat) (h:Int) (ad:Option Addr) (nd cd:Nat),
  w.heap[b]?=some (.cells vals E)→vals[12]?=some (.slice (some ⟨bt,ot,none⟩) nt ct)→k<nt→w.cell? ⟨bt,ot+k*25+2,none⟩=some (.int .i64 h)→
  vals[13]?=some (.slice ad nd cd)→(0≤h→h<nd→∃bd od,ad=some ⟨bd,od,none⟩)→
  Calls P f #[.pointer (some ⟨b,0,none⟩),.int .i64 k] w fun e w'=>∃v,e=.returned v∧ee w w'∧w.heap.size≤w'.heap.size∧(∀b,b<w.heap.size→w'.heap[b]?=w.heap[b]?)∧
   if 0≤h∧h<nd then v=pb (.slice ad nd cd) (h.toNat*25) else ∃b' E',w.heap.size≤b'∧v=.pointer (some ⟨b',0,none⟩)∧w'.heap[b']?=some (.cells oU E')
structure qx (P:Program) (κ:Nat→FuncId) (Γ:Env):Prop where
 jb:κ=OM.jb
 ok:∀f xs r us,Γ f xs=some (r,us)→OK P (κ f) xs r us
 body:∀f xs y,Γ f xs=some y→uN P (κ f)=true
 TW:∀f,uF P (κ f)∨f≠503
theorem tM (R:Rel w0 cl0 S a.tmps w g) {lent bl:Bool} {ex:Nat→Bool}:∀(as:List AV) (vs:List Value) (xs:List V) (i:Nat),as.length=vs.length→
 (∀(k:Nat) (av:AV) (x:Value),as[k]?=some av→vs[k]?=some x→RA w g S.ms av x)→dP S.ms [] i as=some xs→(ek [] i as=true→lent=true)→(as.any AV.kL=true→bl=true)→(∀av∈as,∀r∈av.refs,ex r=false)→
 xs.length=vs.length∧∀(k:Nat) (x:V) (v:Value),xs[k]?=some x→vs[k]?=some v→jh w (g.c6 lent bl ex) (i+k) x v:=by
 intro as;induction as with
 |nil=>intro vs xs i hl bZ h pD pB hex;simp [dP] at h;subst h;cases vs<;>simp at hl ⊢
 |cons av as ih=>
  intro vs xs i hl bZ h pD pB hex;cases vs with
  |nil=>simp at hl
  |cons v vs=>
   simp only [dP,zD] at h;cases h1:ji S.ms false av with
   |none=>simp [h1] at h
   |some x=>
    simp only [h1] at h;cases h2:dP S.ms [] (i+1) as with
    |none=>simp [h2] at h
    |some Vz=>
     simp only [h2] at h;simp at h;subst h;have nj:av.lent=true→lent=true:=fun hh=>pD (by simp [ek,hh])
     have bV:ek [] (i+1) as=true→lent=true:=fun hh=>pD (by simp [ek,hh])
     have yY:av.kL=true→bl=true:=fun hh=>pB (by simp [hh])
     have qQ:as.any AV.kL=true→bl=true:=fun hh=>pB (by rw [zG,hh,Bool.or_true])
     obtain ⟨q1,q2⟩:=ih vs Vz (i+1) (by simpa using hl) (fun k av x hk hx=>bZ (k+1) av x hk hx) h2 bV qQ (fun av hv=>hex av (zn _ hv));refine ⟨by simp [q1],fun k y z hy hz=>?_⟩;cases k with
     |zero=>simp at hy hz;subst hy;subst hz;exact M8 R (bZ 0 av v rfl rfl) h1 nj yY (hex _ (List.mem_cons_self ..)) i
     |succ k=>
      have:=q2 k y z hy hz;rwa [show i+(k+1)=i+1+k from by omega]
theorem To (R:Rel w0 cl0 S a.tmps w g) {k:Nat} {x:PX} {op:Op} {av:AV} {rt:Option Rt} {m':Ms}
 (hc:aM P κ (.sX k x) op=true) (h:aw Γ S.ev d S.ms (.sX k x)=some (av,rt,m')):fl P S w g a av rt m' op:=by
 cases op with
 |makeFunc fn first captured=>?_
 |_=>simp [aM] at hc
 simp only [aM] at hc;split at hc
 ·rename_i f c cf;simp only [zd,beq_iff_eq] at hc;obtain ⟨⟨Pk,Cp⟩,hx⟩:=hc;simp only [aw] at h;split at h
  ·rename_i r bo;simp at h;obtain ⟨rfl,rfl,rfl⟩:=h;obtain ⟨h1,h2⟩:=bF R hx;rw [bo] at h1 h2;have gZ:captured=#[c]:=by rw [←cf]
   refine ⟨rfl,rfl,fun o ho=>?_⟩;generalize hv:a.eval c=v at h1;cases h1;refine ⟨_,?_,.fv k r,fun q hq=>h2 q (by simpa [AV.refs] using hq)⟩;have yX:first=#[]:=Array.eq_empty_of_size_eq_zero Cp
   subst gZ yX;simp [execOp,ho,Instr.makeFunc,hv,Pk]
  ·cases h
 ·cases hc
theorem Ta (R:Rel w0 cl0 S a.tmps w g) {x:PX} {args:List PX} {op:Op} {av:AV} {rt:Option Rt} {m':Ms} (dS:rt.isSome→(m' d).1=none)
 (ew:qx P κ Γ) (hc:aM P κ (.mf x args) op=true) (h:aw Γ S.ev d S.ms (.mf x args)=some (av,rt,m')) (o:Oper) (ho:o.op=op):
 rM P (fun v w'=>et w0 cl0 S a.tmps d av rt m' v w') ((execOp a.eval o).run P w):=by
 cases op with
 |call c=>?_
 |_=>simp [aM] at hc
 obtain ⟨callee,cv,BZ⟩:=c;obtain ⟨cv⟩:=cv;simp only [aM] at hc;split at hc
 ·rename_i t;simp only [zd] at hc;obtain ⟨hx,nP⟩:=hc;obtain ⟨mq,ll⟩:=yE args cv nP;simp only [aw] at h;split at h
  ·rename_i k f ds bo;split at h
   ·rename_i xs dR;split at h
    ·rename_i r us hg;split at h
     ·rename_i cN;simp only [zd] at cN;obtain ⟨dy,aP⟩:=cN;split at h
      ·simp at h;obtain ⟨rfl,rfl,rfl⟩:=h
       have bZ:∀(k:Nat) (av:AV) (x:Value),(args.map S.ev)[k]?=some av→(cv.map a.eval)[k]?=some x→RA w g S.ms av x:=by
        intro k av x h1 h2;simp only [zj,zh] at h1 h2;obtain ⟨px,h1,rfl⟩:=h1;obtain ⟨ox,h2,rfl⟩:=h2;exact (bF R (ll k px ox h1 h2)).1
       obtain ⟨q1,q2⟩:=tM (lent:=ek [] 0 (args.map S.ev)) (bl:=true) (ex:=fun _=>false) R (args.map S.ev) (cv.map a.eval) xs 0 (by simpa using mq) bZ dR (fun h=>h) (fun _=>rfl) (fun _ _ _ _=>rfl);have lg:=ew.body f _ _ hg;have u5:=ew.ok f _ _ _ hg;rw [ew.jb] at lg u5;have Cr:=(bF R hx).1;rw [bo] at Cr
       have cf:∃rO:List Value,a.eval (.tmp t)=.func (.func (jb f)) #[] rO.toArray∧(qA k ds).length=rO.length∧
        ∀(i:Nat) (y:V) (v:Value),(qA k ds)[i]?=some y→rO[i]?=some v→∀n,jh w (g.c6 (ek [] 0 (args.map S.ev)) true fun _=>false) n y v:=by
        generalize a.eval (.tmp t)=fv at Cr ⊢;cases Cr with
        |v _ _ _ dz=>
         cases dz with
         |fn=>exact ⟨[],rfl,rfl,fun i y v hy=>by simp [qA] at hy⟩
         |uX _ _ b cg bA hs hk=>
          cases ds with
          |nil=>exact absurd rfl cg
          |cons d0 ds=>
           refine ⟨[.pointer (some ⟨b,0,none⟩)],rfl,rfl,fun i y v hy hv n=>?_⟩;cases i with
           |succ i=>simp at hv
           |zero=>
            simp [qA] at hy hv;subst hy;subst hv;have h1:RO w g.cl k (.rp (d0::ds)) (.pointer (some ⟨b,0,none⟩)):=.rp _ b (by simp) bA hs hk;have h2:RO w (g.c6 (ek [] 0 (args.map S.ev)) true fun _=>false).cl k (.rp (d0::ds)) (.pointer (some ⟨b,0,none⟩)):=h1.mono fun b hb=>⟨rfl,Gh.AT hb⟩
            exact ⟨⟨.ro _ _ _ h2,rfl⟩,fun h=>by simp [V.flat,C.dn] at h⟩
       obtain ⟨rO,pB,bA,bG⟩:=cf
       have du:(execOp a.eval o).run P w=.ok (.enter (jb f) (cv.map a.eval++rO).toArray) w:=by
        unfold uN at lg;split at lg
        ·rename_i fn sf;simp only [zd,bne_iff_ne,ne_eq] at lg;have qN:fn.body.isNone=false:=by cases hb:fn.body<;>simp_all
         have jY:(fn.name== "runtime.NumGoroutine")=false:=by simpa using lg.2
         simp only [execOp,ho,resolve,pB,Deferred.ofValue,pure_bind,invoke,callFunc,Sem.run_bind,run_program,Result.andThen_ok,List.map_toArray,Array.empty_append,List.append_toArray,sf];simp [jY,qN]
        ·cases lg
       rw [du]
       have:=u5 w (cv.map a.eval++rO).toArray (g.c6 (ek [] 0 (args.map S.ev)) true fun _=>false) (by simp only [List.size_toArray,List.length_append];omega)
        (fun b hb=>R.bd b (fun e=>hb (Gh.AW e))) (fun i y v hy hv=>by
          have hv:(cv.map a.eval++rO)[i]?=some v:=by simpa using hv
          by_cases hi:i<xs.length
          ·rw [zy hi] at hy;rw [zy (by omega)] at hv;have:=q2 i y v hy hv;rwa [zf] at this
          ·rw [List.getElem?_append_right (by omega)] at hy hv;rw [q1] at hy
           exact bG _ y v hy hv i)
       refine this.mono (fun e w' he=>?_);obtain ⟨v,g',rfl,hr,hL⟩:=he;exact ⟨v,rfl,BR R dy aP hr hL dS⟩
      ·cases h
     ·cases h
    ·cases h
   ·cases h
  ·cases h
 ·cases hc
theorem S8 (R:Rel w0 cl0 S a.tmps w g) {f:Nat} {io:List Nat} {args:List PX} {op:Op} {av:AV} {rt:Option Rt} {m':Ms} (dS:rt.isSome→(m' d).1=none)
 (ew:qx P κ Γ)
 (hc:aM P κ (.call f io args) op=true) (h:aw Γ S.ev d S.ms (.call f io args)=some (av,rt,m')) (o:Oper) (ho:o.op=op):
 rM P (fun v w'=>et w0 cl0 S a.tmps d av rt m' v w') ((execOp a.eval o).run P w):=by
 cases op with
 |call c=>?_
 |_=>simp [aM] at hc
 obtain ⟨callee,cv,BZ⟩:=c;obtain ⟨cv⟩:=cv;simp only [aM] at hc;split at hc
 ·rename_i f';simp only [zd,beq_iff_eq] at hc;obtain ⟨⟨hk,nP⟩,iu⟩:=hc;subst hk;split at iu
  ·rename_i fn sf;simp only [zd,bne_iff_ne,ne_eq] at iu;obtain ⟨lg,vp⟩:=iu
   have du:(execOp a.eval o).run P w=.ok (.enter (κ f) (cv.map a.eval).toArray) w:=by
    have qN:fn.body.isNone=false:=by cases hb:fn.body<;>simp_all
    have jY:(fn.name== "runtime.NumGoroutine")=false:=by simpa using vp
    simp only [execOp,ho,resolve,Act.eval,Deferred.ofValue,pure_bind,invoke,callFunc,Sem.run_bind,run_program,Result.andThen_ok,sf];simp [jY,qN]
   rw [du];obtain ⟨mq,ll⟩:=yE args cv nP;simp only [aw] at h;split at h
   ·split at h
    ·rename_i xs dR;split at h
     ·rename_i r us hg;split at h
      ·rename_i cN;simp only [zd] at cN;obtain ⟨dy,aP⟩:=cN;split at h
       ·simp at h;obtain ⟨rfl,rfl,rfl⟩:=h
        have bZ:∀(k:Nat) (av:AV) (x:Value),(args.map S.ev)[k]?=some av→(cv.map a.eval)[k]?=some x→RA w g S.ms av x:=by
         intro k av x h1 h2;simp only [zj,zh] at h1 h2;obtain ⟨px,h1,rfl⟩:=h1;obtain ⟨ox,h2,rfl⟩:=h2;exact (bF R (ll k px ox h1 h2)).1
        obtain ⟨q1,q2⟩:=tM (lent:=ek [] 0 (args.map S.ev)) (bl:=true) (ex:=fun _=>false) R (args.map S.ev) (cv.map a.eval) xs 0 (by simpa using mq) bZ dR (fun h=>h) (fun _=>rfl) (fun _ _ _ _=>rfl)
        have:=ew.ok f xs r [] hg w (cv.map a.eval).toArray (g.c6 (ek [] 0 (args.map S.ev)) true fun _=>false) (by simpa using q1.symm)
         (fun b hb=>R.bd b (fun e=>hb (Gh.AW e))) (fun i x v hx hv=>by
           have:=q2 i x v hx (by simpa using hv)
           rwa [zf] at this)
        refine this.mono (fun e w' he=>?_);obtain ⟨v,g',rfl,hr,hL⟩:=he;exact ⟨v,rfl,BR R dy aP hr hL dS⟩
       ·cases h
      ·cases h
     ·cases h
    ·cases h
   ·split at h
    ·cases h
    ·rename_i a0 rest ub;split at h
     ·rename_i r0 cs0 jt;split at h
      ·rename_i xs dR
       have CR:rest.any AV.kL=false:=by
        cases hh:rest.any AV.kL with
        |false=>rfl
        |true=>rw [hh] at dR;simp at dR
       rw [CR] at dR;simp only [zm,if_false] at dR;split at h
       ·rename_i r us hg;split at h
        ·rename_i cN;simp only [zd] at cN;split at h
         ·rename_i bw AN;split at h
          ·rename_i hlen;split at h
           ·rename_i mb mj;simp at h;obtain ⟨rfl,rfl,rfl⟩:=h;cases args with
            |nil=>simp at ub
            |cons px args=>
             simp only [zH,zF] at ub;obtain ⟨rfl,rfl⟩:=ub;cases cv with
             |nil=>simp at mq
             |cons o0 cv=>
              have fI:bJ px o0=true:=ll 0 px o0 rfl rfl;have Cs:∀(k:Nat) (x:PX) (o:Operand),args[k]?=some x→cv[k]?=some o→bJ x o=true:=fun k x o h1 h2=>ll (k+1) x o h1 h2
              have y_:args.length=cv.length:=by simpa using mq
              obtain ⟨bo,hb,dz⟩:=TP jt;have bP:=R.rt r0 _ hb
              have aQ:a.eval o0=.pointer (some ⟨g.bk r0,0,none⟩):=by
               have h1:=(bF R fI).1;rw [bo] at h1;generalize a.eval o0=y at h1 ⊢;cases h1;rfl
              have bZ:∀(k:Nat) (av:AV) (x:Value),(args.map S.ev)[k]?=some av→(cv.map a.eval)[k]?=some x→RA w g S.ms av x:=by
               intro k av x h1 h2;simp only [zj,zh] at h1 h2;obtain ⟨px,h1,rfl⟩:=h1;obtain ⟨ox,h2,rfl⟩:=h2;exact (bF R (Cs k px ox h1 h2)).1
              have QQ:g.bk r0<w.heap.size:=R.bd _ (by rw [bP.1];simp);unfold tO at mj;split at mj
              ·rename_i KD;simp only [zd] at KD;obtain ⟨dz,v_⟩:=KD;simp at mj;subst mj;obtain ⟨q1,q2⟩:=tM (lent:=ek [] 1 (args.map S.ev)) (bl:=false) (ex:=fun _=>false) R (args.map S.ev) (cv.map a.eval) xs 1 (by simpa using y_) bZ dR (fun h=>h) (fun h=>by rw [CR] at h;cases h) (fun _ _ _ _=>rfl)
               have hK:∀b k,(g.c6 (ek [] 1 (args.map S.ev)) false fun _=>false).cl b=kc k→(g.kp (g.bk r0) (ek [] 1 (args.map S.ev))).cl b=kc k:=fun b k hb=>by
                simp only [Gh.kp];rw [if_neg (fun e=>?_)]
                ·exact hb
                ·subst e;simp only [Gh.c6,bP.1,Bool.and_false,Bool.false_and,zm,if_false] at hb;cases k<;>simp [kc] at hb
               have:=ew.ok f (.ptr cs0::xs) r us hg w (((o0::cv).map a.eval).toArray) (g.kp (g.bk r0) (ek [] 1 (args.map S.ev))) (by simpa using q1.symm)
                (fun b hb=>by
                  by_cases e:b=g.bk r0
                  ·rw [e];exact QQ
                  ·exact R.bd b (fun e2=>hb (by simp [Gh.kp,Gh.c6,e,e2]))) (fun i x v hx hv=>by
                  cases i with
                  |zero=>
                   simp at hx hv;subst hx;subst hv;rw [aQ];exact Ni bP dz
                  |succ i=>
                   have fh:xs[i]?=some x:=by simpa using hx
                   have h1:=q2 i x v fh (by simpa using hv);rw [zC 1 i] at h1;obtain ⟨b,hb⟩:=yy _ _ _ dR i x fh
                   exact h1.sV hK (yw hb) (yx hb))
               refine this.mono (fun e w' he=>?_);obtain ⟨v,g',rfl,hr,hL⟩:=he;exact ⟨v,rfl,No R hb (by simp [aQ]) cN.2 cN.1.1 cN.1.2 hr hL AN v_ hlen.1 hlen.2 dS⟩
              ·split at mj
               ·rename_i vZ;simp at mj;subst mj
                have hex:∀av∈args.map S.ev,∀r∈av.refs,(fun r=>r==r0) r=false:=fun av c4 r hr=>by
                 have h1:=zb.1 vZ av c4;simp only [Bool.not_eq_true',List.contains_eq_mem,decide_eq_false_iff_not] at h1;simp only [beq_eq_false_iff_ne,ne_eq];exact fun e=>h1 (e▸hr)
                obtain ⟨q1,q2⟩:=tM (lent:=ek [] 1 (args.map S.ev)) (bl:=false) (ex:=fun r=>r==r0) R (args.map S.ev) (cv.map a.eval) xs 1 (by simpa using y_) bZ dR (fun h=>h) (fun h=>by rw [CR] at h;cases h) hex;have hK:∀b k,(g.c6 (ek [] 1 (args.map S.ev)) false fun r=>r==r0).cl b=kc k→(g.hO (g.bk r0) r0 (ek [] 1 (args.map S.ev))).cl b=kc k:=fun b k hb=>Gh.Ly bP.1 hb
                have:=ew.ok f (.ptr cs0::xs) r us hg w (((o0::cv).map a.eval).toArray) (g.hO (g.bk r0) r0 (ek [] 1 (args.map S.ev))) (by simpa using q1.symm)
                 (fun b hb=>R.bd b (fun e=>hb (Gh.Su bP.1 e))) (fun i x v hx hv=>by
                 cases i with
                 |zero=>
                  simp at hx hv;subst hx;subst hv;rw [aQ];exact Nj bP dz
                 |succ i=>
                  have fh:xs[i]?=some x:=by simpa using hx
                  have h1:=q2 i x v fh (by simpa using hv);rw [zC 1 i] at h1;obtain ⟨b,hb⟩:=yy _ _ _ dR i x fh
                  exact h1.sV hK (yw hb) (yx hb))
                refine this.mono (fun e w' he=>?_);obtain ⟨v,g',rfl,hr,hL⟩:=he;exact ⟨v,rfl,Nr R hb (by simp [aQ]) cN.2 cN.1.1 cN.1.2 hr hL AN hlen.1 hlen.2 dS⟩
               ·cases mj
           ·cases h
          ·cases h
         ·cases h
        ·cases h
       ·cases h
      ·cases h
     rename_i aa1;split at h
     ·rename_i x0 m1 uj;split at h
      ·rename_i xs dR
       ·split at h
        ·rename_i r us hg;split at h
         ·rename_i dy;simp only [zd] at dy;obtain ⟨dy,Q2⟩:=dy;split at h
          ·rename_i m2 hu;simp at h;obtain ⟨rfl,rfl,rfl⟩:=h;cases args with
           |nil=>simp at ub
           |cons px args=>
            simp only [zH,zF] at ub;obtain ⟨rfl,rfl⟩:=ub;cases cv with
            |nil=>simp at mq
            |cons o0 cv=>
             have fI:bJ px o0=true:=ll 0 px o0 rfl rfl;have Cs:∀(k:Nat) (x:PX) (o:Operand),args[k]?=some x→cv[k]?=some o→bJ x o=true:=fun k x o h1 h2=>ll (k+1) x o h1 h2
             have y_:args.length=cv.length:=by simpa using mq
             obtain ⟨C5,fg,K9⟩:=LN uj;obtain ⟨g1,R1,T1,aQ⟩:=A8 R (bF R fI).1 uj 0;have C':∀{w:World} {g:Gh},Rel w0 cl0 { S with ms:=m1 } a.tmps w g→RA w g m1 (S.ev px) (a.eval o0):=fun R2=>(bF R2 fI).1
             have bZ:∀(k:Nat) (av:AV) (x:Value),(args.map S.ev)[k]?=some av→(cv.map a.eval)[k]?=some x→RA w g1 m1 av x:=by
              intro k av x h1 h2;simp only [zj,zh] at h1 h2;obtain ⟨px,h1,rfl⟩:=h1;obtain ⟨ox,h2,rfl⟩:=h2;exact (bF R1 (Cs k px ox h1 h2)).1
             obtain ⟨q1,q2⟩:=tM (lent:=ek [] 1 (args.map S.ev)) (bl:=true) (ex:=fun _=>false) R1 (args.map S.ev) (cv.map a.eval) xs 1 (by simpa using y_) bZ dR (fun h=>h) (fun _=>rfl) (fun _ _ _ _=>rfl);have hX:∀(j:Nat) (y:Value),(a.eval o0).cells[j]?=some y→(fun j:Nat=>((a.eval o0).cells[j]?).getD undef) j=y:=fun j y hy=>by simp [hy]
             have hA:=Pf (X:=fun j:Nat=>((a.eval o0).cells[j]?).getD undef) (lent:=ek [] 1 (args.map S.ev)) C5 hX aQ;have hK:∀b k,(g1.c6 (ek [] 1 (args.map S.ev)) true fun _=>false).cl b=kc k→(g1.gi (fun j:Nat=>((a.eval o0).cells[j]?).getD undef) (ek [] 1 (args.map S.ev))).cl b=kc k:=fun b k hb=>Gh.Oa hb
             have:=ew.ok f (x0::xs) r us hg w (((o0::cv).map a.eval).toArray) (g1.gi (fun j:Nat=>((a.eval o0).cells[j]?).getD undef) (ek [] 1 (args.map S.ev))) (by simpa using q1.symm)
              (fun b hb=>R1.bd b (fun e=>hb (Gh.Ob e))) (fun i x v hx hv=>by
                cases i with
                |zero=>
                 simp at hx hv;subst hx;subst hv;exact hA
                |succ i=>
                 have fh:xs[i]?=some x:=by simpa using hx
                 have h1:=q2 i x v fh (by simpa using hv);rw [zC 1 i] at h1;obtain ⟨b,hb⟩:=yy _ _ _ dR i x fh
                 exact h1.sV hK (yw hb) (yx hb))
             refine this.mono (fun e w' he=>?_);obtain ⟨v,g',rfl,hr,hL⟩:=he;refine ⟨v,rfl,Np R1 Q2 C' (fun hn=>?_) fg (by simp) dy hr hL hu dS⟩;cases x0 with
             |one c=>exact aQ.2
             |st cs=>
              exfalso;have h2:=uj;unfold gS at h2;split at h2
              ·rename_i kI h3;exact hn _ h3
              ·split at h2<;>simp at h2
             |ptr cs=>exact absurd rfl (fg cs)
             |bu=>exact absurd rfl (K9 _)
          ·cases h
         ·cases h
        ·cases h
      ·cases h
     ·cases h
  ·cases iu
 ·cases hc
theorem S9 (R:Rel w0 cl0 S a.tmps w g) {f i:Nat} {args:List PX} {op:Op} {av:AV} {rt:Option Rt} {m':Ms} (dS:rt.isSome→(m' d).1=none)
 (ew:qx P κ Γ) (hc:aM P κ (.jO f i args) op=true) (h:aw Γ S.ev d S.ms (.jO f i args)=some (av,rt,m')) (o:Oper) (ho:o.op=op):
 rM P (fun v w'=>et w0 cl0 S a.tmps d av rt m' v w') ((execOp a.eval o).run P w):=by
 cases op with
 |call c=>?_
 |_=>simp [aM] at hc
 obtain ⟨callee,cv,BZ⟩:=c;obtain ⟨cv⟩:=cv;simp only [aM] at hc;split at hc
 ·rename_i f';simp only [zd,beq_iff_eq,decide_eq_true_eq] at hc;obtain ⟨⟨⟨hk,nP⟩,y6⟩,iu⟩:=hc;subst hk;split at iu
  ·rename_i fn sf;simp only [zd,bne_iff_ne,ne_eq] at iu;obtain ⟨lg,vp⟩:=iu
   have du:(execOp a.eval o).run P w=.ok (.enter (κ f) (cv.map a.eval).toArray) w:=by
    have qN:fn.body.isNone=false:=by cases hb:fn.body<;>simp_all
    have jY:(fn.name== "runtime.NumGoroutine")=false:=by simpa using vp
    simp only [execOp,ho,resolve,Act.eval,Deferred.ofValue,pure_bind,invoke,callFunc,Sem.run_bind,run_program,Result.andThen_ok,sf];simp [jY,qN]
   rw [du];obtain ⟨mq,ll⟩:=yE args cv nP;simp only [aw] at h;split at h
   ·rename_i a0 la;split at h
    ·rename_i x0 m1 uj;split at h
     ·rename_i xs dR;split at h
      ·rename_i r us hg;split at h
       ·rename_i cN;simp only [zd] at cN;obtain ⟨dy,aP⟩:=cN;simp at h;obtain ⟨rfl,rfl,rfl⟩:=h;simp only [zj,zh] at la;obtain ⟨px,Rb,rfl⟩:=la;have oY:i<cv.length:=by omega
        obtain ⟨o0,K5⟩:∃o0,cv[i]?=some o0:=⟨_,List.getElem?_eq_getElem oY⟩;have fI:bJ px o0=true:=ll i px o0 Rb K5;obtain ⟨C5,fg,K9⟩:=LN uj;obtain ⟨g1,R1,T1,aQ⟩:=A8 R (bF R fI).1 uj 0;generalize pD:ek [] 0 ((args.map S.ev).set i (.v false (.bool true)))=lent at aP
        have bZ:∀(k:Nat) (av:AV) (x:Value),((args.map S.ev).set i (.v false (.bool true)))[k]?=some av→((cv.map a.eval).set i (.bool true))[k]?=some x→RA w g1 m1 av x:=by
         intro k av x h1 h2;by_cases e:i=k
         ·subst e;rw [zr (by simpa using y6)] at h1;rw [zr (by simpa using oY)] at h2;cases h1;cases h2;exact .v _ _ _ (.bool _)
         ·rw [zu e] at h1 h2;simp only [zj,zh] at h1 h2;obtain ⟨px,h1,rfl⟩:=h1;obtain ⟨ox,h2,rfl⟩:=h2;exact (bF R1 (ll k px ox h1 h2)).1
        obtain ⟨q1,q2⟩:=tM (lent:=lent) (bl:=true) (ex:=fun _=>false) R1 ((args.map S.ev).set i (.v false (.bool true))) ((cv.map a.eval).set i (.bool true)) xs 0 (by simpa using mq) bZ dR (fun h=>pD▸h) (fun _=>rfl) (fun _ _ _ _=>rfl);have hX:∀(j:Nat) (y:Value),(a.eval o0).cells[j]?=some y→(fun j:Nat=>((a.eval o0).cells[j]?).getD undef) j=y:=fun j y hy=>by simp [hy]
        have hA:=Pg (I:=i) (X:=fun j:Nat=>((a.eval o0).cells[j]?).getD undef) (lent:=lent) C5 hX aQ;have hK:∀b k,(g1.c6 lent true fun _=>false).cl b=kc k→(g1.gm i (fun j:Nat=>((a.eval o0).cells[j]?).getD undef) lent).cl b=kc k:=fun b k hb=>Gh.Og hb
        have fa:xs.length=cv.length:=by simpa using q1
        have:=ew.ok f (xs.set i x0) r us hg w (cv.map a.eval).toArray (g1.gm i (fun j:Nat=>((a.eval o0).cells[j]?).getD undef) lent) (by simpa using fa.symm)
         (fun b hb=>R1.bd b (fun e=>hb (Gh.Oh e))) (fun k x v hx hv=>by
           by_cases e:i=k
           ·subst e;rw [zr (by omega)] at hx;cases hx;simp [K5] at hv;subst hv;exact hA
           ·rw [zu e] at hx;have h1:=q2 k x v hx (by rw [zu e];simpa using hv);rw [zf] at h1;obtain ⟨b,hb⟩:=yy _ _ _ dR k x hx
            exact h1.sV hK (yw hb) (yx hb))
        refine this.mono (fun e w' he=>?_);obtain ⟨v,g',rfl,hr,hL⟩:=he;exact ⟨v,rfl,Nq R1 aP dy hr hL dS⟩
       ·cases h
      ·cases h
     ·cases h
    ·cases h
   ·cases h
  ·cases iu
 ·cases hc
theorem fJ (R:Rel w0 cl0 S a.tmps w g) {av:AV} {rt:Option Rt} {m':Ms} {op:Op} {o:Oper} (ho:o.op=op) (h:fl P S w g a av rt m' op):
 rM P (fun v w'=>et w0 cl0 S a.tmps d av rt m' v w') ((execOp a.eval o).run P w):=by
 obtain ⟨rfl,rfl,h⟩:=h;obtain ⟨v,h1,h2,h3⟩:=h o ho;rw [h1];exact ⟨g,R,h2,h3⟩
theorem Nx {w:World} {g:Gh} {r j:Nat}:qC w g r j [] []:=⟨rfl,fun i c x h=>by simp at h⟩
theorem Nw {w:World} {g:Gh} {r j:Nat} {c:C} {v:Value} {cs:List C} {vs:List Value} (h:RC w g r j c v) (h':qC w g r (j+1) cs vs):qC w g r j (c::cs) (v::vs):=by
 refine ⟨by simp [h'.1],fun i c1 x h1 h2=>?_⟩;cases i with
 |zero=>simp at h1 h2;subst h1;subst h2;exact h
 |succ i=>rw [show j+(i+1)=j+1+i by omega];exact h'.2 i c1 x (by simpa using h1) (by simpa using h2)
theorem LO {r j sz:Nat} {es:List (List D)} {v:Value} (h:OW w g r j [] (.sl sz es) v):
 ∃ad cap,v=.slice ad es.length cap∧g.hd r j []=v∧(es≠[]→∃b off vals E,ad=some ⟨b,off,none⟩∧w.heap[b]?=some (.cells vals E)∧es.length≤cap∧off+cap*sz≤vals.size∧(∀e∈es,e.length=sz)∧
  ∀i c e d x,es[i]?=some e→e[c]?=some d→vals[off+i*sz+c]?=some x→OW w g r j ([]++[(i,c)]) d x):=by
 cases h with
 |nil _ _ h=>exact ⟨none,0,rfl,h,fun h=>absurd rfl h⟩
 |sl _ _ _ b off cap vals E h1 h2 h3 h4 h5 h6 h7=>exact ⟨_,cap,rfl,h1,fun _=>⟨b,off,vals,E,rfl,h5,h4,h6,h3,h7⟩⟩
theorem S_ (R:Rel w0 cl0 S a.tmps w g) {f:Nat} {x y:PX} {op:Op} {av:AV} {rt:Option Rt} {m':Ms} (dS:rt.isSome→(m' d).1=none)
 (ew:qx P κ Γ) (hc:aM P κ (.kZ f x y) op=true) (h:aw Γ S.ev d S.ms (.kZ f x y)=some (av,rt,m')) (o:Oper) (ho:o.op=op):
 rM P (fun v w'=>et w0 cl0 S a.tmps d av rt m' v w') ((execOp a.eval o).run P w):=by
 cases op with
 |call c=>?_
 |_=>simp [aM] at hc
 obtain ⟨callee,cv,BZ⟩:=c;obtain ⟨cv⟩:=cv;simp only [aM] at hc;split at hc
 ·rename_i f';simp only [zd,beq_iff_eq,decide_eq_true_eq] at hc;obtain ⟨⟨⟨hk,Ox⟩,nP⟩,iu⟩:=hc;subst hk;split at iu
  ·rename_i fn sf;simp only [zd,bne_iff_ne,ne_eq] at iu;obtain ⟨lg,vp⟩:=iu
   have du:(execOp a.eval o).run P w=.ok (.enter (κ f) (cv.map a.eval).toArray) w:=by
    have qN:fn.body.isNone=false:=by cases hb:fn.body<;>simp_all
    have jY:(fn.name== "runtime.NumGoroutine")=false:=by simpa using vp
    simp only [execOp,ho,resolve,Act.eval,Deferred.ofValue,pure_bind,invoke,callFunc,Sem.run_bind,run_program,Result.andThen_ok,sf];simp [jY,qN]
   rw [du];obtain ⟨mq,ll⟩:=yE _ cv nP
   match cv,mq with
   |[ox,oy],_=>
   have fI:=(bF R (ll 0 x ox rfl rfl)).1;have nQ:=(bF R (ll 1 y oy rfl rfl)).1;have Rd:uF P (κ f):=(ew.TW f).resolve_right (fun h=>h Ox);simp only [aw] at h;split at h
   ·rename_i r hx;split at h
    ·rename_i cs0 hm;split at h
     ·rename_i kk k hy;split at h
      ·rename_i es r8;split at h
       ·rename_i ds uZ;split at h
        ·rename_i e he;split at h
         ·rename_i h0 h2;rw [hx] at fI;rw [hy] at nQ
          have Rq:a.eval ox=.pointer (some ⟨g.bk r,0,none⟩):=by
           generalize a.eval ox=v at fI;cases fI;rfl
          have sN:a.eval oy=.int .i64 k:=by
           generalize a.eval oy=v at nQ;cases nQ with
           |v _ _ _ h=>cases h;rfl
          obtain ⟨bA,vals,E,hw,dg,dF⟩:=R.rt r _ hm;obtain ⟨aay,abk,d12,tV,tP,Kg⟩:=fo r8;obtain ⟨aaz,abl,d13,tW,tQ,Kh⟩:=fo uZ;rw [hm] at tV tW;simp only [ze] at tV tW;subst tV;subst tW;simp only [D.ff,ze] at Kg Kh;subst Kg;subst Kh;have Sf:=bj tP;have Sh:=bj tQ;simp only [Rt.cells] at tP tQ Sf Sh;obtain ⟨je,gw⟩:∃v,vals[12]?=some v:=⟨_,zk (by omega)⟩;obtain ⟨jf,gx⟩:∃v,vals[13]?=some v:=⟨_,zk (by omega)⟩
          have SY:OW w g (r+1) 12 [] (.sl 25 es) je:=by
           cases dF 12 _ _ tP gw;assumption
          have SZ:OW w g (r+1) 13 [] (.sl 25 ds) jf:=by
           cases dF 13 _ _ tQ gx;assumption
          obtain ⟨WC,Jl,rfl,aal,QZ⟩:=LO SY;obtain ⟨M3,Nt,rfl,Pa,K6⟩:=LO SZ
          have sg:0≤k∧es[k.toNat]?=some e:=by
           split at he
           ·exact ⟨by assumption,he⟩
           ·cases he
          obtain ⟨sg,he⟩:=sg;have eg:=bj he;obtain ⟨b,off,dV,E',rfl,hb,cf,hle,jo,gF⟩:=QZ (fun e0=>by subst e0;simp at eg)
          have jT:w.cell? ⟨b,off+k.toNat*25+2,none⟩=some (.int .i64 h0):=by
           have h3:off+k.toNat*25+2<dV.size:=by
            have:(k.toNat+1)*25≤Jl*25:=Nat.mul_le_mul_right 25 (by omega);omega
           have h4:=gF k.toNat 2 e _ _ he h2 (zk h3);rw [jP hb,zk h3];generalize dV[off+k.toNat*25+2]=q at h4;cases h4;rfl
          have u5:=Rd w (g.bk r) vals E b off es.length Jl k.toNat h0 M3 ds.length Nt hw gw eg jT gx (fun q1 q2=>by
           obtain ⟨b2,o2,_,_,q3,_⟩:=K6 (fun e0=>by subst e0;simp at q2;omega)
           exact ⟨b2,o2,q3⟩)
          rw [Int.toNat_of_nonneg sg] at u5;have dR:([ox,oy].map a.eval).toArray=#[.pointer (some ⟨g.bk r,0,none⟩),.int .i64 k]:=by simp [Rq,sN]
          rw [dR];refine u5.mono (fun e w' he=>?_);obtain ⟨v,rfl,mu,Lm,hold,rk⟩:=he;refine ⟨v,rfl,?_⟩;split at h
          ·rename_i cN;simp at h;obtain ⟨rfl,rfl,rfl⟩:=h;rw [if_pos cN] at rk;subst rk;obtain ⟨b2,o2,_,_,rfl,_⟩:=K6 (fun e0=>by subst e0;simp at cN;omega)
           have R2:Rel w0 cl0 S a.tmps w' { cl:=fun b=>if b<w.heap.size then g.cl b else .no,hd:=g.hd,bk:=g.bk }:=
            R.grow hold Lm mu (fun b hb=>by simp [hb]) (fun b hb=>by simp [show ¬b<w.heap.size from by omega]) rfl rfl
           refine ⟨_,R2,?_,fun q hq=>?_⟩
           ·exact .ad r 13 [] 25 h0.toNat 0 b2 _ (fun _=>by
             show _=pb (g.hd (r+1) 13 []) _
             rw [Pa];rfl)
           ·simp [AV.refs] at hq;subst hq;simp [hm]
          ·rename_i cN;simp at h;obtain ⟨rfl,rfl,rfl⟩:=h;rw [if_neg cN] at rk;obtain ⟨b',E2,pw,rfl,gu⟩:=rk
           have KJ:b'<w'.heap.size:=by
            rcases zB b' w'.heap.size with h|h
            ·exact h
            ·rw [zq h] at gu;cases gu
           have Pp:∀b,¬b<w.heap.size→(g.c6 false false fun _=>false).cl b=.no:=fun b hb=>Gh.AW (by
            by_cases h:g.cl b=.no
            ·exact h
            ·exact absurd (R.bd b h) hb)
           refine BR (r:=.ptr mU) (lent:=false) (bl:=false) (ex:=fun _=>false) (xs:=[]) (args:=#[])
            (g':={ cl:=fun b=>if b<w.heap.size then (g.c6 false false fun _=>false).cl b else if b=b' then .box 0 else .no,hd:=fun _ _ _=>.slice none 0 0,bk:=g.bk }) R rfl rfl ⟨0,b',oU,E2,rfl,?_,gu,?_⟩ ?_ dS
           ·simp [show ¬b'<w.heap.size by omega]
           ·unfold mU oU
            repeat' first
             |exact Nx
             |refine Nw ?_ ?_
            all_goals first|exact .ro _ _ _ (.int _ _)|exact .ro _ _ _ (.str _)|exact .ro _ _ _ (.bool _)|exact .own _ _ (.nil _ _ rfl)
           ·refine { sd:=mu,sz:=Lm,fr:=fun b hb _=>hold b hb,im:=fun b k=>?_,bd:=fun b h=>?_,mi:=fun b hb h=>?_,up:=fun i j c h=>by simp at h }
            ·by_cases hb:b<w.heap.size
             ·simp [hb]
             ·rw [Pp b hb];simp only [if_neg hb];split<;>cases k<;>simp [kc]
            ·by_cases hb:b<w.heap.size
             ·omega
             ·simp only [if_neg hb] at h;split at h
              ·omega
              ·exact absurd rfl h
            ·simpa [hb] using h
         ·cases h
        ·cases h
       ·cases h
      ·cases h
     ·cases h
    ·cases h
   ·cases h
  ·cases iu
 ·cases hc
theorem rC {av:AV} {rt:Option Rt} {m':Ms} {o:Oper} (h:∃v w',(execOp a.eval o).run P w=.ok (.value v) w'∧et w0 cl0 S a.tmps d av rt m' v w'):
 rM P (fun v w'=>et w0 cl0 S a.tmps d av rt m' v w') ((execOp a.eval o).run P w):=by
 obtain ⟨v,w',h1,h2⟩:=h;rw [h1];exact h2
theorem M6 {sz dD:Nat} {x y:PX} {av:AV} {rt:Option Rt} {m':Ms} (h:aw Γ S.ev d S.ms (.mP sz dD x y)=some (av,rt,m')):aw Γ S.ev d S.ms (.app sz dD x y)=some (av,rt,m'):=by
 simp only [aw] at h ⊢;split at h
 ·rename_i s1 ys he;split at h
  ·rename_i hf;simp only [he,hf,if_true];exact h
  ·cases h
 ·cases h
theorem Tv (R:Rel w0 cl0 S a.tmps w g) {pop:aD} {op:Op} {av:AV} {rt:Option Rt} {m':Ms} (dS:rt.isSome→(m' d).1=none)
 (ew:qx P κ Γ)
 (hc:aM P κ pop op=true) (h:aw Γ S.ev d S.ms pop=some (av,rt,m')) (o:Oper) (ho:o.op=op):
 rM P (fun v w'=>et w0 cl0 S a.tmps d av rt m' v w') ((execOp a.eval o).run P w):=by
 cases pop with
 |mv x=>exact fJ R ho (Tr R hc h)
 |pick c x y=>exact fJ R ho (Tw R hc h)
 |bin b x y=>exact fJ R ho (S4 R hc h)
 |eqs n ks x y=>exact fJ R ho (Tf R hc h)
 |kK n x y=>exact fJ R ho (Te R hc h)
 |un u x=>exact fJ R ho (TC R hc h)
 |len x=>exact fJ R ho (Tm R hc h)
 |lens x=>exact fJ R ho (Tn R hc h)
 |box n x=>
  have hh:rt.isSome∧m'=S.ms:=by
   simp only [aw] at h;split at h
   ·split at h
    ·simp at h;exact ⟨by rw [←h.2.1];rfl,h.2.2.symm⟩
    ·cases h
   ·cases h
  obtain ⟨bP,hm⟩:=hh;exact rC (S5 R (by rw [←hm];exact dS bP) hc h o ho)
 |alloc zs=>
  have bP:rt.isSome:=by simp only [aw] at h;split at h<;>simp at h;rw [←h.2.1];rfl
  have hm:m'=S.ms:=by simp only [aw] at h;split at h<;>simp at h;exact h.2.2.symm
  exact rC (S0 R (by rw [←hm];exact dS bP) hc h o ho)
 |build z ps=>exact fJ R ho (S7 R hc h)
 |cu sz z n ps=>
  have bP:rt.isSome:=by simp only [aw] at h;split at h<;>simp at h;rw [←h.2.1];rfl
  exact rC (S6 R (dS bP) hc h o ho)
 |gR sz dD z x=>
  have hh:rt.isSome∧m'=S.ms:=by
   simp only [aw] at h;split at h
   ·split at h
    ·simp at h;exact ⟨by rw [←h.2.1];rfl,h.2.2.symm⟩
    ·cases h
   ·cases h
  obtain ⟨bP,hm⟩:=hh;exact rC (Tp R (by rw [←hm];exact dS bP) hc h o ho)
 |ld ag n x=>exact fJ R ho (Tl R hc h)
 |st n x y=>
  obtain ⟨rfl,w',g',h1,h2⟩:=TA R hc h o ho
  have c4:av=.un:=by
   simp only [aw] at h;split at h
   ·split at h
    ·split at h
     ·simp at h;exact h.1.symm
     ·cases h
    ·cases h
   ·cases h
  subst c4;rw [h1];exact ⟨g',h2,.un _,fun r hr=>by simp [AV.refs] at hr⟩
 |qp n x y=>
  obtain ⟨rfl,w',g',h1,h2⟩:=TB R hc h o ho
  have c4:av=.un:=by
   simp only [aw] at h;split at h
   ·split at h
    ·split at h
     ·simp at h;exact h.1.symm
     ·cases h
    ·cases h
   ·cases h
  subst c4;rw [h1];exact ⟨g',h2,.un _,fun r hr=>by simp [AV.refs] at hr⟩
 |r7 x k=>exact fJ R ho (Ti R hc h)
 |oj x=>exact fJ R ho (Tu R hc h)
 |iq x off=>exact fJ R ho (Th R hc h)
 |mz sz x i=>exact fJ R ho (Tj R hc h)
 |rA sz x lo hi=>exact fJ R ho (Tx R hc h)
 |tm x lo hi=>exact fJ R ho (Tz R hc h)
 |ext x k=>exact fJ R ho (Tg R hc h)
 |call f io args=>exact S8 R dS ew hc h o ho
 |app sz dD x y=>
  have bP:rt.isSome:=by
   simp only [aw] at h;split at h
   ·split at h
    ·split at h
     ·simp at h;rw [←h.2.1];rfl
     ·cases h
    ·cases h
   ·cases h
  exact rC (LJ R (dS bP) hc h o ho)
 |apps x y=>
  have bP:rt.isSome:=by
   simp only [aw] at h;split at h
   ·split at h
    ·split at h
     ·simp at h;rw [←h.2.1];rfl
     ·cases h
    ·cases h
   ·cases h
  exact rC (S3 R (dS bP) hc h o ho)
 |mP sz dD x y=>
  have h:=M6 h;have hc:aM P κ (.app sz dD x y) op=true:=by cases op<;>first|exact hc|(simp [aM] at hc)
  have bP:rt.isSome:=by
   simp only [aw] at h;split at h
   ·split at h
    ·split at h
     ·simp at h;rw [←h.2.1];rfl
     ·cases h
    ·cases h
   ·cases h
  exact rC (LJ R (dS bP) hc h o ho)
 |oT k x=>exact fJ R ho (Tc R hc h)
 |ph x=>exact fJ R ho (Td R hc h)
 |uT x=>simp [aw] at h
 |idx x i=>exact fJ R ho (Tk R hc h)
 |mn x y=>exact fJ R ho (Tq R hc h)
 |mx x y=>exact fJ R ho (Tt R hc h)
 |sX k x=>exact fJ R ho (To R hc h)
 |mf x args=>exact Ta R dS ew hc h o ho
 |jO f i args=>exact S9 R dS ew hc h o ho
 |kZ f x y=>exact S_ R dS ew hc h o ho
 |oS sz z x=>exact rC (Tb R hc h o ho)
end
end
section
def Fr (W:Nat→Prop) (m m' m1 bN:Ms):Prop:=(∀r,W r→bN r=m' r)∧(∀r,¬W r→m' r=m r)∧(∀r,¬W r→bN r=m1 r)
section
variable {m m' m1:Ms}
theorem Fr.none {W:Nat→Prop} (h:∀r,W r→m1 r=m r):Fr W m m m1 m1:=⟨h,fun _ _=>rfl,fun _ _=>rfl⟩
theorem Fr.trans {W W2 W':Nat→Prop} {o6 bN LC:Ms} (h:Fr W m m' m1 bN) (h':Fr W' m' o6 bN LC) (h1:∀r,W r→W2 r) (h2:∀r,W' r→W2 r)
 (ha:∀r,W2 r→m1 r=m r):Fr W2 m o6 m1 LC:=by
 refine ⟨fun r hr=>?_,fun r hr=>?_,fun r hr=>?_⟩
 ·by_cases h3:W' r
  ·exact h'.1 r h3
  ·rw [h'.2.2 r h3,h'.2.1 r h3];by_cases h4:W r
   ·exact h.1 r h4
   ·rw [h.2.2 r h4,h.2.1 r h4];exact ha r hr
 ·rw [h'.2.1 r (fun e=>hr (h2 r e)),h.2.1 r (fun e=>hr (h1 r e))]
 ·rw [h'.2.2 r (fun e=>hr (h2 r e)),h.2.2 r (fun e=>hr (h1 r e))]
theorem Fr.pd {W:Nat→Prop} {bN:Ms} (h:Fr W m m' m1 bN) {r:Nat} (hr:m1 r=m r):bN r=m' r:=by
 by_cases h1:W r
 ·exact h.1 r h1
 ·rw [h.2.2 r h1,h.2.1 r h1,hr]
theorem Fr.wide {W W2:Nat→Prop} {bN:Ms} (h:Fr W m m' m1 bN) (h1:∀r,W r→W2 r) (ha:∀r,W2 r→m1 r=m r):Fr W2 m m' m1 bN:=
 ⟨fun r hr=>h.pd (ha r hr),fun r hr=>h.2.1 r fun e=>hr (h1 r e),fun r hr=>h.2.2 r fun e=>hr (h1 r e)⟩
theorem Lv {r j:Nat} {p:aI} (h:m1 r=m r):m1.bM r j p=m.bM r j p:=by simp only [Ms.bM,h]
theorem Nu {r j:Nat} (h:m1 r=m r):m1.cell r j=m.cell r j:=by simp only [Ms.cell,h]
theorem jN {r j:Nat} {p:aI} (h:m1 r=m r):m1.at r j p=m.at r j p:=by simp only [Ms.at,Lv h,Nu h]
theorem Fr.aB {r:Nat} {x:Mem}:Fr (·=r) m (OM.aB m r x) m1 (OM.aB m1 r x):=
 ⟨fun k hk=>by simp [OM.aB,hk],fun k hk=>by simp [OM.aB,hk],fun k hk=>by simp [OM.aB,hk]⟩
theorem Bc {r j:Nat} {p:aI} {x:D} {kl:List (Nat×aI)} (h:m.putAt r j p x kl=some m') (ha:m1 r=m r):
 ∃bN,m1.putAt r j p x kl=some bN∧Fr (·=r) m m' m1 bN:=by
 simp only [Ms.putAt,ha] at h ⊢;split at h
 ·split at h
  ·simp at h;subst h;exact ⟨_,rfl,.aB⟩
  ·cases h
 ·cases h
theorem Mx {r j:Nat} {p:aI} {d:D} (h:m.take r j p=some (d,m')) (ha:m1 r=m r):
 ∃bN,m1.take r j p=some (d,bN)∧Fr (·=r) m m' m1 bN:=by
 simp only [Ms.take,jN ha] at h ⊢;split at h
 ·split at h
  ·rename_i m2 hp;simp at h;obtain ⟨rfl,rfl⟩:=h;obtain ⟨bN,h1,h2⟩:=Bc hp ha;exact ⟨bN,by simp [h1],h2⟩
  ·cases h
 ·cases h
theorem yS {a:AV} (ha:∀r∈a.refs,m1 r=m r):m1.eY a=m.eY a:=by
 cases a with
 |v k d=>cases d<;>rfl
 |pl r j p=>simp only [Ms.eY,jN (ha r (by simp [AV.refs]))]
 |rg r j p sz lo hi=>simp only [Ms.eY,jN (ha r (by simp [AV.refs]))]
 |_=>rfl
theorem tK {a:AV} {c:C} (h:eo m a=some (c,m')) (ha:∀r∈a.refs,m1 r=m r):
 ∃bN,eo m1 a=some (c,bN)∧Fr (·∈a.refs) m m' m1 bN:=by
 unfold eo at h;split at h
 ·cases h
 ·rename_i k d hd;simp at h;obtain ⟨rfl,rfl⟩:=h;exact ⟨m1,by cases d<;>first|rfl|exact absurd rfl hd,.none ha⟩
 ·simp at h;obtain ⟨rfl,rfl⟩:=h;exact ⟨m1,rfl,.none ha⟩
 ·rename_i r j p;split at h
  ·rename_i d m2 ht;simp at h;obtain ⟨rfl,rfl⟩:=h;obtain ⟨bN,h1,h2⟩:=Mx ht (ha r (by simp [AV.refs]));exact ⟨bN,by simp [eo,h1],h2.wide (fun q hq=>by simp [AV.refs,hq]) ha⟩
  ·cases h
 ·rename_i r j p sz hi;split at h
  ·rename_i es _ m2 sa ht;simp at h;obtain ⟨rfl,rfl⟩:=h;obtain ⟨bN,h1,h2⟩:=Mx ht (ha r (by simp [AV.refs]));exact ⟨bN,by simp [eo,h1,jN (ha r (by simp [AV.refs])),sa],h2.wide (fun q hq=>by simp [AV.refs,hq]) ha⟩
  ·cases h
 ·cases h
theorem BH:∀(as:List AV) {cs:List C} {m m' m1:Ms},eX m as=some (cs,m')→(∀r∈AV.b9 as,m1 r=m r)→
 ∃bN,eX m1 as=some (cs,bN)∧Fr (·∈AV.b9 as) m m' m1 bN:=by
 intro as;induction as with
 |nil=>intro cs m m' m1 h ha;simp [eX] at h;obtain ⟨rfl,rfl⟩:=h;exact ⟨m1,rfl,.none ha⟩
 |cons a as ih=>
  intro cs m m' m1 h ha;simp only [eX] at h;split at h
  ·rename_i c m2 h1;split at h
   ·rename_i jk m3 h2;simp at h;obtain ⟨rfl,rfl⟩:=h;obtain ⟨q1,e1,f1⟩:=tK h1 (m1:=m1) (fun r hr=>ha r (by simp [AV.b9,hr]));obtain ⟨q2,e2,f2⟩:=ih h2 (m1:=q1) (fun r hr=>f1.pd (ha r (by simp [AV.b9,hr])));exact ⟨q2,by simp [eX,e1,e2],f1.trans f2 (fun r hr=>by simp [AV.b9,hr]) (fun r hr=>by simp [AV.b9,hr]) ha⟩
   ·cases h
  ·cases h
theorem T3 {a:AV} (ha:∀r∈a.refs,m1 r=m r):mF m1 a=mF m a:=by
 cases a with
 |v k d=>cases d<;>rfl
 |pl r j p=>cases p with
  |nil=>simp only [mF,ha r (by simp [AV.refs]),Lv (ha r (by simp [AV.refs]))]
  |cons=>rfl
 |_=>rfl
theorem LY:∀(as:List AV),(∀r∈AV.b9 as,m1 r=m r)→gT m1 as=gT m as:=by
 intro as;induction as with
 |nil=>intro _;rfl
 |cons a as ih=>
  intro ha;simp only [gT,T3 (a:=a) fun r hr=>ha r (by simp [AV.b9,hr]),ih fun r hr=>ha r (by simp [AV.b9,hr])]
theorem SB {n:Nat} {a:AV} (ha:∀r∈a.refs,m1 r=m r):jx m1 n a=jx m n a:=by
 cases a with
 |bx r j=>simp only [jx,ha r (by simp [AV.refs])]
 |ad r j p sz i c=>simp only [jx,jN (ha r (by simp [AV.refs]))]
 |v k d=>cases d<;>rfl
 |_=>rfl
theorem Me {cs:List C} {a:AV} (h:kR m cs a=some m') (ha:∀r∈a.refs,m1 r=m r):
 ∃bN,kR m1 cs a=some bN∧Fr (·∈a.refs) m m' m1 bN:=by
 cases a with
 |bx r j=>
  simp only [kR,ha r (by simp [AV.refs])] at h ⊢;split at h
  ·split at h
   ·rename_i hl;simp at h;subst h;refine ⟨_,by rw [if_pos hl],Fr.aB.wide (fun q hq=>by simp [AV.refs,hq]) ha⟩
   ·cases h
  ·cases h
 |ad r j p sz i c=>
  simp only [kR] at h ⊢;rw [jN (ha r (by simp [AV.refs]))];split at h
  ·split at h
   ·split at h
    ·rename_i ds mo _ dQ es bz e he;split at h
     ·rename_i hl;obtain ⟨bN,h1,h2⟩:=Bc h (ha r (by simp [AV.refs]));refine ⟨bN,?_,h2.wide (fun q hq=>by simp [AV.refs,hq]) ha⟩;simp only [he,if_pos hl,h1]
     ·cases h
    ·cases h
   ·cases h
  ·cases h
 |_=>simp [kR] at h
theorem tl (a:AV):AV.b9 a.cells=a.refs:=by
 cases a<;>simp [AV.cells,AV.b9,AV.refs]
theorem N6 {sz:Nat}:∀(ps:List (Nat×AV)) {l l':List D} {m m' m1:Ms},mX m sz l ps=some (l',m')→
 (∀x∈ps,∀r∈x.2.refs,m1 r=m r)→∃bN,mX m1 sz l ps=some (l',bN)∧Fr (fun r=>∃x∈ps,r∈x.2.refs) m m' m1 bN:=by
 intro ps;induction ps with
 |nil=>intro l l' m m' m1 h ha;simp [mX] at h;obtain ⟨rfl,rfl⟩:=h;exact ⟨m1,rfl,.none fun r hr=>by simp at hr⟩
 |cons x ps ih=>
  intro l l' m m' m1 h ha;obtain ⟨off,a⟩:=x;simp only [mX] at h;split at h
  ·rename_i cs m2 h1;split at h
   ·rename_i ds mo;split at h
    ·rename_i hl;have la:∀r∈a.refs,m1 r=m r:=fun r hr=>ha (off,a) (by simp) r hr
     obtain ⟨q1,e1,f1⟩:=BH a.cells h1 (m1:=m1) (fun r hr=>la r (by rwa [tl] at hr));obtain ⟨q2,e2,f2⟩:=ih h (m1:=q1) (fun x hx r hr=>f1.pd (ha x (by simp [hx]) r hr));refine ⟨q2,by simp only [mX,e1,mo,if_pos hl,e2],f1.trans f2 (fun r hr=>⟨(off,a),by simp,by rwa [tl] at hr⟩) (fun r hr=>?_) (fun r hr=>?_)⟩
     ·obtain ⟨x,hx,hr⟩:=hr;exact ⟨x,by simp [hx],hr⟩
     ·obtain ⟨x,hx,hr⟩:=hr;exact ha x hx r hr
    ·cases h
   ·cases h
  ·cases h
theorem LM {a:AV} {x:V} (h:gS m a=some (x,m')) (ha:∀r∈a.refs,m1 r=m r):∃bN,gS m1 a=some (x,bN)∧Fr (·∈a.refs) m m' m1 bN:=by
 have one:(∀cs,a≠.agg cs)→∃bN,gS m1 a=some (x,bN)∧Fr (·∈a.refs) m m' m1 bN:=by
  intro hn
  have e1:∀q:Ms,gS q a=match eo q a with
   |some (c,q')=>some (.one c,q')
   |none=>none:=by
   intro q;cases a with
   |agg cs=>exact absurd rfl (hn cs)
   |_=>rfl
  rw [e1] at h;split at h
  ·rename_i c m2 h1;simp at h;obtain ⟨rfl,rfl⟩:=h;obtain ⟨q1,e2,f1⟩:=tK h1 ha;exact ⟨q1,by rw [e1,e2],f1⟩
  ·cases h
 cases a with
 |agg cs=>
  simp only [gS] at h;split at h
  ·rename_i l m2 h1;simp at h;obtain ⟨rfl,rfl⟩:=h;obtain ⟨q1,e1,f1⟩:=BH cs h1 (m1:=m1) (fun r hr=>ha r (by simpa [AV.refs] using hr));exact ⟨q1,by simp only [gS,e1],f1.wide (fun r hr=>by simpa [AV.refs] using hr) ha⟩
  ·cases h
 |_=>exact one (fun cs e=>by cases e)
theorem Vi {a:AV} {c:C} (h:oB m c a=some m') (ha:∀r∈a.refs,m1 r=m r):∃bN,oB m1 c a=some bN∧Fr (·∈a.refs) m m' m1 bN:=by
 cases a with
 |pl r j p=>
  have hr:m1 r=m r:=ha r (by simp [AV.refs]);simp only [oB,jN hr] at h ⊢;split at h
  ·split at h
   ·obtain ⟨q,e,f⟩:=Bc h hr;exact ⟨q,e,f.wide (fun k hk=>by subst hk;simp [AV.refs]) (fun k hk=>by simp [AV.refs] at hk;subst hk;exact hr)⟩
   ·cases h
  ·cases h
 |nl sz=>
  simp only [oB] at h ⊢;split at h
  ·simp at h;subst h;exact ⟨m1,rfl,.none fun r hr=>by simp [AV.refs] at hr⟩
  ·cases h
 |_=>simp [oB] at h
theorem Vo {cs:List AV}:∀(us:List (Nat×Nat×C)) {lo:Nat} {m m' m1:Ms},jH cs lo m us=some m'→(∀r∈AV.b9 cs,m1 r=m r)→∃bN,jH cs lo m1 us=some bN∧Fr (·∈AV.b9 cs) m m' m1 bN:=by
 intro us;induction us with
 |nil=>intro lo m m' m1 h ha;simp [jH] at h;subst h;exact ⟨m1,rfl,.none ha⟩
 |cons u us ih=>
  intro lo m m' m1 h ha;obtain ⟨i,j,c⟩:=u;simp only [jH] at h;split at h
  ·rename_i hi;split at h
   ·rename_i a hj;split at h
    ·rename_i m2 h1
     have Ll:∀r∈a.refs,r∈AV.b9 cs:=fun r hr=>by
      clear ih h h1 ha hi;induction cs generalizing j with
      |nil=>simp at hj
      |cons b cs Ry=>
       simp only [AV.b9,List.mem_append];cases j with
       |zero=>simp at hj;subst hj;exact .inl hr
       |succ j=>exact .inr (Ry j (by simpa using hj))
     obtain ⟨q1,e1,f1⟩:=Vi h1 (m1:=m1) (fun r hr=>ha r (Ll r hr));obtain ⟨q2,e2,f2⟩:=ih h (m1:=q1) (fun r hr=>f1.pd (ha r hr));exact ⟨q2,by simp only [jH,if_pos hi,hj,e1,e2],f1.trans f2 Ll (fun r hr=>hr) ha⟩
    ·cases h
   ·cases h
  ·cases h
theorem Jf {a:AV} (ha:∀r∈a.refs,m1 r=m r):kF m1 a=kF m a:=by
 cases a with
 |v k d=>cases d<;>rfl
 |pl r j p=>simp only [kF,jN (ha r (by simp [AV.refs]))]
 |rg r j p sz lo hi=>simp only [kF,jN (ha r (by simp [AV.refs]))]
 |fv f r=>simp only [kF,ha r (by simp [AV.refs])]
 |bx r j=>cases j<;>simp only [kF,ha r (by simp [AV.refs])]
 |_=>rfl
theorem Lt {a:AV} (ha:∀r∈a.refs,m1 r=m r):xi m1 a=xi m a:=by
 cases a with
 |v k d=>cases d<;>rfl
 |pl r j p=>simp only [xi,jN (ha r (by simp [AV.refs]))]
 |_=>rfl
theorem Nd:∀(as:List AV),(∀r∈AV.b9 as,m1 r=m r)→kG m1 as=kG m as:=by
 intro as;induction as with
 |nil=>intro _;rfl
 |cons a as ih=>
  intro ha;simp only [kG,Jf (a:=a) fun r hr=>ha r (by simp [AV.b9,hr]),ih fun r hr=>ha r (by simp [AV.b9,hr])]
theorem RI:∀(as:List AV),(∀r∈AV.b9 as,m1 r=m r)→xj m1 as=xj m as:=by
 intro as;induction as with
 |nil=>intro _;rfl
 |cons a as ih=>
  intro ha;simp only [xj,Lt (a:=a) fun r hr=>ha r (by simp [AV.b9,hr]),ih fun r hr=>ha r (by simp [AV.b9,hr])]
theorem M7 {a:AV} (io:Bool) (ha:∀r∈a.refs,m1 r=m r):ji m1 io a=ji m io a:=by
 cases a with
 |agg cs=>simp only [ji,Nd cs ha,RI cs ha]
 |_=>simp only [ji,Jf ha,Lt ha]
theorem uM (io:List Nat):∀(as:List AV) (i:Nat),(∀a∈as,∀r∈a.refs,m1 r=m r)→dP m1 io i as=dP m io i as:=by
 intro as;induction as with
 |nil=>intro _ _;rfl
 |cons a as ih=>
  intro i ha;simp only [dP,M7 (io.contains i) (ha a (by simp)),ih (i+1) fun b hb=>ha b (by simp [hb])]
theorem LA {len:Nat} {ev ev':PX→AV} {lo hi:Option PX} (h1:∀x∈lo.toList,ev' x=ev x) (h2:∀x∈hi.toList,ev' x=ev x):kQ len ev' lo hi=kQ len ev lo hi:=by
 cases lo<;>cases hi<;>simp_all [kQ]
end
end
end Go.Proofs.YtohlfelngklcfaaGreat.OM
