/- A part of the proof. -/
import Derived.Test.YtohlfelngklcfaaGreatF2
import Derived.ChangeSame
import Derived.RowKit
import Derived.RowKit3
import Derived.OpenShut
import Derived.ChangeArms
import Derived.WideKeyArgs
import Derived.Test.YtohlfelngklcfaaGreatF0
set_option linter.all false
namespace Go.Proofs.YtohlfelngklcfaaGreat.OM
open Bool renaming and_eq_true→za,not_eq_true'→zb,not_eq_false→zd,or_eq_true→zh,not_eq_true→zk
open List renaming all_eq_true→ze,mem_cons→zm,contains_iff_mem→zn,mem_of_getElem?→zp,append_nil→zq,getElem?_append_right→zr,getElem?_append_left→zu,getElem?_cons_succ→zy,mem_cons_of_mem→zz,mem_iff_getElem→zA,getElem?_map→zB,mem_append→zC,replicate→zF,map_cons→zG,mapM_nil→zH
open Nat renaming le_max_right→zf,le_refl→zg,le_max_left→zj,zero_add→zo,sub_zero→zw
open Classical renaming choose_spec→zi,choose→zx
open Option.some renaming injEq→zt
open _root_.Array renaming replicate→zD
section
section
variable {w0:World} {cl0:dv} {S:St} {ts:Array Value} {w:World} {g:Gh} {live:List Nat} {ai:List (Nat×Nat)}
theorem vH {r:Nat} (h:fj live ai r=true):eN ai r∈live∧pC ai (eN ai r)=r:=by
 simp only [fj,za,beq_iff_eq,zn] at h;exact h
theorem get_map (f:Nat→AV×Option Rt):∀(l:List Nat) (n:Nat),AL.get (l.map fun n=>(n,f n)) n=if n∈l then f n else (.un,none):=by
 intro l n;induction l with
 |nil=>rfl
 |cons k l ih=>
  simp only [zG,AL.get];by_cases e:n=k
  ·subst e;simp
  ·simp [e,ih]
theorem NY (n:Nat):(settle live ai S).get n=if n∈live then (fu S.ms live ai (S.av n),o7 S live ai n) else (.un,none):=
 get_map (fun n=>(fu S.ms live ai (S.av n),o7 S live ai n)) live n
def Gh.set (g:Gh) (live:List Nat) (ai:List (Nat×Nat)):Gh where
 cl:=fun b=>match g.cl b with
  |.own (n+1) j ρ=>if fj live ai n then .own (eN ai n+1) j ρ else .no
  |.own 0 _ _=>.no
  |.box n=>if fj live ai n then .box (eN ai n) else .no
  |c=>c
 hd:=fun r j ρ=>match r with
  |0=>g.hd 0 j ρ
  |n+1=>g.hd (pC ai n+1) j ρ
 bk:=fun n=>g.bk (pC ai n)
theorem Gh.Bf {b:Nat} {k:Bool}:(g.set live ai).cl b=kc k↔g.cl b=kc k:=by
 simp only [Gh.set];cases h:g.cl b with
 |own r j ρ=>
  cases r with
  |zero=>cases k<;>simp [kc]
  |succ n=>simp only;split<;>cases k<;>simp [kc]
 |box n=>simp only;split<;>cases k<;>simp [kc]
 |_=>exact .rfl
theorem Gh.VY {b n j:Nat} {ρ:aY} (h:g.cl b=.own (n+1) j ρ) (ho:fj live ai n=true):(g.set live ai).cl b=.own (eN ai n+1) j ρ:=by
 simp [Gh.set,h,ho]
theorem Gh.VX {b n:Nat} (h:g.cl b=.box n) (ho:fj live ai n=true):(g.set live ai).cl b=.box (eN ai n):=by
 simp [Gh.set,h,ho]
theorem Gh.t_ {n j:Nat} {ρ:aY} (ho:fj live ai n=true):(g.set live ai).hd (eN ai n+1) j ρ=g.hd (n+1) j ρ:=by
 simp only [Gh.set,(vH ho).2]
theorem Gh.Be {n:Nat} (ho:fj live ai n=true):(g.set live ai).bk (eN ai n)=g.bk n:=by
 simp only [Gh.set,(vH ho).2]
mutual
theorem K5 {m':Ms} (hm:∀r j p,m'.b_ r j p=false):∀(a:AV) (x:Value),RA w g S.ms a x→RA w (g.set live ai) m' (fu S.ms live ai a) x
 |.un,x,_=>.un x
 |.v k d,x,h=>by
  cases h with
  |v _ _ _ h=>exact .v _ _ _ (h.mono fun b hb=>⟨rfl,Gh.Bf.2 hb⟩)
 |.nl sz,x,h=>by cases h;exact .nl sz
 |.agg cs,x,h=>by
  cases h with
  |agg _ vs hl hc=>
   simp only [fu];have hf:=Cv live ai S.ms cs;refine .agg _ vs (by rw [hf.1];exact hl) fun i a y ha hy=>?_
   obtain ⟨b,hb,rfl⟩:=hf.2 i a ha;exact Cw hm cs i b y hb (hc i b y hb hy)
 |.a_ cs,x,h=>by
  cases h with
  |a_ _ vs hl hc=>
   simp only [fu];have hf:=Cv live ai S.ms cs;refine .a_ _ vs (by rw [hf.1];exact hl) fun i a y ha hy=>?_
   obtain ⟨b,hb,rfl⟩:=hf.2 i a ha;exact Cw hm cs i b y hb (hc i b y hb hy)
 |.pl r j p,x,h=>by
  cases h with
  |pl _ _ _ b n c h=>
   simp only [fu];split
   ·exact .un _
   ·rename_i hk;simp only [zh,zb,not_or,zk,zd] at hk;exact .pl _ _ _ _ _ _ fun _=>by rw [Gh.t_ hk.2];exact h hk.1
 |.rg r j p sz lo hi,x,h=>by
  cases h with
  |rg _ _ _ _ _ _ b n c h=>
   simp only [fu];split
   ·exact .un _
   ·rename_i hk;simp only [zh,zb,not_or,zk,zd] at hk;exact .rg _ _ _ _ _ _ _ _ _ fun _=>by rw [Gh.t_ hk.2];exact h hk.1
 |.bx r j,x,h=>by
  cases h;simp only [fu];split
  ·exact .un _
  ·rename_i hk;simp only [zb,zd] at hk;rw [←Gh.Be (g:=g) hk];exact .bx _ _
 |.fv f r,x,h=>by
  cases h;simp only [fu];split
  ·exact .un _
  ·rename_i hk;simp only [zb,zd] at hk;rw [←Gh.Be (g:=g) hk];exact .fv _ _
 |.ad r j p sz i c,x,h=>by
  cases h with
  |ad _ _ _ _ _ _ b o h=>
   simp only [fu];split
   ·exact .un _
   ·rename_i hk;simp only [zh,zb,not_or,zk,zd] at hk;exact .ad _ _ _ _ _ _ _ _ fun _=>by rw [Gh.t_ hk.2];exact h hk.1
 |.ra k sz es i c,x,h=>by
  cases h with
  |ra _ _ _ _ _ b off cap h hi=>exact .ra _ _ _ _ _ _ _ _ (h.mono fun b hb=>⟨rfl,Gh.Bf.2 hb⟩) hi
theorem Cw {m':Ms} (hm:∀r j p,m'.b_ r j p=false):∀(cs:List AV) (i:Nat) (b:AV) (y:Value),cs[i]?=some b→RA w g S.ms b y→RA w (g.set live ai) m' (fu S.ms live ai b) y
 |[],i,b,y,hb,_=>by simp at hb
 |c::cs,i,b,y,hb,h=>by
  cases i with
  |zero=>simp at hb;subst hb;exact K5 hm c y h
  |succ i=>exact Cw hm cs i b y (by simpa using hb) h
theorem Cv (live:List Nat) (ai:List (Nat×Nat)) (m:Ms):∀(cs:List AV),(k9 m live ai cs).length=cs.length∧∀(i:Nat) (a:AV),(k9 m live ai cs)[i]?=some a→∃b,cs[i]?=some b∧a=fu m live ai b
 |[]=>⟨rfl,fun i a h=>by simp [k9] at h⟩
 |c::cs=>by
  obtain ⟨h1,h2⟩:=Cv live ai m cs;refine ⟨by simp [k9,h1],fun i a h=>?_⟩;cases i with
  |zero=>simp [k9] at h;exact ⟨c,rfl,h.symm⟩
  |succ i=>simp only [k9,zy] at h;exact h2 i a h
end
mutual
theorem K6 {m:Ms}:∀(a:AV) (r:Nat),r∈(fu m live ai a).refs→∃r0,r0∈a.refs∧fj live ai r0=true∧r=eN ai r0
 |.un,r,h=>by simp [fu,AV.refs] at h
 |.v k d,r,h=>by simp [fu,AV.refs] at h
 |.nl sz,r,h=>by simp [fu,AV.refs] at h
 |.agg cs,r,h=>Cx cs r h
 |.a_ cs,r,h=>Cx cs r h
 |.pl r0 j p,r,h=>by
  simp only [fu] at h;split at h
  ·simp [AV.refs] at h
  ·rename_i hk;simp only [zh,zb,not_or,zk,zd] at hk;simp [AV.refs] at h;exact ⟨r0,by simp [AV.refs],hk.2,h⟩
 |.rg r0 j p sz lo hi,r,h=>by
  simp only [fu] at h;split at h
  ·simp [AV.refs] at h
  ·rename_i hk;simp only [zh,zb,not_or,zk,zd] at hk;simp [AV.refs] at h;exact ⟨r0,by simp [AV.refs],hk.2,h⟩
 |.bx r0 j,r,h=>by
  simp only [fu] at h;split at h
  ·simp [AV.refs] at h
  ·rename_i hk;simp only [zb,zd] at hk;simp [AV.refs] at h;exact ⟨r0,by simp [AV.refs],hk,h⟩
 |.fv f r0,r,h=>by
  simp only [fu] at h;split at h
  ·simp [AV.refs] at h
  ·rename_i hk;simp only [zb,zd] at hk;simp [AV.refs] at h;exact ⟨r0,by simp [AV.refs],hk,h⟩
 |.ad r0 j p sz i c,r,h=>by
  simp only [fu] at h;split at h
  ·simp [AV.refs] at h
  ·rename_i hk;simp only [zh,zb,not_or,zk,zd] at hk;simp [AV.refs] at h;exact ⟨r0,by simp [AV.refs],hk.2,h⟩
 |.ra k sz es i c,r,h=>by simp [fu,AV.refs] at h
theorem Cx {m:Ms}:∀(cs:List AV) (r:Nat),r∈AV.cA (k9 m live ai cs)→∃r0,r0∈AV.cA cs∧fj live ai r0=true∧r=eN ai r0
 |[],r,h=>by simp [k9,AV.cA] at h
 |c::cs,r,h=>by
  simp only [k9,AV.cA,zC] at h ⊢;rcases h with h|h
  ·obtain ⟨r0,h1,h2⟩:=K6 c r h;exact ⟨r0,.inl h1,h2⟩
  ·obtain ⟨r0,h1,h2⟩:=Cx cs r h;exact ⟨r0,.inr h1,h2⟩
end
theorem TE {n:Nat} {rt:Rt} (hn:n∈live) (h:o7 S live ai n=some rt):∃a jK,fj live ai a=true∧eN ai a=n∧(S.ms a).1=some jK∧rt=pW live ai jK:=by
 simp only [o7] at h;split at h
 ·rename_i hl;split at h
  ·rename_i jK h0;simp at h;exact ⟨pC ai n,jK,by simp [fj,hl,hn],hl,h0,h.symm⟩
  ·cases h
 ·cases h
theorem TD {r:Nat} {rt:Rt} (ho:fj live ai r=true) (h:(S.ms r).1=some rt):o7 S live ai (eN ai r)=some (pW live ai rt):=by
 simp only [o7,(vH ho).2,if_true,h]
theorem Cy {rt:Rt} {j:Nat} {c:C} (h:(pW live ai rt).cells[j]?=some c):∃c0,rt.cells[j]?=some c0∧c=fixC live ai c0:=by
 cases rt<;>simp only [pW,Rt.cells,zB,Option.map_eq_some_iff] at h<;>obtain ⟨c0,h1,h2⟩:=h<;>exact ⟨c0,h1,h2.symm⟩
theorem K7 {n j:Nat} {c:C} {x:Value} (ho:fj live ai n=true) (h:RC w g (n+1) j c x):RC w (g.set live ai) (eN ai n+1) j (fixC live ai c) x:=by
 cases h with
 |ro k d _ h=>exact .ro _ _ _ (h.mono fun b hb=>⟨rfl,Gh.Bf.2 hb⟩)
 |own d _ h=>exact .own _ _ (h.mono (q':=[]) (fun b ρ hb=>⟨rfl,by simpa using Gh.VY hb ho⟩) (fun ρ=>by simpa using Gh.t_ ho))
 |rf r1 j1 b k c hh=>
  simp only [fixC];split
  ·rename_i hr;exact .rf _ _ _ _ _ (by rw [Gh.t_ hr];exact hh)
  ·exact .ro _ _ _ (.dead _)
theorem VZ (R:Rel w0 cl0 S ts w g) (nF:∀i∈cl0.io,fj live ai i=true∧eN ai i=i):Rel w0 cl0 (settle live ai S).st ts w (g.set live ai):=by
 have cQ:∀n,(settle live ai S).st.av n=if n∈live then fu S.ms live ai (S.av n) else .un:=fun n=>by
  simp only [AL.st,NY];split<;>rfl
 have nI:∀n,(settle live ai S).st.ms n=(if n∈live then o7 S live ai n else none,[]):=fun n=>by
  simp only [AL.st,NY];split<;>rfl
 have hk:∀r j p,(settle live ai S).st.ms.b_ r j p=false:=fun r j p=>by simp [Ms.b_,nI]
 have Mt:∀n rt,((settle live ai S).st.ms n).1=some rt→∃a jK,fj live ai a=true∧eN ai a=n∧(S.ms a).1=some jK∧rt=pW live ai jK:=by
  intro n rt h;rw [nI] at h;simp only at h;split at h
  ·rename_i hn;exact TE hn h
  ·cases h
 have oK:∀r rt,fj live ai r=true→(S.ms r).1=some rt→((settle live ai S).st.ms (eN ai r)).1=some (pW live ai rt):=by
  intro r rt ho h;rw [nI];simp only [if_pos (vH ho).1,TD ho h]
 refine { av:=fun n=>?_,rt:=fun n rt h=>?_,eT:=fun n r h=>?_,eA:=fun n rt j r j' h h1=>?_,bd:=fun b h=>R.bd b fun e=>h (by simp [Gh.set,e]),sz:=R.sz,fr:=R.fr,
          im:=fun b k=>Gh.Bf.trans (R.im b k),mi:=fun b hb h=>R.mi b hb ?_,sd:=R.sd,fK:=fun i hi=>?_ }
 ·rw [cQ];split
  ·exact K5 hk _ _ (R.av n)
  ·exact .un _
 ·obtain ⟨a,jK,ho,rfl,h0,rfl⟩:=Mt n rt h;have hr:=R.rt a jK h0;cases jK with
  |an cs=>
   intro j c hj;obtain ⟨c0,dF,rfl⟩:=Cy (rt:=.an cs) hj;rw [Gh.t_ ho];exact K7 ho (hr j c0 dF)
  |bx cs=>
   obtain ⟨h1,vals,E,h2,h3,h4⟩:=hr;refine ⟨by rw [Gh.Be ho];exact Gh.VX h1 ho,vals,E,by rw [Gh.Be ho];exact h2,by simpa using h3,fun j c x hj hx=>?_⟩;obtain ⟨c0,dF,rfl⟩:=Cy (rt:=.bx cs) hj;exact K7 ho (h4 j c0 x dF hx)
 ·rw [cQ] at h;split at h
  ·obtain ⟨r0,h1,h2,rfl⟩:=K6 _ _ h;have h3:=R.eT n r0 h1;cases h4:(S.ms r0).1 with
   |none=>rw [h4] at h3;cases h3
   |some rt=>rw [oK r0 rt h2 h4];rfl
  ·simp [AV.refs] at h
 ·obtain ⟨a,jK,ho,rfl,h0,rfl⟩:=Mt n rt h;obtain ⟨c0,dF,hc⟩:=Cy h1;cases c0 with
  |rf r0 j0=>
   simp only [fixC] at hc;split at hc
   ·rename_i hr;simp at hc;obtain ⟨rfl,rfl⟩:=hc;obtain ⟨cs,h2⟩:=R.eA a jK j r0 j' h0 dF;exact ⟨_,oK r0 _ hr h2⟩
   ·cases hc
  |_=>simp [fixC] at hc
 ·simp only [Gh.set] at h;split at h
  ·rename_i e;rw [e];rfl
  ·cases h
  ·rename_i e;rw [e];rfl
  ·exact h
 ·obtain ⟨h1,h2⟩:=nF i hi;have h:=R.fK i hi;have h3:=vH h1;rw [h2] at h3;cases h4:(S.ms i).1 with
  |none=>rw [h4] at h;exact h.elim
  |some rt=>
   have h5:=oK i rt h1 h4;rw [h2] at h5;rw [h5];rw [h4] at h;cases rt with
   |an cs=>intro j;rw [←h j];simp only [Gh.set,h3.2]
   |bx cs=>show g.bk (pC ai i)=_;rw [h3.2];exact h
end
end
section
def fX (P:Program) (κ:Nat→FuncId) (N:Nat) (io:List Nat):PC→Code→Bool
 |.skip,.skip=>true
 |.dz live ai pos draw,.region _ ops dr=>(io.all fun i=>fj live ai i&&eN ai i==i)&&mu P κ N ops pos ops.toList&&(match draw,dr with
  |none,false=>true
  |some ps,true=>BY pos ops.toList ps
  |_,_=>false)
 |.seq a b,.seq a' b'=>fX P κ N io a a'&&fX P κ N io b b'
 |.cond x a b,.cond y a' b'=>b7 x y&&fX P κ N io a a'&&fX P κ N io b b'
 |.ah id c,.block vz c'=>id==vz&&fX P κ N io c c'
 |.loop c,.loop c'=>fX P κ N io c c'
 |.exit id,.exit vz=>id==vz
 |.ret,.ret=>true
 |_,_=>false
def PC.keys:PC→List Nat
 |.dz _ _ pos _=>tl pos
 |.seq a b=>a.keys++b.keys
 |.cond _ a b=>a.keys++b.keys
 |.ah _ c=>c.keys
 |.loop c=>c.keys
 |_=>[]
section
variable {P:Program} {κ:Nat→FuncId} {w0:World} {cl0:dv} {Γ:Env} {N:Nat}
def JJ (w0:World) (cl0:dv) (N:Nat) (Q:Exit→Act→World→Prop):Out→Prop
 |.fail=>False
 |.norm L=>∀a w,fg w0 cl0 N L.st a w→Q .normal a w
 |.exit id L=>∀a w,fg w0 cl0 N L.st a w→Q (.exit id) a w
 |.ret L=>∀a w,fg w0 cl0 N L.st a w→Q .ret a w
theorem fg.settle {S:St} {a:Act} {w:World} {live:List Nat} {ai:List (Nat×Nat)} (h:fg w0 cl0 N S a w) (nF:∀i∈cl0.io,fj live ai i=true∧eN ai i=i):fg w0 cl0 N (settle live ai S).st a w:=by
 obtain ⟨g,R,h⟩:=h;exact ⟨_,VZ R nF,h⟩
theorem mh.mono {k k':List Nat} (h:mh P κ Γ k) (hk:∀f∈k',f∈k):mh P κ Γ k':=h
theorem Jg (Γ:Env) (live:List Nat) (ai:List (Nat×Nat)) (ops:List PO) (draw:Option (List (Nat×Nat))) (L:AL):
 ir Γ live ai ops draw L=.fail∨∃S,eU Γ ops L.st=some S∧(∀ps,draw=some ps→qo (f_ Γ ops L.st) ps=true)∧ir Γ live ai ops draw L=.norm (settle live ai S):=by
 unfold ir;cases hr:eU Γ ops L.st with
 |none=>left;cases draw<;>simp
 |some S=>
  cases draw with
  |none=>right;exact ⟨S,rfl,fun ps h=>(by cases h),by simp⟩
  |some ps=>
   by_cases h:(ps.isEmpty||qo (f_ Γ ops L.st) ps)=true
   ·right;refine ⟨S,rfl,fun ps' h'=>?_,by simp [h]⟩;cases h';simp only [zh,List.isEmpty_iff] at h;rcases h with h|h
    ·subst h;rfl
    ·exact h
   ·left;simp only [h];rfl
theorem Va (hm:P.follows .mixedOrders=true) (fuel:Nat):∀(c:PC) (code:Code),fX P κ N cl0.io c code=true→mh P κ Γ c.keys→
 ∀(Q:Exit→Act→World→Prop) (L:AL) (a:Act) (w:World),JJ w0 cl0 N Q (bV Γ fuel c L)→fg w0 cl0 N L.st a w→code.wp P Q a w:=by
 intro c;induction c with
 |ext calls f=>
  intro code hc _ Q L a w hQ hs;simp [fX] at hc
 |skip=>
  intro code hc _ Q L a w hQ hs;cases code<;>simp [fX] at hc;exact wp_skip (hQ a w hs)
 |dz live ai pos draw=>
  intro code hc hk Q L a w hQ hs;cases code with
  |region id ops dr=>
   simp only [fX,za] at hc;obtain ⟨⟨nF,hc⟩,hd⟩:=hc
   have RW:∀i∈cl0.io,fj live ai i=true∧eN ai i=i:=fun i hi=>by
    have:=ze.1 nF i hi;simpa using this
   simp only [bV] at hQ;rcases Jg Γ live ai pos draw L with h|⟨S',dC,hp,h⟩
   ·rw [h] at hQ;exact hQ.elim
   ·rw [h] at hQ;have LR:∀a w,fg w0 cl0 N S' a w→Q .normal a w:=fun a w h=>hQ a w (h.settle RW)
    split at hd
    ·exact aav hk hc LR dC hs
    ·rename_i ps;exact aas hm hk hc hd LR dC (hp ps rfl) hs
    ·cases hd
  |_=>simp [fX] at hc
 |seq x y S9 S_=>
  intro code hc hk Q L a w hQ hs;cases code with
  |seq x' y'=>
   simp only [fX,za] at hc;refine wp_seq (S9 x' hc.1 (hk.mono fun f hf=>by simp [PC.keys,hf]) _ L a w ?_ hs);simp only [bV] at hQ;cases h:bV Γ fuel x L with
   |fail=>rw [h] at hQ;exact hQ.elim
   |norm L'=>
    rw [h] at hQ;exact fun a w hs=>S_ y' hc.2 (hk.mono fun f hf=>by simp [PC.keys,hf]) Q L' a w hQ hs
   |exit id L'=>rw [h] at hQ;exact fun a w hs=>hQ a w hs
   |ret L'=>rw [h] at hQ;exact fun a w hs=>hQ a w hs
  |_=>simp [fX] at hc
 |cond x a1 b1 lr oY=>
  intro code hc hk Q L a w hQ hs;cases code with
  |cond y a' b'=>
   simp only [fX,za] at hc;simp only [bV] at hQ;cases ht:(L.st.ev x).asBool with
   |some t=>
    rw [ht] at hQ
    have hv:a.eval y=.bool t:=by
     obtain ⟨g,R,_⟩:=hs;exact w9 (b8 R hc.1.1).1 ht
    refine wp_cond hv ?_;cases t with
    |true=>exact lr a' hc.1.2 (hk.mono fun f hf=>by simp [PC.keys,hf]) Q L a w (by simpa using hQ) hs
    |false=>exact oY b' hc.2 (hk.mono fun f hf=>by simp [PC.keys,hf]) Q L a w (by simpa using hQ) hs
   |none=>rw [ht] at hQ;exact hQ.elim
  |_=>simp [fX] at hc
 |ah id c ih=>
  intro code hc hk Q L a w hQ hs;cases code with
  |block vz c'=>
   simp only [fX,za,beq_iff_eq] at hc;obtain ⟨rfl,hc⟩:=hc;refine wp_block (ih c' hc hk _ L a w ?_ hs);simp only [bV] at hQ;cases h:bV Γ fuel c L with
   |fail=>rw [h] at hQ;exact hQ.elim
   |norm L'=>rw [h] at hQ;exact fun a w hs=>hQ a w hs
   |exit i L'=>
    rw [h] at hQ;intro a w hs;simp only [Exit.inBlock];by_cases e:i=id
    ·simp only [e,if_true] at hQ ⊢;exact hQ a w hs
    ·simp only [e,if_false] at hQ ⊢;exact hQ a w hs
   |ret L'=>rw [h] at hQ;exact fun a w hs=>hQ a w hs
  |_=>simp [fX] at hc
 |loop c ih=>
  intro code hc hk Q L a w hQ hs;cases code with
  |loop c'=>
   simp only [fX] at hc;refine wp_loop_rounds fuel ?_;simp only [bV] at hQ
   have key:∀(n:Nat) (L:AL) (a:Act) (w:World),JJ w0 cl0 N Q (iter (bV Γ fuel c) n L)→fg w0 cl0 N L.st a w→Code.rounds P c' Q n a w:=by
    intro n;induction n with
    |zero=>intro L a w hQ _;exact hQ.elim
    |succ n S8=>
     intro L a w hQ hs;rw [rounds_succ];refine ih c' hc hk _ L a w ?_ hs;simp only [iter] at hQ;cases h:bV Γ fuel c L with
     |fail=>rw [h] at hQ;exact hQ.elim
     |norm L'=>rw [h] at hQ;exact fun a w hs=>S8 L' a w hQ hs
     |exit i L'=>rw [h] at hQ;exact fun a w hs=>hQ a w hs
     |ret L'=>rw [h] at hQ;exact fun a w hs=>hQ a w hs
   exact key fuel L a w hQ hs
  |_=>simp [fX] at hc
 |exit id=>
  intro code hc _ Q L a w hQ hs;cases code with
  |exit vz=>
   simp only [fX,beq_iff_eq] at hc;subst hc;exact wp_exit (hQ a w hs)
  |_=>simp [fX] at hc
 |ret=>
  intro code hc _ Q L a w hQ hs;cases code<;>simp [fX] at hc;exact wp_ret (hQ a w hs)
end
end
section
def kD (P:Program):List PR→List ResultVar→Bool
 |[],[]=>true
 |.s n::l,.tmp t::l'=>n==t&&kD P l l'
 |.b n size agg::l,.cell a t::l'=>n==a&&(match gh P t with|some (s,_)=>s==size|none=>false)&&decide (sH P t=some agg)&&kD P l l'
 |_,_=>false
section
variable {P:Program} {κ:Nat→FuncId} {w0:World} {cl0:dv} {Γ:Env} {w:World} {g:Gh}
def py (tmps:Array Value):ResultVar→Sem Value
 |.tmp t=>pure (tmps.getD t undef)
 |.cell a t=>do loadVar t (←asAddr (tmps.getD a undef))
theorem NM {L:AL} {tmps:Array Value} (R:Rel w0 cl0 L.st tmps w g) {r:PR} {rv:ResultVar} {rs:List PR} {jL:List ResultVar} (hc:kD P (r::rs) (rv::jL)=true) {a:AV} (h:tX L r=some a):
 ∃v,(py tmps rv).run P w=.ok v w∧RA w g L.st.ms a v∧kD P rs jL=true:=by
 cases r with
 |s n=>
  cases rv with
  |cell=>simp [kD] at hc
  |tmp t=>
   simp only [kD,za,beq_iff_eq] at hc;obtain ⟨rfl,hc⟩:=hc;simp only [tX,zt] at h;subst h;exact ⟨_,by simp [py],R.av n,hc⟩
 |b n size agg=>
  cases rv with
  |tmp=>simp [kD] at hc
  |cell ad t=>
   simp only [kD,za,beq_iff_eq,decide_eq_true_eq] at hc;obtain ⟨⟨⟨rfl,hs⟩,ha⟩,hc⟩:=hc;simp only [tX] at h;split at h
   ·rename_i l hl;obtain ⟨b,off,xs,hv,iV,sV,dp,ch⟩:=MV R (R.av n) hl
    have cg:∀w1,(sizeOf t).run P w1=.ok size w1:=by
     intro w1;unfold gh at hs;split at hs
     ·rename_i hi;split at hi
      ·rename_i i fT;simp at hi hs;simp [sizeOf,typeInfo,fT,hi.1,hs]
      ·cases hi
     ·cases hs
    have LV:(asAddr (.pointer (some ⟨b,off,none⟩))).run P w=.ok ⟨b,off,none⟩ w:=rfl;unfold sH at ha;cases agg
    ·have jf:(isAgg t).run P w=.ok false w:=by
      cases hu:P.underlying t with
      |none=>simp [hu] at ha
      |some u=>cases u<;>simp [hu] at ha<;>simp [isAgg,run_underlying hu]
     simp only [Bool.false_eq_true,if_false] at h;split at h
     ·rename_i a1;simp at h;subst h;simp at sV;subst sV
      obtain ⟨x1,rfl⟩:∃x1,xs=[x1]:=by
       match xs,iV with
       |[x1],_=>exact ⟨x1,rfl⟩
      have h3:=ch 0 a1 x1 rfl rfl;have h4:=dp 0 x1 rfl;refine ⟨x1,?_,h3.1,hc⟩;simp only [py];rw [hv];simp [LV,loadVar,jf,show w.cell? ⟨b,off,none⟩=some x1 from h4]
     ·cases h
    ·have jf:(isAgg t).run P w=.ok true w:=by
      cases hu:P.underlying t with
      |none=>simp [hu] at ha
      |some u=>cases u<;>simp [hu] at ha<;>simp [isAgg,run_underlying hu]
     simp at h;subst h;refine ⟨.agg xs.toArray,?_,.agg _ _ (by simp [sV,iV]) (fun i b y h5 h6=>(ch i b y h5 (by simpa using h6)).1),hc⟩;have Me:=vE P (w:=w) (b:=b) (o:=off) iV dp;simp only [py];rw [hv];simp [LV,loadVar,jf,cg,Me]
   ·cases h
end
end
section
section
variable {P:Program} {κ:Nat→FuncId} {w0:World} {cl0:dv} {Γ:Env} {w:World} {g:Gh}
theorem MZ {α β:Type} (f:α→Sem β) (x:α) (xs:List α) (v:β) (vs:List β) (h1:(f x).run P w=.ok v w) (h2:(xs.mapM f).run P w=.ok vs w):
 ((x::xs).mapM f).run P w=.ok (v::vs) w:=by
 simp [List.mapM_cons,h1,h2]
theorem UY {L:AL} {tmps:Array Value} {g0:Gh} (R0:Rel w0 cl0 L.st tmps w g0):∀(rs:List PR) (jL:List ResultVar) (m m':Ms) (g:Gh) (xs:List V) (n:Nat),Rel w0 cl0 { L.st with ms:=m } tmps w g→
 fl (fun _=>True) g0 L.st.ms g m→kD P rs jL=true→pd L m rs=some (xs,m')→
 ∃vs g',(jL.mapM (py tmps)).run P w=.ok vs w∧Rel w0 cl0 { L.st with ms:=m' } tmps w g'∧ml w g' n xs vs∧fl (fun k=>n≤k) g m g' m'∧vs.length=rs.length:=by
 intro rs;induction rs with
 |nil=>
  intro jL m m' g xs n R T hc h;simp [pd] at h;obtain ⟨rfl,rfl⟩:=h;cases jL with
  |nil=>exact ⟨[],g,by simp [zH],R,trivial,.refl _ _ _,rfl⟩
  |cons rv jL=>cases rv<;>simp [kD] at hc
 |cons r rs ih=>
  intro jL m m' g xs n R T hc h;cases jL with
  |nil=>cases r<;>simp [kD] at hc
  |cons rv jL=>
   simp only [pd] at h;split at h
   ·rename_i a ha;split at h
    ·rename_i x m1 hx;split at h
     ·rename_i vn m2 lq;simp at h;obtain ⟨rfl,rfl⟩:=h;obtain ⟨v,hr,ch,qa⟩:=NM R0 hc ha;obtain ⟨g1,R1,T1,hv⟩:=yr R (T.ra ch) hx n;obtain ⟨vs,g2,oT,R2,jC,T2,hlen⟩:=ih jL m1 m2 g1 vn (n+x.flat.length) R1 (T.trans (T1.sD fun _ _=>trivial)) qa lq
      exact ⟨v::vs,g2,MZ _ _ _ _ _ hr oT,R2,⟨T2.VO (fun k h1 h2=>by omega) hv,jC⟩,
       (T1.sD fun k hk=>hk.1).trans (T2.sD fun k hk=>by omega),by simp [hlen]⟩
     ·cases h
    ·cases h
   ·cases h
def wW (I:dv) (m:Ms) (w:World) (g:Gh):Prop:=∀i∈I.io,∀rt,(m i).1=some rt→ku w g i rt∧wS I i (some rt) g
theorem Rel.ON {S:St} {tmps:Array Value} (R:Rel w0 cl0 S tmps w g):wW cl0 S.ms w g:=fun i hi rt h=>⟨R.rt i rt h,h▸R.fK i hi⟩
def Gh.jw (g:Gh) (r:Nat):Gh where
 cl:=fun b=>match g.cl b with
  |.own (n+1) j ρ=>if n=r then .own 0 j ρ else .own (n+1) j ρ
  |c=>c
 hd:=fun n j ρ=>if n=0 then g.hd (r+1) j ρ else g.hd n j ρ
 bk:=g.bk
theorem Gh.Lt {r b:Nat} {k:Bool}:(g.jw r).cl b=kc k↔g.cl b=kc k:=by
 simp only [Gh.jw];cases h:g.cl b with
 |own n j ρ=>
  cases n with
  |zero=>cases k<;>simp [kc]
  |succ n=>simp only;split<;>cases k<;>simp [kc]
 |_=>exact .rfl
theorem Gh.QM {r b:Nat}:((g.jw r).cl b).ck=(g.cl b).ck:=by
 simp only [Gh.jw];cases h:g.cl b with
 |own n j ρ=>
  cases n with
  |zero=>rfl
  |succ n=>simp only;split<;>rfl
 |_=>rfl
theorem Gh.QN {r b:Nat}:(g.jw r).cl b=.no↔g.cl b=.no:=by
 simp only [Gh.jw];cases h:g.cl b with
 |own n j ρ=>
  cases n with
  |zero=>simp
  |succ n=>simp only;split<;>simp
 |_=>exact .rfl
structure wQ (I:dv) (w0 w:World) (g:Gh):Prop where
 sz:w0.heap.size≤w.heap.size
 fr:∀b,b<w0.heap.size→(I.g.cl b).ck=false→w.heap[b]?=w0.heap[b]?
 im:∀b k,g.cl b=kc k↔I.g.cl b=kc k
 bd:∀b,g.cl b≠.no→b<w.heap.size
 mi:∀b,b<w0.heap.size→(g.cl b).ck=true→(I.g.cl b).ck=true
 sd:eB w0 w
theorem Rel.base {S:St} {tmps:Array Value} (R:Rel w0 cl0 S tmps w g):wQ cl0 w0 w g:=⟨R.sz,R.fr,R.im,R.bd,R.mi,R.sd⟩
theorem UU {S:St} {tmps:Array Value} (R:Rel w0 cl0 S tmps w g) {a:AV} {v:Value} {x:V} {m':Ms} (ha:RA w g S.ms a v) (h:tw S.ms a=some (x,m')):
 ∃g',kY w g' x v∧wW cl0 m' w g'∧wQ cl0 w0 w g':=by
 have plain:ie S.ms a=some (x,m')→(∃g',kY w g' x v∧wW cl0 m' w g'∧wQ cl0 w0 w g'):=by
  intro h;obtain ⟨g',R',_,hv⟩:=yr R ha h 0;refine ⟨g',?_,R'.ON,R'.base⟩;cases x with
  |one c=>exact hv
  |st cs=>exact hv
  |ptr=>exact hv.elim
  |a_=>exact hv.elim
 cases a with
 |bx r j=>
  cases j with
  |succ j=>exact plain (by simpa only [tw] using h)
  |zero=>
   simp only [tw] at h;split at h
   ·rename_i cs hm;split at h
    ·rename_i xR;simp at h;obtain ⟨rfl,rfl⟩:=h;cases ha;obtain ⟨bq,vals,E,hw,hl,hc⟩:=R.rt r _ hm;have c_:∀b k,g.cl b=kc k→w.heap[b]?=w.heap[b]?∧(g.jw r).cl b=kc k:=fun b k h=>⟨rfl,Gh.Lt.2 h⟩
     refine ⟨g.jw r,⟨r,g.bk r,vals,E,rfl,by simp [Gh.jw,bq],hw,by simpa using hl.symm,fun i c y h1 h2=>?_⟩,fun i hi rt h1=>?_,?_⟩
     ·have h3:=hc i c y h1 (by simpa using h2);rw [zo];have e_:=ze.1 xR c (zp h1);refine h3.mono c_ (fun b ρ hb=>⟨rfl,by simp [Gh.jw,hb]⟩) (fun ρ=>by simp [Gh.jw]) (fun r1 j1 e=>?_);subst e;simp [C.bA] at e_
     ·have bm:i≠r:=fun e=>by subst e;simp [az] at h1
      simp only [fk bm] at h1;refine ⟨(R.rt i rt h1).mono c_ (fun b j ρ hb=>⟨rfl,by simp [Gh.jw,hb,bm]⟩) (fun bH e=>⟨rfl,rfl,?_⟩) (fun j ρ=>by simp [Gh.jw]) (fun _ _ _ _=>by simp [Gh.jw]),?_⟩
      ·have:=R.rt i rt h1;subst e;simp [Gh.jw,this.1]
      ·have h4:=R.fK i hi;rw [h1] at h4;cases rt with
       |an=>exact fun j=>by simp only [Gh.jw];exact h4 j
       |bx=>exact h4
     ·have B:=R.base;exact ⟨B.sz,B.fr,fun b k=>Gh.Lt.trans (B.im b k),fun b h=>B.bd b (fun e=>h (Gh.QN.2 e)),fun b hb h=>B.mi b hb (by rwa [Gh.QM] at h),B.sd⟩
    ·cases h
   ·cases h
 |_=>exact plain (by simpa only [tw] using h)
theorem aag {i i' j':Nat} {c:C}:∀(cs:List C) (j:Nat),(i',j',c)∈nv i j cs→i'=i∧j≤j'∧cs[j'-j]?=some c:=by
 intro cs;induction cs with
 |nil=>intro j h;simp [nv] at h
 |cons b cs ih=>
  intro j h
  have step:(i',j',c)∈nv i (j+1) cs→i'=i∧j≤j'∧(b::cs)[j'-j]?=some c:=fun h=>by
   obtain ⟨h1,h2,h3⟩:=ih _ h;exact ⟨h1,by omega,by rw [show j'-j=(j'-(j+1))+1 from by omega];simpa using h3⟩
  simp only [nv] at h;split at h
  ·rcases zm.1 h with h|h
   ·simp at h;obtain ⟨rfl,rfl,rfl⟩:=h;exact ⟨rfl,zg _,by simp⟩
   ·exact step h
  ·exact step h
theorem aaf {i i' j':Nat} {c:C}:∀(cs:List C) (j:Nat),(i',j',c)∈qF i j cs→i'=i∧j≤j'∧cs[j'-j]?=some c:=by
 intro cs;induction cs with
 |nil=>intro j h;simp [qF] at h
 |cons b cs ih=>
  intro j h;simp only [qF] at h;rcases zm.1 h with h|h
  ·simp at h;obtain ⟨rfl,rfl,rfl⟩:=h;exact ⟨rfl,zg _,by simp⟩
  ·obtain ⟨h1,h2,h3⟩:=ih _ h;exact ⟨h1,by omega,by rw [show j'-j=(j'-(j+1))+1 from by omega];simpa using h3⟩
theorem aae (i:Nat):∀(cs:List C) (j:Nat),(qF i j cs).length=cs.length:=by
 intro cs;induction cs with
 |nil=>intro j;rfl
 |cons c cs ih=>intro j;simp [qF,ih]
theorem UW {xs:List V} {m:Ms} {i:Nat} {cs cs0:List C} (h1:(m i).1=some (.bx cs)) (h2:xs[i]?=some (.ptr cs0)):∀(is:List Nat) {us:List (Nat×Nat×C)},l3 xs m is=some us→i∈is→cs.length≤us.length:=by
 intro is;induction is with
 |nil=>intro us _ hm;simp at hm
 |cons i0 is ih=>
  intro us h hm;simp only [l3] at h;split at h
  ·rename_i l h3;split at h
   ·rename_i l2 h4;simp at h;subst h;rcases zm.1 hm with e|hm
    ·subst e;simp only [h1,h2,zt] at h3;subst h3;simp [aae]
    ·have:=ih h4 hm;simp only [List.length_append];omega
   ·cases h
  ·cases h
theorem UX {xs:List V} {m:Ms} {i j:Nat} {c:C}:∀(is:List Nat) {us:List (Nat×Nat×C)},l3 xs m is=some us→(i,j,c)∈us→i∈is∧
 ((∃cs x,(m i).1=some (.an cs)∧xs[i]?=some x∧cs[j]?=some c∧j<x.flat.length)∨∃cs cs0,(m i).1=some (.bx cs)∧xs[i]?=some (.ptr cs0)∧cs[j]?=some c):=by
 intro is;induction is with
 |nil=>intro us h hm;simp [l3] at h;subst h;simp at hm
 |cons i0 is ih=>
  intro us h hm;simp only [l3] at h;split at h
  ·rename_i l h1;split at h
   ·rename_i l2 h2;simp at h;subst h;rcases zC.1 hm with hm|hm
    ·split at h1
     ·rename_i cs x e1 e2;split at h1
      ·rename_i hl;simp at h1;subst h1;obtain ⟨rfl,_,h3⟩:=aag cs 0 hm;simp only [zw] at h3;exact ⟨by simp,.inl ⟨cs,x,e1,e2,h3,by have:=bE h3;omega⟩⟩
      ·cases h1
     ·rename_i cs cs0 e1 e2;simp at h1;subst h1;obtain ⟨rfl,_,h3⟩:=aaf cs 0 hm;simp only [zw] at h3;exact ⟨by simp,.inr ⟨cs,cs0,e1,e2,h3⟩⟩
     ·cases h1
    ·obtain ⟨h3,h4⟩:=ih h2 hm;exact ⟨by simp [h3],h4⟩
   ·cases h
  ·cases h
end
end
section
def qR (P:Program) (κ:Nat→FuncId) (f:FuncId) (F:PF):Bool:=
 match P.funcs[f]? with
 |some fn=>match fn.body with
  |some c=>(fn.name != "runtime.NumGoroutine")&&(fX P κ fn.ntmps F.io F.body c&&kD P F.res fn.results.toList)
  |none=>false
 |none=>false
section
variable {P:Program} {κ:Nat→FuncId} {Γ:Env} {w:World} {g:Gh}
theorem MJ:∀(xs:List V) (i n:Nat),(dM i xs).get n=if i≤n then (match xs[n-i]? with|some x=>((imp n x).1,(imp n x).2)|none=>(.un,none)) else (.un,none):=by
 intro xs;induction xs with
 |nil=>intro i n;simp [dM,AL.get]
 |cons x xs ih=>
  intro i n;simp only [dM,AL.get];by_cases e:n=i
  ·subst e;simp
  ·rw [if_neg e,ih];by_cases h:i≤n
   ·rw [if_pos (by omega),if_pos h,show n-i=(n-(i+1))+1 from by omega,zy]
   ·rw [if_neg (by omega),if_neg h]
def Gh.start (g:Gh) (args:Array Value):Gh where
 cl:=g.cl
 hd:=g.hd
 bk:=fun i=>match args[i]? with
  |some (.pointer (some a))=>a.block
  |_=>0
theorem wL {args:Array Value} {r j:Nat} {c:C} {x:Value} (h:RC w g r j c x):RC w (g.start args) r j c x:=
 h.mono (fun _ _ h=>⟨rfl,h⟩) (fun _ _ h=>⟨rfl,h⟩) (fun _=>rfl) (fun _ _ _=>rfl)
theorem JV {x:V} (h:x.mm=true):x.plain=true:=by
 cases x<;>first|exact h|(simp [V.mm] at h)
theorem Wb {args:Array Value} {xs:List V} {io:List Nat} (k:Nat) (cg:args.size=xs.length) (dU:∀b,g.cl b≠.no→b<w.heap.size)
 (ch:∀(i:Nat) (x:V) (v:Value),xs[i]?=some x→args[i]?=some v→jb w g i x v) (dm:xs.all V.mm=true) (nF:io.all (fun i=>((dM 0 xs).get i).2.isSome)=true):
 Rel w ⟨g.start args,io⟩ (dM 0 xs).st (args++zD k undef) w (g.start args):=by
 have bL:∀n,(dM 0 xs).get n=match xs[n]? with|some x=>((imp n x).1,(imp n x).2)|none=>(.un,none):=fun n=>by rw [MJ];simp
 have cQ:∀n,(dM 0 xs).st.av n=match xs[n]? with|some x=>(imp n x).1|none=>.un:=fun n=>by
  simp only [AL.st,bL];cases xs[n]?<;>rfl
 have nI:∀n,(dM 0 xs).st.ms n=(match xs[n]? with|some x=>(imp n x).2|none=>none,[]):=fun n=>by
  simp only [AL.st,bL];cases xs[n]?<;>rfl
 have hv:∀(n:Nat) (x:V),xs[n]?=some x→∃v,args[n]?=some v∧(args++zD k undef).getD n undef=v∧jb w g n x v∧x.mm=true:=by
  intro n x hx;have ae:=bE hx;have h1:args[n]?=some args[n]:=by simp [show n<args.size from by omega]
  refine ⟨args[n],h1,?_,ch n x _ hx h1,ze.1 dm x (zp hx)⟩;rw [Array.getD_eq_getD_getElem?,Array.getElem?_append_left (by omega),h1];rfl
 have xL:∀r j p,(dM 0 xs).st.ms.b_ r j p=false:=fun r j p=>by simp [Ms.b_,nI]
 have SG:∀{r j:Nat} {x:V} {v:Value},iM w g r j x v→iM w (g.start args) r j x v:=by
  intro r j x v h;cases x with
  |one c=>exact ⟨wL h.1,h.2⟩
  |st cs=>obtain ⟨vs,h1,h2,h3⟩:=h;exact ⟨vs,h1,h2,fun i c y h4 h5=>wL (h3 i c y h4 h5)⟩
  |ptr=>exact h
  |a_=>exact h
 have cj:∀n rt,((dM 0 xs).st.ms n).1=some rt→ku w (g.start args) n rt∧rt.cells.all C.bA=true:=by
  intro n rt h;rw [nI] at h;simp only at h;cases hx:xs[n]? with
  |none=>rw [hx] at h;cases h
  |some x=>
   rw [hx] at h;simp only at h;obtain ⟨v,lp,eM,m_,th⟩:=hv n x hx;by_cases hp:∃cs,x=.ptr cs
   ·obtain ⟨cs,rfl⟩:=hp;simp [imp] at h;subst h;obtain ⟨b,vals,E,rfl,h2,h3,h4,h5⟩:=m_;have hb:(g.start args).bk n=b:=by simp [Gh.start,lp]
    refine ⟨⟨by rw [hb];exact h2,vals,E,by rw [hb];exact h3,by simpa using h4.symm,fun j c y h6 h7=>?_⟩,th⟩;have:=h5 j c y h6 (by simpa using h7);rw [zo] at this;exact wL this
   ·have hn:∀cs,x≠.ptr cs:=fun cs e=>hp ⟨cs,e⟩
    rw [rH hn] at h;split at h
    ·rename_i fR;simp at h;subst h;have h_:x.eu=x.flat:=by cases x<;>first|rfl|(simp [V.mm] at th)
     rw [h_] at fR
     have h3:iM w g (n+1) 0 x v∧(x.flat.any C.cY=true→∀(j:Nat) (y:Value),v.cells[j]?=some y→g.hd (n+1) j []=y):=by
      cases x with
      |ptr cs=>exact absurd rfl (hn cs)
      |a_=>exact m_.elim
      |one=>exact m_
      |st=>exact m_
     obtain ⟨h4,h5⟩:=qL h3.1;refine ⟨fun j c hj=>?_,wC (JV th) hn⟩;rw [h_] at hj;have ae:=bE hj
     have hy:v.cells[j]?=some v.cells[j]:=by
      have:j<v.cells.size:=by rw [h4] at ae;simpa using ae
      simp [this]
     have h6:=h5 j c _ hj (by rw [Array.getElem?_toList];exact hy);rw [zo] at h6;have h7:=h3.2 fR j _ hy;show RC w (g.start args) (n+1) j c (g.hd (n+1) j []);rw [h7];exact wL h6
    ·cases h
 refine { av:=fun n=>?_,rt:=fun n rt h=>(cj n rt h).1,eT:=fun n r h=>?_,eA:=fun n rt j r j' h h1=>?_,bd:=dU,sz:=zg _,fr:=fun _ _ _=>rfl,
          im:=fun _ _=>.rfl,mi:=fun _ _ h=>h,sd:=.refl _,fK:=fun i hi=>?_ }
 ·rw [cQ];cases hx:xs[n]? with
  |none=>exact .un _
  |some x=>
   obtain ⟨v,lp,eM,m_,th⟩:=hv n x hx;rw [eM];simp only;by_cases hp:∃cs,x=.ptr cs
   ·obtain ⟨cs,rfl⟩:=hp;obtain ⟨b,vals,E,rfl,_⟩:=m_;have hb:(g.start args).bk n=b:=by simp [Gh.start,lp]
    have:=RA.bx (w:=w) (g:=g.start args) (m:=(dM 0 xs).st.ms) n 0;rw [hb] at this;exact this
   ·have hn:∀cs,x≠.ptr cs:=fun cs e=>hp ⟨cs,e⟩
    have h3:iM w g (n+1) 0 x v:=by
     cases x with
     |ptr cs=>exact absurd rfl (hn cs)
     |a_=>exact m_.elim
     |one=>exact m_.1
     |st=>exact m_.1
    obtain ⟨h4,h5⟩:=qL h3;have himp:(imp n x).1=oZ n 0 x:=by cases x<;>first|rfl|exact absurd rfl (hn _)|exact m_.elim
    rw [himp];refine x_ (SG h3) (fun i c y h6 h7=>?_);have:=h5 i c y h6 (by simpa using h7);rw [zo] at this ⊢;exact pw (wL this)
 ·rw [cQ] at h;cases hx:xs[n]? with
  |none=>rw [hx] at h;simp [AV.refs] at h
  |some x=>
   rw [hx] at h;simp only at h;obtain ⟨v,lp,eM,m_,th⟩:=hv n x hx;by_cases hp:∃cs,x=.ptr cs
   ·obtain ⟨cs,rfl⟩:=hp;simp [imp,AV.refs] at h;subst h;rw [nI,hx];rfl
   ·have hn:∀cs,x≠.ptr cs:=fun cs e=>hp ⟨cs,e⟩
    obtain ⟨rfl,h2⟩:=o6 (JV th) hn h;rw [nI,hx];simp only [rH hn,if_pos h2];rfl
 ·have:=ze.1 (cj n rt h).2 _ (zp h1);simp [C.bA] at this
 ·have h:=ze.1 nF i hi;have h2:((dM 0 xs).st.ms i).1=((dM 0 xs).get i).2:=rfl;rw [h2];cases h3:((dM 0 xs).get i).2 with
  |none=>rw [h3] at h;cases h
  |some rt=>cases rt with
   |an=>exact fun _=>rfl
   |bx=>rfl
def Bb:List Value→Value
 |[v]=>v
 |vs=>.tuple vs.toArray
theorem VM {fn:Func} {tmps:Array Value} {vs:List Value} (h:(fn.results.toList.mapM (py tmps)).run P w=.ok vs w):
 (results fn tmps).run P w=.ok (Bb vs) w:=by
 have h1:(fn.results.mapM (py tmps)).run P w=.ok vs.toArray w:=by
  rw [Array.mapM_eq_mapM_toList];simp [h]
 have h2:results fn tmps=(do
  let vs ←fn.results.mapM (py tmps)
  pure (if h:vs.size=1 then vs[0] else .tuple vs)):=by
  unfold results;congr 1
 rw [h2];simp only [Sem.run_bind,h1,Result.andThen_ok,Sem.run_pure];congr 1
 match vs with
 |[]=>rfl
 |[v]=>rfl
 |v::v2::vs=>simp [Bb]
theorem PN {f:FuncId} {F:PF} (hc:qR P κ f F=true):pK P f=true:=by
 unfold qR at hc;unfold pK;split at hc
 ·rename_i fn lk;split at hc
  ·rename_i code iQ;simp only [za] at hc;simp [lk,iQ,hc.1]
  ·cases hc
 ·cases hc
theorem Qy (hm:P.follows .mixedOrders=true) {f:FuncId} {F:PF} (hc:qR P κ f F=true) (hk:mh P κ Γ F.body.keys) {fuel:Nat} {xs:List V} {r:V} {us:List (Nat×Nat×C)}
 (h:prun Γ fuel F xs=some (r,us)):OK P f xs r us:=by
 intro w args g cg dU ch;unfold qR at hc;split at hc
 ·rename_i fn lk;split at hc
  ·rename_i code iQ;simp only [za] at hc
   replace hc:=hc.2
   unfold prun at h;split at h
   ·rename_i dA;simp only [za] at dA;have R:=Wb (io:=F.io) (fn.ntmps-args.size) cg dU ch dA.1 dA.2;refine calls_of_wp lk iQ (Va (w0:=w) (cl0:=⟨g.start args,F.io⟩) (N:=fn.ntmps) hm fuel F.body code hc.1 hk _ (dM 0 xs) _ w ?_ ⟨_,R,rfl,by simp;omega⟩)
    have key:∀L,finish F xs L=some (r,us)→∀a w',fg w ⟨g.start args,F.io⟩ fn.ntmps L.st a w'→a.defers=[]∧∃v,(results fn a.tmps).run P w'=.ok v w'∧
     ∃v1 g',(Ending.returned v)=.returned v1∧kY w' g' r v1∧Left w g xs args us w' g':=by
     intro L hf a w' hs;obtain ⟨g1,R1,xG,_⟩:=hs;refine ⟨xG,?_⟩;unfold finish at hf
     have DG:∃x m,rO F L=some (x,m)∧l3 xs m F.io=some us∧x=r:=by
      split at hf
      ·rename_i x m h1;split at hf
       ·rename_i us1 h2;simp at hf;obtain ⟨rfl,rfl⟩:=hf;exact ⟨x,m,h1,h2,rfl⟩
       ·cases hf
      ·cases hf
     obtain ⟨x,m,h1,h2,rfl⟩:=DG
     have Sk:∃vs g',(fn.results.toList.mapM (py a.tmps)).run P w'=.ok vs w'∧kY w' g' x (Bb vs)∧wW ⟨g.start args,F.io⟩ m w' g'∧wQ ⟨g.start args,F.io⟩ w w' g':=by
      have bW:=hc.2;unfold rO at h1;split at h1
      ·rename_i pr Sy;rw [Sy] at bW;split at h1
       ·rename_i av cQ;cases ln:fn.results.toList with
        |nil=>rw [ln] at bW;cases pr<;>simp [kD] at bW
        |cons rv jL=>
         rw [ln] at bW;obtain ⟨v,q1,q2,q3⟩:=NM R1 bW cQ
         have:jL=[]:=by
          cases jL with
          |nil=>rfl
          |cons VP jL=>cases VP<;>simp [kD] at q3
         subst this;obtain ⟨g',q4,q5,q6⟩:=UU R1 q2 h1;exact ⟨[v],g',MZ _ _ _ _ _ q1 (by simp [zH]),q4,q5,q6⟩
       ·cases h1
      ·rename_i bm;split at h1
       ·rename_i ys m1 SX;simp at h1;obtain ⟨rfl,rfl⟩:=h1;obtain ⟨vs,g',q1,q2,q3,q4,q5⟩:=UY R1 F.res fn.results.toList L.st.ms m1 g1 ys 0 R1 (.refl _ _ _) bW SX
        have hlen:∀v,vs≠[v]:=by
         intro v e;subst e;simp at q5
         match hF:F.res,q5 with
         |[pr],_=>exact bm pr hF
        refine ⟨vs,g',q1,?_,q2.ON,q2.base⟩
        have:Bb vs=.tuple vs.toArray:=by
         match vs,hlen with
         |[],_=>rfl
         |[v],h=>exact absurd rfl (h v)
         |_::_::_,_=>rfl
        rw [this];exact ⟨vs.toArray,rfl,by simpa using q3⟩
       ·cases h1
     obtain ⟨vs,g',q1,q2,q3,q4⟩:=Sk;refine ⟨_,VM q1,_,g',rfl,q2,?_⟩;refine { sd:=q4.sd,sz:=q4.sz,fr:=q4.fr,im:=q4.im,bd:=q4.bd,mi:=q4.mi,up:=fun i j c hu=>?_ };obtain ⟨hi,h3⟩:=UX F.io h2 hu;rcases h3 with ⟨cs,x1,e1,e2,e3,e4⟩|⟨cs,cs0,e1,e2,e3⟩
     ·obtain ⟨p1,p2⟩:=q3 i hi _ e1;have ae:=bE e2;have gU:args[i]?=some args[i]:=by simp [show i<args.size from by omega]
      have xZ:=ch i x1 _ e2 gU
      have qk:iM w g (i+1) 0 x1 args[i]∧(x1.flat.any C.cY=true→∀(j:Nat) (y:Value),(args[i]).cells[j]?=some y→g.hd (i+1) j []=y):=by
       cases x1 with
       |ptr cs=>simp [V.flat] at e4
       |a_=>exact xZ.elim
       |one=>exact xZ
       |st=>exact xZ
      have fR:x1.flat.any C.cY=true:=by
       have h5:=ze.1 dA.2 i hi;rw [MJ] at h5;simp only [Nat.zero_le,if_true,zw,e2] at h5;have hn:∀cs,x1≠.ptr cs:=fun cs e=>by subst e;simp [V.flat] at e4
       rw [rH hn] at h5;have h_:x1.eu=x1.flat:=by cases x1<;>first|rfl|exact xZ.elim
       rw [h_] at h5;cases h6:x1.flat.any C.cY with
       |true=>rfl
       |false=>rw [h6] at h5;simp at h5
      obtain ⟨h4,h5⟩:=qL qk.1
      have hy:(args[i]).cells[j]?=some (args[i]).cells[j]:=by
       have:j<(args[i]).cells.size:=by rw [h4] at e4;simpa using e4
       simp [this]
      have hx:=p1 j c e3;have hh:g'.hd (i+1) j []=(args[i]).cells[j]:=(p2 j).trans (qk.2 fR j _ hy);rw [hh] at hx;have RM:∃v x,args[i]?=some v∧v.cells[j]?=some x∧RC w' g' (i+1) j c x:=⟨_,_,gU,hy,hx⟩;rw [e2];cases x1 with
      |ptr cs=>simp [V.flat] at e4
      |_=>exact RM
     ·obtain ⟨p1,p2⟩:=q3 i hi _ e1;have ae:=bE e2;have gU:args[i]?=some args[i]:=by simp [show i<args.size from by omega]
      obtain ⟨b,vals,E,hb,_⟩:=ch i _ _ e2 gU;rw [hb] at gU;obtain ⟨p3,eO,E',p4,p5,p6⟩:=p1
      have iP:g'.bk i=b:=by
       have:g'.bk i=(g.start args).bk i:=p2;rw [this];simp [Gh.start,gU]
      rw [iP] at p3 p4;have hj:=bE e3;have hy:eO[j]?=some eO[j]:=by simp [show j<eO.size from by omega]
      rw [e2];exact ⟨b,eO,E',_,gU,p3,p4,(by rw [p5];exact UW e1 e2 F.io h2 hi),hy,p6 j c _ e3 hy⟩
    cases hp:bV Γ fuel F.body (dM 0 xs) with
    |fail=>rw [hp] at h;cases h
    |exit=>rw [hp] at h;cases h
    |norm L=>rw [hp] at h;exact fun a w' hs=>key L h a w' hs
    |ret L=>rw [hp] at h;exact fun a w' hs=>key L h a w' hs
   ·cases h
  ·cases hc
 ·cases hc
end
end
section
def Env.le (Γ hI:Env):Prop:=∀f xs y,Γ f xs=some y→hI f xs=some y
theorem Ec {Γ hI:Env} (hle:Env.le Γ hI) {ev:PX→AV} {d:Nat} {m:Ms} {op:aA} {z:AV×Option Rt×Ms} (h:ay Γ ev d m op=some z):ay hI ev d m op=some z:=by
 cases op with
 |call f io args=>
  simp only [ay] at h ⊢;cases io with
  |nil=>
   dsimp only at h ⊢;cases h1:dW m [] 0 (args.map ev) with
   |none=>rw [h1] at h;cases h
   |some xs=>
    rw [h1] at h;dsimp only at h ⊢;cases hg:Γ f xs with
    |none=>rw [hg] at h;cases h
    |some y=>rw [hg] at h;rw [hle _ _ _ hg];exact h
  |cons i io=>
   dsimp only at h ⊢;cases h1:args.map ev with
   |nil=>rw [h1] at h;cases h
   |cons a0 rest=>
    rw [h1] at h;dsimp only at h ⊢;cases hp:a0.ni m with
    |some y=>
     obtain ⟨r0,cs0⟩:=y;rw [hp] at h;dsimp only at h ⊢;cases h3:(if rest.any AV.kH=true then none else dW m [] 1 rest) with
     |none=>rw [h3] at h;cases h
     |some xs=>
      rw [h3] at h;dsimp only at h ⊢;cases hg:Γ f (.ptr cs0::xs) with
      |none=>rw [hg] at h;cases h
      |some y=>rw [hg] at h;rw [hle _ _ _ hg];exact h
    |none=>
    rw [hp] at h;dsimp only at h ⊢;cases h2:ie m a0 with
    |none=>rw [h2] at h;cases h
    |some y0=>
     obtain ⟨x0,m1⟩:=y0;rw [h2] at h;dsimp only at h ⊢;cases h3:dW m1 [] 1 rest with
     |none=>rw [h3] at h;cases h
     |some xs=>
      rw [h3] at h;dsimp only at h ⊢;cases hg:Γ f (x0::xs) with
      |none=>rw [hg] at h;cases h
      |some y=>rw [hg] at h;rw [hle _ _ _ hg];exact h
 |gM f i args=>
  simp only [ay] at h ⊢;split at h
  ·split at h
   ·split at h
    ·split at h
     ·rename_i hg;rw [hle _ _ _ hg];exact h
     ·cases h
    ·cases h
   ·cases h
  ·cases h
 |lG x args=>
  simp only [ay] at h ⊢;generalize ev x=v at h ⊢;cases v with
  |v k dd=>
   cases dd with
   |fn f ds=>
    dsimp only at h ⊢;cases h1:dW m [] 0 (args.map ev) with
    |none=>rw [h1] at h;cases h
    |some xs=>
     rw [h1] at h;dsimp only at h ⊢;cases hg:Γ f (xs++pL k ds) with
     |none=>rw [hg] at h;cases h
     |some y=>rw [hg] at h;rw [hle _ _ _ hg];exact h
   |_=>cases h
  |_=>cases h
 |_=>exact h
theorem Od {Γ hI:Env} (hle:Env.le Γ hI) {o:PO} {S S':St} (h:dP Γ o S=some S'):dP hI o S=some S':=by
 unfold dP at h ⊢;split at h
 ·split at h
  ·split at h
   ·rename_i a m fG;rw [Ec hle fG];exact h
   ·rename_i a r m fG;rw [Ec hle fG];exact h
   ·cases h
  ·split at h
   ·rename_i x m fG;rw [Ec hle fG];exact h
   ·cases h
 ·exact h
 ·cases h
theorem Jf {Γ hI:Env} (hle:Env.le Γ hI):∀{ops:List PO} {S S':St},eU Γ ops S=some S'→eU hI ops S=some S'∧f_ hI ops S=f_ Γ ops S:=by
 intro ops;induction ops with
 |nil=>intro S S' h;exact ⟨h,rfl⟩
 |cons o os ih=>
  intro S S' h;simp only [eU,f_] at h ⊢;split at h
  ·rename_i S1 h1;rw [Od hle h1];obtain ⟨h2,h3⟩:=ih h;exact ⟨h2,by simp only [h3]⟩
  ·cases h
theorem VG {Γ hI:Env} (hle:Env.le Γ hI) {live ai ops draw} {L:AL} {o:Out} (h:ir Γ live ai ops draw L=o) (ho:o≠.fail):ir hI live ai ops draw L=o:=by
 rcases Jg Γ live ai ops draw L with h1|⟨S,h1,h2,h3⟩
 ·rw [h1] at h;exact absurd h.symm ho
 ·obtain ⟨h4,h5⟩:=Jf hle h1;rw [←h];unfold ir at h3 ⊢;rw [h5,h4,h1]
theorem D4 {f f':AL→Out} (hf:∀L o,f L=o→o≠.fail→f' L=o):∀(n n':Nat),n≤n'→∀L o,iter f n L=o→o≠.fail→iter f' n' L=o:=by
 intro n;induction n with
 |zero=>intro n' _ L o h ho;exact absurd h.symm ho
 |succ n ih=>
  intro n' hn L o h ho;cases n' with
  |zero=>omega
  |succ n'=>
   simp only [iter] at h ⊢;cases h1:f L with
   |fail=>rw [h1] at h;exact absurd h.symm ho
   |norm L'=>
    rw [h1] at h;rw [hf L _ h1 (by simp)];exact ih n' (by omega) L' o h ho
   |exit i L'=>rw [h1] at h;rw [hf L _ h1 (by simp)];exact h
   |ret L'=>rw [h1] at h;rw [hf L _ h1 (by simp)];exact h
theorem l4 {Γ hI:Env} (hle:Env.le Γ hI) {n n':Nat} (hn:n≤n'):∀(c:PC) (L:AL) (o:Out),bV Γ n c L=o→o≠.fail→bV hI n' c L=o:=by
 intro c;induction c with
 |ext calls f=>
  intro L o h ho;simp only [bV] at h ⊢;split at h
  ·rename_i hc
   have qa:ny hI (calls L):=by
    unfold ny at hc ⊢;split at hc
    ·exact fun c hm=>hle _ _ _ (hc c hm)
    ·exact hc.elim
   rw [if_pos qa];exact h
  ·exact absurd h.symm ho
 |skip=>intro L o h _;exact h
 |dz live ai ops draw=>intro L o h ho;exact VG hle h ho
 |seq a b lr oY=>
  intro L o h ho;simp only [bV] at h ⊢;cases h1:bV Γ n a L with
  |fail=>rw [h1] at h;exact absurd h.symm ho
  |norm L'=>rw [h1] at h;rw [lr L _ h1 (by simp)];exact oY L' o h ho
  |exit i L'=>rw [h1] at h;rw [lr L _ h1 (by simp)];exact h
  |ret L'=>rw [h1] at h;rw [lr L _ h1 (by simp)];exact h
 |cond x a b lr oY=>
  intro L o h ho;simp only [bV] at h ⊢;cases h1:(L.st.ev x).asBool with
  |none=>rw [h1] at h;exact absurd h.symm ho
  |some t=>
   rw [h1] at h;cases t with
   |true=>exact lr L o h ho
   |false=>exact oY L o h ho
 |ah id c ih=>
  intro L o h ho;simp only [bV] at h ⊢;cases h1:bV Γ n c L with
  |fail=>rw [h1] at h;exact absurd h.symm ho
  |norm L'=>rw [h1] at h;rw [ih L _ h1 (by simp)];exact h
  |exit i L'=>rw [h1] at h;rw [ih L _ h1 (by simp)];exact h
  |ret L'=>rw [h1] at h;rw [ih L _ h1 (by simp)];exact h
 |loop c ih=>
  intro L o h ho;simp only [bV] at h ⊢;exact D4 ih n n' hn L o h ho
 |exit id=>intro L o h _;exact h
 |ret=>intro L o h _;exact h
theorem Nw {Γ hI:Env} (hle:Env.le Γ hI) {n n':Nat} (hn:n≤n') {F:PF} {xs:List V} {y} (h:prun Γ n F xs=some y):prun hI n' F xs=some y:=by
 unfold prun at h ⊢;split at h
 ·rename_i hc;rw [if_pos hc];cases h1:bV Γ n F.body (dM 0 xs) with
  |fail=>rw [h1] at h;cases h
  |norm L'=>rw [h1] at h;rw [l4 hle hn _ _ _ h1 (by simp)];exact h
  |exit i L'=>rw [h1] at h;cases h
  |ret L'=>rw [h1] at h;rw [l4 hle hn _ _ _ h1 (by simp)];exact h
 ·cases h
noncomputable def Gn (T:Nat→Option PF):Nat→Env
 |0=>fun _ _=>none
 |n+1=>fun f xs=>match T f with
  |some F=>prun (Gn T n) n F xs
  |none=>none
theorem O7 (T:Nat→Option PF):∀n,Env.le (Gn T n) (Gn T (n+1)):=by
 intro n;induction n with
 |zero=>intro f xs y h;cases h
 |succ n ih=>
  intro f xs y h;simp only [Gn] at h ⊢;split at h
  ·rename_i F hF;exact Nw ih (by omega) h
  ·cases h
theorem mj (T:Nat→Option PF) {n m:Nat} (h:n≤m):Env.le (Gn T n) (Gn T m):=by
 induction h with
 |refl=>intro f xs y h;exact h
 |step _ ih=>intro f xs y h;exact O7 T _ f xs y (ih f xs y h)
open Classical in
noncomputable def Gw (T:Nat→Option PF):Env:=fun f xs=>
 if h:∃n y,Gn T n f xs=some y then some (zx (zi h)) else none
theorem oj (T:Nat→Option PF) {f:Nat} {xs:List V} {y}:Gw T f xs=some y↔∃n,Gn T n f xs=some y:=by
 unfold Gw;constructor
 ·intro h;split at h
  ·rename_i hh;simp only [zt] at h;exact ⟨_,by rw [←h];exact zi (zi hh)⟩
  ·cases h
 ·intro ⟨n,h⟩;have hh:∃n y,Gn T n f xs=some y:=⟨n,y,h⟩;rw [dif_pos hh];have h1:=zi (zi hh);have h2:=mj T (zj (zx hh) n) _ _ _ h1;have h3:=mj T (zf (zx hh) n) _ _ _ h;rw [h2] at h3;exact h3
theorem O6 (T:Nat→Option PF) (n:Nat):Env.le (Gn T n) (Gw T):=fun f xs y h=>(oj T).2 ⟨n,h⟩
section
variable {T:Nat→Option PF}
theorem Eb {ev:PX→AV} {d:Nat} {m:Ms} {op:aA} {z:AV×Option Rt×Ms} (h:ay (Gw T) ev d m op=some z):∃n,ay (Gn T n) ev d m op=some z:=by
 cases op with
 |call f io args=>
  simp only [ay] at h ⊢;cases io with
  |nil=>
   dsimp only at h ⊢;cases h1:dW m [] 0 (args.map ev) with
   |none=>rw [h1] at h;cases h
   |some xs=>
    rw [h1] at h;dsimp only at h ⊢;cases hg:Gw T f xs with
    |none=>rw [hg] at h;cases h
    |some y=>
     rw [hg] at h;obtain ⟨n,hg⟩:=(oj T).1 hg;exact ⟨n,by rw [hg];exact h⟩
  |cons i io=>
   dsimp only at h ⊢;cases h1:args.map ev with
   |nil=>rw [h1] at h;cases h
   |cons a0 rest=>
    rw [h1] at h;dsimp only at h ⊢;cases hp:a0.ni m with
    |some y=>
     obtain ⟨r0,cs0⟩:=y;rw [hp] at h;dsimp only at h ⊢;cases h3:(if rest.any AV.kH=true then none else dW m [] 1 rest) with
     |none=>rw [h3] at h;cases h
     |some xs=>
      rw [h3] at h;dsimp only at h ⊢;cases hg:Gw T f (.ptr cs0::xs) with
      |none=>rw [hg] at h;cases h
      |some y=>
       rw [hg] at h;obtain ⟨n,hg⟩:=(oj T).1 hg;exact ⟨n,by rw [hg];exact h⟩
    |none=>
    rw [hp] at h;dsimp only at h ⊢;cases h2:ie m a0 with
    |none=>rw [h2] at h;cases h
    |some y0=>
     obtain ⟨x0,m1⟩:=y0;rw [h2] at h;dsimp only at h ⊢;cases h3:dW m1 [] 1 rest with
     |none=>rw [h3] at h;cases h
     |some xs=>
      rw [h3] at h;dsimp only at h ⊢;cases hg:Gw T f (x0::xs) with
      |none=>rw [hg] at h;cases h
      |some y=>
       rw [hg] at h;obtain ⟨n,hg⟩:=(oj T).1 hg;exact ⟨n,by rw [hg];exact h⟩
 |gM f i args=>
  simp only [ay] at h ⊢;split at h
  ·split at h
   ·split at h
    ·split at h
     ·rename_i hg;obtain ⟨n,hg⟩:=(oj T).1 hg;exact ⟨n,by rw [hg];exact h⟩
     ·cases h
    ·cases h
   ·cases h
  ·cases h
 |lG x args=>
  simp only [ay] at h ⊢;generalize ev x=v at h ⊢;cases v with
  |v k dd=>
   cases dd with
   |fn f ds=>
    dsimp only at h ⊢;cases h1:dW m [] 0 (args.map ev) with
    |none=>rw [h1] at h;cases h
    |some xs=>
     rw [h1] at h;dsimp only at h ⊢;cases hg:Gw T f (xs++pL k ds) with
     |none=>rw [hg] at h;cases h
     |some y=>
      rw [hg] at h;obtain ⟨n,hg⟩:=(oj T).1 hg;exact ⟨n,by rw [hg];exact h⟩
   |_=>cases h
  |_=>cases h
 |_=>exact ⟨0,h⟩
theorem Wf {o:PO} {S S':St} (h:dP (Gw T) o S=some S'):∃n,dP (Gn T n) o S=some S':=by
 unfold dP at h ⊢;split at h
 ·split at h
  ·split at h
   ·rename_i a m fG;obtain ⟨n,fG⟩:=Eb fG;exact ⟨n,by rw [fG];exact h⟩
   ·rename_i a r m fG;obtain ⟨n,fG⟩:=Eb fG;exact ⟨n,by rw [fG];exact h⟩
   ·cases h
  ·split at h
   ·rename_i x m fG;obtain ⟨n,fG⟩:=Eb fG;exact ⟨n,by rw [fG];exact h⟩
   ·cases h
 ·exact ⟨0,h⟩
 ·cases h
theorem VD:∀{ops:List PO} {S S':St},eU (Gw T) ops S=some S'→∃n,eU (Gn T n) ops S=some S':=by
 intro ops;induction ops with
 |nil=>intro S S' h;exact ⟨0,h⟩
 |cons o os ih=>
  intro S S' h;simp only [eU] at h ⊢;split at h
  ·rename_i S1 h1;obtain ⟨n1,h1⟩:=Wf h1;obtain ⟨n2,h2⟩:=ih h;refine ⟨max n1 n2,?_⟩;rw [Od (mj T (zj n1 n2)) h1];exact (Jf (mj T (zf n1 n2)) h2).1
  ·cases h
theorem VF {live ai ops draw} {L:AL} {o:Out} (h:ir (Gw T) live ai ops draw L=o) (ho:o≠.fail):∃n,ir (Gn T n) live ai ops draw L=o:=by
 rcases Jg (Gw T) live ai ops draw L with h1|⟨S,h1,h2,h3⟩
 ·rw [h1] at h;exact absurd h.symm ho
 ·obtain ⟨n,h4⟩:=VD h1;refine ⟨n,?_⟩;obtain ⟨h5,h6⟩:=Jf (O6 T n) h4;rw [←h];unfold ir at h3 ⊢;rw [←h6,h4,h1]
theorem Tj {c:PC} {fuel:Nat} (hf:∀L o,bV (Gw T) fuel c L=o→o≠.fail→∃n,bV (Gn T n) fuel c L=o):∀(k:Nat) L o,iter (bV (Gw T) fuel c) k L=o→o≠.fail→∃n,iter (bV (Gn T n) fuel c) k L=o:=by
 intro k;induction k with
 |zero=>intro L o h ho;exact absurd h.symm ho
 |succ k ih=>
  intro L o h ho;simp only [iter] at h ⊢;cases h1:bV (Gw T) fuel c L with
  |fail=>rw [h1] at h;exact absurd h.symm ho
  |norm L'=>
   rw [h1] at h;obtain ⟨n1,h1⟩:=hf L _ h1 (by simp);obtain ⟨n2,h2⟩:=ih L' o h ho;refine ⟨max n1 n2,?_⟩;rw [l4 (mj T (zj n1 n2)) (zg _) _ _ _ h1 (by simp)];exact D4 (fun L o=>l4 (mj T (zf n1 n2)) (zg _) c L o) k k (zg _) L' o h2 ho
  |exit i L'=>rw [h1] at h;obtain ⟨n1,h1⟩:=hf L _ h1 (by simp);exact ⟨n1,by rw [h1];exact h⟩
  |ret L'=>rw [h1] at h;obtain ⟨n1,h1⟩:=hf L _ h1 (by simp);exact ⟨n1,by rw [h1];exact h⟩
theorem PK {l:Option (List (Nat×List V×V))} (h:ny (Gw T) l):∃n,ny (Gn T n) l:=by
 cases l with
 |none=>exact h.elim
 |some cs=>
  simp only [ny] at h ⊢;induction cs with
  |nil=>exact ⟨0,fun c hc=>by simp at hc⟩
  |cons c cs ih=>
   obtain ⟨n1,h1⟩:=ih fun c hc=>h c (zz _ hc)
   obtain ⟨n2,h2⟩:=(oj T).1 (h c (by simp));refine ⟨max n1 n2,fun d hd=>?_⟩;rcases zm.1 hd with rfl|hd
   ·exact mj T (zf n1 n2) _ _ _ h2
   ·exact mj T (zj n1 n2) _ _ _ (h1 d hd)
theorem Nl {fuel:Nat}:∀(c:PC) (L:AL) (o:Out),bV (Gw T) fuel c L=o→o≠.fail→∃n,bV (Gn T n) fuel c L=o:=by
 intro c;induction c with
 |ext calls f=>
  intro L o h ho;simp only [bV] at h ⊢;split at h
  ·rename_i hc;obtain ⟨n,hn⟩:=PK hc;exact ⟨n,by rw [if_pos hn];exact h⟩
  ·exact absurd h.symm ho
 |skip=>intro L o h _;exact ⟨0,h⟩
 |dz live ai ops draw=>intro L o h ho;exact VF h ho
 |seq a b lr oY=>
  intro L o h ho;simp only [bV] at h ⊢;cases h1:bV (Gw T) fuel a L with
  |fail=>rw [h1] at h;exact absurd h.symm ho
  |norm L'=>
   rw [h1] at h;obtain ⟨n1,h1⟩:=lr L _ h1 (by simp);obtain ⟨n2,h2⟩:=oY L' o h ho;refine ⟨max n1 n2,?_⟩;rw [l4 (mj T (zj n1 n2)) (zg _) _ _ _ h1 (by simp)];exact l4 (mj T (zf n1 n2)) (zg _) _ _ _ h2 ho
  |exit i L'=>rw [h1] at h;obtain ⟨n1,h1⟩:=lr L _ h1 (by simp);exact ⟨n1,by rw [h1];exact h⟩
  |ret L'=>rw [h1] at h;obtain ⟨n1,h1⟩:=lr L _ h1 (by simp);exact ⟨n1,by rw [h1];exact h⟩
 |cond x a b lr oY=>
  intro L o h ho;simp only [bV] at h ⊢;cases h1:(L.st.ev x).asBool with
  |none=>rw [h1] at h;exact absurd h.symm ho
  |some t=>
   rw [h1] at h;cases t with
   |true=>exact lr L o h ho
   |false=>exact oY L o h ho
 |ah id c ih=>
  intro L o h ho;simp only [bV] at h ⊢;cases h1:bV (Gw T) fuel c L with
  |fail=>rw [h1] at h;exact absurd h.symm ho
  |norm L'=>rw [h1] at h;obtain ⟨n1,h1⟩:=ih L _ h1 (by simp);exact ⟨n1,by rw [h1];exact h⟩
  |exit i L'=>rw [h1] at h;obtain ⟨n1,h1⟩:=ih L _ h1 (by simp);exact ⟨n1,by rw [h1];exact h⟩
  |ret L'=>rw [h1] at h;obtain ⟨n1,h1⟩:=ih L _ h1 (by simp);exact ⟨n1,by rw [h1];exact h⟩
 |loop c ih=>
  intro L o h ho;simp only [bV] at h ⊢;exact Tj ih fuel L o h ho
 |exit id=>intro L o h _;exact ⟨0,h⟩
 |ret=>intro L o h _;exact ⟨0,h⟩
theorem O8 {f:Nat} {F:PF} {fuel:Nat} {xs:List V} {y} (hT:T f=some F) (h:prun (Gw T) fuel F xs=some y):Gw T f xs=some y:=by
 refine (oj T).2 ?_
 have h':∃n,prun (Gn T n) fuel F xs=some y:=by
  unfold prun at h ⊢;split at h
  ·rename_i hc;cases h1:bV (Gw T) fuel F.body (dM 0 xs) with
   |fail=>rw [h1] at h;cases h
   |norm L'=>rw [h1] at h;obtain ⟨n,h1⟩:=Nl _ _ _ h1 (by simp);exact ⟨n,by rw [if_pos hc,h1];exact h⟩
   |exit i L'=>rw [h1] at h;cases h
   |ret L'=>rw [h1] at h;obtain ⟨n,h1⟩:=Nl _ _ _ h1 (by simp);exact ⟨n,by rw [if_pos hc,h1];exact h⟩
  ·cases h
 obtain ⟨n,h'⟩:=h';refine ⟨max n fuel+1,?_⟩;simp only [Gn,hT];exact Nw (mj T (zj n fuel)) (zf n fuel) h'
theorem JI {P:Program} {κ:Nat→FuncId} (x9:κ=fI) (hm:P.follows .mixedOrders=true)
 (hc:∀f F,T f=some F→qR P κ (κ f) F=true∨(pK P (κ f)=true∧∀Γ fuel xs r us,og P κ Γ→prun Γ fuel F xs=some (r,us)→OK P (κ f) xs r us)):
 ∀f xs r us,Gw T f xs=some (r,us)→OK P (κ f) xs r us:=by
 have key:∀n,og P κ (Gn T n):=by
  intro n;induction n with
  |zero=>exact ⟨x9,fun f xs r us h=>(by cases h),fun f xs y h=>(by cases h)⟩
  |succ n ih=>
   refine ⟨x9,fun f xs r us h=>?_,fun f xs y h=>?_⟩
   ·simp only [Gn] at h;split at h
    ·rename_i F hF;rcases hc f F hF with hc|hc
     ·exact Qy hm hc ih h
     ·exact hc.2 _ _ _ _ _ ih h
    ·cases h
   ·simp only [Gn] at h;split at h
    ·rename_i F hF;rcases hc f F hF with hc|hc
     ·exact PN hc
     ·exact hc.1
    ·cases h
 intro f xs r us h;obtain ⟨n,h⟩:=(oj T).1 h;exact (key n).ok f xs r us h
theorem aaI {P:Program} {κ:Nat→FuncId} (x9:κ=fI) (hm:P.follows .mixedOrders=true) (hc:∀f F,T f=some F→qR P κ (κ f) F=true):
 ∀f xs r us,Gw T f xs=some (r,us)→OK P (κ f) xs r us:=JI x9 hm fun f F h=>.inl (hc f F h)
end
end
section
section
variable {Γ:Env} {Q:Out→Prop} {L:AL}
def Wp (Γ:Env) (c:PC) (Q:Out→Prop) (L:AL):Prop:=∃fuel o,bV Γ fuel c L=o∧o≠.fail∧Q o
theorem Env.le_refl (Γ:Env):Env.le Γ Γ:=fun _ _ _ h=>h
theorem Wp.mono {c:PC} {Q':Out→Prop} (h:Wp Γ c Q L) (hq:∀o,o≠.fail→Q o→Q' o):Wp Γ c Q' L:=by
 obtain ⟨n,o,h1,h2,h3⟩:=h;exact ⟨n,o,h1,h2,hq o h2 h3⟩
def pB (Γ:Env) (b:PC) (Q:Out→Prop):Out→Prop
 |.norm L'=>Wp Γ b Q L'
 |o=>Q o
def lF (id:Nat) (Q:Out→Prop):Out→Prop
 |.exit i L'=>if i=id then Q (.norm L') else Q (.exit i L')
 |o=>Q o
def nk (Q:Out→Prop):Out→Prop
 |.fail=>False
 |o=>Q o
theorem aat {calls:AL→Option (List (Nat×List V×V))} {f:AL→Option AL} {L':AL} (hc:ny Γ (calls L)) (hf:f L=some L') (h:Q (.norm L')):Wp Γ (.ext calls f) Q L:=
 ⟨0,.norm L',by simp only [bV];rw [if_pos hc,hf],by simp,h⟩
theorem wp_skip (h:Q (.norm L)):Wp Γ .skip Q L:=⟨0,_,rfl,by simp [bV],h⟩
theorem wp_exit {id:Nat} (h:Q (.exit id L)):Wp Γ (.exit id) Q L:=⟨0,_,rfl,by simp [bV],h⟩
theorem wp_ret (h:Q (.ret L)):Wp Γ .ret Q L:=⟨0,_,rfl,by simp [bV],h⟩
theorem wp_seq {a b:PC} (h:Wp Γ a (pB Γ b Q) L):Wp Γ (.seq a b) Q L:=by
 obtain ⟨n,o,h1,h2,h3⟩:=h;cases o with
 |fail=>exact absurd rfl h2
 |norm L'=>
  obtain ⟨m,o',h4,h5,h6⟩:=h3;refine ⟨max n m,o',?_,h5,h6⟩;simp only [bV];rw [l4 (Env.le_refl Γ) (zj n m) _ _ _ h1 h2];exact l4 (Env.le_refl Γ) (zf n m) _ _ _ h4 h5
 |exit i L'=>exact ⟨n,_,by simp only [bV];rw [h1],h2,h3⟩
 |ret L'=>exact ⟨n,_,by simp only [bV];rw [h1],h2,h3⟩
theorem aU {id:Nat} {c:PC} (h:Wp Γ c (lF id Q) L):Wp Γ (.ah id c) Q L:=by
 obtain ⟨n,o,h1,h2,h3⟩:=h;cases o with
 |fail=>exact absurd rfl h2
 |norm L'=>exact ⟨n,_,by simp only [bV];rw [h1],h2,h3⟩
 |exit i L'=>
  simp only [lF] at h3;by_cases e:i=id
  ·rw [if_pos e] at h3;exact ⟨n,_,by simp only [bV];rw [h1];simp only [if_pos e],by simp,h3⟩
  ·rw [if_neg e] at h3;exact ⟨n,_,by simp only [bV];rw [h1];simp only [if_neg e],by simp,h3⟩
 |ret L'=>exact ⟨n,_,by simp only [bV];rw [h1],h2,h3⟩
theorem wp_cond {x:PX} {a b:PC} {t:Bool} (ht:(L.st.ev x).asBool=some t) (h1:t=true→Wp Γ a Q L) (h2:t=false→Wp Γ b Q L):Wp Γ (.cond x a b) Q L:=by
 cases t with
 |true=>
  obtain ⟨n,o,h1,h2,h3⟩:=h1 rfl;exact ⟨n,o,by simp only [bV];rw [ht];exact h1,h2,h3⟩
 |false=>
  obtain ⟨n,o,h1,h2,h3⟩:=h2 rfl;exact ⟨n,o,by simp only [bV];rw [ht];exact h1,h2,h3⟩
theorem aau {live ai ops draw} (h:nk Q (ir Γ live ai ops draw L)):Wp Γ (.dz live ai ops draw) Q L:=by
 cases ho:ir Γ live ai ops draw L with
 |fail=>rw [ho] at h;exact h.elim
 |_=>rw [ho] at h;exact ⟨0,_,by simp only [bV];exact ho,by simp,h⟩
theorem wp_loop {c:PC} (h:Wp Γ c (pB Γ (.loop c) Q) L):Wp Γ (.loop c) Q L:=by
 obtain ⟨n,o,h1,h2,h3⟩:=h;cases o with
 |fail=>exact absurd rfl h2
 |norm L'=>
  obtain ⟨m,o',h4,h5,h6⟩:=h3;refine ⟨max n m+1,o',?_,h5,h6⟩;simp only [bV,iter];rw [l4 (Env.le_refl Γ) (show n≤max n m+1 by omega) _ _ _ h1 h2];simp only [bV] at h4;exact D4 (l4 (Env.le_refl Γ) (by omega) c) _ _ (zf n m) _ _ h4 h5
 |exit i L'=>exact ⟨n+1,_,by simp only [bV,iter];rw [l4 (Env.le_refl Γ) (show n≤n+1 by omega) _ _ _ h1 h2],h2,h3⟩
 |ret L'=>exact ⟨n+1,_,by simp only [bV,iter];rw [l4 (Env.le_refl Γ) (show n≤n+1 by omega) _ _ _ h1 h2],h2,h3⟩
def qU (F:PF) (xs:List V) (y:V×List (Nat×Nat×C)):Out→Prop
 |.ret L|.norm L=>finish F xs L=some y
 |_=>False
end
theorem dD {T:Nat→Option PF} {f:Nat} {F:PF} {xs:List V} {y} (hT:T f=some F)
 (hc:(xs.all V.mm&&F.io.all (fun i=>((dM 0 xs).get i).2.isSome))=true)
 (h:Wp (Gw T) F.body (qU F xs y) (dM 0 xs)):Gw T f xs=some y:=by
 obtain ⟨n,o,h1,h2,h3⟩:=h;refine O8 (fuel:=n) hT ?_;unfold prun;rw [if_pos hc,h1];cases o with
 |fail=>exact absurd rfl h2
 |norm L=>exact h3
 |ret L=>exact h3
 |exit i L=>exact h3.elim
end
section
abbrev di (n:Int):D:=.int .i64 n
abbrev vi (n:Int):V:=.one (.ro false (.int .i64 n))
abbrev vb (b:Bool):V:=.one (.ro false (.bool b))
section
variable {Γ:Env} {Q:Out→Prop} {L:AL}
theorem aV {live ai ops draw} (h:∀K:Out→Prop,(∀o,Q o→K o)→nk K (ir Γ live ai ops draw L)):Wp Γ (.dz live ai ops draw) Q L:=
 aau (h Q fun _ h=>h)
theorem aQ {b:PC} (h:Wp Γ b Q L):pB Γ b Q (.norm L):=h
theorem aP {b:PC} {i:Nat} (h:Q (.exit i L)):pB Γ b Q (.exit i L):=h
theorem aR {b:PC} (h:Q (.ret L)):pB Γ b Q (.ret L):=h
theorem aC {id:Nat} (h:Q (.norm L)):lF id Q (.norm L):=h
theorem aD {id:Nat} (h:Q (.ret L)):lF id Q (.ret L):=h
theorem aB {id:Nat} (h:Q (.norm L)):lF id Q (.exit id L):=by simp only [lF,if_true];exact h
theorem BP {id i:Nat} (hi:i≠id) (h:Q (.exit i L)):lF id Q (.exit i L):=by simp only [lF,if_neg hi];exact h
theorem aK {F:PF} {xs:List V} {y} (h:finish F xs L=some y):qU F xs y (.ret L):=h
theorem aJ {F:PF} {xs:List V} {y} (h:finish F xs L=some y):qU F xs y (.norm L):=h
theorem aW {x:PX} {a b:PC} (h:∃t,(L.st.ev x).asBool=some t∧(t=true→Wp Γ a Q L)∧(t=false→Wp Γ b Q L)):Wp Γ (.cond x a b) Q L:=by
 obtain ⟨t,h1,h2,h3⟩:=h;exact wp_cond h1 h2 h3
def uD (F:PF) (xs:List V) (Φ:V×List (Nat×Nat×C)→Prop):Out→Prop
 |.ret L|.norm L=>∃y,finish F xs L=some y∧Φ y
 |_=>False
theorem aG {F:PF} {xs:List V} {Φ} (h:∃y,finish F xs L=some y∧Φ y):uD F xs Φ (.ret L):=h
theorem aF {F:PF} {xs:List V} {Φ} (h:∃y,finish F xs L=some y∧Φ y):uD F xs Φ (.norm L):=h
theorem eW {T:Nat→Option PF} {f:Nat} {F:PF} {xs:List V} {Φ} (hT:T f=some F)
 (hc:(xs.all V.mm&&F.io.all (fun i=>((dM 0 xs).get i).2.isSome))=true)
 (h:Wp (Gw T) F.body (uD F xs Φ) (dM 0 xs)):∃y,Gw T f xs=some y∧Φ y:=by
 obtain ⟨n,o,h1,h2,h3⟩:=h;cases o with
 |fail=>exact absurd rfl h2
 |norm L=>
  obtain ⟨y,h4,h5⟩:=h3;exact ⟨y,dD hT hc ⟨n,.norm L,h1,h2,h4⟩,h5⟩
 |ret L=>
  obtain ⟨y,h4,h5⟩:=h3;exact ⟨y,dD hT hc ⟨n,.ret L,h1,h2,h4⟩,h5⟩
 |exit i L=>exact h3.elim
def uE (F:PF) (xs:List V) (Φ:Int→Prop):Out→Prop
 |.ret L|.norm L=>∃n,finish F xs L=some (vi n,[])∧Φ n
 |_=>False
theorem aI {F:PF} {xs:List V} {Φ} (h:∃n,finish F xs L=some (vi n,[])∧Φ n):uE F xs Φ (.ret L):=h
theorem aH {F:PF} {xs:List V} {Φ} (h:∃n,finish F xs L=some (vi n,[])∧Φ n):uE F xs Φ (.norm L):=h
theorem aaH {T:Nat→Option PF} {f:Nat} {F:PF} {xs:List V} {Φ:Int→Prop} (hT:T f=some F)
 (hc:(xs.all V.mm&&F.io.all (fun i=>((dM 0 xs).get i).2.isSome))=true)
 (h:Wp (Gw T) F.body (uE F xs Φ) (dM 0 xs)):∃n,Gw T f xs=some (vi n,[])∧Φ n:=by
 obtain ⟨y,h1,n,rfl,h2⟩:=eW (Φ:=fun y=>∃n,y=(vi n,[])∧Φ n) hT hc (h.mono fun o _ ho=>by
  cases o with
  |norm L=>obtain ⟨n,h1,h2⟩:=ho;exact ⟨_,h1,n,rfl,h2⟩
  |ret L=>obtain ⟨n,h1,h2⟩:=ho;exact ⟨_,h1,n,rfl,h2⟩
  |_=>exact ho.elim)
 exact ⟨n,h1,h2⟩
def rK {σ:Type} (I:σ→AL) (P:σ→Prop) (m:σ→Nat) (n:Nat) (Q:Out→Prop):Out→Prop
 |.norm L'=>∃s',L'=I s'∧P s'∧m s'<n
 |o=>Q o
theorem ba {c:PC} {σ:Type} (I:σ→AL) (P:σ→Prop) (m:σ→Nat) (s0:σ) (h0:L=I s0) (hP:P s0) (step:∀s,P s→Wp Γ c (rK I P m (m s) Q) (I s)):Wp Γ (.loop c) Q L:=by
 subst h0
 have key:∀n s,m s<n→P s→Wp Γ (.loop c) Q (I s):=by
  intro n;induction n with
  |zero=>intro s h;omega
  |succ n ih=>
   intro s h hP;refine wp_loop ((step s hP).mono fun o ho h1=>?_);cases o with
   |fail=>exact absurd rfl ho
   |norm L'=>
    obtain ⟨s',rfl,h2,h3⟩:=h1;exact ih s' (by omega) h2
   |exit i L'=>exact h1
   |ret L'=>exact h1
 exact key _ s0 (Nat.lt_succ_self _) hP
theorem aM {σ:Type} {I:σ→AL} {P:σ→Prop} {m:σ→Nat} {n:Nat} (h:∃s',L=I s'∧P s'∧m s'<n):rK I P m n Q (.norm L):=h
theorem aL {σ:Type} {I:σ→AL} {P:σ→Prop} {m:σ→Nat} {n i:Nat} (h:Q (.exit i L)):rK I P m n Q (.exit i L):=h
theorem aO {σ:Type} {I:σ→AL} {P:σ→Prop} {m:σ→Nat} {n:Nat} (h:Q (.ret L)):rK I P m n Q (.ret L):=h
theorem adV {n:Nat} (h:n<2^62):IntKind.wrap .i64 ((n:Int)+1)=((n+1:Nat):Int):=by
 simp [IntKind.wrap,IntKind.signed,IntKind.bits];omega
@[simp] theorem wrap_i64 {n:Int} (h1:-9223372036854775808≤n) (h2:n≤9223372036854775807):IntKind.wrap .i64 n=n:=by
 simp [IntKind.wrap,IntKind.signed,IntKind.bits];omega
@[simp] theorem wrap_u8 {n:Int} (h1:0≤n) (h2:n≤255):IntKind.wrap .u8 n=n:=by
 simp [IntKind.wrap,IntKind.signed,IntKind.bits];omega
theorem TZ {β:Type} {l:List (Nat×β)} {k:Nat} {b:β} (h:l.lookup k=some b):(k,b)∈l:=by
 induction l with
 |nil=>simp at h
 |cons x l ih=>
  obtain ⟨k',b'⟩:=x;rw [List.lookup_cons] at h;split at h
  ·rename_i e;have:=beq_iff_eq.1 e;subst this;simp at h;subst h;simp
  ·exact zz _ (ih h)
@[simp] theorem abc {α:Type} {n:Nat} (l r:List α) (x:α) (h:n=l.length):(l++x::r)[n]?=some x:=by subst h;simp
@[simp] theorem acd {α:Type} {n:Nat} (l r:List α) (x y:α) (h:n=l.length):(l++x::r).set n y=l++y::r:=by subst h;simp
theorem ab6 {α β:Type} (f:α→β) (pre:List α) (d:α) (rest:List α):((pre++d::rest).map f)[pre.length]?=some (f d):=by simp
end
section
variable {α β:Type}
def ob (x:Option α) (f:α→Option β):Option β:=match x with
 |some a=>f a
 |none=>none
@[simp] theorem abW (a:α) (f:α→Option β):ob (some a) f=f a:=rfl
@[simp] theorem abV (f:α→Option β):ob none f=none:=rfl
inductive Tag.{u} {α:Sort u} (x y:α):Type
 |mk:Tag x y
def jE (c:Prop) [Decidable c] (x y:α) (_:Tag x y):α:=if c then x else y
@[simp] theorem abH (x y:α) (t:Tag x y):jE True x y t=x:=rfl
@[simp] theorem abG (x y:α) (t:Tag x y):jE False x y t=y:=rfl
@[simp] theorem abU (c:Prop) [Decidable c] (x y:Option α) (f:α→Option β):ob (if c then x else y) f=jE c (ob x f) (ob y f) .mk:=by unfold jE;split<;>rfl
@[simp] theorem abT (c:Prop) [Decidable c] (x y:Option α) (t:Tag x y) (f:α→Option β):ob (jE c x y t) f=jE c (ob x f) (ob y f) .mk:=by unfold jE;split<;>rfl
def qK (c a b:Prop) (_:Tag a b):Prop:=(c→a)∧(¬c→b)
@[simp] theorem aaL (a b:Prop) (t:Tag a b):qK True a b t=a:=by simp [qK]
@[simp] theorem aaK (a b:Prop) (t:Tag a b):qK False a b t=b:=by simp [qK]
theorem aw {c a b:Prop} {t:Tag a b} (h1:c→a) (h2:¬c→b):qK c a b t:=⟨h1,h2⟩
def uK (a:AV) (want:Bool) (x y:Option St):Option St:=match a with
 |.v _ (.bool b)=>if b=want then x else y
 |.a_ []=>y
 |_=>none
@[simp] theorem abj (k b:Bool) (x y:Option St):uK (.v k (.bool b)) true x y=jE (b=true) x y .mk:=rfl
@[simp] theorem abi (k b:Bool) (x y:Option St):uK (.v k (.bool b)) false x y=jE (b=true) y x .mk:=by cases b<;>rfl
@[simp] theorem abk (want:Bool) (x y:Option St):uK (.a_ []) want x y=y:=rfl
def Jq (d:Nat) (S:St) (z:AV×Option Rt×Ms):Option St:=match z with
 |(a,none,m)=>some { av:=az S.av d a,ms:=m }
 |(a,some r,m)=>match m d with
  |(none,_)=>some { av:=az S.av d a,ms:=az m d (some r,[]) }
  |_=>none
def Jr (S:St) (z:AV×Option Rt×Ms):Option St:=match z with
 |(_,none,m)=>some { av:=S.av,ms:=m }
 |_=>none
def stepG (Γ:Env) (dst:Option Nat) (op:aA) (S:St):Option St:=match dst with
 |some d=>ob (ay Γ S.ev d S.ms op) (Jq d S)
 |none=>ob (ay Γ S.ev 0 S.ms op) (Jr S)
def Jn (dst:Option Nat) (S:St):Option St:=match dst with
 |some d=>some { S with av:=az S.av d (.a_ []) }
 |none=>some S
theorem Oc (Γ:Env) (dst:Option Nat) (op:aA) (S:St):dP Γ ⟨dst,op,none⟩ S=stepG Γ dst op S:=by
 cases dst with
 |some d=>
  show (match ay Γ S.ev d S.ms op with
   |some (a,none,m)=>some { av:=az S.av d a,ms:=m }
   |some (a,some r,m)=>match m d with
    |(none,_)=>some { av:=az S.av d a,ms:=az m d (some r,[]) }
    |_=>none
   |none=>none:Option St)=ob (ay Γ S.ev d S.ms op) (Jq d S)
  cases h:ay Γ S.ev d S.ms op with
  |none=>rfl
  |some z=>obtain ⟨a,r,m⟩:=z;cases r<;>rfl
 |none=>
  show (match ay Γ S.ev 0 S.ms op with
   |some (_,none,m)=>some { av:=S.av,ms:=m }
   |_=>none:Option St)=ob (ay Γ S.ev 0 S.ms op) (Jr S)
  cases h:ay Γ S.ev 0 S.ms op with
  |none=>rfl
  |some z=>obtain ⟨a,r,m⟩:=z;cases r<;>rfl
theorem Wj {Γ:Env} {o:PO} {S:St} (h:gd S o.g=some true):dP Γ o S=stepG Γ o.dst o.op S:=by
 rw [←Oc];unfold dP;rw [h];rfl
theorem Ob {Γ:Env} {o:PO} {S:St} (h:gd S o.g=some false):dP Γ o S=Jn o.dst S:=by
 unfold dP;rw [h];rfl
theorem Wg {Γ:Env} {o:PO} {S:St} (h:gd S o.g=none):dP Γ o S=none:=by
 unfold dP;rw [h]
theorem Wd (Γ:Env) (dst:Option Nat) (op:aA) (t:Nat) (want:Bool) (S:St):dP Γ ⟨dst,op,some (t,want)⟩ S=uK (S.av t) want (stepG Γ dst op S) (Jn dst S):=by
 have hg:gd S (some (t,want))=match S.av t with
  |.v _ (.bool b)=>some (b==want)
  |.a_ []=>some false
  |_=>none:=rfl
 unfold uK;split
 ·rename_i k b cQ;rw [cQ] at hg;by_cases hb:b=want
  ·rw [if_pos hb];exact Wj (hg.trans (by simp [hb]))
  ·rw [if_neg hb];exact Ob (hg.trans (by simp [hb]))
 ·rename_i cQ;rw [cQ] at hg;exact Ob hg
 ·rename_i h1 h2;refine Wg (hg.trans ?_);split
  ·rename_i k b cQ;exact absurd cQ (h1 k b)
  ·rename_i cQ;exact absurd cQ h2
  ·rfl
theorem VC (Γ:Env) (o:PO) (os:List PO) (S:St):eU Γ (o::os) S=ob (dP Γ o S) (eU Γ os):=by
 simp only [eU];cases dP Γ o S<;>rfl
theorem La (Γ:Env) (o:PO) (os:List PO) (S:St):f_ Γ (o::os) S=match dP Γ o S with
 |some S'=>(fQ S o,dJ S o)::f_ Γ os S'
 |none=>[]:=rfl
def mE (live:List Nat) (ai:List (Nat×Nat)):Option St→Out
 |some S=>.norm (settle live ai S)
 |none=>.fail
@[simp] theorem aa3 (live ai S):mE live ai (some S)=.norm (settle live ai S):=rfl
@[simp] theorem aa2 (live ai):mE live ai none=.fail:=rfl
@[simp] theorem aa1 (live ai) (c:Prop) [Decidable c] (x y:Option St):mE live ai (if c then x else y)=jE c (mE live ai x) (mE live ai y) .mk:=by unfold jE;split<;>rfl
@[simp] theorem aa0 (live ai) (c:Prop) [Decidable c] (x y:Option St) (t:Tag x y):mE live ai (jE c x y t)=jE c (mE live ai x) (mE live ai y) .mk:=by unfold jE;split<;>rfl
theorem VI (Γ:Env) (live ai ops) (L:AL):ir Γ live ai ops none L=mE live ai (eU Γ ops L.st):=by
 simp only [ir,if_true];cases eU Γ ops L.st<;>rfl
theorem VH (Γ:Env) (live ai ops) (L:AL):ir Γ live ai ops (some []) L=mE live ai (eU Γ ops L.st):=by
 simp only [ir,List.isEmpty_nil,Bool.true_or,if_true];cases eU Γ ops L.st<;>rfl
theorem VE (Γ:Env) (live ai ops p ps) (L:AL):ir Γ live ai ops (some (p::ps)) L=if qo (f_ Γ ops L.st) (p::ps)=true then mE live ai (eU Γ ops L.st) else .fail:=by
 simp only [ir,List.isEmpty_cons,Bool.false_or];cases eU Γ ops L.st<;>split<;>rfl
theorem Vw (Q:Out→Prop) (c:Prop) [Decidable c] (x y:Out):nk Q (if c then x else y)=qK c (nk Q x) (nk Q y) .mk:=by
 by_cases h:c<;>simp [h]
theorem Vv (Q:Out→Prop) (c:Prop) [Decidable c] (x y:Out) (t:Tag x y):nk Q (jE c x y t)=qK c (nk Q x) (nk Q y) .mk:=by
 by_cases h:c<;>simp [h,jE]
@[simp] theorem ab' (Q:Out→Prop) (L:AL):nk Q (.norm L)=Q (.norm L):=rfl
@[simp] theorem ab_ (Q:Out→Prop):nk Q .fail=False:=rfl
end
@[simp] theorem adT {α:Type} (f:Nat→α) (n:Nat) (x:α) (k:Nat):az f n x k=if k=n then x else f k:=rfl
@[simp] theorem acn (L:AL) (n:Nat):L.st.av n=(L.get n).1:=rfl
@[simp] theorem aco (L:AL) (n:Nat):L.st.ms n=((L.get n).2,[]):=rfl
attribute [simp] VI VH VE VC Oc Wd Vw Vv Jq Jr stepG Jn
 ay dM imp oZ lT iI o_ sC V.flat C.cY AL.get St.ev iq l7 AV.cells settle fu fj eN BM o7 pW fixC oo
 AV.asBool AV.asInt jG finish pd tX ie tw rO eH fm oB mB sw l3 Ms.b_ pC D.bF Ms.fq qS Ms.at Ms.cell Rt.cells D.fO D.put Rt.gG Ms.putAt ou kU pD C.nr iL
 lW lu C.bF dW jq kA kB AV.lent AV.vD eD V.plain V.qy V.bB V.pb C.bB C.bA jM Ms.take wP oD lU V.mm kP uv cut mr mD chunks qA pL AV.kH AV.vC AV.ni V.tr C.gB n9 sK nc List.contains_eq_mem o9 qC
attribute [simp] eU.eq_1
end
section
section
variable {P:Program} {H:Type} {enc:TypeId×Value→H} {w w':World}
inductive er (P:Program):TypeId→List D→Prop
 |int {t:TypeId} {k:IntKind} {n:Int}:P.underlying t=some (.int k)→(Lit.int k n).wf=true→er P t [.int k n]
 |bool {t:TypeId} {b:Bool}:P.underlying t=some .bool→er P t [.bool b]
 |str {t:TypeId} {s:ByteArray}:P.underlying t=some .string→s.size≤maxLen→er P t [.str s]
 |sl {t e:TypeId} {es:List (List D)}:P.underlying t=some (.slice e)→es.length≤maxLen→(∀x∈es,er P e x)→er P t [.sl (P.cellsOf e) es]
 |struct {t:TypeId} {fs:Array Field} {ds:List D}:P.underlying t=some (.struct fs)→ds.length=P.cellsOf t→
  (∀f∈fs.toList,er P f.type ((ds.drop f.offset).take (P.cellsOf f.type)))→er P t ds
def wN (P:Program) (n:Nat):Nat→List Field→Bool
 |o,[]=>o==n
 |o,f::fs=>f.offset==o&&wN P n (o+P.cellsOf f.type) fs
def I' (P:Program) (S:List TypeId) (t:TypeId):Bool:=
 match P.underlying t with
 |some .bool|some (.int _)|some .string=>P.cellsOf t==1
 |some (.slice e)=>S.contains e&&decide (0<P.cellsOf e)&&P.cellsOf t==1
 |some (.struct fs)=>(fs.toList.all fun f=>S.contains f.type)&&wN P (P.cellsOf t) 0 fs.toList
 |_=>false
def xg (P:Program) (S:List TypeId):Bool:=S.all (I' P S)
def wT (w:World) (cl:Nat→cG) (ds:List D) (vs:List Value):Prop:=∀(i:Nat) (d:D) (v:Value),ds[i]?=some d→vs[i]?=some v→RO w cl false d v
theorem TW {α:Type} {R:Nat→α→Prop}:∀(n:Nat),(∀i,i<n→∃x,R i x)→∃l:List α,l.length=n∧∀(i:Nat) (x:α),l[i]?=some x→R i x:=by
 intro n;induction n with
 |zero=>intro _;exact ⟨[],rfl,fun i x h=>by simp at h⟩
 |succ n ih=>
  intro h;obtain ⟨l,h1,h2⟩:=ih fun i hi=>h i (by omega)
  obtain ⟨x,hx⟩:=h n (by omega);refine ⟨l++[x],by simp [h1],fun i y hy=>?_⟩;by_cases hi:i<l.length
  ·rw [zu hi] at hy;exact h2 i y hy
  ·rw [zr (by omega)] at hy
   have:i-l.length=0:=by
    cases hk:i-l.length with
    |zero=>rfl
    |succ k=>rw [hk] at hy;simp at hy
   rw [this] at hy;simp at hy;subst hy;have:i=n:=by omega
   subst this;exact hx
theorem W5 {cl:Nat→cG} {cs:List Value} {n:Nat}:∀(fs:List Field) (o:Nat),wN P n o fs=true→
 (∀f∈fs,∃df,er P f.type df∧df.length=P.cellsOf f.type∧wT w cl df ((cs.drop f.offset).take (P.cellsOf f.type)))→
 ∃ds,o+ds.length=n∧(∀f∈fs,o≤f.offset∧er P f.type ((ds.drop (f.offset-o)).take (P.cellsOf f.type)))∧wT w cl ds (cs.drop o):=by
 intro fs;induction fs with
 |nil=>
  intro o h _;simp only [wN,beq_iff_eq] at h;exact ⟨[],by simpa using h,fun f hf=>by simp at hf,fun i d v hd=>by simp at hd⟩
 |cons f fs ih=>
  intro o h hf;simp only [wN,za,beq_iff_eq] at h;obtain ⟨rfl,h⟩:=h;obtain ⟨ds,h1,h2,h3⟩:=ih _ h fun g hg=>hf g (by simp [hg])
  obtain ⟨df,h4,h5,h6⟩:=hf f (by simp);refine ⟨df++ds,by simp;omega,fun g hg=>?_,fun i d v hd hv=>?_⟩
  ·rcases zm.1 hg with rfl|hg
   ·refine ⟨zg _,?_⟩;rw [Nat.sub_self,List.drop_zero,←h5,List.take_append_of_le_length (zg _),List.take_length];exact h4
   ·obtain ⟨q1,q2⟩:=h2 g hg;refine ⟨by omega,?_⟩;rw [List.drop_append,List.drop_eq_nil_of_le (by omega),List.nil_append,show g.offset-f.offset-df.length=g.offset-(f.offset+P.cellsOf f.type) from by omega];exact q2
  ·by_cases hi:i<df.length
   ·rw [zu hi] at hd;refine h6 i d v hd ?_;rw [List.getElem?_take,if_pos (by omega)];exact hv
   ·rw [zr (by omega)] at hd;refine h3 (i-df.length) d v hd ?_;rw [List.getElem?_drop] at hv ⊢;rw [show f.offset+P.cellsOf f.type+(i-df.length)=f.offset+i from by omega];exact hv
theorem cells?_some {base:Nat} {a:Addr} {n:Nat} {cs:List Value} (h:w.cells? base a n=some cs):cs.length=n∧∀i,i<n→∃v,cs[i]?=some v∧w.cell? (a.add i)=some v:=by
 unfold World.cells? at h;split at h
 ·have h1:=mapM_some_length h;refine ⟨by simpa using h1,fun i hi=>?_⟩;have h2:=mapM_some_get h i i (by simp [hi]);rw [List.length_range] at h1;have h4:i<cs.length:=by omega
  have h3:cs[i]?=some cs[i]:=by simp [h4]
  exact ⟨_,h3,h2.trans h3⟩
 ·cases h
theorem vI {cl:Nat→cG} {d:D} {v:Value} (h:RO w cl false d v):wT w cl [d] [v]:=by
 intro i d' v' hd hv;cases i<;>simp at hd hv;subst hd;subst hv;exact h
theorem W_ {S:List TypeId} (hS:xg P S=true) {cl:Nat→cG} (bq:∀b,b<w.heap.size→cl b=.iX):∀(fuel:Nat) (t:TypeId) (cs:List Value) (held:Bool) (x:DataW H×List MemPlace),t∈S→
 DataW.trod enc P w 0 (fun _=>true) held fuel t cs=some x→∃ds,er P t ds∧ds.length=cs.length∧cs.length=P.cellsOf t∧wT w cl ds cs:=by
 intro fuel;induction fuel with
 |zero=>intro t cs held x _ h;simp [DataW.trod] at h
 |succ fuel ih=>
  intro t cs held x ht h;have hp:=ze.1 hS t ht;unfold I' at hp;split at hp
  ·rename_i hu;obtain ⟨b,rfl,_⟩:=DataW.trod_bool hu h;exact ⟨[.bool b],.bool hu,rfl,by simpa using (beq_iff_eq.1 hp).symm,vI (.bool _)⟩
  ·rename_i k hu;obtain ⟨n,rfl,_,hw⟩:=DataW.trod_int hu h;exact ⟨[.int k n],.int hu hw,rfl,by simpa using (beq_iff_eq.1 hp).symm,vI (.int _ _)⟩
  ·rename_i hu;obtain ⟨s,rfl,_,hs⟩:=DataW.trod_string hu h;exact ⟨[.str s],.str hu hs,rfl,by simpa using (beq_iff_eq.1 hp).symm,vI (.str _)⟩
  ·rename_i e hu;simp only [za,beq_iff_eq,decide_eq_true_eq,zn] at hp;obtain ⟨⟨he,cg⟩,hp⟩:=hp;rcases DataW.trod_slice hu h with ⟨rfl,_⟩|⟨a,len,cap,elems,rest,n,hn,rfl,_,dR,hle,cz,hlen,j5,_,_⟩
   ·exact ⟨[.sl (P.cellsOf e) []],.sl hu (by simp) (by simp),rfl,by simpa using hp.symm,vI (.emp _ _ _)⟩
   ·cases hn
    have nN:∀i,i<len→∃ds,er P e ds∧ds.length=P.cellsOf e∧∀j,j<P.cellsOf e→∃v d,w.cell? ((a.add (i*P.cellsOf e)).add j)=some v∧ds[j]?=some d∧RO w cl false d v:=by
     intro i hi;have h2:=j5 i hi;have Q2:elems[i]?=some elems[i]:=by simp [show i<elems.length from by omega]
     rw [Q2] at h2;simp only [Option.bind_eq_some_iff] at h2;obtain ⟨P1,h3,h4⟩:=h2;obtain ⟨h5,h6⟩:=cells?_some h3;obtain ⟨ds,h7,h8,h9,CQ⟩:=ih e P1 held _ he h4;refine ⟨ds,h7,h8.trans h5,fun j hj=>?_⟩;obtain ⟨v,Q0,Q1⟩:=h6 j hj;have hd:ds[j]?=some ds[j]:=by simp [show j<ds.length from by omega]
     exact ⟨v,_,Q1,hd,CQ j _ v hd Q0⟩
    obtain ⟨es,nE,hR⟩:=TW len nN
    have rn:∀y∈es,er P e y∧y.length=P.cellsOf e:=fun y hy=>by
     obtain ⟨i,hi,rfl⟩:=zA.1 hy;obtain ⟨h1,h2,_⟩:=hR i es[i] (by simp [hi]);exact ⟨h1,h2⟩
    refine ⟨[.sl (P.cellsOf e) es],.sl hu (by omega) (fun y hy=>(rn y hy).1),rfl,by simpa using hp.symm,vI ?_⟩;rcases Nat.eq_zero_or_pos len with h0|h0
    ·have QZ:es=[]:=List.length_eq_zero_iff.1 (nE.trans h0);subst QZ;subst h0;exact .emp _ _ _
    ·obtain ⟨b,off,spot⟩:=a
     have Da:spot=none∧b<w.heap.size:=by
      obtain ⟨_,_,h3⟩:=hR 0 es[0] (by simp);obtain ⟨v,d,h4,_⟩:=h3 0 cg;simp only [World.cell?,Addr.add,Nat.zero_mul,if_true] at h4;split at h4
      ·rename_i c1 t1 f1 hb;split at h4
       ·cases h4
       ·rename_i kM;exact ⟨by simpa using kM,(Array.getElem?_eq_some_iff.1 hb).1⟩
      ·cases h4
     obtain ⟨rfl,hb⟩:=Da;rw [←nE]
     have LU:∀i j,((⟨b,off,none⟩:Addr).add (i*P.cellsOf e)).add j=⟨b,off+i*P.cellsOf e+j,none⟩:=fun i j=>by
      simp only [Addr.add];split<;>split<;>simp_all
     refine .sl _ _ _ _ _ (bq b hb) (fun y hy=>(rn y hy).2) (by omega) (fun i j hi hj=>?_) (fun i j y d v hy hd hv=>?_)
     ·obtain ⟨_,_,h3⟩:=hR i es[i] (by simp [hi]);obtain ⟨v,d,h4,_⟩:=h3 j hj;rw [LU] at h4;simp [h4]
     ·obtain ⟨_,h2,h3⟩:=hR i y hy;have hj:=(List.getElem?_eq_some_iff.1 hd).1;obtain ⟨v',d',h4,h5,h6⟩:=h3 j (by omega);rw [LU,hv] at h4;rw [hd] at h5;cases h4;cases h5;exact h6
  ·rename_i fs hu;simp only [za] at hp;obtain ⟨iy,SO⟩:=hp;obtain ⟨xs,n,hn,_,hlen,iV,hx⟩:=DataW.trod_struct hu h;cases hn
   obtain ⟨ds,h1,h2,h3⟩:=W5 (w:=w) (cl:=cl) (cs:=cs) fs.toList 0 SO (fun f hf=>by
    obtain ⟨i,hi,rfl⟩:=zA.1 hf;have fT:i<fs.size:=by simpa using hi
    have h4:=hx i fs.toList[i] (by simp [fT]);have h5:xs[i]?=some xs[i]:=by simp [show i<xs.length from by omega]
    rw [h5] at h4;have h6:=ze.1 iy _ hf;obtain ⟨df,h7,h8,h9,CQ⟩:=ih _ _ held _ (by simpa using h6) h4
    exact ⟨df,h7,h8.trans h9,CQ⟩)
   refine ⟨ds,.struct hu (by omega) (fun f hf=>by have:=(h2 f hf).2;rwa [zw] at this),by omega,hlen,by simpa using h3⟩
  ·cases hp
end
end
section
open Go.ChangeShapes Go.RowKit
section
variable {P:Program} {H:Type} {enc:TypeId×Value→H} {W:World}
def ja (P:Program) (t:TypeId) (x:V):Prop:=∃ds,er P t ds∧match P.underlying t with
 |some (.struct _)=>x=.st (ds.map (.ro false))
 |_=>∃d,ds=[d]∧x=.one (.ro false d)
inductive kX (P:Program):List TypeId→List V→Prop
 |nil:kX P [] []
 |cons {t ts x xs}:ja P t x→kX P ts xs→kX P (t::ts) (x::xs)
def lV (W:World):Gh:={ cl:=fun b=>if b<W.heap.size then .iX else .no,hd:=fun _ _ _=>.nilIface,bk:=fun _=>0 }
theorem Vy (ds:List D):(ds.map (C.ro false)).any C.cY=false:=by simp [C.cY]
theorem Pl {S:List TypeId} (hS:xg P S=true) {t:TypeId} (ht:t∈S) {v:Value} {d:DataW H} {ps:List MemPlace} {r:Reach} {base:Nat} (i:Nat) (hv:Value.okWide P W r base t v)
 (h:DataW.Trod enc P W 0 (fun _=>true) true t v d ps):∃x,ja P t x∧jb W (lV W) i x v:=by
 obtain ⟨fuel,h⟩:=h;obtain ⟨ds,h1,h2,h3,h4⟩:=W_ (cl:=(lV W).cl) hS (fun b hb=>by simp [lV,hb]) fuel t v.cells.toList true _ ht h;have hp:=ze.1 hS t ht;unfold I' at hp;unfold Value.okWide at hv
 have one:(∀fs,P.underlying t≠some (.struct fs))→v.cells=#[v]→P.cellsOf t=1→∃x,ja P t x∧jb W (lV W) i x v:=by
  intro hn hc h5;rw [h3,h5] at h2
  match ds,h2 with
  |[dd],_=>
   refine ⟨.one (.ro false dd),⟨[dd],h1,?_⟩,⟨.ro _ _ _ (h4 0 dd v rfl (by rw [hc];rfl)),hc⟩,fun h=>by simp [V.flat,C.cY] at h⟩;split
   ·rename_i fs hu;exact absurd hu (hn fs)
   ·exact ⟨dd,rfl,rfl⟩
 split at hp
 ·rename_i hu;refine one (fun fs e=>by rw [hu] at e;cases e) ?_ (by simpa using hp);rw [hu] at hv;simp only [Cell.okWide,hu] at hv;cases v<;>simp [Cell.ok,hu] at hv<;>rfl
 ·rename_i k hu;refine one (fun fs e=>by rw [hu] at e;cases e) ?_ (by simpa using hp);rw [hu] at hv;simp only [Cell.okWide,hu] at hv;cases v<;>simp [Cell.ok,hu] at hv<;>rfl
 ·rename_i hu;refine one (fun fs e=>by rw [hu] at e;cases e) ?_ (by simpa using hp);rw [hu] at hv;simp only [Cell.okWide,hu] at hv;cases v<;>simp [Cell.ok,hu] at hv<;>rfl
 ·rename_i e hu;simp only [za,beq_iff_eq] at hp;refine one (fun fs e=>by rw [hu] at e;cases e) ?_ hp.2;rw [hu] at hv;simp only [Cell.okWide,hu] at hv;cases v<;>simp [Cell.ok,hu] at hv<;>rfl
 ·rename_i fs hu;rw [hu] at hv;obtain ⟨cs,rfl,_⟩:=hv;refine ⟨.st (ds.map (.ro false)),⟨ds,h1,by rw [hu]⟩,⟨cs,rfl,by rw [List.length_map];exact h2,fun k c x hc hx=>?_⟩,fun h=>by simp only [V.flat] at h;rw [Vy] at h;cases h⟩;rw [zB] at hc;cases hd:ds[k]? with
  |none=>rw [hd] at hc;cases hc
  |some dd=>
   rw [hd] at hc;simp at hc;subst hc;exact .ro _ _ _ (h4 k dd x hd hx)
 ·cases hp
theorem Pm {S:List TypeId} (hS:xg P S=true):∀(ts:List TypeId) (vs:List Value) (ds:List (DataW H)) (ps:List MemPlace) (n:Nat),(∀t∈ts,t∈S)→
 (∀(j:Nat) (t:TypeId) (v:Value),ts[j]?=some t→vs[j]?=some v→∃r base,Value.okWide P W r base t v)→
 DataW.TrodAll enc P W 0 (fun _=>true) true ts vs ds ps→∃xs,kX P ts xs∧vs.length=xs.length∧∀(i:Nat) (x:V) (v:Value),xs[i]?=some x→vs[i]?=some v→jb W (lV W) (n+i) x v:=by
 intro ts;induction ts with
 |nil=>
  intro vs ds ps n _ _ h;obtain ⟨rfl,_,_⟩:=trodAll_nil h;exact ⟨[],.nil,rfl,fun i x v hx=>by simp at hx⟩
 |cons t ts ih=>
  intro vs ds ps n tg hv h;obtain ⟨v,Bs,d,qT,p,q,rfl,rfl,rfl,h1,h2⟩:=trodAll_cons h;obtain ⟨r,base,cO⟩:=hv 0 t v rfl rfl;obtain ⟨x,h3,h4⟩:=Pl hS (tg t (by simp)) n cO h1;obtain ⟨xs,h5,h6,h7⟩:=ih Bs qT q (n+1) (fun t ht=>tg t (by simp [ht])) (fun j t v h1 h2=>hv (j+1) t v (by simpa using h1) (by simpa using h2)) h2;refine ⟨x::xs,.cons h3 h5,by simp [h6],fun i y u hy hu=>?_⟩;cases i with
  |zero=>simp at hy hu;subst hy;subst hu;exact h4
  |succ i=>
   have:=h7 i y u (by simpa using hy) (by simpa using hu);rwa [show n+(i+1)=n+1+i from by omega]
theorem Pn (hl:laidOutB P=true):∀(ts:List TypeId) (vs:List Value) (ds:List (DataW H)) (ps:List MemPlace) {W':World} {sp:Nat→Bool},
 (∀t∈ts,P.readableRec t=true∧t<P.types.size)→(∀p∈ps,W.sameAt W' p)→(∀p∈ps,sp p.block=true)→
 DataW.TrodAll enc P W 0 (fun _=>true) true ts vs ds ps→DataW.TrodAll enc P W' 0 sp true ts vs ds ps:=by
 intro ts;induction ts with
 |nil=>
  intro vs ds ps W' sp _ _ _ h;obtain ⟨rfl,rfl,rfl⟩:=trodAll_nil h;exact trodAll_mk0
 |cons t ts ih=>
  intro vs ds ps W' sp tg hs kM h;obtain ⟨v,Bs,d,qT,p,q,rfl,rfl,rfl,h1,h2⟩:=trodAll_cons h
  exact trodAll_cons_mk (WideElems.Trod_stays hl (tg t (by simp)).1 (tg t (by simp)).2 h1 (fun p hp=>hs p (by simp [hp])) (fun p hp=>kM p (by simp [hp])))
   (ih Bs qT q (fun t ht=>tg t (by simp [ht])) (fun p hp=>hs p (by simp [hp])) (fun p hp=>kM p (by simp [hp])) h2)
theorem VQ {W':World} (h:∀b,b<W.heap.size→W'.heap[b]?=W.heap[b]?) {p:MemPlace} (hp:p.block<W.heap.size):W.sameAt W' p:=by
 cases p with
 |cell b o=>simp only [World.sameAt,World.cell?];rw [h b hp]
 |map b=>exact h b hp
theorem TH {S:List TypeId} (hS:xg P S=true) (hl:laidOutB P=true) {f:FuncId} {fn:Func} {s:ChangeSpec} {args:Array Value} {ds gs:List (DataW H)} {before:List MemPlace} {tb:TypeId}
 (Su:(fn.params.toList.all fun t=>S.contains t&&P.readableRec t&&decide (t<P.types.size))=true)
 (dm:∀xs,kX P fn.params.toList xs→OK P f xs (.one (.ro false (.bool true))) [])
 (ti:∀(j:Nat) t v,fn.params[j]?=some t→args[j]?=some v→∃r base,Value.okWide P W r base t v)
 (hW:DataW.Whole enc P fn.params.toList s.vars false W args.toList ds gs before) (MB:s.vars=[]) (DG:fn.resultTypes=#[tb]) (SN:P.underlying tb=some .bool)
 (hs:ds.length=fn.params.toList.length→(s.fn H ds).results=[.lit (.bool true)]∧(s.fn H ds).args=ds∧(s.fn H ds).vars=[]):
 Calls P f args W fun e W'=>∃v,e=.returned v∧s.post enc P fn false true false false W args v W':=by
 have C3:=hW;obtain ⟨p,q,hA,hV,rfl,hfz,hnd⟩:=hW;rw [MB] at hV;obtain ⟨rfl,rfl⟩:=trodVars_none hV;rw [zq] at C3
 have Ml:∀t∈fn.params.toList,t∈S∧P.readableRec t=true∧t<P.types.size:=fun t ht=>by
  have:=ze.1 Su t ht;simp only [za,zn,decide_eq_true_eq] at this;exact ⟨this.1.1,this.1.2,this.2⟩
 obtain ⟨xs,h1,h2,h3⟩:=Pm hS fn.params.toList args.toList ds p 0 (fun t ht=>(Ml t ht).1)
  (fun j t v h1 h2=>ti j t v (by simpa using h1) (by simpa using h2)) hA
 have hlen:ds.length=fn.params.toList.length:=by
  have:∀(ts:List TypeId) (vs:List Value) (ds:List (DataW H)) (ps:List MemPlace),DataW.TrodAll enc P W 0 (fun _=>true) true ts vs ds ps→ds.length=ts.length:=by
   intro ts;induction ts with
   |nil=>intro vs ds ps h;obtain ⟨_,rfl,_⟩:=trodAll_nil h;rfl
   |cons t ts ih=>intro vs ds ps h;obtain ⟨v,Bs,d,qT,p,q,_,rfl,_,_,h2⟩:=trodAll_cons h;simp [ih _ _ _ h2]
  exact this _ _ _ _ hA
 obtain ⟨e1,e2,e3⟩:=hs hlen;refine (dm xs h1 W args (lV W) (by simpa using h2) (fun b hb=>?_) (fun i x v hx hv=>?_)).mono fun e W' he=>?_
 ·simp only [lV,ne_eq] at hb;by_cases h:b<W.heap.size
  ·exact h
  ·simp [h] at hb
 ·have:=h3 i x v hx (by simpa using hv);rwa [zo] at this
 ·obtain ⟨v,g',rfl,hr,hL⟩:=he
  have hv:v=.bool true:=by
   obtain ⟨h5,_⟩:=hr;cases h5 with
   |ro _ _ _ h6=>cases h6;rfl
  subst hv;have hb:∀b,b<W.heap.size→W'.heap[b]?=W.heap[b]?:=fun b hb=>hL.fr b hb (by simp [lV,hb,cG.ck])
  have LY:∀pp∈p,pp.block<W.heap.size:=fun pp hp=>C3.lt pp hp
  refine ⟨_,rfl,ds,[],p,[],p,[],C3,?_,?_,?_,?_,fun h=>by cases h⟩
  ·rw [DG,zq,e1];exact trodAll_cons_mk (shut_bool SN _) trodAll_mk0
  ·rw [zq,e2];exact Pn hl _ _ _ _ (fun t ht=>(Ml t ht).2) (fun pp hp=>VQ hb (LY pp hp)) (fun pp hp=>by simpa using LY pp hp) hA
  ·rw [MB,zq,e3];rfl
  ·refine ⟨hL.sd.os,hL.sd.out,fun i hi=>?_⟩;rw [hb i hi];split<;>simp_all
theorem er.MM {t:TypeId} {k:IntKind} {ds:List D} (hu:P.underlying t=some (.int k)) (h:er P t ds):∃n,ds=[.int k n]∧(Lit.int k n).wf=true:=by
 cases h with
 |int h1 h2=>rw [hu] at h1;cases h1;exact ⟨_,rfl,h2⟩
 |bool h1=>rw [hu] at h1;cases h1
 |str h1=>rw [hu] at h1;cases h1
 |sl h1=>rw [hu] at h1;cases h1
 |struct h1=>rw [hu] at h1;cases h1
theorem er.Pr {t:TypeId} {ds:List D} (hu:P.underlying t=some .bool) (h:er P t ds):∃b,ds=[.bool b]:=by
 cases h with
 |int h1=>rw [hu] at h1;cases h1
 |bool h1=>exact ⟨_,rfl⟩
 |str h1=>rw [hu] at h1;cases h1
 |sl h1=>rw [hu] at h1;cases h1
 |struct h1=>rw [hu] at h1;cases h1
theorem er.Wo {t:TypeId} {ds:List D} (hu:P.underlying t=some .string) (h:er P t ds):∃s,ds=[.str s]∧s.size≤maxLen:=by
 cases h with
 |int h1=>rw [hu] at h1;cases h1
 |bool h1=>rw [hu] at h1;cases h1
 |str h1 h2=>exact ⟨_,rfl,h2⟩
 |sl h1=>rw [hu] at h1;cases h1
 |struct h1=>rw [hu] at h1;cases h1
theorem er.V0 {t e:TypeId} {ds:List D} (hu:P.underlying t=some (.slice e)) (h:er P t ds):∃es,ds=[.sl (P.cellsOf e) es]∧es.length≤maxLen∧∀x∈es,er P e x:=by
 cases h with
 |int h1=>rw [hu] at h1;cases h1
 |bool h1=>rw [hu] at h1;cases h1
 |str h1=>rw [hu] at h1;cases h1
 |sl h1 h2 h3=>rw [hu] at h1;cases h1;exact ⟨_,rfl,h2,h3⟩
 |struct h1=>rw [hu] at h1;cases h1
theorem er.Wq {t:TypeId} {fs:Array Field} {ds:List D} (hu:P.underlying t=some (.struct fs)) (h:er P t ds):
 ds.length=P.cellsOf t∧∀f∈fs.toList,er P f.type ((ds.drop f.offset).take (P.cellsOf f.type)):=by
 cases h with
 |int h1=>rw [hu] at h1;cases h1
 |bool h1=>rw [hu] at h1;cases h1
 |str h1=>rw [hu] at h1;cases h1
 |sl h1=>rw [hu] at h1;cases h1
 |struct h1 h2 h3=>rw [hu] at h1;cases h1;exact ⟨h2,h3⟩
theorem ja.int {t:TypeId} {k:IntKind} {x:V} (hu:P.underlying t=some (.int k)) (h:ja P t x):∃n,x=.one (.ro false (.int k n))∧(Lit.int k n).wf=true:=by
 obtain ⟨ds,h1,h2⟩:=h;obtain ⟨n,rfl,h3⟩:=h1.MM hu;rw [hu] at h2;obtain ⟨d,e,rfl⟩:=h2;cases e;exact ⟨n,rfl,h3⟩
theorem ja.bool {t:TypeId} {x:V} (hu:P.underlying t=some .bool) (h:ja P t x):∃b,x=.one (.ro false (.bool b)):=by
 obtain ⟨ds,h1,h2⟩:=h;obtain ⟨n,rfl⟩:=h1.Pr hu;rw [hu] at h2;obtain ⟨d,e,rfl⟩:=h2;cases e;exact ⟨n,rfl⟩
theorem ja.str {t:TypeId} {x:V} (hu:P.underlying t=some .string) (h:ja P t x):∃s,x=.one (.ro false (.str s))∧s.size≤maxLen:=by
 obtain ⟨ds,h1,h2⟩:=h;obtain ⟨n,rfl,h3⟩:=h1.Wo hu;rw [hu] at h2;obtain ⟨d,e,rfl⟩:=h2;cases e;exact ⟨n,rfl,h3⟩
theorem ja.sl {t e:TypeId} {x:V} (hu:P.underlying t=some (.slice e)) (h:ja P t x):∃es,x=.one (.ro false (.sl (P.cellsOf e) es))∧es.length≤maxLen∧∀y∈es,er P e y:=by
 obtain ⟨ds,h1,h2⟩:=h;obtain ⟨es,rfl,h3⟩:=h1.V0 hu;rw [hu] at h2;obtain ⟨d,e,rfl⟩:=h2;cases e;exact ⟨es,rfl,h3⟩
theorem ja.struct {t:TypeId} {fs:Array Field} {x:V} (hu:P.underlying t=some (.struct fs)) (h:ja P t x):∃ds,x=.st (ds.map (.ro false))∧er P t ds:=by
 obtain ⟨ds,h1,h2⟩:=h;rw [hu] at h2;exact ⟨ds,h2,h1⟩
def isStr (P:Program) (t:TypeId):Bool:=match P.underlying t with
 |some (.struct _)=>true
 |_=>false
theorem ja.acp {t:TypeId} {x:V} (hu:isStr P t=true) (h:ja P t x):∃ds,x=.st (ds.map (.ro false))∧er P t ds:=by
 unfold isStr at hu;split at hu
 ·rename_i fs hf;exact h.struct hf
 ·cases hu
def fieldsOf (P:Program) (t:TypeId):Option (List (Nat×Nat×Nat)):=match P.underlying t with
 |some (.struct fs)=>some (fs.toList.map fun f=>(f.type,f.offset,P.cellsOf f.type))
 |_=>none
theorem er.fields {t n:Nat} {ds:List D} {l:List (Nat×Nat×Nat)} (h:er P t ds) (hf:fieldsOf P t=some l) (hc:P.cellsOf t=n):
 ds.length=n∧∀x∈l,er P x.1 ((ds.drop x.2.1).take x.2.2):=by
 unfold fieldsOf at hf;split at hf
 ·rename_i fs hu;simp at hf;subst hf;obtain ⟨h1,h2⟩:=h.Wq hu;refine ⟨h1.trans hc,fun x hx=>?_⟩;obtain ⟨f,hf,rfl⟩:=List.mem_map.1 hx;exact h2 f hf
 ·cases hf
theorem TV {α:Type} {f:α→List D} {ok:α→Prop}:∀{es:List (List D)},(∀x∈es,∃y,x=f y∧ok y)→∃l:List α,es=l.map f∧l.length=es.length∧∀y∈l,ok y:=by
 intro es;induction es with
 |nil=>intro _;exact ⟨[],rfl,rfl,fun y hy=>by simp at hy⟩
 |cons x es ih=>
  intro h;obtain ⟨y,rfl,hy⟩:=h x (by simp);obtain ⟨l,rfl,h2,h3⟩:=ih fun z hz=>h z (by simp [hz])
  refine ⟨y::l,rfl,by simp,fun z hz=>?_⟩;rcases zm.1 hz with rfl|hz
  ·exact hy
  ·exact h3 z hz
theorem abO:maxLen=9223372036854775807:=rfl
theorem wf_i64 {n:Int} (h:(Lit.int .i64 n).wf=true):-9223372036854775808≤n∧n≤9223372036854775807:=by
 simpa [Lit.wf,IntKind.min,IntKind.max,IntKind.signed,IntKind.bits] using h
theorem wf_u8 {n:Int} (h:(Lit.int .u8 n).wf=true):0≤n∧n≤255:=by
 simpa [Lit.wf,IntKind.min,IntKind.max,IntKind.signed,IntKind.bits] using h
theorem kX.one {t:TypeId} {xs:List V} (h:kX P [t] xs):∃x,xs=[x]∧ja P t x:=by
 cases h with|cons h1 h2=>cases h2;exact ⟨_,rfl,h1⟩
theorem kX.cons_inv {t:TypeId} {ts:List TypeId} {xs:List V} (h:kX P (t::ts) xs):∃x n_,xs=x::n_∧ja P t x∧kX P ts n_:=by
 cases h with|cons h1 h2=>exact ⟨_,_,rfl,h1,h2⟩
theorem kX.Ub {xs:List V} (h:kX P [] xs):xs=[]:=by cases h;rfl
end
end
abbrev Am (d x:Nat):PO:=⟨some d,.mv (.t x),none⟩
abbrev Ak (d:Nat) (n:Int):PO:=⟨some d,.mv (.c (.v false (.int .i64 n))),none⟩
abbrev Ac (d:Nat) (a:AV):PO:=⟨some d,.mv (.c a),none⟩
abbrev Ab (op:BinOp) (d x y:Nat):PO:=⟨some d,.bin op (.t x) (.t y),none⟩
abbrev Ae (op:BinOp) (d x:Nat) (n:Int):PO:=⟨some d,.bin op (.t x) (.c (.v false (.int .i64 n))),none⟩
abbrev Ai (n d x y:Nat):PO:=⟨some d,.cf n (.t x) (.t y),none⟩
abbrev Al (d x:Nat):PO:=⟨some d,.ld false 1 (.t x),none⟩
abbrev bj (n d x:Nat):PO:=⟨some d,.ld true n (.t x),none⟩
abbrev Af (d x o:Nat):PO:=⟨some d,.bo (.t x) o,none⟩
abbrev An (d x:Nat):PO:=⟨some d,.qn (.t x),none⟩
abbrev Ax (d x k:Nat):PO:=⟨some d,.ext (.t x) k,none⟩
abbrev Az (d x:Nat):PO:=⟨some d,.len (.t x),none⟩
abbrev At (d x:Nat):PO:=⟨some d,.un .not (.t x),none⟩
abbrev aX (f d x:Nat):PO:=⟨some d,.call f [] [.t x],none⟩
abbrev bz (f d x y:Nat):PO:=⟨some d,.call f [] [.t x,.t y],none⟩
abbrev gJ (f d x y z:Nat):PO:=⟨some d,.call f [] [.t x,.t y,.t z],none⟩
abbrev As (n x y:Nat):PO:=⟨none,.st n (.t x) (.t y),none⟩
abbrev Ao (d:Nat) (op:aA):PO:=⟨some d,op,none⟩
abbrev Ag (d:Nat) (op:aA) (t:Nat):PO:=⟨some d,op,some (t,true)⟩
abbrev Ah (d:Nat) (op:aA) (t:Nat):PO:=⟨some d,op,some (t,false)⟩
abbrev Ar (l:List Nat) (ops:List PO):PC:=.dz l [] ops none
abbrev Aq (l:List Nat) (ops:List PO):PC:=.dz l [] ops (some [])
abbrev af (l:List Nat) (a b:Nat) (ops:List PO):PC:=.dz l [(a,b)] ops none
abbrev At1 (x:Nat) (a:PC):PC:=.cond (.t x) a .skip
abbrev Aj (x:Nat) (n:Nat):PC:=.cond (.t x) .skip (.exit n)
abbrev Av (n:Int):PX:=.c (.v false (.int .i64 n))
abbrev Aw (b:Bool):PX:=.c (.v false (.bool b))
abbrev A0:AV:=.v false (.int .i64 0)
abbrev A1:AV:=.v false (.str ⟨#[]⟩)
abbrev A2:D:=.int .i64 0
abbrev A3:D:=.str ⟨#[]⟩
abbrev Ap (d x y z:Nat):PO:=⟨some d,.pick (.t x) (.t y) (.t z),none⟩
abbrev bu (d x:Nat) (b:Bool) (z:Nat):PO:=⟨some d,.pick (.t x) (.c (.v false (.bool b))) (.t z),none⟩
abbrev bX (d x y:Nat) (b:Bool):PO:=⟨some d,.pick (.t x) (.t y) (.c (.v false (.bool b))),none⟩
theorem aa9 {Γ:Env} {o:PO} {os:List PO} {S S':St} (h:dP Γ o S=some S'):f_ Γ (o::os) S=(fQ S o,dJ S o)::f_ Γ os S':=by
 rw [La,h]
attribute [simp] nu jN o8 nv qF k9 sQ AV.isVal f_.eq_1 La fQ dJ wanted aA.reads aA.uA aA.gH qo mA AV.refs AV.cA
section
class fW (P:Prop) (R:outParam Prop):Prop where
 imp:R→P
section
variable {Γ:Env} {Q:Out→Prop} {L:AL} {F:PF} {xs:List V}
instance {a b:PC}:fW (Wp Γ (.seq a b) Q L) (Wp Γ a (pB Γ b Q) L):=⟨wp_seq⟩
instance {id:Nat} {c:PC}:fW (Wp Γ (.ah id c) Q L) (Wp Γ c (lF id Q) L):=⟨aU⟩
instance:fW (Wp Γ .skip Q L) (Q (.norm L)):=⟨wp_skip⟩
instance {id:Nat}:fW (Wp Γ (.exit id) Q L) (Q (.exit id L)):=⟨wp_exit⟩
instance:fW (Wp Γ .ret Q L) (Q (.ret L)):=⟨wp_ret⟩
instance {b:PC}:fW (pB Γ b Q (.norm L)) (Wp Γ b Q L):=⟨aQ⟩
instance {b:PC}:fW (pB Γ b Q (.ret L)) (Q (.ret L)):=⟨aR⟩
instance {b:PC} {i:Nat}:fW (pB Γ b Q (.exit i L)) (Q (.exit i L)):=⟨aP⟩
instance {id:Nat}:fW (lF id Q (.norm L)) (Q (.norm L)):=⟨aC⟩
instance {id:Nat}:fW (lF id Q (.ret L)) (Q (.ret L)):=⟨aD⟩
instance {id:Nat}:fW (lF id Q (.exit id L)) (Q (.norm L)):=⟨aB⟩
instance {σ:Type} {I:σ→AL} {p:σ→Prop} {m:σ→Nat} {n:Nat}:fW (rK I p m n Q (.norm L)) (∃s',L=I s'∧p s'∧m s'<n):=⟨aM⟩
instance {σ:Type} {I:σ→AL} {p:σ→Prop} {m:σ→Nat} {n i:Nat}:fW (rK I p m n Q (.exit i L)) (Q (.exit i L)):=⟨aL⟩
instance {σ:Type} {I:σ→AL} {p:σ→Prop} {m:σ→Nat} {n:Nat}:fW (rK I p m n Q (.ret L)) (Q (.ret L)):=⟨aO⟩
instance {y}:fW (qU F xs y (.ret L)) (finish F xs L=some y):=⟨aK⟩
instance {y}:fW (qU F xs y (.norm L)) (finish F xs L=some y):=⟨aJ⟩
instance {Φ}:fW (uD F xs Φ (.ret L)) (∃y,finish F xs L=some y∧Φ y):=⟨aG⟩
instance {Φ}:fW (uD F xs Φ (.norm L)) (∃y,finish F xs L=some y∧Φ y):=⟨aF⟩
instance {Φ}:fW (uE F xs Φ (.ret L)) (∃n,finish F xs L=some (vi n,[])∧Φ n):=⟨aI⟩
instance {Φ}:fW (uE F xs Φ (.norm L)) (∃n,finish F xs L=some (vi n,[])∧Φ n):=⟨aH⟩
theorem Zs {P R:Prop} [s:fW P R] (h:R):P:=s.imp h
theorem We {x:PX} {a b:PC} {t:Bool} (h:(L.st.ev x).asBool=some t) (h1:t=true→Wp Γ a Q L) (h2:t=false→Wp Γ b Q L):Wp Γ (.cond x a b) Q L:=wp_cond h h1 h2
end
section
variable {Γ:Env} {Q:Out→Prop} {L:AL}
instance {a b:PC}:fW (Wp Γ (cond true a b) Q L) (Wp Γ a Q L):=⟨fun h=>h⟩
instance {a b:PC}:fW (Wp Γ (cond false a b) Q L) (Wp Γ b Q L):=⟨fun h=>h⟩
theorem Xb {x:PX} {a b:PC} {t:Bool} (h1:(L.st.ev x).asBool=some t) (h:Wp Γ (cond t a b) Q L):Wp Γ (.cond x a b) Q L:=wp_cond h1 (fun e=>by subst e;exact h) (fun e=>by subst e;exact h)
theorem Xt {x:PX} {a b:PC} (h1:(L.st.ev x).asBool=some true) (h:Wp Γ a Q L):Wp Γ (.cond x a b) Q L:=wp_cond h1 (fun _=>h) (fun e=>by cases e)
theorem Xf {x:PX} {a b:PC} (h1:(L.st.ev x).asBool=some false) (h:Wp Γ b Q L):Wp Γ (.cond x a b) Q L:=wp_cond h1 (fun e=>by cases e) (fun _=>h)
theorem Xk {live ai ops draw} (h:∀K:Out→Prop,(∀o,Q o→K o)→nk K (ir Γ live ai ops draw L)):Wp Γ (.dz live ai ops draw) Q L:=aV h
end
theorem Wi (n:Int) (h1:-9223372036854775808≤n:=by omega) (h2:n≤9223372036854775807:=by omega):IntKind.wrap .i64 n=n:=wrap_i64 h1 h2
theorem Ga {T:Nat→Option PF} {f:Nat} {xs:List V} {y} (F:PF) (b:PC) (h:Wp (Gw T) b (qU F xs y) (dM 0 xs)) (hT:T f=some F:=by rfl)
 (hc:(xs.all V.mm&&F.io.all (fun i=>((dM 0 xs).get i).2.isSome))=true:=by rfl) (hb:F.body=b:=by rfl):Gw T f xs=some y:=by
 subst hb;exact dD hT hc h
theorem J2 {A B:Prop} (a:A) (b:B):A∧B:=⟨a,b⟩
theorem J3 {A B C:Prop} (a:A) (b:B) (c:C):A∧B∧C:=⟨a,b,c⟩
theorem J4 {A B C D:Prop} (a:A) (b:B) (c:C) (d:D):A∧B∧C∧D:=⟨a,b,c,d⟩
theorem J5 {A B C D E:Prop} (a:A) (b:B) (c:C) (d:D) (e:E):A∧B∧C∧D∧E:=⟨a,b,c,d,e⟩
theorem J6 {A B C D E F:Prop} (a:A) (b:B) (c:C) (d:D) (e:E) (f:F):A∧B∧C∧D∧E∧F:=⟨a,b,c,d,e,f⟩
theorem J7 {A B C D E F H:Prop} (a:A) (b:B) (c:C) (d:D) (e:E) (f:F) (h:H):A∧B∧C∧D∧E∧F∧H:=⟨a,b,c,d,e,f,h⟩
theorem J8 {A B C D E F H I:Prop} (a:A) (b:B) (c:C) (d:D) (e:E) (f:F) (h:H) (i:I):A∧B∧C∧D∧E∧F∧H∧I:=⟨a,b,c,d,e,f,h,i⟩
theorem aca {n:Nat} {a:List D}:zF (n+1) a=a::zF n a:=rfl
theorem Oo:True:=trivial
structure ud (A:Prop):Prop where
 out:A
theorem Ua {F G A B C D E:Prop} (f:F:=by exact trivial) (a:A:=by exact trivial) (b:B:=by exact trivial) (c:C:=by exact trivial) (d:D:=by exact trivial) (e:E:=by exact trivial) (h:F→ud A→ud B→ud C→ud D→ud E→G:=by
 intro f a b c d e
 repeat' first|refine Zs ?_|(refine Xk fun K k=>?_;simp [f];refine k _ ?_;clear k K)|refine Xb rfl ?_
 all_goals first|exact a.out|exact b.out|exact c.out|exact d.out|exact e.out):G:=h f ⟨a⟩ ⟨b⟩ ⟨c⟩ ⟨d⟩ ⟨e⟩
theorem Uw {F G A B C D E:Prop} (f:F:=by exact trivial) (a:A:=by exact trivial) (b:B:=by exact trivial) (c:C:=by exact trivial) (d:D:=by exact trivial) (e:E:=by exact trivial) (h:F→ud A→ud B→ud C→ud D→ud E→G:=by
 intro f a b c d e
 repeat' first|refine Zs ?_|(refine Xk fun K k=>?_;simp [f];refine k _ ?_;clear k K)|refine Xt rfl ?_|refine Xf rfl ?_|(refine We rfl ?_ ?_<;>intro h9<;>(try simp at h9)<;>first|(exfalso;omega)|skip)
 all_goals (repeat revert h9)
 all_goals first|exact a.out|exact b.out|exact c.out|exact d.out|exact e.out):G:=h f ⟨a⟩ ⟨b⟩ ⟨c⟩ ⟨d⟩ ⟨e⟩
theorem Up {F G A B C D E:Prop} (f:F:=by exact trivial) (a:A:=by exact trivial) (b:B:=by exact trivial) (c:C:=by exact trivial) (d:D:=by exact trivial) (e:E:=by exact trivial) (h:F→ud A→ud B→ud C→ud D→ud E→G:=by
 intro f a b c d e
 repeat' first|refine Zs ?_|(refine Xk fun K k=>?_;simp [f];(repeat' first|refine k _ ?_|(refine aw ?_ ?_<;>intro h9<;>first|(exfalso;omega)|(try simp [h9,f])));all_goals clear k K)|refine Xb rfl ?_
 all_goals (repeat revert h9)
 all_goals first|exact a.out|exact b.out|exact c.out|exact d.out|exact e.out):G:=h f ⟨a⟩ ⟨b⟩ ⟨c⟩ ⟨d⟩ ⟨e⟩
theorem Uc {F G A B C D E:Prop} (f:F:=by exact trivial) (a:A:=by exact trivial) (b:B:=by exact trivial) (c:C:=by exact trivial) (d:D:=by exact trivial) (e:E:=by exact trivial) (h:F→ud A→ud B→ud C→ud D→ud E→G:=by
 intro f a b c d e
 repeat' first|refine Zs ?_|(refine Xk fun K k=>?_;simp [f];(repeat' first|refine k _ ?_|(refine aw ?_ ?_<;>intro h9<;>first|(exfalso;omega)|(try simp [h9,f])));all_goals clear k K)|refine Xt rfl ?_|refine Xf rfl ?_|(refine We rfl ?_ ?_<;>intro h9<;>(try simp at h9)<;>first|(exfalso;omega)|skip)
 all_goals (repeat revert h9)
 all_goals first|exact a.out|exact b.out|exact c.out|exact d.out|exact e.out):G:=h f ⟨a⟩ ⟨b⟩ ⟨c⟩ ⟨d⟩ ⟨e⟩
theorem Ud {F G A B C D E:Prop} (f:F:=by exact trivial) (a:A:=by exact trivial) (b:B:=by exact trivial) (c:C:=by exact trivial) (d:D:=by exact trivial) (e:E:=by exact trivial) (h:F→ud A→ud B→ud C→ud D→ud E→G:=by
 intro f a b c d e
 repeat' first|refine Zs ?_|((with_reducible refine Xk fun K k=>?_);simp [f];(repeat' (with_reducible first|refine k _ ?_|(refine aw ?_ ?_<;>(intro h9;(try rw [Decidable.not_not] at h9);first|(exfalso;omega)|(try simp [h9,f])))));all_goals clear k K)|refine Xt rfl ?_|refine Xf rfl ?_|(refine We rfl ?_ ?_<;>intro h9<;>(try simp at h9)<;>first|(exfalso;omega)|skip)
 all_goals (repeat revert h9)
 all_goals first|exact a.out|exact b.out|exact c.out|exact d.out|exact e.out):G:=h f ⟨a⟩ ⟨b⟩ ⟨c⟩ ⟨d⟩ ⟨e⟩
end
section
set_option linter.unusedVariables false
@[simp] def ei (n:Int):List D:=[di n]
@[simp] def eb (n:Int):List D:=[.int .u8 n]
structure aa where
 Ty:Int
 N:Int
 S:ByteArray
 deriving Inhabited
@[simp] def aa.e (x:aa):List D:=[di x.Ty,di x.N,.str x.S]
def aa.ok (x:aa):Prop:=(-9223372036854775808≤x.Ty∧x.Ty≤9223372036854775807)∧(-9223372036854775808≤x.N∧x.N≤9223372036854775807)∧x.S.size≤9223372036854775807
def aa.dH (l:List aa):Prop:=∀y∈l,aa.ok y
def aa.sm (x:aa):Prop:=x.S.size≤1048576
def aa.aq (l:List aa):Prop:=∀y∈l,aa.sm y
structure ao where
 Id:Int
 L:List aa
 deriving Inhabited
@[simp] def ao.e (x:ao):List D:=[di x.Id,.sl 3 (x.L.map aa.e)]
def ao.ok (x:ao):Prop:=(-9223372036854775808≤x.Id∧x.Id≤9223372036854775807)∧x.L.length≤9223372036854775807∧aa.dH x.L
def ao.dH (l:List ao):Prop:=∀y∈l,ao.ok y
def ao.sm (x:ao):Prop:=x.L.length≤1048576∧aa.aq x.L
def ao.aq (l:List ao):Prop:=∀y∈l,ao.sm y
structure jS where
 qJ:Int
 dV:Int
 At:Int
 deriving Inhabited
@[simp] def jS.e (x:jS):List D:=[di x.qJ,di x.dV,di x.At]
def jS.ok (x:jS):Prop:=(-9223372036854775808≤x.qJ∧x.qJ≤9223372036854775807)∧(-9223372036854775808≤x.dV∧x.dV≤9223372036854775807)∧(-9223372036854775808≤x.At∧x.At≤9223372036854775807)
def jS.dH (l:List jS):Prop:=∀y∈l,jS.ok y
def jS.sm (x:jS):Prop:=True
def jS.aq (l:List jS):Prop:=∀y∈l,jS.sm y
structure iv where
 qJ:Int
 dV:Int
 Kind:Int
 By:Int
 BA:Int
 deriving Inhabited
@[simp] def iv.e (x:iv):List D:=[di x.qJ,di x.dV,di x.Kind,di x.By,di x.BA]
def iv.ok (x:iv):Prop:=(-9223372036854775808≤x.qJ∧x.qJ≤9223372036854775807)∧(-9223372036854775808≤x.dV∧x.dV≤9223372036854775807)∧(-9223372036854775808≤x.Kind∧x.Kind≤9223372036854775807)∧(-9223372036854775808≤x.By∧x.By≤9223372036854775807)∧(-9223372036854775808≤x.BA∧x.BA≤9223372036854775807)
def iv.dH (l:List iv):Prop:=∀y∈l,iv.ok y
def iv.sm (x:iv):Prop:=True
def iv.aq (l:List iv):Prop:=∀y∈l,iv.sm y
structure jT where
 pJ:Int
 L:List iv
 deriving Inhabited
@[simp] def jT.e (x:jT):List D:=[di x.pJ,.sl 5 (x.L.map iv.e)]
def jT.ok (x:jT):Prop:=(-9223372036854775808≤x.pJ∧x.pJ≤9223372036854775807)∧x.L.length≤9223372036854775807∧iv.dH x.L
def jT.dH (l:List jT):Prop:=∀y∈l,jT.ok y
def jT.sm (x:jT):Prop:=x.L.length≤1048576
def jT.aq (l:List jT):Prop:=∀y∈l,jT.sm y
structure aj where
 jQ:Int
 L:List aa
 deriving Inhabited
@[simp] def aj.e (x:aj):List D:=[di x.jQ,.sl 3 (x.L.map aa.e)]
def aj.ok (x:aj):Prop:=(-9223372036854775808≤x.jQ∧x.jQ≤9223372036854775807)∧x.L.length≤9223372036854775807∧aa.dH x.L
def aj.dH (l:List aj):Prop:=∀y∈l,aj.ok y
def aj.sm (x:aj):Prop:=x.L.length≤1048576∧aa.aq x.L
def aj.aq (l:List aj):Prop:=∀y∈l,aj.sm y
structure dw where
 Next:Int
 L:List aj
 deriving Inhabited
@[simp] def dw.e (x:dw):List D:=[di x.Next,.sl 2 (x.L.map aj.e)]
def dw.ok (x:dw):Prop:=(-9223372036854775808≤x.Next∧x.Next≤9223372036854775807)∧x.L.length≤9223372036854775807∧aj.dH x.L
def dw.dH (l:List dw):Prop:=∀y∈l,dw.ok y
def dw.sm (x:dw):Prop:=x.L.length≤1048576∧aj.aq x.L
def dw.aq (l:List dw):Prop:=∀y∈l,dw.sm y
structure ak where
 dV:Int
 Kind:Int
 C:dw
 G:List Int
 deriving Inhabited
@[simp] def ak.e (x:ak):List D:=[di x.dV,di x.Kind,di x.C.Next,.sl 2 (x.C.L.map aj.e),.sl 1 (x.G.map eb)]
def ak.ok (x:ak):Prop:=(-9223372036854775808≤x.dV∧x.dV≤9223372036854775807)∧(-9223372036854775808≤x.Kind∧x.Kind≤9223372036854775807)∧dw.ok x.C∧x.G.length≤9223372036854775807∧(∀y∈x.G,(0≤y∧y≤255))
def ak.dH (l:List ak):Prop:=∀y∈l,ak.ok y
def ak.sm (x:ak):Prop:=dw.sm x.C∧x.G.length≤1048576
def ak.aq (l:List ak):Prop:=∀y∈l,ak.sm y
structure jR where
 nz:List Int
 wV:Int
 wR:Int
 deriving Inhabited
@[simp] def jR.e (x:jR):List D:=[.sl 1 (x.nz.map ei),di x.wV,di x.wR]
def jR.ok (x:jR):Prop:=x.nz.length≤9223372036854775807∧(∀y∈x.nz,(-9223372036854775808≤y∧y≤9223372036854775807))∧(-9223372036854775808≤x.wV∧x.wV≤9223372036854775807)∧(-9223372036854775808≤x.wR∧x.wR≤9223372036854775807)
def jR.dH (l:List jR):Prop:=∀y∈l,jR.ok y
def jR.sm (x:jR):Prop:=x.nz.length≤1048576
def jR.aq (l:List jR):Prop:=∀y∈l,jR.sm y
structure bD where
 Kind:Int
 kt:Int
 Op:Int
 V:aa
 L:List bD
instance:Inhabited bD:=⟨⟨0,0,0,default,[]⟩⟩
mutual
def bD.e:bD→List D
 |⟨k,c,o,v,l⟩=>[di k,di c,di o,di v.Ty,di v.N,.str v.S,.sl 7 (bD.es l)]
def bD.es:List bD→List (List D)
 |[]=>[]
 |x::l=>bD.e x::bD.es l
end
theorem bD.K2:∀l,bD.es l=l.map bD.e
 |[]=>rfl
 |x::l=>by simp only [bD.es,zG,bD.K2 l]
@[simp] theorem bD.aaZ (x:bD):x.e=[di x.Kind,di x.kt,di x.Op,di x.V.Ty,di x.V.N,.str x.V.S,.sl 7 (x.L.map bD.e)]:=by
 cases x;simp only [bD.e,bD.K2]
mutual
def bD.ok:bD→Prop
 |⟨k,c,o,v,l⟩=>(-9223372036854775808≤k∧k≤9223372036854775807)∧(-9223372036854775808≤c∧c≤9223372036854775807)∧(-9223372036854775808≤o∧o≤9223372036854775807)∧aa.ok v∧l.length≤9223372036854775807∧bD.dH l
def bD.dH:List bD→Prop
 |[]=>True
 |x::l=>bD.ok x∧bD.dH l
end
theorem bD.M_:∀l,bD.dH l=∀y∈l,bD.ok y
 |[]=>by simp [bD.dH]
 |x::l=>by simp [bD.dH,bD.M_ l]
theorem bD.abY {l:List bD} (h:bD.dH l):∀y∈l,bD.ok y:=by rw [bD.M_] at h;exact h
theorem bD.ok_eq (x:bD):x.ok=((-9223372036854775808≤x.Kind∧x.Kind≤9223372036854775807)∧(-9223372036854775808≤x.kt∧x.kt≤9223372036854775807)∧(-9223372036854775808≤x.Op∧x.Op≤9223372036854775807)∧aa.ok x.V∧x.L.length≤9223372036854775807∧bD.dH x.L):=by
 cases x;simp only [bD.ok]
mutual
def bD.sm:bD→Prop
 |⟨k,c,o,v,l⟩=>aa.sm v∧l.length≤1048576∧bD.aq l
def bD.aq:List bD→Prop
 |[]=>True
 |x::l=>bD.sm x∧bD.aq l
end
theorem bD.N1:∀l,bD.aq l=∀y∈l,bD.sm y
 |[]=>by simp [bD.aq]
 |x::l=>by simp [bD.aq,bD.N1 l]
theorem bD.ack {l:List bD} (h:bD.aq l):∀y∈l,bD.sm y:=by rw [bD.N1] at h;exact h
theorem bD.acj (x:bD):x.sm=(aa.sm x.V∧x.L.length≤1048576∧bD.aq x.L):=by
 cases x;simp only [bD.sm]
structure gK where
 Kind:Int
 P:bD
 kt:Int
 Out:List Int
 deriving Inhabited
@[simp] def gK.e (x:gK):List D:=[di x.Kind,di x.P.Kind,di x.P.kt,di x.P.Op,di x.P.V.Ty,di x.P.V.N,.str x.P.V.S,.sl 7 (x.P.L.map bD.e),di x.kt,.sl 1 (x.Out.map ei)]
def gK.ok (x:gK):Prop:=(-9223372036854775808≤x.Kind∧x.Kind≤9223372036854775807)∧bD.ok x.P∧(-9223372036854775808≤x.kt∧x.kt≤9223372036854775807)∧x.Out.length≤9223372036854775807∧(∀y∈x.Out,(-9223372036854775808≤y∧y≤9223372036854775807))
def gK.dH (l:List gK):Prop:=∀y∈l,gK.ok y
def gK.sm (x:gK):Prop:=bD.sm x.P∧x.Out.length≤1048576
def gK.aq (l:List gK):Prop:=∀y∈l,gK.sm y
structure jU where
 Rows:List ao
 N:Int
 Has:Bool
 V:aa
 deriving Inhabited
@[simp] def jU.e (x:jU):List D:=[.sl 2 (x.Rows.map ao.e),di x.N,.bool x.Has,di x.V.Ty,di x.V.N,.str x.V.S]
def jU.ok (x:jU):Prop:=x.Rows.length≤9223372036854775807∧ao.dH x.Rows∧(-9223372036854775808≤x.N∧x.N≤9223372036854775807)∧aa.ok x.V
def jU.dH (l:List jU):Prop:=∀y∈l,jU.ok y
def jU.sm (x:jU):Prop:=x.Rows.length≤1048576∧ao.aq x.Rows∧aa.sm x.V
def jU.aq (l:List jU):Prop:=∀y∈l,jU.sm y
structure jo where
 Op:Int
 Pc:Int
 H:Int
 R:List aa
 Id:Int
 Q:gK
 Ts:Int
 pJ:Int
 L:List iv
 I:Int
 J:Int
 S:Int
 At:Int
 BB:Int
 Pa:Bool
 uf:List ao
 deriving Inhabited
@[simp] def jo.e (x:jo):List D:=[di x.Op,di x.Pc,di x.H,.sl 3 (x.R.map aa.e),di x.Id,di x.Q.Kind,di x.Q.P.Kind,di x.Q.P.kt,di x.Q.P.Op,di x.Q.P.V.Ty,di x.Q.P.V.N,.str x.Q.P.V.S,.sl 7 (x.Q.P.L.map bD.e),di x.Q.kt,.sl 1 (x.Q.Out.map ei),di x.Ts,di x.pJ,.sl 5 (x.L.map iv.e),di x.I,di x.J,di x.S,di x.At,di x.BB,.bool x.Pa,.sl 2 (x.uf.map ao.e)]
def jo.ok (x:jo):Prop:=(-9223372036854775808≤x.Op∧x.Op≤9223372036854775807)∧(-9223372036854775808≤x.Pc∧x.Pc≤9223372036854775807)∧(-9223372036854775808≤x.H∧x.H≤9223372036854775807)∧x.R.length≤9223372036854775807∧aa.dH x.R∧(-9223372036854775808≤x.Id∧x.Id≤9223372036854775807)∧gK.ok x.Q∧(-9223372036854775808≤x.Ts∧x.Ts≤9223372036854775807)∧(-9223372036854775808≤x.pJ∧x.pJ≤9223372036854775807)∧x.L.length≤9223372036854775807∧iv.dH x.L∧(-9223372036854775808≤x.I∧x.I≤9223372036854775807)∧(-9223372036854775808≤x.J∧x.J≤9223372036854775807)∧(-9223372036854775808≤x.S∧x.S≤9223372036854775807)∧(-9223372036854775808≤x.At∧x.At≤9223372036854775807)∧(-9223372036854775808≤x.BB∧x.BB≤9223372036854775807)∧x.uf.length≤9223372036854775807∧ao.dH x.uf
def jo.dH (l:List jo):Prop:=∀y∈l,jo.ok y
def jo.sm (x:jo):Prop:=x.R.length≤1048576∧aa.aq x.R∧gK.sm x.Q∧x.L.length≤1048576∧x.uf.length≤1048576∧ao.aq x.uf
def jo.aq (l:List jo):Prop:=∀y∈l,jo.sm y
structure jc where
 Op:Int
 Task:Int
 R:List aa
 Id:Int
 Q:gK
 pH:jU
 Code:Int
 BF:Int
 Inv:Int
 Bz:Int
 BD:Int
 deriving Inhabited
@[simp] def jc.e (x:jc):List D:=[di x.Op,di x.Task,.sl 3 (x.R.map aa.e),di x.Id,di x.Q.Kind,di x.Q.P.Kind,di x.Q.P.kt,di x.Q.P.Op,di x.Q.P.V.Ty,di x.Q.P.V.N,.str x.Q.P.V.S,.sl 7 (x.Q.P.L.map bD.e),di x.Q.kt,.sl 1 (x.Q.Out.map ei),.sl 2 (x.pH.Rows.map ao.e),di x.pH.N,.bool x.pH.Has,di x.pH.V.Ty,di x.pH.V.N,.str x.pH.V.S,di x.Code,di x.BF,di x.Inv,di x.Bz,di x.BD]
def jc.ok (x:jc):Prop:=(-9223372036854775808≤x.Op∧x.Op≤9223372036854775807)∧(-9223372036854775808≤x.Task∧x.Task≤9223372036854775807)∧x.R.length≤9223372036854775807∧aa.dH x.R∧(-9223372036854775808≤x.Id∧x.Id≤9223372036854775807)∧gK.ok x.Q∧jU.ok x.pH∧(-9223372036854775808≤x.Code∧x.Code≤9223372036854775807)∧(-9223372036854775808≤x.BF∧x.BF≤9223372036854775807)∧(-9223372036854775808≤x.Inv∧x.Inv≤9223372036854775807)∧(-9223372036854775808≤x.Bz∧x.Bz≤9223372036854775807)∧(-9223372036854775808≤x.BD∧x.BD≤9223372036854775807)
def jc.dH (l:List jc):Prop:=∀y∈l,jc.ok y
def jc.sm (x:jc):Prop:=x.R.length≤1048576∧aa.aq x.R∧gK.sm x.Q∧jU.sm x.pH
def jc.aq (l:List jc):Prop:=∀y∈l,jc.sm y
structure lD where
 C:jR
 Time:Int
 T:Int
 E:Int
 Dd:jT
 B:List ak
 M:List Int
 X:List jS
 P:List Int
 ug:List jo
 ue:List jc
 deriving Inhabited
@[simp] def lD.e (x:lD):List D:=[.sl 1 (x.C.nz.map ei),di x.C.wV,di x.C.wR,di x.Time,di x.T,di x.E,di x.Dd.pJ,.sl 5 (x.Dd.L.map iv.e),.sl 5 (x.B.map ak.e),.sl 1 (x.M.map ei),.sl 3 (x.X.map jS.e),.sl 1 (x.P.map ei),.sl 25 (x.ug.map jo.e),.sl 25 (x.ue.map jc.e)]
def lD.ok (x:lD):Prop:=jR.ok x.C∧(-9223372036854775808≤x.Time∧x.Time≤9223372036854775807)∧(-9223372036854775808≤x.T∧x.T≤9223372036854775807)∧(-9223372036854775808≤x.E∧x.E≤9223372036854775807)∧jT.ok x.Dd∧x.B.length≤9223372036854775807∧ak.dH x.B∧x.M.length≤9223372036854775807∧(∀y∈x.M,(-9223372036854775808≤y∧y≤9223372036854775807))∧x.X.length≤9223372036854775807∧jS.dH x.X∧x.P.length≤9223372036854775807∧(∀y∈x.P,(-9223372036854775808≤y∧y≤9223372036854775807))∧x.ug.length≤9223372036854775807∧jo.dH x.ug∧x.ue.length≤9223372036854775807∧jc.dH x.ue
def lD.dH (l:List lD):Prop:=∀y∈l,lD.ok y
def lD.sm (x:lD):Prop:=jR.sm x.C∧jT.sm x.Dd∧x.B.length≤1048576∧ak.aq x.B∧x.M.length≤1048576∧x.X.length≤1048576∧x.P.length≤1048576∧x.ug.length≤1048576∧jo.aq x.ug∧x.ue.length≤1048576∧jc.aq x.ue
def lD.aq (l:List lD):Prop:=∀y∈l,lD.sm y
structure lB where
 Kind:Int
 K:Int
 R:List aa
 Id:Int
 Q:gK
 deriving Inhabited
@[simp] def lB.e (x:lB):List D:=[di x.Kind,di x.K,.sl 3 (x.R.map aa.e),di x.Id,di x.Q.Kind,di x.Q.P.Kind,di x.Q.P.kt,di x.Q.P.Op,di x.Q.P.V.Ty,di x.Q.P.V.N,.str x.Q.P.V.S,.sl 7 (x.Q.P.L.map bD.e),di x.Q.kt,.sl 1 (x.Q.Out.map ei)]
def lB.ok (x:lB):Prop:=(-9223372036854775808≤x.Kind∧x.Kind≤9223372036854775807)∧(-9223372036854775808≤x.K∧x.K≤9223372036854775807)∧x.R.length≤9223372036854775807∧aa.dH x.R∧(-9223372036854775808≤x.Id∧x.Id≤9223372036854775807)∧gK.ok x.Q
def lB.dH (l:List lB):Prop:=∀y∈l,lB.ok y
def lB.sm (x:lB):Prop:=x.R.length≤1048576∧aa.aq x.R∧gK.sm x.Q
def lB.aq (l:List lB):Prop:=∀y∈l,lB.sm y
structure lC where
 nz:List Int
 L:List ao
 deriving Inhabited
@[simp] def lC.e (x:lC):List D:=[.sl 1 (x.nz.map ei),.sl 2 (x.L.map ao.e)]
def lC.ok (x:lC):Prop:=x.nz.length≤9223372036854775807∧(∀y∈x.nz,(-9223372036854775808≤y∧y≤9223372036854775807))∧x.L.length≤9223372036854775807∧ao.dH x.L
def lC.dH (l:List lC):Prop:=∀y∈l,lC.ok y
def lC.sm (x:lC):Prop:=x.nz.length≤1048576∧x.L.length≤1048576∧ao.aq x.L
def lC.aq (l:List lC):Prop:=∀y∈l,lC.sm y
end
end Go.Proofs.YtohlfelngklcfaaGreat.OM
