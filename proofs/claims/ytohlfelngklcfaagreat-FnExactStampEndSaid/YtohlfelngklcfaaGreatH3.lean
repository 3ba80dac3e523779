/- A part of the proof. -/
import Derived.Test.YtohlfelngklcfaaGreatH2
import Derived.LoopN
import Derived.ChangeSame
import Derived.RowKit
import Derived.RowKit3
import Derived.OpenShut
import Derived.ChangeArms
import Derived.WideKeyArgs
set_option linter.all false
namespace Go.Proofs.YtohlfelngklcfaaGreat.OM
open Bool renaming and_eq_true→za,not_eq_true'→zd,not_eq_false→zf,or_eq_true→zh,not_eq_true→zr
open List renaming all_eq_true→zb,mem_map→ze,mem_append→zg,mem_cons→zi,mem_range→zm,contains_iff_mem→zn,mem_flatMap→zq,map_congr_left→zt,mem_of_getElem?→zw,mem_filter→zx,mem_cons_of_mem→zy,range→zz,append_nil→zB,filter_eq_self→zC,getElem?_append_right→zF,getElem?_append_left→zH,getElem?_cons_succ→zK,pairwise_lt_range→zM,mem_iff_getElem→zO,pairwise_cons→zP,getElem?_map→zR,length_cons→zT,isEmpty_iff→zU,mapM_nil→zV
open Nat renaming le_max_right→zj,le_refl→zk,le_max_left→zp,zero_add→zA,sub_zero→zI
open Classical renaming choose_spec→zo,choose→zJ
open _root_.Array renaming getD_eq_getD_getElem?→zu,length_toList→zD,getElem?_eq_some_iff→zE,replicate→zL
open Option.some renaming injEq→zG
open List.Pairwise renaming filter→zN
open Option renaming mem_toList→zQ,getD_some→zS
section
def LL (ev:PX→AV) (op:aD) (r:Nat):Prop:=∃x∈op.reads,r∈(ev x).refs
def om (ev:PX→AV) (op:aD) (r:Nat):Prop:=∃x∈op.gC,r∈(ev x).refs
theorem II {op:aD} {x:PX} (h:x∈op.gC):x∈op.reads:=by
 cases op with
 |call f io args=>
  simp only [aD.gC] at h;split at h
  ·simp at h
  ·exact h
 |mP sz dD a b=>simp [aD.gC] at h;subst h;simp [aD.reads]
 |apps a b=>simp [aD.gC] at h;subst h;simp [aD.reads]
 |oS s z a=>simp [aD.gC] at h;subst h;simp [aD.reads]
 |jO f i as=>exact h
 |_=>first|exact h|(simp [aD.gC] at h)
theorem LX {op:aD} {x:PX} (h:x∈op.reads):x∈op.bK:=by
 cases op<;>first|exact h|exact zy _ h|(simp [aD.reads] at h;done)|(simp [aD.reads] at h;subst h;simp [aD.bK])
section
variable {Γ:Env} {ev ev':PX→AV} {d:Nat} {m m' m1:Ms} {av:AV} {rt:Option Rt}
theorem TO {a:AV} {r:Nat} {cs:List C} (h:a.oq m=some (r,cs)):a=.bx r 0∧(m r).1=some (.bx cs)∧cs.all C.bg=true:=by
 unfold AV.oq at h;split at h
 ·split at h
  ·rename_i hm;split at h
   ·rename_i hc;simp at h;obtain ⟨rfl,rfl⟩:=h;exact ⟨rfl,hm,hc⟩
   ·cases h
  ·cases h
 ·cases h
theorem TN {a:AV} (h:∀r∈a.refs,m1 r=m r):a.oq m1=a.oq m:=by
 cases a with
 |bx r j=>
  cases j with
  |zero=>simp only [AV.oq,h r (by simp [AV.refs])]
  |succ j=>rfl
 |_=>rfl
theorem Nh {m m1 m':Ms} {r0:Nat} {rest:List AV} {cs bw:List C} (h:tO m r0 rest cs bw=some m') (hm:m1 r0=m r0):
 ∃x,m'=aB m r0 x∧tO m1 r0 rest cs bw=some (aB m1 r0 x):=by
 unfold tO at h ⊢;split at h
 ·rename_i h1;simp at h;exact ⟨_,h.symm,by rw [if_pos h1,hm]⟩
 ·rename_i h1;split at h
  ·rename_i h2;simp at h;exact ⟨_,h.symm,by rw [if_neg h1,if_pos h2,hm]⟩
  ·cases h
theorem TE {op:aD} (O_:∀a,ev (.c a)=a) (bo:∀x∈op.bK,ev' x=ev x) (hm:∀r,LL ev op r→m1 r=m r) (h:aw Γ ev d m op=some (av,rt,m')):
 ∃bN,aw Γ ev' d m1 op=some (av,rt,bN)∧Fr (om ev op) m m' m1 bN:=by
 have hW:∀r,om ev op r→m1 r=m r:=fun r ⟨x,hx,hr⟩=>hm r ⟨x,II hx,hr⟩
 have abh:aw Γ ev' d m1 op=(match aw Γ ev d m op with|some (a,b,_)=>some (a,b,m1)|none=>none)→m'=m→
  ∃bN,aw Γ ev' d m1 op=some (av,rt,bN)∧Fr (om ev op) m m' m1 bN:=by
  intro h1 h2;subst h2;exact ⟨m1,by rw [h1,h],.none hW⟩
 cases op with
 |mv x=>
  simp only [aw,bo x (by simp [aD.bK])] at h ⊢;simp at h;obtain ⟨rfl,rfl,rfl⟩:=h;exact ⟨m1,rfl,.none hW⟩
 |pick c x y=>
  simp only [aw,bo x (by simp [aD.bK]),bo y (by simp [aD.bK]),bo c (by simp [aD.bK])] at h ⊢;split at h
  ·simp at h;obtain ⟨rfl,rfl,rfl⟩:=h;exact ⟨m1,rfl,.none hW⟩
  ·cases h
 |bin b x y=>
  simp only [aw,bo x (by simp [aD.bK]),bo y (by simp [aD.bK])] at h ⊢;split at h
  ·split at h
   ·rename_i hx hy _ _ hb;simp at h;obtain ⟨rfl,rfl,rfl⟩:=h;exact ⟨m1,by simp only [hx,hy,hb],.none hW⟩
   ·cases h
  ·cases h
 |eqs n ks x y=>
  simp only [aw,bo x (by simp [aD.bK]),bo y (by simp [aD.bK])] at h ⊢;split at h
  ·split at h
   ·rename_i hx hy _ _ hb;simp at h;obtain ⟨rfl,rfl,rfl⟩:=h;exact ⟨m1,by simp only [hx,hy,hb],.none hW⟩
   ·cases h
  ·cases h
 |kK n x y=>
  simp only [aw,bo x (by simp [aD.bK]),bo y (by simp [aD.bK])] at h ⊢;split at h
  ·rename_i _ _ hx hy;simp at h;obtain ⟨rfl,rfl,rfl⟩:=h;exact ⟨m1,by simp only [hx,hy],.none hW⟩
  ·cases h
 |un u x=>
  simp only [aw,bo x (by simp [aD.bK])] at h ⊢;split at h
  ·split at h
   ·rename_i hx _ _ hb;simp at h;obtain ⟨rfl,rfl,rfl⟩:=h;exact ⟨m1,by simp only [hx,hb],.none hW⟩
   ·cases h
  ·cases h
 |len x=>
  have e1:m1.eY (ev x)=m.eY (ev x):=yS fun r hr=>hm r ⟨x,by simp [aD.reads],hr⟩
  simp only [aw,bo x (by simp [aD.bK]),e1] at h ⊢;split at h
  ·rename_i _ _ hx;simp at h;obtain ⟨rfl,rfl,rfl⟩:=h;exact ⟨m1,by simp only [hx],.none hW⟩
  ·cases h
 |lens x=>
  simp only [aw,bo x (by simp [aD.bK])] at h ⊢;split at h
  ·rename_i _ _ hx;simp at h;obtain ⟨rfl,rfl,rfl⟩:=h;exact ⟨m1,by simp only [hx],.none hW⟩
  ·cases h
 |box n x=>
  have e1:gT m1 (ev x).cells=gT m (ev x).cells:=LY _ fun r hr=>hm r ⟨x,by simp [aD.reads],by rwa [tl] at hr⟩
  simp only [aw,bo x (by simp [aD.bK]),e1] at h ⊢;split at h
  ·split at h
   ·rename_i _ hx hl;simp at h;obtain ⟨rfl,rfl,rfl⟩:=h;exact ⟨m1,by simp only [hx,if_pos hl],.none hW⟩
   ·cases h
  ·cases h
 |alloc zs=>
  have e1:gT m1 zs=gT m zs:=LY _ fun r hr=>by
   have sj:∀(l:List AV),r∈AV.b9 l→∃a∈l,r∈a.refs:=by
    intro l;induction l with
    |nil=>intro h;simp [AV.b9] at h
    |cons b l ih=>
     intro h;simp only [AV.b9,zg] at h;rcases h with h|h
     ·exact ⟨b,by simp,h⟩
     ·obtain ⟨a,h1,h2⟩:=ih h;exact ⟨a,by simp [h1],h2⟩
   obtain ⟨a,h1,h2⟩:=sj zs hr;exact hm r ⟨.c a,by simp [aD.reads,h1],by rwa [O_]⟩
  simp only [aw,e1] at h ⊢;split at h
  ·rename_i _ hx;simp at h;obtain ⟨rfl,rfl,rfl⟩:=h;exact ⟨m1,by simp only [hx],.none hW⟩
  ·cases h
 |build z ps=>
  have e1:(ps.map fun x=>(x.1,x.2.1,ev' x.2.2))=ps.map fun x=>(x.1,x.2.1,ev x.2.2):=
   zt fun x hx=>by rw [bo x.2.2 (by simp only [aD.bK,ze];exact ⟨x,hx,rfl⟩)]
  simp only [aw,e1] at h ⊢;split at h
  ·rename_i _ hx;simp at h;obtain ⟨rfl,rfl,rfl⟩:=h;exact ⟨m1,by simp only [hx],.none hW⟩
  ·cases h
 |cu sz z n ps=>
  have e1:(ps.map fun x=>(x.1,ev' x.2))=ps.map fun x=>(x.1,ev x.2):=
   zt fun x hx=>by rw [bo x.2 (by simp only [aD.bK,ze];exact ⟨x,hx,rfl⟩)]
  simp only [aw,e1] at h ⊢;split at h
  ·rename_i l m2 hx;simp at h;obtain ⟨rfl,rfl,rfl⟩:=h
   obtain ⟨q,h1,h2⟩:=N6 _ hx (m1:=m1) (fun x hx r hr=>by
    simp only [ze] at hx;obtain ⟨y,hy,rfl⟩:=hx
    exact hm r ⟨y.2,by simp only [aD.reads,ze];exact ⟨y,hy,rfl⟩,hr⟩)
   refine ⟨q,by simp only [h1],h2.wide (fun r hr=>?_) hW⟩;obtain ⟨x,hx,hr⟩:=hr;simp only [ze] at hx;obtain ⟨y,hy,rfl⟩:=hx;exact ⟨y.2,by simp only [aD.gC,ze];exact ⟨y,hy,rfl⟩,hr⟩
  ·cases h
 |gR sz dD z x=>
  simp only [aw,bo x (by simp [aD.bK])] at h ⊢;split at h
  ·split at h
   ·rename_i _ hx hl;simp at h;obtain ⟨rfl,rfl,rfl⟩:=h;exact ⟨m1,by simp only [hx,if_pos hl],.none hW⟩
   ·cases h
  ·cases h
 |ld ag n x=>
  have e1:jx m1 n (ev x)=jx m n (ev x):=SB fun r hr=>hm r ⟨x,by simp [aD.reads],hr⟩
  simp only [aw,bo x (by simp [aD.bK]),e1] at h ⊢;split at h
  ·rename_i l hx;split at h
   ·rename_i iR;simp at h;obtain ⟨rfl,rfl,rfl⟩:=h;exact ⟨m1,by simp only [hx,if_pos iR],.none hW⟩
   ·rename_i iR;split at h
    ·simp at h;obtain ⟨rfl,rfl,rfl⟩:=h;exact ⟨m1,by simp only [hx,if_neg iR],.none hW⟩
    ·cases h
  ·cases h
 |st n x y=>
  simp only [aw,bo x (by simp [aD.bK]),bo y (by simp [aD.bK])] at h ⊢;split at h
  ·rename_i cs m2 h1;split at h
   ·rename_i hl;split at h
    ·rename_i m3 h2;simp at h;obtain ⟨rfl,rfl,rfl⟩:=h;obtain ⟨q1,e1,f1⟩:=BH _ h1 (m1:=m1) (fun r hr=>hm r ⟨y,by simp [aD.reads],by rwa [tl] at hr⟩);obtain ⟨q2,e2,f2⟩:=Me h2 (m1:=q1) (fun r hr=>f1.pd (hm r ⟨x,by simp [aD.reads],hr⟩));refine ⟨q2,by simp only [e1,if_pos hl,e2],f1.trans f2 (fun r hr=>⟨y,by simp [aD.gC],by rwa [tl] at hr⟩) (fun r hr=>⟨x,by simp [aD.gC],hr⟩) hW⟩
    ·cases h
   ·cases h
  ·cases h
 |qp n x y=>
  simp only [aw,bo x (by simp [aD.bK]),bo y (by simp [aD.bK])] at h ⊢;split at h
  ·rename_i cs h1;split at h
   ·rename_i hl;split at h
    ·rename_i m3 h2;simp at h;obtain ⟨rfl,rfl,rfl⟩:=h
     have h3:kR m cs (ev x)=some m3:=by
      revert h2;unfold tr;split
      ·rename_i hx;rw [hx];exact id
      ·intro h;cases h
     have h4:∀q,tr q cs (ev x)=kR q cs (ev x):=by
      intro q;revert h2;unfold tr;split
      ·rename_i hx;rw [hx];intro _;rfl
      ·intro h;cases h
     obtain ⟨q2,e2,f2⟩:=Me h3 (m1:=m1) (fun r hr=>hm r ⟨x,by simp [aD.reads],hr⟩);refine ⟨q2,by simp only [h1,if_pos hl,h4,e2],.wide f2 (fun r hr=>⟨x,by simp [aD.gC],hr⟩) hW⟩
    ·cases h
   ·cases h
  ·cases h
 |r7 x k=>
  simp only [aw,bo x (by simp [aD.bK])] at h ⊢;split at h
  ·split at h
   ·rename_i hx _ _ hk;simp at h;obtain ⟨rfl,rfl,rfl⟩:=h;exact ⟨m1,by simp only [hx,hk],.none hW⟩
   ·cases h
  ·cases h
 |oj x=>
  simp only [aw,bo x (by simp [aD.bK])] at h ⊢;split at h
  ·rename_i _ _ hx;simp at h;obtain ⟨rfl,rfl,rfl⟩:=h;exact ⟨m1,by simp only [hx],.none hW⟩
  ·rename_i _ _ _ hx;simp at h;obtain ⟨rfl,rfl,rfl⟩:=h;exact ⟨m1,by simp only [hx],.none hW⟩
  ·rename_i hx;simp at h;obtain ⟨rfl,rfl,rfl⟩:=h;exact ⟨m1,by simp only [hx],.none hW⟩
  ·rename_i hx;simp at h;obtain ⟨rfl,rfl,rfl⟩:=h;exact ⟨m1,by simp only [hx],.none hW⟩
  ·cases h
 |iq x off=>
  simp only [aw,bo x (by simp [aD.bK])] at h ⊢;split at h
  ·rename_i _ _ hx;simp at h;obtain ⟨rfl,rfl,rfl⟩:=h;exact ⟨m1,by simp only [hx],.none hW⟩
  ·rename_i hx;simp at h;obtain ⟨rfl,rfl,rfl⟩:=h;exact ⟨m1,by simp only [hx],.none hW⟩
  ·rename_i hx;simp at h;obtain ⟨rfl,rfl,rfl⟩:=h;exact ⟨m1,by simp only [hx],.none hW⟩
  ·cases h
 |mz sz x i=>
  simp only [aw,bo x (by simp [aD.bK]),bo i (by simp [aD.bK])] at h ⊢;split at h
  ·rename_i n hn;split at h
   ·rename_i hx;split at h
    ·rename_i hl;simp at h;obtain ⟨rfl,rfl,rfl⟩:=h;exact ⟨m1,by simp only [hx,if_pos hl],.none hW⟩
    ·cases h
   ·rename_i r j p hx;have e1:m1.at r j p=m.at r j p:=jN (hm r ⟨x,by simp [aD.reads],by simp [hx,AV.refs]⟩);split at h
    ·rename_i bz;split at h
     ·rename_i hl;simp at h;obtain ⟨rfl,rfl,rfl⟩:=h;exact ⟨m1,by simp only [hx,e1,bz,if_pos hl],.none hW⟩
     ·cases h
    ·cases h
   ·rename_i r j p dQ lo hi hx;have e1:m1.at r j p=m.at r j p:=jN (hm r ⟨x,by simp [aD.reads],by simp [hx,AV.refs]⟩);split at h
    ·rename_i bz;split at h
     ·rename_i hl;simp at h;obtain ⟨rfl,rfl,rfl⟩:=h;exact ⟨m1,by simp only [hx,e1,bz,if_pos hl],.none hW⟩
     ·cases h
    ·cases h
   ·cases h
  ·cases h
 |rA sz x lo hi=>
  have e0:∀n,kQ n ev' lo hi=kQ n ev lo hi:=fun n=>LA (fun y hy=>bo y (by simp only [aD.bK];simp only [zi,zg];exact .inr (.inl hy)))
   (fun y hy=>bo y (by simp only [aD.bK];simp only [zi,zg];exact .inr (.inr hy)))
  simp only [aw,bo x (by simp [aD.bK]),e0] at h ⊢;split at h
  ·rename_i hx;split at h
   ·rename_i jX;split at h
    ·rename_i hl;simp at h;obtain ⟨rfl,rfl,rfl⟩:=h;exact ⟨m1,by simp only [hx,jX,if_pos hl],.none hW⟩
    ·cases h
   ·cases h
  ·rename_i hx;split at h
   ·rename_i jX;simp at h;obtain ⟨rfl,rfl,rfl⟩:=h;exact ⟨m1,by simp only [hx,jX],.none hW⟩
   ·cases h
  ·rename_i r j p hx;have e1:m1.at r j p=m.at r j p:=jN (hm r ⟨x,by simp [aD.reads],by simp [hx,AV.refs]⟩);split at h
   ·rename_i bz;split at h
    ·rename_i jX;split at h
     ·rename_i hl;simp at h;obtain ⟨rfl,rfl,rfl⟩:=h;exact ⟨m1,by simp only [hx,e1,bz,jX,if_pos hl],.none hW⟩
     ·cases h
    ·cases h
   ·cases h
  ·cases h
 |tm x lo hi=>
  have e0:∀n,kQ n ev' lo hi=kQ n ev lo hi:=fun n=>LA (fun y hy=>bo y (by simp only [aD.bK];simp only [zi,zg];exact .inr (.inl hy)))
   (fun y hy=>bo y (by simp only [aD.bK];simp only [zi,zg];exact .inr (.inr hy)))
  simp only [aw,bo x (by simp [aD.bK]),e0] at h ⊢;split at h
  ·rename_i hx;split at h
   ·rename_i jX;simp at h;obtain ⟨rfl,rfl,rfl⟩:=h;exact ⟨m1,by simp only [hx,jX],.none hW⟩
   ·cases h
  ·cases h
 |ext x k=>
  simp only [aw,bo x (by simp [aD.bK])] at h ⊢;split at h
  ·split at h
   ·rename_i hx _ _ hk;simp at h;obtain ⟨rfl,rfl,rfl⟩:=h;exact ⟨m1,by simp only [hx,hk],.none hW⟩
   ·cases h
  ·cases h
 |call f io args=>
  have e0:args.map ev'=args.map ev:=zt fun x hx=>bo x hx
  cases io with
  |nil=>
   have e1:dP m1 [] 0 (args.map ev)=dP m [] 0 (args.map ev):=uM [] _ _ fun a ha r hr=>by
    simp only [ze] at ha;obtain ⟨x,hx,rfl⟩:=ha;exact hm r ⟨x,hx,hr⟩
   simp only [aw,e0,e1] at h ⊢;split at h
   ·rename_i xs h1;split at h
    ·rename_i r us h2;split at h
     ·rename_i h3;split at h
      ·simp at h;obtain ⟨rfl,rfl,rfl⟩:=h;exact ⟨m1,by simp only [h1,h2,if_pos h3],.none hW⟩
      ·cases h
     ·cases h
    ·cases h
   ·cases h
  |cons i0 io=>
   have gF:∀a∈args.map ev,∀r∈a.refs,m1 r=m r:=fun a ha r hr=>by
    simp only [ze] at ha;obtain ⟨x,hx,rfl⟩:=ha;exact hm r ⟨x,hx,hr⟩
   have r_:∀a∈args.map ev,∀r∈a.refs,om ev (.call f (i0::io) args) r:=fun a ha r hr=>by
    simp only [ze] at ha;obtain ⟨x,hx,rfl⟩:=ha;exact ⟨x,by simp [aD.gC,hx],hr⟩
   simp only [aw,e0] at h ⊢;generalize args.map ev=as at h gF r_ ⊢;cases as with
   |nil=>simp at h
   |cons a0 rest=>
    simp only at h ⊢;rw [TN (gF a0 (by simp))];split at h
    ·rename_i r0 cs0 hp;have e2:dP m1 [] 1 rest=dP m [] 1 rest:=uM [] _ _ fun a ha r hr=>gF a (by simp [ha]) r hr
     have mr:r0∈a0.refs:=by rw [(TO hp).1];simp [AV.refs]
     split at h
     ·rename_i xs h2;split at h
      ·rename_i r us h4;split at h
       ·rename_i h5;split at h
        ·rename_i bw h6;split at h
         ·rename_i h7;split at h
          ·rename_i mb mj;simp at h;obtain ⟨rfl,rfl,rfl⟩:=h;have si:=gF a0 (by simp) r0 mr;obtain ⟨x,rfl,e3⟩:=Nh mj si;refine ⟨aB m1 r0 x,by simp only [hp,e2,h2,h4,if_pos h5,h6,if_pos h7,e3],Fr.aB.wide (fun r e=>?_) hW⟩;subst e;exact r_ a0 (by simp) r mr
          ·cases h
         ·cases h
        ·cases h
       ·cases h
      ·cases h
     ·cases h
    split at h
    ·rename_i x0 m2 h1;obtain ⟨q1,e1,f1⟩:=LM h1 (m1:=m1) (gF a0 (by simp));have e2:dP q1 [] 1 rest=dP m2 [] 1 rest:=uM [] _ _ fun a ha r hr=>f1.pd (gF a (by simp [ha]) r hr)
     split at h
     ·rename_i xs h2
      ·split at h
       ·rename_i r us h4;split at h
        ·rename_i h5;split at h
         ·rename_i m3 h6;simp at h;obtain ⟨rfl,rfl,rfl⟩:=h;obtain ⟨q2,e3,f2⟩:=Vo us h6 (m1:=q1) (fun r hr=>f1.pd (gF a0 (by simp) r (by rwa [tl] at hr)));exact ⟨q2,by simp only [e1,e2,h2,h4,if_pos h5,e3],f1.trans f2 (fun r hr=>r_ a0 (by simp) r hr) (fun r hr=>r_ a0 (by simp) r (by rwa [tl] at hr)) hW⟩
         ·cases h
        ·cases h
       ·cases h
     ·cases h
    ·cases h
 |app sz dD x y=>
  have e1:m1.eY (ev y)=m.eY (ev y):=yS fun r hr=>hm r ⟨y,by simp [aD.reads],hr⟩
  simp only [aw,bo x (by simp [aD.bK]),bo y (by simp [aD.bK]),e1] at h ⊢;split at h
  ·rename_i s1 ys m2 h1;split at h
   ·rename_i s2 es m3 h2;split at h
    ·rename_i hl;simp at h;obtain ⟨rfl,rfl,rfl⟩:=h
     have fin:∀q1,Fr (om ev (.app sz dD x y)) m m2 m1 q1→∃q2,eo q1 (ev x)=some (.own (.sl s2 es),q2)∧Fr (om ev (.app sz dD x y)) m m3 m1 q2:=by
      intro q1 f1;obtain ⟨q2,e2,f2⟩:=tK h2 (m1:=q1) (fun r hr=>f1.pd (hm r ⟨x,by simp [aD.reads],hr⟩));exact ⟨q2,e2,f1.trans f2 (fun r hr=>hr) (fun r hr=>⟨x,by simp [aD.gC],hr⟩) hW⟩
     split at h1
     ·rename_i s ys0 he;split at h1
      ·rename_i hf;simp at h1;obtain ⟨rfl,rfl,rfl⟩:=h1;obtain ⟨q2,e2,f2⟩:=fin m1 (.none hW);exact ⟨q2,by simp only [he,if_pos hf,e2,if_pos hl],f2⟩
      ·rename_i hf;split at h1
       ·rename_i s3 ys3 m4 ha;split at h1
        ·rename_i pE;simp at h1;obtain ⟨rfl,rfl,rfl⟩:=h1;obtain ⟨q,e3,f3⟩:=tK ha (m1:=m1) (fun r hr=>hm r ⟨y,by simp [aD.reads],hr⟩);obtain ⟨q2,e2,f2⟩:=fin q (f3.wide (fun r hr=>⟨y,by simp [aD.gC],hr⟩) hW);exact ⟨q2,by simp only [he,if_neg hf,e3,if_pos pE,e2,if_pos hl],f2⟩
        ·cases h1
       ·cases h1
     ·cases h1
    ·cases h
   ·cases h
  ·cases h
 |apps x y=>
  simp only [aw,bo x (by simp [aD.bK]),bo y (by simp [aD.bK])] at h ⊢;split at h
  ·rename_i hy;split at h
   ·rename_i es m2 h2;split at h
    ·rename_i hl;simp at h;obtain ⟨rfl,rfl,rfl⟩:=h;obtain ⟨q2,e2,f2⟩:=tK h2 (m1:=m1) (fun r hr=>hm r ⟨x,by simp [aD.reads],hr⟩);exact ⟨q2,by simp only [hy,e2,if_pos hl],f2.wide (fun r hr=>⟨x,by simp [aD.gC],hr⟩) hW⟩
    ·cases h
   ·cases h
  ·cases h
 |mP sz dD x y=>
  have e1:m1.eY (ev y)=m.eY (ev y):=yS fun r hr=>hm r ⟨y,by simp [aD.reads],hr⟩
  simp only [aw,bo x (by simp [aD.bK]),bo y (by simp [aD.bK]),e1] at h ⊢;split at h
  ·rename_i s1 ys h1;split at h
   ·rename_i hf;split at h
    ·rename_i s2 es m3 h2;split at h
     ·rename_i hl;simp at h;obtain ⟨rfl,rfl,rfl⟩:=h;obtain ⟨q2,e2,f2⟩:=tK h2 (m1:=m1) (fun r hr=>hm r ⟨x,by simp [aD.reads],hr⟩);exact ⟨q2,by simp only [h1,if_pos hf,e2,if_pos hl],f2.wide (fun r hr=>⟨x,by simp [aD.gC],hr⟩) hW⟩
     ·cases h
    ·cases h
   ·cases h
  ·cases h
 |oT k x=>
  simp only [aw,bo x (by simp [aD.bK])] at h ⊢;split at h
  ·rename_i hx;simp at h;obtain ⟨rfl,rfl,rfl⟩:=h;exact ⟨m1,by simp only [hx],.none hW⟩
  ·cases h
 |ph x=>
  have e1:m1.eY (ev x)=m.eY (ev x):=yS fun r hr=>hm r ⟨x,by simp [aD.reads],hr⟩
  simp only [aw,bo x (by simp [aD.bK]),e1] at h ⊢;split at h
  ·rename_i hx;split at h
   ·rename_i hb;simp at h;obtain ⟨rfl,rfl,rfl⟩:=h;exact ⟨m1,by simp only [hx,hb],.none hW⟩
   ·cases h
  ·cases h
 |uT x=>simp [aw] at h
 |idx x i=>
  simp only [aw,bo x (by simp [aD.bK]),bo i (by simp [aD.bK])] at h ⊢;split at h
  ·rename_i hx hi;split at h
   ·rename_i hl;split at h
    ·rename_i hb;simp at h;obtain ⟨rfl,rfl,rfl⟩:=h;exact ⟨m1,by simp only [hx,hi,if_pos hl,hb],.none hW⟩
    ·cases h
   ·cases h
  ·cases h
 |mn x y=>
  simp only [aw,bo x (by simp [aD.bK]),bo y (by simp [aD.bK])] at h ⊢;split at h
  ·rename_i hx hy;simp at h;obtain ⟨rfl,rfl,rfl⟩:=h;exact ⟨m1,by simp only [hx,hy],.none hW⟩
  ·cases h
 |mx x y=>
  simp only [aw,bo x (by simp [aD.bK]),bo y (by simp [aD.bK])] at h ⊢;split at h
  ·rename_i hx hy;simp at h;obtain ⟨rfl,rfl,rfl⟩:=h;exact ⟨m1,by simp only [hx,hy],.none hW⟩
  ·cases h
 |sX k x=>
  simp only [aw,bo x (by simp [aD.bK])] at h ⊢;split at h
  ·rename_i hx;simp at h;obtain ⟨rfl,rfl,rfl⟩:=h;exact ⟨m1,by simp only [hx],.none hW⟩
  ·cases h
 |jO f i args=>
  have e0:args.map ev'=args.map ev:=zt fun x hx=>bo x hx
  have gF:∀a∈args.map ev,∀r∈a.refs,m1 r=m r:=fun a ha r hr=>by
   simp only [ze] at ha;obtain ⟨x,hx,rfl⟩:=ha;exact hm r ⟨x,hx,hr⟩
  have r_:∀a∈args.map ev,∀r∈a.refs,om ev (.jO f i args) r:=fun a ha r hr=>by
   simp only [ze] at ha;obtain ⟨x,hx,rfl⟩:=ha;exact ⟨x,by simp [aD.gC,hx],hr⟩
  simp only [aw,e0] at h ⊢;generalize args.map ev=as at h gF r_ ⊢;split at h
  ·rename_i a0 la;have ha:=zw la;split at h
   ·rename_i x0 m2 h1;obtain ⟨q1,e1,f1⟩:=LM h1 (m1:=m1) (gF a0 ha)
    have e2:dP q1 [] 0 (as.set i (.v false (.bool true)))=dP m2 [] 0 (as.set i (.v false (.bool true))):=uM [] _ _ fun a ha r hr=>f1.pd (by
     rcases List.mem_or_eq_of_mem_set ha with ha|rfl
     ·exact gF a ha r hr
     ·simp [AV.refs] at hr)
    split at h
    ·rename_i xs h2;split at h
     ·rename_i r us h4;split at h
      ·rename_i h5;simp at h;obtain ⟨rfl,rfl,rfl⟩:=h;exact ⟨q1,by simp only [la,e1,e2,h2,h4,if_pos h5],f1.wide (fun r hr=>r_ a0 ha r hr) hW⟩
      ·cases h
     ·cases h
    ·cases h
   ·cases h
  ·cases h
 |oS sz z x=>
  simp only [aw,bo x (by simp [aD.bK])] at h ⊢;split at h
  ·rename_i r j p o7 lo hi hx;have mr:m1 r=m r:=hm r ⟨x,by simp [aD.reads],by simp [hx,AV.refs]⟩;split at h
   ·rename_i yj es bz;split at h
    ·rename_i cN;split at h
     ·rename_i m2 iw;simp at h;obtain ⟨rfl,rfl,rfl⟩:=h;obtain ⟨q,e1,f1⟩:=Bc iw mr;exact ⟨q,by simp only [hx,jN mr,bz,if_pos cN,e1],f1.wide (fun r1 Rc=>by subst Rc;exact ⟨x,by simp [aD.gC],by simp [hx,AV.refs]⟩) hW⟩
     ·cases h
    ·cases h
   ·cases h
  ·cases h
 |kZ f x y=>
  simp only [aw,bo x (by simp [aD.bK]),bo y (by simp [aD.bK])] at h ⊢;split at h
  ·rename_i r hx;have mr:m1 r=m r:=hm r ⟨x,by simp [aD.reads],by simp [hx,AV.refs]⟩;simp only [mr,jN mr];split at h
   ·split at h
    ·split at h
     ·split at h
      ·split at h
       ·split at h
        ·split at h
         ·rename_i cN;simp at h;obtain ⟨rfl,rfl,rfl⟩:=h;exact ⟨m1,by rw [if_pos cN],.none hW⟩
         ·rename_i cN;simp at h;obtain ⟨rfl,rfl,rfl⟩:=h;exact ⟨m1,by rw [if_neg cN],.none hW⟩
        ·cases h
       ·cases h
      ·cases h
     ·cases h
    ·cases h
   ·cases h
  ·cases h
 |mf x args=>
  have e0:args.map ev'=args.map ev:=zt fun y hy=>bo y (by simp [aD.bK,hy])
  have e1:dP m1 [] 0 (args.map ev)=dP m [] 0 (args.map ev):=uM [] _ _ fun a ha r hr=>by
   simp only [ze] at ha;obtain ⟨x,hx,rfl⟩:=ha;exact hm r ⟨x,hx,hr⟩
  simp only [aw,bo x (by simp [aD.bK]),e0,e1] at h ⊢;split at h
  ·rename_i k f ds hx;split at h
   ·rename_i xs h1;split at h
    ·rename_i r us h2;split at h
     ·rename_i h3;split at h
      ·simp at h;obtain ⟨rfl,rfl,rfl⟩:=h;exact ⟨m1,by simp only [hx,h1,h2,if_pos h3],.none hW⟩
      ·cases h
     ·cases h
    ·cases h
   ·cases h
  ·cases h
end
end
section
def PX.slot:PX→List Nat
 |.t n=>[n]
 |.c _=>[]
def PO.looks (o:PO):List Nat:=o.op.bK.flatMap PX.slot++(match o.g with|some (t,_)=>[t]|none=>[])
def gA (S:St) (dst:Option Nat) (a:AV):Nat→AV:=match dst with
 |some d=>aB S.av d a
 |none=>S.av
section
variable {Γ:Env}
theorem ME {S:St} {g:Option (Nat×Bool)} {b:Bool} (h:gd S g=some b):wanted S g=b:=by
 cases g with
 |none=>simp [gd] at h;subst h;rfl
 |some x=>
  obtain ⟨t,want⟩:=x;simp only [gd] at h;simp only [wanted];split at h
  ·rename_i hb;simp at h;subst h;simp [hb]
  ·rename_i hb;simp at h;subst h;simp [hb]
  ·cases h
theorem TD {ev:PX→AV} {d:Nat} {m m':Ms} {op:aD} {a:AV} {r:Rt} (h:aw Γ ev d m op=some (a,some r,m')):op.uS=true:=by
 cases op with
 |box=>rfl
 |alloc=>rfl
 |cu=>rfl
 |gR=>rfl
 |call=>rfl
 |jO=>rfl
 |kZ=>rfl
 |mf=>rfl
 |app=>rfl
 |mP=>rfl
 |apps=>rfl
 |uT=>simp [aw] at h
 |_=>
  exfalso;simp only [aw] at h
  repeat' split at h
  all_goals first|(cases h;done)|(simp at h;done)
theorem L9 {o:PO} {S S':St} (h:dH Γ o S=some S'):
 (gd S o.g=some false∧S'=⟨gA S o.dst (.bu []),S.ms⟩)∨
 (gd S o.g=some true∧∃av rt m',aw Γ S.ev (o.dst.getD 0) S.ms o.op=some (av,rt,m')∧
   ((rt=none∧S'=⟨gA S o.dst av,m'⟩)∨∃d r,rt=some r∧o.dst=some d∧(m' d).1=none∧S'=⟨gA S o.dst av,aB m' d (some r,[])⟩)):=by
 unfold dH at h;split at h
 ·rename_i h1;refine .inr ⟨h1,?_⟩;split at h
  ·rename_i d hd;split at h
   ·rename_i a m' ho;simp at h;subst h;exact ⟨a,none,m',by simpa [hd] using ho,.inl ⟨rfl,by simp [gA,hd]⟩⟩
   ·rename_i a r m' ho;split at h
    ·rename_i hm;simp at h;subst h;exact ⟨a,some r,m',by simpa [hd] using ho,.inr ⟨d,r,rfl,hd,by rw [hm],by simp [gA,hd]⟩⟩
    ·cases h
   ·cases h
  ·rename_i hd;split at h
   ·rename_i a m' ho;simp at h;subst h;exact ⟨a,none,m',by simpa [hd] using ho,.inl ⟨rfl,by simp [gA,hd]⟩⟩
   ·cases h
 ·rename_i h1;refine .inl ⟨h1,?_⟩;split at h
  ·rename_i d hd;simp at h;subst h;simp [gA,hd]
  ·rename_i hd;simp at h;subst h;simp [gA,hd]
 ·cases h
theorem UJ {o:PO} {S:St} (h:gd S o.g=some false):dH Γ o S=some ⟨gA S o.dst (.bu []),S.ms⟩:=by
 unfold dH;cases hd:o.dst<;>simp [h,gA]
theorem Mc {o:PO} {S:St} (h:gd S o.g=some true) {av:AV} {rt:Option Rt} {m':Ms} (ho:aw Γ S.ev (o.dst.getD 0) S.ms o.op=some (av,rt,m')):
 (rt=none→dH Γ o S=some ⟨gA S o.dst av,m'⟩)∧
 (∀d r,rt=some r→o.dst=some d→(m' d).1=none→dH Γ o S=some ⟨gA S o.dst av,aB m' d (some r,[])⟩):=by
 refine ⟨fun e=>?_,fun d r e hd hm=>?_⟩
 ·subst e;unfold dH;cases hd:o.dst with
  |none=>rw [hd] at ho;simp only [Option.getD_none] at ho;simp [h,gA,ho]
  |some d=>rw [hd] at ho;simp only [zS] at ho;simp [h,gA,ho]
 ·subst e;unfold dH;rw [hd] at ho ⊢;simp only [zS] at ho;have:m' d=(none,(m' d).2):=by rw [←hm]
  simp only [h,ho,gA];rw [this]
theorem N9 {S S':St} {g:Option (Nat×Bool)} (h:∀t w,g=some (t,w)→S'.av t=S.av t):gd S' g=gd S g:=by
 cases g with
 |none=>rfl
 |some x=>obtain ⟨t,w⟩:=x;simp only [gd,h t w rfl]
theorem Vt {S S':St} {g:Option (Nat×Bool)} (h:∀t w,g=some (t,w)→S'.av t=S.av t):wanted S' g=wanted S g:=by
 cases g with
 |none=>rfl
 |some x=>obtain ⟨t,w⟩:=x;simp only [wanted,h t w rfl]
theorem B5 {S S':St} {o:PO} (h:∀n∈o.looks,S'.av n=S.av n) {x:PX} (hx:x∈o.op.bK):S'.ev x=S.ev x:=by
 cases x with
 |c a=>rfl
 |t n=>exact h n (List.mem_append_left _ (zq.2 ⟨_,hx,by simp [PX.slot]⟩))
theorem U9 {op:aD} {x:PX} (h:x∈op.gC):x∈op.bK:=LX (II h)
theorem Kb {l:List PX} {f f':PX→List Nat} (h:∀x∈l,f x=f' x):l.flatMap f=l.flatMap f':=by
 induction l with
 |nil=>rfl
 |cons a l ih=>simp only [List.flatMap_cons,h a (by simp),ih fun x hx=>h x (by simp [hx])]
theorem Ke {S S':St} {o:PO} (h:∀n∈o.looks,S'.av n=S.av n):fq S' o=fq S o∧dE S' o=dE S o:=by
 have hw:wanted S' o.g=wanted S o.g:=Vt fun t w e=>h t (by simp [PO.looks,e])
 simp only [fq,dE,hw]
 rw [Kb (f:=fun x=>(S'.ev x).refs) (f':=fun x=>(S.ev x).refs) fun x hx=>by rw [B5 h (LX hx)],
  Kb (f:=fun x=>(S'.ev x).refs) (f':=fun x=>(S.ev x).refs) fun x hx=>by rw [B5 h (U9 hx)]]
 exact ⟨rfl,rfl⟩
theorem IE {q:PO} {S S2 S':St} (h:dH Γ q S=some S2) (hl:∀n∈q.looks,S'.av n=S.av n) (hr:∀r∈fq S q,S'.ms r=S.ms r)
 (hn:∀d,q.dst=some d→d∈dE S q→S'.ms d=S.ms d):
 ∃qy,dH Γ q S'=some qy∧(∀n,q.dst=some n→qy.av n=S2.av n)∧(∀n,q.dst≠some n→qy.av n=S'.av n∧S2.av n=S.av n)∧
  (∀r∈dE S q,qy.ms r=S2.ms r)∧(∀r,r∉dE S q→qy.ms r=S'.ms r∧S2.ms r=S.ms r):=by
 have hg:gd S' q.g=gd S q.g:=N9 fun t w e=>hl t (by simp [PO.looks,e])
 have iw:∀av,(∀n,q.dst=some n→gA S' q.dst av n=gA S q.dst av n)∧(∀n,q.dst≠some n→gA S' q.dst av n=S'.av n∧gA S q.dst av n=S.av n):=by
  intro av;cases hd:q.dst with
  |none=>exact ⟨by simp,fun n _=>⟨rfl,rfl⟩⟩
  |some d=>exact ⟨fun n e=>by simp at e;subst e;simp [gA,aB],fun n e=>by
    have:n≠d:=fun e'=>e (by rw [e'])
    simp [gA,aB,this]⟩
 rcases L9 h with ⟨h1,rfl⟩|⟨h1,av,rt,m',ho,h2⟩
 ·have hw:=ME h1;refine ⟨_,UJ (hg.trans h1),(iw _).1,(iw _).2,fun r hr=>?_,fun r _=>⟨rfl,rfl⟩⟩;simp [dE,hw] at hr
 ·have hw:=ME h1;have hR:∀r,LL S.ev q.op r→S'.ms r=S.ms r:=fun r ⟨x,hx,h3⟩=>hr r (by simp only [fq,hw,if_true,zq];exact ⟨x,hx,h3⟩)
  obtain ⟨bN,vr,hF⟩:=TE (ev:=S.ev) (ev':=S'.ev) (m1:=S'.ms) (fun a=>rfl) (fun x hx=>B5 hl hx) hR ho
  have yU:∀r,om S.ev q.op r→r∈dE S q:=fun r ⟨x,hx,h3⟩=>by
   simp only [dE,hw,if_true,zg,zq];exact .inr ⟨x,hx,h3⟩
  have sj:∀r,r∈dE S q→om S.ev q.op r∨(q.op.uS=true∧q.dst=some r):=fun r h3=>by
   simp only [dE,hw,if_true,zg,zq] at h3;rcases h3 with h3|h3
   ·split at h3
    ·rename_i hc;exact .inr ⟨hc,by simpa [zQ] using h3⟩
    ·simp at h3
   ·exact .inl h3
  rcases h2 with ⟨rfl,rfl⟩|⟨d,r,rfl,hd,hm,rfl⟩
  ·refine ⟨_,(Mc (hg.trans h1) vr).1 rfl,(iw _).1,(iw _).2,fun r hr=>?_,fun r hr=>?_⟩
   ·by_cases h4:om S.ev q.op r
    ·exact hF.1 r h4
    ·rcases sj r hr with h3|h3
     ·exact absurd h3 h4
     ·show bN r=m' r;rw [hF.2.2 r h4,hF.2.1 r h4];exact hn r h3.2 hr
   ·exact ⟨hF.2.2 r fun e=>hr (yU r e),hF.2.1 r fun e=>hr (yU r e)⟩
  ·have KL:d∈dE S q:=by
    simp only [dE,hw,if_true,TD ho,hd,zg];exact .inl (by simp)
   have si:(bN d).1=none:=by
    by_cases h4:om S.ev q.op d
    ·rw [hF.1 d h4,hm]
    ·rw [hF.2.2 d h4,hn d hd KL,←hF.2.1 d h4,hm]
   refine ⟨_,(Mc (hg.trans h1) vr).2 d r rfl hd si,(iw _).1,(iw _).2,fun k hk=>?_,fun k hk=>?_⟩
   ·by_cases e:k=d
    ·subst e;simp [aB]
    ·simp only [aB,if_neg e];rcases sj k hk with h3|h3
     ·exact hF.1 k h3
     ·rw [hd] at h3;simp at h3;exact absurd h3.2.symm e
   ·have e:k≠d:=fun e=>hk (e▸KL)
    simp only [aB,if_neg e];exact ⟨hF.2.2 k fun e=>hk (yU k e),hF.2.1 k fun e=>hk (yU k e)⟩
def uL (p q:PO):Bool:=
 (match p.dst with
  |some d=>!q.looks.contains d&&q.dst !=some d
  |none=>true)&&
 (match q.dst with
  |some d=>!p.looks.contains d
  |none=>true)
theorem M5 {p q:PO} (h:uL p q=true):(∀d,p.dst=some d→d∉q.looks)∧(∀d,p.dst=some d→q.dst≠some d)∧(∀d,q.dst=some d→d∉p.looks):=by
 refine ⟨fun d hd=>?_,fun d hd=>?_,fun d hd=>?_⟩<;>simp [uL,hd] at h
 ·exact h.1.1
 ·exact h.1.2
 ·exact h.2
theorem yR {a b:List Nat} (h:mV a b=true) {r:Nat} (ha:r∈a):r∉b:=by
 simp only [mV,zb] at h;simpa using h r ha
theorem Kd {S:St} {q:PO} {r:Nat} (h:r∈dE S q):r∈fq S q∨q.dst=some r:=by
 unfold dE at h;split at h
 ·rename_i hw;rcases zg.1 h with h|h
  ·split at h
   ·exact .inr (by simpa [zQ] using h)
   ·simp at h
  ·obtain ⟨x,hx,h3⟩:=zq.1 h;exact .inl (by simp only [fq,hw,if_true,zq];exact ⟨x,II hx,h3⟩)
 ·simp at h
theorem UF {p q:PO} {S S1 S2:St} (h1:dH Γ p S=some S1) (h2:dH Γ q S1=some S2) (ha:uL p q=true)
 (sc:mV (dE S p) (fq S1 q)=true) (jU:mV (dE S1 q) (fq S p)=true):
 ∃oL,dH Γ q S=some oL∧dH Γ p oL=some S2∧fq S q=fq S1 q∧dE S q=dE S1 q∧fq oL p=fq S p∧dE oL p=dE S p:=by
 obtain ⟨a1,a2,a3⟩:=M5 ha;obtain ⟨Sx,hx,_,p2,_,p4⟩:=IE (S':=S) h1 (fun _ _=>rfl) (fun _ _=>rfl) (fun _ _ _=>rfl)
 have qS:∀r,r∈dE S p→r∈dE S1 q→False:=fun r h3 h4=>by
  rcases Kd h4 with h5|h5
  ·exact yR sc h3 h5
  ·rcases Kd h3 with h6|h6
   ·exact yR jU h4 h6
   ·exact a2 r h6 h5
 have CP:∀n∈q.looks,S.av n=S1.av n:=fun n hn=>(p2 n fun e=>a1 n e hn).2.symm
 obtain ⟨oL,e1,q1,q2,q3,q4⟩:=IE (S':=S) h2 CP (fun r hr=>(p4 r fun e=>yR sc e hr).2.symm)
  (fun d hd hW=>(p4 d fun e=>qS d e hW).2.symm)
 obtain ⟨qy,e2,r1,r2,r3,r4⟩:=IE (S':=oL) h1 (fun n hn=>(q2 n fun e=>a3 n e hn).1)
  (fun r hr=>(q4 r fun e=>yR jU e hr).1) (fun d hd hW=>(q4 d fun e=>qS d hW e).1)
 have yY:=Ke (o:=q) (S:=S1) (S':=S) CP;have qQ:=Ke (o:=p) (S:=S) (S':=oL) (fun n hn=>(q2 n fun e=>a3 n e hn).1);refine ⟨oL,e1,?_,yY.1,yY.2,qQ.1,qQ.2⟩
 have:qy=S2:=by
  obtain ⟨Na,SU⟩:=S2;obtain ⟨Nb,SV⟩:=qy
  have c4:Nb=Na:=by
   funext n;by_cases hp:p.dst=some n
   ·have hq:q.dst≠some n:=a2 n hp;have:=r1 n hp;have h3:=(q2 n hq).2;simp only at this h3 ⊢;rw [this,h3]
   ·by_cases hq:q.dst=some n
    ·have h3:=(r2 n hp).1;have h4:=q1 n hq;simp only at h3 h4 ⊢;rw [h3,h4]
    ·have h3:=(r2 n hp).1;have h4:=(q2 n hq).1;have h5:=(q2 n hq).2;have h6:=(p2 n hp).2;simp only at h3 h4 h5 h6 ⊢;rw [h3,h4,h5,h6]
  have oZ:SV=SU:=by
   funext r;by_cases hp:r∈dE S p
   ·have hq:r∉dE S1 q:=fun e=>qS r hp e
    have h3:=r3 r hp;have h4:=(q4 r hq).2;simp only at h3 h4 ⊢;rw [h3,h4]
   ·by_cases hq:r∈dE S1 q
    ·have h3:=(r4 r hp).1;have h4:=q3 r hq;simp only at h3 h4 ⊢;rw [h3,h4]
    ·have h3:=(r4 r hp).1;have h4:=(q4 r hq).1;have h5:=(q4 r hq).2;have h6:=(p4 r hp).2;simp only at h3 h4 h5 h6 ⊢;rw [h3,h4,h5,h6]
  rw [c4,oZ]
 rw [←this];exact e2
def kX (Γ:Env) (ops:List PO) (F:Nat→List Nat×List Nat):List Nat→St→St→Prop
 |[],S,S'=>S=S'
 |i::l,S,S'=>∃o S1,ops[i]?=some o∧dH Γ o S=some S1∧fq S o=(F i).1∧dE S o=(F i).2∧kX Γ ops F l S1 S'
def Bx (ops:List PO) (F:Nat→List Nat×List Nat) (k i:Nat):Prop:=
 ∀p q,ops[k]?=some p→ops[i]?=some q→uL p q=true∧mV (F k).2 (F i).1=true∧mV (F i).2 (F k).1=true
theorem kX.Nk {ops:List PO} {F:Nat→List Nat×List Nat} {i:Nat} {rest:List Nat}:∀(ks:List Nat) {S S':St},kX Γ ops F (ks++i::rest) S S'→
 (∀k∈ks,Bx ops F k i)→kX Γ ops F (i::(ks++rest)) S S':=by
 intro ks;induction ks with
 |nil=>intro S S' h _;exact h
 |cons k ks ih=>
  intro S S' h hp;obtain ⟨p,S1,K_,hs,hr,hw,h⟩:=h;obtain ⟨q,S2,fa,Ri,AE,dB,h⟩:=ih h fun j hj=>hp j (by simp [hj])
  obtain ⟨a,b,c⟩:=hp k (by simp) p q K_ fa;obtain ⟨oL,e1,e2,f1,f2,f3,f4⟩:=UF hs Ri a (by rw [hw,AE];exact b) (by rw [dB,hr];exact c);exact ⟨q,oL,fa,e1,f1.trans AE,f2.trans dB,p,S2,K_,e2,f3.trans hr,f4.trans hw,h⟩
end
end
section
def eH (w0:World) (cl0:dv) (N:Nat) (S:St) (a:Act) (w:World):Prop:=∃g,Rel w0 cl0 S a.tmps w g∧a.defers=[]∧N≤a.tmps.size
def tS (P:Program) (κ:Nat→FuncId) (N:Nat) (ops:Array Oper) (po:PO) (o:Oper):Bool:=
 decide (po.dst=o.dst)&&(match po.dst with|some d=>decide (d<N)|none=>true)&&
 (match po.g,o.guard with
  |none,none=>true
  |some (t,want),some (j,MD)=>want==MD&&decide ((ops[j]?).bind (·.dst)=some t)
  |_,_=>false)&&aM P κ po.op o.op
def mJ (P:Program) (κ:Nat→FuncId) (Γ:Env) (_keys:List Nat):Prop:=qx P κ Γ
def aD.key:aD→List Nat
 |.call f _ _=>[f]
 |_=>[]
section
variable {P:Program} {κ:Nat→FuncId} {w0:World} {cl0:dv} {Γ:Env} {N:Nat} {ops:Array Oper}
theorem put_defers (a:Act) (d:Option Tmp) (v:Value):(a.put d v).defers=a.defers:=by cases d<;>rfl
theorem LV (a:Act) (d:Option Tmp) (v:Value):(a.put d v).tmps.size=a.tmps.size:=by cases d<;>simp [Act.put]
theorem Rel.put {S:St} {a:Act} {w:World} {g:Gh} (R:Rel w0 cl0 S a.tmps w g) {dst:Option Nat} {av:AV} {v:Value} (hd:∀d,dst=some d→d<a.tmps.size)
 (ha:RA w g S.ms av v) (hr:Live S.ms av):Rel w0 cl0 ⟨gA S dst av,S.ms⟩ (a.put dst v).tmps w g:=by
 cases dst with
 |none=>exact R
 |some d=>exact R.slot (hd d rfl) ha hr
theorem Kr {S:St} {a:Act} {w:World} {g:Gh} (R:Rel w0 cl0 S a.tmps w g) {po:PO} {o:Oper} (hc:tS P κ N ops po o=true) {b:Bool} (h:gd S po.g=some b):
 Region.wanted o (yielded ops a.tmps)=b:=by
 simp only [tS,za] at hc;obtain ⟨⟨⟨_,_⟩,hg⟩,_⟩:=hc;unfold Region.wanted;cases La:po.g with
 |none=>
  rw [La] at hg h;cases Ad:o.guard with
  |none=>simp [gd] at h;subst h;rfl
  |some x=>rw [Ad] at hg;simp at hg
 |some x=>
  obtain ⟨t,want⟩:=x;rw [La] at hg h;cases Ad:o.guard with
  |none=>rw [Ad] at hg;simp at hg
  |some y=>
   obtain ⟨j,MD⟩:=y;rw [Ad] at hg;simp only [za,beq_iff_eq,decide_eq_true_eq] at hg;obtain ⟨rfl,hj⟩:=hg;have c4:=R.av t;simp only [gd] at h;simp only [yielded,hj,Option.bind_some];split at h
   ·rename_i k bb hb;simp at h;subst h;rw [hb] at c4;have hv:=yf c4
    have:a.tmps[t]?=some (.bool bb):=by
     rw [zu] at hv;cases h2:a.tmps[t]? with
     |none=>rw [h2] at hv;simp [undef] at hv
     |some y=>rw [h2] at hv;simp at hv;rw [hv]
    simp only [this];cases bb<;>cases want<;>rfl
   ·rename_i hb;simp at h;subst h;rw [hb] at c4
    have hv:a.tmps.getD t undef=.tuple #[]:=by
     generalize a.tmps.getD t undef=z at c4;cases c4 with
     |bu _ vs hl _=>
      have:vs=#[]:=Array.eq_empty_of_size_eq_zero (by simpa using hl.symm);rw [this]
    rw [zu] at hv;cases h2:a.tmps[t]? with
    |none=>rfl
    |some y=>rw [h2] at hv;simp at hv;rw [hv];rfl
   ·cases h
theorem UL {S S':St} {a:Act} {w:World} {po:PO} {o:Oper} (ew:mJ P κ Γ po.op.key) (hc:tS P κ N ops po o=true) (hs:eH w0 cl0 N S a w)
 (h:dH Γ po S=some S') {Q:Exit→Act→World→Prop}:
 if Region.wanted o (yielded ops a.tmps) then o.wp P a w (eH w0 cl0 N S') Q else eH w0 cl0 N S' (a.put o.dst undef) w:=by
 obtain ⟨g,R,yW,hN⟩:=hs;have ml:=hc;simp only [tS,za,decide_eq_true_eq] at hc;obtain ⟨⟨⟨KN,ah⟩,_⟩,fg⟩:=hc;have hd:∀d,po.dst=some d→d<a.tmps.size:=fun d e=>by rw [e] at ah;have:=of_decide_eq_true ah;omega
 rcases L9 h with ⟨h1,rfl⟩|⟨h1,av,rt,m',ho,h2⟩
 ·rw [Kr R ml h1,if_neg (by simp),←KN];refine ⟨g,R.put hd ?_ (fun r hr=>by simp [AV.refs,AV.b9] at hr),by rw [put_defers];exact yW,by rw [LV];exact hN⟩;exact .bu [] #[] rfl (fun i b x hb=>by simp at hb)
 ·rw [Kr R ml h1,if_pos rfl]
  have dS:rt.isSome→(m' (po.dst.getD 0)).1=none:=by
   rcases h2 with ⟨rfl,_⟩|⟨d,r,rfl,jU,hm,_⟩
   ·simp
   ·intro _;rw [jU];exact hm
  have hu:=Tv R dS ew fg ho o rfl
  have key:∀v w',et w0 cl0 S a.tmps (po.dst.getD 0) av rt m' v w'→eH w0 cl0 N S' (a.put o.dst v) w':=by
   intro v w' hp;obtain ⟨g',R',ha,hl⟩:=hp;rw [←KN];refine ⟨g',?_,by rw [put_defers];exact yW,by rw [LV];exact hN⟩;rcases h2 with ⟨rfl,rfl⟩|⟨d,r,rfl,jU,hm,rfl⟩
   ·exact Rel.put (S:={ S with ms:=m' }) R' hd ha hl
   ·have:=Rel.put (S:={ S with ms:=aB m' d (some r,[]) }) (dst:=po.dst) (by rw [jU] at R';exact R') hd (by rw [jU] at ha;exact ha) (by rw [jU] at hl;exact hl);exact this
  unfold Oper.wp;generalize (execOp a.eval o).run P w=res at hu;cases res with
  |ok n w'=>
   cases n with
   |value v=>exact key v w' hu
   |skip=>exact key undef w' hu
   |enter f args=>
    refine Calls.mono hu fun e uC he=>?_
    obtain ⟨v,rfl,hp⟩:=he;exact key v uC hp
   |_=>exact hu.elim
  |halt x w'=>exact hu.elim
def mR (P:Program) (κ:Nat→FuncId) (N:Nat) (ops:Array Oper):List PO→List Oper→Bool
 |[],[]=>true
 |p::ps,o::os=>tS P κ N ops p o&&mR P κ N ops ps os
 |_,_=>false
theorem yD:∀(ps:List PO) (os:List Oper),mR P κ N ops ps os=true→ps.length=os.length∧
 ∀(i:Nat) (p:PO) (o:Oper),ps[i]?=some p→os[i]?=some o→tS P κ N ops p o=true:=by
 intro ps;induction ps with
 |nil=>intro os h;cases os<;>simp [mR] at h ⊢
 |cons p ps ih=>
  intro os h;cases os with
  |nil=>simp [mR] at h
  |cons o os=>
   simp only [mR,za] at h;obtain ⟨h1,h2⟩:=ih os h.2;refine ⟨by simp [h1],fun i q x hq hx=>?_⟩;cases i with
   |zero=>simp at hq hx;subst hq;subst hx;exact h.1
   |succ i=>exact h2 i q x (by simpa using hq) (by simpa using hx)
def uu (ps:List PO):List Nat:=ps.flatMap fun p=>p.op.key
theorem MF {pos:List PO} (ew:mJ P κ Γ (uu pos)) (hc:mR P κ N ops pos ops.toList=true) {i:Nat} {po:PO} {S S1:St} {a:Act} {w:World} (hi:pos[i]?=some po)
 (hs:eH w0 cl0 N S a w) (h:dH Γ po S=some S1) {Q:Exit→Act→World→Prop} {K:Act→World→Prop} (hK:∀a w,eH w0 cl0 N S1 a w→K a w):
 wpOp P ops Q i K a w:=by
 obtain ⟨hl,hg⟩:=yD pos ops.toList hc;have ah:=bj hi;have ho:ops[i]?=some ops[i]:=by simp [show i<ops.size by rw [hl] at ah;simpa using ah]
 generalize ops[i]=o at ho;have O':=hg i po o hi (by simpa using ho);have cO:=UL (w0:=w0) (cl0:=cl0) (Q:=Q) ew O' hs h;unfold wpOp;simp only [ho];split
 ·rename_i hw;rw [if_pos hw] at cO;exact .inl (Oper.wp_mono hK cO)
 ·rename_i hw;rw [if_neg hw] at cO;exact hK _ _ cO
theorem Vu {pos:List PO} {F:Nat→List Nat×List Nat} (ew:mJ P κ Γ (uu pos)) (hc:mR P κ N ops pos ops.toList=true) {Q:Exit→Act→World→Prop} {S':St}
 (hQ:∀a w,eH w0 cl0 N S' a w→Q .normal a w):∀(l:List Nat) (S:St) (a:Act) (w:World),kX Γ pos F l S S'→eH w0 cl0 N S a w→wpOps P ops Q l a w:=by
 intro l;induction l with
 |nil=>intro S a w h hs;have:S=S':=h;subst this;exact hQ a w hs
 |cons i l ih=>
  intro S a w h hs;obtain ⟨po,S1,hi,cO,_,_,h⟩:=h;rw [wpOps_cons];exact MF ew hc hi hs cO fun a w h2=>ih S1 a w h h2
theorem Un (all:List PO) (F:Nat→List Nat×List Nat):∀(os:List PO) (k:Nat) (S S':St),(∀i,i<os.length→all[k+i]?=os[i]?)→ez Γ os S=some S'→
 (∀i fp,(fD Γ os S)[i]?=some fp→F (k+i)=fp)→kX Γ all F (List.range' k os.length) S S':=by
 intro os;induction os with
 |nil=>intro k S S' _ h _;simp [ez] at h;exact h
 |cons o os ih=>
  intro k S S' ha h hF;simp only [ez] at h;split at h
  ·rename_i S1 cO;have yX:fD Γ (o::os) S=(fq S o,dE S o)::fD Γ os S1:=by simp only [fD,cO]
   have h0:=hF 0 (fq S o,dE S o) (by rw [yX];rfl);simp only [Nat.add_zero] at h0;rw [zT,List.range'_succ];refine ⟨o,S1,by have:=ha 0 (by simp);simpa using this,cO,by rw [h0],by rw [h0],ih (k+1) S1 S' (fun i hi=>?_) h (fun i fp hi=>?_)⟩
   ·have:=ha (i+1) (by simp;omega);rw [show k+1+i=k+(i+1) from by omega,this];rfl
   ·have:=hF (i+1) fp (by rw [yX];exact hi);rwa [show k+1+i=k+(i+1) from by omega]
  ·cases h
theorem W7:∀(os:List PO) (S S':St),ez Γ os S=some S'→(fD Γ os S).length=os.length:=by
 intro os;induction os with
 |nil=>intro S S' _;rfl
 |cons o os ih=>
  intro S S' h;simp only [ez] at h;split at h
  ·rename_i S1 cO;simp only [fD,cO,zT,ih S1 S' h]
  ·cases h
def yT (fs:List (List Nat×List Nat)) (i:Nat):List Nat×List Nat:=fs[i]?.getD ([],[])
theorem Iz {os:List PO} {S S':St} (h:ez Γ os S=some S'):kX Γ os (yT (fD Γ os S)) (zz os.length) S S':=by
 rw [List.range_eq_range'];exact Un os _ os 0 S S' (fun i _=>by simp) h (fun i fp hi=>by simp [yT,hi])
theorem Vx {pos:List PO} (ew:mJ P κ Γ (uu pos)) (hc:mR P κ N ops pos ops.toList=true) {Q:Exit→Act→World→Prop} {S S':St} {id:Nat}
 (hQ:∀a w,eH w0 cl0 N S' a w→Q .normal a w) (h:ez Γ pos S=some S') {a:Act} {w:World} (hs:eH w0 cl0 N S a w):(Code.region id ops false).wp P Q a w:=by
 refine wp_region ?_;have hl:=(yD pos ops.toList hc).1;have:=Vu ew hc hQ _ S a w (Iz h) hs;rwa [hl] at this
end
end
section
def direct (o:Oper):List Nat:=(o.after.toList.filter (Region.binds .any)).map (·.on)
def merge (a b:List Nat):List Nat:=a.foldl (fun acc x=>if acc.contains x then acc else x::acc) b
def BJ:List (List Nat)→List Oper→List (List Nat)
 |A,[]=>A
 |A,o::os=>BJ (A++[(direct o).foldl (fun s d=>merge (A.getD d []) (merge [d] s)) []]) os
def BT (ops:List Oper) (A:List (List Nat)):Bool:=
 (zz ops.length).all fun i=>match ops[i]?,A[i]? with
   |some o,some l=>(direct o).all (fun e=>decide (e<i))&&l.all fun k=>(direct o).contains k||(direct o).any fun d=>match A[d]? with|some m=>m.contains k|none=>false
   |_,_=>false
def quiet (p q:PO):Bool:=(p.op.gC.isEmpty&&!p.op.uS)||q.op.reads.isEmpty
def BX (pos:List PO) (A:List (List Nat)) (ps:List (Nat×Nat)):Bool:=
 (zz pos.length).all fun i=>match pos[i]?,A[i]? with
   |some q,some l=>(zz i).all fun k=>l.contains k||match pos[k]? with
    |some p=>uL p q&&((quiet p q&&quiet q p)||ps.contains (k,i))
    |none=>false
   |_,_=>false
def BV (pos:List PO) (ops:List Oper) (ps:List (Nat×Nat)):Bool:=BT ops (BJ [] ops)&&BX pos (BJ [] ops) ps
section
variable {P:Program} {κ:Nat→FuncId} {w0:World} {cl0:dv} {Γ:Env} {N:Nat} {ops:Array Oper}
theorem LW {p q:PO} {S S':St} (h:quiet p q=true):mV (dE S p) (fq S' q)=true:=by
 simp only [quiet,zh,za,zd,zU] at h;rcases h with ⟨h1,h2⟩|h1
 ·have:dE S p=[]:=by simp [dE,h1,h2]
  rw [this];rfl
 ·have:fq S' q=[]:=by simp [fq,h1]
  rw [this];simp [mV]
theorem kX.at {os:List PO} {F:Nat→List Nat×List Nat}:∀(l:List Nat) {S S':St},kX Γ os F l S S'→∀i∈l,∃o S1,os[i]?=some o∧fq S1 o=(F i).1∧dE S1 o=(F i).2:=by
 intro l;induction l with
 |nil=>intro S S' _ i hi;simp at hi
 |cons j l ih=>
  intro S S' h i hi;obtain ⟨o,S1,h1,_,h2,h3,h⟩:=h;rcases zi.1 hi with rfl|hi
  ·exact ⟨o,S,h1,h2,h3⟩
  ·exact ih h i hi
theorem TL {pos:List PO} {A:List (List Nat)} {ps:List (Nat×Nat)} {S S':St} (hc:BX pos A ps=true) (hr:ez Γ pos S=some S') (hp:ru (fD Γ pos S) ps=true)
 {k i:Nat} (hi:i<pos.length) (hk:k<i) {l:List Nat} (hA:A[i]?=some l) (hn:k∉l):Bx pos (yT (fD Γ pos S)) k i:=by
 intro p q Lc Le;simp only [BX,zb,zm] at hc;have h1:=hc i hi;rw [Le,hA] at h1;simp only [zb,zm,zh,zn] at h1;have h2:=(h1 k hk).resolve_left hn;rw [Lc] at h2;simp only [za,zh] at h2;refine ⟨h2.1,?_⟩;have Li:=Iz hr;obtain ⟨p',S1,e1,f1,f2⟩:=kX.at _ Li k (by simp;omega);obtain ⟨q',S2,e2,f3,f4⟩:=kX.at _ Li i (by simp;omega);rw [Lc] at e1;cases e1;rw [Le] at e2;cases e2;rcases h2.2 with ⟨h3,h4⟩|h3
 ·rw [←f1,←f2,←f3,←f4];exact ⟨LW h3,LW h4⟩
 ·simp only [ru,zb] at hp;have h5:=hp (k,i) (by simpa using h3);simp only at h5;split at h5
  ·rename_i r1 w1 r2 w2 g1 g2;simp only [za] at h5;simpa [yT,g1,g2] using h5
  ·cases h5
def left (n:Nat) (c7:Array Bool):List Nat:=(zz n).filter fun i=>!c7.getD i true
theorem Sm {n i:Nat} {c7:Array Bool} (hs:c7.size=n) (hi:i∈left n c7):
 ∃ks rest,left n c7=ks++i::rest∧(∀k∈ks,k<i∧k∈left n c7)∧left n (c7.setIfInBounds i true)=ks++rest:=by
 obtain ⟨ks,rest,h⟩:=List.append_of_mem hi;have wL:(left n c7).Pairwise (·<·):=zN _ zM;rw [h] at wL;have h1:=List.pairwise_append.1 wL;refine ⟨ks,rest,h,fun k hk=>⟨h1.2.2 k hk i (by simp),by rw [h];simp [hk]⟩,?_⟩;have uf:i<n:=by simp only [left,zx,zm] at hi;exact hi.1
 have h2:left n (c7.setIfInBounds i true)=(left n c7).filter fun j=>j !=i:=by
  simp only [left,List.filter_filter];refine List.filter_congr fun j hj=>?_
  simp only [zm] at hj;by_cases e:j=i
  ·subst e;simp [hs,uf]
  ·rw [getD_set_ne true (Ne.symm e)];have:(j !=i)=true:=by simpa using e
   rw [this,Bool.true_and]
 rw [h2,h,List.filter_append,List.filter_cons]
 have hk:ks.filter (fun j=>j !=i)=ks:=zC.2 fun j hj=>by
  have:=h1.2.2 j hj i (by simp);simp;omega
 have hr:rest.filter (fun j=>j !=i)=rest:=zC.2 fun j hj=>by
  have:=(zP.1 h1.2.1).1 j hj;simp;omega
 simp [hk,hr]
theorem M4 {pos:List PO} (ew:mJ P κ Γ (uu pos)) (hc:mR P κ N ops pos ops.toList=true) {F:Nat→List Nat×List Nat} {A:List (List Nat)} (hA:BT ops.toList A=true)
 (hp:∀i k l,i<pos.length→k<i→A[i]?=some l→k∉l→Bx pos F k i) {Q:Exit→Act→World→Prop} {S':St} (hQ:∀a w,eH w0 cl0 N S' a w→Q .normal a w):
 ∀(fuel:Nat) (c7:Array Bool) (S:St) (a:Act) (w:World),c7.size=ops.size→(left ops.size c7).length=fuel→
  (∀x,c7.getD x false=true→∀l,A[x]?=some l→∀k∈l,c7.getD k false=true)→
  kX Γ pos F (left ops.size c7) S S'→eH w0 cl0 N S a w→wpAny P .any ops Q fuel c7 a w:=by
 have hl:=(yD pos ops.toList hc).1;simp only [zD] at hl;simp only [BT,zb,zm,zD] at hA
 have Kv:∀i,i<ops.size→∃o l,ops[i]?=some o∧A[i]?=some l∧(∀e∈direct o,e<i)∧
  ∀k∈l,k∈direct o∨∃d∈direct o,∃m,A[d]?=some m∧k∈m:=by
  intro i hi;have h1:=hA i hi;split at h1
  ·rename_i o l e1 e2;simp only [za,zb,decide_eq_true_eq,zh,zn,List.any_eq_true] at h1;refine ⟨o,l,by simpa using e1,e2,h1.1,fun k hk=>?_⟩;rcases h1.2 k hk with h2|⟨d,hd,h2⟩
   ·exact .inl h2
   ·right;refine ⟨d,hd,?_⟩;split at h2
    ·rename_i m hm;exact ⟨m,hm,by simpa using h2⟩
    ·cases h2
  ·cases h1
 have qS:∀(c7:Array Bool) k,c7.size=ops.size→(k∈left ops.size c7↔(k<ops.size∧c7.getD k false=false)):=by
  intro c7 k hs;simp only [left,zx,zm,zd];constructor
  ·rintro ⟨h1,h2⟩;refine ⟨h1,?_⟩;simpa [hs,h1] using h2
  ·rintro ⟨h1,h2⟩;refine ⟨h1,?_⟩;simpa [hs,h1] using h2
 have Lg:∀(c7:Array Bool) i,c7.size=ops.size→i∈Region.ready .any ops c7→i∈left ops.size c7∧∀o,ops[i]?=some o→∀e∈direct o,c7.getD e false=true:=by
  intro c7 i hs hi;obtain ⟨h1,o,ho,h2⟩:=mem_ready.1 hi;refine ⟨by simp only [left,zx,zm,h1];exact ⟨(zE.1 ho).1,rfl⟩,fun o' vr e he=>?_⟩;rw [ho] at vr;cases vr;simp only [direct,ze,zx] at he;obtain ⟨x,⟨Dv,iZ⟩,rfl⟩:=he;exact h2 x (by simpa using Dv) iZ
 intro fuel;induction fuel with
 |zero=>
  intro c7 S a w hs hf bA hr Dc;have ui:left ops.size c7=[]:=List.eq_nil_of_length_eq_zero hf;rw [ui] at hr;have:S=S':=hr;subst this;refine ⟨?_,hQ a w Dc⟩;cases h:Region.ready .any ops c7 with
  |nil=>rfl
  |cons i t=>
   have:=(Lg c7 i hs (by rw [h];simp)).1;rw [ui] at this;simp at this
 |succ fuel ih=>
  intro c7 S a w hs hf bA hr Dc;refine ⟨fun h=>?_,fun i hi=>?_⟩
  ·exfalso;cases vn:left ops.size c7 with
   |nil=>rw [vn] at hf;simp at hf
   |cons i t=>
    have hi:i∈left ops.size c7:=by rw [vn];simp
    obtain ⟨uf,KQ⟩:=(qS c7 i hs).1 hi;obtain ⟨o,l,ho,Cf,ah,_⟩:=Kv i uf
    have:i∈Region.ready .any ops c7:=by
     rw [mem_ready];refine ⟨by simpa [hs,uf] using KQ,o,ho,fun e he hb=>?_⟩;have h1:e.on∈direct o:=by simp only [direct,ze,zx];exact ⟨e,⟨by simpa using he,hb⟩,rfl⟩
     have h2:=ah _ h1;cases h3:c7.getD e.on false with
     |true=>rfl
     |false=>
      have h4:e.on∈left ops.size c7:=(qS c7 _ hs).2 ⟨by omega,h3⟩;have wL:(left ops.size c7).Pairwise (·<·):=zN _ zM;rw [vn] at wL h4;rcases zi.1 h4 with h5|h5
      ·omega
      ·have:=(zP.1 wL).1 _ h5;omega
    rw [h] at this;simp at this
  ·obtain ⟨y6,Pb⟩:=Lg c7 i hs hi;obtain ⟨uf,KQ⟩:=(qS c7 i hs).1 y6;obtain ⟨o,l,ho,Cf,ah,OI⟩:=Kv i uf;have KM:=Pb o ho
   have gF:∀k∈l,c7.getD k false=true:=fun k hk=>by
    rcases OI k hk with h1|⟨d,hd,m,hm,Qa⟩
    ·exact KM k h1
    ·exact bA d (KM d hd) m hm k Qa
   obtain ⟨ks,rest,sL,KR,AK⟩:=Sm hs y6;rw [sL] at hr
   have hb:=kX.Nk ks hr fun k hk=>hp i k l (by omega) (KR k hk).1 Cf fun eg=>by
    have h1:=gF k eg;have h2:=((qS c7 k hs).1 (KR k hk).2).2;rw [h1] at h2;cases h2
   obtain ⟨po,S1,Q8,cO,_,_,hb⟩:=hb;refine MF ew hc Q8 Dc cO fun a w h2=>ih _ S1 a w (by simp [hs]) ?_ ?_ (by rw [AK];exact hb) h2
   ·rw [AK];rw [sL] at hf;simp at hf ⊢;omega
   ·intro x hx m hm k hk;by_cases e:x=i
    ·subst e;rw [Cf] at hm;cases hm;exact getD_set_true (gF k hk)
    ·rw [getD_set_ne false (Ne.symm e)] at hx;exact getD_set_true (bA x hx m hm k hk)
theorem eH.drew {S:St} {a:Act} {w:World} {n:Nat} (Pe:w.drawn≤n) (h:eH w0 cl0 N S a w):eH w0 cl0 N S a { w with drawn:=n }:=by
 obtain ⟨g,R,hd,hN⟩:=h
 exact ⟨g,R.grow (w':={ w with drawn:=n }) (g':=g) (fun _ _=>rfl) (zk _) ⟨rfl,rfl,fun _ h=>⟨h,rfl⟩,rfl,Pe⟩ (fun _ _=>rfl)
  (fun b hb=>by
    by_cases h:g.cl b=.no
    ·exact h
    ·have:=R.bd b h;omega) rfl rfl,hd,hN⟩
theorem Vv (hm:P.follows .mixedOrders=true) {pos:List PO} {ps:List (Nat×Nat)} (ew:mJ P κ Γ (uu pos)) (hc:mR P κ N ops pos ops.toList=true) (hd:BV pos ops.toList ps=true)
 {Q:Exit→Act→World→Prop} {S S':St} {id:Nat}
 (hQ:∀a w,eH w0 cl0 N S' a w→Q .normal a w) (h:ez Γ pos S=some S') (hp:ru (fD Γ pos S) ps=true) {a:Act} {w:World} (hs:eH w0 cl0 N S a w):(Code.region id ops true).wp P Q a w:=by
 refine wp_region_any hm ?_;simp only [BV,za] at hd;have hl:=(yD pos ops.toList hc).1;simp only [zD] at hl
 have h0:left ops.size (zL ops.size false)=zz pos.length:=by
  rw [left,hl];refine zC.2 fun i hi=>?_
  simp only [zm] at hi;simp [hi]
 refine M4 ew hc hd.1 (fun i k l hi hk hA hn=>TL hd.2 h hp hi hk hA hn) hQ _ _ S a _ (by simp) (by rw [h0];simp [hl]) (fun x hx=>?_) (by rw [h0];exact Iz h) (hs.drew (by omega));exfalso;by_cases nP:x<ops.size
 ·simp [nP] at hx
 ·simp [show ops.size≤x by omega] at hx
end
end
section
section
variable {w0:World} {cl0:dv} {S:St} {ts:Array Value} {w:World} {g:Gh} {live:List Nat} {ai:List (Nat×Nat)}
theorem xo {r:Nat} (h:eK live ai r=true):er ai r∈live∧qo ai (er ai r)=r:=by
 simp only [eK,za,beq_iff_eq,zn] at h;exact h
theorem get_map (f:Nat→AV×Option Rt):∀(l:List Nat) (n:Nat),AL.get (l.map fun n=>(n,f n)) n=if n∈l then f n else (.un,none):=by
 intro l n;induction l with
 |nil=>rfl
 |cons k l ih=>
  simp only [List.map_cons,AL.get];by_cases e:n=k
  ·subst e;simp
  ·simp [e,ih]
theorem L6 (n:Nat):(settle live ai S).get n=if n∈live then (eZ S.ms live ai (S.av n),pY S live ai n) else (.un,none):=
 get_map (fun n=>(eZ S.ms live ai (S.av n),pY S live ai n)) live n
def Gh.set (g:Gh) (live:List Nat) (ai:List (Nat×Nat)):Gh where
 cl:=fun b=>match g.cl b with
  |.own (n+1) j ρ=>if eK live ai n then .own (er ai n+1) j ρ else .no
  |.own 0 _ _=>.no
  |.box n=>if eK live ai n then .box (er ai n) else .no
  |c=>c
 hd:=fun r j ρ=>match r with
  |0=>g.hd 0 j ρ
  |n+1=>g.hd (qo ai n+1) j ρ
 bk:=fun n=>g.bk (qo ai n)
theorem Gh.Bg {b:Nat} {k:Bool}:(g.set live ai).cl b=kc k↔g.cl b=kc k:=by
 simp only [Gh.set];cases h:g.cl b with
 |own r j ρ=>
  cases r with
  |zero=>cases k<;>simp [kc]
  |succ n=>simp only;split<;>cases k<;>simp [kc]
 |box n=>simp only;split<;>cases k<;>simp [kc]
 |_=>exact .rfl
theorem Gh.Ux {b n j:Nat} {ρ:aI} (h:g.cl b=.own (n+1) j ρ) (ho:eK live ai n=true):(g.set live ai).cl b=.own (er ai n+1) j ρ:=by
 simp [Gh.set,h,ho]
theorem Gh.Uv {b n:Nat} (h:g.cl b=.box n) (ho:eK live ai n=true):(g.set live ai).cl b=.box (er ai n):=by
 simp [Gh.set,h,ho]
theorem Gh.uB {n j:Nat} {ρ:aI} (ho:eK live ai n=true):(g.set live ai).hd (er ai n+1) j ρ=g.hd (n+1) j ρ:=by
 simp only [Gh.set,(xo ho).2]
theorem Gh.Bf {n:Nat} (ho:eK live ai n=true):(g.set live ai).bk (er ai n)=g.bk n:=by
 simp only [Gh.set,(xo ho).2]
mutual
theorem J9 {m':Ms} (hm:∀r j p,m'.bM r j p=false):∀(a:AV) (x:Value),RA w g S.ms a x→RA w (g.set live ai) m' (eZ S.ms live ai a) x
 |.un,x,_=>.un x
 |.v k d,x,h=>by
  cases h with
  |v _ _ _ h=>exact .v _ _ _ (h.mono fun b hb=>⟨rfl,Gh.Bg.2 hb⟩)
 |.nl sz,x,h=>by cases h;exact .nl sz
 |.agg cs,x,h=>by
  cases h with
  |agg _ vs hl hc=>
   simp only [eZ];have hf:=B6 live ai S.ms cs;refine .agg _ vs (by rw [hf.1];exact hl) fun i a y ha hy=>?_
   obtain ⟨b,hb,rfl⟩:=hf.2 i a ha;exact B7 hm cs i b y hb (hc i b y hb hy)
 |.bu cs,x,h=>by
  cases h with
  |bu _ vs hl hc=>
   simp only [eZ];have hf:=B6 live ai S.ms cs;refine .bu _ vs (by rw [hf.1];exact hl) fun i a y ha hy=>?_
   obtain ⟨b,hb,rfl⟩:=hf.2 i a ha;exact B7 hm cs i b y hb (hc i b y hb hy)
 |.pl r j p,x,h=>by
  cases h with
  |pl _ _ _ b n c h=>
   simp only [eZ];split
   ·exact .un _
   ·rename_i hk;simp only [zh,zd,not_or,zr,zf] at hk;exact .pl _ _ _ _ _ _ fun _=>by rw [Gh.uB hk.2];exact h hk.1
 |.rg r j p sz lo hi,x,h=>by
  cases h with
  |rg _ _ _ _ _ _ b n c h=>
   simp only [eZ];split
   ·exact .un _
   ·rename_i hk;simp only [zh,zd,not_or,zr,zf] at hk;exact .rg _ _ _ _ _ _ _ _ _ fun _=>by rw [Gh.uB hk.2];exact h hk.1
 |.bx r j,x,h=>by
  cases h;simp only [eZ];split
  ·exact .un _
  ·rename_i hk;simp only [zd,zf] at hk;rw [←Gh.Bf (g:=g) hk];exact .bx _ _
 |.fv f r,x,h=>by
  cases h;simp only [eZ];split
  ·exact .un _
  ·rename_i hk;simp only [zd,zf] at hk;rw [←Gh.Bf (g:=g) hk];exact .fv _ _
 |.ad r j p sz i c,x,h=>by
  cases h with
  |ad _ _ _ _ _ _ b o h=>
   simp only [eZ];split
   ·exact .un _
   ·rename_i hk;simp only [zh,zd,not_or,zr,zf] at hk;exact .ad _ _ _ _ _ _ _ _ fun _=>by rw [Gh.uB hk.2];exact h hk.1
 |.ra k sz es i c,x,h=>by
  cases h with
  |ra _ _ _ _ _ b off cap h hi=>exact .ra _ _ _ _ _ _ _ _ (h.mono fun b hb=>⟨rfl,Gh.Bg.2 hb⟩) hi
theorem B7 {m':Ms} (hm:∀r j p,m'.bM r j p=false):∀(cs:List AV) (i:Nat) (b:AV) (y:Value),cs[i]?=some b→RA w g S.ms b y→RA w (g.set live ai) m' (eZ S.ms live ai b) y
 |[],i,b,y,hb,_=>by simp at hb
 |c::cs,i,b,y,hb,h=>by
  cases i with
  |zero=>simp at hb;subst hb;exact J9 hm c y h
  |succ i=>exact B7 hm cs i b y (by simpa using hb) h
theorem B6 (live:List Nat) (ai:List (Nat×Nat)) (m:Ms):∀(cs:List AV),(k_ m live ai cs).length=cs.length∧∀(i:Nat) (a:AV),(k_ m live ai cs)[i]?=some a→∃b,cs[i]?=some b∧a=eZ m live ai b
 |[]=>⟨rfl,fun i a h=>by simp [k_] at h⟩
 |c::cs=>by
  obtain ⟨h1,h2⟩:=B6 live ai m cs;refine ⟨by simp [k_,h1],fun i a h=>?_⟩;cases i with
  |zero=>simp [k_] at h;exact ⟨c,rfl,h.symm⟩
  |succ i=>simp only [k_,zK] at h;exact h2 i a h
end
mutual
theorem J_ {m:Ms}:∀(a:AV) (r:Nat),r∈(eZ m live ai a).refs→∃r0,r0∈a.refs∧eK live ai r0=true∧r=er ai r0
 |.un,r,h=>by simp [eZ,AV.refs] at h
 |.v k d,r,h=>by simp [eZ,AV.refs] at h
 |.nl sz,r,h=>by simp [eZ,AV.refs] at h
 |.agg cs,r,h=>B8 cs r h
 |.bu cs,r,h=>B8 cs r h
 |.pl r0 j p,r,h=>by
  simp only [eZ] at h;split at h
  ·simp [AV.refs] at h
  ·rename_i hk;simp only [zh,zd,not_or,zr,zf] at hk;simp [AV.refs] at h;exact ⟨r0,by simp [AV.refs],hk.2,h⟩
 |.rg r0 j p sz lo hi,r,h=>by
  simp only [eZ] at h;split at h
  ·simp [AV.refs] at h
  ·rename_i hk;simp only [zh,zd,not_or,zr,zf] at hk;simp [AV.refs] at h;exact ⟨r0,by simp [AV.refs],hk.2,h⟩
 |.bx r0 j,r,h=>by
  simp only [eZ] at h;split at h
  ·simp [AV.refs] at h
  ·rename_i hk;simp only [zd,zf] at hk;simp [AV.refs] at h;exact ⟨r0,by simp [AV.refs],hk,h⟩
 |.fv f r0,r,h=>by
  simp only [eZ] at h;split at h
  ·simp [AV.refs] at h
  ·rename_i hk;simp only [zd,zf] at hk;simp [AV.refs] at h;exact ⟨r0,by simp [AV.refs],hk,h⟩
 |.ad r0 j p sz i c,r,h=>by
  simp only [eZ] at h;split at h
  ·simp [AV.refs] at h
  ·rename_i hk;simp only [zh,zd,not_or,zr,zf] at hk;simp [AV.refs] at h;exact ⟨r0,by simp [AV.refs],hk.2,h⟩
 |.ra k sz es i c,r,h=>by simp [eZ,AV.refs] at h
theorem B8 {m:Ms}:∀(cs:List AV) (r:Nat),r∈AV.b9 (k_ m live ai cs)→∃r0,r0∈AV.b9 cs∧eK live ai r0=true∧r=er ai r0
 |[],r,h=>by simp [k_,AV.b9] at h
 |c::cs,r,h=>by
  simp only [k_,AV.b9,zg] at h ⊢;rcases h with h|h
  ·obtain ⟨r0,h1,h2⟩:=J_ c r h;exact ⟨r0,.inl h1,h2⟩
  ·obtain ⟨r0,h1,h2⟩:=B8 cs r h;exact ⟨r0,.inr h1,h2⟩
end
theorem Sb {n:Nat} {rt:Rt} (hn:n∈live) (h:pY S live ai n=some rt):∃a jE,eK live ai a=true∧er ai a=n∧(S.ms a).1=some jE∧rt=qL live ai jE:=by
 simp only [pY] at h;split at h
 ·rename_i hl;split at h
  ·rename_i jE h0;simp at h;exact ⟨qo ai n,jE,by simp [eK,hl,hn],hl,h0,h.symm⟩
  ·cases h
 ·cases h
theorem Sa {r:Nat} {rt:Rt} (ho:eK live ai r=true) (h:(S.ms r).1=some rt):pY S live ai (er ai r)=some (qL live ai rt):=by
 simp only [pY,(xo ho).2,if_true,h]
theorem B9 {rt:Rt} {j:Nat} {c:C} (h:(qL live ai rt).cells[j]?=some c):∃c0,rt.cells[j]?=some c0∧c=fixC live ai c0:=by
 cases rt<;>simp only [qL,Rt.cells,zR,Option.map_eq_some_iff] at h<;>obtain ⟨c0,h1,h2⟩:=h<;>exact ⟨c0,h1,h2.symm⟩
theorem J' {n j:Nat} {c:C} {x:Value} (ho:eK live ai n=true) (h:RC w g (n+1) j c x):RC w (g.set live ai) (er ai n+1) j (fixC live ai c) x:=by
 cases h with
 |ro k d _ h=>exact .ro _ _ _ (h.mono fun b hb=>⟨rfl,Gh.Bg.2 hb⟩)
 |own d _ h=>exact .own _ _ (h.mono (q':=[]) (fun b ρ hb=>⟨rfl,by simpa using Gh.Ux hb ho⟩) (fun ρ=>by simpa using Gh.uB ho))
 |rf r1 j1 b k c hh=>
  simp only [fixC];split
  ·rename_i hr;exact .rf _ _ _ _ _ (by rw [Gh.uB hr];exact hh)
  ·exact .ro _ _ _ (.dead _)
theorem Uy (R:Rel w0 cl0 S ts w g) (oY:∀i∈cl0.io,eK live ai i=true∧er ai i=i):Rel w0 cl0 (settle live ai S).st ts w (g.set live ai):=by
 have c4:∀n,(settle live ai S).st.av n=if n∈live then eZ S.ms live ai (S.av n) else .un:=fun n=>by
  simp only [AL.st,L6];split<;>rfl
 have oZ:∀n,(settle live ai S).st.ms n=(if n∈live then pY S live ai n else none,[]):=fun n=>by
  simp only [AL.st,L6];split<;>rfl
 have hk:∀r j p,(settle live ai S).st.ms.bM r j p=false:=fun r j p=>by simp [Ms.bM,oZ]
 have Lh:∀n rt,((settle live ai S).st.ms n).1=some rt→∃a jE,eK live ai a=true∧er ai a=n∧(S.ms a).1=some jE∧rt=qL live ai jE:=by
  intro n rt h;rw [oZ] at h;simp only at h;split at h
  ·rename_i hn;exact Sb hn h
  ·cases h
 have pC:∀r rt,eK live ai r=true→(S.ms r).1=some rt→((settle live ai S).st.ms (er ai r)).1=some (qL live ai rt):=by
  intro r rt ho h;rw [oZ];simp only [if_pos (xo ho).1,Sa ho h]
 refine { av:=fun n=>?_,rt:=fun n rt h=>?_,ey:=fun n r h=>?_,ea:=fun n rt j r j' h h1=>?_,bd:=fun b h=>R.bd b fun e=>h (by simp [Gh.set,e]),sz:=R.sz,fr:=R.fr,
          im:=fun b k=>Gh.Bg.trans (R.im b k),mi:=fun b hb h=>R.mi b hb ?_,sd:=R.sd,fi:=fun i hi=>?_ }
 ·rw [c4];split
  ·exact J9 hk _ _ (R.av n)
  ·exact .un _
 ·obtain ⟨a,jE,ho,rfl,h0,rfl⟩:=Lh n rt h;have hr:=R.rt a jE h0;cases jE with
  |aR cs=>
   intro j c hj;obtain ⟨c0,ml,rfl⟩:=B9 (rt:=.aR cs) hj;rw [Gh.uB ho];exact J' ho (hr j c0 ml)
  |bx cs=>
   obtain ⟨h1,vals,E,h2,h3,h4⟩:=hr;refine ⟨by rw [Gh.Bf ho];exact Gh.Uv h1 ho,vals,E,by rw [Gh.Bf ho];exact h2,by simpa using h3,fun j c x hj hx=>?_⟩;obtain ⟨c0,ml,rfl⟩:=B9 (rt:=.bx cs) hj;exact J' ho (h4 j c0 x ml hx)
 ·rw [c4] at h;split at h
  ·obtain ⟨r0,h1,h2,rfl⟩:=J_ _ _ h;have h3:=R.ey n r0 h1;cases h4:(S.ms r0).1 with
   |none=>rw [h4] at h3;cases h3
   |some rt=>rw [pC r0 rt h2 h4];rfl
  ·simp [AV.refs] at h
 ·obtain ⟨a,jE,ho,rfl,h0,rfl⟩:=Lh n rt h;obtain ⟨c0,ml,hc⟩:=B9 h1;cases c0 with
  |rf r0 j0=>
   simp only [fixC] at hc;split at hc
   ·rename_i hr;simp at hc;obtain ⟨rfl,rfl⟩:=hc;obtain ⟨cs,h2⟩:=R.ea a jE j r0 j' h0 ml;exact ⟨_,pC r0 _ hr h2⟩
   ·cases hc
  |_=>simp [fixC] at hc
 ·simp only [Gh.set] at h;split at h
  ·rename_i e;rw [e];rfl
  ·cases h
  ·rename_i e;rw [e];rfl
  ·exact h
 ·obtain ⟨h1,h2⟩:=oY i hi;have h:=R.fi i hi;have h3:=xo h1;rw [h2] at h3;cases h4:(S.ms i).1 with
  |none=>rw [h4] at h;exact h.elim
  |some rt=>
   have h5:=pC i rt h1 h4;rw [h2] at h5;rw [h5];rw [h4] at h;cases rt with
   |aR cs=>intro j;rw [←h j];simp only [Gh.set,h3.2]
   |bx cs=>show g.bk (qo ai i)=_;rw [h3.2];exact h
end
end
section
def fC (P:Program) (κ:Nat→FuncId) (N:Nat) (io:List Nat):PC→Code→Bool
 |.skip,.skip=>true
 |.dp live ai pos draw,.region _ ops dr=>(io.all fun i=>eK live ai i&&er ai i==i)&&mR P κ N ops pos ops.toList&&(match draw,dr with
  |none,false=>true
  |some ps,true=>BV pos ops.toList ps
  |_,_=>false)
 |.seq a b,.seq a' b'=>fC P κ N io a a'&&fC P κ N io b b'
 |.cond x a b,.cond y a' b'=>bJ x y&&fC P κ N io a a'&&fC P κ N io b b'
 |.aA id c,.block xh c'=>id==xh&&fC P κ N io c c'
 |.loop c,.loop c'=>fC P κ N io c c'
 |.exit id,.exit xh=>id==xh
 |.ret,.ret=>true
 |_,_=>false
def PC.keys:PC→List Nat
 |.dp _ _ pos _=>uu pos
 |.seq a b=>a.keys++b.keys
 |.cond _ a b=>a.keys++b.keys
 |.aA _ c=>c.keys
 |.loop c=>c.keys
 |_=>[]
section
variable {P:Program} {κ:Nat→FuncId} {w0:World} {cl0:dv} {Γ:Env} {N:Nat}
def I0 (w0:World) (cl0:dv) (N:Nat) (Q:Exit→Act→World→Prop):Out→Prop
 |.fail=>False
 |.norm L=>∀a w,eH w0 cl0 N L.st a w→Q .normal a w
 |.exit id L=>∀a w,eH w0 cl0 N L.st a w→Q (.exit id) a w
 |.ret L=>∀a w,eH w0 cl0 N L.st a w→Q .ret a w
theorem eH.settle {S:St} {a:Act} {w:World} {live:List Nat} {ai:List (Nat×Nat)} (h:eH w0 cl0 N S a w) (oY:∀i∈cl0.io,eK live ai i=true∧er ai i=i):eH w0 cl0 N (settle live ai S).st a w:=by
 obtain ⟨g,R,h⟩:=h;exact ⟨_,Uy R oY,h⟩
theorem mJ.mono {k k':List Nat} (h:mJ P κ Γ k) (hk:∀f∈k',f∈k):mJ P κ Γ k':=h
theorem Iu (Γ:Env) (live:List Nat) (ai:List (Nat×Nat)) (ops:List PO) (draw:Option (List (Nat×Nat))) (L:AL):
 gU Γ live ai ops draw L=.fail∨∃S,ez Γ ops L.st=some S∧(∀ps,draw=some ps→ru (fD Γ ops L.st) ps=true)∧gU Γ live ai ops draw L=.norm (settle live ai S):=by
 unfold gU;cases hr:ez Γ ops L.st with
 |none=>left;cases draw<;>simp
 |some S=>
  cases draw with
  |none=>right;exact ⟨S,rfl,fun ps h=>(by cases h),by simp⟩
  |some ps=>
   by_cases h:(ps.isEmpty||ru (fD Γ ops L.st) ps)=true
   ·right;refine ⟨S,rfl,fun ps' h'=>?_,by simp [h]⟩;cases h';simp only [zh,zU] at h;rcases h with h|h
    ·subst h;rfl
    ·exact h
   ·left;simp only [h];rfl
theorem TM (hm:P.follows .mixedOrders=true) (fuel:Nat):∀(c:PC) (code:Code),fC P κ N cl0.io c code=true→mJ P κ Γ c.keys→
 ∀(Q:Exit→Act→World→Prop) (L:AL) (a:Act) (w:World),I0 w0 cl0 N Q (bH Γ fuel c L)→eH w0 cl0 N L.st a w→code.wp P Q a w:=by
 intro c;induction c with
 |ext calls f=>
  intro code hc _ Q L a w hQ hs;simp [fC] at hc
 |skip=>
  intro code hc _ Q L a w hQ hs;cases code<;>simp [fC] at hc;exact wp_skip (hQ a w hs)
 |dp live ai pos draw=>
  intro code hc hk Q L a w hQ hs;cases code with
  |region id ops dr=>
   simp only [fC,za] at hc;obtain ⟨⟨oY,hc⟩,hd⟩:=hc
   have P5:∀i∈cl0.io,eK live ai i=true∧er ai i=i:=fun i hi=>by
    have:=zb.1 oY i hi;simpa using this
   simp only [bH] at hQ;rcases Iu Γ live ai pos draw L with h|⟨S',du,hp,h⟩
   ·rw [h] at hQ;exact hQ.elim
   ·rw [h] at hQ;have KA:∀a w,eH w0 cl0 N S' a w→Q .normal a w:=fun a w h=>hQ a w (h.settle P5)
    split at hd
    ·exact Vx hk hc KA du hs
    ·rename_i ps;exact Vv hm hk hc hd KA du (hp ps rfl) hs
    ·cases hd
  |_=>simp [fC] at hc
 |seq x y RB RD=>
  intro code hc hk Q L a w hQ hs;cases code with
  |seq x' y'=>
   simp only [fC,za] at hc;refine wp_seq (RB x' hc.1 (hk.mono fun f hf=>by simp [PC.keys,hf]) _ L a w ?_ hs);simp only [bH] at hQ;cases h:bH Γ fuel x L with
   |fail=>rw [h] at hQ;exact hQ.elim
   |norm L'=>
    rw [h] at hQ;exact fun a w hs=>RD y' hc.2 (hk.mono fun f hf=>by simp [PC.keys,hf]) Q L' a w hQ hs
   |exit id L'=>rw [h] at hQ;exact fun a w hs=>hQ a w hs
   |ret L'=>rw [h] at hQ;exact fun a w hs=>hQ a w hs
  |_=>simp [fC] at hc
 |cond x a1 b1 lB pW=>
  intro code hc hk Q L a w hQ hs;cases code with
  |cond y a' b'=>
   simp only [fC,za] at hc;simp only [bH] at hQ;cases ht:(L.st.ev x).asBool with
   |some t=>
    rw [ht] at hQ
    have hv:a.eval y=.bool t:=by
     obtain ⟨g,R,_⟩:=hs;exact yz (bF R hc.1.1).1 ht
    refine wp_cond hv ?_;cases t with
    |true=>exact lB a' hc.1.2 (hk.mono fun f hf=>by simp [PC.keys,hf]) Q L a w (by simpa using hQ) hs
    |false=>exact pW b' hc.2 (hk.mono fun f hf=>by simp [PC.keys,hf]) Q L a w (by simpa using hQ) hs
   |none=>rw [ht] at hQ;exact hQ.elim
  |_=>simp [fC] at hc
 |aA id c ih=>
  intro code hc hk Q L a w hQ hs;cases code with
  |block xh c'=>
   simp only [fC,za,beq_iff_eq] at hc;obtain ⟨rfl,hc⟩:=hc;refine wp_block (ih c' hc hk _ L a w ?_ hs);simp only [bH] at hQ;cases h:bH Γ fuel c L with
   |fail=>rw [h] at hQ;exact hQ.elim
   |norm L'=>rw [h] at hQ;exact fun a w hs=>hQ a w hs
   |exit i L'=>
    rw [h] at hQ;intro a w hs;simp only [Exit.inBlock];by_cases e:i=id
    ·simp only [e,if_true] at hQ ⊢;exact hQ a w hs
    ·simp only [e,if_false] at hQ ⊢;exact hQ a w hs
   |ret L'=>rw [h] at hQ;exact fun a w hs=>hQ a w hs
  |_=>simp [fC] at hc
 |loop c ih=>
  intro code hc hk Q L a w hQ hs;cases code with
  |loop c'=>
   simp only [fC] at hc;refine wp_loop_rounds fuel ?_;simp only [bH] at hQ
   have key:∀(n:Nat) (L:AL) (a:Act) (w:World),I0 w0 cl0 N Q (iter (bH Γ fuel c) n L)→eH w0 cl0 N L.st a w→Code.rounds P c' Q n a w:=by
    intro n;induction n with
    |zero=>intro L a w hQ _;exact hQ.elim
    |succ n Rz=>
     intro L a w hQ hs;rw [rounds_succ];refine ih c' hc hk _ L a w ?_ hs;simp only [iter] at hQ;cases h:bH Γ fuel c L with
     |fail=>rw [h] at hQ;exact hQ.elim
     |norm L'=>rw [h] at hQ;exact fun a w hs=>Rz L' a w hQ hs
     |exit i L'=>rw [h] at hQ;exact fun a w hs=>hQ a w hs
     |ret L'=>rw [h] at hQ;exact fun a w hs=>hQ a w hs
   exact key fuel L a w hQ hs
  |_=>simp [fC] at hc
 |exit id=>
  intro code hc _ Q L a w hQ hs;cases code with
  |exit xh=>
   simp only [fC,beq_iff_eq] at hc;subst hc;exact wp_exit (hQ a w hs)
  |_=>simp [fC] at hc
 |ret=>
  intro code hc _ Q L a w hQ hs;cases code<;>simp [fC] at hc;exact wp_ret (hQ a w hs)
end
end
section
def kH (P:Program):List PR→List ResultVar→Bool
 |[],[]=>true
 |.s n::l,.tmp t::l'=>n==t&&kH P l l'
 |.b n size agg::l,.cell a t::l'=>n==a&&(match fK P t with|some (s,_)=>s==size|none=>false)&&decide (tL P t=some agg)&&kH P l l'
 |_,_=>false
section
variable {P:Program} {κ:Nat→FuncId} {w0:World} {cl0:dv} {Γ:Env} {w:World} {g:Gh}
def qm (tmps:Array Value):ResultVar→Sem Value
 |.tmp t=>pure (tmps.getD t undef)
 |.cell a t=>do loadVar t (←asAddr (tmps.getD a undef))
theorem L0 {L:AL} {tmps:Array Value} (R:Rel w0 cl0 L.st tmps w g) {r:PR} {rv:ResultVar} {rs:List PR} {jF:List ResultVar} (hc:kH P (r::rs) (rv::jF)=true) {a:AV} (h:uA L r=some a):
 ∃v,(qm tmps rv).run P w=.ok v w∧RA w g L.st.ms a v∧kH P rs jF=true:=by
 cases r with
 |s n=>
  cases rv with
  |cell=>simp [kH] at hc
  |tmp t=>
   simp only [kH,za,beq_iff_eq] at hc;obtain ⟨rfl,hc⟩:=hc;simp only [uA,zG] at h;subst h;exact ⟨_,by simp [qm],R.av n,hc⟩
 |b n size agg=>
  cases rv with
  |tmp=>simp [kH] at hc
  |cell ad t=>
   simp only [kH,za,beq_iff_eq,decide_eq_true_eq] at hc;obtain ⟨⟨⟨rfl,hs⟩,ha⟩,hc⟩:=hc;simp only [uA] at h;split at h
   ·rename_i l hl;obtain ⟨b,off,xs,hv,sO,ud,dF,bZ⟩:=LB R (R.av n) hl
    have dg:∀w1,(sizeOf t).run P w1=.ok size w1:=by
     intro w1;unfold fK at hs;split at hs
     ·rename_i hi;split at hi
      ·rename_i i fu;simp at hi hs;simp [sizeOf,typeInfo,fu,hi.1,hs]
      ·cases hi
     ·cases hs
    have KC:(asAddr (.pointer (some ⟨b,off,none⟩))).run P w=.ok ⟨b,off,none⟩ w:=rfl;unfold tL at ha;cases agg
    ·have iR:(isAgg t).run P w=.ok false w:=by
      cases hu:P.underlying t with
      |none=>simp [hu] at ha
      |some u=>cases u<;>simp [hu] at ha<;>simp [isAgg,run_underlying hu]
     simp only [Bool.false_eq_true,if_false] at h;split at h
     ·rename_i a1;simp at h;subst h;simp at ud;subst ud
      obtain ⟨x1,rfl⟩:∃x1,xs=[x1]:=by
       match xs,sO with
       |[x1],_=>exact ⟨x1,rfl⟩
      have h3:=bZ 0 a1 x1 rfl rfl;have h4:=dF 0 x1 rfl;refine ⟨x1,?_,h3.1,hc⟩;simp only [qm];rw [hv];simp [KC,loadVar,iR,show w.cell? ⟨b,off,none⟩=some x1 from h4]
     ·cases h
    ·have iR:(isAgg t).run P w=.ok true w:=by
      cases hu:P.underlying t with
      |none=>simp [hu] at ha
      |some u=>cases u<;>simp [hu] at ha<;>simp [isAgg,run_underlying hu]
     simp at h;subst h;refine ⟨.agg xs.toArray,?_,.agg _ _ (by simp [ud,sO]) (fun i b y h5 h6=>(bZ i b y h5 (by simpa using h6)).1),hc⟩;have Qe:=xm P (w:=w) (b:=b) (o:=off) sO dF;simp only [qm];rw [hv];simp [KC,loadVar,iR,dg,Qe]
   ·cases h
end
end
section
section
variable {P:Program} {κ:Nat→FuncId} {w0:World} {cl0:dv} {Γ:Env} {w:World} {g:Gh}
theorem LD {α β:Type} (f:α→Sem β) (x:α) (xs:List α) (v:β) (vs:List β) (h1:(f x).run P w=.ok v w) (h2:(xs.mapM f).run P w=.ok vs w):
 ((x::xs).mapM f).run P w=.ok (v::vs) w:=by
 simp [List.mapM_cons,h1,h2]
theorem TI {L:AL} {tmps:Array Value} {g0:Gh} (R0:Rel w0 cl0 L.st tmps w g0):∀(rs:List PR) (jF:List ResultVar) (m m':Ms) (g:Gh) (xs:List V) (n:Nat),Rel w0 cl0 { L.st with ms:=m } tmps w g→
 eV (fun _=>True) g0 L.st.ms g m→kH P rs jF=true→uy L m rs=some (xs,m')→
 ∃vs g',(jF.mapM (qm tmps)).run P w=.ok vs w∧Rel w0 cl0 { L.st with ms:=m' } tmps w g'∧mM w g' n xs vs∧eV (fun k=>n≤k) g m g' m'∧vs.length=rs.length:=by
 intro rs;induction rs with
 |nil=>
  intro jF m m' g xs n R T hc h;simp [uy] at h;obtain ⟨rfl,rfl⟩:=h;cases jF with
  |nil=>exact ⟨[],g,by simp [zV],R,trivial,.refl _ _ _,rfl⟩
  |cons rv jF=>cases rv<;>simp [kH] at hc
 |cons r rs ih=>
  intro jF m m' g xs n R T hc h;cases jF with
  |nil=>cases r<;>simp [kH] at hc
  |cons rv jF=>
   simp only [uy] at h;split at h
   ·rename_i a ha;split at h
    ·rename_i x m1 hx;split at h
     ·rename_i Vy m2 nP;simp at h;obtain ⟨rfl,rfl⟩:=h;obtain ⟨v,hr,bZ,qO⟩:=L0 R0 hc ha;obtain ⟨g1,R1,T1,hv⟩:=A8 R (T.ra bZ) hx n;obtain ⟨vs,g2,Re,R2,wS,T2,hlen⟩:=ih jF m1 m2 g1 Vy (n+x.flat.length) R1 (T.trans (T1.tD fun _ _=>trivial)) qO nP
      exact ⟨v::vs,g2,LD _ _ _ _ _ hr Re,R2,⟨T2.Uo (fun k h1 h2=>by omega) hv,wS⟩,
       (T1.tD fun k hk=>hk.1).trans (T2.tD fun k hk=>by omega),by simp [hlen]⟩
     ·cases h
    ·cases h
   ·cases h
def yv (I:dv) (m:Ms) (w:World) (g:Gh):Prop:=∀i∈I.io,∀rt,(m i).1=some rt→kE w g i rt∧yq I i (some rt) g
theorem Rel.MB {S:St} {tmps:Array Value} (R:Rel w0 cl0 S tmps w g):yv cl0 S.ms w g:=fun i hi rt h=>⟨R.rt i rt h,h▸R.fi i hi⟩
def Gh.jn (g:Gh) (r:Nat):Gh where
 cl:=fun b=>match g.cl b with
  |.own (n+1) j ρ=>if n=r then .own 0 j ρ else .own (n+1) j ρ
  |c=>c
 hd:=fun n j ρ=>if n=0 then g.hd (r+1) j ρ else g.hd n j ρ
 bk:=g.bk
theorem Gh.Kj {r b:Nat} {k:Bool}:(g.jn r).cl b=kc k↔g.cl b=kc k:=by
 simp only [Gh.jn];cases h:g.cl b with
 |own n j ρ=>
  cases n with
  |zero=>cases k<;>simp [kc]
  |succ n=>simp only;split<;>cases k<;>simp [kc]
 |_=>exact .rfl
theorem Gh.Od {r b:Nat}:((g.jn r).cl b).bS=(g.cl b).bS:=by
 simp only [Gh.jn];cases h:g.cl b with
 |own n j ρ=>
  cases n with
  |zero=>rfl
  |succ n=>simp only;split<;>rfl
 |_=>rfl
theorem Gh.Oe {r b:Nat}:(g.jn r).cl b=.no↔g.cl b=.no:=by
 simp only [Gh.jn];cases h:g.cl b with
 |own n j ρ=>
  cases n with
  |zero=>simp
  |succ n=>simp only;split<;>simp
 |_=>exact .rfl
structure yo (I:dv) (w0 w:World) (g:Gh):Prop where
 sz:w0.heap.size≤w.heap.size
 fr:∀b,b<w0.heap.size→(I.g.cl b).bS=false→w.heap[b]?=w0.heap[b]?
 im:∀b k,g.cl b=kc k↔I.g.cl b=kc k
 bd:∀b,g.cl b≠.no→b<w.heap.size
 mi:∀b,b<w0.heap.size→(g.cl b).bS=true→(I.g.cl b).bS=true
 sd:ee w0 w
theorem Rel.base {S:St} {tmps:Array Value} (R:Rel w0 cl0 S tmps w g):yo cl0 w0 w g:=⟨R.sz,R.fr,R.im,R.bd,R.mi,R.sd⟩
theorem TF {S:St} {tmps:Array Value} (R:Rel w0 cl0 S tmps w g) {a:AV} {v:Value} {x:V} {m':Ms} (ha:RA w g S.ms a v) (h:ux S.ms a=some (x,m')):
 ∃g',kW w g' x v∧yv cl0 m' w g'∧yo cl0 w0 w g':=by
 have plain:gS S.ms a=some (x,m')→(∃g',kW w g' x v∧yv cl0 m' w g'∧yo cl0 w0 w g'):=by
  intro h;obtain ⟨g',R',_,hv⟩:=A8 R ha h 0;refine ⟨g',?_,R'.MB,R'.base⟩;cases x with
  |one c=>exact hv
  |st cs=>exact hv
  |ptr=>exact hv.elim
  |bu=>exact hv.elim
 cases a with
 |bx r j=>
  cases j with
  |succ j=>exact plain (by simpa only [ux] using h)
  |zero=>
   simp only [ux] at h;split at h
   ·rename_i cs hm;split at h
    ·rename_i e_;simp at h;obtain ⟨rfl,rfl⟩:=h;cases ha;obtain ⟨bA,vals,E,hw,hl,hc⟩:=R.rt r _ hm;have de:∀b k,g.cl b=kc k→w.heap[b]?=w.heap[b]?∧(g.jn r).cl b=kc k:=fun b k h=>⟨rfl,Gh.Kj.2 h⟩
     refine ⟨g.jn r,⟨r,g.bk r,vals,E,rfl,by simp [Gh.jn,bA],hw,by simpa using hl.symm,fun i c y h1 h2=>?_⟩,fun i hi rt h1=>?_,?_⟩
     ·have h3:=hc i c y h1 (by simpa using h2);rw [zA];have eF:=zb.1 e_ c (zw h1);refine h3.mono de (fun b ρ hb=>⟨rfl,by simp [Gh.jn,hb]⟩) (fun ρ=>by simp [Gh.jn]) (fun r1 j1 e=>?_);subst e;simp [C.bg] at eF
     ·have cg:i≠r:=fun e=>by subst e;simp [aB] at h1
      simp only [eL cg] at h1;refine ⟨(R.rt i rt h1).mono de (fun b j ρ hb=>⟨rfl,by simp [Gh.jn,hb,cg]⟩) (fun bw e=>⟨rfl,rfl,?_⟩) (fun j ρ=>by simp [Gh.jn]) (fun _ _ _ _=>by simp [Gh.jn]),?_⟩
      ·have:=R.rt i rt h1;subst e;simp [Gh.jn,this.1]
      ·have h4:=R.fi i hi;rw [h1] at h4;cases rt with
       |aR=>exact fun j=>by simp only [Gh.jn];exact h4 j
       |bx=>exact h4
     ·have B:=R.base;exact ⟨B.sz,B.fr,fun b k=>Gh.Kj.trans (B.im b k),fun b h=>B.bd b (fun e=>h (Gh.Oe.2 e)),fun b hb h=>B.mi b hb (by rwa [Gh.Od] at h),B.sd⟩
    ·cases h
   ·cases h
 |_=>exact plain (by simpa only [ux] using h)
theorem Vn {i i' j':Nat} {c:C}:∀(cs:List C) (j:Nat),(i',j',c)∈rE i j cs→i'=i∧j≤j'∧cs[j'-j]?=some c:=by
 intro cs;induction cs with
 |nil=>intro j h;simp [rE] at h
 |cons b cs ih=>
  intro j h
  have step:(i',j',c)∈rE i (j+1) cs→i'=i∧j≤j'∧(b::cs)[j'-j]?=some c:=fun h=>by
   obtain ⟨h1,h2,h3⟩:=ih _ h;exact ⟨h1,by omega,by rw [show j'-j=(j'-(j+1))+1 from by omega];simpa using h3⟩
  simp only [rE] at h;split at h
  ·rcases zi.1 h with h|h
   ·simp at h;obtain ⟨rfl,rfl,rfl⟩:=h;exact ⟨rfl,zk _,by simp⟩
   ·exact step h
  ·exact step h
theorem Vm {i i' j':Nat} {c:C}:∀(cs:List C) (j:Nat),(i',j',c)∈rD i j cs→i'=i∧j≤j'∧cs[j'-j]?=some c:=by
 intro cs;induction cs with
 |nil=>intro j h;simp [rD] at h
 |cons b cs ih=>
  intro j h;simp only [rD] at h;rcases zi.1 h with h|h
  ·simp at h;obtain ⟨rfl,rfl,rfl⟩:=h;exact ⟨rfl,zk _,by simp⟩
  ·obtain ⟨h1,h2,h3⟩:=ih _ h;exact ⟨h1,by omega,by rw [show j'-j=(j'-(j+1))+1 from by omega];simpa using h3⟩
theorem Vl (i:Nat):∀(cs:List C) (j:Nat),(rD i j cs).length=cs.length:=by
 intro cs;induction cs with
 |nil=>intro j;rfl
 |cons c cs ih=>intro j;simp [rD,ih]
theorem TG {xs:List V} {m:Ms} {i:Nat} {cs cs0:List C} (h1:(m i).1=some (.bx cs)) (h2:xs[i]?=some (.ptr cs0)):∀(is:List Nat) {us:List (Nat×Nat×C)},p9 xs m is=some us→i∈is→cs.length≤us.length:=by
 intro is;induction is with
 |nil=>intro us _ hm;simp at hm
 |cons i0 is ih=>
  intro us h hm;simp only [p9] at h;split at h
  ·rename_i l h3;split at h
   ·rename_i l2 h4;simp at h;subst h;rcases zi.1 hm with e|hm
    ·subst e;simp only [h1,h2,zG] at h3;subst h3;simp [Vl]
    ·have:=ih h4 hm;simp only [List.length_append];omega
   ·cases h
  ·cases h
theorem TH {xs:List V} {m:Ms} {i j:Nat} {c:C}:∀(is:List Nat) {us:List (Nat×Nat×C)},p9 xs m is=some us→(i,j,c)∈us→i∈is∧
 ((∃cs x,(m i).1=some (.aR cs)∧xs[i]?=some x∧cs[j]?=some c∧j<x.flat.length)∨∃cs cs0,(m i).1=some (.bx cs)∧xs[i]?=some (.ptr cs0)∧cs[j]?=some c):=by
 intro is;induction is with
 |nil=>intro us h hm;simp [p9] at h;subst h;simp at hm
 |cons i0 is ih=>
  intro us h hm;simp only [p9] at h;split at h
  ·rename_i l h1;split at h
   ·rename_i l2 h2;simp at h;subst h;rcases zg.1 hm with hm|hm
    ·split at h1
     ·rename_i cs x e1 e2;split at h1
      ·rename_i hl;simp at h1;subst h1;obtain ⟨rfl,_,h3⟩:=Vn cs 0 hm;simp only [zI] at h3;exact ⟨by simp,.inl ⟨cs,x,e1,e2,h3,by have:=bj h3;omega⟩⟩
      ·cases h1
     ·rename_i cs cs0 e1 e2;simp at h1;subst h1;obtain ⟨rfl,_,h3⟩:=Vm cs 0 hm;simp only [zI] at h3;exact ⟨by simp,.inr ⟨cs,cs0,e1,e2,h3⟩⟩
     ·cases h1
    ·obtain ⟨h3,h4⟩:=ih h2 hm;exact ⟨by simp [h3],h4⟩
   ·cases h
  ·cases h
end
end
section
def rQ (P:Program) (κ:Nat→FuncId) (f:FuncId) (F:PF):Bool:=
 match P.funcs[f]? with
 |some fn=>match fn.body with
  |some c=>(fn.name != "runtime.NumGoroutine")&&(fC P κ fn.ntmps F.io F.body c&&kH P F.res fn.results.toList)
  |none=>false
 |none=>false
section
variable {P:Program} {κ:Nat→FuncId} {Γ:Env} {w:World} {g:Gh}
theorem Ls:∀(xs:List V) (i n:Nat),(ep i xs).get n=if i≤n then (match xs[n-i]? with|some x=>((imp n x).1,(imp n x).2)|none=>(.un,none)) else (.un,none):=by
 intro xs;induction xs with
 |nil=>intro i n;simp [ep,AL.get]
 |cons x xs ih=>
  intro i n;simp only [ep,AL.get];by_cases e:n=i
  ·subst e;simp
  ·rw [if_neg e,ih];by_cases h:i≤n
   ·rw [if_pos (by omega),if_pos h,show n-i=(n-(i+1))+1 from by omega,zK]
   ·rw [if_neg (by omega),if_neg h]
def Gh.start (g:Gh) (args:Array Value):Gh where
 cl:=g.cl
 hd:=g.hd
 bk:=fun i=>match args[i]? with
  |some (.pointer (some a))=>a.block
  |_=>0
theorem yi {args:Array Value} {r j:Nat} {c:C} {x:Value} (h:RC w g r j c x):RC w (g.start args) r j c x:=
 h.mono (fun _ _ h=>⟨rfl,h⟩) (fun _ _ h=>⟨rfl,h⟩) (fun _=>rfl) (fun _ _ _=>rfl)
theorem Jd {x:V} (h:x.mQ=true):x.plain=true:=by
 cases x<;>first|exact h|(simp [V.mQ] at h)
theorem UE {args:Array Value} {xs:List V} {io:List Nat} (k:Nat) (dg:args.size=xs.length) (d_:∀b,g.cl b≠.no→b<w.heap.size)
 (bZ:∀(i:Nat) (x:V) (v:Value),xs[i]?=some x→args[i]?=some v→jh w g i x v) (aP:xs.all V.mQ=true) (oY:io.all (fun i=>((ep 0 xs).get i).2.isSome)=true):
 Rel w ⟨g.start args,io⟩ (ep 0 xs).st (args++zL k undef) w (g.start args):=by
 have gH:∀n,(ep 0 xs).get n=match xs[n]? with|some x=>((imp n x).1,(imp n x).2)|none=>(.un,none):=fun n=>by rw [Ls];simp
 have c4:∀n,(ep 0 xs).st.av n=match xs[n]? with|some x=>(imp n x).1|none=>.un:=fun n=>by
  simp only [AL.st,gH];cases xs[n]?<;>rfl
 have oZ:∀n,(ep 0 xs).st.ms n=(match xs[n]? with|some x=>(imp n x).2|none=>none,[]):=fun n=>by
  simp only [AL.st,gH];cases xs[n]?<;>rfl
 have hv:∀(n:Nat) (x:V),xs[n]?=some x→∃v,args[n]?=some v∧(args++zL k undef).getD n undef=v∧jh w g n x v∧x.mQ=true:=by
  intro n x hx;have ah:=bj hx;have h1:args[n]?=some args[n]:=by simp [show n<args.size from by omega]
  refine ⟨args[n],h1,?_,bZ n x _ hx h1,zb.1 aP x (zw hx)⟩;rw [zu,Array.getElem?_append_left (by omega),h1];rfl
 have y8:∀r j p,(ep 0 xs).st.ms.bM r j p=false:=fun r j p=>by simp [Ms.bM,oZ]
 have Rg:∀{r j:Nat} {x:V} {v:Value},ig w g r j x v→ig w (g.start args) r j x v:=by
  intro r j x v h;cases x with
  |one c=>exact ⟨yi h.1,h.2⟩
  |st cs=>obtain ⟨vs,h1,h2,h3⟩:=h;exact ⟨vs,h1,h2,fun i c y h4 h5=>yi (h3 i c y h4 h5)⟩
  |ptr=>exact h
  |bu=>exact h
 have bP:∀n rt,((ep 0 xs).st.ms n).1=some rt→kE w (g.start args) n rt∧rt.cells.all C.bg=true:=by
  intro n rt h;rw [oZ] at h;simp only at h;cases hx:xs[n]? with
  |none=>rw [hx] at h;cases h
  |some x=>
   rw [hx] at h;simp only at h;obtain ⟨v,aU,bB,bL,ch⟩:=hv n x hx;by_cases hp:∃cs,x=.ptr cs
   ·obtain ⟨cs,rfl⟩:=hp;simp [imp] at h;subst h;obtain ⟨b,vals,E,rfl,h2,h3,h4,h5⟩:=bL;have hb:(g.start args).bk n=b:=by simp [Gh.start,aU]
    refine ⟨⟨by rw [hb];exact h2,vals,E,by rw [hb];exact h3,by simpa using h4.symm,fun j c y h6 h7=>?_⟩,ch⟩;have:=h5 j c y h6 (by simpa using h7);rw [zA] at this;exact yi this
   ·have hn:∀cs,x≠.ptr cs:=fun cs e=>hp ⟨cs,e⟩
    rw [sT hn] at h;split at h
    ·rename_i ft;simp at h;subst h;have kN:x.dZ=x.flat:=by cases x<;>first|rfl|(simp [V.mQ] at ch)
     rw [kN] at ft
     have h3:ig w g (n+1) 0 x v∧(x.flat.any C.dn=true→∀(j:Nat) (y:Value),v.cells[j]?=some y→g.hd (n+1) j []=y):=by
      cases x with
      |ptr cs=>exact absurd rfl (hn cs)
      |bu=>exact bL.elim
      |one=>exact bL
      |st=>exact bL
     obtain ⟨h4,h5⟩:=rK h3.1;refine ⟨fun j c hj=>?_,ye (Jd ch) hn⟩;rw [kN] at hj;have ah:=bj hj
     have hy:v.cells[j]?=some v.cells[j]:=by
      have:j<v.cells.size:=by rw [h4] at ah;simpa using ah
      simp [this]
     have h6:=h5 j c _ hj (by rw [Array.getElem?_toList];exact hy);rw [zA] at h6;have h7:=h3.2 ft j _ hy;show RC w (g.start args) (n+1) j c (g.hd (n+1) j []);rw [h7];exact yi h6
    ·cases h
 refine { av:=fun n=>?_,rt:=fun n rt h=>(bP n rt h).1,ey:=fun n r h=>?_,ea:=fun n rt j r j' h h1=>?_,bd:=d_,sz:=zk _,fr:=fun _ _ _=>rfl,
          im:=fun _ _=>.rfl,mi:=fun _ _ h=>h,sd:=.refl _,fi:=fun i hi=>?_ }
 ·rw [c4];cases hx:xs[n]? with
  |none=>exact .un _
  |some x=>
   obtain ⟨v,aU,bB,bL,ch⟩:=hv n x hx;rw [bB];simp only;by_cases hp:∃cs,x=.ptr cs
   ·obtain ⟨cs,rfl⟩:=hp;obtain ⟨b,vals,E,rfl,_⟩:=bL;have hb:(g.start args).bk n=b:=by simp [Gh.start,aU]
    have:=RA.bx (w:=w) (g:=g.start args) (m:=(ep 0 xs).st.ms) n 0;rw [hb] at this;exact this
   ·have hn:∀cs,x≠.ptr cs:=fun cs e=>hp ⟨cs,e⟩
    have h3:ig w g (n+1) 0 x v:=by
     cases x with
     |ptr cs=>exact absurd rfl (hn cs)
     |bu=>exact bL.elim
     |one=>exact bL.1
     |st=>exact bL.1
    obtain ⟨h4,h5⟩:=rK h3;have himp:(imp n x).1=sS n 0 x:=by cases x<;>first|rfl|exact absurd rfl (hn _)|exact bL.elim
    rw [himp];refine AR (Rg h3) (fun i c y h6 h7=>?_);have:=h5 i c y h6 (by simpa using h7);rw [zA] at this ⊢;exact ql (yi this)
 ·rw [c4] at h;cases hx:xs[n]? with
  |none=>rw [hx] at h;simp [AV.refs] at h
  |some x=>
   rw [hx] at h;simp only at h;obtain ⟨v,aU,bB,bL,ch⟩:=hv n x hx;by_cases hp:∃cs,x=.ptr cs
   ·obtain ⟨cs,rfl⟩:=hp;simp [imp,AV.refs] at h;subst h;rw [oZ,hx];rfl
   ·have hn:∀cs,x≠.ptr cs:=fun cs e=>hp ⟨cs,e⟩
    obtain ⟨rfl,h2⟩:=pX (Jd ch) hn h;rw [oZ,hx];simp only [sT hn,if_pos h2];rfl
 ·have:=zb.1 (bP n rt h).2 _ (zw h1);simp [C.bg] at this
 ·have h:=zb.1 oY i hi;have h2:((ep 0 xs).st.ms i).1=((ep 0 xs).get i).2:=rfl;rw [h2];cases h3:((ep 0 xs).get i).2 with
  |none=>rw [h3] at h;cases h
  |some rt=>cases rt with
   |aR=>exact fun _=>rfl
   |bx=>rfl
def Bd:List Value→Value
 |[v]=>v
 |vs=>.tuple vs.toArray
theorem Um {fn:Func} {tmps:Array Value} {vs:List Value} (h:(fn.results.toList.mapM (qm tmps)).run P w=.ok vs w):
 (results fn tmps).run P w=.ok (Bd vs) w:=by
 have h1:(fn.results.mapM (qm tmps)).run P w=.ok vs.toArray w:=by
  rw [Array.mapM_eq_mapM_toList];simp [h]
 have h2:results fn tmps=(do
  let vs ←fn.results.mapM (qm tmps)
  pure (if h:vs.size=1 then vs[0] else .tuple vs)):=by
  unfold results;congr 1
 rw [h2];simp only [Sem.run_bind,h1,Result.andThen_ok,Sem.run_pure];congr 1
 match vs with
 |[]=>rfl
 |[v]=>rfl
 |v::v2::vs=>simp [Bd]
theorem Ny {f:FuncId} {F:PF} (hc:rQ P κ f F=true):uN P f=true:=by
 unfold rQ at hc;unfold uN;split at hc
 ·rename_i fn iu;split at hc
  ·rename_i code lg;simp only [za] at hc;simp [iu,lg,hc.1]
  ·cases hc
 ·cases hc
theorem N8 (hm:P.follows .mixedOrders=true) {f:FuncId} {F:PF} (hc:rQ P κ f F=true) (hk:mJ P κ Γ F.body.keys) {fuel:Nat} {xs:List V} {r:V} {us:List (Nat×Nat×C)}
 (h:prun Γ fuel F xs=some (r,us)):OK P f xs r us:=by
 intro w args g dg d_ bZ;unfold rQ at hc;split at hc
 ·rename_i fn iu;split at hc
  ·rename_i code lg;simp only [za] at hc
   replace hc:=hc.2
   unfold prun at h;split at h
   ·rename_i cN;simp only [za] at cN;have R:=UE (io:=F.io) (fn.ntmps-args.size) dg d_ bZ cN.1 cN.2;refine calls_of_wp iu lg (TM (w0:=w) (cl0:=⟨g.start args,F.io⟩) (N:=fn.ntmps) hm fuel F.body code hc.1 hk _ (ep 0 xs) _ w ?_ ⟨_,R,rfl,by simp;omega⟩)
    have key:∀L,finish F xs L=some (r,us)→∀a w',eH w ⟨g.start args,F.io⟩ fn.ntmps L.st a w'→a.defers=[]∧∃v,(results fn a.tmps).run P w'=.ok v w'∧
     ∃v1 g',(Ending.returned v)=.returned v1∧kW w' g' r v1∧Left w g xs args us w' g':=by
     intro L hf a w' hs;obtain ⟨g1,R1,yW,_⟩:=hs;refine ⟨yW,?_⟩;unfold finish at hf
     have rk:∃x m,A7 F L=some (x,m)∧p9 xs m F.io=some us∧x=r:=by
      split at hf
      ·rename_i x m h1;split at hf
       ·rename_i us1 h2;simp at hf;obtain ⟨rfl,rfl⟩:=hf;exact ⟨x,m,h1,h2,rfl⟩
       ·cases hf
      ·cases hf
     obtain ⟨x,m,h1,h2,rfl⟩:=rk
     have QS:∃vs g',(fn.results.toList.mapM (qm a.tmps)).run P w'=.ok vs w'∧kW w' g' x (Bd vs)∧yv ⟨g.start args,F.io⟩ m w' g'∧yo ⟨g.start args,F.io⟩ w w' g':=by
      have bG:=hc.2;unfold A7 at h1;split at h1
      ·rename_i pr Q_;rw [Q_] at bG;split at h1
       ·rename_i av c4;cases Da:fn.results.toList with
        |nil=>rw [Da] at bG;cases pr<;>simp [kH] at bG
        |cons rv jF=>
         rw [Da] at bG;obtain ⟨v,q1,q2,q3⟩:=L0 R1 bG c4
         have:jF=[]:=by
          cases jF with
          |nil=>rfl
          |cons Uq jF=>cases Uq<;>simp [kH] at q3
         subst this;obtain ⟨g',q4,q5,q6⟩:=TF R1 q2 h1;exact ⟨[v],g',LD _ _ _ _ _ q1 (by simp [zV]),q4,q5,q6⟩
       ·cases h1
      ·rename_i cg;split at h1
       ·rename_i ys m1 Rs;simp at h1;obtain ⟨rfl,rfl⟩:=h1;obtain ⟨vs,g',q1,q2,q3,q4,q5⟩:=TI R1 F.res fn.results.toList L.st.ms m1 g1 ys 0 R1 (.refl _ _ _) bG Rs
        have hlen:∀v,vs≠[v]:=by
         intro v e;subst e;simp at q5
         match hF:F.res,q5 with
         |[pr],_=>exact cg pr hF
        refine ⟨vs,g',q1,?_,q2.MB,q2.base⟩
        have:Bd vs=.tuple vs.toArray:=by
         match vs,hlen with
         |[],_=>rfl
         |[v],h=>exact absurd rfl (h v)
         |_::_::_,_=>rfl
        rw [this];exact ⟨vs.toArray,rfl,by simpa using q3⟩
       ·cases h1
     obtain ⟨vs,g',q1,q2,q3,q4⟩:=QS;refine ⟨_,Um q1,_,g',rfl,q2,?_⟩;refine { sd:=q4.sd,sz:=q4.sz,fr:=q4.fr,im:=q4.im,bd:=q4.bd,mi:=q4.mi,up:=fun i j c hu=>?_ };obtain ⟨hi,h3⟩:=TH F.io h2 hu;rcases h3 with ⟨cs,x1,e1,e2,e3,e4⟩|⟨cs,cs0,e1,e2,e3⟩
     ·obtain ⟨p1,p2⟩:=q3 i hi _ e1;have ah:=bj e2;have jS:args[i]?=some args[i]:=by simp [show i<args.size from by omega]
      have AO:=bZ i x1 _ e2 jS
      have Lj:ig w g (i+1) 0 x1 args[i]∧(x1.flat.any C.dn=true→∀(j:Nat) (y:Value),(args[i]).cells[j]?=some y→g.hd (i+1) j []=y):=by
       cases x1 with
       |ptr cs=>simp [V.flat] at e4
       |bu=>exact AO.elim
       |one=>exact AO
       |st=>exact AO
      have ft:x1.flat.any C.dn=true:=by
       have h5:=zb.1 cN.2 i hi;rw [Ls] at h5;simp only [Nat.zero_le,if_true,zI,e2] at h5;have hn:∀cs,x1≠.ptr cs:=fun cs e=>by subst e;simp [V.flat] at e4
       rw [sT hn] at h5;have kN:x1.dZ=x1.flat:=by cases x1<;>first|rfl|exact AO.elim
       rw [kN] at h5;cases h6:x1.flat.any C.dn with
       |true=>rfl
       |false=>rw [h6] at h5;simp at h5
      obtain ⟨h4,h5⟩:=rK Lj.1
      have hy:(args[i]).cells[j]?=some (args[i]).cells[j]:=by
       have:j<(args[i]).cells.size:=by rw [h4] at e4;simpa using e4
       simp [this]
      have hx:=p1 j c e3;have hh:g'.hd (i+1) j []=(args[i]).cells[j]:=(p2 j).trans (Lj.2 ft j _ hy);rw [hh] at hx;have Pq:∃v x,args[i]?=some v∧v.cells[j]?=some x∧RC w' g' (i+1) j c x:=⟨_,_,jS,hy,hx⟩;rw [e2];cases x1 with
      |ptr cs=>simp [V.flat] at e4
      |_=>exact Pq
     ·obtain ⟨p1,p2⟩:=q3 i hi _ e1;have ah:=bj e2;have jS:args[i]?=some args[i]:=by simp [show i<args.size from by omega]
      obtain ⟨b,vals,E,hb,_⟩:=bZ i _ _ e2 jS;rw [hb] at jS;obtain ⟨p3,dV,E',p4,p5,p6⟩:=p1
      have kM:g'.bk i=b:=by
       have:g'.bk i=(g.start args).bk i:=p2;rw [this];simp [Gh.start,jS]
      rw [kM] at p3 p4;have hj:=bj e3;have hy:dV[j]?=some dV[j]:=by simp [show j<dV.size from by omega]
      rw [e2];exact ⟨b,dV,E',_,jS,p3,p4,(by rw [p5];exact TG e1 e2 F.io h2 hi),hy,p6 j c _ e3 hy⟩
    cases hp:bH Γ fuel F.body (ep 0 xs) with
    |fail=>rw [hp] at h;cases h
    |exit=>rw [hp] at h;cases h
    |norm L=>rw [hp] at h;exact fun a w' hs=>key L h a w' hs
    |ret L=>rw [hp] at h;exact fun a w' hs=>key L h a w' hs
   ·cases h
  ·cases hc
 ·cases hc
end
end
section
def Env.le (Γ gM:Env):Prop:=∀f xs y,Γ f xs=some y→gM f xs=some y
theorem DO {Γ gM:Env} (hle:Env.le Γ gM) {ev:PX→AV} {d:Nat} {m:Ms} {op:aD} {z:AV×Option Rt×Ms} (h:aw Γ ev d m op=some z):aw gM ev d m op=some z:=by
 cases op with
 |call f io args=>
  simp only [aw] at h ⊢;cases io with
  |nil=>
   dsimp only at h ⊢;cases h1:dP m [] 0 (args.map ev) with
   |none=>rw [h1] at h;cases h
   |some xs=>
    rw [h1] at h;dsimp only at h ⊢;cases hg:Γ f xs with
    |none=>rw [hg] at h;cases h
    |some y=>rw [hg] at h;rw [hle _ _ _ hg];exact h
  |cons i io=>
   dsimp only at h ⊢;cases h1:args.map ev with
   |nil=>rw [h1] at h;cases h
   |cons a0 rest=>
    rw [h1] at h;dsimp only at h ⊢;cases hp:a0.oq m with
    |some y=>
     obtain ⟨r0,cs0⟩:=y;rw [hp] at h;dsimp only at h ⊢;cases h3:(if rest.any AV.kL=true then none else dP m [] 1 rest) with
     |none=>rw [h3] at h;cases h
     |some xs=>
      rw [h3] at h;dsimp only at h ⊢;cases hg:Γ f (.ptr cs0::xs) with
      |none=>rw [hg] at h;cases h
      |some y=>rw [hg] at h;rw [hle _ _ _ hg];exact h
    |none=>
    rw [hp] at h;dsimp only at h ⊢;cases h2:gS m a0 with
    |none=>rw [h2] at h;cases h
    |some y0=>
     obtain ⟨x0,m1⟩:=y0;rw [h2] at h;dsimp only at h ⊢;cases h3:dP m1 [] 1 rest with
     |none=>rw [h3] at h;cases h
     |some xs=>
      rw [h3] at h;dsimp only at h ⊢;cases hg:Γ f (x0::xs) with
      |none=>rw [hg] at h;cases h
      |some y=>rw [hg] at h;rw [hle _ _ _ hg];exact h
 |kZ f x y=>exact h
 |jO f i args=>
  simp only [aw] at h ⊢;split at h
  ·split at h
   ·split at h
    ·split at h
     ·rename_i hg;rw [hle _ _ _ hg];exact h
     ·cases h
    ·cases h
   ·cases h
  ·cases h
 |mf x args=>
  simp only [aw] at h ⊢;generalize ev x=v at h ⊢;cases v with
  |v k dd=>
   cases dd with
   |fn f ds=>
    dsimp only at h ⊢;cases h1:dP m [] 0 (args.map ev) with
    |none=>rw [h1] at h;cases h
    |some xs=>
     rw [h1] at h;dsimp only at h ⊢;cases hg:Γ f (xs++qA k ds) with
     |none=>rw [hg] at h;cases h
     |some y=>rw [hg] at h;rw [hle _ _ _ hg];exact h
   |_=>cases h
  |_=>cases h
 |_=>exact h
theorem Mb {Γ gM:Env} (hle:Env.le Γ gM) {o:PO} {S S':St} (h:dH Γ o S=some S'):dH gM o S=some S':=by
 unfold dH at h ⊢;split at h
 ·split at h
  ·split at h
   ·rename_i a m fg;rw [DO hle fg];exact h
   ·rename_i a r m fg;rw [DO hle fg];exact h
   ·cases h
  ·split at h
   ·rename_i x m fg;rw [DO hle fg];exact h
   ·cases h
 ·exact h
 ·cases h
theorem It {Γ gM:Env} (hle:Env.le Γ gM):∀{ops:List PO} {S S':St},ez Γ ops S=some S'→ez gM ops S=some S'∧fD gM ops S=fD Γ ops S:=by
 intro ops;induction ops with
 |nil=>intro S S' h;exact ⟨h,rfl⟩
 |cons o os ih=>
  intro S S' h;simp only [ez,fD] at h ⊢;split at h
  ·rename_i S1 h1;rw [Mb hle h1];obtain ⟨h2,h3⟩:=ih h;exact ⟨h2,by simp only [h3]⟩
  ·cases h
theorem Ug {Γ gM:Env} (hle:Env.le Γ gM) {live ai ops draw} {L:AL} {o:Out} (h:gU Γ live ai ops draw L=o) (ho:o≠.fail):gU gM live ai ops draw L=o:=by
 rcases Iu Γ live ai ops draw L with h1|⟨S,h1,h2,h3⟩
 ·rw [h1] at h;exact absurd h.symm ho
 ·obtain ⟨h4,h5⟩:=It hle h1;rw [←h];unfold gU at h3 ⊢;rw [h5,h4,h1]
theorem DH {f f':AL→Out} (hf:∀L o,f L=o→o≠.fail→f' L=o):∀(n n':Nat),n≤n'→∀L o,iter f n L=o→o≠.fail→iter f' n' L=o:=by
 intro n;induction n with
 |zero=>intro n' _ L o h ho;exact absurd h.symm ho
 |succ n ih=>
  intro n' hn L o h ho;cases n' with
  |zero=>omega
  |succ n'=>
   simp only [iter] at h ⊢;cases h1:f L with
   |fail=>rw [h1] at h;exact absurd h.symm ho
   |norm L'=>
    rw [h1] at h;rw [hf L _ h1 (by simp)];exact ih n' (by omega) L' o h ho
   |exit i L'=>rw [h1] at h;rw [hf L _ h1 (by simp)];exact h
   |ret L'=>rw [h1] at h;rw [hf L _ h1 (by simp)];exact h
theorem mE {Γ gM:Env} (hle:Env.le Γ gM) {n n':Nat} (hn:n≤n'):∀(c:PC) (L:AL) (o:Out),bH Γ n c L=o→o≠.fail→bH gM n' c L=o:=by
 intro c;induction c with
 |ext calls f=>
  intro L o h ho;simp only [bH] at h ⊢;split at h
  ·rename_i hc
   have qO:rI gM (calls L):=by
    unfold rI at hc ⊢;split at hc
    ·exact fun c hm=>hle _ _ _ (hc c hm)
    ·exact hc.elim
   rw [if_pos qO];exact h
  ·exact absurd h.symm ho
 |skip=>intro L o h _;exact h
 |dp live ai ops draw=>intro L o h ho;exact Ug hle h ho
 |seq a b lB pW=>
  intro L o h ho;simp only [bH] at h ⊢;cases h1:bH Γ n a L with
  |fail=>rw [h1] at h;exact absurd h.symm ho
  |norm L'=>rw [h1] at h;rw [lB L _ h1 (by simp)];exact pW L' o h ho
  |exit i L'=>rw [h1] at h;rw [lB L _ h1 (by simp)];exact h
  |ret L'=>rw [h1] at h;rw [lB L _ h1 (by simp)];exact h
 |cond x a b lB pW=>
  intro L o h ho;simp only [bH] at h ⊢;cases h1:(L.st.ev x).asBool with
  |none=>rw [h1] at h;exact absurd h.symm ho
  |some t=>
   rw [h1] at h;cases t with
   |true=>exact lB L o h ho
   |false=>exact pW L o h ho
 |aA id c ih=>
  intro L o h ho;simp only [bH] at h ⊢;cases h1:bH Γ n c L with
  |fail=>rw [h1] at h;exact absurd h.symm ho
  |norm L'=>rw [h1] at h;rw [ih L _ h1 (by simp)];exact h
  |exit i L'=>rw [h1] at h;rw [ih L _ h1 (by simp)];exact h
  |ret L'=>rw [h1] at h;rw [ih L _ h1 (by simp)];exact h
 |loop c ih=>
  intro L o h ho;simp only [bH] at h ⊢;exact DH ih n n' hn L o h ho
 |exit id=>intro L o h _;exact h
 |ret=>intro L o h _;exact h
theorem LS {Γ gM:Env} (hle:Env.le Γ gM) {n n':Nat} (hn:n≤n') {F:PF} {xs:List V} {y} (h:prun Γ n F xs=some y):prun gM n' F xs=some y:=by
 unfold prun at h ⊢;split at h
 ·rename_i hc;rw [if_pos hc];cases h1:bH Γ n F.body (ep 0 xs) with
  |fail=>rw [h1] at h;cases h
  |norm L'=>rw [h1] at h;rw [mE hle hn _ _ _ h1 (by simp)];exact h
  |exit i L'=>rw [h1] at h;cases h
  |ret L'=>rw [h1] at h;rw [mE hle hn _ _ _ h1 (by simp)];exact h
 ·cases h
noncomputable def Gn (T:Nat→Option PF):Nat→Env
 |0=>fun _ _=>none
 |n+1=>fun f xs=>match T f with
  |some F=>prun (Gn T n) n F xs
  |none=>none
theorem MN (T:Nat→Option PF):∀n,Env.le (Gn T n) (Gn T (n+1)):=by
 intro n;induction n with
 |zero=>intro f xs y h;cases h
 |succ n ih=>
  intro f xs y h;simp only [Gn] at h ⊢;split at h
  ·rename_i F hF;exact LS ih (by omega) h
  ·cases h
theorem mL (T:Nat→Option PF) {n m:Nat} (h:n≤m):Env.le (Gn T n) (Gn T m):=by
 induction h with
 |refl=>intro f xs y h;exact h
 |step _ ih=>intro f xs y h;exact MN T _ f xs y (ih f xs y h)
open Classical in
noncomputable def Gw (T:Nat→Option PF):Env:=fun f xs=>
 if h:∃n y,Gn T n f xs=some y then some (zJ (zo h)) else none
theorem pa (T:Nat→Option PF) {f:Nat} {xs:List V} {y}:Gw T f xs=some y↔∃n,Gn T n f xs=some y:=by
 unfold Gw;constructor
 ·intro h;split at h
  ·rename_i hh;simp only [zG] at h;exact ⟨_,by rw [←h];exact zo (zo hh)⟩
  ·cases h
 ·intro ⟨n,h⟩;have hh:∃n y,Gn T n f xs=some y:=⟨n,y,h⟩;rw [dif_pos hh];have h1:=zo (zo hh);have h2:=mL T (zp (zJ hh) n) _ _ _ h1;have h3:=mL T (zj (zJ hh) n) _ _ _ h;rw [h2] at h3;exact h3
theorem MM (T:Nat→Option PF) (n:Nat):Env.le (Gn T n) (Gw T):=fun f xs y h=>(pa T).2 ⟨n,h⟩
section
variable {T:Nat→Option PF}
theorem DN {ev:PX→AV} {d:Nat} {m:Ms} {op:aD} {z:AV×Option Rt×Ms} (h:aw (Gw T) ev d m op=some z):∃n,aw (Gn T n) ev d m op=some z:=by
 cases op with
 |call f io args=>
  simp only [aw] at h ⊢;cases io with
  |nil=>
   dsimp only at h ⊢;cases h1:dP m [] 0 (args.map ev) with
   |none=>rw [h1] at h;cases h
   |some xs=>
    rw [h1] at h;dsimp only at h ⊢;cases hg:Gw T f xs with
    |none=>rw [hg] at h;cases h
    |some y=>
     rw [hg] at h;obtain ⟨n,hg⟩:=(pa T).1 hg;exact ⟨n,by rw [hg];exact h⟩
  |cons i io=>
   dsimp only at h ⊢;cases h1:args.map ev with
   |nil=>rw [h1] at h;cases h
   |cons a0 rest=>
    rw [h1] at h;dsimp only at h ⊢;cases hp:a0.oq m with
    |some y=>
     obtain ⟨r0,cs0⟩:=y;rw [hp] at h;dsimp only at h ⊢;cases h3:(if rest.any AV.kL=true then none else dP m [] 1 rest) with
     |none=>rw [h3] at h;cases h
     |some xs=>
      rw [h3] at h;dsimp only at h ⊢;cases hg:Gw T f (.ptr cs0::xs) with
      |none=>rw [hg] at h;cases h
      |some y=>
       rw [hg] at h;obtain ⟨n,hg⟩:=(pa T).1 hg;exact ⟨n,by rw [hg];exact h⟩
    |none=>
    rw [hp] at h;dsimp only at h ⊢;cases h2:gS m a0 with
    |none=>rw [h2] at h;cases h
    |some y0=>
     obtain ⟨x0,m1⟩:=y0;rw [h2] at h;dsimp only at h ⊢;cases h3:dP m1 [] 1 rest with
     |none=>rw [h3] at h;cases h
     |some xs=>
      rw [h3] at h;dsimp only at h ⊢;cases hg:Gw T f (x0::xs) with
      |none=>rw [hg] at h;cases h
      |some y=>
       rw [hg] at h;obtain ⟨n,hg⟩:=(pa T).1 hg;exact ⟨n,by rw [hg];exact h⟩
 |kZ f x y=>exact ⟨0,h⟩
 |jO f i args=>
  simp only [aw] at h ⊢;split at h
  ·split at h
   ·split at h
    ·split at h
     ·rename_i hg;obtain ⟨n,hg⟩:=(pa T).1 hg;exact ⟨n,by rw [hg];exact h⟩
     ·cases h
    ·cases h
   ·cases h
  ·cases h
 |mf x args=>
  simp only [aw] at h ⊢;generalize ev x=v at h ⊢;cases v with
  |v k dd=>
   cases dd with
   |fn f ds=>
    dsimp only at h ⊢;cases h1:dP m [] 0 (args.map ev) with
    |none=>rw [h1] at h;cases h
    |some xs=>
     rw [h1] at h;dsimp only at h ⊢;cases hg:Gw T f (xs++qA k ds) with
     |none=>rw [hg] at h;cases h
     |some y=>
      rw [hg] at h;obtain ⟨n,hg⟩:=(pa T).1 hg;exact ⟨n,by rw [hg];exact h⟩
   |_=>cases h
  |_=>cases h
 |_=>exact ⟨0,h⟩
theorem UH {o:PO} {S S':St} (h:dH (Gw T) o S=some S'):∃n,dH (Gn T n) o S=some S':=by
 unfold dH at h ⊢;split at h
 ·split at h
  ·split at h
   ·rename_i a m fg;obtain ⟨n,fg⟩:=DN fg;exact ⟨n,by rw [fg];exact h⟩
   ·rename_i a r m fg;obtain ⟨n,fg⟩:=DN fg;exact ⟨n,by rw [fg];exact h⟩
   ·cases h
  ·split at h
   ·rename_i x m fg;obtain ⟨n,fg⟩:=DN fg;exact ⟨n,by rw [fg];exact h⟩
   ·cases h
 ·exact ⟨0,h⟩
 ·cases h
theorem Ub:∀{ops:List PO} {S S':St},ez (Gw T) ops S=some S'→∃n,ez (Gn T n) ops S=some S':=by
 intro ops;induction ops with
 |nil=>intro S S' h;exact ⟨0,h⟩
 |cons o os ih=>
  intro S S' h;simp only [ez] at h ⊢;split at h
  ·rename_i S1 h1;obtain ⟨n1,h1⟩:=UH h1;obtain ⟨n2,h2⟩:=ih h;refine ⟨max n1 n2,?_⟩;rw [Mb (mL T (zp n1 n2)) h1];exact (It (mL T (zj n1 n2)) h2).1
  ·cases h
theorem Uf {live ai ops draw} {L:AL} {o:Out} (h:gU (Gw T) live ai ops draw L=o) (ho:o≠.fail):∃n,gU (Gn T n) live ai ops draw L=o:=by
 rcases Iu (Gw T) live ai ops draw L with h1|⟨S,h1,h2,h3⟩
 ·rw [h1] at h;exact absurd h.symm ho
 ·obtain ⟨n,h4⟩:=Ub h1;refine ⟨n,?_⟩;obtain ⟨h5,h6⟩:=It (MM T n) h4;rw [←h];unfold gU at h3 ⊢;rw [←h6,h4,h1]
theorem RM {c:PC} {fuel:Nat} (hf:∀L o,bH (Gw T) fuel c L=o→o≠.fail→∃n,bH (Gn T n) fuel c L=o):∀(k:Nat) L o,iter (bH (Gw T) fuel c) k L=o→o≠.fail→∃n,iter (bH (Gn T n) fuel c) k L=o:=by
 intro k;induction k with
 |zero=>intro L o h ho;exact absurd h.symm ho
 |succ k ih=>
  intro L o h ho;simp only [iter] at h ⊢;cases h1:bH (Gw T) fuel c L with
  |fail=>rw [h1] at h;exact absurd h.symm ho
  |norm L'=>
   rw [h1] at h;obtain ⟨n1,h1⟩:=hf L _ h1 (by simp);obtain ⟨n2,h2⟩:=ih L' o h ho;refine ⟨max n1 n2,?_⟩;rw [mE (mL T (zp n1 n2)) (zk _) _ _ _ h1 (by simp)];exact DH (fun L o=>mE (mL T (zj n1 n2)) (zk _) c L o) k k (zk _) L' o h2 ho
  |exit i L'=>rw [h1] at h;obtain ⟨n1,h1⟩:=hf L _ h1 (by simp);exact ⟨n1,by rw [h1];exact h⟩
  |ret L'=>rw [h1] at h;obtain ⟨n1,h1⟩:=hf L _ h1 (by simp);exact ⟨n1,by rw [h1];exact h⟩
theorem Ns {l:Option (List (Nat×List V×V))} (h:rI (Gw T) l):∃n,rI (Gn T n) l:=by
 cases l with
 |none=>exact h.elim
 |some cs=>
  simp only [rI] at h ⊢;induction cs with
  |nil=>exact ⟨0,fun c hc=>by simp at hc⟩
  |cons c cs ih=>
   obtain ⟨n1,h1⟩:=ih fun c hc=>h c (zy _ hc)
   obtain ⟨n2,h2⟩:=(pa T).1 (h c (by simp));refine ⟨max n1 n2,fun d hd=>?_⟩;rcases zi.1 hd with rfl|hd
   ·exact mL T (zj n1 n2) _ _ _ h2
   ·exact mL T (zp n1 n2) _ _ _ (h1 d hd)
theorem LP {fuel:Nat}:∀(c:PC) (L:AL) (o:Out),bH (Gw T) fuel c L=o→o≠.fail→∃n,bH (Gn T n) fuel c L=o:=by
 intro c;induction c with
 |ext calls f=>
  intro L o h ho;simp only [bH] at h ⊢;split at h
  ·rename_i hc;obtain ⟨n,hn⟩:=Ns hc;exact ⟨n,by rw [if_pos hn];exact h⟩
  ·exact absurd h.symm ho
 |skip=>intro L o h _;exact ⟨0,h⟩
 |dp live ai ops draw=>intro L o h ho;exact Uf h ho
 |seq a b lB pW=>
  intro L o h ho;simp only [bH] at h ⊢;cases h1:bH (Gw T) fuel a L with
  |fail=>rw [h1] at h;exact absurd h.symm ho
  |norm L'=>
   rw [h1] at h;obtain ⟨n1,h1⟩:=lB L _ h1 (by simp);obtain ⟨n2,h2⟩:=pW L' o h ho;refine ⟨max n1 n2,?_⟩;rw [mE (mL T (zp n1 n2)) (zk _) _ _ _ h1 (by simp)];exact mE (mL T (zj n1 n2)) (zk _) _ _ _ h2 ho
  |exit i L'=>rw [h1] at h;obtain ⟨n1,h1⟩:=lB L _ h1 (by simp);exact ⟨n1,by rw [h1];exact h⟩
  |ret L'=>rw [h1] at h;obtain ⟨n1,h1⟩:=lB L _ h1 (by simp);exact ⟨n1,by rw [h1];exact h⟩
 |cond x a b lB pW=>
  intro L o h ho;simp only [bH] at h ⊢;cases h1:(L.st.ev x).asBool with
  |none=>rw [h1] at h;exact absurd h.symm ho
  |some t=>
   rw [h1] at h;cases t with
   |true=>exact lB L o h ho
   |false=>exact pW L o h ho
 |aA id c ih=>
  intro L o h ho;simp only [bH] at h ⊢;cases h1:bH (Gw T) fuel c L with
  |fail=>rw [h1] at h;exact absurd h.symm ho
  |norm L'=>rw [h1] at h;obtain ⟨n1,h1⟩:=ih L _ h1 (by simp);exact ⟨n1,by rw [h1];exact h⟩
  |exit i L'=>rw [h1] at h;obtain ⟨n1,h1⟩:=ih L _ h1 (by simp);exact ⟨n1,by rw [h1];exact h⟩
  |ret L'=>rw [h1] at h;obtain ⟨n1,h1⟩:=ih L _ h1 (by simp);exact ⟨n1,by rw [h1];exact h⟩
 |loop c ih=>
  intro L o h ho;simp only [bH] at h ⊢;exact RM ih fuel L o h ho
 |exit id=>intro L o h _;exact ⟨0,h⟩
 |ret=>intro L o h _;exact ⟨0,h⟩
theorem MO {f:Nat} {F:PF} {fuel:Nat} {xs:List V} {y} (hT:T f=some F) (h:prun (Gw T) fuel F xs=some y):Gw T f xs=some y:=by
 refine (pa T).2 ?_
 have h':∃n,prun (Gn T n) fuel F xs=some y:=by
  unfold prun at h ⊢;split at h
  ·rename_i hc;cases h1:bH (Gw T) fuel F.body (ep 0 xs) with
   |fail=>rw [h1] at h;cases h
   |norm L'=>rw [h1] at h;obtain ⟨n,h1⟩:=LP _ _ _ h1 (by simp);exact ⟨n,by rw [if_pos hc,h1];exact h⟩
   |exit i L'=>rw [h1] at h;cases h
   |ret L'=>rw [h1] at h;obtain ⟨n,h1⟩:=LP _ _ _ h1 (by simp);exact ⟨n,by rw [if_pos hc,h1];exact h⟩
  ·cases h
 obtain ⟨n,h'⟩:=h';refine ⟨max n fuel+1,?_⟩;simp only [Gn,hT];exact LS (mL T (zp n fuel)) (zj n fuel) h'
theorem MR {P:Program} {κ:Nat→FuncId} (AQ:κ=jb) (hm:P.follows .mixedOrders=true)
 (hR:∀f,uF P (κ f)∨f≠503) (hc:∀f F,T f=some F→rQ P κ (κ f) F=true∨(uN P (κ f)=true∧∀Γ fuel xs r us,qx P κ Γ→prun Γ fuel F xs=some (r,us)→OK P (κ f) xs r us)):
 ∀f xs r us,Gw T f xs=some (r,us)→OK P (κ f) xs r us:=by
 have key:∀n,qx P κ (Gn T n):=by
  intro n;induction n with
  |zero=>exact ⟨AQ,fun f xs r us h=>(by cases h),fun f xs y h=>(by cases h),hR⟩
  |succ n ih=>
   refine ⟨AQ,fun f xs r us h=>?_,fun f xs y h=>?_,hR⟩
   ·simp only [Gn] at h;split at h
    ·rename_i F hF;rcases hc f F hF with hc|hc
     ·exact N8 hm hc ih h
     ·exact hc.2 _ _ _ _ _ ih h
    ·cases h
   ·simp only [Gn] at h;split at h
    ·rename_i F hF;rcases hc f F hF with hc|hc
     ·exact Ny hc
     ·exact hc.1
    ·cases h
 intro f xs r us h;obtain ⟨n,h⟩:=(pa T).1 h;exact (key n).ok f xs r us h
theorem MQ {P:Program} {κ:Nat→FuncId} (AQ:κ=jb) (hm:P.follows .mixedOrders=true) (hR:∀f,uF P (κ f)∨f≠503) (hc:∀f F,T f=some F→rQ P κ (κ f) F=true):
 ∀f xs r us,Gw T f xs=some (r,us)→OK P (κ f) xs r us:=MR AQ hm hR fun f F h=>.inl (hc f F h)
end
end
section
section
variable {Γ:Env} {Q:Out→Prop} {L:AL}
def Wp (Γ:Env) (c:PC) (Q:Out→Prop) (L:AL):Prop:=∃fuel o,bH Γ fuel c L=o∧o≠.fail∧Q o
theorem Env.le_refl (Γ:Env):Env.le Γ Γ:=fun _ _ _ h=>h
theorem Wp.mono {c:PC} {Q':Out→Prop} (h:Wp Γ c Q L) (hq:∀o,o≠.fail→Q o→Q' o):Wp Γ c Q' L:=by
 obtain ⟨n,o,h1,h2,h3⟩:=h;exact ⟨n,o,h1,h2,hq o h2 h3⟩
def qn (Γ:Env) (b:PC) (Q:Out→Prop):Out→Prop
 |.norm L'=>Wp Γ b Q L'
 |o=>Q o
def me (id:Nat) (Q:Out→Prop):Out→Prop
 |.exit i L'=>if i=id then Q (.norm L') else Q (.exit i L')
 |o=>Q o
def ov (Q:Out→Prop):Out→Prop
 |.fail=>False
 |o=>Q o
theorem abQ {calls:AL→Option (List (Nat×List V×V))} {f:AL→Option AL} {L':AL} (hc:rI Γ (calls L)) (hf:f L=some L') (h:Q (.norm L')):Wp Γ (.ext calls f) Q L:=
 ⟨0,.norm L',by simp only [bH];rw [if_pos hc,hf],by simp,h⟩
theorem wp_skip (h:Q (.norm L)):Wp Γ .skip Q L:=⟨0,_,rfl,by simp [bH],h⟩
theorem wp_exit {id:Nat} (h:Q (.exit id L)):Wp Γ (.exit id) Q L:=⟨0,_,rfl,by simp [bH],h⟩
theorem wp_ret (h:Q (.ret L)):Wp Γ .ret Q L:=⟨0,_,rfl,by simp [bH],h⟩
theorem wp_seq {a b:PC} (h:Wp Γ a (qn Γ b Q) L):Wp Γ (.seq a b) Q L:=by
 obtain ⟨n,o,h1,h2,h3⟩:=h;cases o with
 |fail=>exact absurd rfl h2
 |norm L'=>
  obtain ⟨m,o',h4,h5,h6⟩:=h3;refine ⟨max n m,o',?_,h5,h6⟩;simp only [bH];rw [mE (Env.le_refl Γ) (zp n m) _ _ _ h1 h2];exact mE (Env.le_refl Γ) (zj n m) _ _ _ h4 h5
 |exit i L'=>exact ⟨n,_,by simp only [bH];rw [h1],h2,h3⟩
 |ret L'=>exact ⟨n,_,by simp only [bH];rw [h1],h2,h3⟩
theorem cJ {id:Nat} {c:PC} (h:Wp Γ c (me id Q) L):Wp Γ (.aA id c) Q L:=by
 obtain ⟨n,o,h1,h2,h3⟩:=h;cases o with
 |fail=>exact absurd rfl h2
 |norm L'=>exact ⟨n,_,by simp only [bH];rw [h1],h2,h3⟩
 |exit i L'=>
  simp only [me] at h3;by_cases e:i=id
  ·rw [if_pos e] at h3;exact ⟨n,_,by simp only [bH];rw [h1];simp only [if_pos e],by simp,h3⟩
  ·rw [if_neg e] at h3;exact ⟨n,_,by simp only [bH];rw [h1];simp only [if_neg e],by simp,h3⟩
 |ret L'=>exact ⟨n,_,by simp only [bH];rw [h1],h2,h3⟩
theorem wp_cond {x:PX} {a b:PC} {t:Bool} (ht:(L.st.ev x).asBool=some t) (h1:t=true→Wp Γ a Q L) (h2:t=false→Wp Γ b Q L):Wp Γ (.cond x a b) Q L:=by
 cases t with
 |true=>
  obtain ⟨n,o,h1,h2,h3⟩:=h1 rfl;exact ⟨n,o,by simp only [bH];rw [ht];exact h1,h2,h3⟩
 |false=>
  obtain ⟨n,o,h1,h2,h3⟩:=h2 rfl;exact ⟨n,o,by simp only [bH];rw [ht];exact h1,h2,h3⟩
theorem Vw {live ai ops draw} (h:ov Q (gU Γ live ai ops draw L)):Wp Γ (.dp live ai ops draw) Q L:=by
 cases ho:gU Γ live ai ops draw L with
 |fail=>rw [ho] at h;exact h.elim
 |_=>rw [ho] at h;exact ⟨0,_,by simp only [bH];exact ho,by simp,h⟩
theorem wp_loop {c:PC} (h:Wp Γ c (qn Γ (.loop c) Q) L):Wp Γ (.loop c) Q L:=by
 obtain ⟨n,o,h1,h2,h3⟩:=h;cases o with
 |fail=>exact absurd rfl h2
 |norm L'=>
  obtain ⟨m,o',h4,h5,h6⟩:=h3;refine ⟨max n m+1,o',?_,h5,h6⟩;simp only [bH,iter];rw [mE (Env.le_refl Γ) (show n≤max n m+1 by omega) _ _ _ h1 h2];simp only [bH] at h4;exact DH (mE (Env.le_refl Γ) (by omega) c) _ _ (zj n m) _ _ h4 h5
 |exit i L'=>exact ⟨n+1,_,by simp only [bH,iter];rw [mE (Env.le_refl Γ) (show n≤n+1 by omega) _ _ _ h1 h2],h2,h3⟩
 |ret L'=>exact ⟨n+1,_,by simp only [bH,iter];rw [mE (Env.le_refl Γ) (show n≤n+1 by omega) _ _ _ h1 h2],h2,h3⟩
def tX (F:PF) (xs:List V) (y:V×List (Nat×Nat×C)):Out→Prop
 |.ret L|.norm L=>finish F xs L=some y
 |_=>False
end
theorem dw {T:Nat→Option PF} {f:Nat} {F:PF} {xs:List V} {y} (hT:T f=some F)
 (hc:(xs.all V.mQ&&F.io.all (fun i=>((ep 0 xs).get i).2.isSome))=true)
 (h:Wp (Gw T) F.body (tX F xs y) (ep 0 xs)):Gw T f xs=some y:=by
 obtain ⟨n,o,h1,h2,h3⟩:=h;refine MO (fuel:=n) hT ?_;unfold prun;rw [if_pos hc,h1];cases o with
 |fail=>exact absurd rfl h2
 |norm L=>exact h3
 |ret L=>exact h3
 |exit i L=>exact h3.elim
end
section
abbrev di (n:Int):D:=.int .i64 n
abbrev vi (n:Int):V:=.one (.ro false (.int .i64 n))
abbrev vb (b:Bool):V:=.one (.ro false (.bool b))
section
variable {Γ:Env} {Q:Out→Prop} {L:AL}
theorem cK {live ai ops draw} (h:∀K:Out→Prop,(∀o,Q o→K o)→ov K (gU Γ live ai ops draw L)):Wp Γ (.dp live ai ops draw) Q L:=
 Vw (h Q fun _ h=>h)
theorem cH {b:PC} (h:Wp Γ b Q L):qn Γ b Q (.norm L):=h
theorem cG {b:PC} {i:Nat} (h:Q (.exit i L)):qn Γ b Q (.exit i L):=h
theorem cI {b:PC} (h:Q (.ret L)):qn Γ b Q (.ret L):=h
theorem cp {id:Nat} (h:Q (.norm L)):me id Q (.norm L):=h
theorem cq {id:Nat} (h:Q (.ret L)):me id Q (.ret L):=h
theorem cn {id:Nat} (h:Q (.norm L)):me id Q (.exit id L):=by simp only [me,if_true];exact h
theorem WE {id i:Nat} (hi:i≠id) (h:Q (.exit i L)):me id Q (.exit i L):=by simp only [me,if_neg hi];exact h
theorem cB {F:PF} {xs:List V} {y} (h:finish F xs L=some y):tX F xs y (.ret L):=h
theorem cA {F:PF} {xs:List V} {y} (h:finish F xs L=some y):tX F xs y (.norm L):=h
theorem cP {x:PX} {a b:PC} (h:∃t,(L.st.ev x).asBool=some t∧(t=true→Wp Γ a Q L)∧(t=false→Wp Γ b Q L)):Wp Γ (.cond x a b) Q L:=by
 obtain ⟨t,h1,h2,h3⟩:=h;exact wp_cond h1 h2 h3
def uU (F:PF) (xs:List V) (Φ:V×List (Nat×Nat×C)→Prop):Out→Prop
 |.ret L|.norm L=>∃y,finish F xs L=some y∧Φ y
 |_=>False
theorem cx {F:PF} {xs:List V} {Φ} (h:∃y,finish F xs L=some y∧Φ y):uU F xs Φ (.ret L):=h
theorem cw {F:PF} {xs:List V} {Φ} (h:∃y,finish F xs L=some y∧Φ y):uU F xs Φ (.norm L):=h
theorem MP {T:Nat→Option PF} {f:Nat} {F:PF} {xs:List V} {Φ} (hT:T f=some F)
 (hc:(xs.all V.mQ&&F.io.all (fun i=>((ep 0 xs).get i).2.isSome))=true)
 (h:Wp (Gw T) F.body (uU F xs Φ) (ep 0 xs)):∃y,Gw T f xs=some y∧Φ y:=by
 obtain ⟨n,o,h1,h2,h3⟩:=h;cases o with
 |fail=>exact absurd rfl h2
 |norm L=>
  obtain ⟨y,h4,h5⟩:=h3;exact ⟨y,dw hT hc ⟨n,.norm L,h1,h2,h4⟩,h5⟩
 |ret L=>
  obtain ⟨y,h4,h5⟩:=h3;exact ⟨y,dw hT hc ⟨n,.ret L,h1,h2,h4⟩,h5⟩
 |exit i L=>exact h3.elim
def uV (F:PF) (xs:List V) (Φ:Int→Prop):Out→Prop
 |.ret L|.norm L=>∃n,finish F xs L=some (vi n,[])∧Φ n
 |_=>False
theorem cz {F:PF} {xs:List V} {Φ} (h:∃n,finish F xs L=some (vi n,[])∧Φ n):uV F xs Φ (.ret L):=h
theorem cy {F:PF} {xs:List V} {Φ} (h:∃n,finish F xs L=some (vi n,[])∧Φ n):uV F xs Φ (.norm L):=h
theorem cj {T:Nat→Option PF} {f:Nat} {F:PF} {xs:List V} {Φ:Int→Prop} (hT:T f=some F)
 (hc:(xs.all V.mQ&&F.io.all (fun i=>((ep 0 xs).get i).2.isSome))=true)
 (h:Wp (Gw T) F.body (uV F xs Φ) (ep 0 xs)):∃n,Gw T f xs=some (vi n,[])∧Φ n:=by
 obtain ⟨y,h1,n,rfl,h2⟩:=MP (Φ:=fun y=>∃n,y=(vi n,[])∧Φ n) hT hc (h.mono fun o _ ho=>by
  cases o with
  |norm L=>obtain ⟨n,h1,h2⟩:=ho;exact ⟨_,h1,n,rfl,h2⟩
  |ret L=>obtain ⟨n,h1,h2⟩:=ho;exact ⟨_,h1,n,rfl,h2⟩
  |_=>exact ho.elim)
 exact ⟨n,h1,h2⟩
def sW {σ:Type} (I:σ→AL) (P:σ→Prop) (m:σ→Nat) (n:Nat) (Q:Out→Prop):Out→Prop
 |.norm L'=>∃s',L'=I s'∧P s'∧m s'<n
 |o=>Q o
theorem bn {c:PC} {σ:Type} (I:σ→AL) (P:σ→Prop) (m:σ→Nat) (s0:σ) (h0:L=I s0) (hP:P s0) (step:∀s,P s→Wp Γ c (sW I P m (m s) Q) (I s)):Wp Γ (.loop c) Q L:=by
 subst h0
 have key:∀n s,m s<n→P s→Wp Γ (.loop c) Q (I s):=by
  intro n;induction n with
  |zero=>intro s h;omega
  |succ n ih=>
   intro s h hP;refine wp_loop ((step s hP).mono fun o ho h1=>?_);cases o with
   |fail=>exact absurd rfl ho
   |norm L'=>
    obtain ⟨s',rfl,h2,h3⟩:=h1;exact ih s' (by omega) h2
   |exit i L'=>exact h1
   |ret L'=>exact h1
 exact key _ s0 (Nat.lt_succ_self _) hP
theorem cE {σ:Type} {I:σ→AL} {P:σ→Prop} {m:σ→Nat} {n:Nat} (h:∃s',L=I s'∧P s'∧m s'<n):sW I P m n Q (.norm L):=h
theorem cD {σ:Type} {I:σ→AL} {P:σ→Prop} {m:σ→Nat} {n i:Nat} (h:Q (.exit i L)):sW I P m n Q (.exit i L):=h
theorem cF {σ:Type} {I:σ→AL} {P:σ→Prop} {m:σ→Nat} {n:Nat} (h:Q (.ret L)):sW I P m n Q (.ret L):=h
theorem abR {n:Nat} (h:n<2^62):IntKind.wrap .i64 ((n:Int)+1)=((n+1:Nat):Int):=by
 simp [IntKind.wrap,IntKind.signed,IntKind.bits];omega
@[simp] theorem wrap_i64 {n:Int} (h1:-9223372036854775808≤n) (h2:n≤9223372036854775807):IntKind.wrap .i64 n=n:=by
 simp [IntKind.wrap,IntKind.signed,IntKind.bits];omega
@[simp] theorem wrap_u8 {n:Int} (h1:0≤n) (h2:n≤255):IntKind.wrap .u8 n=n:=by
 simp [IntKind.wrap,IntKind.signed,IntKind.bits];omega
theorem SC {β:Type} {l:List (Nat×β)} {k:Nat} {b:β} (h:l.lookup k=some b):(k,b)∈l:=by
 induction l with
 |nil=>simp at h
 |cons x l ih=>
  obtain ⟨k',b'⟩:=x;rw [List.lookup_cons] at h;split at h
  ·rename_i e;have:=beq_iff_eq.1 e;subst this;simp at h;subst h;simp
  ·exact zy _ (ih h)
@[simp] theorem W_ {α:Type} {n:Nat} (l r:List α) (x:α) (h:n=l.length):(l++x::r)[n]?=some x:=by subst h;simp
@[simp] theorem abn {α:Type} {n:Nat} (l r:List α) (x y:α) (h:n=l.length):(l++x::r).set n y=l++y::r:=by subst h;simp
theorem abf {α β:Type} (f:α→β) (pre:List α) (d:α) (rest:List α):((pre++d::rest).map f)[pre.length]?=some (f d):=by simp
end
section
variable {α β:Type}
def ob (x:Option α) (f:α→Option β):Option β:=match x with
 |some a=>f a
 |none=>none
@[simp] theorem abd (a:α) (f:α→Option β):ob (some a) f=f a:=rfl
@[simp] theorem abc (f:α→Option β):ob none f=none:=rfl
inductive Tag.{u} {α:Sort u} (x y:α):Type
 |mk:Tag x y
def jv (c:Prop) [Decidable c] (x y:α) (_:Tag x y):α:=if c then x else y
@[simp] theorem aa3 (x y:α) (t:Tag x y):jv True x y t=x:=rfl
@[simp] theorem aa2 (x y:α) (t:Tag x y):jv False x y t=y:=rfl
@[simp] theorem abb (c:Prop) [Decidable c] (x y:Option α) (f:α→Option β):ob (if c then x else y) f=jv c (ob x f) (ob y f) .mk:=by unfold jv;split<;>rfl
@[simp] theorem aba (c:Prop) [Decidable c] (x y:Option α) (t:Tag x y) (f:α→Option β):ob (jv c x y t) f=jv c (ob x f) (ob y f) .mk:=by unfold jv;split<;>rfl
def rJ (c a b:Prop) (_:Tag a b):Prop:=(c→a)∧(¬c→b)
@[simp] theorem Wj (a b:Prop) (t:Tag a b):rJ True a b t=a:=by simp [rJ]
@[simp] theorem Wh (a b:Prop) (t:Tag a b):rJ False a b t=b:=by simp [rJ]
theorem bm {c a b:Prop} {t:Tag a b} (h1:c→a) (h2:¬c→b):rJ c a b t:=⟨h1,h2⟩
def uY (a:AV) (want:Bool) (x y:Option St):Option St:=match a with
 |.v _ (.bool b)=>if b=want then x else y
 |.bu []=>y
 |_=>none
@[simp] theorem aac (k b:Bool) (x y:Option St):uY (.v k (.bool b)) true x y=jv (b=true) x y .mk:=rfl
@[simp] theorem aab (k b:Bool) (x y:Option St):uY (.v k (.bool b)) false x y=jv (b=true) y x .mk:=by cases b<;>rfl
@[simp] theorem aad (want:Bool) (x y:Option St):uY (.bu []) want x y=y:=rfl
def IC (d:Nat) (S:St) (z:AV×Option Rt×Ms):Option St:=match z with
 |(a,none,m)=>some { av:=aB S.av d a,ms:=m }
 |(a,some r,m)=>match m d with
  |(none,_)=>some { av:=aB S.av d a,ms:=aB m d (some r,[]) }
  |_=>none
def ID (S:St) (z:AV×Option Rt×Ms):Option St:=match z with
 |(_,none,m)=>some { av:=S.av,ms:=m }
 |_=>none
def stepG (Γ:Env) (dst:Option Nat) (op:aD) (S:St):Option St:=match dst with
 |some d=>ob (aw Γ S.ev d S.ms op) (IC d S)
 |none=>ob (aw Γ S.ev 0 S.ms op) (ID S)
def IA (dst:Option Nat) (S:St):Option St:=match dst with
 |some d=>some { S with av:=aB S.av d (.bu []) }
 |none=>some S
theorem Ma (Γ:Env) (dst:Option Nat) (op:aD) (S:St):dH Γ ⟨dst,op,none⟩ S=stepG Γ dst op S:=by
 cases dst with
 |some d=>
  show (match aw Γ S.ev d S.ms op with
   |some (a,none,m)=>some { av:=aB S.av d a,ms:=m }
   |some (a,some r,m)=>match m d with
    |(none,_)=>some { av:=aB S.av d a,ms:=aB m d (some r,[]) }
    |_=>none
   |none=>none:Option St)=ob (aw Γ S.ev d S.ms op) (IC d S)
  cases h:aw Γ S.ev d S.ms op with
  |none=>rfl
  |some z=>obtain ⟨a,r,m⟩:=z;cases r<;>rfl
 |none=>
  show (match aw Γ S.ev 0 S.ms op with
   |some (_,none,m)=>some { av:=S.av,ms:=m }
   |_=>none:Option St)=ob (aw Γ S.ev 0 S.ms op) (ID S)
  cases h:aw Γ S.ev 0 S.ms op with
  |none=>rfl
  |some z=>obtain ⟨a,r,m⟩:=z;cases r<;>rfl
theorem UK {Γ:Env} {o:PO} {S:St} (h:gd S o.g=some true):dH Γ o S=stepG Γ o.dst o.op S:=by
 rw [←Ma];unfold dH;rw [h];rfl
theorem L_ {Γ:Env} {o:PO} {S:St} (h:gd S o.g=some false):dH Γ o S=IA o.dst S:=by
 unfold dH;rw [h];rfl
theorem UI {Γ:Env} {o:PO} {S:St} (h:gd S o.g=none):dH Γ o S=none:=by
 unfold dH;rw [h]
theorem UG (Γ:Env) (dst:Option Nat) (op:aD) (t:Nat) (want:Bool) (S:St):dH Γ ⟨dst,op,some (t,want)⟩ S=uY (S.av t) want (stepG Γ dst op S) (IA dst S):=by
 have hg:gd S (some (t,want))=match S.av t with
  |.v _ (.bool b)=>some (b==want)
  |.bu []=>some false
  |_=>none:=rfl
 unfold uY;split
 ·rename_i k b c4;rw [c4] at hg;by_cases hb:b=want
  ·rw [if_pos hb];exact UK (hg.trans (by simp [hb]))
  ·rw [if_neg hb];exact L_ (hg.trans (by simp [hb]))
 ·rename_i c4;rw [c4] at hg;exact L_ hg
 ·rename_i h1 h2;refine UI (hg.trans ?_);split
  ·rename_i k b c4;exact absurd c4 (h1 k b)
  ·rename_i c4;exact absurd c4 h2
  ·rfl
theorem T' (Γ:Env) (o:PO) (os:List PO) (S:St):ez Γ (o::os) S=ob (dH Γ o S) (ez Γ os):=by
 simp only [ez];cases dH Γ o S<;>rfl
theorem Kf (Γ:Env) (o:PO) (os:List PO) (S:St):fD Γ (o::os) S=match dH Γ o S with
 |some S'=>(fq S o,dE S o)::fD Γ os S'
 |none=>[]:=rfl
def mY (live:List Nat) (ai:List (Nat×Nat)):Option St→Out
 |some S=>.norm (settle live ai S)
 |none=>.fail
@[simp] theorem W0 (live ai S):mY live ai (some S)=.norm (settle live ai S):=rfl
@[simp] theorem WZ (live ai):mY live ai none=.fail:=rfl
@[simp] theorem WY (live ai) (c:Prop) [Decidable c] (x y:Option St):mY live ai (if c then x else y)=jv c (mY live ai x) (mY live ai y) .mk:=by unfold jv;split<;>rfl
@[simp] theorem WX (live ai) (c:Prop) [Decidable c] (x y:Option St) (t:Tag x y):mY live ai (jv c x y t)=jv c (mY live ai x) (mY live ai y) .mk:=by unfold jv;split<;>rfl
theorem Ui (Γ:Env) (live ai ops) (L:AL):gU Γ live ai ops none L=mY live ai (ez Γ ops L.st):=by
 simp only [gU,if_true];cases ez Γ ops L.st<;>rfl
theorem Uh (Γ:Env) (live ai ops) (L:AL):gU Γ live ai ops (some []) L=mY live ai (ez Γ ops L.st):=by
 simp only [gU,List.isEmpty_nil,Bool.true_or,if_true];cases ez Γ ops L.st<;>rfl
theorem Ue (Γ:Env) (live ai ops p ps) (L:AL):gU Γ live ai ops (some (p::ps)) L=if ru (fD Γ ops L.st) (p::ps)=true then mY live ai (ez Γ ops L.st) else .fail:=by
 simp only [gU,List.isEmpty_cons,Bool.false_or];cases ez Γ ops L.st<;>split<;>rfl
theorem T7 (Q:Out→Prop) (c:Prop) [Decidable c] (x y:Out):ov Q (if c then x else y)=rJ c (ov Q x) (ov Q y) .mk:=by
 by_cases h:c<;>simp [h]
theorem T6 (Q:Out→Prop) (c:Prop) [Decidable c] (x y:Out) (t:Tag x y):ov Q (jv c x y t)=rJ c (ov Q x) (ov Q y) .mk:=by
 by_cases h:c<;>simp [h,jv]
@[simp] theorem abj (Q:Out→Prop) (L:AL):ov Q (.norm L)=Q (.norm L):=rfl
@[simp] theorem abi (Q:Out→Prop):ov Q .fail=False:=rfl
end
@[simp] theorem abO {α:Type} (f:Nat→α) (n:Nat) (x:α) (k:Nat):aB f n x k=if k=n then x else f k:=rfl
@[simp] theorem abu (L:AL) (n:Nat):L.st.av n=(L.get n).1:=rfl
@[simp] theorem abv (L:AL) (n:Nat):L.st.ms n=((L.get n).2,[]):=rfl
attribute [simp] Ui Uh Ue T' Ma UG T7 T6 IC ID stepG IA
 aw ep imp sS mA kt rq IM V.flat C.dn AL.get St.ev gT mF AV.cells settle eZ eK er BM pY qL fixC pe
 AV.asBool AV.asInt jx finish uy uA gS ux A7 eo eX pk mW tr p9 Ms.bM qo D.bC Ms.eY rZ Ms.at Ms.cell Rt.cells D.ff D.put Rt.gB Ms.putAt qB kR qq C.oA ic
 mC lC C.bC dP ji kF kG AV.lent AV.xl ek V.plain V.ry V.bp V.p8 C.bp C.bg jG Ms.take yl pq mB V.mQ kQ uO cut pf mX chunks rz qA AV.kL AV.xk AV.oq V.uv C.gz o8 tO nU List.contains_eq_mem p7 rB
attribute [simp] ez.eq_1
end
section
section
variable {P:Program} {H:Type} {enc:TypeId×Value→H} {w w':World}
inductive ck (P:Program):TypeId→List D→Prop
 |int {t:TypeId} {k:IntKind} {n:Int}:P.underlying t=some (.int k)→(Lit.int k n).wf=true→ck P t [.int k n]
 |bool {t:TypeId} {b:Bool}:P.underlying t=some .bool→ck P t [.bool b]
 |str {t:TypeId} {s:ByteArray}:P.underlying t=some .string→s.size≤maxLen→ck P t [.str s]
 |sl {t e:TypeId} {es:List (List D)}:P.underlying t=some (.slice e)→es.length≤maxLen→(∀x∈es,ck P e x)→ck P t [.sl (P.cellsOf e) es]
 |struct {t:TypeId} {fs:Array Field} {ds:List D}:P.underlying t=some (.struct fs)→ds.length=P.cellsOf t→
   (∀f∈fs.toList,ck P f.type ((ds.drop f.offset).take (P.cellsOf f.type)))→ck P t ds
def yk (P:Program) (n:Nat):Nat→List Field→Bool
 |o,[]=>o==n
 |o,f::fs=>f.offset==o&&yk P n (o+P.cellsOf f.type) fs
def Ip (P:Program) (S:List TypeId) (t:TypeId):Bool:=
 match P.underlying t with
 |some .bool|some (.int _)|some .string=>P.cellsOf t==1
 |some (.slice e)=>S.contains e&&decide (0<P.cellsOf e)&&P.cellsOf t==1
 |some (.struct fs)=>(fs.toList.all fun f=>S.contains f.type)&&yk P (P.cellsOf t) 0 fs.toList
 |_=>false
def yF (P:Program) (S:List TypeId):Bool:=S.all (Ip P S)
def yr (w:World) (cl:Nat→cM) (ds:List D) (vs:List Value):Prop:=∀(i:Nat) (d:D) (v:Value),ds[i]?=some d→vs[i]?=some v→RO w cl false d v
theorem Sz {α:Type} {R:Nat→α→Prop}:∀(n:Nat),(∀i,i<n→∃x,R i x)→∃l:List α,l.length=n∧∀(i:Nat) (x:α),l[i]?=some x→R i x:=by
 intro n;induction n with
 |zero=>intro _;exact ⟨[],rfl,fun i x h=>by simp at h⟩
 |succ n ih=>
  intro h;obtain ⟨l,h1,h2⟩:=ih fun i hi=>h i (by omega)
  obtain ⟨x,hx⟩:=h n (by omega);refine ⟨l++[x],by simp [h1],fun i y hy=>?_⟩;by_cases hi:i<l.length
  ·rw [zH hi] at hy;exact h2 i y hy
  ·rw [zF (by omega)] at hy
   have:i-l.length=0:=by
    cases hk:i-l.length with
    |zero=>rfl
    |succ k=>rw [hk] at hy;simp at hy
   rw [this] at hy;simp at hy;subst hy;have:i=n:=by omega
   subst this;exact hx
theorem Vc {cl:Nat→cM} {cs:List Value} {n:Nat}:∀(fs:List Field) (o:Nat),yk P n o fs=true→
 (∀f∈fs,∃df,ck P f.type df∧df.length=P.cellsOf f.type∧yr w cl df ((cs.drop f.offset).take (P.cellsOf f.type)))→
 ∃ds,o+ds.length=n∧(∀f∈fs,o≤f.offset∧ck P f.type ((ds.drop (f.offset-o)).take (P.cellsOf f.type)))∧yr w cl ds (cs.drop o):=by
 intro fs;induction fs with
 |nil=>
  intro o h _;simp only [yk,beq_iff_eq] at h;exact ⟨[],by simpa using h,fun f hf=>by simp at hf,fun i d v hd=>by simp at hd⟩
 |cons f fs ih=>
  intro o h hf;simp only [yk,za,beq_iff_eq] at h;obtain ⟨rfl,h⟩:=h;obtain ⟨ds,h1,h2,h3⟩:=ih _ h fun g hg=>hf g (by simp [hg])
  obtain ⟨df,h4,h5,h6⟩:=hf f (by simp);refine ⟨df++ds,by simp;omega,fun g hg=>?_,fun i d v hd hv=>?_⟩
  ·rcases zi.1 hg with rfl|hg
   ·refine ⟨zk _,?_⟩;rw [Nat.sub_self,List.drop_zero,←h5,List.take_append_of_le_length (zk _),List.take_length];exact h4
   ·obtain ⟨q1,q2⟩:=h2 g hg;refine ⟨by omega,?_⟩;rw [List.drop_append,List.drop_eq_nil_of_le (by omega),List.nil_append,show g.offset-f.offset-df.length=g.offset-(f.offset+P.cellsOf f.type) from by omega];exact q2
  ·by_cases hi:i<df.length
   ·rw [zH hi] at hd;refine h6 i d v hd ?_;rw [List.getElem?_take,if_pos (by omega)];exact hv
   ·rw [zF (by omega)] at hd;refine h3 (i-df.length) d v hd ?_;rw [List.getElem?_drop] at hv ⊢;rw [show f.offset+P.cellsOf f.type+(i-df.length)=f.offset+i from by omega];exact hv
theorem cells?_some {base:Nat} {a:Addr} {n:Nat} {cs:List Value} (h:w.cells? base a n=some cs):cs.length=n∧∀i,i<n→∃v,cs[i]?=some v∧w.cell? (a.add i)=some v:=by
 unfold World.cells? at h;split at h
 ·have h1:=mapM_some_length h;refine ⟨by simpa using h1,fun i hi=>?_⟩;have h2:=mapM_some_get h i i (by simp [hi]);rw [List.length_range] at h1;have h4:i<cs.length:=by omega
  have h3:cs[i]?=some cs[i]:=by simp [h4]
  exact ⟨_,h3,h2.trans h3⟩
 ·cases h
theorem xp {cl:Nat→cM} {d:D} {v:Value} (h:RO w cl false d v):yr w cl [d] [v]:=by
 intro i d' v' hd hv;cases i<;>simp at hd hv;subst hd;subst hv;exact h
theorem Vh {S:List TypeId} (hS:yF P S=true) {cl:Nat→cM} (bA:∀b,b<w.heap.size→cl b=.iH):∀(fuel:Nat) (t:TypeId) (cs:List Value) (held:Bool) (x:DataW H×List MemPlace),t∈S→
 DataW.trod enc P w 0 (fun _=>true) held fuel t cs=some x→∃ds,ck P t ds∧ds.length=cs.length∧cs.length=P.cellsOf t∧yr w cl ds cs:=by
 intro fuel;induction fuel with
 |zero=>intro t cs held x _ h;simp [DataW.trod] at h
 |succ fuel ih=>
  intro t cs held x ht h;have hp:=zb.1 hS t ht;unfold Ip at hp;split at hp
  ·rename_i hu;obtain ⟨b,rfl,_⟩:=DataW.trod_bool hu h;exact ⟨[.bool b],.bool hu,rfl,by simpa using (beq_iff_eq.1 hp).symm,xp (.bool _)⟩
  ·rename_i k hu;obtain ⟨n,rfl,_,hw⟩:=DataW.trod_int hu h;exact ⟨[.int k n],.int hu hw,rfl,by simpa using (beq_iff_eq.1 hp).symm,xp (.int _ _)⟩
  ·rename_i hu;obtain ⟨s,rfl,_,hs⟩:=DataW.trod_string hu h;exact ⟨[.str s],.str hu hs,rfl,by simpa using (beq_iff_eq.1 hp).symm,xp (.str _)⟩
  ·rename_i e hu;simp only [za,beq_iff_eq,decide_eq_true_eq,zn] at hp;obtain ⟨⟨he,dg⟩,hp⟩:=hp;rcases DataW.trod_slice hu h with ⟨rfl,_⟩|⟨a,len,cap,elems,rest,n,hn,rfl,_,u0,hle,cf,hlen,jo,_,_⟩
   ·exact ⟨[.sl (P.cellsOf e) []],.sl hu (by simp) (by simp),rfl,by simpa using hp.symm,xp (.emp _ _ _)⟩
   ·cases hn
    have o4:∀i,i<len→∃ds,ck P e ds∧ds.length=P.cellsOf e∧∀j,j<P.cellsOf e→∃v d,w.cell? ((a.add (i*P.cellsOf e)).add j)=some v∧ds[j]?=some d∧RO w cl false d v:=by
     intro i hi;have h2:=jo i hi;have Ov:elems[i]?=some elems[i]:=by simp [show i<elems.length from by omega]
     rw [Ov] at h2;simp only [Option.bind_eq_some_iff] at h2;obtain ⟨NM,h3,h4⟩:=h2;obtain ⟨h5,h6⟩:=cells?_some h3;obtain ⟨ds,h7,h8,h9,Ce⟩:=ih e NM held _ he h4;refine ⟨ds,h7,h8.trans h5,fun j hj=>?_⟩;obtain ⟨v,Ou,r8⟩:=h6 j hj;have hd:ds[j]?=some ds[j]:=by simp [show j<ds.length from by omega]
     exact ⟨v,_,r8,hd,Ce j _ v hd Ou⟩
    obtain ⟨es,oX,hR⟩:=Sz len o4
    have sj:∀y∈es,ck P e y∧y.length=P.cellsOf e:=fun y hy=>by
     obtain ⟨i,hi,rfl⟩:=zO.1 hy;obtain ⟨h1,h2,_⟩:=hR i es[i] (by simp [hi]);exact ⟨h1,h2⟩
    refine ⟨[.sl (P.cellsOf e) es],.sl hu (by omega) (fun y hy=>(sj y hy).1),rfl,by simpa using hp.symm,xp ?_⟩;rcases Nat.eq_zero_or_pos len with h0|h0
    ·have Ot:es=[]:=List.length_eq_zero_iff.1 (oX.trans h0);subst Ot;subst h0;exact .emp _ _ _
    ·obtain ⟨b,off,spot⟩:=a
     have Cp:spot=none∧b<w.heap.size:=by
      obtain ⟨_,_,h3⟩:=hR 0 es[0] (by simp);obtain ⟨v,d,h4,_⟩:=h3 0 dg;simp only [World.cell?,Addr.add,Nat.zero_mul,if_true] at h4;split at h4
      ·rename_i c1 t1 f1 hb;split at h4
       ·cases h4
       ·rename_i sL;exact ⟨by simpa using sL,(zE.1 hb).1⟩
      ·cases h4
     obtain ⟨rfl,hb⟩:=Cp;rw [←oX]
     have KB:∀i j,((⟨b,off,none⟩:Addr).add (i*P.cellsOf e)).add j=⟨b,off+i*P.cellsOf e+j,none⟩:=fun i j=>by
      simp only [Addr.add];split<;>split<;>simp_all
     refine .sl _ _ _ _ _ (bA b hb) (fun y hy=>(sj y hy).2) (by omega) (fun i j hi hj=>?_) (fun i j y d v hy hd hv=>?_)
     ·obtain ⟨_,_,h3⟩:=hR i es[i] (by simp [hi]);obtain ⟨v,d,h4,_⟩:=h3 j hj;rw [KB] at h4;simp [h4]
     ·obtain ⟨_,h2,h3⟩:=hR i y hy;have hj:=(List.getElem?_eq_some_iff.1 hd).1;obtain ⟨v',d',h4,h5,h6⟩:=h3 j (by omega);rw [KB,hv] at h4;rw [hd] at h5;cases h4;cases h5;exact h6
  ·rename_i fs hu;simp only [za] at hp;obtain ⟨gF,Rl⟩:=hp;obtain ⟨xs,n,hn,_,hlen,sO,hx⟩:=DataW.trod_struct hu h;cases hn
   obtain ⟨ds,h1,h2,h3⟩:=Vc (w:=w) (cl:=cl) (cs:=cs) fs.toList 0 Rl (fun f hf=>by
    obtain ⟨i,hi,rfl⟩:=zO.1 hf;have fu:i<fs.size:=by simpa using hi
    have h4:=hx i fs.toList[i] (by simp [fu]);have h5:xs[i]?=some xs[i]:=by simp [show i<xs.length from by omega]
    rw [h5] at h4;have h6:=zb.1 gF _ hf;obtain ⟨df,h7,h8,h9,Ce⟩:=ih _ _ held _ (by simpa using h6) h4
    exact ⟨df,h7,h8.trans h9,Ce⟩)
   refine ⟨ds,.struct hu (by omega) (fun f hf=>by have:=(h2 f hf).2;rwa [zI] at this),by omega,hlen,by simpa using h3⟩
  ·cases hp
end
end
section
open Go.ChangeShapes Go.RowKit
section
variable {P:Program} {H:Type} {enc:TypeId×Value→H} {W:World}
def iM (P:Program) (t:TypeId) (x:V):Prop:=∃ds,ck P t ds∧match P.underlying t with
 |some (.struct _)=>x=.st (ds.map (.ro false))
 |_=>∃d,ds=[d]∧x=.one (.ro false d)
inductive kV (P:Program):List TypeId→List V→Prop
 |nil:kV P [] []
 |cons {t ts x xs}:iM P t x→kV P ts xs→kV P (t::ts) (x::xs)
def rn (W:World):Gh:={ cl:=fun b=>if b<W.heap.size then .iH else .no,hd:=fun _ _ _=>.nilIface,bk:=fun _=>0 }
theorem T9 (ds:List D):(ds.map (C.ro false)).any C.dn=false:=by simp [C.dn]
theorem M9 {S:List TypeId} (hS:yF P S=true) {t:TypeId} (ht:t∈S) {v:Value} {d:DataW H} {ps:List MemPlace} {r:Reach} {base:Nat} (i:Nat) (hv:Value.okWide P W r base t v)
 (h:DataW.Trod enc P W 0 (fun _=>true) true t v d ps):∃x,iM P t x∧jh W (rn W) i x v:=by
 obtain ⟨fuel,h⟩:=h;obtain ⟨ds,h1,h2,h3,h4⟩:=Vh (cl:=(rn W).cl) hS (fun b hb=>by simp [rn,hb]) fuel t v.cells.toList true _ ht h;have hp:=zb.1 hS t ht;unfold Ip at hp;unfold Value.okWide at hv
 have one:(∀fs,P.underlying t≠some (.struct fs))→v.cells=#[v]→P.cellsOf t=1→∃x,iM P t x∧jh W (rn W) i x v:=by
  intro hn hc h5;rw [h3,h5] at h2
  match ds,h2 with
  |[dd],_=>
   refine ⟨.one (.ro false dd),⟨[dd],h1,?_⟩,⟨.ro _ _ _ (h4 0 dd v rfl (by rw [hc];rfl)),hc⟩,fun h=>by simp [V.flat,C.dn] at h⟩;split
   ·rename_i fs hu;exact absurd hu (hn fs)
   ·exact ⟨dd,rfl,rfl⟩
 split at hp
 ·rename_i hu;refine one (fun fs e=>by rw [hu] at e;cases e) ?_ (by simpa using hp);rw [hu] at hv;simp only [Cell.okWide,hu] at hv;cases v<;>simp [Cell.ok,hu] at hv<;>rfl
 ·rename_i k hu;refine one (fun fs e=>by rw [hu] at e;cases e) ?_ (by simpa using hp);rw [hu] at hv;simp only [Cell.okWide,hu] at hv;cases v<;>simp [Cell.ok,hu] at hv<;>rfl
 ·rename_i hu;refine one (fun fs e=>by rw [hu] at e;cases e) ?_ (by simpa using hp);rw [hu] at hv;simp only [Cell.okWide,hu] at hv;cases v<;>simp [Cell.ok,hu] at hv<;>rfl
 ·rename_i e hu;simp only [za,beq_iff_eq] at hp;refine one (fun fs e=>by rw [hu] at e;cases e) ?_ hp.2;rw [hu] at hv;simp only [Cell.okWide,hu] at hv;cases v<;>simp [Cell.ok,hu] at hv<;>rfl
 ·rename_i fs hu;rw [hu] at hv;obtain ⟨cs,rfl,_⟩:=hv;refine ⟨.st (ds.map (.ro false)),⟨ds,h1,by rw [hu]⟩,⟨cs,rfl,by rw [List.length_map];exact h2,fun k c x hc hx=>?_⟩,fun h=>by simp only [V.flat] at h;rw [T9] at h;cases h⟩;rw [zR] at hc;cases hd:ds[k]? with
  |none=>rw [hd] at hc;cases hc
  |some dd=>
   rw [hd] at hc;simp at hc;subst hc;exact .ro _ _ _ (h4 k dd x hd hx)
 ·cases hp
theorem M_ {S:List TypeId} (hS:yF P S=true):∀(ts:List TypeId) (vs:List Value) (ds:List (DataW H)) (ps:List MemPlace) (n:Nat),(∀t∈ts,t∈S)→
 (∀(j:Nat) (t:TypeId) (v:Value),ts[j]?=some t→vs[j]?=some v→∃r base,Value.okWide P W r base t v)→
 DataW.TrodAll enc P W 0 (fun _=>true) true ts vs ds ps→∃xs,kV P ts xs∧vs.length=xs.length∧∀(i:Nat) (x:V) (v:Value),xs[i]?=some x→vs[i]?=some v→jh W (rn W) (n+i) x v:=by
 intro ts;induction ts with
 |nil=>
  intro vs ds ps n _ _ h;obtain ⟨rfl,_,_⟩:=trodAll_nil h;exact ⟨[],.nil,rfl,fun i x v hx=>by simp at hx⟩
 |cons t ts ih=>
  intro vs ds ps n uo hv h;obtain ⟨v,Bl,d,r5,p,q,rfl,rfl,rfl,h1,h2⟩:=trodAll_cons h;obtain ⟨r,base,aQ⟩:=hv 0 t v rfl rfl;obtain ⟨x,h3,h4⟩:=M9 hS (uo t (by simp)) n aQ h1;obtain ⟨xs,h5,h6,h7⟩:=ih Bl r5 q (n+1) (fun t ht=>uo t (by simp [ht])) (fun j t v h1 h2=>hv (j+1) t v (by simpa using h1) (by simpa using h2)) h2;refine ⟨x::xs,.cons h3 h5,by simp [h6],fun i y u hy hu=>?_⟩;cases i with
  |zero=>simp at hy hu;subst hy;subst hu;exact h4
  |succ i=>
   have:=h7 i y u (by simpa using hy) (by simpa using hu);rwa [show n+(i+1)=n+1+i from by omega]
theorem M' (hl:laidOutB P=true):∀(ts:List TypeId) (vs:List Value) (ds:List (DataW H)) (ps:List MemPlace) {W':World} {sp:Nat→Bool},
 (∀t∈ts,P.readableRec t=true∧t<P.types.size)→(∀p∈ps,W.sameAt W' p)→(∀p∈ps,sp p.block=true)→
 DataW.TrodAll enc P W 0 (fun _=>true) true ts vs ds ps→DataW.TrodAll enc P W' 0 sp true ts vs ds ps:=by
 intro ts;induction ts with
 |nil=>
  intro vs ds ps W' sp _ _ _ h;obtain ⟨rfl,rfl,rfl⟩:=trodAll_nil h;exact trodAll_mk0
 |cons t ts ih=>
  intro vs ds ps W' sp uo hs sL h;obtain ⟨v,Bl,d,r5,p,q,rfl,rfl,rfl,h1,h2⟩:=trodAll_cons h
  exact trodAll_cons_mk (WideElems.Trod_stays hl (uo t (by simp)).1 (uo t (by simp)).2 h1 (fun p hp=>hs p (by simp [hp])) (fun p hp=>sL p (by simp [hp])))
   (ih Bl r5 q (fun t ht=>uo t (by simp [ht])) (fun p hp=>hs p (by simp [hp])) (fun p hp=>sL p (by simp [hp])) h2)
theorem Ur {W':World} (h:∀b,b<W.heap.size→W'.heap[b]?=W.heap[b]?) {p:MemPlace} (hp:p.block<W.heap.size):W.sameAt W' p:=by
 cases p with
 |cell b o=>simp only [World.sameAt,World.cell?];rw [h b hp]
 |map b=>exact h b hp
theorem Sl {S:List TypeId} (hS:yF P S=true) (hl:laidOutB P=true) {f:FuncId} {fn:Func} {s:ChangeSpec} {args:Array Value} {ds gs:List (DataW H)} {before:List MemPlace} {tb:TypeId}
 (Q7:(fn.params.toList.all fun t=>S.contains t&&P.readableRec t&&decide (t<P.types.size))=true)
 (aP:∀xs,kV P fn.params.toList xs→OK P f xs (.one (.ro false (.bool true))) [])
 (uq:∀(j:Nat) t v,fn.params[j]?=some t→args[j]?=some v→∃r base,Value.okWide P W r base t v)
 (hW:DataW.Whole enc P fn.params.toList s.vars false W args.toList ds gs before) (Lp:s.vars=[]) (rk:fn.resultTypes=#[tb]) (Rk:P.underlying tb=some .bool)
 (hs:ds.length=fn.params.toList.length→(s.fn H ds).results=[.lit (.bool true)]∧(s.fn H ds).args=ds∧(s.fn H ds).vars=[]):
 Calls P f args W fun e W'=>∃v,e=.returned v∧s.post enc P fn false true false false W args v W':=by
 have Cg:=hW;obtain ⟨p,q,hA,hV,rfl,hfz,hnd⟩:=hW;rw [Lp] at hV;obtain ⟨rfl,rfl⟩:=trodVars_none hV;rw [zB] at Cg
 have K':∀t∈fn.params.toList,t∈S∧P.readableRec t=true∧t<P.types.size:=fun t ht=>by
  have:=zb.1 Q7 t ht;simp only [za,zn,decide_eq_true_eq] at this;exact ⟨this.1.1,this.1.2,this.2⟩
 obtain ⟨xs,h1,h2,h3⟩:=M_ hS fn.params.toList args.toList ds p 0 (fun t ht=>(K' t ht).1)
  (fun j t v h1 h2=>uq j t v (by simpa using h1) (by simpa using h2)) hA
 have hlen:ds.length=fn.params.toList.length:=by
  have:∀(ts:List TypeId) (vs:List Value) (ds:List (DataW H)) (ps:List MemPlace),DataW.TrodAll enc P W 0 (fun _=>true) true ts vs ds ps→ds.length=ts.length:=by
   intro ts;induction ts with
   |nil=>intro vs ds ps h;obtain ⟨_,rfl,_⟩:=trodAll_nil h;rfl
   |cons t ts ih=>intro vs ds ps h;obtain ⟨v,Bl,d,r5,p,q,_,rfl,_,_,h2⟩:=trodAll_cons h;simp [ih _ _ _ h2]
  exact this _ _ _ _ hA
 obtain ⟨e1,e2,e3⟩:=hs hlen;refine (aP xs h1 W args (rn W) (by simpa using h2) (fun b hb=>?_) (fun i x v hx hv=>?_)).mono fun e W' he=>?_
 ·simp only [rn,ne_eq] at hb;by_cases h:b<W.heap.size
  ·exact h
  ·simp [h] at hb
 ·have:=h3 i x v hx (by simpa using hv);rwa [zA] at this
 ·obtain ⟨v,g',rfl,hr,hL⟩:=he
  have hv:v=.bool true:=by
   obtain ⟨h5,_⟩:=hr;cases h5 with
   |ro _ _ _ h6=>cases h6;rfl
  subst hv;have hb:∀b,b<W.heap.size→W'.heap[b]?=W.heap[b]?:=fun b hb=>hL.fr b hb (by simp [rn,hb,cM.bS])
  have KK:∀pp∈p,pp.block<W.heap.size:=fun pp hp=>Cg.lt pp hp
  refine ⟨_,rfl,ds,[],p,[],p,[],Cg,?_,?_,?_,?_,fun h=>by cases h⟩
  ·rw [rk,zB,e1];exact trodAll_cons_mk (shut_bool Rk _) trodAll_mk0
  ·rw [zB,e2];exact M' hl _ _ _ _ (fun t ht=>(K' t ht).2) (fun pp hp=>Ur hb (KK pp hp)) (fun pp hp=>by simpa using KK pp hp) hA
  ·rw [Lp,zB,e3];rfl
  ·refine ⟨hL.sd.os,hL.sd.out,fun i hi=>?_⟩;rw [hb i hi];split<;>simp_all
theorem ck.cC {t:TypeId} {k:IntKind} {ds:List D} (hu:P.underlying t=some (.int k)) (h:ck P t ds):∃n,ds=[.int k n]∧(Lit.int k n).wf=true:=by
 cases h with
 |int h1 h2=>rw [hu] at h1;cases h1;exact ⟨_,rfl,h2⟩
 |bool h1=>rw [hu] at h1;cases h1
 |str h1=>rw [hu] at h1;cases h1
 |sl h1=>rw [hu] at h1;cases h1
 |struct h1=>rw [hu] at h1;cases h1
theorem ck.BN {t:TypeId} {ds:List D} (hu:P.underlying t=some .bool) (h:ck P t ds):∃b,ds=[.bool b]:=by
 cases h with
 |int h1=>rw [hu] at h1;cases h1
 |bool h1=>exact ⟨_,rfl⟩
 |str h1=>rw [hu] at h1;cases h1
 |sl h1=>rw [hu] at h1;cases h1
 |struct h1=>rw [hu] at h1;cases h1
theorem ck.Mi {t:TypeId} {ds:List D} (hu:P.underlying t=some .string) (h:ck P t ds):∃s,ds=[.str s]∧s.size≤maxLen:=by
 cases h with
 |int h1=>rw [hu] at h1;cases h1
 |bool h1=>rw [hu] at h1;cases h1
 |str h1 h2=>exact ⟨_,rfl,h2⟩
 |sl h1=>rw [hu] at h1;cases h1
 |struct h1=>rw [hu] at h1;cases h1
theorem ck.gV {t e:TypeId} {ds:List D} (hu:P.underlying t=some (.slice e)) (h:ck P t ds):∃es,ds=[.sl (P.cellsOf e) es]∧es.length≤maxLen∧∀x∈es,ck P e x:=by
 cases h with
 |int h1=>rw [hu] at h1;cases h1
 |bool h1=>rw [hu] at h1;cases h1
 |str h1=>rw [hu] at h1;cases h1
 |sl h1 h2 h3=>rw [hu] at h1;cases h1;exact ⟨_,rfl,h2,h3⟩
 |struct h1=>rw [hu] at h1;cases h1
theorem ck.UP {t:TypeId} {fs:Array Field} {ds:List D} (hu:P.underlying t=some (.struct fs)) (h:ck P t ds):
 ds.length=P.cellsOf t∧∀f∈fs.toList,ck P f.type ((ds.drop f.offset).take (P.cellsOf f.type)):=by
 cases h with
 |int h1=>rw [hu] at h1;cases h1
 |bool h1=>rw [hu] at h1;cases h1
 |str h1=>rw [hu] at h1;cases h1
 |sl h1=>rw [hu] at h1;cases h1
 |struct h1 h2 h3=>rw [hu] at h1;cases h1;exact ⟨h2,h3⟩
theorem iM.int {t:TypeId} {k:IntKind} {x:V} (hu:P.underlying t=some (.int k)) (h:iM P t x):∃n,x=.one (.ro false (.int k n))∧(Lit.int k n).wf=true:=by
 obtain ⟨ds,h1,h2⟩:=h;obtain ⟨n,rfl,h3⟩:=h1.cC hu;rw [hu] at h2;obtain ⟨d,e,rfl⟩:=h2;cases e;exact ⟨n,rfl,h3⟩
theorem iM.bool {t:TypeId} {x:V} (hu:P.underlying t=some .bool) (h:iM P t x):∃b,x=.one (.ro false (.bool b)):=by
 obtain ⟨ds,h1,h2⟩:=h;obtain ⟨n,rfl⟩:=h1.BN hu;rw [hu] at h2;obtain ⟨d,e,rfl⟩:=h2;cases e;exact ⟨n,rfl⟩
theorem iM.str {t:TypeId} {x:V} (hu:P.underlying t=some .string) (h:iM P t x):∃s,x=.one (.ro false (.str s))∧s.size≤maxLen:=by
 obtain ⟨ds,h1,h2⟩:=h;obtain ⟨n,rfl,h3⟩:=h1.Mi hu;rw [hu] at h2;obtain ⟨d,e,rfl⟩:=h2;cases e;exact ⟨n,rfl,h3⟩
theorem iM.sl {t e:TypeId} {x:V} (hu:P.underlying t=some (.slice e)) (h:iM P t x):∃es,x=.one (.ro false (.sl (P.cellsOf e) es))∧es.length≤maxLen∧∀y∈es,ck P e y:=by
 obtain ⟨ds,h1,h2⟩:=h;obtain ⟨es,rfl,h3⟩:=h1.gV hu;rw [hu] at h2;obtain ⟨d,e,rfl⟩:=h2;cases e;exact ⟨es,rfl,h3⟩
theorem iM.struct {t:TypeId} {fs:Array Field} {x:V} (hu:P.underlying t=some (.struct fs)) (h:iM P t x):∃ds,x=.st (ds.map (.ro false))∧ck P t ds:=by
 obtain ⟨ds,h1,h2⟩:=h;rw [hu] at h2;exact ⟨ds,h2,h1⟩
def isStr (P:Program) (t:TypeId):Bool:=match P.underlying t with
 |some (.struct _)=>true
 |_=>false
theorem iM.UO {t:TypeId} {x:V} (hu:isStr P t=true) (h:iM P t x):∃ds,x=.st (ds.map (.ro false))∧ck P t ds:=by
 unfold isStr at hu;split at hu
 ·rename_i fs hf;exact h.struct hf
 ·cases hu
def fieldsOf (P:Program) (t:TypeId):Option (List (Nat×Nat×Nat)):=match P.underlying t with
 |some (.struct fs)=>some (fs.toList.map fun f=>(f.type,f.offset,P.cellsOf f.type))
 |_=>none
theorem ck.fields {t n:Nat} {ds:List D} {l:List (Nat×Nat×Nat)} (h:ck P t ds) (hf:fieldsOf P t=some l) (hc:P.cellsOf t=n):
 ds.length=n∧∀x∈l,ck P x.1 ((ds.drop x.2.1).take x.2.2):=by
 unfold fieldsOf at hf;split at hf
 ·rename_i fs hu;simp at hf;subst hf;obtain ⟨h1,h2⟩:=h.UP hu;refine ⟨h1.trans hc,fun x hx=>?_⟩;obtain ⟨f,hf,rfl⟩:=ze.1 hx;exact h2 f hf
 ·cases hf
theorem hU {α:Type} {f:α→List D} {ok:α→Prop}:∀{es:List (List D)},(∀x∈es,∃y,x=f y∧ok y)→∃l:List α,es=l.map f∧l.length=es.length∧∀y∈l,ok y:=by
 intro es;induction es with
 |nil=>intro _;exact ⟨[],rfl,rfl,fun y hy=>by simp at hy⟩
 |cons x es ih=>
  intro h;obtain ⟨y,rfl,hy⟩:=h x (by simp);obtain ⟨l,rfl,h2,h3⟩:=ih fun z hz=>h z (by simp [hz])
  refine ⟨y::l,rfl,by simp,fun z hz=>?_⟩;rcases zi.1 hz with rfl|hz
  ·exact hy
  ·exact h3 z hz
theorem aa_:maxLen=9223372036854775807:=rfl
theorem wf_i64 {n:Int} (h:(Lit.int .i64 n).wf=true):-9223372036854775808≤n∧n≤9223372036854775807:=by
 simpa [Lit.wf,IntKind.min,IntKind.max,IntKind.signed,IntKind.bits] using h
theorem wf_u8 {n:Int} (h:(Lit.int .u8 n).wf=true):0≤n∧n≤255:=by
 simpa [Lit.wf,IntKind.min,IntKind.max,IntKind.signed,IntKind.bits] using h
theorem kV.one {t:TypeId} {xs:List V} (h:kV P [t] xs):∃x,xs=[x]∧iM P t x:=by
 cases h with|cons h1 h2=>cases h2;exact ⟨_,rfl,h1⟩
theorem kV.cons_inv {t:TypeId} {ts:List TypeId} {xs:List V} (h:kV P (t::ts) xs):∃x o9,xs=x::o9∧iM P t x∧kV P ts o9:=by
 cases h with|cons h1 h2=>exact ⟨_,_,rfl,h1,h2⟩
theorem kV.SX {xs:List V} (h:kV P [] xs):xs=[]:=by cases h;rfl
end
end
end Go.Proofs.YtohlfelngklcfaaGreat.OM
