/- A part of the proof. -/
import Derived.Test.YtohlfelngklcfaaGreatXFLm2
import Derived.Test.YtohlfelngklcfaaGreatF3
import Derived.Shelf.SlSortCmp.NoneTotal
set_option linter.all false
namespace Go.Proofs.YtohlfelngklcfaaGreat.OM
open _root_.Array renaming getElem?_eq_getElem→za,getElem?_eq_none→zh
open Option.some renaming injEq→zb
open List renaming getElem?_eq_some_iff→zd,mem_map→ze,getElem?_eq_getElem→zf,getElem?_cons_zero→zg,mem_singleton→zj,getElem?_map→zk,length_map→zo
open Prod.mk renaming injEq→zi
open Bool renaming and_eq_true→zm
open List.cons renaming injEq→zn
set_option maxHeartbeats 4000000
open Go.Proofs Go.Shelf Go.RowKit Go.Lib Go.Sort
theorem D':Go.Sort.SWO dy:=by
 refine ⟨yi,fun x y z h1 h2=>vF h1 h2,fun x y z h1 h2=>?_⟩;cases hh:dy x z with
 |false=>rfl
 |true=>
  cases h3:dy y x with
  |true=>rw [vF h3 hh] at h2;cases h2
  |false=>
   have:=tq h1 h3;subst this;rw [hh] at h2;cases h2
def hZ (v:aa):List Value:=[.int .i64 v.Ty,.int .i64 v.N,.string v.S]
theorem KZ (v:aa):(hZ v).length=3:=rfl
theorem Qp (v:aa):∀x∈hZ v,x.oneCell'=true:=fun x hx=>by
 simp only [hZ,List.mem_cons,List.not_mem_nil,or_false] at hx;rcases hx with rfl|rfl|rfl<;>rfl
theorem Qn (v:aa) {c:Nat} {d:D} {x:Value} (hd:v.e[c]?=some d) (hx:(hZ v)[c]?=some x) (w:World) (g:Gh) (r j:Nat) (p:aY):OW w g r j p d x:=by
 match c,hd,hx with
 |0,hd,hx=>simp at hd;simp [hZ] at hx;subst hd;subst hx;exact .int _ _ _
 |1,hd,hx=>simp at hd;simp [hZ] at hx;subst hd;subst hx;exact .int _ _ _
 |2,hd,hx=>simp at hd;simp [hZ] at hx;subst hd;subst hx;exact .str _ _
 |c+3,hd,hx=>simp at hd
theorem Qo {v:aa} {c:Nat} {d:D} {x:Value} {w:World} {g:Gh} {r j:Nat} {p:aY} (hd:v.e[c]?=some d) (h:OW w g r j p d x):(hZ v)[c]?=some x:=by
 match c,hd with
 |0,hd=>simp at hd;subst hd;cases h;rfl
 |1,hd=>simp at hd;subst hd;cases h;rfl
 |2,hd=>simp at hd;subst hd;cases h;rfl
 |c+3,hd=>simp at hd
theorem OP:∀{es:List (List D)},es.all JA=true→∃l:List aa,es=l.map aa.e
 |[],_=>⟨[],rfl⟩
 |e::es,h=>by
  simp only [List.all_cons,zm] at h;obtain ⟨l,rfl⟩:=OP h.2
  match e,h.1 with
  |[.int .i64 t,.int .i64 n,.str s],_=>exact ⟨⟨t,n,s⟩::l,rfl⟩
theorem T3 {α:Type} (f:α→aa):(ltOf fun x y:α=>ov (f x) (f y))=fun x y=>dy (f x) (f y):=by
 have key:∀a b:aa,decide (ov a b<0)=dy a b:=fun a b=>by
  unfold ov;cases dy a b with
  |true=>simp
  |false=>simp;split<;>simp
 funext x y;exact key _ _
theorem V6 {xs:List V} {es:List (List D)} {k:Bool} {gk:Nat} (h:dM 0 xs=[(0,.pl 0 0 [],some (.an [.own (.sl 3 es)])),(1,.v k (.fn gk []),none)]):xs=[.one (.own (.sl 3 es)),.one (.ro k (.fn gk []))]:=by
 match xs,h with
 |[],h=>simp [dM] at h
 |[x],h=>simp [dM] at h
 |x::y::z::t,h=>simp [dM] at h
 |[x,y],h=>
  simp only [dM,zn,zi,and_true,true_and] at h;obtain ⟨⟨h1,h2⟩,h3,h4⟩:=h
  have hx:x=.one (.own (.sl 3 es)):=by
   cases x with
   |one c=>
    have h5:sC [c]=some (.an [.own (.sl 3 es)]):=h2;unfold sC at h5;split at h5
    ·simp only [zb,Rt.an.injEq,zn,and_true] at h5;rw [h5]
    ·cases h5
   |st cs=>simp [imp,oZ] at h1
   |a_ xs=>simp [imp] at h1
   |ptr cs=>simp [imp] at h1
  have hy:y=.one (.ro k (.fn gk [])):=by
   cases y with
   |one c=>
    have h6:iI 1 0 c=.v k (.fn gk []):=h3;have h7:sC [c]=none:=h4;unfold sC at h7;cases c with
    |ro k' d=>
     cases d<;>simp [iI,o_] at h6;obtain ⟨rfl,rfl,rfl⟩:=h6;rfl
    |own d=>cases d<;>simp [iI,ou] at h6<;>simp [C.cY,D.bF] at h7
    |rf=>simp [iI] at h6
   |st cs=>simp [imp,oZ] at h3
   |a_ xs=>simp [imp] at h3
   |ptr cs=>simp [imp] at h3
  rw [hx,hy]
theorem V9 {Γ:Env} {fuel:Nat} {xs:List V} {r:V} {us:List (Nat×Nat×C)} (h:prun Γ fuel sa xs=some (r,us)):
 ∃(l:List aa) (k:Bool) (gk:Nat),xs=[.one (.own (.sl 3 (l.map aa.e))),.one (.ro k (.fn gk []))]∧l.length<4611686018427387904∧r=.a_ []∧us=[(0,0,.own (.sl 3 ((iZ l).map aa.e)))]∧
  ∀x∈l,∀y∈l,Γ gk [.st (x.e.map (.ro false)),.st (y.e.map (.ro false))]=some (.one (.ro false (.int .i64 (ov x y))),[]):=by
 unfold prun at h;split at h
 ·simp only [sa,yu,bV] at h;by_cases hc:ny Γ (Bi (dM 0 xs))
  ·rw [if_pos hc] at h;unfold Bi at hc;split at hc
   ·rename_i es k gk heq;have lq:=V6 heq;subst lq;split at hc
    ·rename_i hv;obtain ⟨l,rfl⟩:=OP hv.1;have hlen:=hv.2;rw [zo] at hlen;rw [heq] at h;simp only [Jp,N4] at h;refine ⟨l,k,gk,rfl,hlen,?_,?_,fun x hx y hy=>?_⟩
     ·simp [finish,rO,pd,l3,nv] at h;exact h.1.symm
     ·simp [finish,rO,pd,l3,nv] at h;exact h.2.symm
     ·exact hc (gk,_,_) (List.mem_flatMap.2 ⟨x.e,ze.2 ⟨x,hx,rfl⟩,ze.2 ⟨y.e,ze.2 ⟨y,hy,rfl⟩,rfl⟩⟩)
    ·exact absurd hc (by simp [ny])
   ·exact absurd hc (by simp [ny])
  ·rw [if_neg hc] at h;cases h
 ·cases h
theorem Qq {P:Program} {f:FuncId} (iQ:pK P f=true) (args:Array Value) (w:World):(callFunc f args).run P w=.ok (.enter f args) w:=by
 unfold pK at iQ;split at iQ
 ·rename_i fn rj;simp only [zm,bne_iff_ne,ne_eq] at iQ;have p_:fn.body.isNone=false:=by cases hb:fn.body<;>simp_all
  have lQ:(fn.name== "runtime.NumGoroutine")=false:=by simpa using iQ.2
  simp only [callFunc,Sem.run_bind,run_program,Result.andThen_ok,rj];simp [lQ,p_]
 ·cases iQ
theorem U0 {w:World} {g:Gh} {r j:Nat} {p:aY} {v:Value} {es:List (List D)} (he:es=[]) (h:OW w g r j p (.sl 3 es) v):∃q cap,v=.slice q 0 cap:=by
 cases h with
 |nil=>exact ⟨_,_,rfl⟩
 |sl=>subst he;exact ⟨_,_,rfl⟩
theorem U1 {w:World} {g:Gh} {r j:Nat} {p:aY} {v:Value} {es:List (List D)} (he:es≠[]) (h:OW w g r j p (.sl 3 es) v):
 ∃b off cap vals E,v=.slice (some ⟨b,off,none⟩) es.length cap∧g.hd r j p=.slice (some ⟨b,off,none⟩) es.length cap∧g.cl b=.own r j p∧es.length≤cap∧w.heap[b]?=some (.cells vals E)∧off+cap*3≤vals.size∧
  ∀i c e d x,es[i]?=some e→e[c]?=some d→vals[off+i*3+c]?=some x→OW w g r j (p++[(i,c)]) d x:=by
 cases h with
 |nil=>exact absurd rfl he
 |sl _ _ _ b off cap vals E h1 h2 h3 h4 h5 h6 h7=>exact ⟨b,off,cap,vals,E,rfl,h1,h2,h4,h5,h6,h7⟩
theorem grown_of {w w':World} (hs:eB w w') (hz:w.heap.size≤w'.heap.size) (hf:∀b,b<w.heap.size→w'.heap[b]?=w.heap[b]?):∃q Ee,w'=Go.Sort.grow (w.drewN q) Ee:=by
 refine ⟨w'.drawn-w.drawn,w'.heap.extract w.heap.size w'.heap.size,?_⟩;obtain ⟨h,t,d,o,out⟩:=w';obtain ⟨h0,t0,d0,o0,ab2⟩:=w;obtain ⟨e1,e2,_,e4,e5⟩:=hs;simp only at e1 e2 e4 e5 hz hf;subst e1;subst e2;subst e4;simp only [Go.Sort.grow,World.drewN,World.mk.injEq,true_and,and_true];refine ⟨?_,by omega⟩;apply Array.ext_getElem?;intro i;by_cases hi:i<h0.size
 ·rw [hf i hi,Array.getElem?_append_left hi]
 ·rw [Array.getElem?_append_right (by omega),Array.getElem?_extract];by_cases Ma:i<h.size
  ·rw [if_pos (by omega)];congr 1;omega
  ·rw [if_neg (by omega),zh (by omega)]
theorem Kl (W:World) (i:Nat) (z:aa):jb W (lV W) i (.st (z.e.map (.ro false))) (.agg (hZ z).toArray):=by
 refine ⟨⟨_,rfl,rfl,fun k c y hc hy=>?_⟩,fun hh=>by simp [V.flat,C.cY] at hh⟩
 match k,hc,hy with
 |0,hc,hy=>simp at hc;simp [hZ] at hy;subst hc;subst hy;exact .ro _ _ _ (.int _ _)
 |1,hc,hy=>simp at hc;simp [hZ] at hy;subst hc;subst hy;exact .ro _ _ _ (.int _ _)
 |2,hc,hy=>simp at hc;simp [hZ] at hy;subst hc;subst hy;exact .ro _ _ _ (.str _)
 |k+3,hc,hy=>simp at hc
theorem PY {P:Program} {Γ:Env} (hG:og P fI Γ) {gk:Nat} {x y:aa} (h:Γ gk [.st (x.e.map (.ro false)),.st (y.e.map (.ro false))]=some (.one (.ro false (.int .i64 (ov x y))),[])) (W:World):
 Calls P (fI gk) #[.agg (hZ x).toArray,.agg (hZ y).toArray] W fun e w'=>e=.returned (.int .i64 (ov x y))∧∃q Ee,w'=Go.Sort.grow (W.drewN q) Ee:=by
 refine (hG.ok gk _ _ _ h W #[.agg (hZ x).toArray,.agg (hZ y).toArray] (lV W) rfl (fun b hb=>?_) (fun i z v hz hv=>?_)).mono ?_
 ·simp only [lV,ne_eq] at hb;by_cases h:b<W.heap.size
  ·exact h
  ·simp [h] at hb
 ·match i,hz,hv with
  |0,hz,hv=>
   simp only [zg,zb] at hz;have eM:v=.agg (hZ x).toArray:=by simpa using hv.symm
   subst hz;subst eM;exact Kl W 0 x
  |1,hz,hv=>
   simp only [List.getElem?_cons_succ,zg,zb] at hz;have eM:v=.agg (hZ y).toArray:=by simpa using hv.symm
   subst hz;subst eM;exact Kl W 1 y
  |i+2,hz,hv=>simp at hz
 ·rintro e W' ⟨v,g',rfl,⟨hr,_⟩,hL⟩;refine ⟨?_,grown_of hL.sd hL.sz (fun b hb=>hL.fr b hb (by simp [lV,hb,cG.ck]))⟩;cases hr with
  |ro _ _ _ h6=>cases h6;rfl
theorem V_ {P:Program} {ρ:Ren} (L:SlLaysF0.n6 P ρ) (hf:ρ.f 6=fI 595) (aE:∀w,(isAgg (ρ.t 24)).run P w=.ok true w) (zE:∀w,(Go.sizeOf (ρ.t 24)).run P w=.ok 3 w)
 {Γ:Env} (hG:og P fI Γ) {fuel:Nat} {xs:List V} {r:V} {us:List (Nat×Nat×C)} (h:prun Γ fuel sa xs=some (r,us)):OK P (fI 595) xs r us:=by
 obtain ⟨l,k,gk,rfl,hlen,rfl,rfl,L1⟩:=V9 h;intro w args g cg dU ch;obtain ⟨al,rfl⟩:∃al:List Value,args=al.toArray:=⟨args.toList,by simp⟩
 match al,cg with
 |[a0,a1],_=>
 have h0:=ch 0 _ a0 rfl rfl;have h1:=ch 1 _ a1 rfl rfl;obtain ⟨⟨dF,abt⟩,L9⟩:=h0;obtain ⟨⟨lb,_⟩,_⟩:=h1
 have gU:a1=.func (.func (fI gk)) #[] #[]:=by
  cases lb with
  |ro _ _ _ br=>cases br with
   |fn=>rfl
   |sR _ _ b bm=>exact absurd rfl bm
 subst gU;cases dF with
 |own _ _ mR=>
 by_cases jg:l=[]
 ·subst jg;have iD:=U0 rfl mR;obtain ⟨p,cap,rfl⟩:=iD;have hc:=AnyF.slices_SortFunc_none L p cap (.func (.func (fI gk)) #[] #[]) w;rw [hf] at hc;refine hc.mono ?_;rintro e w' ⟨rfl,rfl⟩;refine ⟨_,g,rfl,⟨#[],rfl,trivial⟩,⟨eB.refl _,Nat.le_refl _,fun _ _ _=>rfl,fun _ _=>Iff.rfl,dU,fun _ _ h=>h,fun i j c hu=>?_⟩⟩;simp only [zj,zi] at hu;obtain ⟨rfl,rfl,rfl⟩:=hu;have Sr:OW w' g 1 0 [] (.sl 3 ((iZ []).map aa.e)) (.slice p 0 cap):=by simpa [iZ] using mR
  exact ⟨.slice p 0 cap,.slice p 0 cap,rfl,rfl,.own _ _ Sr⟩
 ·obtain ⟨v0,cO⟩:=List.exists_mem_of_ne_nil l jg;have Sg:l.map aa.e≠[]:=by simpa using jg
  obtain ⟨b,off,cap,vals,E,rfl,cq,bq,cz,rk,oU,C'⟩:=U1 Sg mR
  letI:Inhabited {v:aa // v∈l}:=⟨⟨v0,cO⟩⟩
  let enc:{v:aa // v∈l}→List Value:=fun x=>hZ x.1
  let d:Array {v:aa // v∈l}:=l.attach.toArray
  have iB:d.size=l.length:=by simp [d]
  have hblk:b<w.heap.size:=dU b (by rw [bq];simp)
  have bL:∀(i:Nat) (hi:i<l.length),d[i]! =⟨l[i],List.getElem_mem hi⟩:=fun i hi=>by
   rw [getElem!_pos d i (by omega)];simp [d]
  have hH:HoldsK enc 3 w b off d:=by
   intro j hj;rw [size_flatK,iB] at hj;have hi:j/3<l.length:=by omega
   have hc:j%3<3:=Nat.mod_lt _ (by omega);have Me:l.length≤cap:=by simpa using cz
   have RZ:off+j<vals.size:=by omega
   have RD:off+j/3*3+j%3=off+j:=by omega
   have hx:vals[off+j]?=some vals[off+j]:=za RZ;refine ⟨?_,by simp [World.frozen?,rk]⟩;have dp:w.cell? ⟨b,off+j,none⟩=vals[off+j]?:=by simp [World.cell?,rk]
   rw [dp,hx,get_flatK _ _ _ _ (by rw [iB];exact hj),bL _ hi];have hle:(l.map aa.e)[j/3]?=some (l[j/3]).e:=by simp [hi]
   have Sc:((l[j/3]).e).length=3:=rfl;obtain ⟨dd,iS⟩:∃dd,(l[j/3]).e[j%3]?=some dd:=⟨_,zf (by rw [Sc];exact hc)⟩;have:=Qo iS (C' _ _ _ _ _ hle iS (by rw [RD];exact hx));simp only [id,enc];rw [List.getElem!_of_getElem? this]
  have jZ:CmpLays P (fI gk) #[] enc 3 (fun x y=>ov x.1 y.1) b off d.size w:=by
   intro m os dk hs x y;exact PY hG (L1 x.1 x.2 y.1 y.2) _
  have ae:=T3 (fun x:{v:aa // v∈l}=>x.1)
  have hO:SWO (ltOf fun x y:{v:aa // v∈l}=>ov x.1 y.1):=by
   rw [ae];exact ⟨fun x=>D'.irrefl x.1,fun x y z=>D'.trans x.1 y.1 z.1,fun x y z=>D'.ntrans x.1 y.1 z.1⟩
  have hc:=AnyQ.slices_SortFunc_total L 3 aE zE enc (fun x=>KZ x.1) (fun x=>Qp x.1) (fun x y=>ov x.1 y.1) hO (fI gk) #[] b off cap d w
   (fun args w=>Qq (hG.body gk _ _ (L1 v0 cO v0 cO)) args w) jZ hH hblk (by omega) (fun x y h1 h2=>by
    rw [ae] at h1 h2
    exact Subtype.ext (tq h1 h2))
  rw [hf,iB] at hc;rw [ae] at hc;have uX:(l.map aa.e).length=l.length:=by simp
  rw [uX];refine hc.mono ?_;rintro e w' ⟨rfl,n,os,ey⟩;generalize hD:(d.toList.mergeSort fun x y=>!dy y.1 x.1).toArray=D at ey
  have LK:D.toList.map (·.1)=iZ l:=by
   rw [←hD];simp only [d,List.toList_toArray];rw [List.map_mergeSort (s:=fun x y=>!dy y x) (by intro a _ b _;rfl)];simp [iZ]
  have LL:D.size=d.size:=by
   have:=congrArg List.length LK;simp only [zo,Array.length_toList,Bj] at this;omega
  have Ra:HoldsK enc 3 w' b off D:=by rw [ey];exact holdsK_sortWorldK_c enc 3 w b off d D n os hH hblk LL
  have MC:∀b',b'<w.heap.size→w'.heap[b']?=if b=b' then (w.heap[b']?).map (onCells (putCells id off (flatK enc 3 D))) else w.heap[b']?:=fun b' cF=>by
   rw [ey];unfold sortWorldK putRowK;rw [heap_grow_old _ _ (by simpa using cF)];simp [putRow,mapBlock,Array.getElem?_modify,ahead]
  have MF:w.heap.size≤w'.heap.size:=by
   rw [ey];unfold sortWorldK putRowK;simp [Go.Sort.grow,Go.Sort.ahead]
  have L_:w'.heap[b]?=some (.cells (putCells id off (flatK enc 3 D) vals) E):=by
   rw [MC b hblk,if_pos rfl,rk];try rfl
  have mV:eB w w':=by
   refine ⟨by rw [ey];rfl,by rw [ey];rfl,fun a hi=>?_,by rw [ey];rfl,by rw [ey];exact Nat.le_add_right _ _⟩
   have ha:a.block<w.heap.size:=by
    rcases Nat.lt_or_ge a.block w.heap.size with h|h
    ·exact h
    ·rw [zh h] at hi;cases hi
   refine ⟨by rw [za (by omega)];rfl,?_⟩;rw [ey];unfold sortWorldK putRowK;rw [frozen?_grow _ _ _ (by simpa using ha)];simp
  have Dp:((iZ l).map aa.e).length=l.length:=by simp [Bj]
  refine ⟨_,g,rfl,⟨#[],rfl,trivial⟩,⟨mV,MF,fun b' cF hm=>?_,fun _ _=>Iff.rfl,fun b' cF=>Nat.lt_of_lt_of_le (dU b' cF) MF,fun _ _ h=>h,fun i j c hu=>?_⟩⟩
  ·rw [MC b' cF,if_neg];rintro rfl;rw [bq] at hm;cases hm
  ·simp only [zj,zi] at hu;obtain ⟨rfl,rfl,rfl⟩:=hu;refine ⟨_,_,rfl,rfl,.own _ _ ?_⟩;rw [←Dp];refine .sl _ _ _ b off cap _ E (by rw [cq,uX,Dp]) bq (fun e he=>?_) (by rw [Dp];simpa using cz) L_ (by simpa [putCells] using oU) (fun i c e dd x hi L0 hx=>?_)
   ·obtain ⟨v,_,rfl⟩:=ze.1 he;rfl
   ·rw [zk,Option.map_eq_some_iff] at hi;obtain ⟨v,hv,rfl⟩:=hi;have Rp:c<3:=(zd.1 L0).1;obtain ⟨rl,hiv⟩:=zd.1 hv;rw [Bj] at rl;have hj:i*3+c<(flatK enc 3 D).size:=by rw [size_flatK,LL,iB];omega
    have dp:=(Ra (i*3+c) hj).1;have Rr:w'.cell? ⟨b,off+(i*3+c),none⟩=(putCells id off (flatK enc 3 D) vals)[off+(i*3+c)]?:=by simp [World.cell?,L_]
    rw [Rr,←Nat.add_assoc,hx,get_flatK _ _ _ _ (by rw [size_flatK] at hj;exact hj)] at dp;simp only [id,zb] at dp;have e1:(i*3+c)/3=i:=by omega
    have e2:(i*3+c)%3=c:=by omega
    rw [e1,e2] at dp
    have Q7:(D[i]!).1=v:=by
     rw [getElem!_pos D i (by omega)];have:=congrArg (fun l=>l[i]?) LK;simp only [zk,hv] at this;rw [Array.getElem?_toList,za (by omega)] at this;simpa using this
    refine Qn v L0 ?_ _ _ _ _ _;have:(hZ v)[c]! =x:=by rw [dp];simp only [enc,Q7]
    rw [zf (by rw [KZ];exact Rp),←this,getElem!_pos]
end Go.Proofs.YtohlfelngklcfaaGreat.OM
