/- A part of the proof. -/
import Derived.Test.YtohlfelngklcfaaGreatXWLm3
import Derived.Test.YtohlfelngklcfaaGreatG3
import Derived.Shelf.SlSortCmp.NoneTotal
set_option linter.all false
namespace Go.Proofs.YtohlfelngklcfaaGreat.OM
open _root_.Array renaming getElem?_eq_getElem→za,getElem?_eq_none→zh
open Option.some renaming injEq→zb
open List renaming getElem?_eq_some_iff→zd,mem_map→ze,getElem?_eq_getElem→zf,getElem?_cons_zero→zg,mem_singleton→zj,getElem?_map→zk,length_map→zo
open Prod.mk renaming injEq→zi
open Bool renaming and_eq_true→zm
open List.cons renaming injEq→zn
set_option maxHeartbeats 4000000
open Go.Proofs Go.Shelf Go.RowKit Go.Lib Go.Sort
theorem ME:Go.Sort.SWO eD:=by
 refine ⟨F',fun x y z h1 h2=>DO h1 h2,fun x y z h1 h2=>?_⟩;cases hh:eD x z with
 |false=>rfl
 |true=>
  cases h3:eD y x with
  |true=>rw [DO h3 hh] at h2;cases h2
  |false=>
   have:=BZ h1 h3;subst this;rw [hh] at h2;cases h2
def mb (v:ab):List Value:=[.int .i64 v.Ty,.int .i64 v.N,.string v.S]
theorem WB (v:ab):(mb v).length=3:=rfl
theorem aeY (v:ab):∀x∈mb v,x.oneCell'=true:=fun x hx=>by
 simp only [mb,List.mem_cons,List.not_mem_nil,or_false] at hx;rcases hx with rfl|rfl|rfl<;>rfl
theorem aeW (v:ab) {c:Nat} {d:D} {x:Value} (hd:v.e[c]?=some d) (hx:(mb v)[c]?=some x) (w:World) (g:Gh) (r j:Nat) (p:bQ):OW w g r j p d x:=by
 match c,hd,hx with
 |0,hd,hx=>simp at hd;simp [mb] at hx;subst hd;subst hx;exact .int _ _ _
 |1,hd,hx=>simp at hd;simp [mb] at hx;subst hd;subst hx;exact .int _ _ _
 |2,hd,hx=>simp at hd;simp [mb] at hx;subst hd;subst hx;exact .str _ _
 |c+3,hd,hx=>simp at hd
theorem aeX {v:ab} {c:Nat} {d:D} {x:Value} {w:World} {g:Gh} {r j:Nat} {p:bQ} (hd:v.e[c]?=some d) (h:OW w g r j p d x):(mb v)[c]?=some x:=by
 match c,hd with
 |0,hd=>simp at hd;subst hd;cases h;rfl
 |1,hd=>simp at hd;subst hd;cases h;rfl
 |2,hd=>simp at hd;subst hd;cases h;rfl
 |c+3,hd=>simp at hd
theorem ado:∀{es:List (List D)},es.all U_=true→∃l:List ab,es=l.map ab.e
 |[],_=>⟨[],rfl⟩
 |e::es,h=>by
  simp only [List.all_cons,zm] at h;obtain ⟨l,rfl⟩:=ado h.2
  match e,h.1 with
  |[.int .i64 t,.int .i64 n,.str s],_=>exact ⟨⟨t,n,s⟩::l,rfl⟩
theorem ajC {α:Type} (f:α→ab):(ltOf fun x y:α=>vq (f x) (f y))=fun x y=>eD (f x) (f y):=by
 have key:∀a b:ab,decide (vq a b<0)=eD a b:=fun a b=>by
  unfold vq;cases eD a b with
  |true=>simp
  |false=>simp;split<;>simp
 funext x y;exact key _ _
theorem alA {xs:List V} {es:List (List D)} {k:Bool} {gk:Nat} (h:f_ 0 xs=[(0,.pl 0 0 [],some (.aX [.own (.sl 3 es)])),(1,.v k (.fn gk []),none)]):xs=[.one (.own (.sl 3 es)),.one (.ro k (.fn gk []))]:=by
 match xs,h with
 |[],h=>simp [f_] at h
 |[x],h=>simp [f_] at h
 |x::y::z::t,h=>simp [f_] at h
 |[x,y],h=>
  simp only [f_,zn,zi,and_true,true_and] at h;obtain ⟨⟨h1,h2⟩,h3,h4⟩:=h
  have hx:x=.one (.own (.sl 3 es)):=by
   cases x with
   |one c=>
    have h5:Bi [c]=some (.aX [.own (.sl 3 es)]):=h2;unfold Bi at h5;split at h5
    ·simp only [zb,Rt.aX.injEq,zn,and_true] at h5;rw [h5]
    ·cases h5
   |st cs=>simp [imp,v_] at h1
   |cf xs=>simp [imp] at h1
   |ptr cs=>simp [imp] at h1
  have hy:y=.one (.ro k (.fn gk [])):=by
   cases y with
   |one c=>
    have h6:mR 1 0 c=.v k (.fn gk []):=h3;have h7:Bi [c]=none:=h4;unfold Bi at h7;cases c with
    |ro k' d=>
     cases d<;>simp [mR,wi] at h6;obtain ⟨rfl,rfl,rfl⟩:=h6;rfl
    |own d=>cases d<;>simp [mR,vo] at h6<;>simp [C.gx,D.dt] at h7
    |rf=>simp [mR] at h6
   |st cs=>simp [imp,v_] at h3
   |cf xs=>simp [imp] at h3
   |ptr cs=>simp [imp] at h3
  rw [hx,hy]
theorem alD {Γ:Env} {fuel:Nat} {xs:List V} {r:V} {us:List (Nat×Nat×C)} (h:prun Γ fuel AQ xs=some (r,us)):
 ∃(l:List ab) (k:Bool) (gk:Nat),xs=[.one (.own (.sl 3 (l.map ab.e))),.one (.ro k (.fn gk []))]∧l.length<4611686018427387904∧r=.cf []∧us=[(0,0,.own (.sl 3 ((nD l).map ab.e)))]∧
  ∀x∈l,∀y∈l,Γ gk [.st (x.e.map (.ro false)),.st (y.e.map (.ro false))]=some (.one (.ro false (.int .i64 (vq x y))),[]):=by
 unfold prun at h;split at h
 ·simp only [AQ,Gj,dw] at h;by_cases hc:uy Γ (IA (f_ 0 xs))
  ·rw [if_pos hc] at h;unfold IA at hc;split at hc
   ·rename_i es k gk heq;have n9:=alA heq;subst n9;split at hc
    ·rename_i hv;obtain ⟨l,rfl⟩:=ado hv.1;have hlen:=hv.2;rw [zo] at hlen;rw [heq] at h;simp only [UN,acI] at h;refine ⟨l,k,gk,rfl,hlen,?_,?_,fun x hx y hy=>?_⟩
     ·simp [finish,AG,wk,se,um] at h;exact h.1.symm
     ·simp [finish,AG,wk,se,um] at h;exact h.2.symm
     ·exact hc (gk,_,_) (List.mem_flatMap.2 ⟨x.e,ze.2 ⟨x,hx,rfl⟩,ze.2 ⟨y.e,ze.2 ⟨y,hy,rfl⟩,rfl⟩⟩)
    ·exact absurd hc (by simp [uy])
   ·exact absurd hc (by simp [uy])
  ·rw [if_neg hc] at h;cases h
 ·cases h
theorem aeZ {P:Program} {f:FuncId} (tr:yg P f=true) (args:Array Value) (w:World):(callFunc f args).run P w=.ok (.enter f args) w:=by
 unfold yg at tr;split at tr
 ·rename_i fn C';simp only [zm,bne_iff_ne,ne_eq] at tr;have BE:fn.body.isNone=false:=by cases hb:fn.body<;>simp_all
  have Di:(fn.name== "runtime.NumGoroutine")=false:=by simpa using tr.2
  simp only [callFunc,Sem.run_bind,run_program,Result.andThen_ok,C'];simp [Di,BE]
 ·cases tr
theorem akq {w:World} {g:Gh} {r j:Nat} {p:bQ} {v:Value} {es:List (List D)} (he:es=[]) (h:OW w g r j p (.sl 3 es) v):∃q cap,v=.slice q 0 cap:=by
 cases h with
 |nil=>exact ⟨_,_,rfl⟩
 |sl=>subst he;exact ⟨_,_,rfl⟩
theorem akr {w:World} {g:Gh} {r j:Nat} {p:bQ} {v:Value} {es:List (List D)} (he:es≠[]) (h:OW w g r j p (.sl 3 es) v):
 ∃b off cap vals E,v=.slice (some ⟨b,off,none⟩) es.length cap∧g.hd r j p=.slice (some ⟨b,off,none⟩) es.length cap∧g.cl b=.own r j p∧es.length≤cap∧w.heap[b]?=some (.cells vals E)∧off+cap*3≤vals.size∧
  ∀i c e d x,es[i]?=some e→e[c]?=some d→vals[off+i*3+c]?=some x→OW w g r j (p++[(i,c)]) d x:=by
 cases h with
 |nil=>exact absurd rfl he
 |sl _ _ _ b off cap vals E h1 h2 h3 h4 h5 h6 h7=>exact ⟨b,off,cap,vals,E,rfl,h1,h2,h4,h5,h6,h7⟩
theorem grown_of {w w':World} (hs:il w w') (hz:w.heap.size≤w'.heap.size) (hf:∀b,b<w.heap.size→w'.heap[b]?=w.heap[b]?):∃q MO,w'=Go.Sort.grow (w.drewN q) MO:=by
 refine ⟨w'.drawn-w.drawn,w'.heap.extract w.heap.size w'.heap.size,?_⟩;obtain ⟨h,t,d,o,out⟩:=w';obtain ⟨h0,t0,d0,o0,arb⟩:=w;obtain ⟨e1,e2,_,e4,e5⟩:=hs;simp only at e1 e2 e4 e5 hz hf;subst e1;subst e2;subst e4;simp only [Go.Sort.grow,World.drewN,World.mk.injEq,true_and,and_true];refine ⟨?_,by omega⟩;apply Array.ext_getElem?;intro i;by_cases hi:i<h0.size
 ·rw [hf i hi,Array.getElem?_append_left hi]
 ·rw [Array.getElem?_append_right (by omega),Array.getElem?_extract];by_cases hi2:i<h.size
  ·rw [if_pos (by omega)];congr 1;omega
  ·rw [if_neg (by omega),zh (by omega)]
theorem V4 (W:World) (i:Nat) (z:ab):pY W (r_ W) i (.st (z.e.map (.ro false))) (.agg (mb z).toArray):=by
 refine ⟨⟨_,rfl,rfl,fun k c y hc hy=>?_⟩,fun hh=>by simp [V.flat,C.gx] at hh⟩
 match k,hc,hy with
 |0,hc,hy=>simp at hc;simp [mb] at hy;subst hc;subst hy;exact .ro _ _ _ (.int _ _)
 |1,hc,hy=>simp at hc;simp [mb] at hy;subst hc;subst hy;exact .ro _ _ _ (.int _ _)
 |2,hc,hy=>simp at hc;simp [mb] at hy;subst hc;subst hy;exact .ro _ _ _ (.str _)
 |k+3,hc,hy=>simp at hc
theorem aer {P:Program} {Γ:Env} (hG:wU P mh Γ) {gk:Nat} {x y:ab} (h:Γ gk [.st (x.e.map (.ro false)),.st (y.e.map (.ro false))]=some (.one (.ro false (.int .i64 (vq x y))),[])) (W:World):
 Calls P (mh gk) #[.agg (mb x).toArray,.agg (mb y).toArray] W fun e w'=>e=.returned (.int .i64 (vq x y))∧∃q MO,w'=Go.Sort.grow (W.drewN q) MO:=by
 refine (hG.ok gk _ _ _ h W #[.agg (mb x).toArray,.agg (mb y).toArray] (r_ W) rfl (fun b hb=>?_) (fun i z v hz hv=>?_)).mono ?_
 ·simp only [r_,ne_eq] at hb;by_cases h:b<W.heap.size
  ·exact h
  ·simp [h] at hb
 ·match i,hz,hv with
  |0,hz,hv=>
   simp only [zg,zb] at hz;have fO:v=.agg (mb x).toArray:=by simpa using hv.symm
   subst hz;subst fO;exact V4 W 0 x
  |1,hz,hv=>
   simp only [List.getElem?_cons_succ,zg,zb] at hz;have fO:v=.agg (mb y).toArray:=by simpa using hv.symm
   subst hz;subst fO;exact V4 W 1 y
  |i+2,hz,hv=>simp at hz
 ·rintro e W' ⟨v,g',rfl,⟨hr,_⟩,hL⟩;refine ⟨?_,grown_of hL.sd hL.sz (fun b hb=>hL.fr b hb (by simp [r_,hb,gR.eG]))⟩;cases hr with
  |ro _ _ _ h6=>cases h6;rfl
theorem alE {P:Program} {ρ:Ren} (L:SlLaysF0.n6 P ρ) (hf:ρ.f 6=mh 595) (aE:∀w,(isAgg (ρ.t 24)).run P w=.ok true w) (zE:∀w,(Go.sizeOf (ρ.t 24)).run P w=.ok 3 w)
 {Γ:Env} (hG:wU P mh Γ) {fuel:Nat} {xs:List V} {r:V} {us:List (Nat×Nat×C)} (h:prun Γ fuel AQ xs=some (r,us)):OK P (mh 595) xs r us:=by
 obtain ⟨l,k,gk,rfl,hlen,rfl,rfl,aaF⟩:=alD h;intro w args g dM gw eA;obtain ⟨al,rfl⟩:∃al:List Value,args=al.toArray:=⟨args.toList,by simp⟩
 match al,dM with
 |[a0,a1],_=>
 have h0:=eA 0 _ a0 rfl rfl;have h1:=eA 1 _ a1 rfl rfl;obtain ⟨⟨fT,apf⟩,hh0⟩:=h0;obtain ⟨⟨rU,_⟩,_⟩:=h1
 have pB:a1=.func (.func (mh gk)) #[] #[]:=by
  cases rU with
  |ro _ _ _ cX=>cases cX with
   |fn=>rfl
   |CW _ _ b cE=>exact absurd rfl cE
 subst pB;cases fT with
 |own _ _ tD=>
 by_cases nU:l=[]
 ·subst nU;have lC:=akq rfl tD;obtain ⟨p,cap,rfl⟩:=lC;have hc:=AnyF.slices_SortFunc_none L p cap (.func (.func (mh gk)) #[] #[]) w;rw [hf] at hc;refine hc.mono ?_;rintro e w' ⟨rfl,rfl⟩;refine ⟨_,g,rfl,⟨#[],rfl,trivial⟩,⟨il.refl _,Nat.le_refl _,fun _ _ _=>rfl,fun _ _=>Iff.rfl,gw,fun _ _ h=>h,fun i j c hu=>?_⟩⟩;simp only [zj,zi] at hu;obtain ⟨rfl,rfl,rfl⟩:=hu;have ahv:OW w' g 1 0 [] (.sl 3 ((nD []).map ab.e)) (.slice p 0 cap):=by simpa [nD] using tD
  exact ⟨.slice p 0 cap,.slice p 0 cap,rfl,rfl,.own _ _ ahv⟩
 ·obtain ⟨v0,fM⟩:=List.exists_mem_of_ne_nil l nU;have hlm:l.map ab.e≠[]:=by simpa using nU
  obtain ⟨b,off,cap,vals,E,rfl,fk,aD,ew,KJ,vU,KE⟩:=akr hlm tD
  letI:Inhabited {v:ab // v∈l}:=⟨⟨v0,fM⟩⟩
  let enc:{v:ab // v∈l}→List Value:=fun x=>mb x.1
  let d:Array {v:ab // v∈l}:=l.attach.toArray
  have mJ:d.size=l.length:=by simp [d]
  have hblk:b<w.heap.size:=gw b (by rw [aD];simp)
  have cF:∀(i:Nat) (hi:i<l.length),d[i]! =⟨l[i],List.getElem_mem hi⟩:=fun i hi=>by
   rw [getElem!_pos d i (by omega)];simp [d]
  have hH:HoldsK enc 3 w b off d:=by
   intro j hj;rw [size_flatK,mJ] at hj;have hi:j/3<l.length:=by omega
   have hc:j%3<3:=Nat.mod_lt _ (by omega);have hlc:l.length≤cap:=by simpa using ew
   have hjv:off+j<vals.size:=by omega
   have hej:off+j/3*3+j%3=off+j:=by omega
   have hx:vals[off+j]?=some vals[off+j]:=za hjv;refine ⟨?_,by simp [World.frozen?,KJ]⟩;have fU:w.cell? ⟨b,off+j,none⟩=vals[off+j]?:=by simp [World.cell?,KJ]
   rw [fU,hx,get_flatK _ _ _ _ (by rw [mJ];exact hj),cF _ hi];have hle:(l.map ab.e)[j/3]?=some (l[j/3]).e:=by simp [hi]
   have agY:((l[j/3]).e).length=3:=rfl;obtain ⟨dd,ni⟩:∃dd,(l[j/3]).e[j%3]?=some dd:=⟨_,zf (by rw [agY];exact hc)⟩;have:=aeX ni (KE _ _ _ _ _ hle ni (by rw [hej];exact hx));simp only [id,enc];rw [List.getElem!_of_getElem? this]
  have pD:CmpLays P (mh gk) #[] enc 3 (fun x y=>vq x.1 y.1) b off d.size w:=by
   intro m os dk hs x y;exact aer hG (aaF x.1 x.2 y.1 y.2) _
  have ai:=ajC (fun x:{v:ab // v∈l}=>x.1)
  have hO:SWO (ltOf fun x y:{v:ab // v∈l}=>vq x.1 y.1):=by
   rw [ai];exact ⟨fun x=>ME.irrefl x.1,fun x y z=>ME.trans x.1 y.1 z.1,fun x y z=>ME.ntrans x.1 y.1 z.1⟩
  have hc:=AnyQ.slices_SortFunc_total L 3 aE zE enc (fun x=>WB x.1) (fun x=>aeY x.1) (fun x y=>vq x.1 y.1) hO (mh gk) #[] b off cap d w
   (fun args w=>aeZ (hG.body gk _ _ (aaF v0 fM v0 fM)) args w) pD hH hblk (by omega) (fun x y h1 h2=>by
    rw [ai] at h1 h2
    exact Subtype.ext (BZ h1 h2))
  rw [hf,mJ] at hc;rw [ai] at hc;have De:(l.map ab.e).length=l.length:=by simp
  rw [De];refine hc.mono ?_;rintro e w' ⟨rfl,n,os,ie⟩;generalize hD:(d.toList.mergeSort fun x y=>!eD y.1 x.1).toArray=D at ie
  have qj:D.toList.map (·.1)=nD l:=by
   rw [←hD];simp only [d,List.toList_toArray];rw [List.map_mergeSort (s:=fun x y=>!eD y x) (by intro a _ b _;rfl)];simp [nD]
  have qm:D.size=d.size:=by
   have:=congrArg List.length qj;simp only [zo,Array.length_toList,IB] at this;omega
  have hHD:HoldsK enc 3 w' b off D:=by rw [ie];exact holdsK_sortWorldK_c enc 3 w b off d D n os hH hblk qm
  have hwb:∀b',b'<w.heap.size→w'.heap[b']?=if b=b' then (w.heap[b']?).map (onCells (putCells id off (flatK enc 3 D))) else w.heap[b']?:=fun b' cW=>by
   rw [ie];unfold sortWorldK putRowK;rw [heap_grow_old _ _ (by simpa using cW)];simp [putRow,mapBlock,Array.getElem?_modify,ahead]
  have hwz:w.heap.size≤w'.heap.size:=by
   rw [ie];unfold sortWorldK putRowK;simp [Go.Sort.grow,Go.Sort.ahead]
  have aaN:w'.heap[b]?=some (.cells (putCells id off (flatK enc 3 D) vals) E):=by
   rw [hwb b hblk,if_pos rfl,KJ];try rfl
  have ahL:il w w':=by
   refine ⟨by rw [ie];rfl,by rw [ie];rfl,fun a hi=>?_,by rw [ie];rfl,by rw [ie];exact Nat.le_add_right _ _⟩
   have ha:a.block<w.heap.size:=by
    rcases Nat.lt_or_ge a.block w.heap.size with h|h
    ·exact h
    ·rw [zh h] at hi;cases hi
   refine ⟨by rw [za (by omega)];rfl,?_⟩;rw [ie];unfold sortWorldK putRowK;rw [frozen?_grow _ _ _ (by simpa using ha)];simp
  have KP:((nD l).map ab.e).length=l.length:=by simp [IB]
  refine ⟨_,g,rfl,⟨#[],rfl,trivial⟩,⟨ahL,hwz,fun b' cW hm=>?_,fun _ _=>Iff.rfl,fun b' cW=>Nat.lt_of_lt_of_le (gw b' cW) hwz,fun _ _ h=>h,fun i j c hu=>?_⟩⟩
  ·rw [hwb b' cW,if_neg];rintro rfl;rw [aD] at hm;cases hm
  ·simp only [zj,zi] at hu;obtain ⟨rfl,rfl,rfl⟩:=hu;refine ⟨_,_,rfl,rfl,.own _ _ ?_⟩;rw [←KP];refine .sl _ _ _ b off cap _ E (by rw [fk,De,KP]) aD (fun e he=>?_) (by rw [KP];simpa using ew) aaN (by simpa [putCells] using vU) (fun i c e dd x hi hcd hx=>?_)
   ·obtain ⟨v,_,rfl⟩:=ze.1 he;rfl
   ·rw [zk,Option.map_eq_some_iff] at hi;obtain ⟨v,hv,rfl⟩:=hi;have hc3:c<3:=(zd.1 hcd).1;obtain ⟨yE,hiv⟩:=zd.1 hv;rw [IB] at yE;have hj:i*3+c<(flatK enc 3 D).size:=by rw [size_flatK,qm,mJ];omega
    have fU:=(hHD (i*3+c) hj).1;have age:w'.cell? ⟨b,off+(i*3+c),none⟩=(putCells id off (flatK enc 3 D) vals)[off+(i*3+c)]?:=by simp [World.cell?,aaN]
    rw [age,←Nat.add_assoc,hx,get_flatK _ _ _ _ (by rw [size_flatK] at hj;exact hj)] at fU;simp only [id,zb] at fU;have e1:(i*3+c)/3=i:=by omega
    have e2:(i*3+c)%3=c:=by omega
    rw [e1,e2] at fU
    have hDi:(D[i]!).1=v:=by
     rw [getElem!_pos D i (by omega)];have:=congrArg (fun l=>l[i]?) qj;simp only [zk,hv] at this;rw [Array.getElem?_toList,za (by omega)] at this;simpa using this
    refine aeW v hcd ?_ _ _ _ _ _;have:(mb v)[c]! =x:=by rw [fU];simp only [enc,hDi]
    rw [zf (by rw [WB];exact hc3),←this,getElem!_pos]
end Go.Proofs.YtohlfelngklcfaaGreat.OM
