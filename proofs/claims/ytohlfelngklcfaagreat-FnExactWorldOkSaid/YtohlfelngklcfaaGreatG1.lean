/- A part of the proof. -/
import Derived.Test.YtohlfelngklcfaaGreatG0
set_option linter.all false
namespace Go.Proofs.YtohlfelngklcfaaGreat.OM
open List renaming mem_of_getElem?→za,all_eq_true→zb,getElem?_append_right→ze,getElem?_append_left→zf,getElem?_eq_getElem→zg,getElem?_eq_some_iff→zi,replicate→zj,mem_iff_getElem?→zk,flatMap_cons→zp,getD→zu,nil_append→zx,getElem?_drop→zy,mem_append→zz,getElem?_set_self→zC,map_cons→zF,any_cons→zI,length_cons→zJ,any_eq_true→zK,mem_cons_of_mem→zM,length_append→zQ,getElem?_take→zR,append_assoc→zS,getElem?_map→zT,getElem?_replicate→zW,any_append→zX,length_replicate→zY,getElem?_eq_none→zZ,getElem?_set_ne→Za,all_cons→Zb,replicate_succ→Zc,prefix_append→Zf,ext_getElem?→Zg,length_take→Zi,all_flatMap→Zj,mem_cons→Zm,mem_map→Zo
open Bool renaming and_eq_true→zd,or_eq_true→zm,false_eq_true→zr,false_or→Zn
open Nat renaming zero_add→zh,le_refl→zn,mul_le_mul_right→zo,mul_comm→zq,succ_mul→zt,add_assoc→zw,pos_of_ne_zero→zA,lt_of_lt_of_le→zB,lt_or_ge→zN,div_lt_of_lt_mul→zO,add_zero→zP,mod_lt→zU,mod_eq_of_lt→zV,le_trans→Zd,add_mul→Zh,mul_add_mod→Zk,div_add_mod→Zl
open _root_.Array renaming getD_eq_getD_getElem?→zD,getElem?_range→z_,getElem?_map→Ze,range→Zp
open Option.some renaming injEq→zG
open Option renaming map_eq_some_iff→zH,map_some→zL
section
section
variable {P:Program} {κ:Nat→FuncId} {w0:World} {cl0:fS} {S:St} {w:World} {g:Gh} {a:Act} {Γ:Env} {d:Nat}
def Hd (w:World) (g:Gh) (q:Nat) (d:D) (x:Value):Prop:=OW w g 0 q [] d x∨∃sz,d=.sl sz []∧x=.slice none 0 0
theorem Hd.one {q:Nat} {d:D} {x:Value} (h:Hd w g q d x) (hd:d≠.dead):x.oneCell'=true:=by
 rcases h with h|⟨_,_,rfl⟩
 ·cases h<;>first|rfl|exact absurd rfl hd
 ·rfl
theorem adg {q:Nat} {c:C} {d:D} {x:Value} (h:RC w g 0 q c x) (hc:c.xQ=some d):Hd w g q d x:=by
 cases h with
 |ro k d0 _ hr=>
  simp only [C.xQ] at hc;split at hc
  ·rename_i hs;simp at hc;subst hc;refine .inl ?_;cases hr with
   |int=>exact .int _ _ _
   |bool=>exact .bool _ _
   |str=>exact .str _ _
   |_=>simp [D.dt] at hs
  ·cases hc
 |own d0 _ ho=>simp [C.xQ] at hc;subst hc;exact .inl ho
 |rf=>simp [C.xQ] at hc
theorem adh:∀(cs:List C) {ds:List D},wK cs=some ds→ds.length=cs.length∧∀(i:Nat) (c:C) (d:D),cs[i]?=some c→ds[i]?=some d→c.xQ=some d:=by
 intro cs;induction cs with
 |nil=>intro ds h;simp [wK] at h;subst h;exact ⟨rfl,fun i c d h=>by simp at h⟩
 |cons c cs ih=>
  intro ds h;simp only [wK] at h;cases h1:c.xQ with
  |none=>simp [h1] at h
  |some d1=>
   simp only [h1] at h;cases h2:wK cs with
   |none=>simp [h2] at h
   |some JG=>
    simp only [h2] at h;simp at h;subst h;obtain ⟨hl,hg⟩:=ih h2;refine ⟨by simp [hl],fun i c1 d1' hc hd=>?_⟩;cases i with
    |zero=>simp at hc hd;subst hc;subst hd;exact h1
    |succ i=>exact hg i c1 d1' (by simpa using hc) (by simpa using hd)
theorem jA.lx {N:Nat→Prop} {g g':Gh} {m m':Ms} (h:jA N g m g' m') {q:Nat} (hq:¬N q) {d:D} {x:Value} (ha:Hd w g q d x):Hd w g' q d x:=by
 rcases ha with ha|ha
 ·exact .inl (h.ow hq ha)
 ·exact .inr ha
theorem Hd.place {w':World} {g':Gh} {q r j:Nat} {p:bQ} {d:D} {x:Value} (h:Hd w g q d x)
 (hc:∀b ρ,g.cl b=.own 0 q ρ→w'.heap[b]?=w.heap[b]?∧g'.cl b=.own r j (p++ρ))
 (hh:∀ρ,ρ≠[]→g'.hd r j (p++ρ)=g.hd 0 q ρ) (hx:g'.hd r j p=x):OW w' g' r j p d x:=by
 rcases h with h|⟨sz,rfl,rfl⟩
 ·cases h with
  |int=>exact .int _ _ _
  |bool=>exact .bool _ _
  |str=>exact .str _ _
  |dead=>exact .dead _ _ hx
  |nil=>exact .nil _ _ hx
  |sl _ sz es b off cap vals E fk aD hl ew hw hN hk=>
   have h0:=hc b [] aD;refine .sl _ _ _ b off cap vals E hx (by simpa using h0.2) hl ew (by rw [h0.1];exact hw) hN (fun i c e d x he hd hx=>?_);refine (hk i c e d x he hd hx).mono (fun b ρ hb=>?_) (fun ρ=>?_)
   ·have:=hc b ((i,c)::ρ) (by simpa using hb);simpa using this
   ·have:=hh ((i,c)::ρ) (by simp);simpa using this
 ·exact .nil _ _ hx
theorem Hd.scalar {w':World} {g':Gh} {q r j:Nat} {p:bQ} {d:D} {x:Value} (h:Hd w g q d x) (hs:d.dt=true):OW w' g' r j p d x:=by
 rcases h with h|⟨sz,rfl,rfl⟩
 ·cases h with
  |int=>exact .int _ _ _
  |bool=>exact .bool _ _
  |str=>exact .str _ _
  |_=>simp [D.dt] at hs
 ·simp [D.dt] at hs
theorem Fg {q:Nat} {d:D} {x:Value} (h:Ff d x=true):Hd w g q d x:=by
 unfold Ff at h;split at h
 ·simp at h;obtain ⟨rfl,rfl⟩:=h;exact .inl (.int _ _ _)
 ·simp at h;subst h;exact .inl (.bool _ _)
 ·rename_i s s';simp at h;obtain rfl:s=s':=ByteArray.ext h;exact .inl (.str _ _)
 ·simp at h;obtain ⟨rfl,rfl⟩:=h;exact .inr ⟨_,rfl,rfl⟩
 ·cases h
theorem Jv:∀(as:List D) (vs:List Value),wX as vs=true→as.length=vs.length∧∀(i:Nat) (b:D) (v:Value),as[i]?=some b→vs[i]?=some v→Ff b v=true:=by
 intro as;induction as with
 |nil=>intro vs h;cases vs<;>simp [wX] at h ⊢
 |cons b bs ih=>
  intro vs h;cases vs with
  |nil=>simp [wX] at h
  |cons v vs=>
   simp only [wX,zd] at h;obtain ⟨h1,h2⟩:=ih vs h.2;refine ⟨by simp [h1],fun i c x hc hx=>?_⟩;cases i with
   |zero=>simp at hc hx;subst hc;subst hx;exact h.1
   |succ i=>exact h2 i c x (by simpa using hc) (by simpa using hx)
def Gh.oY (g:Gh) (d b sz:Nat) (hdr:Value) (X:Nat→Value):Gh where
 cl:=fun k=>if k=b then .own (d+1) 0 [] else match g.cl k with
  |.own 0 q ρ=>.own (d+1) 0 ((q/sz,q%sz)::ρ)
  |c=>c
 hd:=fun r j ρ=>if r=d+1 then (match ρ with
  |[]=>hdr
  |(i,c)::rB=>if rB=[] then X (i*sz+c) else g.hd 0 (i*sz+c) rB) else g.hd r j ρ
 bk:=g.bk
theorem h_.oY {w':World} (gw:∀b,g.cl b≠.no→b<w.heap.size) {d sz:Nat} {hdr:Value} {X:Nat→Value}
 (hp:∀b,b<w.heap.size→w'.heap[b]?=w.heap[b]?) (hs:w'.heap.size=w.heap.size+1) (gD:il w w'):h_ d w w' g (g.oY d w.heap.size sz hdr X):=by
 have jI:g.cl w.heap.size=.no:=by
  by_cases h:g.cl w.heap.size=.no
  ·exact h
  ·exact absurd (gw _ h) (Nat.lt_irrefl _)
 have cE:∀b c,g.cl b=c→c≠.no→b≠w.heap.size:=fun b c h hc e=>by subst e;rw [jI] at h;exact hc h.symm
 refine { hp:=fun b h _=>hp b h,hs:=by omega,kc:=fun b k=>?_,cl:=fun b n j ρ h hn=>?_,bx:=fun b n h hn=>?_,hd:=fun n j ρ hn=>by simp [Gh.oY,hn],
          bk:=fun n hn=>rfl,bd:=fun b h=>?_,mi:=fun b hb h=>?_,sd:=gD }
 ·simp only [Gh.oY];split
  ·rename_i e;subst e;rw [jI];cases k<;>simp [OM.kc]
  ·cases h:g.cl b with
   |own r j ρ=>cases r<;>cases k<;>simp [OM.kc]
   |_=>exact .rfl
 ·simp [Gh.oY,cE b _ h (by simp),h]
 ·simp [Gh.oY,cE b _ h (by simp),h]
 ·by_cases e:b=w.heap.size
  ·exact .inr ⟨by omega,by omega⟩
  ·left;intro h0;simp [Gh.oY,e,h0] at h
 ·have e:b≠w.heap.size:=by omega
  simp only [Gh.oY,if_neg e] at h;cases h0:g.cl b<;>rw [h0] at h<;>first|rfl|(simp [gR.eG] at h)
theorem abH (R:Rel w0 cl0 S a.tmps w g) (hn:(S.ms d).1=none) {w':World} {sz cap:Nat} {es:List (List D)} {vals:Array Value} {E:TypeId}
 (hp:∀b,b<w.heap.size→w'.heap[b]?=w.heap[b]?) (hs:w'.heap.size=w.heap.size+1) (gD:il w w') (ie:w'.heap[w.heap.size]?=some (.cells vals E))
 (hl:∀e∈es,e.length=sz) (ew:es.length≤cap) (hN:cap*sz≤vals.size)
 (hc:∀(i c:Nat) (e:List D) (d:D) (x:Value),es[i]?=some e→e[c]?=some d→vals[i*sz+c]?=some x→Hd w g (i*sz+c) d x):
 kq w0 cl0 S a.tmps d (.pl d 0 []) (some (.aX [.own (.sl sz es)])) S.ms (.slice (some ⟨w.heap.size,0,none⟩) es.length cap) w':=by
 have H:=h_.oY (w:=w) (w':=w') (g:=g) R.bd (d:=d) (sz:=sz) (hdr:=.slice (some ⟨w.heap.size,0,none⟩) es.length cap) (X:=fun k=>vals.getD k undef) hp hs gD;refine ⟨_,R.fresh hn H ?_ ?_,?_,?_⟩
 ·intro j c hj;cases j with
  |succ j=>simp at hj
  |zero=>
   simp at hj;subst hj;refine .own _ _ ?_
   have fk:(g.oY d w.heap.size sz (.slice (some ⟨w.heap.size,0,none⟩) es.length cap) fun k=>vals.getD k undef).hd (d+1) 0 []=
    .slice (some ⟨w.heap.size,0,none⟩) es.length cap:=by simp [Gh.oY]
   rw [fk];refine .sl _ _ _ w.heap.size 0 cap vals E fk (by simp [Gh.oY]) hl ew ie (by omega) (fun i c e dd x he hd hx=>?_);simp only [zh,zx] at hx ⊢;have fY:c<sz:=by have:=pA hl he;have:=cY hd;omega
   have hdiv:(i*sz+c)/sz=i:=by
    rw [zq,Nat.mul_add_div (by omega),Nat.div_eq_of_lt fY];rfl
   have KW:(i*sz+c)%sz=c:=by
    rw [zq,Zk,zV fY]
   refine (hc i c e dd x he hd hx).place (fun b ρ hb=>?_) (fun ρ oe=>?_) ?_
   ·have ai:=R.bd b (by rw [hb];simp);refine ⟨hp b ai,?_⟩;have:b≠w.heap.size:=by omega
    simp [Gh.oY,this,hb,hdiv,KW]
   ·simp [Gh.oY,oe]
   ·simp only [Gh.oY,if_true,zD,hx,Option.getD_some]
 ·intro j r1 j1 hj;cases j<;>simp [Rt.cells] at hj
 ·exact .pl _ _ _ _ _ _ fun _=>by simp [Gh.oY]
 ·intro r hr;simp [AV.refs] at hr;subst hr;simp [bO]
end
end
section
section
variable {P:Program} {κ:Nat→FuncId} {w0:World} {cl0:fS} {S:St} {w:World} {g:Gh} {a:Act} {Γ:Env} {d:Nat}
theorem WR:∀(l:List Value) (n off:Nat) (cs:Array Value),
 ((l.zipIdx n).foldl (fun cs (x:Value×Nat)=>cs.setIfInBounds (off+x.2) x.1) cs).size=cs.size∧
 ∀k:Nat,off+n+l.length≤cs.size→
  ((l.zipIdx n).foldl (fun cs (x:Value×Nat)=>cs.setIfInBounds (off+x.2) x.1) cs)[k]?=if off+n≤k∧k<off+n+l.length then l[k-(off+n)]? else cs[k]?:=by
 intro l;induction l with
 |nil=>intro n off cs;simp;intro k h1 h2 h3;omega
 |cons v l ih=>
  intro n off cs;simp only [List.zipIdx_cons,List.foldl_cons];obtain ⟨h1,h2⟩:=ih (n+1) off (cs.setIfInBounds (off+n) v);refine ⟨by rw [h1];simp,fun k hk=>?_⟩;simp only [zJ] at hk;rw [h2 k (by simp;omega)];by_cases e1:off+(n+1)≤k∧k<off+(n+1)+l.length
  ·rw [if_pos e1,if_pos (by simp only [zJ];omega),show k-(off+n)=(k-(off+(n+1)))+1 from by omega];simp
  ·rw [if_neg e1];by_cases e2:k=off+n
   ·subst e2;rw [if_pos (by simp only [zJ];omega)];simp [show off+n<cs.size from by omega]
   ·rw [if_neg (by simp only [zJ];omega)];rw [Array.getElem?_setIfInBounds_ne (by omega)]
theorem WJ {place:Nat→Option (Nat×Nat)} {cells:Array Value} {i off n:Nat} {v:Value} {rest:List (Nat×Value)} (hp:place i=some (off,n))
 (hn:v.cells.size=n) (hb:off+n≤cells.size):∃lk,Instr.fill place cells ((i,v)::rest)=Instr.fill place lk rest∧lk.size=cells.size∧
  ∀k:Nat,lk[k]?=if off≤k∧k<off+n then v.cells[k-off]? else cells[k]?:=by
 refine ⟨(v.cells.toList.zipIdx 0).foldl (fun cs x=>cs.setIfInBounds (off+x.2) x.1) cells,?_,(WR _ _ _ _).1,fun k=>?_⟩
 ·have h1:¬((decide (v.cells.size≠n)||decide (off+v.cells.size>cells.size))=true):=by simp;omega
  simp only [Instr.fill,hp,h1,zr,if_false];rw [←Array.foldl_toList,Array.toList_zipIdx]
 ·rw [(WR v.cells.toList 0 off cells).2 k (by simp;omega)];simp [hn]
theorem EK {α:Type} {l xs:List α} {o k:Nat} (h:o+xs.length≤l.length):
 (mV l o xs)[k]?=if o≤k∧k<o+xs.length then xs[k-o]? else l[k]?:=by
 unfold mV;by_cases h1:k<o
 ·rw [if_neg (by omega),zS,zf (by simp;omega),List.getElem?_take_of_lt h1]
 ·by_cases h2:k<o+xs.length
  ·rw [if_pos ⟨by omega,h2⟩,zS,ze (by simp;omega)];simp only [Zi];rw [show min o l.length=o from by omega,zf (by omega)]
  ·rw [if_neg (by omega),ze (by simp;omega)];simp only [zQ,Zi,zy];rw [show min o l.length=o from by omega];congr 1;omega
theorem Iv {α:Type} {l xs:List α} {o:Nat} (h:o+xs.length≤l.length):(mV l o xs).length=l.length:=by
 simp [mV];omega
theorem ae2 (R:Rel w0 cl0 S a.tmps w g) {place at?:Nat→Option (Nat×Nat)} (cN:∀i off n,at? i=some (off,n)→place i=some (off,n)):
 ∀(ps:List (Nat×Nat×PX)) (parts:List (Nat×Operand)) (z l:List AV) (cells:Array Value),Bw at? ps parts=true→
  BA z (ps.map fun x=>(x.1,x.2.1,S.ev x.2.2))=some l→z.length=cells.size→(∀(k:Nat) (b:AV) (x:Value),z[k]?=some b→cells[k]?=some x→RA w g S.ms b x∧Live S.ms b)→
  ∃lk,Instr.fill place cells (parts.map fun x=>(x.1,a.eval x.2))=some lk∧l.length=lk.size∧
   ∀(k:Nat) (b:AV) (x:Value),l[k]?=some b→lk[k]?=some x→RA w g S.ms b x∧Live S.ms b:=by
 intro ps;induction ps with
 |nil=>
  intro parts z l cells hc h hz hg;cases parts with
  |nil=>simp [BA] at h;subst h;exact ⟨cells,by simp [Instr.fill],hz,hg⟩
  |cons=>simp [Bw] at hc
 |cons p ps ih=>
  intro parts z l cells hc h hz hg;obtain ⟨off,n,x⟩:=p;cases parts with
  |nil=>simp [Bw] at hc
  |cons pt parts=>
   obtain ⟨i,ox⟩:=pt;simp only [Bw,zd,decide_eq_true_eq] at hc;obtain ⟨⟨h1,h2⟩,h3⟩:=hc;simp only [zF,BA] at h;split at h
   ·rename_i jb;obtain ⟨hn,hb,BS⟩:=jb;have e:=en R h2;obtain ⟨aD,fu⟩:=Fe e.1 BS;obtain ⟨lk,hf,hs,cF⟩:=WJ (v:=a.eval ox) (rest:=parts.map fun x=>(x.1,a.eval x.2)) (cN i off n h1) (by omega) (show off+n≤cells.size by omega);have hlen:=Iv (l:=z) (xs:=(S.ev x).cells) (o:=off) (by omega)
    obtain ⟨c2,xi,dy,ey⟩:=ih parts _ l lk h3 h (by omega) (fun k b y cW hy=>by
     rw [EK (by omega)] at cW;rw [cF k] at hy;rw [hn] at cW;split at cW
     ·rename_i hk;rw [if_pos hk] at hy;refine ⟨fu _ b y cW hy,?_⟩;intro r hr;refine e.2 r ?_;cases dX:S.ev x with
      |agg cs=>
       rw [dX] at cW;have lv:cs[k-off]?=some b:=cW;simpa [AV.refs] using Gb lv hr
      |_=>
       rw [dX] at cW;simp only [AV.cells] at cW;cases BK:k-off with
       |zero=>rw [BK] at cW;simp at cW;subst cW;exact hr
       |succ m=>rw [BK] at cW;simp at cW
     ·rename_i hk;rw [if_neg hk] at hy
      exact hg k b y cW hy)
    exact ⟨c2,by simp only [zF];rw [hf];exact xi,dy,ey⟩
   ·cases h
theorem run_places {fs:Array Field} (h:∀f∈fs.toList,∃i,P.info? f.type=some i):
 (fs.mapM fun f=>(do pure (f.offset,←sizeOf f.type):Sem (Nat×Nat))).run P w=.ok (fs.map fun f=>(f.offset,P.cellsOf f.type)) w:=by
 obtain ⟨l⟩:=fs;rw [Array.mapM_eq_mapM_toList];simp only at h
 have:(l.mapM fun f=>(do pure (f.offset,←sizeOf f.type):Sem (Nat×Nat))).run P w=.ok (l.map fun f=>(f.offset,P.cellsOf f.type)) w:=by
  induction l with
  |nil=>simp
  |cons f l ih=>
   obtain ⟨i,hi⟩:=h f (by simp);have:=ih (fun f hf=>h f (by simp [hf]));have hs:(sizeOf f.type).run P w=.ok (P.cellsOf f.type) w:=by simp [sizeOf,typeInfo,hi,Program.cellsOf]
   simp only [List.mapM_cons,Sem.run_bind,this,hs,Result.andThen_ok,Sem.run_pure,zF]
 rw [Sem.run_map,this];simp
theorem aja {m:Ms}:∀(l:List AV),(∀(k:Nat) (av:AV),l[k]?=some av→Live m av)→∀r∈AV.ea l,((m r).1).isSome:=by
 intro l;induction l with
 |nil=>intro _ r h;simp [AV.ea] at h
 |cons b bs ih=>
  intro h1 r h2;simp only [AV.ea,zz] at h2;rcases h2 with h2|h2
  ·exact h1 0 b rfl r h2
  ·exact ih (fun k av hk=>h1 (k+1) av hk) r h2
theorem ae1 {t:TypeId} {f off n:Nat} (h:yq P t f=some (off,n)):∃fs fd,P.underlying t=some (.struct fs)∧fs[f]?=some fd∧fd.offset=off∧P.cellsOf fd.type=n:=by
 unfold yq at h;split at h
 ·rename_i fs hu;split at h
  ·rename_i fd yB;split at h
   ·rename_i i hi;simp at h;exact ⟨fs,fd,hu,yB,h.1,by simp [Program.cellsOf,hi,h.2]⟩
   ·cases h
  ·cases h
 ·cases h
theorem ajU (R:Rel w0 cl0 S a.tmps w g) {z:List AV} {ps:List (Nat×Nat×PX)} {op:Op} {av:AV} {rt:Option Rt} {m':Ms}
 (hc:cv P κ (.build z ps) op=true) (h:bh Γ S.ev d S.ms (.build z ps)=some (av,rt,m')):lW P S w g a av rt m' op:=by
 cases op with
 |build t parts=>?_
 |_=>simp [cv] at hc
 simp only [cv,zd] at hc;obtain ⟨⟨hz,Ds⟩,KF⟩:=hc;split at hz
 ·rename_i zl ny;obtain ⟨i,zv,hi,pO,pM,oU⟩:=Bm ny;obtain ⟨hl,hg⟩:=V7 z zl hz;simp only [bh] at h;split at h
  ·rename_i l oO;simp at h;obtain ⟨rfl,rfl,rfl⟩:=h;refine ⟨rfl,rfl,fun o ho=>?_⟩;split at KF
   ·rename_i fs hu
    have agN:∀f∈fs.toList,∃i,P.info? f.type=some i:=by
     intro f hf;have:=zb.1 KF f hf;cases hh:P.info? f.type with
     |none=>simp [hh] at this
     |some i=>exact ⟨i,rfl⟩
    obtain ⟨lk,FP,dy,eA⟩:=ae2 R (place:=((fs.map fun f=>(f.offset,P.cellsOf f.type))[·]?)) (at?:=yq P t) (fun i off n h=>by
     obtain ⟨fs',fd,hu',yB,h1,h2⟩:=ae1 h;rw [hu] at hu';cases hu'
     simp [yB,h1,h2]) ps parts.toList z l zv.cells Ds oO (by rw [hl,←pM];simp) (fun k b x hb hx=>by
      have:=Jt (w:=w) (g:=g) (m:=S.ms) (hg k b x hb (by rw [←pM];simpa using hx))
      exact ⟨this.1,fun r hr=>by rw [this.2] at hr;cases hr⟩)
    refine ⟨.agg lk,?_,.agg _ _ dy (fun k b x hb hx=>(eA k b x hb hx).1),?_⟩
    ·have ahz:=run_places (P:=P) (w:=w) agN;have FX:(parts.map fun x=>(x.1,a.eval x.2)).toList=parts.toList.map fun x=>(x.1,a.eval x.2):=by simp
     simp only [execOp,ho,Instr.build,Sem.run_bind,zeroValue,typeInfo,run_program,hi,Result.andThen_ok,pO,Sem.run_pure,run_underlying hu,ahz];rw [FX,FP];rfl
    ·intro r hr;simp only [AV.refs] at hr;refine aja l (fun k b hk=>?_) r hr;have ai:=cY hk;exact (eA k b lk[k] hk (by simp [show k<lk.size from by omega])).2
   ·cases KF
  ·cases h
 ·cases hz
theorem acn {α:Type} (l:List α):∀(n k:Nat),k<n*l.length→(rep n l)[k]?=l[k%l.length]?:=by
 intro n;induction n with
 |zero=>intro k h;simp at h
 |succ n ih=>
  intro k h;rw [zt] at h;simp only [rep,Zc,List.flatten_cons];by_cases hk:k<l.length
  ·rw [zf hk,zV hk]
  ·rw [ze (by omega)];have:=ih (k-l.length) (by omega);simp only [rep] at this;rw [this];congr 1;rw [Nat.mod_eq_sub_mod (a:=k) (by omega)]
theorem aj9 (R:Rel w0 cl0 S a.tmps w g) {sz bytes:Nat} {z:List D} {x:PX} {op:Op} {av:AV} {rt:Option Rt} {m':Ms} (hn:(S.ms d).1=none)
 (hc:cv P κ (.lH sz bytes z x) op=true) (h:bh Γ S.ev d S.ms (.lH sz bytes z x)=some (av,rt,m')) (o:Oper) (ho:o.op=op):
 ∃v w',(execOp a.eval o).run P w=.ok (.value v) w'∧kq w0 cl0 S a.tmps d av rt m' v w':=by
 cases op with
 |makeSlice t ol oc=>?_
 |_=>simp [cv] at hc
 simp only [cv] at hc;split at hc
 ·rename_i e he;split at hc
  ·rename_i zl s1 gl ny jg;obtain ⟨i,zv,hi,pO,pM,oU⟩:=Bm ny;simp only [zd,decide_eq_true_eq] at hc;obtain ⟨⟨⟨⟨⟨h1,h2⟩,h3⟩,h4⟩,h5⟩,h6⟩:=hc;obtain ⟨hl,hg⟩:=Jv z zl h3;unfold la at jg;rw [hi] at jg;simp at jg;simp only [bh] at h;split at h
   ·rename_i n uO;split at h
    ·rename_i jb;obtain ⟨h0,hb⟩:=jb;simp at h;obtain ⟨rfl,rfl,rfl⟩:=h;obtain ⟨k1,hk1⟩:=Bs (en R h4).1 uO;obtain ⟨k2,tx⟩:=Bs (en R h5).1 uO
     have hu:P.underlying t=some (.slice e):=by
      unfold l_ at he;split at he<;>simp_all
     have dM:i.size=sz:=by rw [←oU,←h1,←pM];simp
     have hbb:i.bytes=bytes:=by rw [jg.2,h2]
     have lv:i.bytes*n.toNat≤2^47:=by rw [hbb,zq];exact hb
     have hb3:(i.bytes:Int)*n≤281474976710656:=by
      have:((i.bytes*n.toNat:Nat):Int)≤2^47:=by exact_mod_cast lv
      rw [Int.natCast_mul,Int.toNat_of_nonneg h0] at this;omega
     have hb4:n.toNat≤2^47:=Zd (Nat.le_mul_of_pos_right _ h6) hb;have gC:=run_make (P:=P) w t e i zv hu hi pO k1 k2 n n h0 (Int.le_refl _) hb3 (by omega)
     have ahH:(execOp a.eval o).run P w=.ok (.value (.slice (some ⟨w.heap.size,0,none⟩) n.toNat n.toNat)) (w.alloc (.cells (madeCells zv.cells (n.toNat*i.size)) e)):=by
      simp only [execOp,ho,hk1,tx,Sem.run_bind,gC,Result.andThen_ok,Sem.run_pure]
     refine ⟨_,_,ahH,?_⟩
     have oR:=abH (d:=d) (a:=a) R hn (w':=w.alloc (.cells (madeCells zv.cells (n.toNat*i.size)) e)) (sz:=sz) (cap:=n.toNat) (es:=zj n.toNat z)
      (vals:=madeCells zv.cells (n.toNat*i.size)) (E:=e) (fun b hb=>heap_alloc_old w _ b hb) (by simp) (.alloc _ _) (heap_alloc_new w _)
      (fun l FT=>by rw [List.eq_of_mem_replicate FT];omega) (by simp) (by rw [size_madeCells,dM];exact zn _) (fun q c el dd y js lx hy=>by
       have hq:=cY js;simp at hq;rw [zW] at js;simp [hq] at js;subst js;have hcz:=cY lx;have aD:c<zl.length:=by omega
       have agL:q*sz+c<n.toNat*i.size:=by
        have:(q+1)*sz≤n.toNat*sz:=zo _ (by omega);rw [zt] at this;rw [dM];omega
       have KW:(q*sz+c)%zv.cells.size=c:=by
        rw [oU,dM,zq,Zk,zV (by omega)]
       have Ay:zv.cells[c]?=zl[c]?:=by rw [←pM];simp
       rw [zg aD] at Ay
       have:y=zl[c]:=by
        simp only [madeCells,Ze,z_,if_pos agL,zL,zG] at hy;rw [←hy,KW];rw [getElem!_def,Ay]
       subst this
       exact Fg (hg c dd _ lx (by simp [aD])))
     simpa using oR
    ·cases h
   ·cases h
  ·cases hc
 ·cases hc
end
end
section
section
variable {P:Program} {κ:Nat→FuncId} {w0:World} {cl0:fS} {S:St} {w:World} {g:Gh} {a:Act} {Γ:Env} {d:Nat}
theorem ae4 {sz:Nat}:∀(ps:List (Nat×PX)) (parts:List (Nat×Operand)) {S:St} {g:Gh} (R:Rel w0 cl0 S a.tmps w g) (l l':List D) (cells:Array Value) (m':Ms),
 By (fun i=>some (i*sz,sz)) ps parts=true→th S.ms sz l (ps.map fun x=>(x.1,S.ev x.2))=some (l',m')→l.length=cells.size→
 (∀(k:Nat) (b:D) (x:Value),l[k]?=some b→cells[k]?=some x→Hd w g k b x)→
 ∃g' lk,Rel w0 cl0 { S with ms:=m' } a.tmps w g'∧Instr.fill (fun i=>some (i*sz,sz)) cells (parts.map fun x=>(x.1,a.eval x.2))=some lk∧l'.length=lk.size∧
  (∀(k:Nat) (b:D) (x:Value),l'[k]?=some b→lk[k]?=some x→Hd w g' k b x)∧(∀r,(S.ms r).1=none→(m' r).1=none)∧l'.length=l.length:=by
 intro ps;induction ps with
 |nil=>
  intro parts S g R l l' cells m' hc h hz hg;cases parts with
  |nil=>simp [th] at h;obtain ⟨rfl,rfl⟩:=h;exact ⟨g,cells,R,by simp [Instr.fill],hz,hg,fun _ h=>h,rfl⟩
  |cons=>simp [By] at hc
 |cons p ps ih=>
  intro parts S g R l l' cells m' hc h hz hg;obtain ⟨off,x⟩:=p;cases parts with
  |nil=>simp [By] at hc
  |cons pt parts=>
   obtain ⟨i,ox⟩:=pt;simp only [By,zd,beq_iff_eq] at hc;obtain ⟨⟨rfl,h2⟩,h3⟩:=hc;simp only [zF,th] at h;cases h4:jC S.ms (S.ev x).cells with
   |none=>simp [h4] at h
   |some cm=>
    obtain ⟨cs,m1⟩:=cm;simp only [h4] at h;cases h5:wK cs with
    |none=>simp [h5] at h
    |some ds=>
     simp only [h5] at h;split at h
     ·rename_i jb;obtain ⟨hn,hb⟩:=jb;have e:=(en R h2).1;obtain ⟨aD,fu⟩:=Fe e (abt h4)
      obtain ⟨g1,R1,T1,tz,rU⟩:=I_ (S.ev x).cells R (vals:=(a.eval ox).cells.toList) (i*sz) (by simpa using aD)
       (fun k b y hb hy=>fu k b y hb (by simpa using hy)) h4
      obtain ⟨dL,KC⟩:=adh cs h5
      obtain ⟨aej,hf,hs,cF⟩:=WJ (place:=fun i=>some (i*sz,sz)) (cells:=cells) (v:=a.eval ox) (rest:=parts.map fun x=>(x.1,a.eval x.2)) (i:=i) rfl
       (by omega) (by omega)
      have hlen:=Iv (l:=l) (xs:=ds) (o:=i*sz) (by omega)
      obtain ⟨g2,c2,R2,xi,dy,ey,jI,fc⟩:=ih parts (S:={ S with ms:=m1 }) R1 (mV l (i*sz) ds) l' aej m' h3 h (by omega) (fun k b y cW hy=>by
       rw [EK (by omega)] at cW;rw [cF k] at hy;rw [hn] at cW;split at cW
       ·rename_i hk;rw [if_pos hk] at hy;have ai:=cY cW;have iX:cs[k-i*sz]?=some cs[k-i*sz]:=by simp [show k-i*sz<cs.length from by omega]
        have:=adg (rU (k-i*sz) _ y iX (by simpa using hy)) (KC _ _ _ iX cW);rwa [show i*sz+(k-i*sz)=k from by omega] at this
       ·rename_i hk;rw [if_neg hk] at hy
        exact T1.lx (by omega) (hg k b y cW hy))
      exact ⟨g2,c2,R2,by simp only [zF];rw [hf];exact xi,dy,ey,fun r hr=>jI r (T1.no r hr),by omega⟩
     ·cases h
theorem V9:∀(n sz:Nat) (l:List D) (i c:Nat) (e:List D),(chunks sz n l)[i]?=some e→i<n∧e=(l.drop (i*sz)).take sz:=by
 intro n;induction n with
 |zero=>intro sz l i c e h;simp [chunks] at h
 |succ n ih=>
  intro sz l i c e h;simp only [chunks] at h;cases i with
  |zero=>simp at h;exact ⟨by omega,by simp [h]⟩
  |succ i=>
   simp only [List.getElem?_cons_succ] at h;obtain ⟨h1,h2⟩:=ih sz _ i c e h;refine ⟨by omega,?_⟩;rw [h2,List.drop_drop];congr 2;rw [zt];omega
theorem V_:∀(n sz:Nat) (l:List D),(chunks sz n l).length=n:=by
 intro n;induction n with
 |zero=>intros;rfl
 |succ n ih=>intro sz l;simp [chunks,ih]
theorem ajT (R:Rel w0 cl0 S a.tmps w g) {sz n:Nat} {z:List D} {ps:List (Nat×PX)} {op:Op} {av:AV} {rt:Option Rt} {m':Ms} (jH:(m' d).1=none)
 (hc:cv P κ (.bZ sz z n ps) op=true) (h:bh Γ S.ev d S.ms (.bZ sz z n ps)=some (av,rt,m')) (o:Oper) (ho:o.op=op):
 ∃v w',(execOp a.eval o).run P w=.ok (.value v) w'∧kq w0 cl0 S a.tmps d av rt m' v w':=by
 cases op with
 |buildSlice t n' parts=>?_
 |_=>simp [cv] at hc
 simp only [cv] at hc;split at hc
 ·rename_i e he;split at hc
  ·rename_i zl ny;obtain ⟨i,zv,hi,pO,pM,oU⟩:=Bm ny;simp only [zd,decide_eq_true_eq] at hc;obtain ⟨⟨⟨⟨rfl,h2⟩,h3⟩,h4⟩,h5⟩:=hc;obtain ⟨hl,hg⟩:=Jv z _ h4
   have hu:P.underlying t=some (.slice e):=by
    unfold l_ at he;split at he<;>simp_all
   have dM:i.size=sz:=by rw [←oU,←h2,←pM];simp
   have qZ:(rep n zl).length=n*sz:=by rw [←h2];clear hl hg h4;induction n with
    |zero=>simp [rep]
    |succ n ih=>simp [rep,zt] at *
   simp only [bh] at h;split at h
   ·rename_i l m1 yB;simp at h;obtain ⟨rfl,rfl,rfl⟩:=h
    have hz0:∃zc:Array Value,((n*sz=0∧zc=#[])∨(n*sz≠0∧zc=zv.cells))∧
     ∀k:Nat,k<n*sz→((Zp (n*sz)).map (zc[·%zc.size]!))[k]?=(rep n zl)[k]?:=by
     by_cases hz:n*sz=0
     ·exact ⟨#[],.inl ⟨hz,rfl⟩,fun k hk=>by omega⟩
     ·refine ⟨zv.cells,.inr ⟨hz,rfl⟩,fun k hk=>?_⟩;have aa4:0<sz:=zA (fun e=>hz (by rw [e,Nat.mul_zero]));rw [acn zl n k (by rw [h2];exact hk)];have hm:k%zl.length<zl.length:=zU _ (by omega);simp only [Ze,z_,if_pos hk,zL]
      have Ay:zv.cells[k%zv.cells.size]?=zl[k%zl.length]?:=by
       rw [oU,dM,←h2,←pM];simp
      rw [zg hm] at Ay ⊢;rw [getElem!_def,Ay]
    obtain ⟨zc,hz1,qB⟩:=hz0
    obtain ⟨g1,lk,R1,FP,tz,qt,jI,fc⟩:=ae4 ps parts.toList R z l ((Zp (n*sz)).map (zc[·%zc.size]!)) m1 h5 yB (by simp;omega) (fun k b x hb hx=>by
     have hk:=cY hb;rw [qB k (by omega)] at hx
     exact Fg (hg k b x hb hx))
    have FX:(parts.map fun x=>(x.1,a.eval x.2)).toList=parts.toList.map fun x=>(x.1,a.eval x.2):=by simp
    have gC:(execOp a.eval o).run P w=.ok (.value (.slice (some ⟨w.heap.size,0,none⟩) n n)) (w.alloc (.cells lk e)):=by
     have h24:¬(n*sz>2^24):=by omega
     have vU:(sizeOf e).run P w=.ok sz w:=by simp [sizeOf,typeInfo,hi,dM]
     have aim:(zeroValue e).run P w=.ok zv w:=by simp [zeroValue,typeInfo,hi,pO]
     rcases hz1 with ⟨h8,rfl⟩|⟨h8,rfl⟩
     ·simp only [execOp,ho,Instr.buildSlice,Sem.run_bind,run_underlying hu,Result.andThen_ok,vU,h24,if_false,if_pos h8,Sem.run_pure];rw [FX,FP];simp [newRow]
     ·simp only [execOp,ho,Instr.buildSlice,Sem.run_bind,run_underlying hu,Result.andThen_ok,vU,h24,if_false,if_neg h8,Sem.run_pure,aim];rw [FX,FP];simp [newRow]
    refine ⟨_,_,gC,?_⟩
    have oR:=abH (S:={ S with ms:=m1 }) (d:=d) (a:=a) R1 jH (w':=w.alloc (.cells lk e)) (sz:=sz) (cap:=n) (es:=chunks sz n l)
     (vals:=lk) (E:=e) (fun b hb=>heap_alloc_old w _ b hb) (by simp) (.alloc _ _) (heap_alloc_new w _) (fun el pF=>by
      obtain ⟨q,hq⟩:=zk.1 pF;obtain ⟨h6,rfl⟩:=V9 n sz l q 0 el hq;have:(q+1)*sz≤n*sz:=zo _ h6;rw [zt] at this
      simp;omega) (by rw [V_];exact zn _) (by omega) (fun q c el dd y hq hd hy=>by
      obtain ⟨h6,rfl⟩:=V9 n sz l q c el hq;rw [zR] at hd;split at hd
      ·rw [zy] at hd;exact qt _ dd y hd hy
      ·cases hd)
    rw [V_] at oR;exact oR
   ·cases h
  ·cases hc
 ·cases hc
def C1:C→Prop
 |.ro _ d=>d≠.dead
 |.own d=>∃sz es,d=.sl sz es
 |.rf ..=>False
theorem adU {m m':Ms} {av:AV} {c:C} (h:iA m av=some (c,m')):C1 c:=by
 unfold iA at h;split at h
 ·cases h
 ·rename_i hd;simp at h;obtain ⟨rfl,rfl⟩:=h;exact fun e=>hd e
 ·simp at h;obtain ⟨rfl,rfl⟩:=h;exact ⟨_,_,rfl⟩
 ·split at h
  ·rename_i ht;simp at h;obtain ⟨rfl,rfl⟩:=h;obtain ⟨sz,es,_,_,rfl,_⟩:=Bd ht;exact ⟨_,_,rfl⟩
  ·cases h
 ·split at h
  ·simp at h;obtain ⟨rfl,rfl⟩:=h;exact ⟨_,_,rfl⟩
  ·cases h
 ·cases h
theorem adV:∀(as:List AV) {m m':Ms} {cs:List C},jC m as=some (cs,m')→∀c∈cs,C1 c:=by
 intro as;induction as with
 |nil=>intro m m' cs h;simp [jC] at h;obtain ⟨rfl,rfl⟩:=h;intro c hc;cases hc
 |cons a as ih=>
  intro m m' cs h;simp only [jC] at h;cases h1:iA m a with
  |none=>simp [h1] at h
  |some cm=>
   obtain ⟨c,m1⟩:=cm;simp only [h1] at h;cases h2:jC m1 as with
   |none=>simp [h2] at h
   |some V'=>
    simp only [h2] at h;simp at h;obtain ⟨rfl,rfl⟩:=h;intro c' xh;rcases Zm.1 xh with rfl|xh
    ·exact adU h1
    ·exact ih h2 c' xh
theorem aaa {r j:Nat} {c:C} {x:Value} (h:RC w g r j c x) (hg:C1 c):x.oneCell'=true:=by
 cases h with
 |ro k d _ hr=>
  cases hr with
  |dead=>exact absurd rfl hg
  |_=>rfl
 |own d _ ho=>
  obtain ⟨sz,es,rfl⟩:=hg;obtain ⟨b,n,c,rfl⟩:=ho.slice;rfl
 |rf=>exact hg.elim
def Gh.sb (g:Gh) (r j n:Nat) (K:Nat→Bool) (X:Nat→Value):Gh where
 cl:=fun k=>match g.cl k with
  |.own 0 q ρ=>if q<n∧K q=true then .own (r+1) (j+q) ρ else .own 0 q ρ
  |c=>c
 hd:=fun r1 j1 ρ=>if r1=r+1∧j≤j1∧j1<j+n∧K (j1-j)=true then (if ρ=[] then X (j1-j) else g.hd 0 (j1-j) ρ) else g.hd r1 j1 ρ
 bk:=g.bk
theorem Gh.acD {r j n:Nat} {K:Nat→Bool} {X:Nat→Value} {b:Nat} {k:Bool}:(g.sb r j n K X).cl b=kc k↔g.cl b=kc k:=by
 simp only [Gh.sb];cases h:g.cl b with
 |own r1 j1 ρ=>
  cases r1 with
  |zero=>simp only [];split<;>cases k<;>simp [kc]
  |succ r1=>exact .rfl
 |_=>exact .rfl
theorem Gh.ali {r j n:Nat} {K:Nat→Bool} {X:Nat→Value} {b:Nat}:((g.sb r j n K X).cl b).eG=(g.cl b).eG:=by
 simp only [Gh.sb];cases h:g.cl b with
 |own r1 j1 ρ=>
  cases r1 with
  |zero=>simp only [];split<;>rfl
  |succ r1=>rfl
 |_=>rfl
theorem Gh.alj {r j n:Nat} {K:Nat→Bool} {X:Nat→Value} {b:Nat}:(g.sb r j n K X).cl b=.no↔g.cl b=.no:=by
 simp only [Gh.sb];cases h:g.cl b with
 |own r1 j1 ρ=>
  cases r1 with
  |zero=>simp only [];split<;>simp
  |succ r1=>simp
 |_=>simp
theorem ajF:∀(q j:Nat) (os ns:List C) (o n:C),os[q]?=some o→ns[q]?=some n→(o.dt&&n.dt)=false→(j+q,[])∈sa j os ns:=by
 intro q;induction q with
 |zero=>
  intro j os ns o n ho hn hk;cases os with
  |nil=>simp at ho
  |cons o' os=>
   cases ns with
   |nil=>simp at hn
   |cons n' ns=>
    simp at ho hn;subst ho;subst hn;simp only [sa];rw [if_neg (by rw [hk];simp)];simp
 |succ q ih=>
  intro j os ns o n ho hn hk;cases os with
  |nil=>simp at ho
  |cons o' os=>
   cases ns with
   |nil=>simp at hn
   |cons n' ns=>
    simp at ho hn;have:=ih (j+1) os ns o n ho hn hk;rw [show j+(q+1)=j+1+q from by omega];simp only [sa];split
    ·exact this
    ·exact zM _ this
theorem Mz {m:Ms} {r j:Nat} {k p:bQ} (h:(j,k)∈(m r).2) (ht:pW k p=true):m.eC r j p=true:=by
 simp only [Ms.eC,zK];exact ⟨(j,k),h,by simp [ht]⟩
theorem amN (p:bQ):pW [] p=true:=by cases p<;>rfl
def W_:C→Prop
 |.ro _ _=>True
 |.own d=>∃sz es,d=.sl sz es
 |.rf ..=>False
theorem alQ (R:Rel w0 cl0 S a.tmps w g) {r j:Nat} {cs0 cs:List C} {vals:List Value} {kl:List (Nat×bQ)} (hm:S.ms r=(some (.bx cs0),kl)) (hb:j+cs.length≤cs0.length)
 (pH:vals.length=cs.length) (xk:∀c∈cs,W_ c) (uP:∀x∈vals,x.oneCell'=true) (hh:∀(i:Nat) (c:C) (x:Value),cs[i]?=some c→vals[i]?=some x→RC w g 0 i c x):
 ∃w' g',(storeCells ⟨g.bk r,j,none⟩ vals 0).run P w=.ok () w'∧
  Rel w0 cl0 { S with ms:=bO S.ms r (some (.bx (mV cs0 j cs)),sa j (cs0.drop j) cs++kl) } a.tmps w' g':=by
 have fw:=R.rt r (.bx cs0) (by rw [hm]);obtain ⟨aD,am5,E,hw,hs,fT⟩:=fw;obtain ⟨w',iK,gC,ie,FZ,cF,xq,vU,gD⟩:=US P hw vals (o:=j) (by omega) uP
 let K:Nat→Bool:=fun q=>!(((cs0.drop j).getD q (.own .dead)).dt&&(cs.getD q (.own .dead)).dt)
 have agS:∀q,q<cs.length→K q=true→∀ρ,Ms.eC (bO S.ms r (some (.bx (mV cs0 j cs)),sa j (cs0.drop j) cs++(S.ms r).2)) r (j+q) ρ=true:=by
  intro q hq hK ρ;refine Mz (k:=[]) ?_ (amN _);simp only [qK];refine zz.2 (.inl ?_)
  have h1:(cs0.drop j)[q]?=some ((cs0.drop j).getD q (.own .dead)):=by
   have:q<(cs0.drop j).length:=by simp;omega
   simp only [zu,zg this];rfl
  have h2:cs[q]?=some (cs.getD q (.own .dead)):=by
   simp only [zu,zg hq];rfl
  refine ajF q j _ _ _ _ h1 h2 ?_;simp only [K] at hK;revert hK;generalize (((cs0.drop j).getD q (.own .dead)).dt&&(cs.getD q (.own .dead)).dt)=b;cases b<;>simp
 have g9:∀b k,g.cl b=kc k→w'.heap[b]?=w.heap[b]?∧(g.sb r j cs.length K (fun q=>vals.getD q undef)).cl b=kc k:=fun b k h=>
  ⟨xq b (fun e=>by subst e;rw [aD] at h;cases k<;>simp [kc] at h),Gh.acD.2 h⟩
 have Dq:∀b n j1 ρ,g.cl b=.own n j1 ρ→w'.heap[b]?=w.heap[b]?:=fun b n j1 ρ h=>xq b (fun e=>by subst e;rw [aD] at h;cases h)
 have hlen:=Iv (l:=cs0) (xs:=cs) (o:=j) hb;refine ⟨w',g.sb r j cs.length K (fun q=>vals.getD q undef),gC,?_⟩;have jd:(sa j (cs0.drop j) cs++kl)=sa j (cs0.drop j) cs++(S.ms r).2:=by rw [hm]
 rw [jd];refine R.V6 (b0:=g.bk r) (rt:=.bx cs0) (rt':=.bx (mV cs0 j cs)) (by rw [hm]) rfl ?_ ?_ ?_
 ·refine { hp:=xq,hs:=vU,ow:=.inl aD,kc:=fun b k=>Gh.acD,cl:=fun b n j1 ρ h=>by simp [Gh.sb,h],bx:=fun b n h=>by simp [Gh.sb,h],
           hd:=fun n j1 ρ hn=>by simp [Gh.sb,hn],hr:=fun j1 ρ hk=>?_,hv:=fun _ h=>by simp [Rt.AB] at h,bk:=rfl,bd:=fun b h=>by rwa [ne_eq,Gh.alj] at h,
           mi:=fun b h=>by rwa [Gh.ali] at h,sd:=gD }
  simp only [Gh.sb];split
  ·rename_i hc;obtain ⟨_,h1,h2,h3⟩:=hc;have:=agS (j1-j) (by omega) h3 ρ;rw [show j+(j1-j)=j1 from by omega] at this;rw [this] at hk;cases hk
  ·rfl
 ·refine ⟨by simp [Gh.sb,aD],iK,E,ie,by omega,fun k c x hc hx=>?_⟩;rw [EK hb] at hc;rw [cF k,pH] at hx;split at hc
  ·rename_i hk;rw [if_pos hk] at hx;have uQ:=hh (k-j) c x hc hx;have hg:=xk c (za hc);cases uQ with
   |ro kk dd _ hr=>exact .ro _ _ _ (hr.mono fun b hb=>g9 b kk hb)
   |own dd _ ho=>
    obtain ⟨sz,es,rfl⟩:=hg
    have hK:K (k-j)=true:=by
     simp only [K,zu,hc];simp [C.dt]
    refine .own _ _ (ho.mono (fun b ρ hb=>⟨Dq b _ _ _ hb,?_⟩) (fun ρ=>?_))
    ·simp only [Gh.sb,hb,zx];rw [if_pos ⟨by omega,hK⟩,show j+(k-j)=k from by omega]
    ·simp only [Gh.sb,zx];rw [if_pos ⟨trivial,hk.1,hk.2,hK⟩];split
     ·rename_i e;subst e;rw [←ho.nh];simp [zu,hx]
     ·rfl
   |rf=>exact hg.elim
  ·rename_i hk;rw [if_neg hk] at hx;refine (fT k c x hc hx).mono g9 (fun b ρ hb=>⟨Dq b _ _ _ hb,by simp [Gh.sb,hb]⟩) (fun ρ=>?_) (fun r1 j1 e=>?_)
   ·simp only [Gh.sb];rw [if_neg (by omega)]
   ·subst e;obtain ⟨csv,hv⟩:=R.jN r (.bx cs0) k r1 j1 (by rw [hm]) hc;have:r1≠r:=fun e=>by subst e;rw [hm] at hv;cases hv
    simp [Gh.sb,this]
 ·intro k r1 j1 hc;simp only [Rt.cells] at hc;rw [EK hb] at hc;split at hc
  ·exact (xk _ (za hc)).elim
  ·exact R.jN r (.bx cs0) k r1 j1 (by rw [hm]) hc
theorem afv {c:C} (h:C1 c):W_ c:=by
 cases c with
 |ro k d=>trivial
 |own d=>exact h
 |rf=>exact h.elim
theorem alP (R:Rel w0 cl0 S a.tmps w g) {r j:Nat} {cs0 cs:List C} {vals:List Value} {kl:List (Nat×bQ)} (hm:S.ms r=(some (.bx cs0),kl)) (hb:j+cs.length≤cs0.length)
 (pH:vals.length=cs.length) (xk:∀c∈cs,C1 c) (hh:∀(i:Nat) (c:C) (x:Value),cs[i]?=some c→vals[i]?=some x→RC w g 0 i c x):
 ∃w' g',(storeCells ⟨g.bk r,j,none⟩ vals 0).run P w=.ok () w'∧
  Rel w0 cl0 { S with ms:=bO S.ms r (some (.bx (mV cs0 j cs)),sa j (cs0.drop j) cs++kl) } a.tmps w' g':=by
 refine alQ R hm hb pH (fun c hc=>afv (xk c hc)) (fun x hx=>?_) hh;obtain ⟨i,hi⟩:=zk.1 hx;have ai:=cY hi;have BF:cs[i]?=some cs[i]:=by simp [show i<cs.length from by omega]
 exact aaa (hh i _ x BF hi) (xk _ (za BF))
end
end
section
section
variable {P:Program} {κ:Nat→FuncId} {w0:World} {cl0:fS} {S:St} {w:World} {g:Gh} {a:Act} {Γ:Env} {d:Nat}
def Gh.so (g:Gh) (r j:Nat) (p:bQ) (i c n:Nat) (K:Nat→Bool) (X:Nat→Value):Gh where
 cl:=fun k=>match g.cl k with
  |.own 0 q ρ=>if q<n∧K q=true then .own (r+1) j (p++(i,c+q)::ρ) else .own 0 q ρ
  |c=>c
 hd:=fun r1 j1 x_=>match x_.drop p.length with
  |(i',c')::ρ=>if r1=r+1∧j1=j∧p <+: x_∧i'=i∧c≤c'∧c'<c+n∧K (c'-c)=true then (if ρ=[] then X (c'-c) else g.hd 0 (c'-c) ρ) else g.hd r1 j1 x_
  |[]=>g.hd r1 j1 x_
 bk:=g.bk
section
variable {r j i c n:Nat} {p:bQ} {K:Nat→Bool} {X:Nat→Value}
theorem Gh.acH {b:Nat} {k:Bool}:(g.so r j p i c n K X).cl b=kc k↔g.cl b=kc k:=by
 simp only [Gh.so];cases h:g.cl b with
 |own r1 j1 ρ=>
  cases r1 with
  |zero=>simp only [];split<;>cases k<;>simp [kc]
  |succ r1=>exact .rfl
 |_=>exact .rfl
theorem Gh.alu {b:Nat}:((g.so r j p i c n K X).cl b).eG=(g.cl b).eG:=by
 simp only [Gh.so];cases h:g.cl b with
 |own r1 j1 ρ=>
  cases r1 with
  |zero=>simp only [];split<;>rfl
  |succ r1=>rfl
 |_=>rfl
theorem Gh.alv {b:Nat}:(g.so r j p i c n K X).cl b=.no↔g.cl b=.no:=by
 simp only [Gh.so];cases h:g.cl b with
 |own r1 j1 ρ=>
  cases r1 with
  |zero=>simp only [];split<;>simp
  |succ r1=>simp
 |_=>simp
theorem Gh.Bb {r1 j1:Nat} {x_:bQ} (h:¬(r1=r+1∧j1=j∧∃q ρ,x_=p++(i,c+q)::ρ∧q<n∧K q=true)):(g.so r j p i c n K X).hd r1 j1 x_=g.hd r1 j1 x_:=by
 simp only [Gh.so];split
 ·rename_i i' c' ρ hd;split
  ·rename_i hc;obtain ⟨h1,h2,h3,h4,h5,h6,h7⟩:=hc;exfalso;refine h ⟨h1,h2,c'-c,ρ,?_,by omega,h7⟩;obtain ⟨t,rfl⟩:=h3;simp at hd;rw [hd,h4,show c+(c'-c)=c' from by omega]
  ·rfl
 ·rfl
theorem Gh.acG {q:Nat} {ρ:bQ} (hq:q<n) (hK:K q=true):(g.so r j p i c n K X).hd (r+1) j (p++(i,c+q)::ρ)=if ρ=[] then X q else g.hd 0 q ρ:=by
 simp only [Gh.so,List.drop_left];rw [if_pos ⟨trivial,trivial,Zf _ _,trivial,by omega,by omega,by rw [show c+q-c=q from by omega];exact hK⟩,show c+q-c=q from by omega]
end
theorem amK:∀(p k q:bQ),pW (p++k) (p++q)=pW k q:=by
 intro p;induction p with
 |nil=>intros;rfl
 |cons s p ih=>intro k q;obtain ⟨i,c⟩:=s;simp [pW,ih]
theorem ajG:∀(q j:Nat) (p:bQ) (i c:Nat) (os ns:List D) (o n:D),os[q]?=some o→ns[q]?=some n→(o.dt&&n.dt)=false→(j,p++[(i,c+q)])∈rm j p i c os ns:=by
 intro q;induction q with
 |zero=>
  intro j p i c os ns o n ho hn hk;cases os with
  |nil=>simp at ho
  |cons o' os=>
   cases ns with
   |nil=>simp at hn
   |cons n' ns=>
    simp at ho hn;subst ho;subst hn;simp only [rm];rw [if_neg (by rw [hk];simp)];simp
 |succ q ih=>
  intro j p i c os ns o n ho hn hk;cases os with
  |nil=>simp at ho
  |cons o' os=>
   cases ns with
   |nil=>simp at hn
   |cons n' ns=>
    simp at ho hn;have:=ih j p i (c+1) os ns o n ho hn hk;rw [show c+(q+1)=c+1+q from by omega];simp only [rm];split
    ·exact this
    ·exact zM _ this
theorem ain {i i' c' c n sz:Nat} (h:i'≠i) (xh:c'<sz) (hc:c+n≤sz):¬(i*sz+c≤i'*sz+c'∧i'*sz+c'<i*sz+c+n):=by
 rcases zN i' i with h1|h1
 ·have:(i'+1)*sz≤i*sz:=zo _ h1;rw [zt] at this;omega
 ·have:(i+1)*sz≤i'*sz:=zo _ (by omega);rw [zt] at this;omega
theorem Ux {m m':Ms} {r j:Nat} {p:bQ} {x:D} {kl:List (Nat×bQ)} (h:m.putAt r j p x kl=some m'):
 ∃rt d0,(m r).1=some rt∧rt.cells[j]?=some (.own d0)∧m'=bO m r (some (rt.lL j (.own (d0.put p x))),kl++(m r).2):=by
 unfold Ms.putAt at h;split at h
 ·rename_i rt fw;split at h
  ·rename_i d0 qs;simp at h;exact ⟨rt,d0,fw,qs,h.symm⟩
  ·cases h
 ·cases h
theorem acW (R:Rel w0 cl0 S a.tmps w g) {r j sz i c b1 o1:Nat} {p:bQ} {es:List (List D)} {e:List D} {ds:List D} {vals:List Value} {m':Ms}
 (qw:Value.pointer (some ⟨b1,o1,none⟩)=yf (g.hd (r+1) j p) (i*sz+c)) (cN:S.ms.at r j p=some (.sl sz es)) (he:es[i]?=some e) (hb:c+ds.length≤e.length)
 (hm:S.ms.putAt r j p (.sl sz (es.set i (mV e c ds))) (rm j p i c (e.drop c) ds)=some m')
 (pH:vals.length=ds.length) (uP:∀x∈vals,x.oneCell'=true) (hh:∀(q:Nat) (d:D) (x:Value),ds[q]?=some d→vals[q]?=some x→Hd w g q d x):
 ∃w' g',(storeCells ⟨b1,o1,none⟩ vals 0).run P w=.ok () w'∧Rel w0 cl0 { S with ms:=m' } a.tmps w' g':=by
 obtain ⟨rt,d0,fw,qs,rfl⟩:=Ux hm
 have agl:d0.kt p=some (.sl sz es):=by
  obtain ⟨_,rt2,d2,h1,h2,h3⟩:=kP cN;rw [fw] at h1;cases h1;rw [qs] at h2;cases h2;exact h3
 obtain ⟨x0,ho⟩:=R.at cN;have nZ:=ho.nh;subst nZ;generalize ly:g.hd (r+1) j p=v0 at ho qw;cases ho with
 |nil=>simp at he
 |sl _ _ _ b off cap am5 E fk aD hl ew hw hN lA=>
  simp only [yf,Value.pointer.injEq,zG,Addr.mk.injEq] at qw;obtain ⟨rfl,rfl,_⟩:=qw;have pF:=pA hl he;have FR:=cY he;have hi1:(i+1)*sz≤cap*sz:=zo _ (by omega);rw [zt] at hi1;obtain ⟨w',iK,gC,ie,FZ,cF,xq,vU,gD⟩:=US P hw vals (o:=off+(i*sz+c)) (by omega) uP
  let K:Nat→Bool:=fun q=>!(((e.drop c).getD q .dead).dt&&(ds.getD q .dead).dt)
  let X:Nat→Value:=fun q=>vals.getD q undef
  have agU:∀q,q<ds.length→K q=true→∀ρ,Ms.eC (bO S.ms r (some (rt.lL j (.own (d0.put p (.sl sz (es.set i (mV e c ds)))))),rm j p i c (e.drop c) ds++(S.ms r).2)) r j (p++(i,c+q)::ρ)=true:=by
   intro q hq hK ρ;refine Mz (k:=p++[(i,c+q)]) ?_ (by rw [amK];simp [pW]);simp only [qK];refine zz.2 (.inl ?_)
   have h1:(e.drop c)[q]?=some ((e.drop c).getD q .dead):=by
    have:q<(e.drop c).length:=by simp;omega
    simp only [zu,zg this];rfl
   have h2:ds[q]?=some (ds.getD q .dead):=by
    simp only [zu,zg hq];rfl
   refine ajG q j p i c _ _ _ _ h1 h2 ?_;simp only [K] at hK;revert hK;generalize (((e.drop c).getD q .dead).dt&&(ds.getD q .dead).dt)=b;cases b<;>simp
  have cE:∀b',g.cl b'≠.own (r+1) j p→w'.heap[b']?=w.heap[b']?:=fun b' h=>xq b' (fun e=>by subst e;exact h aD)
  have g9:∀b k,g.cl b=kc k→w'.heap[b]?=w.heap[b]?∧(g.so r j p i c ds.length K X).cl b=kc k:=fun b k h=>
   ⟨cE b (by rw [h];exact aiV),Gh.acH.2 h⟩
  have C9:∀b n j1 ρ,g.cl b=.own (n+1) j1 ρ→(g.so r j p i c ds.length K X).cl b=.own (n+1) j1 ρ:=fun b n j1 ρ h=>by simp [Gh.so,h]
  have BM:∀n j1,(g.so r j p i c ds.length K X).hd n j1 []=g.hd n j1 []:=fun n j1=>Gh.Bb (by simp)
  refine ⟨w',g.so r j p i c ds.length K X,gC,?_⟩;refine R.V6 (b0:=b1) (rt:=rt) fw (by cases rt<;>rfl) ?_ ?_ (fun k r1 j1 hc=>?_)
  ·refine { hp:=xq,hs:=vU,ow:=.inr ⟨j,p,aD⟩,kc:=fun b k=>Gh.acH,cl:=C9,bx:=fun b n h=>by simp [Gh.so,h],
            hd:=fun n j1 ρ hn=>Gh.Bb (by simp [hn]),hr:=fun j1 ρ hk=>?_,hv:=fun j1 _=>BM _ _,bk:=rfl,bd:=fun b h=>by rwa [ne_eq,Gh.alv] at h,
            mi:=fun b h=>by rwa [Gh.alu] at h,sd:=gD }
   refine Gh.Bb (fun hc=>?_);obtain ⟨_,rfl,q,rB,rfl,hq,hK⟩:=hc;rw [agU q hq hK rB] at hk;cases hk
  ·refine (R.rt r rt fw).put qs agl g9 (fun b' j1 ρ h1 h2=>⟨cE b' (fun e=>?_),C9 _ _ _ _ h1⟩) (fun cs fY=>⟨rfl,cE _ (fun e=>?_),?_⟩)
    (fun j1 ρ h1=>Gh.Bb (fun hc=>?_)) (fun _ _=>BM _ _) (fun _ _ _ _=>BM _ _) (fun x hx=>?_)
   ·rw [h1] at e;cases e;exact h2 ⟨rfl,List.prefix_refl _⟩
   ·have h5:=R.rt r rt fw;subst fY;rw [h5.1] at e;cases e
   ·have h5:=R.rt r rt fw;subst fY;simp [Gh.so,h5.1]
   ·obtain ⟨_,rfl,q,rB,rfl,_⟩:=hc;exact h1 ⟨rfl,Zf _ _⟩
   ·
    have mg:=hx.nh;rw [ly] at mg;subst mg;have hlen:(es.set i (mV e c ds)).length=es.length:=by simp
    have lC:=Iv (l:=e) (xs:=ds) (o:=c) hb;rw [←hlen];refine .sl p sz _ b1 off cap iK E ?_ (C9 _ _ _ _ aD) ?_ (by rw [hlen];exact ew) ie (by omega) ?_
    ·rw [hlen,←ly]
     exact Gh.Bb (fun hc=>by
      obtain ⟨_,_,q,rB,h,_⟩:=hc;have:=congrArg List.length h
      simp at this)
    ·intro e' js;rcases List.mem_or_eq_of_mem_set js with h|h
     ·exact hl _ h
     ·subst h;omega
    ·intro i' c' e' d' x js lx hx;rw [cF] at hx;by_cases hi:i'=i
     ·subst hi;rw [zC FR] at js;cases js;rw [EK hb] at lx;split at lx
      ·rename_i iX;rw [if_pos (by omega)] at hx
       have mK:vals[c'-c]?=some x:=by
        rw [←hx];congr 1;omega
       have hHd:=hh (c'-c) d' x lx mK;by_cases hK:K (c'-c)=true
       ·refine hHd.place (fun b' ρ cW=>⟨cE b' (by rw [cW];simp),?_⟩) (fun ρ oe=>?_) ?_
        ·simp only [Gh.so,cW];rw [if_pos ⟨by omega,hK⟩,show c+(c'-c)=c' from by omega];simp
        ·have:=Gh.acG (g:=g) (r:=r) (j:=j) (p:=p) (i:=i') (c:=c) (X:=X) (ρ:=ρ) (show c'-c<ds.length by omega) hK;rw [show c+(c'-c)=c' from by omega] at this;simp only [zS,List.singleton_append];rw [this,if_neg oe]
        ·have:=Gh.acG (g:=g) (r:=r) (j:=j) (p:=p) (i:=i') (c:=c) (X:=X) (ρ:=[]) (show c'-c<ds.length by omega) hK;rw [show c+(c'-c)=c' from by omega] at this;rw [this,if_pos rfl];simp [X,zu,mK]
       ·refine hHd.scalar ?_;have:(ds.getD (c'-c) .dead)=d':=by simp [zu,lx]
        simp only [K,this] at hK;cases mJ:d'.dt
        ·simp [mJ] at hK
        ·rfl
      ·rename_i iX;rw [if_neg (by omega)] at hx;refine (lA i' c' e d' x he lx hx).mono (fun b' ρ cW=>⟨cE b' (fun e=>?_),C9 _ _ _ _ cW⟩) (fun ρ=>Gh.Bb (fun hc=>?_))
       ·rw [cW] at e;simp at e
       ·obtain ⟨_,_,q,rB,h,hq,_⟩:=hc;simp at h;omega
     ·rw [Za (by omega)] at js;have fY:c'<sz:=by have:=pA hl js;have:=cY lx;omega
      have hnr:=ain (n:=ds.length) (c:=c) hi fY (by omega);rw [if_neg (by omega)] at hx;refine (lA i' c' e' d' x js lx hx).mono (fun b' ρ cW=>⟨cE b' (fun e=>?_),C9 _ _ _ _ cW⟩) (fun ρ=>Gh.Bb (fun hc=>?_))
      ·rw [cW] at e;simp at e
      ·obtain ⟨_,_,q,rB,h,hq,_⟩:=hc;simp at h;omega
  ·rw [V5] at hc;by_cases e:k=j
   ·subst e;rw [zC (cY qs)] at hc;cases hc
   ·rw [Za (by omega)] at hc;exact R.jN r rt k r1 j1 fw hc
theorem acz {t:TypeId} {n b o:Nat} {v:Value} {w':World} (hs:∃gl,la P t=some (n,gl)) (hv:v.cells.size=n)
 (h:(storeCells ⟨b,o,none⟩ v.cells.toList 0).run P w=.ok () w'):(Instr.storeAt t (.pointer (some ⟨b,o,none⟩)) v).run P w=.ok () w':=by
 obtain ⟨gl,hs⟩:=hs;unfold la at hs;split at hs
 ·rename_i i hi;simp at hs;have dM:(sizeOf t).run P w=.ok v.cells.size w:=by simp [sizeOf,typeInfo,hi,hs.1,hv]
  simp only [Instr.storeAt,Sem.run_bind,Instr.sureAddr,Sem.run_pure,Result.andThen_ok,storeVar,dM,ne_eq,not_true,if_false];exact h
 ·cases hs
theorem ake (R:Rel w0 cl0 S a.tmps w g) {n:Nat} {x y:PX} {op:Op} {av:AV} {rt:Option Rt} {m':Ms}
 (hc:cv P κ (.st n x y) op=true) (h:bh Γ S.ev d S.ms (.st n x y)=some (av,rt,m')) (o:Oper) (ho:o.op=op):
 rt=none∧∃w' g',(execOp a.eval o).run P w=.ok .skip w'∧Rel w0 cl0 { S with ms:=m' } a.tmps w' g':=by
 cases op with
 |store t oa ob=>?_
 |_=>simp [cv] at hc
 simp only [cv] at hc;split at hc
 ·rename_i n' gl hs;simp only [zd,beq_iff_eq] at hc;obtain ⟨⟨rfl,h1⟩,h2⟩:=hc;have e2:=(en R h2).1;simp only [bh] at h;split at h
  ·rename_i cs m1 Kv;split at h
   ·rename_i hn;split at h
    ·rename_i m2 d_;simp at h;obtain ⟨rfl,rfl,rfl⟩:=h;refine ⟨rfl,?_⟩;obtain ⟨aD,fu⟩:=Fe e2 (abt Kv)
     obtain ⟨g1,R1,T1,tz,qt⟩:=I_ (S.ev y).cells R (vals:=(a.eval ob).cells.toList) 0 (by simpa using aD)
      (fun k b z hb hz=>fu k b z hb (by simpa using hz)) Kv
     have xk:=adV _ Kv;have e1:=(en R1 h1).1;have dM:(a.eval ob).cells.size=n:=by omega
     generalize hv:a.eval oa=v at e1;have dX:({ S with ms:=m1 }:St).ev x=S.ev x:=by cases x<;>rfl
     rw [dX] at e1;cases hx:S.ev x with
     |bx r j=>
      rw [hx] at e1 d_;cases e1 with
      |bx=>
       simp only [uh] at d_;cases hm:m1 r with
       |mk qH kl=>
        cases qH with
        |none=>simp [hm] at d_
        |some ga=>
         cases ga with
         |aX=>simp [hm] at d_
         |bx cs0=>
          simp only [hm] at d_;split at d_
          ·rename_i hb;simp at d_;subst d_
           obtain ⟨w',g',gC,R2⟩:=alP (P:=P) (a:=a) R1 (r:=r) (j:=j) (cs0:=cs0) (cs:=cs) (vals:=(a.eval ob).cells.toList) (kl:=kl) hm hb (by simp;omega) xk
            (fun i c z hc hz=>by simpa using qt i c z hc hz)
           refine ⟨w',g',?_,R2⟩;have:=acz (P:=P) (t:=t) (v:=a.eval ob) ⟨_,hs⟩ dM gC;simp only [execOp,ho,hv,Sem.run_bind,this,Result.andThen_ok,Sem.run_pure]
          ·cases d_
     |ad r j p sz i c=>
      rw [hx] at e1 d_;simp only [uh] at d_;split at d_
      ·rename_i ds mJ;split at d_
       ·rename_i gH es cN;split at d_
        ·rename_i e he;split at d_
         ·rename_i hb;obtain ⟨hb,rfl⟩:=hb;obtain ⟨dL,KC⟩:=adh cs mJ;cases e1 with
          |ad _ _ _ _ _ _ b1 o1 qw=>
           have hk:m1.eC r j p=false:=(kP cN).1
           obtain ⟨w',g',gC,R2⟩:=acW (P:=P) (a:=a) R1 (vals:=(a.eval ob).cells.toList) (qw hk) cN he hb d_ (by simp;omega)
            (fun z hz=>by
             obtain ⟨q,hq⟩:=zk.1 hz;have ai:=cY hq;simp at ai;have C_:cs[q]?=some cs[q]:=by simp [show q<cs.length from by omega]
             exact aaa (by simpa using qt q _ z C_ hq) (xk _ (za C_)))
            (fun q d z hd hz=>by
             have ai:=cY hd;have C_:cs[q]?=some cs[q]:=by simp [show q<cs.length from by omega]
             exact adg (by simpa using qt q _ z C_ hz) (KC q _ d C_ hd))
           refine ⟨w',g',?_,R2⟩;have:=acz (P:=P) (t:=t) (v:=a.eval ob) ⟨_,hs⟩ dM gC;simp only [execOp,ho,hv,Sem.run_bind,this,Result.andThen_ok,Sem.run_pure]
         ·cases d_
        ·cases d_
       ·cases d_
      ·cases d_
     |_=>rw [hx] at d_;simp [uh] at d_
    ·cases h
   ·cases h
  ·cases h
 ·cases hc
end
end
section
section
variable {P:Program} {κ:Nat→FuncId} {w0:World} {cl0:fS} {S:St} {w:World} {g:Gh} {a:Act} {Γ:Env} {d:Nat}
def Gh.ap (g:Gh) (d b n:Nat) (hdr:Value):Gh where
 cl:=fun k=>if k=b then .own (d+1) 0 [] else match g.cl k with
  |.own 0 0 ρ=>.own (d+1) 0 ρ
  |.own 0 1 ((i,c)::ρ)=>.own (d+1) 0 ((n+i,c)::ρ)
  |c=>c
 hd:=fun r j ρ=>if r=d+1 then (match ρ with
  |[]=>hdr
  |(i,c)::rB=>if i<n then g.hd 0 0 ((i,c)::rB) else g.hd 0 1 ((i-n,c)::rB)) else g.hd r j ρ
 bk:=g.bk
theorem VF (c:gR):(∃ρ,c=.own 0 0 ρ)∨(∃i j ρ,c=.own 0 1 ((i,j)::ρ))∨((∀ρ,c≠.own 0 0 ρ)∧∀i j ρ,c≠.own 0 1 ((i,j)::ρ)):=by
 cases c with
 |own r j ρ=>
  by_cases h:r=0∧j=0
  ·obtain ⟨rfl,rfl⟩:=h;exact .inl ⟨ρ,rfl⟩
  ·by_cases h2:r=0∧j=1∧ρ≠[]
   ·obtain ⟨rfl,rfl,h3⟩:=h2;cases ρ with
    |nil=>exact absurd rfl h3
    |cons s ρ=>exact .inr (.inl ⟨s.1,s.2,ρ,rfl⟩)
   ·refine .inr (.inr ⟨fun rB e=>?_,fun i j' rB e=>?_⟩)
    ·simp at e;exact h ⟨e.1,e.2.1⟩
    ·simp at e;exact h2 ⟨e.1,e.2.1,by rw [e.2.2];simp⟩
 |_=>exact .inr (.inr ⟨by simp,by simp⟩)
theorem Gh.CF {d b n k:Nat} {hdr:Value} (hk:k≠b) (h1:∀ρ,g.cl k≠.own 0 0 ρ) (h2:∀i j ρ,g.cl k≠.own 0 1 ((i,j)::ρ)):(g.ap d b n hdr).cl k=g.cl k:=by
 simp only [Gh.ap,if_neg hk]
theorem h_.ap {w':World} (gw:∀b,g.cl b≠.no→b<w.heap.size) {d b n:Nat} {hdr:Value} (hb:(g.cl b=.own 0 0 [])∨(w.heap.size≤b∧b<w'.heap.size))
 (hp:∀k,k<w.heap.size→k≠b→w'.heap[k]?=w.heap[k]?) (hs:w.heap.size≤w'.heap.size) (gD:il w w'):h_ d w w' g (g.ap d b n hdr):=by
 have qq:∀k c,g.cl k=c→(c≠.no∧c≠.own 0 0 [])→k≠b:=by
  intro k c h hc e;subst e;rcases hb with hb|hb
  ·rw [hb] at h;exact hc.2 h.symm
  ·have:=gw k (by rw [h];exact hc.1);omega
 refine { hp:=fun k hk h0=>hp k hk (fun e=>?_),hs:=hs,kc:=fun k kk=>?_,cl:=fun k n' j ρ h hn=>?_,bx:=fun k n' h hn=>?_,hd:=fun n' j ρ hn=>by simp [Gh.ap,hn],
          bk:=fun n' hn=>rfl,bd:=fun k h=>?_,mi:=fun k hk h=>?_,sd:=gD }
 ·subst e;rcases hb with hb|hb
  ·exact h0 _ _ hb
  ·omega
 ·by_cases e:k=b
  ·subst e;have h1:(g.ap d k n hdr).cl k=.own (d+1) 0 []:=by simp [Gh.ap]
   rw [h1];rcases hb with hb|hb
   ·rw [hb];cases kk<;>simp [OM.kc]
   ·have:g.cl k=.no:=by
     by_cases h:g.cl k=.no
     ·exact h
     ·have:=gw k h;omega
    rw [this];cases kk<;>simp [OM.kc]
  ·rcases VF (g.cl k) with ⟨ρ,h⟩|⟨i,j,ρ,h⟩|⟨h1,h2⟩
   ·simp only [Gh.ap,if_neg e,h];cases kk<;>simp [OM.kc]
   ·simp only [Gh.ap,if_neg e,h];cases kk<;>simp [OM.kc]
   ·rw [Gh.CF e h1 h2]
 ·rw [Gh.CF (qq k _ h ⟨by simp,by simp⟩) (by rw [h];simp) (by rw [h];simp),h]
 ·rw [Gh.CF (qq k _ h ⟨by simp,by simp⟩) (by rw [h];simp) (by rw [h];simp),h]
 ·by_cases e:k=b
  ·subst e;rcases hb with hb|hb
   ·left;rw [hb];simp
   ·exact .inr hb
  ·left;intro h0;rw [Gh.CF e (by rw [h0];simp) (by rw [h0];simp)] at h;exact h h0
 ·by_cases e:k=b
  ·subst e;rcases hb with hb|hb
   ·rw [hb];rfl
   ·omega
  ·rcases VF (g.cl k) with ⟨ρ,h1⟩|⟨i,j,ρ,h1⟩|⟨h1,h2⟩
   ·rw [h1];rfl
   ·rw [h1];rfl
   ·rwa [Gh.CF e h1 h2] at h
theorem Jc (R:Rel w0 cl0 S a.tmps w g) (hn:(S.ms d).1=none) {w':World} {sz b off cap:Nat} {es ys:List (List D)} {vals:Array Value} {E:TypeId}
 (hb:(g.cl b=.own 0 0 [])∨(w.heap.size≤b∧b<w'.heap.size)) (hp:∀k,k<w.heap.size→k≠b→w'.heap[k]?=w.heap[k]?) (hs:w.heap.size≤w'.heap.size) (gD:il w w')
 (ie:w'.heap[b]?=some (.cells vals E)) (hl:∀e∈es++ys,e.length=sz) (ew:(es++ys).length≤cap) (hN:off+cap*sz≤vals.size)
 (jX:∀(i c:Nat) (e:List D) (d:D) (x:Value),es[i]?=some e→e[c]?=some d→vals[off+i*sz+c]?=some x→OW w g 0 0 [(i,c)] d x)
 (KB:∀(i c:Nat) (e:List D) (d:D) (x:Value),ys[i]?=some e→e[c]?=some d→vals[off+(es.length+i)*sz+c]?=some x→d.dt=true∧OW w g 0 1 [(i,c)] d x∨OW w g 0 1 [(i,c)] d x):
 kq w0 cl0 S a.tmps d (.pl d 0 []) (some (.aX [.own (.sl sz (es++ys))])) S.ms (.slice (some ⟨b,off,none⟩) (es++ys).length cap) w':=by
 have H:=h_.ap (w:=w) (w':=w') (g:=g) R.bd (d:=d) (b:=b) (n:=es.length) (hdr:=.slice (some ⟨b,off,none⟩) (es++ys).length cap) hb hp hs gD
 have qq:∀k c,g.cl k=c→(c≠.no∧c≠.own 0 0 [])→k≠b:=by
  intro k c h hc e;subst e;rcases hb with hb|hb
  ·rw [hb] at h;exact hc.2 h.symm
  ·have:=R.bd k (by rw [h];exact hc.1);omega
 refine ⟨_,R.fresh hn H ?_ ?_,?_,?_⟩
 ·intro j c hj;cases j with
  |succ j=>simp at hj
  |zero=>
   simp at hj;subst hj;refine .own _ _ ?_;have fk:(g.ap d b es.length (.slice (some ⟨b,off,none⟩) (es++ys).length cap)).hd (d+1) 0 []=.slice (some ⟨b,off,none⟩) (es++ys).length cap:=by simp [Gh.ap]
   rw [fk];refine .sl _ _ _ b off cap vals E fk (by simp [Gh.ap]) hl ew ie hN (fun i c e dd x he hd hx=>?_);simp only [zx];by_cases hi:i<es.length
   ·rw [zf hi] at he;refine (jX i c e dd x he hd hx).mono (fun k ρ hk=>?_) (fun ρ=>?_)
    ·have Dc:=qq k _ hk ⟨by simp,by simp⟩;have ai:=R.bd k (by rw [hk];simp);exact ⟨hp k ai Dc,by simp [Gh.ap,Dc,hk]⟩
    ·simp [Gh.ap,hi]
   ·rw [ze (by omega)] at he;have:=KB (i-es.length) c e dd x he hd (by rwa [show es.length+(i-es.length)=i from by omega]);have tD:OW w g 0 1 [(i-es.length,c)] dd x:=by rcases this with h|h;exact h.2;exact h
    refine tD.mono (fun k ρ hk=>?_) (fun ρ=>?_)
    ·have Dc:=qq k _ hk ⟨by simp,by simp⟩;have ai:=R.bd k (by rw [hk];simp);refine ⟨hp k ai Dc,?_⟩;have:g.cl k=.own 0 1 ((i-es.length,c)::ρ):=by simpa using hk
     simp only [Gh.ap,if_neg Dc,this];simp;omega
    ·simp [Gh.ap,hi]
 ·intro j r1 j1 hj;cases j<;>simp [Rt.cells] at hj
 ·exact .pl _ _ _ _ _ _ fun _=>by simp [Gh.ap]
 ·intro r hr;simp [AV.refs] at hr;subst hr;simp [bO]
theorem aeP (R:Rel w0 cl0 S a.tmps w g) {y:AV} {v:Value} (ha:RA w g S.ms y v) {sz:Nat} {ys:List (List D)} (h:S.ms.jE y=some (sz,ys)) (hf:lq ys=true) (dM:0<sz) (g2:Gh):
 ∃(b:Option Addr) (cap:Nat) (news:List Value),v=.slice b ys.length cap∧(∀e∈ys,e.length=sz)∧news.length=ys.length*sz∧
  (∀w1:World,w1.heap=w.heap→(Builtin.firstCells sz ys.length v).run P w1=.ok news.toArray w1)∧(∀x∈news,x.oneCell'=true)∧
  ∀(i c:Nat) (e:List D) (d:D) (x:Value),ys[i]?=some e→e[c]?=some d→news[i*sz+c]?=some x→OW w g2 0 1 [(i,c)] d x:=by
 obtain ⟨b,cap,hv,_,C8⟩:=JI R ha h;by_cases cE:ys=[]
 ·subst cE;refine ⟨b,cap,[],hv,by simp,by simp,fun w1 _=>?_,by simp,by simp⟩;subst hv;cases b with
  |none=>simp [Builtin.firstCells]
  |some a=>simp [Builtin.firstCells,loadCells,loadCellsFrom]
 ·obtain ⟨b',o,rfl,ew,hl,fU⟩:=C8 cE
  have abb:∀(i c:Nat) (e:List D) (d:D),ys[i]?=some e→e[c]?=some d→d.dt=true:=by
   intro i c e d he hd;have:=zb.1 hf e (za he);exact zb.1 this d (za hd)
  have BS:∀k,k<ys.length*sz→∃x,w.cell? ⟨b',o+k,none⟩=some x∧∀(e:List D) (d:D),ys[k/sz]?=some e→e[k%sz]?=some d→((∃kk,RO w g.cl kk d x)∨∃r j p,OW w g r j p d x):=by
   intro k hk;have hi:k/sz<ys.length:=zO (by rw [zq];exact hk);have hc:k%sz<sz:=zU _ dM;have he:ys[k/sz]?=some ys[k/sz]:=by simp [hi]
   have pF:=hl _ (za he);have hd:(ys[k/sz])[k%sz]?=some (ys[k/sz])[k%sz]:=by simp [pF,hc]
   obtain ⟨x,hx,vW⟩:=fU _ _ _ _ he hd;have tx:o+k/sz*sz+k%sz=o+k:=by have:=Zl k sz;rw [zq] at this;omega
   rw [tx] at hx;refine ⟨x,hx,fun e d js lx=>?_⟩;rw [he] at js;cases js;rw [hd] at lx;cases lx;exact vW
  have yU:∀(d:D) (x:Value),d.dt=true→((∃kk,RO w g.cl kk d x)∨∃r j p,OW w g r j p d x)→x.oneCell'=true∧∀p,OW w g2 0 1 p d x:=by
   intro d x hs hx;rcases hx with ⟨kk,hx⟩|⟨_,_,_,hx⟩
   ·cases hx with
    |int=>exact ⟨rfl,fun p=>.int _ _ _⟩
    |bool=>exact ⟨rfl,fun p=>.bool _ _⟩
    |str=>exact ⟨rfl,fun p=>.str _ _⟩
    |_=>simp [D.dt] at hs
   ·cases hx with
    |int=>exact ⟨rfl,fun p=>.int _ _ _⟩
    |bool=>exact ⟨rfl,fun p=>.bool _ _⟩
    |str=>exact ⟨rfl,fun p=>.str _ _⟩
    |_=>simp [D.dt] at hs
  have Dg:∀(k:Nat) (x:Value),((List.range (ys.length*sz)).map fun k=>(w.cell? ⟨b',o+k,none⟩).getD undef)[k]?=some x→k<ys.length*sz∧w.cell? ⟨b',o+k,none⟩=some x:=by
   intro k x hx;simp only [zT,zH] at hx;obtain ⟨k',KN,rfl⟩:=hx;have ai:=cY KN;simp at ai;rw [List.getElem?_range ai] at KN;cases KN;obtain ⟨x,hx,_⟩:=BS k ai;exact ⟨ai,by rw [hx];rfl⟩
  refine ⟨_,cap,(List.range (ys.length*sz)).map fun k=>(w.cell? ⟨b',o+k,none⟩).getD undef,hv,hl,by simp,fun w1 fZ=>?_,fun x hx=>?_,fun i c e d x he hd hx=>?_⟩
  ·subst hv;simp only [Builtin.firstCells];refine DN P (by simp) (fun k x hx=>?_);have:=(Dg k x hx).2;simpa [World.cell?,fZ] using this
  ·obtain ⟨k,hk⟩:=zk.1 hx;obtain ⟨ai,hc⟩:=Dg k x hk;obtain ⟨x',mK,vW⟩:=BS k ai;rw [hc] at mK;cases mK;have hi:k/sz<ys.length:=zO (by rw [zq];exact ai);have iX:k%sz<sz:=zU _ dM;have he:ys[k/sz]?=some ys[k/sz]:=by simp [hi]
   have pF:=hl _ (za he);have hd:(ys[k/sz])[k%sz]?=some (ys[k/sz])[k%sz]:=by simp [pF,iX]
   exact (yU _ x (abb _ _ _ _ he hd) (vW _ _ he hd)).1
  ·obtain ⟨ai,hc⟩:=Dg _ x hx;obtain ⟨x',mK,vW⟩:=fU i c e d he hd;rw [zw,hc] at mK;cases mK;exact (yU d x (abb i c e d he hd) vW).2 _
theorem aks {w:World} {g:Gh} {sz:Nat} {ys:List (List D)} {v:Value} (h:OW w g 0 1 [] (.sl sz ys) v) (KQ:ys.all (fun e=>e.all D.live)=true):
 ∃(b:Option Addr) (cap:Nat) (news:List Value),v=.slice b ys.length cap∧(∀e∈ys,e.length=sz)∧news.length=ys.length*sz∧
  (∀w1:World,w1.heap=w.heap→(Builtin.firstCells sz ys.length v).run P w1=.ok news.toArray w1)∧(∀x∈news,x.oneCell'=true∨sz=0)∧
  ∀(i c:Nat) (e:List D) (d:D) (x:Value),ys[i]?=some e→e[c]?=some d→news[i*sz+c]?=some x→OW w g 0 1 [(i,c)] d x:=by
 cases h with
 |nil=>exact ⟨none,0,[],rfl,by simp,by simp,fun w1 _=>by simp [Builtin.firstCells],by simp,by simp⟩
 |sl _ _ _ b off cap vals E hh aD hl ew hw hN hk=>
  have hle:ys.length*sz≤cap*sz:=zo _ ew
  have cF:∀(k:Nat) (x:Value),((vals.toList.drop off).take (ys.length*sz))[k]?=some x→k<ys.length*sz∧vals[off+k]?=some x:=by
   intro k x hx;rw [zR] at hx;split at hx
   ·rename_i ai;exact ⟨ai,by simpa using hx⟩
   ·cases hx
  refine ⟨_,cap,(vals.toList.drop off).take (ys.length*sz),rfl,hl,by simp;omega,fun w1 fZ=>?_,fun x hx=>?_,fun i c e d x he hd hx=>?_⟩
  ·simp only [Builtin.firstCells];refine DN P (by simp;omega) (fun k x hx=>?_);rw [rL (vals:=vals) (E:=E) (fz:=(0,0)) (by rw [fZ];exact hw)];exact (cF k x hx).2
  ·by_cases dM:sz=0
   ·exact .inr dM
   ·left;obtain ⟨k,BK⟩:=zk.1 hx;obtain ⟨ai,hc⟩:=cF k x BK;have hi:k/sz<ys.length:=zO (by rw [zq];exact ai);have iX:k%sz<sz:=zU _ (zA dM);have he:ys[k/sz]?=some ys[k/sz]:=by simp [hi]
    have pF:=hl _ (za he);have hd:(ys[k/sz])[k%sz]?=some (ys[k/sz])[k%sz]:=by simp [pF,iX]
    have tx:off+k/sz*sz+k%sz=off+k:=by have:=Zl k sz;rw [zq] at this;omega
    have ho:=hk _ _ _ _ x he hd (by rw [tx];exact hc)
    have pH:((ys[k/sz])[k%sz]).live=true:=by
     have:=zb.1 KQ _ (za he);exact zb.1 this _ (za hd)
    generalize (ys[k/sz])[k%sz]=dd at ho pH;cases ho<;>first|rfl|simp [D.live] at pH
  ·obtain ⟨_,hc⟩:=cF _ x hx;exact hk i c e d x he hd (by rw [zw];exact hc)
end
end
section
section
variable {P:Program} {κ:Nat→FuncId} {w0:World} {cl0:fS} {S:St} {w:World} {g:Gh} {a:Act} {Γ:Env} {d:Nat}
theorem ajK (R:Rel w0 cl0 S a.tmps w g) (hn:(S.ms d).1=none) (sz:Nat):
 kq w0 cl0 S a.tmps d (.pl d 0 []) (some (.aX [.own (.sl sz [])])) S.ms (.slice none 0 0) w:=by
 let g':Gh:={ g with hd:=fun r j ρ=>if r=d+1 then .slice none 0 0 else g.hd r j ρ }
 have H:h_ d w w g g':={ h_.refl d w g with hd:=fun n j ρ hn=>by simp [g',hn] };refine ⟨g',R.fresh hn H (fun j c hj=>?_) (fun j r1 j1 hj=>by cases j<;>simp [Rt.cells] at hj),.pl _ _ _ _ _ _ fun _=>by simp [g'],fun r hr=>by simp [AV.refs] at hr;subst hr;simp [bO]⟩;cases j with
 |succ j=>simp at hj
 |zero=>
  simp at hj;subst hj;have:g'.hd (d+1) 0 []=.slice none 0 0:=by simp [g']
  rw [this];exact .own _ _ (.nil _ _ this)
theorem VG (R:Rel w0 cl0 S a.tmps w g) (hn:(S.ms d).1=none) {t u ty e:TypeId} {i:TypeInfo} {zv:Value} {sz bytes:Nat} (lD:P.underlying t=some (.slice e))
 (hi:P.info? e=some i) (hz:i.zero=some zv) (dM:i.size=sz) (er:i.bytes=bytes) (oU:zv.cells.size=i.size) (aa4:0<sz) (agb:0<bytes)
 {es ys:List (List D)} {vx vy:Value} (hx:OW w g 0 0 [] (.sl sz es) vx) (vH:(es.length+ys.length)*bytes≤2^46)
 (hy:∃(news:List Value),((P.underlying u=some (.slice e)∧∃b cap,vy=.slice b ys.length cap)∨(P.underlying u=some .string∧∃s:ByteArray,vy=.string s∧s.size=ys.length))∧(∀e∈ys,e.length=sz)∧news.length=ys.length*sz∧
  (∀w1:World,w1.heap=w.heap→(Builtin.firstCells sz ys.length vy).run P w1=.ok news.toArray w1)∧(∀x∈news,x.oneCell'=true)∧
  ∀(i c:Nat) (e:List D) (d:D) (x:Value),ys[i]?=some e→e[c]?=some d→news[i*sz+c]?=some x→OW w g 0 1 [(i,c)] d x):
 ∃v w',(Builtin.append_ #[t,u] ty #[vx,vy]).run P w=.ok v w'∧kq w0 cl0 S a.tmps d (.pl d 0 []) (some (.aX [.own (.sl sz (es++ys))])) S.ms v w':=by
 obtain ⟨news,DB,n_,Dh,hf,uP,Mt⟩:=hy;subst dM er
 have De:es.length+ys.length≤2^62:=by
  have:(es.length+ys.length)*1≤(es.length+ys.length)*i.bytes:=Nat.mul_le_mul_left _ agb;omega
 have mg:=hx.nh;cases hx with
 |nil _ _ aqI=>
  have hr:=VH P (ty:=ty) (E0:=e) lD hi hz DB hf Dh uP none 0 0 (.inl ⟨rfl,rfl,rfl⟩) (by simpa using vH) (by simpa using De);rcases hr with ⟨b,off,vals,w',iK,h,_⟩|⟨_,fK,gC⟩|⟨cap,iK,w',rn,h1,gC,ie,FZ,gD,hp,h5,h6,h7,h8,h9⟩
  ·cases h
  ·have:ys=[]:=List.eq_nil_of_length_eq_zero fK;subst this;exact ⟨_,_,gC,by simpa using ajK R hn i.size⟩
  ·refine ⟨_,_,gC,?_⟩
   have oR:=Jc (d:=d) (a:=a) R hn (w':=w') (sz:=i.size) (b:=w.heap.size) (off:=0) (cap:=cap) (es:=[]) (ys:=ys) (vals:=iK) (E:=e) (.inr ⟨zn _,by omega⟩)
    (fun k hk _=>hp k hk) (by omega) gD ie (by simpa using n_) (by simpa using h1) (by rw [zh,h8 oU];exact zn _) (by simp) (fun q c el dd x he hd hx=>by
     have hq:=cY he;have hc:=pA n_ he;have aD:=cY hd
     have hk:q*i.size+c<ys.length*i.size:=by
      have:=vY (off:=0) (cap:=ys.length) (N:=ys.length*i.size) hq (show c<i.size by omega) (zn _) (by omega);omega
     have:=h7 _ hk;simp only [Nat.zero_mul,zh,List.length_nil] at this hx;rw [this] at hx
     exact .inr (Mt q c el dd x he hd hx))
   simpa using oR
 |sl _ _ _ b off cap vals E fk aD hl ew hw hN lA=>
  have hr:=VH P (ty:=ty) (E0:=E) lD hi hz DB hf Dh uP (some ⟨b,off,none⟩) es.length cap (.inr ⟨b,off,vals,rfl,ew,hw,hN⟩) vH De
  have nT:∀el∈es++ys,el.length=i.size:=by
   intro el pF;rcases zz.1 pF with h|h
   ·exact hl el h
   ·exact n_ el h
  rcases hr with ⟨b',B1,am6,w',iK,h,yT,fZ,hN1,gC,ie,FZ,cF,xq,vU,gD⟩|⟨h,_,_⟩|⟨V2,iK,w',rn,h1,gC,ie,FZ,gD,hp,h5,h6,h7,h8,h9⟩
  ·cases h;rw [hw] at fZ;cases fZ;refine ⟨_,_,gC,?_⟩
   have oR:=Jc (d:=d) (a:=a) R hn (w':=w') (sz:=i.size) (b:=b) (off:=off) (cap:=cap) (es:=es) (ys:=ys) (vals:=iK) (E:=E) (.inl aD)
    (fun k _ hk=>xq k hk) (by omega) gD ie nT (by simp;omega) (by omega) (fun q c el dd x he hd hx=>by
     have hq:=cY he;have fY:=pA hl he;have pD:=cY hd
     have hk:q*i.size+c<es.length*i.size:=by
      have:=vY (off:=0) (cap:=es.length) (N:=es.length*i.size) hq (show c<i.size by omega) (zn _) (by omega);omega
     rw [cF,if_neg (by omega)] at hx
     exact lA q c el dd x he hd hx) (fun q c el dd x he hd hx=>by
     have hq:=cY he;have fY:=pA n_ he;have pD:=cY hd
     have hk:q*i.size+c<ys.length*i.size:=by
      have:=vY (off:=0) (cap:=ys.length) (N:=ys.length*i.size) hq (show c<i.size by omega) (zn _) (by omega);omega
     rw [Zh,cF,if_pos (by omega)] at hx;refine .inr (Mt q c el dd x he hd ?_)
     rw [←hx];congr 1;omega)
   simpa using oR
  ·cases h
  ·refine ⟨_,_,gC,?_⟩
   have oR:=Jc (d:=d) (a:=a) R hn (w':=w') (sz:=i.size) (b:=w.heap.size) (off:=0) (cap:=V2) (es:=es) (ys:=ys) (vals:=iK) (E:=e) (.inr ⟨zn _,by omega⟩)
    (fun k hk _=>hp k hk) (by omega) gD ie nT (by simpa using h1) (by rw [zh,h8 oU];exact zn _) (fun q c el dd x he hd hx=>by
     have hq:=cY he;have fY:=pA hl he;have pD:=cY hd
     have hk:q*i.size+c<es.length*i.size:=by
      have:=vY (off:=0) (cap:=es.length) (N:=es.length*i.size) hq (show c<i.size by omega) (zn _) (by omega);omega
     rw [zh,h5 _ hk,h9 b off vals rfl hw _ hk,←zw] at hx
     exact lA q c el dd x he hd hx) (fun q c el dd x he hd hx=>by
     have hq:=cY he;have fY:=pA n_ he;have pD:=cY hd
     have hk:q*i.size+c<ys.length*i.size:=by
      have:=vY (off:=0) (cap:=ys.length) (N:=ys.length*i.size) hq (show c<i.size by omega) (zn _) (by omega);omega
     rw [zh,Zh,zw,h7 _ hk] at hx
     exact .inr (Mt q c el dd x he hd hx))
   simpa using oR
theorem abM (R:Rel w0 cl0 S a.tmps w g) {sz bytes:Nat} {x y:PX} {op:Op} {av:AV} {rt:Option Rt} {m':Ms} (jH:(m' d).1=none)
 (hc:cv P κ (.app sz bytes x y) op=true) (h:bh Γ S.ev d S.ms (.app sz bytes x y)=some (av,rt,m')) (o:Oper) (ho:o.op=op):
 ∃v w',(execOp a.eval o).run P w=.ok (.value v) w'∧kq w0 cl0 S a.tmps d av rt m' v w':=by
 cases op with
 |call c=>?_
 |_=>simp [cv] at hc
 simp only [cv] at hc;split at hc
 ·rename_i oa ob t u qV lu vV;simp only [zd] at hc;obtain ⟨⟨h1,h2⟩,h3⟩:=hc;split at h3
  ·rename_i e e' he js;simp only [zd,beq_iff_eq] at h3;obtain ⟨rfl,h3⟩:=h3;split at h3
   ·rename_i z s1 gl ny jg;simp only [zd,beq_iff_eq,bne_iff_ne,ne_eq] at h3;obtain ⟨⟨⟨⟨rfl,rfl⟩,Mu⟩,LP⟩,jr⟩:=h3;obtain ⟨i,zv,hi,pO,pM,oU⟩:=Bm ny;have lD:P.underlying t=some (.slice e):=by unfold l_ at he;split at he<;>simp_all
    have nY:P.underlying u=some (.slice e):=by unfold l_ at js;split at js<;>simp_all
    unfold la at jg;rw [hi] at jg;simp at jg;obtain ⟨dM,er⟩:=jg;obtain ⟨cs,hex⟩:=yh (a:=a) qV lu vV ho;have e1:=en R h1;have e2:=en R h2
    have fin:∀{S1:St} {g1:Gh} {m2:Ms} {es ys:List (List D)},S1.av=S.av→Rel w0 cl0 S1 a.tmps w g1→iA S1.ms (S.ev x)=some (.own (.sl s1 es),m2)→(es.length+ys.length)*gl≤2^46→(m2 d).1=none→
     (∀g2:Gh,(∀(b:Nat) (ρ:bQ),g1.cl b=.own 0 1 ρ→g2.cl b=.own 0 1 ρ)→(∀ρ,g2.hd 0 1 ρ=g1.hd 0 1 ρ)→
      ∃(b:Option Addr) (cap:Nat) (news:List Value),a.eval ob=.slice b ys.length cap∧(∀e∈ys,e.length=s1)∧news.length=ys.length*s1∧
      (∀w1:World,w1.heap=w.heap→(Builtin.firstCells s1 ys.length (a.eval ob)).run P w1=.ok news.toArray w1)∧(∀x∈news,x.oneCell'=true)∧
      ∀(i c:Nat) (e:List D) (d:D) (x:Value),ys[i]?=some e→e[c]?=some d→news[i*s1+c]?=some x→OW w g2 0 1 [(i,c)] d x)→
     ∃v w',(execOp a.eval o).run P w=.ok (.value v) w'∧kq w0 cl0 S a.tmps d (.pl d 0 []) (some (.aX [.own (.sl s1 (es++ys))])) m2 v w':=by
     intro S1 g1 m2 es ys fG R1 xg vH yH Dg;have WI:=(en R1 h1).1;have dX:S1.ev x=S.ev x:=by cases x<;>simp [St.ev,fG]
     rw [dX] at WI;obtain ⟨g2,R2,T2,uQ⟩:=CD R1 WI xg 0;cases uQ with
     |own _ _ LI=>
      obtain ⟨v,w',gC,oR⟩:=VG (P:=P) (ty:=o.type) (d:=d) (a:=a) R2 yH lD hi pO dM er oU (zA LP) (zA jr) LI vH
       (by
        obtain ⟨b,cap,news,q1,q2⟩:=Dg g2 (fun b ρ hb=>T2.cl0 b 1 ρ (by simp) hb) (fun ρ=>T2.qs 1 ρ (by simp))
        exact ⟨news,.inl ⟨nY,b,cap,q1⟩,q2⟩)
      refine ⟨v,w',?_,?_⟩
      ·rw [hex];simp [builtin,gC]
      ·have hS:({ S1 with ms:=m2 }:St).av=S.av:=fG;unfold kq at oR ⊢;simp only [fG] at oR;exact oR
    simp only [bh] at h;split at h
    ·rename_i s2 ys m1 tK;split at h
     ·rename_i s3 es m2 xg;split at h
      ·rename_i jb;obtain ⟨rfl,rfl,vH⟩:=jb;simp at h;obtain ⟨rfl,rfl,rfl⟩:=h;split at tK
       ·rename_i s4 ys4 KE;split at tK
        ·rename_i ags;simp at tK;obtain ⟨rfl,rfl,rfl⟩:=tK;exact fin (S1:=S) rfl R xg vH jH (fun g2 _ _=>aeP R e2.1 KE ags (zA LP) g2)
        ·split at tK
         ·rename_i s5 ys5 m5 afT;split at tK
          ·rename_i KQ;simp at tK;obtain ⟨rfl,rfl,rfl⟩:=tK;obtain ⟨g1,R1,T1,uQ⟩:=CD R e2.1 afT 1;cases uQ with
           |own _ _ hoy=>
            obtain ⟨b,cap,news,k1,k2,k3,k4,k5,k6⟩:=aks (P:=P) hoy KQ;refine fin (S1:={ S with ms:=m5 }) rfl R1 xg vH jH (fun g2 ey hh2=>⟨b,cap,news,k1,k2,k3,k4,fun x hx=>(k5 x hx).resolve_right LP,fun q c el dd x he hd hx=>?_⟩);exact (k6 q c el dd x he hd hx).mono (fun b ρ hb=>⟨rfl,ey b _ hb⟩) (fun ρ=>hh2 _)
          ·cases tK
         ·cases tK
       ·cases tK
      ·cases h
     ·cases h
    ·cases h
   ·cases h3
  ·cases h3
 ·cases hc
theorem ajQ (R:Rel w0 cl0 S a.tmps w g) {x y:PX} {op:Op} {av:AV} {rt:Option Rt} {m':Ms} (jH:(m' d).1=none)
 (hc:cv P κ (.apps x y) op=true) (h:bh Γ S.ev d S.ms (.apps x y)=some (av,rt,m')) (o:Oper) (ho:o.op=op):
 ∃v w',(execOp a.eval o).run P w=.ok (.value v) w'∧kq w0 cl0 S a.tmps d av rt m' v w':=by
 cases op with
 |call c=>?_
 |_=>simp [cv] at hc
 simp only [cv] at hc;split at hc
 ·rename_i oa ob t u qV lu vV;simp only [zd] at hc;obtain ⟨⟨h1,h2⟩,h3⟩:=hc;split at h3
  ·rename_i e he nY;split at h3
   ·rename_i z s1 gl ny jg;simp only [zd,beq_iff_eq] at h3;obtain ⟨⟨rfl,rfl⟩,Mu⟩:=h3;obtain ⟨i,zv,hi,pO,pM,oU⟩:=Bm ny;have lD:P.underlying t=some (.slice e):=by unfold l_ at he;split at he<;>simp_all
    unfold la at jg;rw [hi] at jg;simp at jg;obtain ⟨dM,er⟩:=jg;obtain ⟨cs,hex⟩:=yh (a:=a) qV lu vV ho;have e2:=(en R h2).1;have e1:=(en R h1).1;simp only [bh] at h;split at h
    ·rename_i k s hy;split at h
     ·rename_i es m2 xg;split at h
      ·rename_i vH;simp at h;obtain ⟨rfl,rfl,rfl⟩:=h;obtain ⟨g2,R2,T2,uQ⟩:=CD R e1 xg 0;rw [hy] at e2
       have DB:a.eval ob=.string s:=by
        generalize a.eval ob=vv at e2;cases e2 with
        |v _ _ _ hr=>cases hr;rfl
       have lC:(xP s).length=s.size:=by
        simp [xP,ByteArray.toList_eq]
       cases uQ with
       |own _ _ LI=>
        obtain ⟨v,w',gC,oR⟩:=VG (P:=P) (u:=u) (ty:=o.type) (d:=d) (a:=a) (vy:=a.eval ob) (ys:=xP s) R2 jH lD hi pO dM er oU (by omega) (by omega) LI (by rw [lC];omega)
         ⟨s.toList.map (fun b=>Value.int .u8 b.toNat),.inr ⟨nY,s,DB,lC.symm⟩,fun e he=>by simp only [xP,Zo] at he;obtain ⟨b,_,rfl⟩:=he;rfl,by simp [xP],
          fun w1 _=>by
           rw [DB,lC]
           have hq:(Array.map (fun b:UInt8=>Value.int IntKind.u8 ↑b.toNat) (s.extract 0 s.size).data)=(List.map (fun b:UInt8=>Value.int .u8 b.toNat) s.data.toList).toArray:=by
            apply Array.ext';simp [ByteArray.extract_zero_size]
           simp only [Builtin.firstCells,ByteArray.toList_eq];rw [hq];rfl,fun x hx=>by simp only [Zo] at hx;obtain ⟨b,_,rfl⟩:=hx;rfl,
          fun q c e d x he hd hx=>by
           simp only [xP,zT,zH] at he;obtain ⟨b,hb,rfl⟩:=he;cases c with
           |succ c=>simp at hd
           |zero=>
            simp at hd;subst hd;simp only [Nat.mul_one,zP,zT,zH] at hx;obtain ⟨b2,lv,rfl⟩:=hx;rw [hb] at lv;cases lv
            exact .int _ _ _⟩
        refine ⟨v,w',?_,oR⟩;rw [hex];simp [builtin,gC]
      ·cases h
     ·cases h
    ·cases h
   ·cases h3
  ·cases h3
 ·cases hc
end
end
section
theorem D.ab7:∀(p:bQ) (d x y:D),(d.put p x).put p y=d.put p y
 |[],d,x,y=>by simp [D.put]
 |(i,j)::p,d,x,y=>by
  cases d with
  |sl sz es=>
   simp only [D.put];cases h:es[i]? with
   |none=>simp [h,D.put]
   |some e=>
    simp only;cases h2:e[j]? with
    |none=>simp [D.put,h,h2]
    |some d'=>
     obtain ⟨hi,_⟩:=zi.1 h;obtain ⟨hj,_⟩:=zi.1 h2;simp [D.put,hi,hj,D.ab7 p d' x y]
  |_=>simp [D.put]
theorem D.Wn:∀(p:bQ) (d x y:D),d.kt p=some y→(d.put p x).kt p=some x
 |[],d,x,y,_=>by simp [D.put,D.kt]
 |(i,j)::p,d,x,y,h=>by
  cases d with
  |sl sz es=>
   simp only [D.kt] at h;split at h
   ·rename_i e he;split at h
    ·rename_i d' hd;obtain ⟨hi,_⟩:=zi.1 he;obtain ⟨hj,_⟩:=zi.1 hd;simp only [D.put];rw [he];simp only;rw [hd];simp only [D.kt];rw [zC hi];simp only;rw [zC hj];exact D.Wn p d' x y h
    ·cases h
   ·cases h
  |_=>simp [D.kt] at h
section
variable {P:Program} {κ:Nat→FuncId} {w0:World} {cl0:fS} {S:St} {w:World} {g:Gh} {a:Act} {Γ:Env} {d:Nat}
theorem akD {m m':Ms} {r j:Nat} {p:bQ} {x y:D} (ha:m.at r j p=some y) (h:m.putAt r j p x []=some m'):m'.at r j p=some x:=by
 obtain ⟨uN,rt,d0,h1,h2,h3⟩:=kP ha;obtain ⟨rt',d0',k1,k2,rfl⟩:=Ux h;rw [h1] at k1;cases k1;rw [h2] at k2;cases k2
 have hc:(rt.lL j (.own (d0.put p x))).cells[j]?=some (.own (d0.put p x)):=by
  obtain ⟨hj,_⟩:=zi.1 h2;cases rt<;>simp [Rt.lL,Rt.cells] at hj ⊢<;>simp [hj]
 have hk:Ms.eC (bO m r (some (rt.lL j (.own (d0.put p x))),[]++(m r).2)) r j p=false:=by
  simp only [Ms.eC,qK,zx];exact uN
 simp only [Ms.at,hk];simp only [Ms.cell,qK,hc];exact D.Wn p d0 x y h3
theorem akF {m m1:Ms} {r j:Nat} {p:bQ} {x y:D} (h:m.putAt r j p x []=some m1):m1.putAt r j p y []=m.putAt r j p y []:=by
 obtain ⟨rt,d0,k1,k2,rfl⟩:=Ux h
 have hc:(rt.lL j (.own (d0.put p x))).cells[j]?=some (.own (d0.put p x)):=by
  obtain ⟨hj,_⟩:=zi.1 k2;cases rt<;>simp [Rt.lL,Rt.cells] at hj ⊢<;>simp [hj]
 simp only [Ms.putAt,qK,hc,k1,k2];simp only [D.ab7]
 have e:(rt.lL j (.own (d0.put p x))).lL j (.own (d0.put p y))=rt.lL j (.own (d0.put p y)):=by
  cases rt<;>simp [Rt.lL]
 rw [e];congr 1;funext k;simp only [bO];split<;>simp
theorem akE {m:Ms} {r j:Nat} {p:bQ} {y:D} (x:D) (ha:m.at r j p=some y):∃m',m.putAt r j p x []=some m':=by
 obtain ⟨uN,rt,d0,h1,h2,h3⟩:=kP ha;exact ⟨_,by simp only [Ms.putAt,h1,h2];rfl⟩
theorem acV:∀(ys:List Value) (b o i k:Nat),storeCells ⟨b,o,none⟩ ys (i+k)=storeCells ⟨b,o+i,none⟩ ys k
 |[],_,_,_,_=>rfl
 |y::ys,b,o,i,k=>by
  simp only [storeCells];rw [zw i k 1,acV ys b o i (k+1)];simp only [Addr.add_lit,zw]
theorem acU:∀(xs ys:List Value) (b o i:Nat) {w w1 w2:World},(storeCells ⟨b,o,none⟩ xs i).run P w=.ok () w1→(storeCells ⟨b,o+i+xs.length,none⟩ ys 0).run P w1=.ok () w2→
 (storeCells ⟨b,o,none⟩ (xs++ys) i).run P w=.ok () w2
 |[],ys,b,o,i,w,w1,w2,h1,h2=>by
  simp only [storeCells,Sem.run_pure,Result.ok.injEq,true_and] at h1;subst h1;have:=acV ys b o i 0;rw [zP] at this;simp only [zx];rw [this];simpa using h2
 |x::xs,ys,b,o,i,w,w1,w2,h1,h2=>by
  simp only [storeCells,List.cons_append,Sem.run_bind] at h1 ⊢;cases hs:(store (Addr.add ⟨b,o,none⟩ i) x).run P w with
  |ok u wa=>
   rw [hs] at h1;simp only [Result.andThen_ok] at h1 ⊢;refine acU xs ys b o (i+1) h1 ?_;rw [show o+(i+1)+xs.length=o+i+(x::xs).length by simp;omega];exact h2
  |_=>rw [hs] at h1;simp [Result.andThen] at h1
theorem abv:∀(os ns:List D) (j:Nat) (p:bQ) (i c:Nat),os.all D.dt=true→ns.all D.dt=true→rm j p i c os ns=[]
 |[],_,_,_,_,_,_,_=>by simp [rm]
 |_::_,[],_,_,_,_,_,_=>by simp [rm]
 |o::os,n::ns,j,p,i,c,h1,h2=>by
  simp only [Zb,zd] at h1 h2;simp only [rm,h1.1,h2.1,Bool.and_self,if_true];exact abv os ns j p i (c+1) h1.2 h2.2
theorem aep {es:List (List D)} {z:List D} {lo k:Nat} (h:lo+k<es.length):
 (es.take lo++zj k z++es.drop (lo+k)).set (lo+k) z=es.take lo++zj (k+1) z++es.drop (lo+(k+1)):=by
 apply Zg;intro n;have hl:(es.take lo).length=lo:=by simp;omega
 simp only [List.getElem?_set,List.getElem?_append,zW,zy,zQ,zY,List.length_drop,hl]
 repeat' split
 all_goals first|rfl|(exfalso;omega)|(congr 1;omega)
theorem aeo {r j sz lo hi:Nat} {p:bQ} {z:List D} {zv:List Value} {es:List (List D)} {B O N C:Nat} (hz:z.all D.dt=true) (ny:z.length=sz) (pO:zv.length=sz)
 (uP:∀x∈zv,x.oneCell'=true) (hzd:∀{w:World} {g:Gh} (q:Nat) (d:D) (x:Value),z[q]?=some d→zv[q]?=some x→Hd w g q d x) (tv:hi≤es.length) (oO:lq ((es.take hi).drop lo)=true)
 (eA:∀{m:Ms} {w:World} {g:Gh},Rel w0 cl0 { S with ms:=m } a.tmps w g→RA w g m (.rg r j p sz lo hi) (.slice (some ⟨B,O,none⟩) N C)):
 ∀(n k:Nat) {m m':Ms} {w:World} {g:Gh},lo+k+(n+1)=hi→Rel w0 cl0 { S with ms:=m } a.tmps w g→m.at r j p=some (.sl sz (es.take lo++zj k z++es.drop (lo+k)))→
  m.putAt r j p (.sl sz (es.take lo++zj (hi-lo) z++es.drop hi)) []=some m'→
  ∃w' g',(storeCells ⟨B,O+k*sz,none⟩ (rep (n+1) zv) 0).run P w=.ok () w'∧Rel w0 cl0 { S with ms:=m' } a.tmps w' g':=by
 have step:∀(k:Nat) {m m1:Ms} {w:World} {g:Gh},lo+k<hi→Rel w0 cl0 { S with ms:=m } a.tmps w g→m.at r j p=some (.sl sz (es.take lo++zj k z++es.drop (lo+k)))→
  m.putAt r j p (.sl sz (es.take lo++zj (k+1) z++es.drop (lo+(k+1)))) []=some m1→
  ∃w' g',(storeCells ⟨B,O+k*sz,none⟩ zv 0).run P w=.ok () w'∧Rel w0 cl0 { S with ms:=m1 } a.tmps w' g':=by
  intro k m m1 w g hk R cN kv;have hl:(es.take lo).length=lo:=by simp;omega
  obtain ⟨e,he⟩:∃e,es[lo+k]?=some e:=⟨_,zg (by omega)⟩
  have KD:(es.take lo++zj k z++es.drop (lo+k))[lo+k]?=some e:=by
   rw [ze (by simp;omega)];simp only [zQ,zY,hl,zy,Nat.sub_self,zP];exact he
  have uJ:e.all D.dt=true:=by
   refine zb.1 oO e (zk.2 ⟨k,?_⟩);rw [zy,zR,if_pos hk];exact he
  have hlE:es.length≤(es.take lo++zj k z++es.drop (lo+k)).length:=by simp;omega
  generalize hE:(es.take lo++zj k z++es.drop (lo+k))=WE at cN KD hlE;obtain ⟨x0,ho⟩:=R.at cN;have nZ:=ho.nh;have uN:m.eC r j p=false:=(kP cN).1;have hR:=eA R;cases hR with
  |rg _ _ _ _ _ _ _ _ _ hh=>
   have hv:=hh uN;rw [←nZ] at hv;cases ho with
   |nil _ _ h1=>
    have ap8:es.length≤0:=hlE;omega
   |sl _ _ _ b off cap vals E fk aD hlen ew hw hN lA=>
    have pD:¬cap=lo:=by omega
    simp only [nC,if_neg pD,zL,Addr.add_lit,Value.slice.injEq,zG,Addr.mk.injEq,and_true] at hv;obtain ⟨⟨rfl,rfl⟩,_,_⟩:=hv;have pF:e.length=sz:=hlen e (za KD);refine acW (P:=P) (a:=a) R (r:=r) (j:=j) (sz:=sz) (i:=lo+k) (c:=0) (p:=p) (es:=WE) (e:=e) (ds:=z) (vals:=zv) ?_ cN KD (by omega) ?_ (by omega) uP (fun q d x h1 h2=>hzd q d x h1 h2)
    ·rw [←nZ];simp only [yf,zP,Zh,zw]
    ·have BP:mV e 0 z=z:=by simp [mV];omega
     rw [BP,←hE,aep (by omega),abv _ _ _ _ _ _ (by simpa using uJ) hz];exact kv
 intro n;induction n with
 |zero=>
  intro k m m' w g hk R cN kv;have e1:hi-lo=k+1:=by omega
  have e2:hi=lo+(k+1):=by omega
  rw [e1] at kv;rw [e2] at kv;obtain ⟨w',g',h1,h2⟩:=step k (by omega) R cN (by simpa using kv);exact ⟨w',g',by simpa [rep] using h1,h2⟩
 |succ n ih=>
  intro k m m' w g hk R cN kv;obtain ⟨m1,nV⟩:=akE (.sl sz (es.take lo++zj (k+1) z++es.drop (lo+(k+1)))) cN;obtain ⟨w1,g1,h1,R1⟩:=step k (by omega) R cN nV;obtain ⟨w2,g2,h2,R2⟩:=ih (k+1) (by omega) R1 (akD cN nV) (by rw [akF nV];exact kv);refine ⟨w2,g2,?_,R2⟩;have e:rep (n+1+1) zv=zv++rep (n+1) zv:=by simp [rep,Zc]
  rw [e];refine acU zv _ B _ 0 h1 ?_;rw [show O+k*sz+0+zv.length=O+(k+1)*sz by rw [pO,zt];omega];exact h2
theorem an_ (z:Array Value) (n:Nat):(Builtin.zeroCells z n).toList=rep n z.toList:=by
 by_cases hz:z.size=0
 ·have:z=#[]:=Array.eq_empty_of_size_eq_zero hz;subst this;simp [Builtin.zeroCells,rep]
 apply Zg;intro k;have hlen:(rep n z.toList).length=n*z.size:=by simp [rep]
 by_cases hk:k<n*z.size
 ·rw [acn z.toList n k (by simpa using hk)];have hm:k%z.size<z.size:=zU _ (by omega);simp [Builtin.zeroCells,hk,hm]
 ·rw [zZ (by simp [Builtin.zeroCells];omega),zZ (by rw [hlen];omega)]
theorem ajX (R:Rel w0 cl0 S a.tmps w g) {sz:Nat} {z:List D} {x:PX} {op:Op} {av:AV} {rt:Option Rt} {m':Ms}
 (hc:cv P κ (.sV sz z x) op=true) (h:bh Γ S.ev d S.ms (.sV sz z x)=some (av,rt,m')) (o:Oper) (ho:o.op=op):
 ∃v w',(execOp a.eval o).run P w=.ok (.value v) w'∧kq w0 cl0 S a.tmps d av rt m' v w':=by
 cases op with
 |call c=>?_
 |_=>simp [cv] at hc
 simp only [cv] at hc;split at hc
 ·rename_i oa t qV lu vV;simp only [zd] at hc;obtain ⟨h1,h3⟩:=hc;split at h3
  ·rename_i e he;split at h3
   ·rename_i zl s1 gl ny jg;simp only [zd,beq_iff_eq] at h3;obtain ⟨rfl,agh⟩:=h3;obtain ⟨i,zv,hi,pO,pM,oU⟩:=Bm ny;have lD:P.underlying t=some (.slice e):=by unfold l_ at he;split at he<;>simp_all
    unfold la at jg;rw [hi] at jg;simp at jg;obtain ⟨hl,hg⟩:=Jv z zl agh;simp only [bh] at h;split at h
    ·rename_i r j p u_ lo lz hx;split at h
     ·rename_i EM es cN;split at h
      ·rename_i jb;obtain ⟨rfl,rfl,ai,tv,Mu,abj,oO⟩:=jb;split at h
       ·rename_i m2 kv;simp at h;obtain ⟨rfl,rfl,rfl⟩:=h;have e1:=(en R h1).1;rw [hx] at e1;generalize F3:a.eval oa=vv at e1
        have LL:∀{m:Ms} {w:World} {g:Gh},Rel w0 cl0 { S with ms:=m } a.tmps w g→RA w g m (.rg r j p u_ lo lz) vv:=fun R2=>by
         have:=(en R2 h1).1;rw [F3] at this;have dX:∀m,({ S with ms:=m }:St).ev x=S.ev x:=fun m=>by cases x<;>rfl
         rw [dX,hx] at this;exact this
        obtain ⟨x0,tD⟩:=R.at cN;have nZ:=tD.nh;have uN:S.ms.eC r j p=false:=(kP cN).1;cases e1 with
        |rg _ _ _ _ _ _ bb nn cc hh=>
         have hv:=hh uN;rw [←nZ] at hv;cases tD with
         |nil _ _ Dh=>simp at tv;omega
         |sl _ _ _ b off cap vals E fk aD hlen ew hw hN lA=>
          have pD:¬cap=lo:=by omega
          simp only [nC,if_neg pD,zL,Addr.add_lit,Value.slice.injEq] at hv;obtain ⟨rfl,rfl,rfl⟩:=hv
          obtain ⟨w',g',gC,R2⟩:=aeo (P:=P) (a:=a) (S:=S) (zv:=zl) (es:=es) (lo:=lo) (hi:=lz) abj Mu (by omega) (fun x hx=>by
           obtain ⟨q,hq⟩:=zk.1 hx;have KS:=cY hq;obtain ⟨dd,ni⟩:∃dd,z[q]?=some dd:=⟨_,zg (by omega)⟩;have agz:=Fg (w:=w) (g:=g) (q:=q) (hg q dd x ni hq)
           exact agz.one (fun e=>by subst e;have:=zb.1 abj _ (za ni);simp [D.dt] at this))
           (fun {w g} q dd x ni hq=>Fg (hg q dd x ni hq)) tv oO LL (lz-lo-1) 0 (m:=S.ms) (m':=m2) (by omega) R (by simpa using cN) kv
          refine ⟨.tuple #[],w',?_,⟨g',R2,.cf _ _ rfl (fun i a x hi=>by simp at hi),fun r hr=>by simp [AV.refs,AV.ea] at hr⟩⟩;obtain ⟨cs,hex⟩:=yh (a:=a) qV lu vV ho;have pI:lz-lo-1+1=lz-lo:=by omega
          rw [pI] at gC;rw [hex];obtain ⟨n',jH⟩:∃n',lz-lo=n'+1:=⟨lz-lo-1,by omega⟩;have Ay:(Builtin.zeroCells zv.cells (n'+1)).toList=rep (n'+1) zl:=by rw [an_,pM]
          simp only [zF,List.map_nil,F3];rw [jH];rw [jH] at gC;simp only [Nat.zero_mul,zP] at gC;simp [builtin,Builtin.clear_,run_underlying lD,zeroValue,typeInfo,hi,pO,Ay,gC]
       ·cases h
      ·cases h
     ·cases h
    ·cases h
   ·cases h3
  ·cases h3
 ·cases hc
end
end
section
section
variable {P:Program} {κ:Nat→FuncId} {w0:World} {cl0:fS} {S:St} {w:World} {g:Gh} {a:Act} {Γ:Env} {d:Nat}
def CN (w:World) (g:Gh) (r j:Nat) (cs:List C) (vs:List Value):Prop:=
 cs.length=vs.length∧∀(i:Nat) (c:C) (x:Value),cs[i]?=some c→vs[i]?=some x→RC w g r (j+i) c x
def mY (w:World) (g:Gh) (r j:Nat):V→Value→Prop
 |.one c,v=>RC w g r j c v∧v.cells=#[v]
 |.st cs,v=>∃vs:Array Value,v=.agg vs∧CN w g r j cs vs.toList
 |_,_=>False
def sK (w:World) (g:Gh):Nat→List V→List Value→Prop
 |_,[],[]=>True
 |n,x::xs,v::vs=>mY w g 0 n x v∧sK w g (n+x.flat.length) xs vs
 |_,_,_=>False
def Vo (w:World) (g:Gh) (r R:Nat) (cs:List C) (v:Value):Prop:=
 ∃b vals E,v=.pointer (some ⟨b,0,none⟩)∧g.cl b=.box R∧w.heap[b]?=some (.cells vals E)∧CN w g r 0 cs vals.toList
def uz (w:World) (g:Gh):V→Value→Prop
 |.cf xs,v=>∃vs:Array Value,v=.tuple vs∧sK w g 0 xs vs.toList
 |.ptr cs,v=>∃R,Vo w g 0 R cs v
 |x,v=>mY w g 0 0 x v
def pY (w:World) (g:Gh) (i:Nat):V→Value→Prop
 |.cf _,_=>False
 |.ptr cs,v=>Vo w g (i+1) i cs v
 |x,v=>mY w g (i+1) 0 x v∧(x.flat.any C.gx=true→∀(j:Nat) (y:Value),v.cells[j]?=some y→g.hd (i+1) j []=y)
structure Left (w:World) (g:Gh) (xs:List V) (args:Array Value) (us:List (Nat×Nat×C)) (w':World) (g':Gh):Prop where
 sd:il w w'
 sz:w.heap.size≤w'.heap.size
 fr:∀b,b<w.heap.size→(g.cl b).eG=false→w'.heap[b]?=w.heap[b]?
 im:∀b k,g'.cl b=kc k↔g.cl b=kc k
 bd:∀b,g'.cl b≠.no→b<w'.heap.size
 mi:∀b,b<w.heap.size→(g'.cl b).eG=true→(g.cl b).eG=true
 up:∀i j c,(i,j,c)∈us→match xs[i]? with
  |some (.ptr _)=>∃b vals E x,args[i]?=some (.pointer (some ⟨b,0,none⟩))∧g'.cl b=.box i∧w'.heap[b]?=some (.cells vals E)∧vals.size≤us.length∧vals[j]?=some x∧RC w' g' (i+1) j c x
  |_=>∃v x,args[i]?=some v∧v.cells[j]?=some x∧RC w' g' (i+1) j c x
def OK (P:Program) (f:FuncId) (xs:List V) (r:V) (us:List (Nat×Nat×C)):Prop:=
 ∀(w:World) (args:Array Value) (g:Gh),args.size=xs.length→(∀b,g.cl b≠.no→b<w.heap.size)→
  (∀(i:Nat) (x:V) (v:Value),xs[i]?=some x→args[i]?=some v→pY w g i x v)→
  Calls P f args w fun e w'=>∃v g',e=.returned v∧uz w' g' r v∧Left w g xs args us w' g'
theorem V8:∀(xs:List PX) (os:List Operand),yj xs os=true→xs.length=os.length∧∀(i:Nat) (x:PX) (o:Operand),xs[i]?=some x→os[i]?=some o→eh x o=true:=by
 intro xs;induction xs with
 |nil=>intro os h;cases os<;>simp [yj] at h ⊢
 |cons b bs ih=>
  intro os h;cases os with
  |nil=>simp [yj] at h
  |cons v vs=>
   simp only [yj,zd] at h;obtain ⟨h1,h2⟩:=ih vs h.2;refine ⟨by simp [h1],fun i c x hc hx=>?_⟩;cases i with
   |zero=>simp at hc hx;subst hc;subst hx;exact h.1
   |succ i=>exact h2 i c x (by simpa using hc) (by simpa using hx)
def Gh.iG (g:Gh) (lent bl:Bool) (ex:Nat→Bool):Gh where
 cl:=fun b=>match g.cl b with
  |.nz=>.nz
  |.kQ=>.kQ
  |.own 0 _ _=>.no
  |.own (n+1) _ _=>if lent&&!ex n then .kQ else .no
  |.box r=>if lent&&bl&&!ex r then .kQ else .no
  |.no=>.no
 hd:=g.hd
 bk:=g.bk
theorem Gh.ai8 {lent bl:Bool} {ex:Nat→Bool} {b:Nat}:(g.iG lent bl ex).cl b=.nz↔g.cl b=.nz:=by
 simp only [Gh.iG];cases h:g.cl b with
 |own n j ρ=>cases n<;>simp<;>split<;>simp
 |box r=>simp;split<;>simp
 |_=>simp
theorem Gh.ai9 {lent bl:Bool} {ex:Nat→Bool} {b:Nat} {k:Bool} (h:g.cl b=kc k):(g.iG lent bl ex).cl b=kc k:=by
 cases k<;>simp [kc] at h ⊢<;>simp [Gh.iG,h]
theorem Gh.abw {lent bl:Bool} {ex:Nat→Bool} {b:Nat}:((g.iG lent bl ex).cl b).eG=false:=by
 simp only [Gh.iG];cases h:g.cl b with
 |own n j ρ=>
  cases n with
  |zero=>rfl
  |succ n=>simp only;split<;>rfl
 |box r=>simp only;split<;>rfl
 |_=>rfl
theorem Gh.ai7 {lent bl:Bool} {ex:Nat→Bool} {b:Nat} {k:Bool} (hk:k=false∨lent=false) (h:(g.iG lent bl ex).cl b=kc k):g.cl b=kc k:=by
 simp only [Gh.iG] at h;revert h;cases hg:g.cl b with
 |own n j ρ=>rcases hk with rfl|rfl<;>cases n<;>simp [kc]<;>first|(split<;>simp;done)|(cases k<;>simp [kc];done)
 |box r=>rcases hk with rfl|rfl<;>simp [kc]<;>first|(split<;>simp;done)|(cases k<;>simp [kc];done)
 |no=>cases k<;>simp [kc]
 |nz=>simp
 |kQ=>simp
theorem Gh.ai_ {lent bl:Bool} {ex:Nat→Bool} {b:Nat} (h:g.cl b=.no):(g.iG lent bl ex).cl b=.no:=by
 simp [Gh.iG,h]
theorem akX:∀{cs:List C} {ds:List D},xM cs=some ds→ds.length=cs.length∧∀(i:Nat) (d:D),ds[i]?=some d→∃k,cs[i]?=some (.ro k d)∧(k=true∨d.dt=true):=by
 intro cs;induction cs with
 |nil=>intro ds h;simp [xM] at h;subst h;exact ⟨rfl,fun i d h=>by simp at h⟩
 |cons c cs ih=>
  intro ds h;cases c with
  |ro k d=>
   simp only [xM] at h;split at h
   ·rename_i hk;split at h
    ·rename_i JG h2;simp at h;subst h;obtain ⟨h3,h4⟩:=ih h2;refine ⟨by simp [h3],fun i d' hd=>?_⟩;cases i with
     |zero=>simp at hd;subst hd;exact ⟨k,rfl,by simpa using hk⟩
     |succ i=>exact h4 i d' (by simpa using hd)
    ·cases h
   ·cases h
  |own d=>simp [xM] at h
  |rf r j=>simp [xM] at h
theorem ai3:∀{cs:List C} {ds:List D},we cs=some ds→ds.length=cs.length∧∀(i:Nat) (d:D),ds[i]?=some d→(∃k,cs[i]?=some (.ro k d)∧(k=true∨d.dt=true))∨cs[i]?=some (.own d):=by
 intro cs;induction cs with
 |nil=>intro ds h;simp [we] at h;subst h;exact ⟨rfl,fun i d h=>by simp at h⟩
 |cons c cs ih=>
  intro ds h;cases c with
  |ro k d=>
   simp only [we] at h;split at h
   ·rename_i hk;split at h
    ·rename_i JG h2;simp at h;subst h;obtain ⟨h3,h4⟩:=ih h2;refine ⟨by simp [h3],fun i d' hd=>?_⟩;cases i with
     |zero=>simp at hd;subst hd;exact .inl ⟨k,rfl,by simpa using hk⟩
     |succ i=>exact h4 i d' (by simpa using hd)
    ·cases h
   ·cases h
  |own d=>
   simp only [we] at h;split at h
   ·rename_i JG h2;simp at h;subst h;obtain ⟨h3,h4⟩:=ih h2;refine ⟨by simp [h3],fun i d' hd=>?_⟩;cases i with
    |zero=>simp at hd;subst hd;exact .inr rfl
    |succ i=>exact h4 i d' (by simpa using hd)
   ·cases h
  |rf r j=>simp [we] at h
theorem RO.dt {w:World} {cl cl':Nat→gR} {k k':Bool} {d:D} {x:Value} (h:RO w cl k d x) (hs:d.dt=true):RO w cl' k' d x:=by
 cases h<;>first|exact .int _ _|exact .bool _|exact .str _|(simp [D.dt] at hs)
theorem VX (R:Rel w0 cl0 S a.tmps w g) {av:AV} {x:Value} {c:C} {lent bl:Bool} {ex:Nat→Bool} (ha:RA w g S.ms av x) (h:qb S.ms av=some c)
 (hl:av.DM=true→lent=true) (hb:av.DK=true→bl=true) (hex:∀r∈av.refs,ex r=false) (i j:Nat):
 RC w (g.iG lent bl ex) (i+1) j c x∧c.gx=false∧x.cells=#[x]∧c.dP=true:=by
 have g9:∀b k,g.cl b=kc k→w.heap[b]?=w.heap[b]?∧(g.iG lent bl ex).cl b=kc k:=fun b k h=>⟨rfl,Gh.ai9 h⟩
 unfold qb at h;split at h
 ·cases h
 ·rename_i k dd hd;simp at h;subst h;refine ⟨?_,rfl,?_,rfl⟩
  ·cases ha with
   |v _ _ _ hr=>exact .ro _ _ _ (hr.mono fun b hc=>g9 b _ hc)
  ·cases ha with
   |v _ _ _ hr=>cases hr<;>first|rfl|exact absurd rfl hd
 ·simp at h;subst h;cases ha with
  |nl=>exact ⟨.ro _ _ _ (.emp _ _ _),rfl,rfl,rfl⟩
 ·rename_i r j0 p;split at h
  ·rename_i sz es cN;simp at h;subst h;cases ha with
   |pl _ _ _ b n c hx=>
    obtain ⟨x0,ho⟩:=R.at cN;have:=hx (kP cN).1;have:=ho.nh;subst this;rw [hx (kP cN).1];refine ⟨.ro _ _ _ (ho.borrow fun b ρ hb=>⟨rfl,?_⟩),rfl,?_,rfl⟩
    ·simp [Gh.iG,hb,hl rfl,hex r (by simp [AV.refs])]
    ·obtain ⟨_,_,_,e⟩:=ho.slice;rw [e];rfl
  ·cases h
 ·rename_i r j0 p sz lo hi;split at h
  ·rename_i es yy;simp at h;subst h;obtain ⟨rQ,cN,h1,h2,rfl⟩:=Fq yy;cases ha with
   |rg _ _ _ _ _ _ b n c hx=>
    obtain ⟨x0,ho⟩:=R.at cN;have hk:=(kP cN).1;have:=ho.nh;subst this;have cX:=ho.borrow (cl':=(g.iG lent bl ex).cl) (w':=w) (fun b ρ hb=>⟨rfl,by simp [Gh.iG,hb,hl rfl,hex r (by simp [AV.refs])]⟩);obtain ⟨b1,n1,c1,e⟩:=ho.slice;rw [e] at cX;have:=(acq (g:=g.iG lent bl ex) cX h1 h2).2;rw [hx hk,e];exact ⟨.ro _ _ _ this,rfl,rfl,rfl⟩
  ·cases h
 ·rename_i f r;split at h
  ·rename_i cs hm;split at h
   ·rename_i d0 ds mJ;simp at h;subst h;cases ha;obtain ⟨aD,vals,E,hw,pL,fy⟩:=R.rt r _ hm;obtain ⟨hlen,cF⟩:=akX mJ;refine ⟨.ro _ _ _ (.CW f (d0::ds) (g.bk r) (by simp) ?_ (fun i hi=>?_) (fun i d' x hd hx=>?_)),rfl,rfl,rfl⟩
    ·simp [Gh.iG,aD,hl rfl,hb rfl,kc,hex r (by simp [AV.refs])]
    ·rw [rL hw];have:i<vals.size:=by rw [pL,←hlen];exact hi
     simp [this]
    ·rw [rL hw] at hx;obtain ⟨k,h1,h2⟩:=cF i d' hd;have h3:=fy i _ x h1 hx;cases h3 with
     |ro _ _ _ h4=>
      rcases h2 with rfl|h2
      ·exact h4.mono fun b hc=>g9 b _ hc
      ·exact h4.dt h2
   ·cases h
  ·cases h
 ·rename_i r;split at h
  ·rename_i cs hm;split at h
   ·rename_i d0 ds mJ;simp at h;subst h;cases ha;obtain ⟨aD,vals,E,hw,pL,fy⟩:=R.rt r _ hm;obtain ⟨hlen,cF⟩:=ai3 mJ;refine ⟨.ro _ _ _ (.rp (d0::ds) (g.bk r) (by simp) ?_ (fun i hi=>?_) (fun i d' x hd hx=>?_)),rfl,rfl,rfl⟩
    ·simp [Gh.iG,aD,hl rfl,hb rfl,kc,hex r (by simp [AV.refs])]
    ·rw [rL hw];have:i<vals.size:=by rw [pL,←hlen];exact hi
     simp [this]
    ·rw [rL hw] at hx;rcases cF i d' hd with ⟨k,h1,h2⟩|h1
     ·have h3:=fy i _ x h1 hx;cases h3 with
      |ro _ _ _ h4=>
       rcases h2 with rfl|h2
       ·exact h4.mono fun b hc=>g9 b _ hc
       ·exact h4.dt h2
     ·have h3:=fy i _ x h1 hx;cases h3 with
      |own _ _ h4=>exact h4.borrow fun b ρ hb=>⟨rfl,by simp [Gh.iG,hb,hl rfl,hex r (by simp [AV.refs])]⟩
   ·cases h
  ·cases h
 ·cases h
theorem ad_ (R:Rel w0 cl0 S a.tmps w g) {lent bl:Bool} {ex:Nat→Bool} (i:Nat):∀(as:List AV) (vs:List Value) (cs:List C) (j:Nat),as.length=vs.length→
 (∀(k:Nat) (av:AV) (x:Value),as[k]?=some av→vs[k]?=some x→RA w g S.ms av x)→qc S.ms as=some cs→
 ((AV.agg as).lent=true→lent=true)→((AV.agg as).vE=true→bl=true)→(∀r∈AV.ea as,ex r=false)→
 cs.length=vs.length∧(∀(k:Nat) (c:C) (x:Value),cs[k]?=some c→vs[k]?=some x→RC w (g.iG lent bl ex) (i+1) (j+k) c x)∧cs.any C.gx=false∧cs.all C.dP=true:=by
 intro as;induction as with
 |nil=>intro vs cs j hl eA h vK yD hex;simp [qc] at h;subst h;cases vs<;>simp at hl ⊢
 |cons av as ih=>
  intro vs cs j hl eA h vK yD hex;cases vs with
  |nil=>simp at hl
  |cons v vs=>
   simp only [qc] at h;cases h1:qb S.ms av with
   |none=>simp [h1] at h
   |some c=>
    simp only [h1] at h;cases h2:qc S.ms as with
    |none=>simp [h2] at h
    |some Bz=>
     simp only [h2] at h;simp at h;subst h
     have ag0:av.DM=true→lent=true:=fun hh=>vK (by
      simp only [AV.lent,zI,zm];left;exact hh)
     have ag1:(AV.agg as).lent=true→lent=true:=fun hh=>vK (by
      simp only [AV.lent,zI,zm] at hh ⊢;right;exact hh)
     have agt:av.DK=true→bl=true:=fun hh=>yD (by
      simp only [AV.vE,zI,zm];left;exact hh)
     have agu:(AV.agg as).vE=true→bl=true:=fun hh=>yD (by
      simp only [AV.vE,zI,zm] at hh ⊢;right;exact hh)
     obtain ⟨k1,k2,k3,k4⟩:=VX R (eA 0 av v rfl rfl) h1 ag0 agt (fun r hr=>hex r (by simp [AV.ea,hr])) i j;obtain ⟨q1,q2,q3,q4⟩:=ih vs Bz (j+1) (by simpa using hl) (fun k av x hk hx=>eA (k+1) av x hk hx) h2 ag1 agu (fun r hr=>hex r (by simp [AV.ea,hr]));refine ⟨by simp [q1],fun k c' x hc hx=>?_,by simp [k2,q3],by simp [k4,q4]⟩;cases k with
     |zero=>simp at hc hx;subst hc;subst hx;exact k1
     |succ k=>
      have:=q2 k c' x hc hx;rwa [show j+(k+1)=j+1+k from by omega]
theorem ad1 (R:Rel w0 cl0 S a.tmps w g) {av:AV} {v:Value} {x:V} {lent bl:Bool} {ex:Nat→Bool} (ha:RA w g S.ms av v) (h:oG S.ms false av=some x) (hl:av.lent=true→lent=true) (hb:av.vE=true→bl=true) (hex:∀r∈av.refs,ex r=false) (i:Nat):
 pY w (g.iG lent bl ex) i x v:=by
 cases av with
 |agg as=>
  simp only [oG,zr,if_false] at h;cases h1:qc S.ms as with
  |none=>simp [h1] at h
  |some cs=>
   simp [h1] at h;subst h;cases ha with
   |agg _ vs hlen eA=>
    obtain ⟨q1,q2,q3,_⟩:=ad_ (lent:=lent) (bl:=bl) (ex:=ex) R i as vs.toList cs 0 (by simpa using hlen) (fun k av x hk hx=>eA k av x hk (by simpa using hx)) h1 hl hb hex;exact ⟨⟨vs,rfl,q1,q2⟩,fun h=>by simp only [V.flat] at h;rw [q3] at h;cases h⟩
 |_=>
  simp only [oG,zr,if_false] at h;split at h
  ·rename_i c hc;simp at h;subst h;obtain ⟨k1,k2,k3,_⟩:=VX (lent:=lent) (bl:=bl) (ex:=ex) R ha hc hl hb hex i 0;exact ⟨⟨k1,k3⟩,fun h=>by simp [V.flat,k2] at h⟩
  ·cases h
end
end
section
section
variable {P:Program} {κ:Nat→FuncId} {w0:World} {cl0:fS} {S:St} {w:World} {g:Gh} {a:Act} {Γ:Env} {d:Nat}
theorem Rel.grow (R:Rel w0 cl0 S a.tmps w g) {w':World} {g':Gh} (hp:∀b,b<w.heap.size→w'.heap[b]?=w.heap[b]?) (hs:w.heap.size≤w'.heap.size) (gD:il w w')
 (aD:∀b,b<w.heap.size→g'.cl b=g.cl b) (jI:∀b,w.heap.size≤b→g'.cl b=.no) (fk:g'.hd=g.hd) (qq:g'.bk=g.bk):Rel w0 cl0 S a.tmps w' g':=by
 have ai:∀b c,g.cl b=c→c≠.no→w'.heap[b]?=w.heap[b]?∧g'.cl b=c:=fun b c h hc=>by
  have:=R.bd b (by rw [h];exact hc);exact ⟨hp b this,by rw [aD b this,h]⟩
 have g9:∀b k,g.cl b=kc k→w'.heap[b]?=w.heap[b]?∧g'.cl b=kc k:=fun b k h=>ai b _ h (by cases k<;>simp [kc])
 have agi:∀b c,c≠.no→(g'.cl b=c↔g.cl b=c):=fun b c hc=>by
  rcases zN b w.heap.size with h|h
  ·rw [aD b h]
  ·rw [jI b h];refine ⟨fun e=>absurd e.symm hc,fun e=>?_⟩;have:=R.bd b (by rw [e];exact hc);omega
 refine { av:=fun n=>(R.av n).mono g9 (fun r _=>⟨by rw [qq],fun j p hk=>⟨hk,by rw [fk]⟩⟩),rt:=fun n rt h=>?_,kI:=R.kI,jN:=R.jN,
          bd:=fun b h=>?_,sz:=Zd R.sz hs,fr:=fun b hb hm=>?_,im:=fun b k=>(agi b _ (by cases k<;>simp [kc])).trans (R.im b k),mi:=fun b hb hm=>?_,sd:=R.sd.trans gD,
          j8:=fun i hi=>(by have h:=R.j8 i hi;unfold E3 at h ⊢;rw [fk,qq];exact h) }
 ·have h0:=R.rt n rt h;refine h0.mono g9 (fun b j ρ hb=>ai b _ hb (by simp)) (fun cs fY=>?_) (fun j ρ=>by rw [fk]) (fun _ _ _ _=>by rw [fk]);subst fY;have:=ai _ _ h0.1 (by simp);exact ⟨by rw [qq],this.1,by rw [this.2,h0.1]⟩
 ·rcases zN b w.heap.size with h1|h1
  ·omega
  ·exact absurd (jI b h1) h
 ·rw [hp b (zB hb R.sz)];exact R.fr b hb hm
 ·rw [aD b (zB hb R.sz)] at hm;exact R.mi b hb hm
def V.vals:V→Value→List Value
 |.cf _,v=>match v with
  |.tuple vs=>vs.toList.flatMap fun x=>x.cells.toList
  |_=>[]
 |_,v=>v.cells.toList
def V.ja:V→List C
 |.cf xs=>xs.flatMap V.flat
 |x=>x.flat
theorem yd {w:World} {g:Gh} {r j:Nat} {x:V} {v:Value} (h:mY w g r j x v):CN w g r j x.flat v.cells.toList:=by
 cases x with
 |one c=>
  obtain ⟨h1,h2⟩:=h;rw [h2];refine ⟨rfl,fun i c' y hc hy=>?_⟩;cases i with
  |zero=>simp [V.flat] at hc hy;subst hc;subst hy;exact h1
  |succ i=>simp [V.flat] at hc
 |st cs=>
  obtain ⟨vs,rfl,h2⟩:=h;exact h2
 |ptr=>exact h.elim
 |cf=>exact h.elim
theorem adM {w:World} {g:Gh}:∀(xs:List V) (vs:List Value) (n:Nat),sK w g n xs vs→CN w g 0 n (xs.flatMap V.flat) (vs.flatMap fun x=>x.cells.toList):=by
 intro xs;induction xs with
 |nil=>intro vs n h;cases vs<;>simp [sK] at h;exact ⟨rfl,fun i c x hc=>by simp at hc⟩
 |cons x xs ih=>
  intro vs n h;cases vs with
  |nil=>simp [sK] at h
  |cons v vs=>
   simp only [sK] at h;obtain ⟨h1,h2⟩:=yd h.1;obtain ⟨h3,h4⟩:=ih vs _ h.2;refine ⟨by simp [h1,h3] at *,fun i c y hc hy=>?_⟩
   ·simp only [zp] at hc hy;by_cases hi:i<x.flat.length
    ·rw [zf hi] at hc;rw [zf (by omega)] at hy;exact h2 i c y hc hy
    ·rw [ze (by omega)] at hc hy;have:=h4 (i-x.flat.length) c y hc (by rwa [h1]);rwa [show n+x.flat.length+(i-x.flat.length)=n+i from by omega] at this
theorem IZ {w:World} {g:Gh} {x:V} {v:Value} (h:uz w g x v) (hn:∀cs,x≠.ptr cs):CN w g 0 0 x.ja (x.vals v):=by
 cases x with
 |cf xs=>
  obtain ⟨vs,rfl,h2⟩:=h;exact adM xs vs.toList 0 h2
 |ptr cs=>exact absurd rfl (hn cs)
 |one c=>exact yd (x:=.one c) h
 |st cs=>exact yd (x:=.st cs) h
theorem ais {m:Ms}:∀(cs:List C) (vs:List Value) (n:Nat),cs.length=vs.length→(∀(i:Nat) (c:C) (x:Value),cs[i]?=some c→vs[i]?=some x→RA w g m (mR d (n+i) c) x)→
 (rY d n cs).length=vs.length∧∀(i:Nat) (b:AV) (x:Value),(rY d n cs)[i]?=some b→vs[i]?=some x→RA w g m b x:=by
 intro cs;induction cs with
 |nil=>intro vs n hl h;cases vs<;>simp [rY] at hl ⊢
 |cons c cs ih=>
  intro vs n hl h;cases vs with
  |nil=>simp at hl
  |cons v vs=>
   obtain ⟨h1,h2⟩:=ih vs (n+1) (by simpa using hl) (fun i c' x hc hx=>by
    have:=h (i+1) c' x hc hx
    rwa [show n+(i+1)=n+1+i from by omega] at this)
   refine ⟨by simp [rY,h1],fun i b x hb hx=>?_⟩;cases i with
   |zero=>simp [rY] at hb hx;subst hb;subst hx;exact h 0 c v rfl rfl
   |succ i=>exact h2 i b x (by simpa [rY] using hb) (by simpa using hx)
theorem F4 {m:Ms} {x:V} {v:Value} {n:Nat} {w1:World} {g1:Gh} {r:Nat} (h:mY w1 g1 r n x v)
 (hc:∀(i:Nat) (c:C) (y:Value),x.flat[i]?=some c→v.cells[i]?=some y→RA w g m (mR d (n+i) c) y):RA w g m (v_ d n x) v:=by
 cases x with
 |one c=>
  obtain ⟨h1,h2⟩:=h;exact hc 0 c v rfl (by rw [h2];rfl)
 |st cs=>
  obtain ⟨vs,rfl,hl,_⟩:=h
  obtain ⟨h3,h4⟩:=ais (w:=w) (g:=g) (m:=m) (d:=d) cs vs.toList n hl (fun i c y h5 h6=>hc i c y h5 (by
   show (Value.agg vs).cells[i]?=some y
   simpa [Value.cells] using h6))
  exact .agg _ _ (by simpa using h3) (fun i b y h5 h6=>h4 i b y h5 (by simpa using h6))
 |ptr=>exact h.elim
 |cf=>exact h.elim
theorem ait {m:Ms} {w1:World} {g1:Gh}:∀(xs:List V) (vs:List Value) (n:Nat),sK w1 g1 n xs vs→
 (∀(i:Nat) (c:C) (y:Value),(xs.flatMap V.flat)[i]?=some c→(vs.flatMap fun x=>x.cells.toList)[i]?=some y→RA w g m (mR d (n+i) c) y)→
 (rZ d n xs).length=vs.length∧∀(i:Nat) (b:AV) (x:Value),(rZ d n xs)[i]?=some b→vs[i]?=some x→RA w g m b x:=by
 intro xs;induction xs with
 |nil=>intro vs n h hc;cases vs<;>simp [sK] at h;simp [rZ]
 |cons x xs ih=>
  intro vs n h hc;cases vs with
  |nil=>simp [sK] at h
  |cons v vs=>
   simp only [sK] at h;obtain ⟨h1,h2⟩:=yd h.1
   obtain ⟨h3,h4⟩:=ih vs _ h.2 (fun i c y iX hy=>by
    have:=hc (x.flat.length+i) c y (by
     simp only [zp]
     rw [ze (by omega),show x.flat.length+i-x.flat.length=i from by omega];exact iX) (by
     simp only [zp]
     rw [ze (by omega),show x.flat.length+i-v.cells.toList.length=i from by omega];exact hy)
    rwa [←zw] at this)
   refine ⟨by simp [rZ,h3],fun i b y hb hy=>?_⟩;cases i with
   |zero=>
    simp [rZ] at hb hy;subst hb;subst hy;refine F4 h.1 (fun i c y iX hy=>hc i c y ?_ ?_)
    ·simp only [zp];rw [zf (cY iX)];exact iX
    ·simp only [zp];have:i<v.cells.toList.length:=by have:=cY iX;omega
     rw [zf this];simpa using hy
   |succ i=>exact h4 i b y (by simpa [rZ] using hb) (by simpa using hy)
theorem BT {m:Ms} {x:V} {v:Value} {w1:World} {g1:Gh} (h:uz w1 g1 x v) (hn:∀cs,x≠.ptr cs)
 (hc:∀(i:Nat) (c:C) (y:Value),x.ja[i]?=some c→(x.vals v)[i]?=some y→RA w g m (mR d i c) y):RA w g m (imp d x).1 v:=by
 cases x with
 |cf xs=>
  obtain ⟨vs,rfl,h2⟩:=h;obtain ⟨h3,h4⟩:=ait (w:=w) (g:=g) (m:=m) (d:=d) xs vs.toList 0 h2 (fun i c y h5 h6=>by rw [zh];exact hc i c y h5 h6);exact .cf _ _ (by simpa using h3) (fun i b y h5 h6=>h4 i b y h5 (by simpa using h6))
 |ptr cs=>exact absurd rfl (hn cs)
 |one c=>exact F4 (x:=.one c) (n:=0) h (fun i c y h5 h6=>by rw [zh];exact hc i c y h5 (by simpa [V.vals] using h6))
 |st cs=>exact F4 (x:=.st cs) (n:=0) h (fun i c y h5 h6=>by rw [zh];exact hc i c y h5 (by simpa [V.vals] using h6))
theorem Uz {d n r:Nat} {c:C} (h:r∈(mR d n c).refs) (hn:c.dP=true):r=d∧c.gx=true:=by
 cases c with
 |ro k dd=>simp [mR,Gf] at h
 |own dd=>
  simp only [mR,vo] at h;split at h
  ·simp [AV.refs] at h;exact ⟨h,by simp [C.gx,D.dt]⟩
  ·simp [AV.refs] at h
  ·simp [AV.refs] at h
 |rf=>simp [C.dP] at hn
theorem abl:∀(cs:List C) (n r:Nat),cs.all C.dP=true→r∈AV.ea (rY d n cs)→r=d∧cs.any C.gx=true:=by
 intro cs;induction cs with
 |nil=>intro n r _ h;simp [rY,AV.ea] at h
 |cons c cs ih=>
  intro n r hn h;simp only [Zb,zd] at hn;simp only [rY,AV.ea,zz] at h;rcases h with h|h
  ·obtain ⟨h1,h2⟩:=Uz h hn.1;exact ⟨h1,by simp [h2]⟩
  ·obtain ⟨h1,h2⟩:=ih _ r hn.2 h;exact ⟨h1,by simp [h2]⟩
theorem aiu:∀(xs:List V) (n r:Nat),xs.all V.xH=true→r∈AV.ea (rZ d n xs)→r=d∧(xs.flatMap V.flat).any C.gx=true:=by
 intro xs;induction xs with
 |nil=>intro n r _ h;simp [rZ,AV.ea] at h
 |cons x xs ih=>
  intro n r hn h;simp only [Zb,zd] at hn;simp only [rZ,AV.ea,zz] at h;rcases h with h|h
  ·have:r=d∧x.flat.any C.gx=true:=by
    cases x with
    |one c=>obtain ⟨h1,h2⟩:=Uz h hn.1;exact ⟨h1,by simp [V.flat,h2]⟩
    |st cs=>exact abl cs n r hn.1 (by simpa [v_,AV.refs] using h)
    |_=>simp [V.xH] at hn
   exact ⟨this.1,by simp only [zp,zX,this.2,Bool.true_or]⟩
  ·obtain ⟨h1,h2⟩:=ih _ r hn.2 h;exact ⟨h1,by simp only [zp,zX,h2,Bool.or_true]⟩
theorem Ip {x:V} (h:x.plain=true) (hn:∀cs,x≠.ptr cs):x.ja.all C.dP=true:=by
 cases x with
 |one c=>simpa [V.ja,V.flat,V.plain,V.xH] using h
 |st cs=>simpa [V.ja,V.flat,V.plain,V.xH] using h
 |ptr cs=>exact absurd rfl (hn cs)
 |cf xs=>
  simp only [V.plain] at h;simp only [V.ja];rw [Zj];refine zb.2 (fun x hx=>?_);have:=zb.1 h x hx;cases x<;>simp_all [V.xH,V.flat]
theorem MJ {x:V} (h:x.fl=true) (hn:∀cs,x≠.ptr cs):x.ja.all C.fl=true:=by
 cases x with
 |one c=>simpa [V.ja,V.flat,V.fl,V.wj] using h
 |st cs=>simpa [V.ja,V.flat,V.fl,V.wj] using h
 |ptr cs=>exact absurd rfl (hn cs)
 |cf xs=>
  simp only [V.fl] at h;simp only [V.ja];rw [Zj];refine zb.2 (fun x hx=>?_);have:=zb.1 h x hx;cases x<;>simp_all [V.wj,V.flat]
theorem AA {x:V} (h:x.plain=true) (hn:∀cs,x≠.ptr cs) {r:Nat} (hr:r∈(imp d x).1.refs):r=d∧x.ja.any C.gx=true:=by
 cases x with
 |one c=>exact (fun h=>⟨h.1,by simp [V.ja,V.flat,h.2]⟩) (Uz hr h)
 |st cs=>exact abl cs 0 r h (by simpa [imp,v_,AV.refs] using hr)
 |ptr cs=>exact absurd rfl (hn cs)
 |cf xs=>exact aiu xs 0 r h (by simpa [imp,AV.refs] using hr)
theorem BU {x:V} (hn:∀cs,x≠.ptr cs):(imp d x).2=if x.ja.any C.gx then some (.aX x.ja) else none:=by
 cases x with
 |ptr cs=>exact absurd rfl (hn cs)
 |_=>rfl
def Gh.im (g g':Gh) (d size bR:Nat) (X:Nat→Value):Gh where
 cl:=fun b=>if b<size then g.cl b else match g'.cl b with
  |.own 0 j ρ=>.own (d+1) j ρ
  |.box _=>if b=bR then .box d else .no
  |_=>.no
 hd:=fun r j ρ=>if r=d+1 then (if ρ=[] then X j else g'.hd 0 j ρ) else g.hd r j ρ
 bk:=bO g.bk d bR
theorem h_.im (gw:∀b,g.cl b≠.no→b<w.heap.size) {w':World} {g':Gh} {bR:Nat} {X:Nat→Value} (hp:∀b,b<w.heap.size→w'.heap[b]?=w.heap[b]?) (hs:w.heap.size≤w'.heap.size) (gD:il w w')
 (C6:∀b,g'.cl b≠.no→b<w'.heap.size):h_ d w w' g (g.im g' d w.heap.size bR X):=by
 refine { hp:=fun b h _=>hp b h,hs:=hs,kc:=fun b k=>?_,cl:=fun b n j ρ h hn=>?_,bx:=fun b n h hn=>?_,hd:=fun n j ρ hn=>by simp [Gh.im,hn],
          bk:=fun n hn=>by simp [Gh.im,bO,hn],bd:=fun b h=>?_,mi:=fun b hb h=>by simpa [Gh.im,hb] using h,sd:=gD }
 ·by_cases hb:b<w.heap.size
  ·simp [Gh.im,hb]
  ·have:g.cl b=.no:=by
    by_cases h:g.cl b=.no
    ·exact h
    ·exact absurd (gw b h) hb
   rw [this];simp only [Gh.im,if_neg hb];split<;>first|(cases k<;>simp [OM.kc];done)|(split<;>cases k<;>simp [OM.kc])
 ·have:=gw b (by rw [h];simp);simp [Gh.im,this,h]
 ·have:=gw b (by rw [h];simp);simp [Gh.im,this,h]
 ·by_cases hb:b<w.heap.size
  ·left;simpa [Gh.im,hb] using h
  ·right;refine ⟨by omega,C6 b (fun e=>?_)⟩;simp [Gh.im,hb,e] at h
theorem aed (R:Rel w0 cl0 S a.tmps w g) {lent bl:Bool} {ex:Nat→Bool} {xs:List V} {args:Array Value} {r:V} {w':World} {g':Gh} {v:Value} (cJ:r.plain=true) (ez:(r.fl||!lent)=true)
 (hr:uz w' g' r v) (hL:Left w (g.iG lent bl ex) xs args [] w' g') (hn:((imp d r).2).isSome→(S.ms d).1=none):
 kq w0 cl0 S a.tmps d (imp d r).1 (imp d r).2 S.ms v w':=by
 have hp:∀b,b<w.heap.size→w'.heap[b]?=w.heap[b]?:=fun b hb=>hL.fr b hb Gh.abw
 have aaW:∀b,b<w.heap.size→(g'.cl b).eG=false:=fun b hb=>by
  cases h:(g'.cl b).eG
  ·rfl
  ·have:=hL.mi b hb h;rw [Gh.abw] at this;cases this
 have agM:∀b,g'.cl b=.nz→b<w.heap.size∧g.cl b=.nz:=fun b h=>by
  have:=Gh.ai8.1 ((hL.im b false).1 h);exact ⟨R.bd b (by rw [this];simp),this⟩
 have aga:lent=false→∀b,g'.cl b=.kQ→b<w.heap.size∧g.cl b=.kQ:=fun hl b h=>by
  have h1:=(hL.im b true).1 h;have:g.cl b=.kQ:=Gh.ai7 (k:=true) (.inr hl) h1;exact ⟨R.bd b (by rw [this];simp),this⟩
 have cX:∀{g2:Gh} {k:Bool} {dd:D} {x:Value},(∀b,b<w.heap.size→g2.cl b=g.cl b)→RO w' g'.cl k dd x→(C.ro k dd).fl=true∨lent=false→RO w' g2.cl k dd x:=by
  intro g2 k dd x ey h ho;cases k with
  |false=>exact h.mono fun b hb=>⟨rfl,by obtain ⟨h1,h2⟩:=agM b hb;rw [ey b h1,h2];rfl⟩
  |true=>
   rcases ho with ho|ho
   ·simp only [C.fl,Bool.not_true,Zn] at ho;cases h with
    |int=>exact .int _ _
    |bool=>exact .bool _
    |str=>exact .str _
    |_=>simp [D.dt] at ho
   ·exact h.mono fun b hb=>⟨rfl,by obtain ⟨h1,h2⟩:=aga ho b hb;rw [ey b h1,h2];rfl⟩
 have Dq:∀{g2:Gh} {n r1 j1:Nat} {dd:D} {x:Value},(∀b ρ,w.heap.size≤b→g'.cl b=.own 0 n ρ→g2.cl b=.own r1 j1 ρ)→(∀ρ,ρ≠[]→g2.hd r1 j1 ρ=g'.hd 0 n ρ)→(g2.hd r1 j1 []=x)→
  OW w' g' 0 n [] dd x→OW w' g2 r1 j1 [] dd x:=by
  intro g2 n r1 j1 dd x h1 h2 h3 h
  have aB:∀b ρ,g'.cl b=.own 0 n ρ→w.heap.size≤b:=fun b ρ hb=>by
   rcases zN b w.heap.size with h|h
   ·have:=aaW b h;rw [hb] at this;cases this
   ·exact h
  exact Hd.place (w:=w') (g:=g') (.inl h) (fun b ρ hb=>⟨rfl,by simpa using h1 b ρ (aB b ρ hb) hb⟩) (fun ρ oe=>by simpa using h2 ρ oe) h3
 by_cases qw:∃cs,r=.ptr cs
 ·obtain ⟨cs,rfl⟩:=qw;obtain ⟨Rn,b,vals,E,rfl,aD,ie,pD,fu⟩:=hr
  have BE:w.heap.size≤b:=by
   rcases zN b w.heap.size with h|h
   ·have:=aaW b h;rw [aD] at this;cases this
   ·exact h
  have H:=h_.im (d:=d) (g:=g) (g':=g') (w:=w) (w':=w') (bR:=b) (X:=fun j=>vals.getD j undef) R.bd hp hL.sz hL.sd hL.bd;simp only [imp] at hn ⊢;have fK:=hn rfl;simp only [V.plain] at cJ
  have fU:∀(j:Nat) (c:C) (x:Value),cs[j]?=some c→vals[j]?=some x→RC w' (g.im g' d w.heap.size b fun j=>vals.getD j undef) (d+1) j c x:=by
   intro j c x hc hx;have h5:=fu j c x hc (by simpa using hx);rw [zh] at h5;have jI:=zb.1 cJ c (za hc)
   have vM:c.fl=true∨lent=false:=by
    rcases zm _ _▸ez with h|h
    ·simp only [V.fl,V.wj] at h;exact .inl (zb.1 h c (za hc))
    ·right;simpa using h
   cases h5 with
   |ro k dd _ h6=>exact .ro _ _ _ (cX (fun b hb=>by simp [Gh.im,hb]) h6 vM)
   |own dd _ h6=>
    refine .own _ _ (Dq (fun b ρ hb h7=>?_) (fun ρ oe=>by simp [Gh.im,oe]) ?_ h6)
    ·have:¬b<w.heap.size:=by omega
     simp [Gh.im,this,h7]
    ·simp [Gh.im,zD,hx]
   |rf=>simp [C.dP] at jI
  refine ⟨_,R.fresh (rt:=.bx cs) fK H ⟨?_,vals,E,?_,by simpa using pD.symm,fU⟩ (fun j r1 j1 hj=>?_),?_,fun q hq=>?_⟩
  ·have:¬b<w.heap.size:=by omega
   simp [Gh.im,bO,this,aD]
  ·simp only [Gh.im,qK];exact ie
  ·have:=zb.1 cJ _ (za hj);simp [C.dP] at this
  ·have rT:=RA.bx (w:=w') (g:=g.im g' d w.heap.size b fun j=>vals.getD j undef) (m:=bO S.ms d (some (.bx cs),[])) d 0;have:(g.im g' d w.heap.size b fun j=>vals.getD j undef).bk d=b:=by simp [Gh.im,bO]
   rw [this] at rT;exact rT
  ·simp [AV.refs] at hq;subst hq;simp [bO]
 ·have iY:∀cs,r≠.ptr cs:=fun cs e=>qw ⟨cs,e⟩
  obtain ⟨oO,xj⟩:=IZ hr iY;have tE:=Ip cJ iY
  have xp:∀c∈r.ja,c.fl=true∨lent=false:=by
   intro c hc;rcases zm _ _▸ez with h|h
   ·exact .inl (zb.1 (MJ h iY) c hc)
   ·right;simpa using h
  rw [BU iY] at hn ⊢;by_cases mI:r.ja.any C.gx=true
  ·rw [if_pos mI] at hn ⊢;have fK:=hn rfl;have H:=h_.im (d:=d) (g:=g) (g':=g') (w:=w) (w':=w') (bR:=0) (X:=fun j=>(r.vals v).getD j undef) R.bd hp hL.sz hL.sd hL.bd
   have fU:∀(j:Nat) (c:C) (x:Value),r.ja[j]?=some c→(r.vals v)[j]?=some x→RC w' (g.im g' d w.heap.size 0 fun j=>(r.vals v).getD j undef) (d+1) j c x:=by
    intro j c x hc hx;have h5:=xj j c x hc hx;rw [zh] at h5;have jI:=zb.1 tE c (za hc);have vM:=xp c (za hc);cases h5 with
    |ro k dd _ h6=>exact .ro _ _ _ (cX (fun b hb=>by simp [Gh.im,hb]) h6 vM)
    |own dd _ h6=>
     refine .own _ _ (Dq (fun b ρ hb h7=>?_) (fun ρ oe=>by simp [Gh.im,oe]) ?_ h6)
     ·have:¬b<w.heap.size:=by omega
      simp [Gh.im,this,h7]
     ·simp [Gh.im,zu,hx]
    |rf=>simp [C.dP] at jI
   refine ⟨_,R.fresh (rt:=.aX r.ja) fK H (fun j c hc=>?_) (fun j r1 j1 hj=>?_),?_,fun q hq=>?_⟩
   ·have ai:=cY hc;have hx:(r.vals v)[j]?=some (r.vals v)[j]:=by simp [show j<(r.vals v).length from by omega]
    have:=fU j c _ hc hx;have hh:(g.im g' d w.heap.size 0 fun j=>(r.vals v).getD j undef).hd (d+1) j []=(r.vals v)[j]:=by simp [Gh.im,zu,hx]
    rw [hh];exact this
   ·have:=zb.1 tE _ (za hj);simp [C.dP] at this
   ·exact BT hr iY (fun i c y hc hy=>A_ (fU i c y hc hy))
   ·obtain ⟨rfl,_⟩:=AA cJ iY hq;simp [bO]
  ·rw [if_neg mI] at hn ⊢
   let g2:Gh:={ cl:=fun b=>if b<w.heap.size then g.cl b else .no,hd:=g.hd,bk:=g.bk }
   have R2:Rel w0 cl0 S a.tmps w' g2:=R.grow hp hL.sz hL.sd (fun b hb=>by simp [g2,hb]) (fun b hb=>by simp [g2,show ¬b<w.heap.size from by omega]) rfl rfl;refine ⟨g2,R2,?_,fun q hq=>?_⟩
   ·refine BT hr iY (fun i c y hc hy=>?_);have h5:=xj i c y hc hy;have vM:=xp c (za hc);have jI:=zb.1 tE c (za hc);cases h5 with
    |ro k dd _ h6=>exact Ge (cX (fun b hb=>by simp [g2,hb]) h6 vM)
    |own dd _ h6=>
     have yU:dd.dt=true:=by
      have:(C.own dd).gx=false:=by
       cases h8:(C.own dd).gx
       ·rfl
       ·exact absurd (zK.2 ⟨_,za hc,h8⟩) mI
      simpa [C.gx] using this
     refine Jr (w:=w') (g:=g2) (r:=d) (j:=i) (p:=[]) ?_;cases h6 with
     |int=>exact .int _ _ _
     |bool=>exact .bool _ _
     |str=>exact .str _ _
     |_=>simp [D.dt] at yU
    |rf=>simp [C.dP] at jI
   ·exact absurd (AA cJ iY hq).2 mI
end
end
section
def Gh.gv (g:Gh) (m':Ms) (r j:Nat) (p:bQ) (q:Nat):Gh where
 cl:=fun b=>match g.cl b with
  |.own 0 q1 ρ=>if q1=q then .own (r+1) j (p++ρ) else .own 0 q1 ρ
  |c=>c
 hd:=fun r1 j1 ρ=>if r1=r+1∧j1=j∧p <+: ρ∧m'.eC r j ρ=true then g.hd 0 q (ρ.drop p.length) else g.hd r1 j1 ρ
 bk:=g.bk
section
variable {w0:World} {cl0:fS} {S:St} {ts:Array Value} {w:World} {g:Gh}
theorem Gh.Kc {m':Ms} {r j:Nat} {p:bQ} {q b:Nat} {k:Bool}:(g.gv m' r j p q).cl b=kc k↔g.cl b=kc k:=by
 simp only [Gh.gv];split
 ·rename_i q1 ρ h;rw [h];split<;>cases k<;>simp [kc]
 ·exact .rfl
theorem Gh.afC {m':Ms} {r j:Nat} {p:bQ} {q b:Nat}:(g.gv m' r j p q).cl b=.no↔g.cl b=.no:=by
 simp only [Gh.gv];split
 ·rename_i q1 ρ h;rw [h];split<;>simp
 ·exact .rfl
theorem Gh.afB {m':Ms} {r j:Nat} {p:bQ} {q b:Nat}:((g.gv m' r j p q).cl b).eG=(g.cl b).eG:=by
 simp only [Gh.gv];split
 ·rename_i q1 ρ h;rw [h];split<;>rfl
 ·rfl
theorem Gh.Kd {m':Ms} {r j:Nat} {p:bQ} {q b n j1:Nat} {ρ:bQ} (h:g.cl b=.own (n+1) j1 ρ):(g.gv m' r j p q).cl b=.own (n+1) j1 ρ:=by
 simp only [Gh.gv,h]
theorem Gh.Kb {m':Ms} {r j:Nat} {p:bQ} {q b n:Nat} (h:g.cl b=.box n):(g.gv m' r j p q).cl b=.box n:=by
 simp only [Gh.gv,h]
theorem amM (p:bQ) (c:Nat):pW (p++[(0,c)]) p=false:=by
 induction p with
 |nil=>rfl
 |cons x p ih=>obtain ⟨i,k⟩:=x;simp [pW,ih]
theorem amL (p:bQ) (i c:Nat) (ρ:bQ):pW (p++[(0,c)]) (p++(i,c)::ρ)=true:=by
 induction p with
 |nil=>simp [pW]
 |cons x p ih=>obtain ⟨i1,k⟩:=x;simp [pW,ih]
theorem ajE {j:Nat} {p:bQ}:∀{n c:Nat},c<n→(j,p++[(0,c)])∈wc j p n:=by
 intro n;induction n with
 |zero=>intro c h;omega
 |succ n ih=>
  intro c h;simp only [wc];by_cases e:c=n
  ·subst e;simp
  ·exact zM _ (ih (by omega))
theorem aiY {j:Nat} {p:bQ}:∀{n:Nat},(wc j p n).any (fun x=>x.1==j&&pW x.2 p)=false:=by
 intro n;induction n with
 |zero=>rfl
 |succ n ih=>simp only [wc,zI,ih,amM];simp
structure ye (q:Nat) (g:Gh) (m:Ms) (g':Gh) (m':Ms):Prop where
 kc:∀b k,g'.cl b=kc k↔g.cl b=kc k
 bk:g'.bk=g.bk
 kl:∀r j p,m'.eC r j p=false→m.eC r j p=false
 hd:∀r j p,m'.eC r j p=false→g'.hd (r+1) j p=g.hd (r+1) j p
 cl0:∀b q1 ρ,q1≠q→g.cl b=.own 0 q1 ρ→g'.cl b=.own 0 q1 ρ
 qs:∀q1 ρ,g'.hd 0 q1 ρ=g.hd 0 q1 ρ
 no:∀r,(m r).1=none↔(m' r).1=none
 so:∀r,(m' r).1.isSome=(m r).1.isSome
 nw:∀n,(m n).1=none→(∀j ρ,g'.hd (n+1) j ρ=g.hd (n+1) j ρ)
 ow:∀b n j ρ,g.cl b=.own (n+1) j ρ→g'.cl b=.own (n+1) j ρ
 bx:∀b n,g.cl b=.box n→g'.cl b=.box n
theorem ye.refl (q:Nat) (g:Gh) (m:Ms):ye q g m g m:=⟨fun _ _=>.rfl,rfl,fun _ _ _ h=>h,fun _ _ _ _=>rfl,fun _ _ _ _ h=>h,fun _ _=>rfl,fun _=>.rfl,fun _=>rfl,fun _ _ _ _=>rfl,fun _ _ _ _ h=>h,fun _ _ h=>h⟩
theorem ye.ra {q:Nat} {g':Gh} {m m':Ms} (h:ye q g m g' m') {a:AV} {x:Value} (ha:RA w g m a x):RA w g' m' a x:=
 ha.mono (fun b k hb=>⟨rfl,(h.kc b k).2 hb⟩) (fun r _=>⟨by rw [h.bk],fun j p hk=>⟨h.kl r j p hk,h.hd r j p hk⟩⟩)
theorem ye.rc {q q1:Nat} {g':Gh} {m m':Ms} (h:ye q g m g' m') (hq:q1≠q) {c:C} {x:Value} (hn:c.dP=true) (ha:RC w g 0 q1 c x):RC w g' 0 q1 c x:=
 ha.mono (fun b k hb=>⟨rfl,(h.kc b k).2 hb⟩) (fun b ρ hb=>⟨rfl,h.cl0 b q1 ρ hq hb⟩) (fun ρ=>h.qs q1 ρ) (fun r1 j1 e=>by subst e;simp [C.dP] at hn)
theorem amW (R:Rel w0 cl0 S ts w g) {a:AV} {c:C} {x:Value} {m':Ms} {q:Nat} (ha:RA w g S.ms a x) (hc:RC w g 0 q c x) (h:uk S.ms c a=some m'):
 ∃g',Rel w0 cl0 { S with ms:=m' } ts w g'∧ye q g S.ms g' m':=by
 unfold uk at h;split at h
 ·rename_i r j p;split at h
  ·rename_i sz es;split at h
   ·rename_i cN;obtain ⟨uN,rt,d0,h1,h2,h3⟩:=kP cN;simp only [Ms.putAt,h1,h2] at h;simp at h
    have hx:x=g.hd (r+1) j p:=by
     cases ha with
     |pl _ _ _ _ _ _ hh=>exact hh uN
    have hOW:OW w g 0 q [] (.sl sz es) x:=by cases hc with|own _ _ ho=>exact ho
    have KZ:m'.eC r j p=false:=by
     subst h;simp only [Ms.eC,qK,zX,aiY,Zn];exact uN
    have jd:∀r1 j1 ρ,m'.eC r1 j1 ρ=false→S.ms.eC r1 j1 ρ=false:=fun r1 j1 ρ hk=>MA (m:=S.ms) (kl:=wc j p sz) (by rw [←h] at hk;exact hk)
    have fk:∀r1 j1 ρ,¬(r1=r∧j1=j∧p <+: ρ∧m'.eC r j ρ=true)→(g.gv m' r j p q).hd (r1+1) j1 ρ=g.hd (r1+1) j1 ρ:=fun r1 j1 ρ hn=>by
     simp only [Gh.gv];rw [if_neg (fun e=>hn ⟨by omega,e.2.1,e.2.2.1,e.2.2.2⟩)]
    have yP:∀j1,(g.gv m' r j p q).hd (r+1) j1 []=g.hd (r+1) j1 []:=fun j1=>fk r j1 [] (fun e=>by
     have hp:p=[]:=List.prefix_nil.1 e.2.2.1;rw [hp] at KZ;rw [KZ] at e
     exact absurd e.2.2.2 (by simp))
    have agT:∀(i c:Nat) (ρ:bQ),c<sz→(g.gv m' r j p q).hd (r+1) j ((p++[(i,c)])++ρ)=g.hd 0 q ([(i,c)]++ρ):=fun i c ρ ai=>by
     have e1:p <+: (p++[(i,c)])++ρ:=⟨[(i,c)]++ρ,by simp⟩
     have e2:m'.eC r j ((p++[(i,c)])++ρ)=true:=by
      refine Mz (k:=p++[(0,c)]) ?_ (by simpa using amL p i c ρ);subst h;simp only [qK];exact List.mem_append_left _ (ajE ai)
     simp only [Gh.gv];rw [if_pos (by simp only [true_and];exact ⟨e1,e2⟩)];simp
    have g9:∀b k,g.cl b=kc k→w.heap[b]?=w.heap[b]?∧(g.gv m' r j p q).cl b=kc k:=fun b k hb=>⟨rfl,Gh.Kc.2 hb⟩
    have aD:∀b ρ,g.cl b=.own 0 q ρ→(g.gv m' r j p q).cl b=.own (r+1) j (p++ρ):=fun b ρ hb=>by simp [Gh.gv,hb]
    have ahg:OW w (g.gv m' r j p q) (r+1) j p (.sl sz es) x:=by
     have hph:(g.gv m' r j p q).hd (r+1) j p=x:=by
      rw [fk r j p (fun e=>by rw [KZ] at e;exact absurd e.2.2.2 (by simp)),hx]
     cases hOW with
     |nil _ _ hh=>exact .nil _ _ hph
     |sl _ _ _ b off cap vals E hh fT hl ew hw hN hk=>
      refine .sl _ _ _ b off cap vals E hph (by simpa using aD b [] fT) hl ew hw hN (fun i c e d y he hd hy=>?_)
      have ai:c<sz:=by
       have h1:=hl e (za he);have h2:=(zi.1 hd).1;omega
      exact (hk i c e d y he hd hy).mono (q':=p++[(i,c)]) (fun b1 ρ hb=>⟨rfl,by simpa using aD b1 _ hb⟩) (fun ρ=>by simpa using agT i c ρ ai)
    have yF:m'=bO S.ms r (some (rt.lL j (.own (d0.put p (.sl sz es)))),wc j p sz++(S.ms r).2):=h.symm;refine ⟨g.gv m' r j p q,?_,?_⟩
    ·have rW:=R.rt r rt h1
     have vQ:∀r1 j1,(g.gv m' r j p q).hd (r1+1) j1 []=g.hd (r1+1) j1 []:=fun r1 j1=>by
      by_cases e:r1=r
      ·subst e;exact yP j1
      ·exact fk r1 j1 [] (fun e2=>e e2.1)
     refine { av:=fun n=>?_,rt:=fun n ga h4=>?_,kI:=fun n r1 h4=>by rw [yF];exact EJ (R.kI n r1 h4),jN:=by rw [yF];exact acp h1 (by simp) R.jN,
              bd:=fun b h4=>R.bd b (by rwa [ne_eq,Gh.afC] at h4),sz:=R.sz,fr:=R.fr,im:=fun b k=>Gh.Kc.trans (R.im b k),
              mi:=fun b h4 h5=>R.mi b h4 (by rwa [Gh.afB] at h5),sd:=R.sd,j8:=fun i hi=>?_ }
     rotate_left 2
     ·have h4:=R.j8 i hi;show E3 cl0 i (m' i).1 _;by_cases e:i=r
      ·subst e;rw [h1] at h4;rw [show (m' i).1=some (rt.lL j (.own (d0.put p (.sl sz es)))) from by rw [yF];simp [qK]];cases rt with
       |aX cs=>exact fun j1=>(vQ _ _).trans (h4 j1)
       |bx cs=>exact h4
      ·rw [show (m' i).1=(S.ms i).1 from by rw [yF];simp [mW e]];revert h4;cases (S.ms i).1 with
       |none=>exact id
       |some ga=>
        cases ga with
        |aX cs=>exact fun h4 j1=>(vQ _ _).trans (h4 j1)
        |bx cs=>exact id
     ·refine (R.av n).mono g9 (fun r1 _=>⟨rfl,fun j1 p1 h4=>⟨jd _ _ _ h4,fk _ _ _ (fun e=>?_)⟩⟩);obtain ⟨rfl,rfl,_,e4⟩:=e;rw [h4] at e4;cases e4
     ·simp only [yF] at h4;by_cases e:n=r
      ·subst e;simp only [qK,zG] at h4;subst h4
       refine rW.put h2 h3 g9 (fun b j1 ρ h5 _=>⟨rfl,Gh.Kd h5⟩) (fun cs fY=>⟨rfl,rfl,?_⟩)
        (fun j1 ρ hn=>fk _ _ _ (fun e=>hn ⟨e.2.1,e.2.2.1⟩)) (fun _ _=>vQ _ _) (fun _ _ _ _=>vQ _ _) (fun y hy=>?_)
       ·subst fY;rw [Gh.Kb rW.1,rW.1]
       ·cases hy with
        |dead _ _ hh=>rw [←hh,←hx];exact ahg
      ·simp only [mW e] at h4;have h5:=R.rt n ga h4;refine h5.mono g9 (fun b j1 ρ h6=>⟨rfl,Gh.Kd h6⟩) (fun cs hb=>⟨rfl,rfl,?_⟩) (fun j1 ρ=>fk _ _ _ (fun e2=>e e2.1)) (fun _ _ _ _=>vQ _ _);subst hb;rw [Gh.Kb h5.1,h5.1]
    ·refine ⟨fun _ _=>Gh.Kc,rfl,jd,fun r1 j1 ρ hk=>fk _ _ _ (fun e=>?_),fun b q1 ρ hq hb=>by simp [Gh.gv,hb,hq],fun q1 ρ=>by simp [Gh.gv],fun r1=>?_,fun r1=>?_,fun n hn j1 ρ=>fk _ _ _ (fun e=>?_),fun b n j1 ρ hb=>Gh.Kd hb,fun b n hb=>Gh.Kb hb⟩
     ·obtain ⟨rfl,rfl,_,e4⟩:=e;rw [hk] at e4;cases e4
     ·rw [yF];by_cases e:r1=r
      ·subst e;simp [qK,h1]
      ·simp [mW e]
     ·rw [yF];by_cases e:r1=r
      ·subst e;simp [qK,h1]
      ·simp [mW e]
     ·rw [e.1,h1] at hn;cases hn
   ·cases h
  ·cases h
 ·split at h
  ·simp at h;subst h;exact ⟨g,R,.refl _ _ _⟩
  ·cases h
 ·cases h
theorem am2 {as:List AV} {vals:List Value}:∀(us:List (Nat×Nat×C)) {lo:Nat} {S:St} {g:Gh} {m':Ms} (R:Rel w0 cl0 S ts w g),
 (∀(j:Nat) (a:AV),as[j]?=some a→∃x,vals[j]?=some x∧RA w g S.ms a x)→
 (∀i j c,(i,j,c)∈us→lo≤j→∃x,vals[j]?=some x∧c.dP=true∧RC w g 0 j c x)→pd as lo S.ms us=some m'→
 ∃g',Rel w0 cl0 { S with ms:=m' } ts w g'∧(∀b k,g'.cl b=kc k↔g.cl b=kc k)∧g'.bk=g.bk∧(∀r j p,m'.eC r j p=false→S.ms.eC r j p=false∧g'.hd (r+1) j p=g.hd (r+1) j p)∧
  (∀r,(m' r).1.isSome=(S.ms r).1.isSome)∧(∀n,(S.ms n).1=none→∀j ρ,g'.hd (n+1) j ρ=g.hd (n+1) j ρ)∧
  (∀b n j ρ,g.cl b=.own (n+1) j ρ→g'.cl b=.own (n+1) j ρ)∧(∀b n,g.cl b=.box n→g'.cl b=.box n):=by
 intro us;induction us with
 |nil=>
  intro lo S g m' R _ _ h;simp [pd] at h;subst h;exact ⟨g,R,fun _ _=>.rfl,rfl,fun _ _ _ h=>⟨h,rfl⟩,fun _=>rfl,fun _ _ _ _=>rfl,fun _ _ _ _ h=>h,fun _ _ h=>h⟩
 |cons u us ih=>
  intro lo S g m' R ha hc h;obtain ⟨i,j,c⟩:=u;simp only [pd] at h;split at h
  ·rename_i KL;split at h
   ·rename_i a haj;split at h
    ·rename_i m2 h1;obtain ⟨x,hx,hax⟩:=ha j a haj;obtain ⟨y,hy,hn,KB⟩:=hc i j c (by simp) KL.2;rw [hx] at hy;cases hy;obtain ⟨g1,R1,U⟩:=amW R hax KB h1
     obtain ⟨g2,R2,k1,k2,k3,k4,k5,k6,k7⟩:=ih (S:={ S with ms:=m2 }) R1 (fun j a h2=>by
      obtain ⟨z,hz,qB⟩:=ha j a h2
      exact ⟨z,hz,U.ra qB⟩) (fun i' j' c' hm hj=>by
      obtain ⟨z,hz,qB,hz3⟩:=hc i' j' c' (by simp [hm]) (by omega)
      exact ⟨z,hz,qB,U.rc (by omega) qB hz3⟩) h
     exact ⟨g2,R2,fun b k=>(k1 b k).trans (U.kc b k),k2.trans U.bk,fun r j p hk=>⟨U.kl r j p (k3 r j p hk).1,(k3 r j p hk).2.trans (U.hd r j p (k3 r j p hk).1)⟩,
      fun r=>(k4 r).trans (U.so r),fun n hn j ρ=>(k5 n ((U.no n).1 hn) j ρ).trans (U.nw n hn j ρ),fun b n j ρ hb=>k6 b n j ρ (U.ow b n j ρ hb),fun b n hb=>k7 b n (U.bx b n hb)⟩
    ·cases h
   ·cases h
  ·cases h
theorem Rel.pass (R:Rel w0 cl0 S ts w g) {w':World} {g':Gh} {d0:Nat} (H0:h_ d0 w w' g g') (H:∀n,((S.ms n).1).isSome→∃d,n≠d∧h_ d w w' g g'):Rel w0 cl0 S ts w' g':=by
 have ai:∀b,g.cl b≠.no→(∀j ρ,g.cl b≠.own 0 j ρ)→w'.heap[b]?=w.heap[b]?:=fun b hb=>H0.hp b (R.bd b hb)
 have g9:∀b k,g.cl b=OM.kc k→w'.heap[b]?=w.heap[b]?∧g'.cl b=OM.kc k:=
  fun b k h=>⟨ai b (by rw [h];cases k<;>simp [OM.kc]) (by rw [h];cases k<;>simp [OM.kc]),(H0.kc b k).2 h⟩
 have fk:∀n,((S.ms n).1).isSome→∀j ρ,g'.hd (n+1) j ρ=g.hd (n+1) j ρ:=fun n hn j ρ=>by
  obtain ⟨d,h1,h2⟩:=H n hn;exact h2.hd n j ρ h1
 have qq:∀n,((S.ms n).1).isSome→g'.bk n=g.bk n:=fun n hn=>by
  obtain ⟨d,h1,h2⟩:=H n hn;exact h2.bk n h1
 refine { av:=fun n=>?_,rt:=fun n ga h=>?_,kI:=R.kI,jN:=R.jN,bd:=fun b h=>?_,sz:=Zd R.sz H0.hs,fr:=fun b hb hm=>?_,
          im:=fun b k=>(H0.kc b k).trans (R.im b k),mi:=fun b hb hm=>R.mi b hb (H0.mi b (zB hb R.sz) hm),sd:=R.sd.trans H0.sd,
          j8:=fun i hi=>(by
           have h:=R.j8 i hi
           have hs:((S.ms i).1).isSome:=by
            revert h;cases (S.ms i).1 with
            |none=>exact fun h=>h.elim
            |some _=>exact fun _=>rfl
           have h1:=fk i hs;have h2:=qq i hs;revert h;cases (S.ms i).1 with
           |none=>exact id
           |some ga=>
            cases ga with
            |aX cs=>exact fun h j1=>(h1 j1 []).trans (h j1)
            |bx cs=>exact fun h=>h2.trans h) }
 ·exact (R.av n).mono g9 (fun r hr=>⟨qq r (R.kI n r hr),fun j p hk=>⟨hk,fk r (R.kI n r hr) j p⟩⟩)
 ·have h0:=R.rt n ga h;have hs:((S.ms n).1).isSome:=by rw [h];rfl
  obtain ⟨d,fj,ck⟩:=H n hs;refine h0.mono g9 (fun b j ρ hb=>⟨ai b (by rw [hb];simp) (by rw [hb];simp),ck.cl b n j ρ hb fj⟩) (fun cs fY=>?_) (fun j ρ=>ck.hd n j ρ fj) (fun j r1 j1 hc=>?_)
  ·subst fY;exact ⟨ck.bk n fj,ai _ (by rw [h0.1];simp) (by rw [h0.1];simp),by rw [h0.1];exact ck.bx _ _ h0.1 fj⟩
  ·obtain ⟨cs,h2⟩:=R.jN n ga j r1 j1 h hc;exact fk r1 (by rw [h2];rfl) j1 []
 ·rcases H0.bd b h with h1|h1
  ·exact zB (R.bd b h1) H0.hs
  ·exact h1.2
 ·rw [H0.hp b (zB hb R.sz) (fun j ρ h=>by
   have:=R.mi b hb (by rw [h];rfl)
   rw [this] at hm;cases hm)]
  exact R.fr b hb hm
def Gh.gi (g:Gh) (X:Nat→Value) (lent:Bool):Gh where
 cl:=fun b=>match g.cl b with
  |.nz=>.nz
  |.kQ=>.kQ
  |.own 0 q ρ=>.own 1 q ρ
  |.own (_+1) _ _=>if lent then .kQ else .no
  |.box _=>if lent then .kQ else .no
  |.no=>.no
 hd:=fun r j ρ=>if r=1 then (if ρ=[] then X j else g.hd 0 j ρ) else g.hd r j ρ
 bk:=g.bk
def gR.held:gR→Bool
 |.own 0 _ _=>true
 |_=>false
def Gh.go (g g':Gh) (size d bR:Nat) (cr:Bool) (X:Nat→Value):Gh where
 cl:=fun b=>if b<size∧(g.cl b).held=false then g.cl b else match g'.cl b with
  |.own 1 q ρ=>.own 0 q ρ
  |.own 0 n ρ=>if cr then .own (d+1) n ρ else .no
  |.box _=>if cr=true∧b=bR then .box d else .no
  |_=>.no
 hd:=fun r j ρ=>if r=0 then g'.hd 1 j ρ else if r=d+1∧cr=true then (if ρ=[] then X j else g'.hd 0 j ρ) else g.hd r j ρ
 bk:=if cr then bO g.bk d bR else g.bk
theorem Gh.afm {X:Nat→Value} {lent:Bool} {b:Nat} {k:Bool} (h:g.cl b=kc k):(g.gi X lent).cl b=kc k:=by
 cases k<;>simp [kc] at h ⊢<;>simp [Gh.gi,h]
theorem Gh.afj {X:Nat→Value} {lent:Bool} {b:Nat} {k:Bool} (hk:k=false∨lent=false) (h:(g.gi X lent).cl b=kc k):g.cl b=kc k:=by
 simp only [Gh.gi] at h;revert h;cases hg:g.cl b with
 |own n j ρ=>rcases hk with rfl|rfl<;>cases n<;>first|(cases lent<;>simp [kc];done)|(cases k<;>simp [kc])
 |box r=>rcases hk with rfl|rfl<;>first|(cases lent<;>simp [kc];done)|(cases k<;>simp [kc])
 |no=>cases k<;>simp [kc]
 |nz=>simp
 |kQ=>simp
theorem Gh.afk {X:Nat→Value} {lent:Bool} {b:Nat} {k:Bool} (h:(g.iG lent true fun _=>false).cl b=kc k):(g.gi X lent).cl b=kc k:=by
 simp only [Gh.gi,Gh.iG] at h ⊢;revert h;cases hg:g.cl b with
 |own n j ρ=>cases n<;>simp<;>cases k<;>simp [kc]
 |box r=>simp
 |no=>simp
 |nz=>simp
 |kQ=>simp
theorem Gh.afl {X:Nat→Value} {lent:Bool} {b:Nat} (h:g.cl b=.no):(g.gi X lent).cl b=.no:=by simp [Gh.gi,h]
theorem Gh.W7 {X:Nat→Value} {lent:Bool} {b:Nat}:((g.gi X lent).cl b).eG=(g.cl b).held:=by
 simp only [Gh.gi];cases hb:g.cl b with
 |own n j ρ=>cases n<;>cases lent<;>rfl
 |box r=>cases lent<;>rfl
 |_=>rfl
theorem gR.BG {c:gR} (h:c.held=true):∃q ρ,c=.own 0 q ρ:=by
 cases c with
 |own r j p=>
  cases r with
  |zero=>exact ⟨_,_,rfl⟩
  |succ r=>simp [gR.held] at h
 |_=>simp [gR.held] at h
theorem h_.go {w':World} {g':Gh} {d bR:Nat} {cr lent:Bool} {X X':Nat→Value} (gw:∀b,g.cl b≠.no→b<w.heap.size)
 (yC:∀b,b<w.heap.size→((g.gi X' lent).cl b).eG=false→w'.heap[b]?=w.heap[b]?) (hs:w.heap.size≤w'.heap.size) (gD:il w w')
 (C6:∀b,g'.cl b≠.no→b<w'.heap.size) (n:Nat) (hn:cr=true→n=d):h_ n w w' g (g.go g' w.heap.size d bR cr X):=by
 have vJ:∀b,g.cl b≠.no→(g.cl b).held=false→(g.go g' w.heap.size d bR cr X).cl b=g.cl b:=fun b h1 h2=>by
  simp only [Gh.go];rw [if_pos ⟨gw b h1,h2⟩]
 refine { hp:=fun b h h2=>yC b h ?_,hs:=hs,kc:=fun b k=>?_,cl:=fun b n1 j ρ h _=>?_,bx:=fun b n1 h _=>?_,hd:=fun n1 j ρ h=>?_,
          bk:=fun n1 h=>?_,bd:=fun b h=>?_,mi:=fun b hb h=>?_,sd:=gD }
 ·rw [Gh.W7];cases hh:(g.cl b).held with
  |false=>rfl
  |true=>obtain ⟨q,ρ,e⟩:=gR.BG hh;exact absurd e (h2 q ρ)
 ·by_cases hb:b<w.heap.size∧(g.cl b).held=false
  ·simp only [Gh.go];rw [if_pos hb]
  ·have h1:∀k,g.cl b≠OM.kc k:=fun k e=>hb ⟨gw b (by rw [e];cases k<;>simp [OM.kc]),by rw [e];cases k<;>rfl⟩
   constructor
   ·intro h2;simp only [Gh.go] at h2;rw [if_neg hb] at h2;split at h2<;>first|(cases k<;>simp [OM.kc] at h2;done)|(split at h2<;>cases k<;>simp [OM.kc] at h2)
   ·exact fun h2=>absurd h2 (h1 k)
 ·rw [vJ b (by rw [h];simp) (by rw [h];rfl)];exact h
 ·rw [vJ b (by rw [h];simp) (by rw [h];rfl)];exact h
 ·simp only [Gh.go];rw [if_neg (by omega),if_neg (fun e=>h (by have:=hn e.2;omega))]
 ·simp only [Gh.go];cases fu:cr with
  |false=>simp
  |true=>have:=hn fu;subst this;simp [bO,h]
 ·by_cases hb:b<w.heap.size∧(g.cl b).held=false
  ·left;simp only [Gh.go] at h;rw [if_pos hb] at h;exact h
  ·by_cases ai:b<w.heap.size
   ·left
    have:(g.cl b).held=true:=by
     cases hh:(g.cl b).held with
     |true=>rfl
     |false=>exact absurd ⟨ai,hh⟩ hb
    obtain ⟨q,ρ,e⟩:=gR.BG this;rw [e];simp
   ·right;refine ⟨by omega,C6 b (fun e=>?_)⟩;simp only [Gh.go] at h;rw [if_neg hb,e] at h;exact h rfl
 ·by_cases lv:(g.cl b).held=false
  ·simp only [Gh.go] at h;rw [if_pos ⟨hb,lv⟩] at h;exact h
  ·obtain ⟨q,ρ,e⟩:=gR.BG (c:=g.cl b) (by simpa using lv);rw [e];rfl
section
variable {w':World} {g':Gh} {d bR:Nat} {cr lent:Bool} {X X':Nat→Value}
theorem J_ (je:∀b,b<w.heap.size→(g'.cl b).eG=true→((g.gi X' lent).cl b).eG=true) {b:Nat} (hm:(g'.cl b).eG=true):
 (g.go g' w.heap.size d bR cr X).cl b=match g'.cl b with
  |.own 1 q ρ=>.own 0 q ρ
  |.own 0 n ρ=>if cr then .own (d+1) n ρ else .no
  |.box _=>if cr=true∧b=bR then .box d else .no
  |_=>.no:=by
 simp only [Gh.go];rw [if_neg (fun e=>?_)];have:=je b e.1 hm;rw [Gh.W7,e.2] at this;cases this
theorem J' (oP:∀b k,g'.cl b=kc k↔(g.gi X' lent).cl b=kc k) (gw:∀b,g.cl b≠.no→b<w.heap.size) {k:Bool} {dd:D} {x:Value} (ez:(C.ro k dd).fl=true∨lent=false) (h:RO w' g'.cl k dd x):
 RO w' (g.go g' w.heap.size d bR cr X).cl k dd x:=by
 by_cases hs:dd.dt=true
 ·exact h.dt hs
 have tx:k=false∨lent=false:=by
  rcases ez with ez|ez
  ·left;simpa [C.fl,hs] using ez
  ·exact .inr ez
 exact h.mono fun b hb=>⟨rfl,by
  have h1:=Gh.afj tx ((oP b k).1 hb);simp only [Gh.go];rw [if_pos ⟨gw b (by rw [h1];cases k<;>simp [kc]),by rw [h1];cases k<;>rfl⟩]
  exact h1⟩
theorem aft (je:∀b,b<w.heap.size→(g'.cl b).eG=true→((g.gi X' lent).cl b).eG=true) (oP:∀b k,g'.cl b=kc k↔(g.gi X' lent).cl b=kc k) (gw:∀b,g.cl b≠.no→b<w.heap.size)
 {j:Nat} {c:C} {x:Value} (ez:c.fl=true∨lent=false) (hn:c.dP=true) (h:RC w' g' 1 j c x):RC w' (g.go g' w.heap.size d bR cr X) 0 j c x:=by
 cases h with
 |ro k dd _ h=>exact .ro _ _ _ (J' oP gw ez h)
 |own dd _ h=>
  refine .own _ _ (h.mono (q':=[]) (fun b ρ hb=>⟨rfl,?_⟩) (fun ρ=>by simp [Gh.go]));rw [J_ je (by rw [hb];rfl),hb];rfl
 |rf=>simp [C.dP] at hn
theorem afu (je:∀b,b<w.heap.size→(g'.cl b).eG=true→((g.gi X' lent).cl b).eG=true) (oP:∀b k,g'.cl b=kc k↔(g.gi X' lent).cl b=kc k) (gw:∀b,g.cl b≠.no→b<w.heap.size)
 {j:Nat} {c:C} {x:Value} (ez:c.fl=true∨lent=false) (hn:c.dP=true) (hx:X j=x) (h:RC w' g' 0 j c x):RC w' (g.go g' w.heap.size d bR true X) (d+1) j c x:=by
 cases h with
 |ro k dd _ h=>exact .ro _ _ _ (J' oP gw ez h)
 |own dd _ h=>
  refine .own _ _ (Hd.place (w:=w') (g:=g') (.inl h) (fun b ρ hb=>⟨rfl,?_⟩) (fun ρ oe=>?_) ?_)
  ·rw [J_ je (by rw [hb];rfl),hb];simp
  ·simp [Gh.go,oe]
  ·simp [Gh.go,hx]
 |rf=>simp [C.dP] at hn
end
end
end
section
section
variable {P:Program} {κ:Nat→FuncId} {w0:World} {cl0:fS} {Γ:Env} {w:World} {g:Gh}
theorem Gi {S:St} {tmps:Array Value} (R:Rel w0 cl0 S tmps w g) {a:AV} {v:Value} {x:V} {m':Ms} (ha:RA w g S.ms a v) (h:ml S.ms a=some (x,m')) (q:Nat):
 ∃g',Rel w0 cl0 { S with ms:=m' } tmps w g'∧jA (fun k=>q≤k∧k<q+x.flat.length) g S.ms g' m'∧mY w g' 0 q x v:=by
 by_cases hn:∃cs,a=.agg cs
 ·obtain ⟨cs,rfl⟩:=hn;simp only [ml] at h;split at h
  ·rename_i l m1 h1;simp at h;obtain ⟨rfl,rfl⟩:=h;cases ha with
   |agg _ vs hl eA=>
    obtain ⟨g',R',T,FT,hc⟩:=I_ cs R (vals:=vs.toList) q (by simpa using hl) (fun i a x h2 h3=>eA i a x h2 (by simpa using h3)) h1;refine ⟨g',R',T.Bj (fun k hk=>by simp only [V.flat,FT];exact hk),vs,rfl,by simp [FT,hl],fun i c x h2 h3=>hc i c x h2 h3⟩
  ·cases h
 ·have h1:∃c,iA S.ms a=some (c,m')∧x=.one c:=by
   cases a with
   |agg cs=>exact absurd ⟨cs,rfl⟩ hn
   |_=>
    simp only [ml] at h;split at h
    ·rename_i c m1 h1;simp at h;obtain ⟨rfl,rfl⟩:=h;exact ⟨c,h1,rfl⟩
    ·cases h
  obtain ⟨c,h1,rfl⟩:=h1;obtain ⟨g',R',T,hc⟩:=CD R ha h1 q
  have hv:a.isVal=true:=by
   cases a with
   |un=>simp [iA] at h1
   |cf=>simp [iA] at h1
   |v k d=>cases d<;>first|rfl|(simp [iA] at h1)
   |_=>rfl
  exact ⟨g',R',T.Bj (fun k hk=>by subst hk;simp [V.flat]),hc,(val_one ha hv fun cs e=>hn ⟨cs,e⟩).1⟩
theorem jA.rv1 {N:Nat→Prop} {g g':Gh} {m m':Ms} (h:jA N g m g' m') {x:V} {v:Value} {q:Nat} (hq:∀k,q≤k→k<q+x.flat.length→¬N k) (hx:mY w g 0 q x v):mY w g' 0 q x v:=by
 cases x with
 |one c=>exact ⟨h.rc (hq q (zn _) (by simp [V.flat])) hx.1,hx.2⟩
 |st cs=>
  obtain ⟨vs,rfl,hl,hc⟩:=hx;exact ⟨vs,rfl,hl,fun i c x h1 h2=>h.rc (hq _ (by omega) (by have:=cY h1;simp only [V.flat];omega)) (hc i c x h1 h2)⟩
 |ptr=>exact hx.elim
 |cf=>exact hx.elim
theorem Vx {m m':Ms} {a:AV} {c:C} (h:iA m a=some (c,m')):c.dP=true:=by
 unfold iA at h;split at h
 ·cases h
 ·simp at h;obtain ⟨rfl,_⟩:=h;rfl
 ·simp at h;obtain ⟨rfl,_⟩:=h;rfl
 ·split at h
  ·simp at h;obtain ⟨rfl,_⟩:=h;rfl
  ·cases h
 ·split at h
  ·simp at h;obtain ⟨rfl,_⟩:=h;rfl
  ·cases h
 ·cases h
theorem adW:∀(as:List AV) {m m':Ms} {cs:List C},jC m as=some (cs,m')→cs.all C.dP=true:=by
 intro as;induction as with
 |nil=>intro m m' cs h;simp [jC] at h;obtain ⟨rfl,_⟩:=h;rfl
 |cons a as ih=>
  intro m m' cs h;simp only [jC] at h;split at h
  ·rename_i c m1 h1;split at h
   ·rename_i Bz m2 h2;simp at h;obtain ⟨rfl,_⟩:=h;simp [Vx h1,ih h2]
   ·cases h
  ·cases h
theorem abR {m m':Ms} {a:AV} {x:V} (h:ml m a=some (x,m')):x.flat.all C.dP=true∧(∀cs,x≠.ptr cs)∧(∀cs,x≠.cf cs):=by
 unfold ml at h;split at h
 ·split at h
  ·rename_i h1;simp at h;obtain ⟨rfl,_⟩:=h;exact ⟨adW _ h1,by simp,by simp⟩
  ·cases h
 ·split at h
  ·rename_i h1;simp at h;obtain ⟨rfl,_⟩:=h;exact ⟨by simp [V.flat,Vx h1],by simp,by simp⟩
  ·cases h
theorem VW {m:Ms} {a:AV} {c:C} (h:qb m a=some c):c.rk=true:=by
 unfold qb at h;split at h<;>first|(cases h;done)|(simp at h;subst h;rfl)|(split at h<;>first|(cases h;done)|(simp at h;subst h;rfl)|(split at h<;>first|(cases h;done)|(simp at h;subst h;rfl)))
theorem ad9 {m:Ms}:∀(as:List AV) {cs:List C},qc m as=some cs→cs.all C.rk=true:=by
 intro as;induction as with
 |nil=>intro cs h;simp [qc] at h;subst h;rfl
 |cons a as ih=>
  intro cs h;simp only [qc] at h;split at h
  ·rename_i c h1;split at h
   ·rename_i Bz h2;simp at h;subst h;simp [VW h1,ih h2]
   ·cases h
  ·cases h
theorem VJ {m:Ms} {a:AV} {x:V} (h:oG m false a=some x):x.flat.all C.rk=true:=by
 cases a with
 |agg cs=>
  simp only [oG,zr,if_false] at h;split at h
  ·rename_i h1;simp at h;subst h;exact ad9 _ h1
  ·cases h
 |_=>
  simp only [oG,zr,if_false] at h;split at h
  ·rename_i h1;simp at h;subst h;simp [V.flat,VW h1]
  ·cases h
theorem mY.DL {g':Gh} {r j:Nat} {x:V} {v:Value} (hk:∀b k,g.cl b=kc k→g'.cl b=kc k) (hx:x.flat.all C.rk=true) (h:mY w g r j x v):mY w g' r j x v:=by
 have hc:∀{n:Nat} {c:C} {y:Value},c.rk=true→RC w g r n c y→RC w g' r n c y:=fun {n c y} h1 h2=>by
  cases h2 with
  |ro k d _ h3=>exact .ro _ _ _ (h3.mono fun b hb=>⟨rfl,hk b _ hb⟩)
  |own=>simp [C.rk] at h1
  |rf=>simp [C.rk] at h1
 cases x with
 |one c=>exact ⟨hc (by simpa [V.flat] using hx) h.1,h.2⟩
 |st cs=>
  obtain ⟨vs,rfl,hl,h2⟩:=h;exact ⟨vs,rfl,hl,fun i c y h3 h4=>hc (zb.1 hx c (za h3)) (h2 i c y h3 h4)⟩
 |ptr=>exact h.elim
 |cf=>exact h.elim
theorem pY.DL {g':Gh} {i:Nat} {x:V} {v:Value} (hk:∀b k,g.cl b=kc k→g'.cl b=kc k) (hx:x.flat.all C.rk=true) (hp:∀cs,x≠.ptr cs) (h:pY w g i x v):pY w g' i x v:=by
 have jI:∀x:V,x.flat.all C.rk=true→¬x.flat.any C.gx=true:=fun x h1 h2=>by
  obtain ⟨c,h3,h4⟩:=zK.1 h2;have:=zb.1 h1 c h3;cases c<;>simp [C.rk,C.gx] at this h4
 cases x with
 |one c=>exact ⟨h.1.DL hk hx,fun h2=>absurd h2 (jI _ hx)⟩
 |st cs=>exact ⟨h.1.DL hk hx,fun h2=>absurd h2 (jI _ hx)⟩
 |ptr cs=>exact absurd rfl (hp cs)
 |cf=>exact h.elim
theorem VK {m:Ms} {a:AV} {x:V} (h:oG m false a=some x):∀cs,x≠.ptr cs:=by
 intro cs e;subst e;cases a with
 |_=>
  simp only [oG,zr,if_false] at h;split at h<;>simp at h
theorem VL {m:Ms}:∀(as:List AV) (xs:List V) (i:Nat),jU m [] i as=some xs→∀(k:Nat) (x:V),xs[k]?=some x→∃a,oG m false a=some x:=by
 intro as;induction as with
 |nil=>intro xs i h k x hx;simp [jU] at h;subst h;simp at hx
 |cons a as ih=>
  intro xs i h k x hx;simp only [jU,List.contains_nil] at h;split at h
  ·rename_i y h1;split at h
   ·rename_i ys h2;simp at h;subst h;cases k with
    |zero=>simp at hx;subst hx;exact ⟨a,h1⟩
    |succ k=>exact ih ys _ h2 k x (by simpa using hx)
   ·cases h
  ·cases h
theorem agn {x:V} {v:Value} {X:Nat→Value} {lent:Bool} (hn:x.flat.all C.dP=true) (hX:∀j y,v.cells[j]?=some y→X j=y) (h:mY w g 0 0 x v):pY w (g.gi X lent) 0 x v:=by
 have hc:∀{n:Nat} {c:C} {y:Value},c.dP=true→X n=y→RC w g 0 n c y→RC w (g.gi X lent) 1 n c y:=fun {n c y} h1 hy h2=>by
  cases h2 with
  |ro k d _ h3=>exact .ro _ _ _ (h3.mono fun b hb=>⟨rfl,Gh.afm hb⟩)
  |own d _ h3=>
   refine .own _ _ (Hd.place (w:=w) (g:=g) (.inl h3) (fun b ρ hb=>⟨rfl,by simp [Gh.gi,hb]⟩) (fun ρ oe=>?_) ?_)
   ·simp [Gh.gi,oe]
   ·simp [Gh.gi,hy]
  |rf=>simp [C.dP] at h1
 cases x with
 |one c=>
  refine ⟨⟨hc (by simpa [V.flat] using hn) (hX 0 v (by rw [h.2];rfl)) h.1,h.2⟩,fun _ j y hy=>?_⟩;simp [Gh.gi,hX j y hy]
 |st cs=>
  obtain ⟨vs,rfl,hl,h2⟩:=h;refine ⟨⟨vs,rfl,hl,fun i c y h3 h4=>?_⟩,fun _ j y hy=>?_⟩
  ·refine hc (zb.1 hn c (za h3)) (hX _ y ?_) (h2 i c y h3 h4);rw [zh];simpa [Value.cells] using h4
  ·simp [Gh.gi,hX j y hy]
 |ptr=>exact h.elim
 |cf=>exact h.elim
theorem amX {m m':Ms} {c:C} {a:AV} (h:uk m c a=some m'):(∀r,(m' r).1.isSome=(m r).1.isSome)∧c.dP=true:=by
 unfold uk at h;split at h
 ·rename_i r j p;split at h
  ·split at h
   ·rename_i cN;obtain ⟨uN,rt,d0,h1,h2,h3⟩:=kP cN;simp only [Ms.putAt,h1,h2] at h;simp at h;subst h;refine ⟨fun r1=>?_,rfl⟩;by_cases e:r1=r
    ·subst e;simp [qK,h1]
    ·simp [mW e]
   ·cases h
  ·cases h
 ·split at h
  ·simp at h;subst h;exact ⟨fun _=>rfl,rfl⟩
  ·cases h
 ·cases h
theorem adm {as:List AV}:∀(us:List (Nat×Nat×C)) {lo:Nat} {m m':Ms},pd as lo m us=some m'→(∀r,(m' r).1.isSome=(m r).1.isSome)∧∀i j c,(i,j,c)∈us→i=0∧c.dP=true:=by
 intro us;induction us with
 |nil=>intro lo m m' h;simp [pd] at h;subst h;exact ⟨fun _=>rfl,fun i j c h=>by simp at h⟩
 |cons u us ih=>
  intro lo m m' h;obtain ⟨i,j,c⟩:=u;simp only [pd] at h;split at h
  ·rename_i KL;split at h
   ·split at h
    ·rename_i h1;obtain ⟨k1,k2⟩:=amX h1;obtain ⟨k3,k4⟩:=ih h;refine ⟨fun r=>(k3 r).trans (k1 r),fun i' j' c' hm=>?_⟩;rcases Zm.1 hm with e|hm
     ·simp only [Prod.mk.injEq] at e;obtain ⟨rfl,rfl,rfl⟩:=e;exact ⟨KL.1,k2⟩
     ·exact k4 i' j' c' hm
    ·cases h
   ·cases h
  ·cases h
end
end
section
section
variable {P:Program} {κ:Nat→FuncId} {w0:World} {cl0:fS} {S:St} {w:World} {g:Gh} {a:Act} {Γ:Env} {d:Nat}
theorem Jp {m1 m2:Ms} {g1:Gh} (R1:Rel w0 cl0 { S with ms:=m1 } a.tmps w g1) {a0:AV} {v0:Value} {x0:V} {xs:List V} {args:Array Value} {us:List (Nat×Nat×C)} {w':World} {g':Gh}
 {X X':Nat→Value} {cr lent:Bool} {bR:Nat}
 (qU:∀{w:World} {g:Gh},Rel w0 cl0 { S with ms:=m1 } a.tmps w g→RA w g m1 a0 v0) (nZ:(∀cs,a0≠.agg cs)→v0.cells=#[v0]) (DD:∀cs,x0≠.ptr cs) (h0:args[0]?=some v0)
 (hL:Left w (g1.gi X' lent) (x0::xs) args us w' g') (hu:pd a0.cells 0 m1 us=some m2) (Dp:∀i j c,(i,j,c)∈us→c.fl=true∨lent=false) (hn:cr=true→(m1 d).1=none):
 ∃g3,Rel w0 cl0 { S with ms:=m2 } a.tmps w' g3∧
  (∀{c:C} {j:Nat} {x:Value},(c.fl=true∨lent=false)→c.gx=false→c.dP=true→RC w' g' 0 j c x→RC w' g3 (d+1) j c x)∧
  (cr=true→∀{c:C} {j:Nat} {x:Value},(c.fl=true∨lent=false)→c.dP=true→X j=x→RC w' g' 0 j c x→RC w' g3 (d+1) j c x)∧
  (cr=true→∀j,g3.hd (d+1) j []=X j)∧(cr=true→g3.bk d=bR∧∀n,g'.cl bR=.box n→g3.cl bR=.box d):=by
 have yC:=hL.fr;have je:=hL.mi;have oP:=hL.im;have H:∀n,(cr=true→n=d)→h_ n w w' g1 (g1.go g' w.heap.size d bR cr X):=fun n hn=>h_.go (X':=X') (lent:=lent) R1.bd (fun b h1 h2=>yC b h1 h2) hL.sz hL.sd hL.bd n hn
 have R2:Rel w0 cl0 { S with ms:=m1 } a.tmps w' (g1.go g' w.heap.size d bR cr X):=by
  refine R1.pass (d0:=d) (H d fun _=>rfl) (fun n hs=>?_);cases fu:cr with
  |false=>
   subst fu;exact ⟨n+1,by omega,H _ (fun e=>by cases e)⟩
  |true=>
   subst fu;refine ⟨d,fun e=>?_,H d fun _=>rfl⟩;subst e;rw [hn rfl] at hs;cases hs
 obtain ⟨tJ,hus⟩:=adm us hu;have aa7:=qU R2
 have C8:∀(j:Nat) (b:AV),a0.cells[j]?=some b→∃x,v0.cells.toList[j]?=some x∧RA w' (g1.go g' w.heap.size d bR cr X) m1 b x:=by
  intro j b hj;by_cases pC:∃cs,a0=.agg cs
  ·obtain ⟨cs,rfl⟩:=pC;cases aa7 with
   |agg _ vs hl hr=>
    simp only [AV.cells] at hj;have ai:=cY hj;have hx:vs[j]?=some vs[j]:=by simp [show j<vs.size from by omega]
    exact ⟨vs[j],by simp [Value.cells,hx],hr j b _ hj hx⟩
  ·have hv:=nZ (fun cs e=>pC ⟨cs,e⟩)
   have:a0.cells=[a0]:=by
    cases a0 with
    |agg cs=>exact absurd ⟨cs,rfl⟩ pC
    |_=>rfl
   rw [this] at hj;rw [hv];cases j with
   |zero=>simp at hj;subst hj;exact ⟨v0,rfl,aa7⟩
   |succ j=>simp at hj
 obtain ⟨g3,R3,k1,k2,k3,k4,k5,k6,k7⟩:=am2 us (as:=a0.cells) (vals:=v0.cells.toList) (lo:=0) R2 C8 (fun i j c hm _=>by
  obtain ⟨rfl,jI⟩:=hus i j c hm;have h1:=hL.up 0 j c hm
  have h2:∃v x,args[0]?=some v∧v.cells[j]?=some x∧RC w' g' (0+1) j c x:=by
   revert h1;simp only [List.getElem?_cons_zero];cases x0 with
   |ptr cs=>exact absurd rfl (DD cs)
   |_=>exact id
  obtain ⟨v,x,h3,h4,h5⟩:=h2;rw [h0] at h3;cases h3
  exact ⟨x,by simpa using h4,jI,aft (X':=X') (lent:=lent) je oP R1.bd (Dp 0 j c hm) jI h5⟩) hu
 refine ⟨g3,R3,fun {c j x} ho h1 h2 h=>?_,fun fu {c j x} ho h1 hx h=>?_,fun fu j=>?_,fun fu=>⟨?_,fun n hb=>?_⟩⟩
 ·cases h with
  |ro k dd _ h=>
   refine .ro _ _ _ ((J' (d:=d) (bR:=bR) (cr:=cr) (X:=X) oP R1.bd ho h).mono fun b hb=>⟨rfl,(k1 b k).2 hb⟩)
  |own dd _ h=>
   simp only [C.gx,Bool.not_eq_false'] at h1;refine .own _ _ ?_;cases h<;>first|exact .int _ _ _|exact .bool _ _|exact .str _ _|simp [D.dt] at h1
  |rf=>simp [C.dP] at h2
 ·subst fu;refine (afu (d:=d) (bR:=bR) je oP R1.bd ho h1 hx h).mono (fun b k hb=>⟨rfl,(k1 b k).2 hb⟩) (fun b ρ hb=>⟨rfl,k6 b d j ρ hb⟩) (fun ρ=>k5 d (hn rfl) j ρ) (fun r' j' e=>?_);subst e;simp [C.dP] at h1
 ·subst fu;rw [k5 d (hn rfl) j []];simp [Gh.go]
 ·subst fu;rw [k2];simp [Gh.go,bO]
 ·subst fu;refine k7 bR d ?_;rw [J_ je (by rw [hb];rfl),hb];simp
theorem aee {m1 m2:Ms} {g1:Gh} (R1:Rel w0 cl0 { S with ms:=m1 } a.tmps w g1) {a0:AV} {v0:Value} {x0:V} {xs:List V} {args:Array Value} {us:List (Nat×Nat×C)} {w':World} {g':Gh} {r:V} {v:Value}
 {X':Nat→Value} {lent:Bool} (ez:((r.fl&&us.all fun u=>u.2.2.fl)||!lent)=true)
 (qU:∀{w:World} {g:Gh},Rel w0 cl0 { S with ms:=m1 } a.tmps w g→RA w g m1 a0 v0) (nZ:(∀cs,a0≠.agg cs)→v0.cells=#[v0]) (DD:∀cs,x0≠.ptr cs) (h0:args[0]?=some v0)
 (cJ:r.plain=true) (hr:uz w' g' r v)
 (hL:Left w (g1.gi X' lent) (x0::xs) args us w' g') (hu:pd a0.cells 0 m1 us=some m2) (hn:((imp d r).2).isSome→(m2 d).1=none):
 kq w0 cl0 S a.tmps d (imp d r).1 (imp d r).2 m2 v w':=by
 have Dm:(r.fl||!lent)=true:=by
  revert ez;cases r.fl<;>simp
 have Dp:∀i j c,(i,j,c)∈us→c.fl=true∨lent=false:=by
  intro i j c hm;rcases zm _ _▸ez with h|h
  ·simp only [zd] at h;exact .inl (zb.1 h.2 _ hm)
  ·right;simpa using h
 have tJ:=(adm us hu).1 d
 have pI:((imp d r).2).isSome→(m1 d).1=none:=fun h=>by
  have:=hn h;rw [this] at tJ;cases h1:(m1 d).1 with
  |none=>rfl
  |some _=>rw [h1] at tJ;cases tJ
 by_cases qw:∃cs,r=.ptr cs
 ·obtain ⟨cs,rfl⟩:=qw;obtain ⟨Rn,b,vals,E,rfl,aD,ie,pD,fu⟩:=hr;obtain ⟨g3,R3,p1,p2,p3,p4⟩:=Jp (d:=d) (cr:=true) (bR:=b) (X:=fun j=>vals.getD j undef) R1 qU nZ DD h0 hL hu Dp (fun _=>pI rfl);obtain ⟨p5,p6⟩:=p4 rfl;simp only [imp] at hn ⊢;have fK:=hn rfl;simp only [V.plain] at cJ
  have fU:∀(j:Nat) (c:C) (x:Value),cs[j]?=some c→vals[j]?=some x→RC w' g3 (d+1) j c x:=by
   intro j c x hc hx;have h5:=fu j c x hc (by simpa using hx);rw [zh] at h5
   have vM:c.fl=true∨lent=false:=by
    rcases zm _ _▸Dm with h|h
    ·simp only [V.fl,V.wj] at h;exact .inl (zb.1 h c (za hc))
    ·right;simpa using h
   exact p2 rfl vM (zb.1 cJ c (za hc)) (by simp [zD,hx]) h5
  refine ⟨_,R3.fresh (rt:=.bx cs) fK (h_.refl d w' g3) ⟨?_,vals,E,?_,by simpa using pD.symm,fU⟩ (fun j r1 j1 hj=>?_),?_,fun q hq=>?_⟩
  ·rw [p5];exact p6 _ aD
  ·rw [p5];exact ie
  ·have:=zb.1 cJ _ (za hj);simp [C.dP] at this
  ·have rT:=RA.bx (w:=w') (g:=g3) (m:=bO m2 d (some (.bx cs),[])) d 0;rw [p5] at rT;exact rT
  ·simp [AV.refs] at hq;subst hq;simp [bO]
 ·have iY:∀cs,r≠.ptr cs:=fun cs e=>qw ⟨cs,e⟩
  obtain ⟨oO,xj⟩:=IZ hr iY;have tE:=Ip cJ iY
  have xp:∀c∈r.ja,c.fl=true∨lent=false:=by
   intro c hc;rcases zm _ _▸Dm with h|h
   ·exact .inl (zb.1 (MJ h iY) c hc)
   ·right;simpa using h
  rw [BU iY] at hn pI ⊢;by_cases mI:r.ja.any C.gx=true
  ·rw [if_pos mI] at hn pI ⊢;have fK:=hn rfl;obtain ⟨g3,R3,p1,p2,p3,p4⟩:=Jp (d:=d) (cr:=true) (bR:=0) (X:=fun j=>(r.vals v).getD j undef) R1 qU nZ DD h0 hL hu Dp (fun _=>pI rfl)
   have fU:∀(j:Nat) (c:C) (x:Value),r.ja[j]?=some c→(r.vals v)[j]?=some x→RC w' g3 (d+1) j c x:=by
    intro j c x hc hx;have h5:=xj j c x hc hx;rw [zh] at h5;exact p2 rfl (xp c (za hc)) (zb.1 tE c (za hc)) (by simp [zu,hx]) h5
   refine ⟨_,R3.fresh (rt:=.aX r.ja) fK (h_.refl d w' g3) (fun j c hc=>?_) (fun j r1 j1 hj=>?_),?_,fun q hq=>?_⟩
   ·have ai:=cY hc;have hx:(r.vals v)[j]?=some (r.vals v)[j]:=by simp [show j<(r.vals v).length from by omega]
    have:=fU j c _ hc hx;rw [p3 rfl j];simpa [zu,hx] using this
   ·have:=zb.1 tE _ (za hj);simp [C.dP] at this
   ·exact BT hr iY (fun i c y hc hy=>A_ (fU i c y hc hy))
   ·obtain ⟨rfl,_⟩:=AA cJ iY hq;simp [bO]
  ·rw [if_neg mI] at hn ⊢;obtain ⟨g3,R3,p1,p2,p3,p4⟩:=Jp (d:=d) (cr:=false) (bR:=0) (X:=fun _=>undef) R1 qU nZ DD h0 hL hu Dp (fun e=>by cases e);refine ⟨g3,R3,?_,fun q hq=>?_⟩
   ·refine BT hr iY (fun i c y hc hy=>?_);have h5:=xj i c y hc hy;have jI:=zb.1 tE c (za hc);rw [zh] at h5;refine A_ (p1 (xp c (za hc)) ?_ jI h5);cases h8:c.gx
    ·rfl
    ·exact absurd (zK.2 ⟨_,za hc,h8⟩) mI
   ·exact absurd (AA cJ iY hq).2 mI
end
end
end Go.Proofs.YtohlfelngklcfaaGreat.OM
