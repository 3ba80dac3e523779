/- A part of the proof. -/
import Derived.Test.YtohlfelngklcfaaGreatF0
set_option linter.all false
namespace Go.Proofs.YtohlfelngklcfaaGreat.OM
open List renaming mem_of_getElem?→za,all_eq_true→zd,getElem?_append_right→ze,getElem?_append_left→zf,getElem?_eq_getElem→zg,mem_iff_getElem?→zh,getElem?_eq_some_iff→zi,replicate→zj,flatMap_cons→zo,nil_append→zt,getElem?_drop→zu,mem_append→zw,getD→zy,getElem?_set_self→zB,map_cons→zD,any_cons→zH,length_cons→zI,mem_cons_of_mem→zK,length_append→zP,getElem?_take→zQ,append_assoc→zR,getElem?_map→zS,getElem?_replicate→zV,any_append→zW,length_replicate→zX,getElem?_eq_none→zY,getElem?_set_ne→z_,all_cons→Za,replicate_succ→Zb,prefix_append→Ze,ext_getElem?→Zf,length_take→Zh,any_eq_true→Zi,all_flatMap→Zj,mem_map→Zo
open Bool renaming and_eq_true→zb,or_eq_true→zz,false_eq_true→zO,false_or→Zn
open Nat renaming zero_add→zk,le_refl→zm,mul_le_mul_right→zn,mul_comm→zp,succ_mul→zq,add_assoc→zr,pos_of_ne_zero→zx,lt_of_lt_of_le→zA,lt_or_ge→zL,div_lt_of_lt_mul→zM,add_zero→zN,mod_lt→zT,mod_eq_of_lt→zU,le_trans→Zc,add_mul→Zg,mul_add_mod→Zk,div_add_mod→Zl,lt_irrefl→Zm
open _root_.Array renaming getD_eq_getD_getElem?→zC,getElem?_range→zZ,getElem?_map→Zd,range→Zp
open Option.some renaming injEq→zF
open Option renaming map_eq_some_iff→zG,map_some→zJ
section
section
variable {P:Program} {κ:Nat→FuncId} {w0:World} {cl0:dv} {S:St} {w:World} {g:Gh} {a:Act} {Γ:Env} {d:Nat}
def eX (w0:World) (cl0:dv) (S:St) (ts:Array Value) (d:Nat) (av:AV) (rt:Option Rt) (m':Ms) (v:Value) (w':World):Prop:=
 ∃g',Rel w0 cl0 { S with ms:=match rt with|none=>m'|some r=>az m' d (some r,[]) } ts w' g'∧
  RA w' g' (match rt with|none=>m'|some r=>az m' d (some r,[])) av v∧Live (match rt with|none=>m'|some r=>az m' d (some r,[])) av
def Gh.new (g:Gh) (d b:Nat) (C:cG) (H:Nat→aY→Value):Gh where
 cl:=az g.cl b C
 hd:=fun r j ρ=>if r=d+1 then H j ρ else g.hd r j ρ
 bk:=az g.bk d b
theorem ek.new {w':World} (dU:∀b,g.cl b≠.no→b<w.heap.size) {d:Nat} {C:cG} {H:Nat→aY→Value} (hC:C=.box d∨∃j p,C=.own (d+1) j p)
 (hp:∀b,b<w.heap.size→w'.heap[b]?=w.heap[b]?) (hs:w'.heap.size=w.heap.size+1) (dL:eB w w'):ek d w w' g (g.new d w.heap.size C H) where
 sd:=dL
 hp:=fun b h _=>hp b h
 hs:=by omega
 kc:=fun b k=>by
  simp only [Gh.new,az];split
  ·rename_i e;subst e
   have:g.cl w.heap.size=.no:=by
    by_cases h:g.cl w.heap.size=.no
    ·exact h
    ·exact absurd (dU _ h) (Zm _)
   rw [this];rcases hC with rfl|⟨j,p,rfl⟩<;>cases k<;>simp [OM.kc]
  ·exact .rfl
 cl:=fun b n j ρ h hn=>by
  have:b≠w.heap.size:=fun e=>by have:=dU b (by rw [h];simp);omega
  simp [Gh.new,az,this,h]
 bx:=fun b n h hn=>by
  have:b≠w.heap.size:=fun e=>by have:=dU b (by rw [h];simp);omega
  simp [Gh.new,az,this,h]
 hd:=fun n j ρ hn=>by simp [Gh.new,hn]
 bk:=fun n hn=>by simp [Gh.new,az,hn]
 bd:=fun b h=>by
  by_cases e:b=w.heap.size
  ·exact .inr ⟨by omega,by omega⟩
  ·simp only [Gh.new,fk e] at h;exact .inl h
 mi:=fun b hb h=>by
  have:b≠w.heap.size:=by omega
  simpa [Gh.new,az,this] using h
theorem val_one {m:Ms} {av:AV} {v:Value} (h:RA w g m av v) (hv:av.isVal=true) (hn:∀cs,av≠.agg cs):v.cells=#[v]∧v.oneCell'=true:=by
 cases h with
 |un=>simp [AV.isVal] at hv
 |v k d x h=>
  cases h with
  |dead=>simp [AV.isVal] at hv
  |_=>exact ⟨rfl,rfl⟩
 |agg cs=>exact absurd rfl (hn cs)
 |a_=>simp [AV.isVal] at hv
 |_=>exact ⟨rfl,rfl⟩
theorem ux {m:Ms} {av:AV} {v:Value} (h:RA w g m av v) (hv:av.isVal=true):
 av.cells.length=v.cells.size∧∀(k:Nat) (b:AV) (x:Value),av.cells[k]?=some b→v.cells[k]?=some x→RA w g m b x:=by
 by_cases hn:∀cs,av≠.agg cs
 ·have h1:=(val_one h hv hn).1;have h2:av.cells=[av]:=by cases av<;>first|rfl|exact absurd rfl (hn _)
  rw [h1,h2];refine ⟨rfl,fun k b x h3 h4=>?_⟩;cases k with
  |zero=>simp at h3 h4;subst h3;subst h4;exact h
  |succ k=>simp at h3
 ·obtain ⟨cs,hn⟩:=Classical.not_forall.1 hn;obtain rfl:=Classical.not_not.1 hn;cases h with
  |agg _ vs hl ch=>exact ⟨hl,ch⟩
theorem MO {m m':Ms} {av:AV} {cs:List C} (h:fm m av.cells=some (cs,m')):av.isVal=true:=by
 cases av with
 |un=>simp [AV.cells,fm,eH] at h
 |a_=>simp [AV.cells,fm,eH] at h
 |v k d=>cases d<;>first|rfl|(simp [AV.cells,fm,eH] at h)
 |_=>rfl
theorem Ti {m:Ms} {av:AV} {cs:List C} (h:iq m av.cells=some cs):av.isVal=true:=by
 cases av with
 |un=>simp [AV.cells,iq,l7] at h
 |a_=>simp [AV.cells,iq,l7] at h
 |v k d=>cases d<;>first|rfl|(simp [AV.cells,iq,l7] at h)
 |_=>rfl
theorem Vt {m:Ms} {av:AV} {c:C} {x:Value} (ha:RA w g m av x) (h:l7 m av=some c) {w':World} {g':Gh} {r j:Nat}
 (hb:∀b k,g.cl b=kc k→w'.heap[b]?=w.heap[b]?∧g'.cl b=kc k) (hh:g'.hd r j []=x)
 (hr:∀r1 j1,((m r1).1).isSome→g'.hd (r1+1) j1 []=g.hd (r1+1) j1 []):RC w' g' r j c x∧(∀r1 j1,c=.rf r1 j1→∃cs,(m r1).1=some (.an cs)):=by
 unfold l7 at h;split at h
 ·cases h
 ·simp at h;subst h;cases ha with
  |v _ _ _ br=>exact ⟨.ro _ _ _ (br.mono fun b hc=>hb b _ hc),by simp⟩
 ·simp at h;subst h;cases ha with
  |nl=>exact ⟨.own _ _ (.nil _ _ hh),by simp⟩
 ·rename_i r0 j0;split at h
  ·rename_i cs cC;split at h
   ·cases h
   ·rename_i hk;simp at h;subst h;cases ha with
    |pl _ _ _ b n c0 hx=>
     refine ⟨.rf r0 j0 b n c0 ?_,fun r1 j1 e=>?_⟩
     ·rw [hr r0 j0 (by rw [cC];rfl)];exact (hx (by simpa using hk)).symm
     ·simp at e;obtain ⟨rfl,rfl⟩:=e;exact ⟨cs,cC⟩
  ·cases h
 ·cases h
theorem Vu {m:Ms}:∀(as:List AV) {cs:List C},iq m as=some cs→cs.length=as.length∧∀(i:Nat) (c:C),cs[i]?=some c→∃av,as[i]?=some av∧l7 m av=some c:=by
 intro as;induction as with
 |nil=>intro cs h;simp [iq] at h;subst h;exact ⟨rfl,fun i c h=>by simp at h⟩
 |cons b bs ih=>
  intro cs h;simp only [iq] at h;cases h1:l7 m b with
  |none=>simp [h1] at h
  |some c=>
   simp only [h1] at h;cases h2:iq m bs with
   |none=>simp [h2] at h
   |some jt=>
    simp only [h2] at h;simp at h;subst h;obtain ⟨hl,hg⟩:=ih h2;refine ⟨by simp [hl],fun i c1 hc=>?_⟩;cases i with
    |zero=>simp at hc;subst hc;exact ⟨b,rfl,h1⟩
    |succ i=>exact hg i c1 (by simpa using hc)
theorem M0 (R:Rel w0 cl0 S a.tmps w g) {as:List AV} {vals:Array Value} {cs:List C} (hn:(S.ms d).1=none) (cC:iq S.ms as=some cs)
 (hl:as.length=vals.size) (ch:∀(k:Nat) (b:AV) (x:Value),as[k]?=some b→vals[k]?=some x→RA w g S.ms b x) (E:TypeId):
 eX w0 cl0 S a.tmps d (.bx d 0) (some (.bx cs)) S.ms (.pointer (some ⟨w.heap.size,0,none⟩)) (w.alloc (.cells vals E)):=by
 obtain ⟨bq,Rs⟩:=Vu as cC;have ey:∀b,b<w.heap.size→(w.alloc (.cells vals E)).heap[b]?=w.heap[b]?:=fun b hb=>heap_alloc_old w _ b hb
 have H:=ek.new (w:=w) (w':=w.alloc (.cells vals E)) (g:=g) R.bd (d:=d) (C:=.box d) (H:=fun j _=>vals.getD j undef) (.inl rfl) ey (by simp) (.alloc _ _)
 have c_:∀b k,g.cl b=kc k→(w.alloc (.cells vals E)).heap[b]?=w.heap[b]?∧(g.new d w.heap.size (.box d) (fun j _=>vals.getD j undef)).cl b=kc k:=
  fun b k h=>⟨ey b (R.bd b (by rw [h];cases k<;>simp [kc])),(H.kc b k).2 h⟩
 have bm:∀r,((S.ms r).1).isSome→r≠d:=fun r h e=>by subst e;simp [hn] at h
 have nO:∀(j:Nat) (c:C) (x:Value),cs[j]?=some c→vals[j]?=some x→
  RC (w.alloc (.cells vals E)) (g.new d w.heap.size (.box d) (fun j _=>vals.getD j undef)) (d+1) j c x∧(∀r1 j1,c=.rf r1 j1→∃cs,(S.ms r1).1=some (.an cs)):=by
  intro j c x hc hx;obtain ⟨av,h1,h2⟩:=Rs j c hc;refine Vt (ch j av x h1 hx) h2 c_ ?_ (fun r1 j1 h=>by simp [Gh.new,bm r1 h]);simp [Gh.new,zC,hx]
 refine ⟨_,R.fresh (rt:=.bx cs) hn H ?_ ?_,?_,?_⟩
 ·refine ⟨by simp [Gh.new,az],vals,E,by simp only [Gh.new,g_];exact heap_alloc_new w _,by omega,fun j c x hc hx=>(nO j c x hc hx).1⟩
 ·intro j r1 j1 hj;simp only [Rt.cells] at hj;have ae:j<vals.size:=by have:=bE hj;omega
  exact (nO j _ vals[j] hj (by simp [ae])).2 r1 j1 rfl
 ·have:(g.new d w.heap.size (.box d) (fun j _=>vals.getD j undef)).bk d=w.heap.size:=by simp [Gh.new,az]
  have hb:=RA.bx (w:=w.alloc (.cells vals E)) (g:=g.new d w.heap.size (.box d) (fun j _=>vals.getD j undef)) (m:=az S.ms d (some (.bx cs),[])) d 0;rw [this] at hb;exact hb
 ·intro r hr;simp [AV.refs] at hr;subst hr;simp [az]
theorem Ui (R:Rel w0 cl0 S a.tmps w g) {n:Nat} {x:PX} {op:Op} {av:AV} {rt:Option Rt} {m':Ms} (hn:(S.ms d).1=none)
 (hc:bf P κ (.box n x) op=true) (h:ay Γ S.ev d S.ms (.box n x)=some (av,rt,m')) (o:Oper) (ho:o.op=op):
 ∃v w',(execOp a.eval o).run P w=.ok (.value v) w'∧eX w0 cl0 S a.tmps d av rt m' v w':=by
 cases op with
 |box e ox=>?_
 |_=>simp [bf] at hc
 simp only [bf] at hc;have e1:=(b8 R hc).1;simp only [ay] at h;split at h
 ·rename_i cs cC;split at h
  ·simp at h;obtain ⟨rfl,rfl,rfl⟩:=h;obtain ⟨hl,ch⟩:=ux e1 (Ti cC);refine ⟨_,_,?_,M0 R hn cC hl ch e⟩;simp [execOp,ho,Instr.box,newVar,newRow]
  ·cases h
 ·cases h
theorem Ko:∀(as:List AV) (vs:List Value),qQ as vs=true→as.length=vs.length∧∀(i:Nat) (b:AV) (v:Value),as[i]?=some b→vs[i]?=some v→uy b v=true:=by
 intro as;induction as with
 |nil=>intro vs h;cases vs<;>simp [qQ] at h ⊢
 |cons b bs ih=>
  intro vs h;cases vs with
  |nil=>simp [qQ] at h
  |cons v vs=>
   simp only [qQ,zb] at h;obtain ⟨h1,h2⟩:=ih vs h.2;refine ⟨by simp [h1],fun i c x hc hx=>?_⟩;cases i with
   |zero=>simp at hc hx;subst hc;subst hx;exact h.1
   |succ i=>exact h2 i c x (by simpa using hc) (by simpa using hx)
theorem sE {e:TypeId} {z:List Value} (h:oe P e=some z):∃i zv,P.info? e=some i∧i.zero=some zv∧zv.cells.toList=z∧zv.cells.size=i.size:=by
 unfold oe at h;split at h
 ·rename_i i hi;split at h
  ·rename_i zv hz;split at h
   ·rename_i hs;simp at h;exact ⟨i,zv,hi,hz,h,hs⟩
   ·cases h
  ·cases h
 ·cases h
theorem Uf (R:Rel w0 cl0 S a.tmps w g) {zs:List AV} {op:Op} {av:AV} {rt:Option Rt} {m':Ms} (hn:(S.ms d).1=none)
 (hc:bf P κ (.alloc zs) op=true) (h:ay Γ S.ev d S.ms (.alloc zs)=some (av,rt,m')) (o:Oper) (ho:o.op=op):
 ∃v w',(execOp a.eval o).run P w=.ok (.value v) w'∧eX w0 cl0 S a.tmps d av rt m' v w':=by
 cases op with
 |alloc e=>?_
 |_=>simp [bf] at hc
 simp only [bf] at hc;split at hc
 ·rename_i z hz;obtain ⟨i,zv,hi,kj,ki,_⟩:=sE hz;obtain ⟨hl,hg⟩:=Ko zs z hc;simp only [ay] at h;split at h
  ·rename_i cs cC;simp at h;obtain ⟨rfl,rfl,rfl⟩:=h;refine ⟨_,_,?_,M0 R (vals:=zv.cells) hn cC (by rw [hl,←ki];simp) (fun k b x hb hx=>?_) e⟩
   ·simp [execOp,ho,Instr.alloc,zeroValue,typeInfo,hi,kj,newVar,newRow]
   ·exact (BX (hg k b x hb (by rw [←ki];simpa using hx))).1
  ·cases h
 ·cases hc
end
end
section
section
variable {P:Program} {κ:Nat→FuncId} {w0:World} {cl0:dv} {S:St} {w:World} {g:Gh} {a:Act} {Γ:Env} {d:Nat}
def Hd (w:World) (g:Gh) (q:Nat) (d:D) (x:Value):Prop:=OW w g 0 q [] d x∨∃sz,d=.sl sz []∧x=.slice none 0 0
theorem Hd.one {q:Nat} {d:D} {x:Value} (h:Hd w g q d x) (hd:d≠.dead):x.oneCell'=true:=by
 rcases h with h|⟨_,_,rfl⟩
 ·cases h<;>first|rfl|exact absurd rfl hd
 ·rfl
theorem OG {q:Nat} {c:C} {d:D} {x:Value} (h:RC w g 0 q c x) (hc:c.nr=some d):Hd w g q d x:=by
 cases h with
 |ro k d0 _ hr=>
  simp only [C.nr] at hc;split at hc
  ·rename_i hs;simp at hc;subst hc;refine .inl ?_;cases hr with
   |int=>exact .int _ _ _
   |bool=>exact .bool _ _
   |str=>exact .str _ _
   |_=>simp [D.bF] at hs
  ·cases hc
 |own d0 _ ho=>simp [C.nr] at hc;subst hc;exact .inl ho
 |rf=>simp [C.nr] at hc
theorem OH:∀(cs:List C) {ds:List D},pD cs=some ds→ds.length=cs.length∧∀(i:Nat) (c:C) (d:D),cs[i]?=some c→ds[i]?=some d→c.nr=some d:=by
 intro cs;induction cs with
 |nil=>intro ds h;simp [pD] at h;subst h;exact ⟨rfl,fun i c d h=>by simp at h⟩
 |cons c cs ih=>
  intro ds h;simp only [pD] at h;cases h1:c.nr with
  |none=>simp [h1] at h
  |some d1=>
   simp only [h1] at h;cases h2:pD cs with
   |none=>simp [h2] at h
   |some Cm=>
    simp only [h2] at h;simp at h;subst h;obtain ⟨hl,hg⟩:=ih h2;refine ⟨by simp [hl],fun i c1 P2 hc hd=>?_⟩;cases i with
    |zero=>simp at hc hd;subst hc;subst hd;exact h1
    |succ i=>exact hg i c1 P2 (by simpa using hc) (by simpa using hd)
theorem fl.gW {N:Nat→Prop} {g g':Gh} {m m':Ms} (h:fl N g m g' m') {q:Nat} (hq:¬N q) {d:D} {x:Value} (ha:Hd w g q d x):Hd w g' q d x:=by
 rcases ha with ha|ha
 ·exact .inl (h.ow hq ha)
 ·exact .inr ha
theorem Hd.place {w':World} {g':Gh} {q r j:Nat} {p:aY} {d:D} {x:Value} (h:Hd w g q d x)
 (hc:∀b ρ,g.cl b=.own 0 q ρ→w'.heap[b]?=w.heap[b]?∧g'.cl b=.own r j (p++ρ))
 (hh:∀ρ,ρ≠[]→g'.hd r j (p++ρ)=g.hd 0 q ρ) (hx:g'.hd r j p=x):OW w' g' r j p d x:=by
 rcases h with h|⟨sz,rfl,rfl⟩
 ·cases h with
  |int=>exact .int _ _ _
  |bool=>exact .bool _ _
  |str=>exact .str _ _
  |dead=>exact .dead _ _ hx
  |nil=>exact .nil _ _ hx
  |sl _ sz es b off cap vals E cq bq hl cz hw hN hk=>
   have h0:=hc b [] bq;refine .sl _ _ _ b off cap vals E hx (by simpa using h0.2) hl cz (by rw [h0.1];exact hw) hN (fun i c e d x he hd hx=>?_);refine (hk i c e d x he hd hx).mono (fun b ρ hb=>?_) (fun ρ=>?_)
   ·have:=hc b ((i,c)::ρ) (by simpa using hb);simpa using this
   ·have:=hh ((i,c)::ρ) (by simp);simpa using this
 ·exact .nil _ _ hx
theorem Hd.scalar {w':World} {g':Gh} {q r j:Nat} {p:aY} {d:D} {x:Value} (h:Hd w g q d x) (hs:d.bF=true):OW w' g' r j p d x:=by
 rcases h with h|⟨sz,rfl,rfl⟩
 ·cases h with
  |int=>exact .int _ _ _
  |bool=>exact .bool _ _
  |str=>exact .str _ _
  |_=>simp [D.bF] at hs
 ·simp [D.bF] at hs
theorem xe {q:Nat} {d:D} {x:Value} (h:xd d x=true):Hd w g q d x:=by
 unfold xd at h;split at h
 ·simp at h;obtain ⟨rfl,rfl⟩:=h;exact .inl (.int _ _ _)
 ·simp at h;subst h;exact .inl (.bool _ _)
 ·rename_i s s';simp at h;obtain rfl:s=s':=ByteArray.ext h;exact .inl (.str _ _)
 ·simp at h;obtain ⟨rfl,rfl⟩:=h;exact .inr ⟨_,rfl,rfl⟩
 ·cases h
theorem BZ:∀(as:List D) (vs:List Value),pM as vs=true→as.length=vs.length∧∀(i:Nat) (b:D) (v:Value),as[i]?=some b→vs[i]?=some v→xd b v=true:=by
 intro as;induction as with
 |nil=>intro vs h;cases vs<;>simp [pM] at h ⊢
 |cons b bs ih=>
  intro vs h;cases vs with
  |nil=>simp [pM] at h
  |cons v vs=>
   simp only [pM,zb] at h;obtain ⟨h1,h2⟩:=ih vs h.2;refine ⟨by simp [h1],fun i c x hc hx=>?_⟩;cases i with
   |zero=>simp at hc hx;subst hc;subst hx;exact h.1
   |succ i=>exact h2 i c x (by simpa using hc) (by simpa using hx)
def Gh.jI (g:Gh) (d b sz:Nat) (hdr:Value) (X:Nat→Value):Gh where
 cl:=fun k=>if k=b then .own (d+1) 0 [] else match g.cl k with
  |.own 0 q ρ=>.own (d+1) 0 ((q/sz,q%sz)::ρ)
  |c=>c
 hd:=fun r j ρ=>if r=d+1 then (match ρ with
  |[]=>hdr
  |(i,c)::lA=>if lA=[] then X (i*sz+c) else g.hd 0 (i*sz+c) lA) else g.hd r j ρ
 bk:=g.bk
theorem ek.jI {w':World} (dU:∀b,g.cl b≠.no→b<w.heap.size) {d sz:Nat} {hdr:Value} {X:Nat→Value}
 (hp:∀b,b<w.heap.size→w'.heap[b]?=w.heap[b]?) (hs:w'.heap.size=w.heap.size+1) (dL:eB w w'):ek d w w' g (g.jI d w.heap.size sz hdr X):=by
 have e_:g.cl w.heap.size=.no:=by
  by_cases h:g.cl w.heap.size=.no
  ·exact h
  ·exact absurd (dU _ h) (Zm _)
 have bm:∀b c,g.cl b=c→c≠.no→b≠w.heap.size:=fun b c h hc e=>by subst e;rw [e_] at h;exact hc h.symm
 refine { hp:=fun b h _=>hp b h,hs:=by omega,kc:=fun b k=>?_,cl:=fun b n j ρ h hn=>?_,bx:=fun b n h hn=>?_,hd:=fun n j ρ hn=>by simp [Gh.jI,hn],
          bk:=fun n hn=>rfl,bd:=fun b h=>?_,mi:=fun b hb h=>?_,sd:=dL }
 ·simp only [Gh.jI];split
  ·rename_i e;subst e;rw [e_];cases k<;>simp [OM.kc]
  ·cases h:g.cl b with
   |own r j ρ=>cases r<;>cases k<;>simp [OM.kc]
   |_=>exact .rfl
 ·simp [Gh.jI,bm b _ h (by simp),h]
 ·simp [Gh.jI,bm b _ h (by simp),h]
 ·by_cases e:b=w.heap.size
  ·exact .inr ⟨by omega,by omega⟩
  ·left;intro h0;simp [Gh.jI,e,h0] at h
 ·have e:b≠w.heap.size:=by omega
  simp only [Gh.jI,if_neg e] at h;cases h0:g.cl b<;>rw [h0] at h<;>first|rfl|(simp [cG.ck] at h)
theorem M1 (R:Rel w0 cl0 S a.tmps w g) (hn:(S.ms d).1=none) {w':World} {sz cap:Nat} {es:List (List D)} {vals:Array Value} {E:TypeId}
 (hp:∀b,b<w.heap.size→w'.heap[b]?=w.heap[b]?) (hs:w'.heap.size=w.heap.size+1) (dL:eB w w') (ey:w'.heap[w.heap.size]?=some (.cells vals E))
 (hl:∀e∈es,e.length=sz) (cz:es.length≤cap) (hN:cap*sz≤vals.size)
 (hc:∀(i c:Nat) (e:List D) (d:D) (x:Value),es[i]?=some e→e[c]?=some d→vals[i*sz+c]?=some x→Hd w g (i*sz+c) d x):
 eX w0 cl0 S a.tmps d (.pl d 0 []) (some (.an [.own (.sl sz es)])) S.ms (.slice (some ⟨w.heap.size,0,none⟩) es.length cap) w':=by
 have H:=ek.jI (w:=w) (w':=w') (g:=g) R.bd (d:=d) (sz:=sz) (hdr:=.slice (some ⟨w.heap.size,0,none⟩) es.length cap) (X:=fun k=>vals.getD k undef) hp hs dL;refine ⟨_,R.fresh hn H ?_ ?_,?_,?_⟩
 ·intro j c hj;cases j with
  |succ j=>simp at hj
  |zero=>
   simp at hj;subst hj;refine .own _ _ ?_
   have cq:(g.jI d w.heap.size sz (.slice (some ⟨w.heap.size,0,none⟩) es.length cap) fun k=>vals.getD k undef).hd (d+1) 0 []=
    .slice (some ⟨w.heap.size,0,none⟩) es.length cap:=by simp [Gh.jI]
   rw [cq];refine .sl _ _ _ w.heap.size 0 cap vals E cq (by simp [Gh.jI]) hl cz ey (by omega) (fun i c e dd x he hd hx=>?_);simp only [zk,zt] at hx ⊢;have cC:c<sz:=by have:=jY hl he;have:=bE hd;omega
   have hdiv:(i*sz+c)/sz=i:=by
    rw [zp,Nat.mul_add_div (by omega),Nat.div_eq_of_lt cC];rfl
   have Dv:(i*sz+c)%sz=c:=by
    rw [zp,Zk,zU cC]
   refine (hc i c e dd x he hd hx).place (fun b ρ hb=>?_) (fun ρ g7=>?_) ?_
   ·have ae:=R.bd b (by rw [hb];simp);refine ⟨hp b ae,?_⟩;have:b≠w.heap.size:=by omega
    simp [Gh.jI,this,hb,hdiv,Dv]
   ·simp [Gh.jI,g7]
   ·simp only [Gh.jI,if_true,zC,hx,Option.getD_some]
 ·intro j r1 j1 hj;cases j<;>simp [Rt.cells] at hj
 ·exact .pl _ _ _ _ _ _ fun _=>by simp [Gh.jI]
 ·intro r hr;simp [AV.refs] at hr;subst hr;simp [az]
end
end
section
section
variable {P:Program} {κ:Nat→FuncId} {w0:World} {cl0:dv} {S:St} {w:World} {g:Gh} {a:Act} {Γ:Env} {d:Nat}
theorem K9:∀(l:List Value) (n off:Nat) (cs:Array Value),
 ((l.zipIdx n).foldl (fun cs (x:Value×Nat)=>cs.setIfInBounds (off+x.2) x.1) cs).size=cs.size∧
 ∀k:Nat,off+n+l.length≤cs.size→
  ((l.zipIdx n).foldl (fun cs (x:Value×Nat)=>cs.setIfInBounds (off+x.2) x.1) cs)[k]?=if off+n≤k∧k<off+n+l.length then l[k-(off+n)]? else cs[k]?:=by
 intro l;induction l with
 |nil=>intro n off cs;simp;intro k h1 h2 h3;omega
 |cons v l ih=>
  intro n off cs;simp only [List.zipIdx_cons,List.foldl_cons];obtain ⟨h1,h2⟩:=ih (n+1) off (cs.setIfInBounds (off+n) v);refine ⟨by rw [h1];simp,fun k hk=>?_⟩;simp only [zI] at hk;rw [h2 k (by simp;omega)];by_cases e1:off+(n+1)≤k∧k<off+(n+1)+l.length
  ·rw [if_pos e1,if_pos (by simp only [zI];omega),show k-(off+n)=(k-(off+(n+1)))+1 from by omega];simp
  ·rw [if_neg e1];by_cases e2:k=off+n
   ·subst e2;rw [if_pos (by simp only [zI];omega)];simp [show off+n<cs.size from by omega]
   ·rw [if_neg (by simp only [zI];omega)];rw [Array.getElem?_setIfInBounds_ne (by omega)]
theorem K4 {place:Nat→Option (Nat×Nat)} {cells:Array Value} {i off n:Nat} {v:Value} {rest:List (Nat×Value)} (hp:place i=some (off,n))
 (hn:v.cells.size=n) (hb:off+n≤cells.size):∃gO,Instr.fill place cells ((i,v)::rest)=Instr.fill place gO rest∧gO.size=cells.size∧
  ∀k:Nat,gO[k]?=if off≤k∧k<off+n then v.cells[k-off]? else cells[k]?:=by
 refine ⟨(v.cells.toList.zipIdx 0).foldl (fun cs x=>cs.setIfInBounds (off+x.2) x.1) cells,?_,(K9 _ _ _ _).1,fun k=>?_⟩
 ·have h1:¬((decide (v.cells.size≠n)||decide (off+v.cells.size>cells.size))=true):=by simp;omega
  simp only [Instr.fill,hp,h1,zO,if_false];rw [←Array.foldl_toList,Array.toList_zipIdx]
 ·rw [(K9 v.cells.toList 0 off cells).2 k (by simp;omega)];simp [hn]
theorem wI {α:Type} {l xs:List α} {o k:Nat} (h:o+xs.length≤l.length):
 (iL l o xs)[k]?=if o≤k∧k<o+xs.length then xs[k-o]? else l[k]?:=by
 unfold iL;by_cases h1:k<o
 ·rw [if_neg (by omega),zR,zf (by simp;omega),List.getElem?_take_of_lt h1]
 ·by_cases h2:k<o+xs.length
  ·rw [if_pos ⟨by omega,h2⟩,zR,ze (by simp;omega)];simp only [Zh];rw [show min o l.length=o from by omega,zf (by omega)]
  ·rw [if_neg (by omega),ze (by simp;omega)];simp only [zP,Zh,zu];rw [show min o l.length=o from by omega];congr 1;omega
theorem Bd {α:Type} {l xs:List α} {o:Nat} (h:o+xs.length≤l.length):(iL l o xs).length=l.length:=by
 simp [iL];omega
theorem Qu (R:Rel w0 cl0 S a.tmps w g) {place at?:Nat→Option (Nat×Nat)} (bI:∀i off n,at? i=some (off,n)→place i=some (off,n)):
 ∀(ps:List (Nat×Nat×PX)) (parts:List (Nat×Operand)) (z l:List AV) (cells:Array Value),sN at? ps parts=true→
  sQ z (ps.map fun x=>(x.1,x.2.1,S.ev x.2.2))=some l→z.length=cells.size→(∀(k:Nat) (b:AV) (x:Value),z[k]?=some b→cells[k]?=some x→RA w g S.ms b x∧Live S.ms b)→
  ∃gO,Instr.fill place cells (parts.map fun x=>(x.1,a.eval x.2))=some gO∧l.length=gO.size∧
   ∀(k:Nat) (b:AV) (x:Value),l[k]?=some b→gO[k]?=some x→RA w g S.ms b x∧Live S.ms b:=by
 intro ps;induction ps with
 |nil=>
  intro parts z l cells hc h hz hg;cases parts with
  |nil=>simp [sQ] at h;subst h;exact ⟨cells,by simp [Instr.fill],hz,hg⟩
  |cons=>simp [sN] at hc
 |cons p ps ih=>
  intro parts z l cells hc h hz hg;obtain ⟨off,n,x⟩:=p;cases parts with
  |nil=>simp [sN] at hc
  |cons pt parts=>
   obtain ⟨i,ox⟩:=pt;simp only [sN,zb,decide_eq_true_eq] at hc;obtain ⟨⟨h1,h2⟩,h3⟩:=hc;simp only [zD,sQ] at h;split at h
   ·rename_i dA;obtain ⟨hn,hb,ti⟩:=dA;have e:=b8 R h2;obtain ⟨bq,bW⟩:=ux e.1 ti;obtain ⟨gO,hf,hs,bL⟩:=K4 (v:=a.eval ox) (rest:=parts.map fun x=>(x.1,a.eval x.2)) (bI i off n h1) (by omega) (show off+n≤cells.size by omega);have hlen:=Bd (l:=z) (xs:=(S.ev x).cells) (o:=off) (by omega)
    obtain ⟨c2,qd,bY,bM⟩:=ih parts _ l gO h3 h (by omega) (fun k b y cF hy=>by
     rw [wI (by omega)] at cF;rw [bL k] at hy;rw [hn] at cF;split at cF
     ·rename_i hk;rw [if_pos hk] at hy;refine ⟨bW _ b y cF hy,?_⟩;intro r hr;refine e.2 r ?_;cases bJ:S.ev x with
      |agg cs=>
       rw [bJ] at cF;have dK:cs[k-off]?=some b:=cF;simpa [AV.refs] using vG dK hr
      |_=>
       rw [bJ] at cF;simp only [AV.cells] at cF;cases s_:k-off with
       |zero=>rw [s_] at cF;simp at cF;subst cF;exact hr
       |succ m=>rw [s_] at cF;simp at cF
     ·rename_i hk;rw [if_neg hk] at hy
      exact hg k b y cF hy)
    exact ⟨c2,by simp only [zD];rw [hf];exact qd,bY,bM⟩
   ·cases h
theorem run_places {fs:Array Field} (h:∀f∈fs.toList,∃i,P.info? f.type=some i):
 (fs.mapM fun f=>(do pure (f.offset,←sizeOf f.type):Sem (Nat×Nat))).run P w=.ok (fs.map fun f=>(f.offset,P.cellsOf f.type)) w:=by
 obtain ⟨l⟩:=fs;rw [Array.mapM_eq_mapM_toList];simp only at h
 have:(l.mapM fun f=>(do pure (f.offset,←sizeOf f.type):Sem (Nat×Nat))).run P w=.ok (l.map fun f=>(f.offset,P.cellsOf f.type)) w:=by
  induction l with
  |nil=>simp
  |cons f l ih=>
   obtain ⟨i,hi⟩:=h f (by simp);have:=ih (fun f hf=>h f (by simp [hf]));have hs:(sizeOf f.type).run P w=.ok (P.cellsOf f.type) w:=by simp [sizeOf,typeInfo,hi,Program.cellsOf]
   simp only [List.mapM_cons,Sem.run_bind,this,hs,Result.andThen_ok,Sem.run_pure,zD]
 rw [Sem.run_map,this];simp
theorem TX {m:Ms}:∀(l:List AV),(∀(k:Nat) (av:AV),l[k]?=some av→Live m av)→∀r∈AV.cA l,((m r).1).isSome:=by
 intro l;induction l with
 |nil=>intro _ r h;simp [AV.cA] at h
 |cons b bs ih=>
  intro h1 r h2;simp only [AV.cA,zw] at h2;rcases h2 with h2|h2
  ·exact h1 0 b rfl r h2
  ·exact ih (fun k av hk=>h1 (k+1) av hk) r h2
theorem Qt {t:TypeId} {f off n:Nat} (h:qV P t f=some (off,n)):∃fs fd,P.underlying t=some (.struct fs)∧fs[f]?=some fd∧fd.offset=off∧P.cellsOf fd.type=n:=by
 unfold qV at h;split at h
 ·rename_i fs hu;split at h
  ·rename_i fd oG;split at h
   ·rename_i i hi;simp at h;exact ⟨fs,fd,hu,oG,h.1,by simp [Program.cellsOf,hi,h.2]⟩
   ·cases h
  ·cases h
 ·cases h
theorem Uk (R:Rel w0 cl0 S a.tmps w g) {z:List AV} {ps:List (Nat×Nat×PX)} {op:Op} {av:AV} {rt:Option Rt} {m':Ms}
 (hc:bf P κ (.build z ps) op=true) (h:ay Γ S.ev d S.ms (.build z ps)=some (av,rt,m')):fN P S w g a av rt m' op:=by
 cases op with
 |build t parts=>?_
 |_=>simp [bf] at hc
 simp only [bf,zb] at hc;obtain ⟨⟨hz,vc⟩,Db⟩:=hc;split at hz
 ·rename_i zl iW;obtain ⟨i,zv,hi,kj,ki,jD⟩:=sE iW;obtain ⟨hl,hg⟩:=Ko z zl hz;simp only [ay] at h;split at h
  ·rename_i l h_;simp at h;obtain ⟨rfl,rfl,rfl⟩:=h;refine ⟨rfl,rfl,fun o ho=>?_⟩;split at Db
   ·rename_i fs hu
    have RV:∀f∈fs.toList,∃i,P.info? f.type=some i:=by
     intro f hf;have:=zd.1 Db f hf;cases hh:P.info? f.type with
     |none=>simp [hh] at this
     |some i=>exact ⟨i,rfl⟩
    obtain ⟨gO,xJ,bY,ch⟩:=Qu R (place:=((fs.map fun f=>(f.offset,P.cellsOf f.type))[·]?)) (at?:=qV P t) (fun i off n h=>by
     obtain ⟨fs',fd,My,oG,h1,h2⟩:=Qt h;rw [hu] at My;cases My
     simp [oG,h1,h2]) ps parts.toList z l zv.cells vc h_ (by rw [hl,←ki];simp) (fun k b x hb hx=>by
      have:=BX (w:=w) (g:=g) (m:=S.ms) (hg k b x hb (by rw [←ki];simpa using hx))
      exact ⟨this.1,fun r hr=>by rw [this.2] at hr;cases hr⟩)
    refine ⟨.agg gO,?_,.agg _ _ bY (fun k b x hb hx=>(ch k b x hb hx).1),?_⟩
    ·have Sw:=run_places (P:=P) (w:=w) RV;have xV:(parts.map fun x=>(x.1,a.eval x.2)).toList=parts.toList.map fun x=>(x.1,a.eval x.2):=by simp
     simp only [execOp,ho,Instr.build,Sem.run_bind,zeroValue,typeInfo,run_program,hi,Result.andThen_ok,kj,Sem.run_pure,run_underlying hu,Sw];rw [xV,xJ];rfl
    ·intro r hr;simp only [AV.refs] at hr;refine TX l (fun k b hk=>?_) r hr;have ae:=bE hk;exact (ch k b gO[k] hk (by simp [show k<gO.size from by omega])).2
   ·cases Db
  ·cases h
 ·cases hz
theorem NL {α:Type} (l:List α):∀(n k:Nat),k<n*l.length→(rep n l)[k]?=l[k%l.length]?:=by
 intro n;induction n with
 |zero=>intro k h;simp at h
 |succ n ih=>
  intro k h;rw [zq] at h;simp only [rep,Zb,List.flatten_cons];by_cases hk:k<l.length
  ·rw [zf hk,zU hk]
  ·rw [ze (by omega)];have:=ih (k-l.length) (by omega);simp only [rep] at this;rw [this];congr 1;rw [Nat.mod_eq_sub_mod (a:=k) (by omega)]
theorem UE (R:Rel w0 cl0 S a.tmps w g) {sz bytes:Nat} {z:List D} {x:PX} {op:Op} {av:AV} {rt:Option Rt} {m':Ms} (hn:(S.ms d).1=none)
 (hc:bf P κ (.lY sz bytes z x) op=true) (h:ay Γ S.ev d S.ms (.lY sz bytes z x)=some (av,rt,m')) (o:Oper) (ho:o.op=op):
 ∃v w',(execOp a.eval o).run P w=.ok (.value v) w'∧eX w0 cl0 S a.tmps d av rt m' v w':=by
 cases op with
 |makeSlice t ol oc=>?_
 |_=>simp [bf] at hc
 simp only [bf] at hc;split at hc
 ·rename_i e he;split at hc
  ·rename_i zl s1 dI iW fa;obtain ⟨i,zv,hi,kj,ki,jD⟩:=sE iW;simp only [zb,decide_eq_true_eq] at hc;obtain ⟨⟨⟨⟨⟨h1,h2⟩,h3⟩,h4⟩,h5⟩,h6⟩:=hc;obtain ⟨hl,hg⟩:=BZ z zl h3;unfold gh at fa;rw [hi] at fa;simp at fa;simp only [ay] at h;split at h
   ·rename_i n nL;split at h
    ·rename_i dA;obtain ⟨h0,hb⟩:=dA;simp at h;obtain ⟨rfl,rfl,rfl⟩:=h;obtain ⟨k1,R4⟩:=sJ (b8 R h4).1 nL;obtain ⟨k2,j6⟩:=sJ (b8 R h5).1 nL
     have hu:P.underlying t=some (.slice e):=by
      unfold hY at he;split at he<;>simp_all
     have cg:i.size=sz:=by rw [←jD,←h1,←ki];simp
     have lN:i.bytes=bytes:=by rw [fa.2,h2]
     have dK:i.bytes*n.toNat≤2^47:=by rw [lN,zp];exact hb
     have sW:(i.bytes:Int)*n≤281474976710656:=by
      have:((i.bytes*n.toNat:Nat):Int)≤2^47:=by exact_mod_cast dK
      rw [Int.natCast_mul,Int.toNat_of_nonneg h0] at this;omega
     have hb4:n.toNat≤2^47:=Zc (Nat.le_mul_of_pos_right _ h6) hb;have dC:=run_make (P:=P) w t e i zv hu hi kj k1 k2 n n h0 (Int.le_refl _) sW (by omega)
     have SF:(execOp a.eval o).run P w=.ok (.value (.slice (some ⟨w.heap.size,0,none⟩) n.toNat n.toNat)) (w.alloc (.cells (madeCells zv.cells (n.toNat*i.size)) e)):=by
      simp only [execOp,ho,R4,j6,Sem.run_bind,dC,Result.andThen_ok,Sem.run_pure]
     refine ⟨_,_,SF,?_⟩
     have jA:=M1 (d:=d) (a:=a) R hn (w':=w.alloc (.cells (madeCells zv.cells (n.toNat*i.size)) e)) (sz:=sz) (cap:=n.toNat) (es:=zj n.toNat z)
      (vals:=madeCells zv.cells (n.toNat*i.size)) (E:=e) (fun b hb=>heap_alloc_old w _ b hb) (by simp) (.alloc _ _) (heap_alloc_new w _)
      (fun l xM=>by rw [List.eq_of_mem_replicate xM];omega) (by simp) (by rw [size_madeCells,cg];exact zm _) (fun q c el dd y fi gW hy=>by
       have hq:=bE fi;simp at hq;rw [zV] at fi;simp [hq] at fi;subst fi;have hcz:=bE gW;have bq:c<zl.length:=by omega
       have RT:q*sz+c<n.toNat*i.size:=by
        have:(q+1)*sz≤n.toNat*sz:=zn _ (by omega);rw [zq] at this;rw [cg];omega
       have Dv:(q*sz+c)%zv.cells.size=c:=by
        rw [jD,cg,zp,Zk,zU (by omega)]
       have rG:zv.cells[c]?=zl[c]?:=by rw [←ki];simp
       rw [zg bq] at rG
       have:y=zl[c]:=by
        simp only [madeCells,Zd,zZ,if_pos RT,zJ,zF] at hy;rw [←hy,Dv];rw [getElem!_def,rG]
       subst this
       exact xe (hg c dd _ gW (by simp [bq])))
     simpa using jA
    ·cases h
   ·cases h
  ·cases hc
 ·cases hc
end
end
section
section
variable {P:Program} {κ:Nat→FuncId} {w0:World} {cl0:dv} {S:St} {w:World} {g:Gh} {a:Act} {Γ:Env} {d:Nat}
theorem Qw {sz:Nat}:∀(ps:List (Nat×PX)) (parts:List (Nat×Operand)) {S:St} {g:Gh} (R:Rel w0 cl0 S a.tmps w g) (l l':List D) (cells:Array Value) (m':Ms),
 sP (fun i=>some (i*sz,sz)) ps parts=true→mD S.ms sz l (ps.map fun x=>(x.1,S.ev x.2))=some (l',m')→l.length=cells.size→
 (∀(k:Nat) (b:D) (x:Value),l[k]?=some b→cells[k]?=some x→Hd w g k b x)→
 ∃g' gO,Rel w0 cl0 { S with ms:=m' } a.tmps w g'∧Instr.fill (fun i=>some (i*sz,sz)) cells (parts.map fun x=>(x.1,a.eval x.2))=some gO∧l'.length=gO.size∧
  (∀(k:Nat) (b:D) (x:Value),l'[k]?=some b→gO[k]?=some x→Hd w g' k b x)∧(∀r,(S.ms r).1=none→(m' r).1=none)∧l'.length=l.length:=by
 intro ps;induction ps with
 |nil=>
  intro parts S g R l l' cells m' hc h hz hg;cases parts with
  |nil=>simp [mD] at h;obtain ⟨rfl,rfl⟩:=h;exact ⟨g,cells,R,by simp [Instr.fill],hz,hg,fun _ h=>h,rfl⟩
  |cons=>simp [sP] at hc
 |cons p ps ih=>
  intro parts S g R l l' cells m' hc h hz hg;obtain ⟨off,x⟩:=p;cases parts with
  |nil=>simp [sP] at hc
  |cons pt parts=>
   obtain ⟨i,ox⟩:=pt;simp only [sP,zb,beq_iff_eq] at hc;obtain ⟨⟨rfl,h2⟩,h3⟩:=hc;simp only [zD,mD] at h;cases h4:fm S.ms (S.ev x).cells with
   |none=>simp [h4] at h
   |some cm=>
    obtain ⟨cs,m1⟩:=cm;simp only [h4] at h;cases h5:pD cs with
    |none=>simp [h5] at h
    |some ds=>
     simp only [h5] at h;split at h
     ·rename_i dA;obtain ⟨hn,hb⟩:=dA;have e:=(b8 R h2).1;obtain ⟨bq,bW⟩:=ux e (MO h4)
      obtain ⟨g1,R1,T1,mN,lb⟩:=BH (S.ev x).cells R (vals:=(a.eval ox).cells.toList) (i*sz) (by simpa using bq)
       (fun k b y hb hy=>bW k b y hb (by simpa using hy)) h4
      obtain ⟨xH,rb⟩:=OH cs h5
      obtain ⟨PM,hf,hs,bL⟩:=K4 (place:=fun i=>some (i*sz,sz)) (cells:=cells) (v:=a.eval ox) (rest:=parts.map fun x=>(x.1,a.eval x.2)) (i:=i) rfl
       (by omega) (by omega)
      have hlen:=Bd (l:=l) (xs:=ds) (o:=i*sz) (by omega)
      obtain ⟨g2,c2,R2,qd,bY,bM,e_,cI⟩:=ih parts (S:={ S with ms:=m1 }) R1 (iL l (i*sz) ds) l' PM m' h3 h (by omega) (fun k b y cF hy=>by
       rw [wI (by omega)] at cF;rw [bL k] at hy;rw [hn] at cF;split at cF
       ·rename_i hk;rw [if_pos hk] at hy;have ae:=bE cF;have dG:cs[k-i*sz]?=some cs[k-i*sz]:=by simp [show k-i*sz<cs.length from by omega]
        have:=OG (lb (k-i*sz) _ y dG (by simpa using hy)) (rb _ _ _ dG cF);rwa [show i*sz+(k-i*sz)=k from by omega] at this
       ·rename_i hk;rw [if_neg hk] at hy
        exact T1.gW (by omega) (hg k b y cF hy))
      exact ⟨g2,c2,R2,by simp only [zD];rw [hf];exact qd,bY,bM,fun r hr=>e_ r (T1.no r hr),by omega⟩
     ·cases h
theorem Kr:∀(n sz:Nat) (l:List D) (i c:Nat) (e:List D),(chunks sz n l)[i]?=some e→i<n∧e=(l.drop (i*sz)).take sz:=by
 intro n;induction n with
 |zero=>intro sz l i c e h;simp [chunks] at h
 |succ n ih=>
  intro sz l i c e h;simp only [chunks] at h;cases i with
  |zero=>simp at h;exact ⟨by omega,by simp [h]⟩
  |succ i=>
   simp only [List.getElem?_cons_succ] at h;obtain ⟨h1,h2⟩:=ih sz _ i c e h;refine ⟨by omega,?_⟩;rw [h2,List.drop_drop];congr 2;rw [zq];omega
theorem Ks:∀(n sz:Nat) (l:List D),(chunks sz n l).length=n:=by
 intro n;induction n with
 |zero=>intros;rfl
 |succ n ih=>intro sz l;simp [chunks,ih]
theorem Uj (R:Rel w0 cl0 S a.tmps w g) {sz n:Nat} {z:List D} {ps:List (Nat×PX)} {op:Op} {av:AV} {rt:Option Rt} {m':Ms} (eC:(m' d).1=none)
 (hc:bf P κ (.ax sz z n ps) op=true) (h:ay Γ S.ev d S.ms (.ax sz z n ps)=some (av,rt,m')) (o:Oper) (ho:o.op=op):
 ∃v w',(execOp a.eval o).run P w=.ok (.value v) w'∧eX w0 cl0 S a.tmps d av rt m' v w':=by
 cases op with
 |buildSlice t n' parts=>?_
 |_=>simp [bf] at hc
 simp only [bf] at hc;split at hc
 ·rename_i e he;split at hc
  ·rename_i zl iW;obtain ⟨i,zv,hi,kj,ki,jD⟩:=sE iW;simp only [zb,decide_eq_true_eq] at hc;obtain ⟨⟨⟨⟨rfl,h2⟩,h3⟩,h4⟩,h5⟩:=hc;obtain ⟨hl,hg⟩:=BZ z _ h4
   have hu:P.underlying t=some (.slice e):=by
    unfold hY at he;split at he<;>simp_all
   have cg:i.size=sz:=by rw [←jD,←h2,←ki];simp
   have ln:(rep n zl).length=n*sz:=by rw [←h2];clear hl hg h4;induction n with
    |zero=>simp [rep]
    |succ n ih=>simp [rep,zq] at *
   simp only [ay] at h;split at h
   ·rename_i l m1 oG;simp at h;obtain ⟨rfl,rfl,rfl⟩:=h
    have SZ:∃zc:Array Value,((n*sz=0∧zc=#[])∨(n*sz≠0∧zc=zv.cells))∧
     ∀k:Nat,k<n*sz→((Zp (n*sz)).map (zc[·%zc.size]!))[k]?=(rep n zl)[k]?:=by
     by_cases hz:n*sz=0
     ·exact ⟨#[],.inl ⟨hz,rfl⟩,fun k hk=>by omega⟩
     ·refine ⟨zv.cells,.inr ⟨hz,rfl⟩,fun k hk=>?_⟩;have qj:0<sz:=zx (fun e=>hz (by rw [e,Nat.mul_zero]));rw [NL zl n k (by rw [h2];exact hk)];have hm:k%zl.length<zl.length:=zT _ (by omega);simp only [Zd,zZ,if_pos hk,zJ]
      have rG:zv.cells[k%zv.cells.size]?=zl[k%zl.length]?:=by
       rw [jD,cg,←h2,←ki];simp
      rw [zg hm] at rG ⊢;rw [getElem!_def,rG]
    obtain ⟨zc,S0,kO⟩:=SZ
    obtain ⟨g1,gO,R1,xJ,mN,kI,e_,cI⟩:=Qw ps parts.toList R z l ((Zp (n*sz)).map (zc[·%zc.size]!)) m1 h5 oG (by simp;omega) (fun k b x hb hx=>by
     have hk:=bE hb;rw [kO k (by omega)] at hx
     exact xe (hg k b x hb hx))
    have xV:(parts.map fun x=>(x.1,a.eval x.2)).toList=parts.toList.map fun x=>(x.1,a.eval x.2):=by simp
    have dC:(execOp a.eval o).run P w=.ok (.value (.slice (some ⟨w.heap.size,0,none⟩) n n)) (w.alloc (.cells gO e)):=by
     have LA:¬(n*sz>2^24):=by omega
     have oU:(sizeOf e).run P w=.ok sz w:=by simp [sizeOf,typeInfo,hi,cg]
     have S5:(zeroValue e).run P w=.ok zv w:=by simp [zeroValue,typeInfo,hi,kj]
     rcases S0 with ⟨h8,rfl⟩|⟨h8,rfl⟩
     ·simp only [execOp,ho,Instr.buildSlice,Sem.run_bind,run_underlying hu,Result.andThen_ok,oU,LA,if_false,if_pos h8,Sem.run_pure];rw [xV,xJ];simp [newRow]
     ·simp only [execOp,ho,Instr.buildSlice,Sem.run_bind,run_underlying hu,Result.andThen_ok,oU,LA,if_false,if_neg h8,Sem.run_pure,S5];rw [xV,xJ];simp [newRow]
    refine ⟨_,_,dC,?_⟩
    have jA:=M1 (S:={ S with ms:=m1 }) (d:=d) (a:=a) R1 eC (w':=w.alloc (.cells gO e)) (sz:=sz) (cap:=n) (es:=chunks sz n l)
     (vals:=gO) (E:=e) (fun b hb=>heap_alloc_old w _ b hb) (by simp) (.alloc _ _) (heap_alloc_new w _) (fun el j5=>by
      obtain ⟨q,hq⟩:=zh.1 j5;obtain ⟨h6,rfl⟩:=Kr n sz l q 0 el hq;have:(q+1)*sz≤n*sz:=zn _ h6;rw [zq] at this
      simp;omega) (by rw [Ks];exact zm _) (by omega) (fun q c el dd y hq hd hy=>by
      obtain ⟨h6,rfl⟩:=Kr n sz l q c el hq;rw [zQ] at hd;split at hd
      ·rw [zu] at hd;exact kI _ dd y hd hy
      ·cases hd)
    rw [Ks] at jA;exact jA
   ·cases h
  ·cases hc
 ·cases hc
def sS:C→Prop
 |.ro _ d=>d≠.dead
 |.own d=>∃sz es,d=.sl sz es
 |.rf ..=>False
theorem Pb {m m':Ms} {av:AV} {c:C} (h:eH m av=some (c,m')):sS c:=by
 unfold eH at h;split at h
 ·cases h
 ·rename_i hd;simp at h;obtain ⟨rfl,rfl⟩:=h;exact fun e=>hd e
 ·simp at h;obtain ⟨rfl,rfl⟩:=h;exact ⟨_,_,rfl⟩
 ·split at h
  ·rename_i ht;simp at h;obtain ⟨rfl,rfl⟩:=h;obtain ⟨sz,es,_,_,rfl,_⟩:=sx ht;exact ⟨_,_,rfl⟩
  ·cases h
 ·split at h
  ·simp at h;obtain ⟨rfl,rfl⟩:=h;exact ⟨_,_,rfl⟩
  ·cases h
 ·cases h
theorem Pd:∀(as:List AV) {m m':Ms} {cs:List C},fm m as=some (cs,m')→∀c∈cs,sS c:=by
 intro as;induction as with
 |nil=>intro m m' cs h;simp [fm] at h;obtain ⟨rfl,rfl⟩:=h;intro c hc;cases hc
 |cons a as ih=>
  intro m m' cs h;simp only [fm] at h;cases h1:eH m a with
  |none=>simp [h1] at h
  |some cm=>
   obtain ⟨c,m1⟩:=cm;simp only [h1] at h;cases h2:fm m1 as with
   |none=>simp [h2] at h
   |some Kt=>
    simp only [h2] at h;simp at h;obtain ⟨rfl,rfl⟩:=h;intro c' qa;rcases List.mem_cons.1 qa with rfl|qa
    ·exact Pb h1
    ·exact ih h2 c' qa
theorem Lv {r j:Nat} {c:C} {x:Value} (h:RC w g r j c x) (hg:sS c):x.oneCell'=true:=by
 cases h with
 |ro k d _ hr=>
  cases hr with
  |dead=>exact absurd rfl hg
  |_=>rfl
 |own d _ ho=>
  obtain ⟨sz,es,rfl⟩:=hg;obtain ⟨b,n,c,rfl⟩:=ho.slice;rfl
 |rf=>exact hg.elim
def Gh.sb (g:Gh) (r j n:Nat) (K:Nat→Bool) (X:Nat→Value):Gh where
 cl:=fun k=>match g.cl k with
  |.own 0 q ρ=>if q<n∧K q=true then .own (r+1) (j+q) ρ else .own 0 q ρ
  |c=>c
 hd:=fun r1 j1 ρ=>if r1=r+1∧j≤j1∧j1<j+n∧K (j1-j)=true then (if ρ=[] then X (j1-j) else g.hd 0 (j1-j) ρ) else g.hd r1 j1 ρ
 bk:=g.bk
theorem Gh.NX {r j n:Nat} {K:Nat→Bool} {X:Nat→Value} {b:Nat} {k:Bool}:(g.sb r j n K X).cl b=kc k↔g.cl b=kc k:=by
 simp only [Gh.sb];cases h:g.cl b with
 |own r1 j1 ρ=>
  cases r1 with
  |zero=>simp only [];split<;>cases k<;>simp [kc]
  |succ r1=>exact .rfl
 |_=>exact .rfl
theorem Gh.VS {r j n:Nat} {K:Nat→Bool} {X:Nat→Value} {b:Nat}:((g.sb r j n K X).cl b).ck=(g.cl b).ck:=by
 simp only [Gh.sb];cases h:g.cl b with
 |own r1 j1 ρ=>
  cases r1 with
  |zero=>simp only [];split<;>rfl
  |succ r1=>rfl
 |_=>rfl
theorem Gh.VT {r j n:Nat} {K:Nat→Bool} {X:Nat→Value} {b:Nat}:(g.sb r j n K X).cl b=.no↔g.cl b=.no:=by
 simp only [Gh.sb];cases h:g.cl b with
 |own r1 j1 ρ=>
  cases r1 with
  |zero=>simp only [];split<;>simp
  |succ r1=>simp
 |_=>simp
theorem T6:∀(q j:Nat) (os ns:List C) (o n:C),os[q]?=some o→ns[q]?=some n→(o.bF&&n.bF)=false→(j+q,[])∈lW j os ns:=by
 intro q;induction q with
 |zero=>
  intro j os ns o n ho hn hk;cases os with
  |nil=>simp at ho
  |cons o' os=>
   cases ns with
   |nil=>simp at hn
   |cons n' ns=>
    simp at ho hn;subst ho;subst hn;simp only [lW];rw [if_neg (by rw [hk];simp)];simp
 |succ q ih=>
  intro j os ns o n ho hn hk;cases os with
  |nil=>simp at ho
  |cons o' os=>
   cases ns with
   |nil=>simp at hn
   |cons n' ns=>
    simp at ho hn;have:=ih (j+1) os ns o n ho hn hk;rw [show j+(q+1)=j+1+q from by omega];simp only [lW];split
    ·exact this
    ·exact zK _ this
theorem D5 {m:Ms} {r j:Nat} {k p:aY} (h:(j,k)∈(m r).2) (ht:jM k p=true):m.b_ r j p=true:=by
 simp only [Ms.b_,Zi];exact ⟨(j,k),h,by simp [ht]⟩
theorem W4 (p:aY):jM [] p=true:=by cases p<;>rfl
def CK:C→Prop
 |.ro _ _=>True
 |.own d=>∃sz es,d=.sl sz es
 |.rf ..=>False
theorem Of (R:Rel w0 cl0 S a.tmps w g) {r j:Nat} {cs0 cs:List C} {vals:List Value} {kl:List (Nat×aY)} (hm:S.ms r=(some (.bx cs0),kl)) (hb:j+cs.length≤cs0.length)
 (j8:vals.length=cs.length) (qe:∀c∈cs,CK c) (nN:∀x∈vals,x.oneCell'=true) (hh:∀(i:Nat) (c:C) (x:Value),cs[i]?=some c→vals[i]?=some x→RC w g 0 i c x):
 ∃w' g',(storeCells ⟨g.bk r,j,none⟩ vals 0).run P w=.ok () w'∧
  Rel w0 cl0 { S with ms:=az S.ms r (some (.bx (iL cs0 j cs)),lW j (cs0.drop j) cs++kl) } a.tmps w' g':=by
 have cj:=R.rt r (.bx cs0) (by rw [hm]);obtain ⟨bq,aal,E,hw,hs,dF⟩:=cj;obtain ⟨w',eO,dC,ey,xW,bL,qh,oU,dL⟩:=Jt P hw vals (o:=j) (by omega) nN
 let K:Nat→Bool:=fun q=>!(((cs0.drop j).getD q (.own .dead)).bF&&(cs.getD q (.own .dead)).bF)
 have R6:∀q,q<cs.length→K q=true→∀ρ,Ms.b_ (az S.ms r (some (.bx (iL cs0 j cs)),lW j (cs0.drop j) cs++(S.ms r).2)) r (j+q) ρ=true:=by
  intro q hq hK ρ;refine D5 (k:=[]) ?_ (W4 _);simp only [g_];refine zw.2 (.inl ?_)
  have h1:(cs0.drop j)[q]?=some ((cs0.drop j).getD q (.own .dead)):=by
   have:q<(cs0.drop j).length:=by simp;omega
   simp only [zy,zg this];rfl
  have h2:cs[q]?=some (cs.getD q (.own .dead)):=by
   simp only [zy,zg hq];rfl
  refine T6 q j _ _ _ _ h1 h2 ?_;simp only [K] at hK;revert hK;generalize (((cs0.drop j).getD q (.own .dead)).bF&&(cs.getD q (.own .dead)).bF)=b;cases b<;>simp
 have c_:∀b k,g.cl b=kc k→w'.heap[b]?=w.heap[b]?∧(g.sb r j cs.length K (fun q=>vals.getD q undef)).cl b=kc k:=fun b k h=>
  ⟨qh b (fun e=>by subst e;rw [bq] at h;cases k<;>simp [kc] at h),Gh.NX.2 h⟩
 have oP:∀b n j1 ρ,g.cl b=.own n j1 ρ→w'.heap[b]?=w.heap[b]?:=fun b n j1 ρ h=>qh b (fun e=>by subst e;rw [bq] at h;cases h)
 have hlen:=Bd (l:=cs0) (xs:=cs) (o:=j) hb;refine ⟨w',g.sb r j cs.length K (fun q=>vals.getD q undef),dC,?_⟩;have lP:(lW j (cs0.drop j) cs++kl)=lW j (cs0.drop j) cs++(S.ms r).2:=by rw [hm]
 rw [lP];refine R.Kn (b0:=g.bk r) (rt:=.bx cs0) (rt':=.bx (iL cs0 j cs)) (by rw [hm]) rfl ?_ ?_ ?_
 ·refine { hp:=qh,hs:=oU,ow:=.inl bq,kc:=fun b k=>Gh.NX,cl:=fun b n j1 ρ h=>by simp [Gh.sb,h],bx:=fun b n h=>by simp [Gh.sb,h],
           hd:=fun n j1 ρ hn=>by simp [Gh.sb,hn],hr:=fun j1 ρ hk=>?_,hv:=fun _ h=>by simp [Rt.rI] at h,bk:=rfl,bd:=fun b h=>by rwa [ne_eq,Gh.VT] at h,
           mi:=fun b h=>by rwa [Gh.VS] at h,sd:=dL }
  simp only [Gh.sb];split
  ·rename_i hc;obtain ⟨_,h1,h2,h3⟩:=hc;have:=R6 (j1-j) (by omega) h3 ρ;rw [show j+(j1-j)=j1 from by omega] at this;rw [this] at hk;cases hk
  ·rfl
 ·refine ⟨by simp [Gh.sb,bq],eO,E,ey,by omega,fun k c x hc hx=>?_⟩;rw [wI hb] at hc;rw [bL k,j8] at hx;split at hc
  ·rename_i hk;rw [if_pos hk] at hx;have nO:=hh (k-j) c x hc hx;have hg:=qe c (za hc);cases nO with
   |ro kk dd _ hr=>exact .ro _ _ _ (hr.mono fun b hb=>c_ b kk hb)
   |own dd _ ho=>
    obtain ⟨sz,es,rfl⟩:=hg
    have hK:K (k-j)=true:=by
     simp only [K,zy,hc];simp [C.bF]
    refine .own _ _ (ho.mono (fun b ρ hb=>⟨oP b _ _ _ hb,?_⟩) (fun ρ=>?_))
    ·simp only [Gh.sb,hb,zt];rw [if_pos ⟨by omega,hK⟩,show j+(k-j)=k from by omega]
    ·simp only [Gh.sb,zt];rw [if_pos ⟨trivial,hk.1,hk.2,hK⟩];split
     ·rename_i e;subst e;rw [←ho.iR];simp [zy,hx]
     ·rfl
   |rf=>exact hg.elim
  ·rename_i hk;rw [if_neg hk] at hx;refine (dF k c x hc hx).mono c_ (fun b ρ hb=>⟨oP b _ _ _ hb,by simp [Gh.sb,hb]⟩) (fun ρ=>?_) (fun r1 j1 e=>?_)
   ·simp only [Gh.sb];rw [if_neg (by omega)]
   ·subst e;obtain ⟨csv,hv⟩:=R.eA r (.bx cs0) k r1 j1 (by rw [hm]) hc;have:r1≠r:=fun e=>by subst e;rw [hm] at hv;cases hv
    simp [Gh.sb,this]
 ·intro k r1 j1 hc;simp only [Rt.cells] at hc;rw [wI hb] at hc;split at hc
  ·exact (qe _ (za hc)).elim
  ·exact R.eA r (.bx cs0) k r1 j1 (by rw [hm]) hc
theorem QU {c:C} (h:sS c):CK c:=by
 cases c with
 |ro k d=>trivial
 |own d=>exact h
 |rf=>exact h.elim
theorem Wl (R:Rel w0 cl0 S a.tmps w g) {r j:Nat} {cs0 cs:List C} {vals:List Value} {kl:List (Nat×aY)} (hm:S.ms r=(some (.bx cs0),kl)) (hb:j+cs.length≤cs0.length)
 (j8:vals.length=cs.length) (qe:∀c∈cs,sS c) (hh:∀(i:Nat) (c:C) (x:Value),cs[i]?=some c→vals[i]?=some x→RC w g 0 i c x):
 ∃w' g',(storeCells ⟨g.bk r,j,none⟩ vals 0).run P w=.ok () w'∧
  Rel w0 cl0 { S with ms:=az S.ms r (some (.bx (iL cs0 j cs)),lW j (cs0.drop j) cs++kl) } a.tmps w' g':=by
 refine Of R hm hb j8 (fun c hc=>QU (qe c hc)) (fun x hx=>?_) hh;obtain ⟨i,hi⟩:=zh.1 hx;have ae:=bE hi;have qb:cs[i]?=some cs[i]:=by simp [show i<cs.length from by omega]
 exact Lv (hh i _ x qb hi) (qe _ (za qb))
end
end
section
section
variable {P:Program} {κ:Nat→FuncId} {w0:World} {cl0:dv} {S:St} {w:World} {g:Gh} {a:Act} {Γ:Env} {d:Nat}
def Gh.so (g:Gh) (r j:Nat) (p:aY) (i c n:Nat) (K:Nat→Bool) (X:Nat→Value):Gh where
 cl:=fun k=>match g.cl k with
  |.own 0 q ρ=>if q<n∧K q=true then .own (r+1) j (p++(i,c+q)::ρ) else .own 0 q ρ
  |c=>c
 hd:=fun r1 j1 qI=>match qI.drop p.length with
  |(i',c')::ρ=>if r1=r+1∧j1=j∧p <+: qI∧i'=i∧c≤c'∧c'<c+n∧K (c'-c)=true then (if ρ=[] then X (c'-c) else g.hd 0 (c'-c) ρ) else g.hd r1 j1 qI
  |[]=>g.hd r1 j1 qI
 bk:=g.bk
section
variable {r j i c n:Nat} {p:aY} {K:Nat→Bool} {X:Nat→Value}
theorem Gh.N3 {b:Nat} {k:Bool}:(g.so r j p i c n K X).cl b=kc k↔g.cl b=kc k:=by
 simp only [Gh.so];cases h:g.cl b with
 |own r1 j1 ρ=>
  cases r1 with
  |zero=>simp only [];split<;>cases k<;>simp [kc]
  |succ r1=>exact .rfl
 |_=>exact .rfl
theorem Gh.V2 {b:Nat}:((g.so r j p i c n K X).cl b).ck=(g.cl b).ck:=by
 simp only [Gh.so];cases h:g.cl b with
 |own r1 j1 ρ=>
  cases r1 with
  |zero=>simp only [];split<;>rfl
  |succ r1=>rfl
 |_=>rfl
theorem Gh.V3 {b:Nat}:(g.so r j p i c n K X).cl b=.no↔g.cl b=.no:=by
 simp only [Gh.so];cases h:g.cl b with
 |own r1 j1 ρ=>
  cases r1 with
  |zero=>simp only [];split<;>simp
  |succ r1=>simp
 |_=>simp
theorem Gh.sv {r1 j1:Nat} {qI:aY} (h:¬(r1=r+1∧j1=j∧∃q ρ,qI=p++(i,c+q)::ρ∧q<n∧K q=true)):(g.so r j p i c n K X).hd r1 j1 qI=g.hd r1 j1 qI:=by
 simp only [Gh.so];split
 ·rename_i i' c' ρ hd;split
  ·rename_i hc;obtain ⟨h1,h2,h3,h4,h5,h6,h7⟩:=hc;exfalso;refine h ⟨h1,h2,c'-c,ρ,?_,by omega,h7⟩;obtain ⟨t,rfl⟩:=h3;simp at hd;rw [hd,h4,show c+(c'-c)=c' from by omega]
  ·rfl
 ·rfl
theorem Gh.N2 {q:Nat} {ρ:aY} (hq:q<n) (hK:K q=true):(g.so r j p i c n K X).hd (r+1) j (p++(i,c+q)::ρ)=if ρ=[] then X q else g.hd 0 q ρ:=by
 simp only [Gh.so,List.drop_left];rw [if_pos ⟨trivial,trivial,Ze _ _,trivial,by omega,by omega,by rw [show c+q-c=q from by omega];exact hK⟩,show c+q-c=q from by omega]
end
theorem W0:∀(p k q:aY),jM (p++k) (p++q)=jM k q:=by
 intro p;induction p with
 |nil=>intros;rfl
 |cons s p ih=>intro k q;obtain ⟨i,c⟩:=s;simp [jM,ih]
theorem T7:∀(q j:Nat) (p:aY) (i c:Nat) (os ns:List D) (o n:D),os[q]?=some o→ns[q]?=some n→(o.bF&&n.bF)=false→(j,p++[(i,c+q)])∈lu j p i c os ns:=by
 intro q;induction q with
 |zero=>
  intro j p i c os ns o n ho hn hk;cases os with
  |nil=>simp at ho
  |cons o' os=>
   cases ns with
   |nil=>simp at hn
   |cons n' ns=>
    simp at ho hn;subst ho;subst hn;simp only [lu];rw [if_neg (by rw [hk];simp)];simp
 |succ q ih=>
  intro j p i c os ns o n ho hn hk;cases os with
  |nil=>simp at ho
  |cons o' os=>
   cases ns with
   |nil=>simp at hn
   |cons n' ns=>
    simp at ho hn;have:=ih j p i (c+1) os ns o n ho hn hk;rw [show c+(q+1)=c+1+q from by omega];simp only [lu];split
    ·exact this
    ·exact zK _ this
theorem S6 {i i' c' c n sz:Nat} (h:i'≠i) (qa:c'<sz) (hc:c+n≤sz):¬(i*sz+c≤i'*sz+c'∧i'*sz+c'<i*sz+c+n):=by
 rcases zL i' i with h1|h1
 ·have:(i'+1)*sz≤i*sz:=zn _ h1;rw [zq] at this;omega
 ·have:(i+1)*sz≤i'*sz:=zn _ (by omega);rw [zq] at this;omega
theorem Jb {m m':Ms} {r j:Nat} {p:aY} {x:D} {kl:List (Nat×aY)} (h:m.putAt r j p x kl=some m'):
 ∃rt d0,(m r).1=some rt∧rt.cells[j]?=some (.own d0)∧m'=az m r (some (rt.gG j (.own (d0.put p x))),kl++(m r).2):=by
 unfold Ms.putAt at h;split at h
 ·rename_i rt cj;split at h
  ·rename_i d0 iA;simp at h;exact ⟨rt,d0,cj,iA,h.symm⟩
  ·cases h
 ·cases h
theorem Oj (R:Rel w0 cl0 S a.tmps w g) {r j sz i c b1 o1:Nat} {p:aY} {es:List (List D)} {e:List D} {ds:List D} {vals:List Value} {m':Ms}
 (jB:Value.pointer (some ⟨b1,o1,none⟩)=qN (g.hd (r+1) j p) (i*sz+c)) (bI:S.ms.at r j p=some (.sl sz es)) (he:es[i]?=some e) (hb:c+ds.length≤e.length)
 (hm:S.ms.putAt r j p (.sl sz (es.set i (iL e c ds))) (lu j p i c (e.drop c) ds)=some m')
 (j8:vals.length=ds.length) (nN:∀x∈vals,x.oneCell'=true) (hh:∀(q:Nat) (d:D) (x:Value),ds[q]?=some d→vals[q]?=some x→Hd w g q d x):
 ∃w' g',(storeCells ⟨b1,o1,none⟩ vals 0).run P w=.ok () w'∧Rel w0 cl0 { S with ms:=m' } a.tmps w' g':=by
 obtain ⟨rt,d0,cj,iA,rfl⟩:=Jb hm
 have Ry:d0.fO p=some (.sl sz es):=by
  obtain ⟨_,rt2,d2,h1,h2,h3⟩:=gl bI;rw [cj] at h1;cases h1;rw [iA] at h2;cases h2;exact h3
 obtain ⟨x0,ho⟩:=R.at bI;have iE:=ho.iR;subst iE;generalize gX:g.hd (r+1) j p=v0 at ho jB;cases ho with
 |nil=>simp at he
 |sl _ _ _ b off cap aal E cq bq hl cz hw hN gY=>
  simp only [qN,Value.pointer.injEq,zF,Addr.mk.injEq] at jB;obtain ⟨rfl,rfl,_⟩:=jB;have j5:=jY hl he;have xK:=bE he;have RR:(i+1)*sz≤cap*sz:=zn _ (by omega);rw [zq] at RR;obtain ⟨w',eO,dC,ey,xW,bL,qh,oU,dL⟩:=Jt P hw vals (o:=off+(i*sz+c)) (by omega) nN
  let K:Nat→Bool:=fun q=>!(((e.drop c).getD q .dead).bF&&(ds.getD q .dead).bF)
  let X:Nat→Value:=fun q=>vals.getD q undef
  have R9:∀q,q<ds.length→K q=true→∀ρ,Ms.b_ (az S.ms r (some (rt.gG j (.own (d0.put p (.sl sz (es.set i (iL e c ds)))))),lu j p i c (e.drop c) ds++(S.ms r).2)) r j (p++(i,c+q)::ρ)=true:=by
   intro q hq hK ρ;refine D5 (k:=p++[(i,c+q)]) ?_ (by rw [W0];simp [jM]);simp only [g_];refine zw.2 (.inl ?_)
   have h1:(e.drop c)[q]?=some ((e.drop c).getD q .dead):=by
    have:q<(e.drop c).length:=by simp;omega
    simp only [zy,zg this];rfl
   have h2:ds[q]?=some (ds.getD q .dead):=by
    simp only [zy,zg hq];rfl
   refine T7 q j p i c _ _ _ _ h1 h2 ?_;simp only [K] at hK;revert hK;generalize (((e.drop c).getD q .dead).bF&&(ds.getD q .dead).bF)=b;cases b<;>simp
  have bm:∀b',g.cl b'≠.own (r+1) j p→w'.heap[b']?=w.heap[b']?:=fun b' h=>qh b' (fun e=>by subst e;exact h bq)
  have c_:∀b k,g.cl b=kc k→w'.heap[b]?=w.heap[b]?∧(g.so r j p i c ds.length K X).cl b=kc k:=fun b k h=>
   ⟨bm b (by rw [h];exact TC),Gh.N3.2 h⟩
  have uR:∀b n j1 ρ,g.cl b=.own (n+1) j1 ρ→(g.so r j p i c ds.length K X).cl b=.own (n+1) j1 ρ:=fun b n j1 ρ h=>by simp [Gh.so,h]
  have ta:∀n j1,(g.so r j p i c ds.length K X).hd n j1 []=g.hd n j1 []:=fun n j1=>Gh.sv (by simp)
  refine ⟨w',g.so r j p i c ds.length K X,dC,?_⟩;refine R.Kn (b0:=b1) (rt:=rt) cj (by cases rt<;>rfl) ?_ ?_ (fun k r1 j1 hc=>?_)
  ·refine { hp:=qh,hs:=oU,ow:=.inr ⟨j,p,bq⟩,kc:=fun b k=>Gh.N3,cl:=uR,bx:=fun b n h=>by simp [Gh.so,h],
            hd:=fun n j1 ρ hn=>Gh.sv (by simp [hn]),hr:=fun j1 ρ hk=>?_,hv:=fun j1 _=>ta _ _,bk:=rfl,bd:=fun b h=>by rwa [ne_eq,Gh.V3] at h,
            mi:=fun b h=>by rwa [Gh.V2] at h,sd:=dL }
   refine Gh.sv (fun hc=>?_);obtain ⟨_,rfl,q,lA,rfl,hq,hK⟩:=hc;rw [R9 q hq hK lA] at hk;cases hk
  ·refine (R.rt r rt cj).put iA Ry c_ (fun b' j1 ρ h1 h2=>⟨bm b' (fun e=>?_),uR _ _ _ _ h1⟩) (fun cs cC=>⟨rfl,bm _ (fun e=>?_),?_⟩)
    (fun j1 ρ h1=>Gh.sv (fun hc=>?_)) (fun _ _=>ta _ _) (fun _ _ _ _=>ta _ _) (fun x hx=>?_)
   ·rw [h1] at e;cases e;exact h2 ⟨rfl,List.prefix_refl _⟩
   ·have h5:=R.rt r rt cj;subst cC;rw [h5.1] at e;cases e
   ·have h5:=R.rt r rt cj;subst cC;simp [Gh.so,h5.1]
   ·obtain ⟨_,rfl,q,lA,rfl,_⟩:=hc;exact h1 ⟨rfl,Ze _ _⟩
   ·
    have ib:=hx.iR;rw [gX] at ib;subst ib;have hlen:(es.set i (iL e c ds)).length=es.length:=by simp
    have iD:=Bd (l:=e) (xs:=ds) (o:=c) hb;rw [←hlen];refine .sl p sz _ b1 off cap eO E ?_ (uR _ _ _ _ bq) ?_ (by rw [hlen];exact cz) ey (by omega) ?_
    ·rw [hlen,←gX]
     exact Gh.sv (fun hc=>by
      obtain ⟨_,_,q,lA,h,_⟩:=hc;have:=congrArg List.length h
      simp at this)
    ·intro e' fi;rcases List.mem_or_eq_of_mem_set fi with h|h
     ·exact hl _ h
     ·subst h;omega
    ·intro i' c' e' d' x fi gW hx;rw [bL] at hx;by_cases hi:i'=i
     ·subst hi;rw [zB xK] at fi;cases fi;rw [wI hb] at gW;split at gW
      ·rename_i dG;rw [if_pos (by omega)] at hx
       have fH:vals[c'-c]?=some x:=by
        rw [←hx];congr 1;omega
       have LN:=hh (c'-c) d' x gW fH;by_cases hK:K (c'-c)=true
       ·refine LN.place (fun b' ρ cF=>⟨bm b' (by rw [cF];simp),?_⟩) (fun ρ g7=>?_) ?_
        ·simp only [Gh.so,cF];rw [if_pos ⟨by omega,hK⟩,show c+(c'-c)=c' from by omega];simp
        ·have:=Gh.N2 (g:=g) (r:=r) (j:=j) (p:=p) (i:=i') (c:=c) (X:=X) (ρ:=ρ) (show c'-c<ds.length by omega) hK;rw [show c+(c'-c)=c' from by omega] at this;simp only [zR,List.singleton_append];rw [this,if_neg g7]
        ·have:=Gh.N2 (g:=g) (r:=r) (j:=j) (p:=p) (i:=i') (c:=c) (X:=X) (ρ:=[]) (show c'-c<ds.length by omega) hK;rw [show c+(c'-c)=c' from by omega] at this;rw [this,if_pos rfl];simp [X,zy,fH]
       ·refine LN.scalar ?_;have:(ds.getD (c'-c) .dead)=d':=by simp [zy,gW]
        simp only [K,this] at hK;cases iB:d'.bF
        ·simp [iB] at hK
        ·rfl
      ·rename_i dG;rw [if_neg (by omega)] at hx;refine (gY i' c' e d' x he gW hx).mono (fun b' ρ cF=>⟨bm b' (fun e=>?_),uR _ _ _ _ cF⟩) (fun ρ=>Gh.sv (fun hc=>?_))
       ·rw [cF] at e;simp at e
       ·obtain ⟨_,_,q,lA,h,hq,_⟩:=hc;simp at h;omega
     ·rw [z_ (by omega)] at fi;have cC:c'<sz:=by have:=jY hl fi;have:=bE gW;omega
      have xR:=S6 (n:=ds.length) (c:=c) hi cC (by omega);rw [if_neg (by omega)] at hx;refine (gY i' c' e' d' x fi gW hx).mono (fun b' ρ cF=>⟨bm b' (fun e=>?_),uR _ _ _ _ cF⟩) (fun ρ=>Gh.sv (fun hc=>?_))
      ·rw [cF] at e;simp at e
      ·obtain ⟨_,_,q,lA,h,hq,_⟩:=hc;simp at h;omega
  ·rw [Km] at hc;by_cases e:k=j
   ·subst e;rw [zB (bE iA)] at hc;cases hc
   ·rw [z_ (by omega)] at hc;exact R.eA r rt k r1 j1 cj hc
theorem D.abR {c:C} {d:D} (hg:sS c) (h:c.nr=some d):d≠.dead:=by
 cases c with
 |ro k d0=>simp only [C.nr] at h;split at h<;>simp at h;subst h;exact hg
 |own d0=>simp [C.nr] at h;subst h;obtain ⟨_,_,rfl⟩:=hg;simp
 |rf=>exact hg.elim
theorem Jk {t:TypeId} {n b o:Nat} {v:Value} {w':World} (hs:∃dI,gh P t=some (n,dI)) (hv:v.cells.size=n)
 (h:(storeCells ⟨b,o,none⟩ v.cells.toList 0).run P w=.ok () w'):(Instr.storeAt t (.pointer (some ⟨b,o,none⟩)) v).run P w=.ok () w':=by
 obtain ⟨dI,hs⟩:=hs;unfold gh at hs;split at hs
 ·rename_i i hi;simp at hs;have cg:(sizeOf t).run P w=.ok v.cells.size w:=by simp [sizeOf,typeInfo,hi,hs.1,hv]
  simp only [Instr.storeAt,Sem.run_bind,Instr.sureAddr,Sem.run_pure,Result.andThen_ok,storeVar,cg,ne_eq,not_true,if_false];exact h
 ·cases hs
theorem UN (R:Rel w0 cl0 S a.tmps w g) {n:Nat} {x y:PX} {op:Op} {av:AV} {rt:Option Rt} {m':Ms}
 (hc:bf P κ (.st n x y) op=true) (h:ay Γ S.ev d S.ms (.st n x y)=some (av,rt,m')) (o:Oper) (ho:o.op=op):
 rt=none∧∃w' g',(execOp a.eval o).run P w=.ok .skip w'∧Rel w0 cl0 { S with ms:=m' } a.tmps w' g':=by
 cases op with
 |store t oa ob=>?_
 |_=>simp [bf] at hc
 simp only [bf] at hc;split at hc
 ·rename_i n' dI hs;simp only [zb,beq_iff_eq] at hc;obtain ⟨⟨rfl,h1⟩,h2⟩:=hc;have e2:=(b8 R h2).1;simp only [ay] at h;split at h
  ·rename_i cs m1 sT;split at h
   ·rename_i hn;split at h
    ·rename_i m2 bQ;simp at h;obtain ⟨rfl,rfl,rfl⟩:=h;refine ⟨rfl,?_⟩;obtain ⟨bq,bW⟩:=ux e2 (MO sT)
     obtain ⟨g1,R1,T1,mN,kI⟩:=BH (S.ev y).cells R (vals:=(a.eval ob).cells.toList) 0 (by simpa using bq)
      (fun k b z hb hz=>bW k b z hb (by simpa using hz)) sT
     have qe:=Pd _ sT;have e1:=(b8 R1 h1).1;have cg:(a.eval ob).cells.size=n:=by omega
     generalize hv:a.eval oa=v at e1;have bJ:({ S with ms:=m1 }:St).ev x=S.ev x:=by cases x<;>rfl
     rw [bJ] at e1;cases hx:S.ev x with
     |bx r j=>
      rw [hx] at e1 bQ;cases e1 with
      |bx=>
       simp only [kU] at bQ;cases hm:m1 r with
       |mk jK kl=>
        cases jK with
        |none=>simp [hm] at bQ
        |some cw=>
         cases cw with
         |an=>simp [hm] at bQ
         |bx cs0=>
          simp only [hm] at bQ;split at bQ
          ·rename_i hb;simp at bQ;subst bQ
           obtain ⟨w',g',dC,R2⟩:=Wl (P:=P) (a:=a) R1 (r:=r) (j:=j) (cs0:=cs0) (cs:=cs) (vals:=(a.eval ob).cells.toList) (kl:=kl) hm hb (by simp;omega) qe
            (fun i c z hc hz=>by simpa using kI i c z hc hz)
           refine ⟨w',g',?_,R2⟩;have:=Jk (P:=P) (t:=t) (v:=a.eval ob) ⟨_,hs⟩ cg dC;simp only [execOp,ho,hv,Sem.run_bind,this,Result.andThen_ok,Sem.run_pure]
          ·cases bQ
     |ad r j p sz i c=>
      rw [hx] at e1 bQ;simp only [kU] at bQ;split at bQ
      ·rename_i ds iB;split at bQ
       ·rename_i ec es bI;split at bQ
        ·rename_i e he;split at bQ
         ·rename_i hb;obtain ⟨hb,rfl⟩:=hb;obtain ⟨xH,rb⟩:=OH cs iB;cases e1 with
          |ad _ _ _ _ _ _ b1 o1 jB=>
           have hk:m1.b_ r j p=false:=(gl bI).1
           obtain ⟨w',g',dC,R2⟩:=Oj (P:=P) (a:=a) R1 (vals:=(a.eval ob).cells.toList) (jB hk) bI he hb bQ (by simp;omega)
            (fun z hz=>by
             obtain ⟨q,hq⟩:=zh.1 hz;have ae:=bE hq;simp at ae;have uS:cs[q]?=some cs[q]:=by simp [show q<cs.length from by omega]
             exact Lv (by simpa using kI q _ z uS hq) (qe _ (za uS)))
            (fun q d z hd hz=>by
             have ae:=bE hd;have uS:cs[q]?=some cs[q]:=by simp [show q<cs.length from by omega]
             exact OG (by simpa using kI q _ z uS hz) (rb q _ d uS hd))
           refine ⟨w',g',?_,R2⟩;have:=Jk (P:=P) (t:=t) (v:=a.eval ob) ⟨_,hs⟩ cg dC;simp only [execOp,ho,hv,Sem.run_bind,this,Result.andThen_ok,Sem.run_pure]
         ·cases bQ
        ·cases bQ
       ·cases bQ
      ·cases bQ
     |_=>rw [hx] at bQ;simp [kU] at bQ
    ·cases h
   ·cases h
  ·cases h
 ·cases hc
theorem Cl {w:World} {g:Gh} {m:Ms} {a:AV} {c:C} {x:Value} {q:Nat} (ha:RA w g m a x) (h:oB a=some c):RC w g 0 q c x∧CK c∧x.oneCell'=true:=by
 unfold oB at h;split at h
 ·cases h
 ·rename_i k d hd;simp at h;subst h;cases ha with
  |v _ _ _ hr=>exact ⟨.ro _ _ _ hr,trivial,by cases hr<;>first|rfl|exact absurd rfl hd⟩
 ·simp at h;subst h;cases ha with
  |nl=>exact ⟨.ro _ _ _ (.dead _),trivial,rfl⟩
 ·simp at h;subst h;cases ha with
  |pl=>exact ⟨.ro _ _ _ (.dead _),trivial,rfl⟩
 ·simp at h;subst h;cases ha with
  |rg=>exact ⟨.ro _ _ _ (.dead _),trivial,rfl⟩
 ·cases h
theorem Qb:∀(as:List AV) {cs:List C},mB as=some cs→cs.length=as.length∧∀(i:Nat) (c:C),cs[i]?=some c→∃a,as[i]?=some a∧oB a=some c:=by
 intro as;induction as with
 |nil=>intro cs h;simp [mB] at h;subst h;exact ⟨rfl,fun i c hc=>by simp at hc⟩
 |cons a as ih=>
  intro cs h;simp only [mB] at h;cases h1:oB a with
  |none=>simp [h1] at h
  |some c=>
   simp only [h1] at h;cases h2:mB as with
   |none=>simp [h2] at h
   |some jt=>
    simp only [h2] at h;simp at h;subst h;obtain ⟨hl,hg⟩:=ih h2;refine ⟨by simp [hl],fun i c1 hc=>?_⟩;cases i with
    |zero=>simp at hc;subst hc;exact ⟨a,rfl,h1⟩
    |succ i=>simpa using hg i c1 (by simpa using hc)
theorem Th {av:AV} {cs:List C} (h:mB av.cells=some cs):av.isVal=true:=by
 cases av with
 |un=>simp [AV.cells,mB,oB] at h
 |a_=>simp [AV.cells,mB,oB] at h
 |v k d=>cases d<;>first|rfl|(simp [AV.cells,mB,oB] at h)
 |_=>rfl
theorem UO (R:Rel w0 cl0 S a.tmps w g) {n:Nat} {x y:PX} {op:Op} {av:AV} {rt:Option Rt} {m':Ms}
 (hc:bf P κ (.n7 n x y) op=true) (h:ay Γ S.ev d S.ms (.n7 n x y)=some (av,rt,m')) (o:Oper) (ho:o.op=op):
 rt=none∧∃w' g',(execOp a.eval o).run P w=.ok .skip w'∧Rel w0 cl0 { S with ms:=m' } a.tmps w' g':=by
 cases op with
 |store t oa ob=>?_
 |_=>simp [bf] at hc
 simp only [bf] at hc;split at hc
 ·rename_i n' dI hs;simp only [zb,beq_iff_eq] at hc;obtain ⟨⟨rfl,h1⟩,h2⟩:=hc;have e2:=(b8 R h2).1;have e1:=(b8 R h1).1;simp only [ay] at h;split at h
  ·rename_i cs sT;split at h
   ·rename_i hn;split at h
    ·rename_i m2 bQ;simp at h;obtain ⟨rfl,rfl,rfl⟩:=h;refine ⟨rfl,?_⟩;obtain ⟨bq,bW⟩:=ux e2 (Th sT);obtain ⟨xH,rb⟩:=Qb _ sT;have cg:(a.eval ob).cells.size=n:=by omega
     generalize hv:a.eval oa=v at e1;cases hx:S.ev x with
     |bx r j=>
      rw [hx] at e1 bQ;cases e1 with
      |bx=>
       simp only [sw,kU] at bQ;cases hm:S.ms r with
       |mk jK kl=>
        cases jK with
        |none=>simp [hm] at bQ
        |some cw=>
         cases cw with
         |an=>simp [hm] at bQ
         |bx cs0=>
          simp only [hm] at bQ;split at bQ
          ·rename_i hb;simp at bQ;subst bQ
           obtain ⟨w',g',dC,R2⟩:=Of (P:=P) (a:=a) R (r:=r) (j:=j) (cs0:=cs0) (cs:=cs) (vals:=(a.eval ob).cells.toList) (kl:=kl) hm hb (by simp;omega)
            (fun c hc=>by
             obtain ⟨i,hi⟩:=zh.1 hc;obtain ⟨b,dh,dK⟩:=rb i c hi;have ae:=bE dh;have hz:(a.eval ob).cells[i]?=some (a.eval ob).cells[i]:=by simp [show i<(a.eval ob).cells.size from by omega]
             exact (Cl (q:=i) (bW i b _ dh hz) dK).2.1)
            (fun z hz=>by
             obtain ⟨i,hi⟩:=zh.1 hz;have ae:=bE hi;simp at ae;have qb:cs[i]?=some cs[i]:=by simp [show i<cs.length from by omega]
             obtain ⟨b,dh,dK⟩:=rb i _ qb
             exact (Cl (q:=i) (bW i b z dh (by simpa using hi)) dK).2.2)
            (fun i c z hc hz=>by
             obtain ⟨b,dh,dK⟩:=rb i c hc
             exact (Cl (q:=i) (bW i b z dh (by simpa using hz)) dK).1)
           refine ⟨w',g',?_,R2⟩;have:=Jk (P:=P) (t:=t) (v:=a.eval ob) ⟨_,hs⟩ cg dC;simp only [execOp,ho,hv,Sem.run_bind,this,Result.andThen_ok,Sem.run_pure]
          ·cases bQ
     |_=>rw [hx] at bQ;simp [sw] at bQ
    ·cases h
   ·cases h
  ·cases h
 ·cases hc
end
end
section
section
variable {P:Program} {κ:Nat→FuncId} {w0:World} {cl0:dv} {S:St} {w:World} {g:Gh} {a:Act} {Γ:Env} {d:Nat}
def Gh.ap (g:Gh) (d b n:Nat) (hdr:Value):Gh where
 cl:=fun k=>if k=b then .own (d+1) 0 [] else match g.cl k with
  |.own 0 0 ρ=>.own (d+1) 0 ρ
  |.own 0 1 ((i,c)::ρ)=>.own (d+1) 0 ((n+i,c)::ρ)
  |c=>c
 hd:=fun r j ρ=>if r=d+1 then (match ρ with
  |[]=>hdr
  |(i,c)::lA=>if i<n then g.hd 0 0 ((i,c)::lA) else g.hd 0 1 ((i-n,c)::lA)) else g.hd r j ρ
 bk:=g.bk
theorem JS (c:cG):(∃ρ,c=.own 0 0 ρ)∨(∃i j ρ,c=.own 0 1 ((i,j)::ρ))∨((∀ρ,c≠.own 0 0 ρ)∧∀i j ρ,c≠.own 0 1 ((i,j)::ρ)):=by
 cases c with
 |own r j ρ=>
  by_cases h:r=0∧j=0
  ·obtain ⟨rfl,rfl⟩:=h;exact .inl ⟨ρ,rfl⟩
  ·by_cases h2:r=0∧j=1∧ρ≠[]
   ·obtain ⟨rfl,rfl,h3⟩:=h2;cases ρ with
    |nil=>exact absurd rfl h3
    |cons s ρ=>exact .inr (.inl ⟨s.1,s.2,ρ,rfl⟩)
   ·refine .inr (.inr ⟨fun lA e=>?_,fun i j' lA e=>?_⟩)
    ·simp at e;exact h ⟨e.1,e.2.1⟩
    ·simp at e;exact h2 ⟨e.1,e.2.1,by rw [e.2.2];simp⟩
 |_=>exact .inr (.inr ⟨by simp,by simp⟩)
theorem Gh.uj {d b n k:Nat} {hdr:Value} (hk:k≠b) (h1:∀ρ,g.cl k≠.own 0 0 ρ) (h2:∀i j ρ,g.cl k≠.own 0 1 ((i,j)::ρ)):(g.ap d b n hdr).cl k=g.cl k:=by
 simp only [Gh.ap,if_neg hk]
theorem ek.ap {w':World} (dU:∀b,g.cl b≠.no→b<w.heap.size) {d b n:Nat} {hdr:Value} (hb:(g.cl b=.own 0 0 [])∨(w.heap.size≤b∧b<w'.heap.size))
 (hp:∀k,k<w.heap.size→k≠b→w'.heap[k]?=w.heap[k]?) (hs:w.heap.size≤w'.heap.size) (dL:eB w w'):ek d w w' g (g.ap d b n hdr):=by
 have iP:∀k c,g.cl k=c→(c≠.no∧c≠.own 0 0 [])→k≠b:=by
  intro k c h hc e;subst e;rcases hb with hb|hb
  ·rw [hb] at h;exact hc.2 h.symm
  ·have:=dU k (by rw [h];exact hc.1);omega
 refine { hp:=fun k hk h0=>hp k hk (fun e=>?_),hs:=hs,kc:=fun k kk=>?_,cl:=fun k n' j ρ h hn=>?_,bx:=fun k n' h hn=>?_,hd:=fun n' j ρ hn=>by simp [Gh.ap,hn],
          bk:=fun n' hn=>rfl,bd:=fun k h=>?_,mi:=fun k hk h=>?_,sd:=dL }
 ·subst e;rcases hb with hb|hb
  ·exact h0 _ _ hb
  ·omega
 ·by_cases e:k=b
  ·subst e;have h1:(g.ap d k n hdr).cl k=.own (d+1) 0 []:=by simp [Gh.ap]
   rw [h1];rcases hb with hb|hb
   ·rw [hb];cases kk<;>simp [OM.kc]
   ·have:g.cl k=.no:=by
     by_cases h:g.cl k=.no
     ·exact h
     ·have:=dU k h;omega
    rw [this];cases kk<;>simp [OM.kc]
  ·rcases JS (g.cl k) with ⟨ρ,h⟩|⟨i,j,ρ,h⟩|⟨h1,h2⟩
   ·simp only [Gh.ap,if_neg e,h];cases kk<;>simp [OM.kc]
   ·simp only [Gh.ap,if_neg e,h];cases kk<;>simp [OM.kc]
   ·rw [Gh.uj e h1 h2]
 ·rw [Gh.uj (iP k _ h ⟨by simp,by simp⟩) (by rw [h];simp) (by rw [h];simp),h]
 ·rw [Gh.uj (iP k _ h ⟨by simp,by simp⟩) (by rw [h];simp) (by rw [h];simp),h]
 ·by_cases e:k=b
  ·subst e;rcases hb with hb|hb
   ·left;rw [hb];simp
   ·exact .inr hb
  ·left;intro h0;rw [Gh.uj e (by rw [h0];simp) (by rw [h0];simp)] at h;exact h h0
 ·by_cases e:k=b
  ·subst e;rcases hb with hb|hb
   ·rw [hb];rfl
   ·omega
  ·rcases JS (g.cl k) with ⟨ρ,h1⟩|⟨i,j,ρ,h1⟩|⟨h1,h2⟩
   ·rw [h1];rfl
   ·rw [h1];rfl
   ·rwa [Gh.uj e h1 h2] at h
theorem BK (R:Rel w0 cl0 S a.tmps w g) (hn:(S.ms d).1=none) {w':World} {sz b off cap:Nat} {es ys:List (List D)} {vals:Array Value} {E:TypeId}
 (hb:(g.cl b=.own 0 0 [])∨(w.heap.size≤b∧b<w'.heap.size)) (hp:∀k,k<w.heap.size→k≠b→w'.heap[k]?=w.heap[k]?) (hs:w.heap.size≤w'.heap.size) (dL:eB w w')
 (ey:w'.heap[b]?=some (.cells vals E)) (hl:∀e∈es++ys,e.length=sz) (cz:(es++ys).length≤cap) (hN:off+cap*sz≤vals.size)
 (fF:∀(i c:Nat) (e:List D) (d:D) (x:Value),es[i]?=some e→e[c]?=some d→vals[off+i*sz+c]?=some x→OW w g 0 0 [(i,c)] d x)
 (C9:∀(i c:Nat) (e:List D) (d:D) (x:Value),ys[i]?=some e→e[c]?=some d→vals[off+(es.length+i)*sz+c]?=some x→d.bF=true∧OW w g 0 1 [(i,c)] d x∨OW w g 0 1 [(i,c)] d x):
 eX w0 cl0 S a.tmps d (.pl d 0 []) (some (.an [.own (.sl sz (es++ys))])) S.ms (.slice (some ⟨b,off,none⟩) (es++ys).length cap) w':=by
 have H:=ek.ap (w:=w) (w':=w') (g:=g) R.bd (d:=d) (b:=b) (n:=es.length) (hdr:=.slice (some ⟨b,off,none⟩) (es++ys).length cap) hb hp hs dL
 have iP:∀k c,g.cl k=c→(c≠.no∧c≠.own 0 0 [])→k≠b:=by
  intro k c h hc e;subst e;rcases hb with hb|hb
  ·rw [hb] at h;exact hc.2 h.symm
  ·have:=R.bd k (by rw [h];exact hc.1);omega
 refine ⟨_,R.fresh hn H ?_ ?_,?_,?_⟩
 ·intro j c hj;cases j with
  |succ j=>simp at hj
  |zero=>
   simp at hj;subst hj;refine .own _ _ ?_;have cq:(g.ap d b es.length (.slice (some ⟨b,off,none⟩) (es++ys).length cap)).hd (d+1) 0 []=.slice (some ⟨b,off,none⟩) (es++ys).length cap:=by simp [Gh.ap]
   rw [cq];refine .sl _ _ _ b off cap vals E cq (by simp [Gh.ap]) hl cz ey hN (fun i c e dd x he hd hx=>?_);simp only [zt];by_cases hi:i<es.length
   ·rw [zf hi] at he;refine (fF i c e dd x he hd hx).mono (fun k ρ hk=>?_) (fun ρ=>?_)
    ·have uV:=iP k _ hk ⟨by simp,by simp⟩;have ae:=R.bd k (by rw [hk];simp);exact ⟨hp k ae uV,by simp [Gh.ap,uV,hk]⟩
    ·simp [Gh.ap,hi]
   ·rw [ze (by omega)] at he;have:=C9 (i-es.length) c e dd x he hd (by rwa [show es.length+(i-es.length)=i from by omega]);have mR:OW w g 0 1 [(i-es.length,c)] dd x:=by rcases this with h|h;exact h.2;exact h
    refine mR.mono (fun k ρ hk=>?_) (fun ρ=>?_)
    ·have uV:=iP k _ hk ⟨by simp,by simp⟩;have ae:=R.bd k (by rw [hk];simp);refine ⟨hp k ae uV,?_⟩;have:g.cl k=.own 0 1 ((i-es.length,c)::ρ):=by simpa using hk
     simp only [Gh.ap,if_neg uV,this];simp;omega
    ·simp [Gh.ap,hi]
 ·intro j r1 j1 hj;cases j<;>simp [Rt.cells] at hj
 ·exact .pl _ _ _ _ _ _ fun _=>by simp [Gh.ap]
 ·intro r hr;simp [AV.refs] at hr;subst hr;simp [az]
theorem Qh (R:Rel w0 cl0 S a.tmps w g) {y:AV} {v:Value} (ha:RA w g S.ms y v) {sz:Nat} {ys:List (List D)} (h:S.ms.fq y=some (sz,ys)) (hf:fZ ys=true) (cg:0<sz) (g2:Gh):
 ∃(b:Option Addr) (cap:Nat) (news:List Value),v=.slice b ys.length cap∧(∀e∈ys,e.length=sz)∧news.length=ys.length*sz∧
  (∀w1:World,w1.heap=w.heap→(Builtin.firstCells sz ys.length v).run P w1=.ok news.toArray w1)∧(∀x∈news,x.oneCell'=true)∧
  ∀(i c:Nat) (e:List D) (d:D) (x:Value),ys[i]?=some e→e[c]?=some d→news[i*sz+c]?=some x→OW w g2 0 1 [(i,c)] d x:=by
 obtain ⟨b,cap,hv,_,uP⟩:=Cn R ha h;by_cases bm:ys=[]
 ·subst bm;refine ⟨b,cap,[],hv,by simp,by simp,fun w1 _=>?_,by simp,by simp⟩;subst hv;cases b with
  |none=>simp [Builtin.firstCells]
  |some a=>simp [Builtin.firstCells,loadCells,loadCellsFrom]
 ·obtain ⟨b',o,rfl,cz,hl,dp⟩:=uP bm
  have Mw:∀(i c:Nat) (e:List D) (d:D),ys[i]?=some e→e[c]?=some d→d.bF=true:=by
   intro i c e d he hd;have:=zd.1 hf e (za he);exact zd.1 this d (za hd)
  have ti:∀k,k<ys.length*sz→∃x,w.cell? ⟨b',o+k,none⟩=some x∧∀(e:List D) (d:D),ys[k/sz]?=some e→e[k%sz]?=some d→((∃kk,RO w g.cl kk d x)∨∃r j p,OW w g r j p d x):=by
   intro k hk;have hi:k/sz<ys.length:=zM (by rw [zp];exact hk);have hc:k%sz<sz:=zT _ cg;have he:ys[k/sz]?=some ys[k/sz]:=by simp [hi]
   have j5:=hl _ (za he);have hd:(ys[k/sz])[k%sz]?=some (ys[k/sz])[k%sz]:=by simp [j5,hc]
   obtain ⟨x,hx,kh⟩:=dp _ _ _ _ he hd;have j6:o+k/sz*sz+k%sz=o+k:=by have:=Zl k sz;rw [zp] at this;omega
   rw [j6] at hx;refine ⟨x,hx,fun e d fi gW=>?_⟩;rw [he] at fi;cases fi;rw [hd] at gW;cases gW;exact kh
  have rD:∀(d:D) (x:Value),d.bF=true→((∃kk,RO w g.cl kk d x)∨∃r j p,OW w g r j p d x)→x.oneCell'=true∧∀p,OW w g2 0 1 p d x:=by
   intro d x hs hx;rcases hx with ⟨kk,hx⟩|⟨_,_,_,hx⟩
   ·cases hx with
    |int=>exact ⟨rfl,fun p=>.int _ _ _⟩
    |bool=>exact ⟨rfl,fun p=>.bool _ _⟩
    |str=>exact ⟨rfl,fun p=>.str _ _⟩
    |_=>simp [D.bF] at hs
   ·cases hx with
    |int=>exact ⟨rfl,fun p=>.int _ _ _⟩
    |bool=>exact ⟨rfl,fun p=>.bool _ _⟩
    |str=>exact ⟨rfl,fun p=>.str _ _⟩
    |_=>simp [D.bF] at hs
  have uZ:∀(k:Nat) (x:Value),((List.range (ys.length*sz)).map fun k=>(w.cell? ⟨b',o+k,none⟩).getD undef)[k]?=some x→k<ys.length*sz∧w.cell? ⟨b',o+k,none⟩=some x:=by
   intro k x hx;simp only [zS,zG] at hx;obtain ⟨k',Dm,rfl⟩:=hx;have ae:=bE Dm;simp at ae;rw [List.getElem?_range ae] at Dm;cases Dm;obtain ⟨x,hx,_⟩:=ti k ae;exact ⟨ae,by rw [hx];rfl⟩
  refine ⟨_,cap,(List.range (ys.length*sz)).map fun k=>(w.cell? ⟨b',o+k,none⟩).getD undef,hv,hl,by simp,fun w1 d_=>?_,fun x hx=>?_,fun i c e d x he hd hx=>?_⟩
  ·subst hv;simp only [Builtin.firstCells];refine vE P (by simp) (fun k x hx=>?_);have:=(uZ k x hx).2;simpa [World.cell?,d_] using this
  ·obtain ⟨k,hk⟩:=zh.1 hx;obtain ⟨ae,hc⟩:=uZ k x hk;obtain ⟨x',fH,kh⟩:=ti k ae;rw [hc] at fH;cases fH;have hi:k/sz<ys.length:=zM (by rw [zp];exact ae);have dG:k%sz<sz:=zT _ cg;have he:ys[k/sz]?=some ys[k/sz]:=by simp [hi]
   have j5:=hl _ (za he);have hd:(ys[k/sz])[k%sz]?=some (ys[k/sz])[k%sz]:=by simp [j5,dG]
   exact (rD _ x (Mw _ _ _ _ he hd) (kh _ _ he hd)).1
  ·obtain ⟨ae,hc⟩:=uZ _ x hx;obtain ⟨x',fH,kh⟩:=dp i c e d he hd;rw [zr,hc] at fH;cases fH;exact (rD d x (Mw i c e d he hd) kh).2 _
theorem U2 {w:World} {g:Gh} {sz:Nat} {ys:List (List D)} {v:Value} (h:OW w g 0 1 [] (.sl sz ys) v) (Dq:ys.all (fun e=>e.all D.live)=true):
 ∃(b:Option Addr) (cap:Nat) (news:List Value),v=.slice b ys.length cap∧(∀e∈ys,e.length=sz)∧news.length=ys.length*sz∧
  (∀w1:World,w1.heap=w.heap→(Builtin.firstCells sz ys.length v).run P w1=.ok news.toArray w1)∧(∀x∈news,x.oneCell'=true∨sz=0)∧
  ∀(i c:Nat) (e:List D) (d:D) (x:Value),ys[i]?=some e→e[c]?=some d→news[i*sz+c]?=some x→OW w g 0 1 [(i,c)] d x:=by
 cases h with
 |nil=>exact ⟨none,0,[],rfl,by simp,by simp,fun w1 _=>by simp [Builtin.firstCells],by simp,by simp⟩
 |sl _ _ _ b off cap vals E hh bq hl cz hw hN hk=>
  have hle:ys.length*sz≤cap*sz:=zn _ cz
  have bL:∀(k:Nat) (x:Value),((vals.toList.drop off).take (ys.length*sz))[k]?=some x→k<ys.length*sz∧vals[off+k]?=some x:=by
   intro k x hx;rw [zQ] at hx;split at hx
   ·rename_i ae;exact ⟨ae,by simpa using hx⟩
   ·cases hx
  refine ⟨_,cap,(vals.toList.drop off).take (ys.length*sz),rfl,hl,by simp;omega,fun w1 d_=>?_,fun x hx=>?_,fun i c e d x he hd hx=>?_⟩
  ·simp only [Builtin.firstCells];refine vE P (by simp;omega) (fun k x hx=>?_);rw [lH (vals:=vals) (E:=E) (fz:=(0,0)) (by rw [d_];exact hw)];exact (bL k x hx).2
  ·by_cases cg:sz=0
   ·exact .inr cg
   ·left;obtain ⟨k,s_⟩:=zh.1 hx;obtain ⟨ae,hc⟩:=bL k x s_;have hi:k/sz<ys.length:=zM (by rw [zp];exact ae);have dG:k%sz<sz:=zT _ (zx cg);have he:ys[k/sz]?=some ys[k/sz]:=by simp [hi]
    have j5:=hl _ (za he);have hd:(ys[k/sz])[k%sz]?=some (ys[k/sz])[k%sz]:=by simp [j5,dG]
    have j6:off+k/sz*sz+k%sz=off+k:=by have:=Zl k sz;rw [zp] at this;omega
    have ho:=hk _ _ _ _ x he hd (by rw [j6];exact hc)
    have j8:((ys[k/sz])[k%sz]).live=true:=by
     have:=zd.1 Dq _ (za he);exact zd.1 this _ (za hd)
    generalize (ys[k/sz])[k%sz]=dd at ho j8;cases ho<;>first|rfl|simp [D.live] at j8
  ·obtain ⟨_,hc⟩:=bL _ x hx;exact hk i c e d x he hd (by rw [zr];exact hc)
end
end
section
section
variable {P:Program} {κ:Nat→FuncId} {w0:World} {cl0:dv} {S:St} {w:World} {g:Gh} {a:Act} {Γ:Env} {d:Nat}
theorem T' (R:Rel w0 cl0 S a.tmps w g) (hn:(S.ms d).1=none) (sz:Nat):
 eX w0 cl0 S a.tmps d (.pl d 0 []) (some (.an [.own (.sl sz [])])) S.ms (.slice none 0 0) w:=by
 let g':Gh:={ g with hd:=fun r j ρ=>if r=d+1 then .slice none 0 0 else g.hd r j ρ }
 have H:ek d w w g g':={ ek.refl d w g with hd:=fun n j ρ hn=>by simp [g',hn] };refine ⟨g',R.fresh hn H (fun j c hj=>?_) (fun j r1 j1 hj=>by cases j<;>simp [Rt.cells] at hj),.pl _ _ _ _ _ _ fun _=>by simp [g'],fun r hr=>by simp [AV.refs] at hr;subst hr;simp [az]⟩;cases j with
 |succ j=>simp at hj
 |zero=>
  simp at hj;subst hj;have:g'.hd (d+1) 0 []=.slice none 0 0:=by simp [g']
  rw [this];exact .own _ _ (.nil _ _ this)
theorem JT (R:Rel w0 cl0 S a.tmps w g) (hn:(S.ms d).1=none) {t u ty e:TypeId} {i:TypeInfo} {zv:Value} {sz bytes:Nat} (g6:P.underlying t=some (.slice e))
 (hi:P.info? e=some i) (hz:i.zero=some zv) (cg:i.size=sz) (cH:i.bytes=bytes) (jD:zv.cells.size=i.size) (qj:0<sz) (Ro:0<bytes)
 {es ys:List (List D)} {vx vy:Value} (hx:OW w g 0 0 [] (.sl sz es) vx) (oH:(es.length+ys.length)*bytes≤2^46)
 (hy:∃(news:List Value),((P.underlying u=some (.slice e)∧∃b cap,vy=.slice b ys.length cap)∨(P.underlying u=some .string∧∃s:ByteArray,vy=.string s∧s.size=ys.length))∧(∀e∈ys,e.length=sz)∧news.length=ys.length*sz∧
  (∀w1:World,w1.heap=w.heap→(Builtin.firstCells sz ys.length vy).run P w1=.ok news.toArray w1)∧(∀x∈news,x.oneCell'=true)∧
  ∀(i c:Nat) (e:List D) (d:D) (x:Value),ys[i]?=some e→e[c]?=some d→news[i*sz+c]?=some x→OW w g 0 1 [(i,c)] d x):
 ∃v w',(Builtin.append_ #[t,u] ty #[vx,vy]).run P w=.ok v w'∧eX w0 cl0 S a.tmps d (.pl d 0 []) (some (.an [.own (.sl sz (es++ys))])) S.ms v w':=by
 obtain ⟨news,vq,oW,tc,hf,nN,D0⟩:=hy;subst cg cH
 have uX:es.length+ys.length≤2^62:=by
  have:(es.length+ys.length)*1≤(es.length+ys.length)*i.bytes:=Nat.mul_le_mul_left _ Ro;omega
 have ib:=hx.iR;cases hx with
 |nil _ _ abC=>
  have hr:=JU P (ty:=ty) (E0:=e) g6 hi hz vq hf tc nN none 0 0 (.inl ⟨rfl,rfl,rfl⟩) (by simpa using oH) (by simpa using uX);rcases hr with ⟨b,off,vals,w',eO,h,_⟩|⟨_,eL,dC⟩|⟨cap,eO,w',lv,h1,dC,ey,xW,dL,hp,h5,h6,h7,h8,h9⟩
  ·cases h
  ·have:ys=[]:=List.eq_nil_of_length_eq_zero eL;subst this;exact ⟨_,_,dC,by simpa using T' R hn i.size⟩
  ·refine ⟨_,_,dC,?_⟩
   have jA:=BK (d:=d) (a:=a) R hn (w':=w') (sz:=i.size) (b:=w.heap.size) (off:=0) (cap:=cap) (es:=[]) (ys:=ys) (vals:=eO) (E:=e) (.inr ⟨zm _,by omega⟩)
    (fun k hk _=>hp k hk) (by omega) dL ey (by simpa using oW) (by simpa using h1) (by rw [zk,h8 jD];exact zm _) (by simp) (fun q c el dd x he hd hx=>by
     have hq:=bE he;have hc:=jY oW he;have bq:=bE hd
     have hk:q*i.size+c<ys.length*i.size:=by
      have:=oX (off:=0) (cap:=ys.length) (N:=ys.length*i.size) hq (show c<i.size by omega) (zm _) (by omega);omega
     have:=h7 _ hk;simp only [Nat.zero_mul,zk,List.length_nil] at this hx;rw [this] at hx
     exact .inr (D0 q c el dd x he hd hx))
   simpa using jA
 |sl _ _ _ b off cap vals E cq bq hl cz hw hN gY=>
  have hr:=JU P (ty:=ty) (E0:=E) g6 hi hz vq hf tc nN (some ⟨b,off,none⟩) es.length cap (.inr ⟨b,off,vals,rfl,cz,hw,hN⟩) oH uX
  have iy:∀el∈es++ys,el.length=i.size:=by
   intro el j5;rcases zw.1 j5 with h|h
   ·exact hl el h
   ·exact oW el h
  rcases hr with ⟨b',tu,aam,w',eO,h,rC,d_,hN1,dC,ey,xW,bL,qh,oU,dL⟩|⟨h,_,_⟩|⟨Kj,eO,w',lv,h1,dC,ey,xW,dL,hp,h5,h6,h7,h8,h9⟩
  ·cases h;rw [hw] at d_;cases d_;refine ⟨_,_,dC,?_⟩
   have jA:=BK (d:=d) (a:=a) R hn (w':=w') (sz:=i.size) (b:=b) (off:=off) (cap:=cap) (es:=es) (ys:=ys) (vals:=eO) (E:=E) (.inl bq)
    (fun k _ hk=>qh k hk) (by omega) dL ey iy (by simp;omega) (by omega) (fun q c el dd x he hd hx=>by
     have hq:=bE he;have cC:=jY hl he;have jZ:=bE hd
     have hk:q*i.size+c<es.length*i.size:=by
      have:=oX (off:=0) (cap:=es.length) (N:=es.length*i.size) hq (show c<i.size by omega) (zm _) (by omega);omega
     rw [bL,if_neg (by omega)] at hx
     exact gY q c el dd x he hd hx) (fun q c el dd x he hd hx=>by
     have hq:=bE he;have cC:=jY oW he;have jZ:=bE hd
     have hk:q*i.size+c<ys.length*i.size:=by
      have:=oX (off:=0) (cap:=ys.length) (N:=ys.length*i.size) hq (show c<i.size by omega) (zm _) (by omega);omega
     rw [Zg,bL,if_pos (by omega)] at hx;refine .inr (D0 q c el dd x he hd ?_)
     rw [←hx];congr 1;omega)
   simpa using jA
  ·cases h
  ·refine ⟨_,_,dC,?_⟩
   have jA:=BK (d:=d) (a:=a) R hn (w':=w') (sz:=i.size) (b:=w.heap.size) (off:=0) (cap:=Kj) (es:=es) (ys:=ys) (vals:=eO) (E:=e) (.inr ⟨zm _,by omega⟩)
    (fun k hk _=>hp k hk) (by omega) dL ey iy (by simpa using h1) (by rw [zk,h8 jD];exact zm _) (fun q c el dd x he hd hx=>by
     have hq:=bE he;have cC:=jY hl he;have jZ:=bE hd
     have hk:q*i.size+c<es.length*i.size:=by
      have:=oX (off:=0) (cap:=es.length) (N:=es.length*i.size) hq (show c<i.size by omega) (zm _) (by omega);omega
     rw [zk,h5 _ hk,h9 b off vals rfl hw _ hk,←zr] at hx
     exact gY q c el dd x he hd hx) (fun q c el dd x he hd hx=>by
     have hq:=bE he;have cC:=jY oW he;have jZ:=bE hd
     have hk:q*i.size+c<ys.length*i.size:=by
      have:=oX (off:=0) (cap:=ys.length) (N:=ys.length*i.size) hq (show c<i.size by omega) (zm _) (by omega);omega
     rw [zk,Zg,zr,h7 _ hk] at hx
     exact .inr (D0 q c el dd x he hd hx))
   simpa using jA
theorem M9 (R:Rel w0 cl0 S a.tmps w g) {sz bytes:Nat} {x y:PX} {op:Op} {av:AV} {rt:Option Rt} {m':Ms} (eC:(m' d).1=none)
 (hc:bf P κ (.app sz bytes x y) op=true) (h:ay Γ S.ev d S.ms (.app sz bytes x y)=some (av,rt,m')) (o:Oper) (ho:o.op=op):
 ∃v w',(execOp a.eval o).run P w=.ok (.value v) w'∧eX w0 cl0 S a.tmps d av rt m' v w':=by
 cases op with
 |call c=>?_
 |_=>simp [bf] at hc
 simp only [bf] at hc;split at hc
 ·rename_i oa ob t u lf ew oV;simp only [zb] at hc;obtain ⟨⟨h1,h2⟩,h3⟩:=hc;split at h3
  ·rename_i e e' he fi;simp only [zb,beq_iff_eq] at h3;obtain ⟨rfl,h3⟩:=h3;split at h3
   ·rename_i z s1 dI iW fa;simp only [zb,beq_iff_eq,bne_iff_ne,ne_eq] at h3;obtain ⟨⟨⟨⟨rfl,rfl⟩,D1⟩,DI⟩,dR⟩:=h3;obtain ⟨i,zv,hi,kj,ki,jD⟩:=sE iW;have g6:P.underlying t=some (.slice e):=by unfold hY at he;split at he<;>simp_all
    have ji:P.underlying u=some (.slice e):=by unfold hY at fi;split at fi<;>simp_all
    unfold gh at fa;rw [hi] at fa;simp at fa;obtain ⟨cg,cH⟩:=fa;obtain ⟨cs,hex⟩:=qO (a:=a) lf ew oV ho;have e1:=b8 R h1;have e2:=b8 R h2
    have fin:∀{S1:St} {g1:Gh} {m2:Ms} {es ys:List (List D)},S1.av=S.av→Rel w0 cl0 S1 a.tmps w g1→eH S1.ms (S.ev x)=some (.own (.sl s1 es),m2)→(es.length+ys.length)*dI≤2^46→(m2 d).1=none→
     (∀g2:Gh,(∀(b:Nat) (ρ:aY),g1.cl b=.own 0 1 ρ→g2.cl b=.own 0 1 ρ)→(∀ρ,g2.hd 0 1 ρ=g1.hd 0 1 ρ)→
      ∃(b:Option Addr) (cap:Nat) (news:List Value),a.eval ob=.slice b ys.length cap∧(∀e∈ys,e.length=s1)∧news.length=ys.length*s1∧
      (∀w1:World,w1.heap=w.heap→(Builtin.firstCells s1 ys.length (a.eval ob)).run P w1=.ok news.toArray w1)∧(∀x∈news,x.oneCell'=true)∧
      ∀(i c:Nat) (e:List D) (d:D) (x:Value),ys[i]?=some e→e[c]?=some d→news[i*s1+c]?=some x→OW w g2 0 1 [(i,c)] d x)→
     ∃v w',(execOp a.eval o).run P w=.ok (.value v) w'∧eX w0 cl0 S a.tmps d (.pl d 0 []) (some (.an [.own (.sl s1 (es++ys))])) m2 v w':=by
     intro S1 g1 m2 es ys cQ R1 pZ oH rq uZ;have K3:=(b8 R1 h1).1;have bJ:S1.ev x=S.ev x:=by cases x<;>simp [St.ev,cQ]
     rw [bJ] at K3;obtain ⟨g2,R2,T2,nO⟩:=uh R1 K3 pZ 0;cases nO with
     |own _ _ DC=>
      obtain ⟨v,w',dC,jA⟩:=JT (P:=P) (ty:=o.type) (d:=d) (a:=a) R2 rq g6 hi kj cg cH jD (zx DI) (zx dR) DC oH
       (by
        obtain ⟨b,cap,news,q1,q2⟩:=uZ g2 (fun b ρ hb=>T2.cl0 b 1 ρ (by simp) hb) (fun ρ=>T2.iA 1 ρ (by simp))
        exact ⟨news,.inl ⟨ji,b,cap,q1⟩,q2⟩)
      refine ⟨v,w',?_,?_⟩
      ·rw [hex];simp [builtin,dC]
      ·have hS:({ S1 with ms:=m2 }:St).av=S.av:=cQ;unfold eX at jA ⊢;simp only [cQ] at jA;exact jA
    simp only [ay] at h;split at h
    ·rename_i s2 ys m1 mX;split at h
     ·rename_i s3 es m2 pZ;split at h
      ·rename_i dA;obtain ⟨rfl,rfl,oH⟩:=dA;simp at h;obtain ⟨rfl,rfl,rfl⟩:=h;split at mX
       ·rename_i s4 ys4 C';split at mX
        ·rename_i RJ;simp at mX;obtain ⟨rfl,rfl,rfl⟩:=mX;exact fin (S1:=S) rfl R pZ oH eC (fun g2 _ _=>Qh R e2.1 C' RJ (zx DI) g2)
        ·split at mX
         ·rename_i s5 ys5 m5 Rg;split at mX
          ·rename_i Dq;simp at mX;obtain ⟨rfl,rfl,rfl⟩:=mX;obtain ⟨g1,R1,T1,nO⟩:=uh R e2.1 Rg 1;cases nO with
           |own _ _ Ss=>
            obtain ⟨b,cap,news,k1,k2,k3,k4,k5,k6⟩:=U2 (P:=P) Ss Dq;refine fin (S1:={ S with ms:=m5 }) rfl R1 pZ oH eC (fun g2 bM RN=>⟨b,cap,news,k1,k2,k3,k4,fun x hx=>(k5 x hx).resolve_right DI,fun q c el dd x he hd hx=>?_⟩);exact (k6 q c el dd x he hd hx).mono (fun b ρ hb=>⟨rfl,bM b _ hb⟩) (fun ρ=>RN _)
          ·cases mX
         ·cases mX
       ·cases mX
      ·cases h
     ·cases h
    ·cases h
   ·cases h3
  ·cases h3
 ·cases hc
theorem Ug (R:Rel w0 cl0 S a.tmps w g) {x y:PX} {op:Op} {av:AV} {rt:Option Rt} {m':Ms} (eC:(m' d).1=none)
 (hc:bf P κ (.apps x y) op=true) (h:ay Γ S.ev d S.ms (.apps x y)=some (av,rt,m')) (o:Oper) (ho:o.op=op):
 ∃v w',(execOp a.eval o).run P w=.ok (.value v) w'∧eX w0 cl0 S a.tmps d av rt m' v w':=by
 cases op with
 |call c=>?_
 |_=>simp [bf] at hc
 simp only [bf] at hc;split at hc
 ·rename_i oa ob t u lf ew oV;simp only [zb] at hc;obtain ⟨⟨h1,h2⟩,h3⟩:=hc;split at h3
  ·rename_i e he ji;split at h3
   ·rename_i z s1 dI iW fa;simp only [zb,beq_iff_eq] at h3;obtain ⟨⟨rfl,rfl⟩,D1⟩:=h3;obtain ⟨i,zv,hi,kj,ki,jD⟩:=sE iW;have g6:P.underlying t=some (.slice e):=by unfold hY at he;split at he<;>simp_all
    unfold gh at fa;rw [hi] at fa;simp at fa;obtain ⟨cg,cH⟩:=fa;obtain ⟨cs,hex⟩:=qO (a:=a) lf ew oV ho;have e2:=(b8 R h2).1;have e1:=(b8 R h1).1;simp only [ay] at h;split at h
    ·rename_i k s hy;split at h
     ·rename_i es m2 pZ;split at h
      ·rename_i oH;simp at h;obtain ⟨rfl,rfl,rfl⟩:=h;obtain ⟨g2,R2,T2,nO⟩:=uh R e1 pZ 0;rw [hy] at e2
       have vq:a.eval ob=.string s:=by
        generalize a.eval ob=vv at e2;cases e2 with
        |v _ _ _ hr=>cases hr;rfl
       have iD:(qC s).length=s.size:=by
        simp [qC,ByteArray.toList_eq]
       cases nO with
       |own _ _ DC=>
        obtain ⟨v,w',dC,jA⟩:=JT (P:=P) (u:=u) (ty:=o.type) (d:=d) (a:=a) (vy:=a.eval ob) (ys:=qC s) R2 eC g6 hi kj cg cH jD (by omega) (by omega) DC (by rw [iD];omega)
         ⟨s.toList.map (fun b=>Value.int .u8 b.toNat),.inr ⟨ji,s,vq,iD.symm⟩,fun e he=>by simp only [qC,Zo] at he;obtain ⟨b,_,rfl⟩:=he;rfl,by simp [qC],
          fun w1 _=>by
           rw [vq,iD]
           have hq:(Array.map (fun b:UInt8=>Value.int IntKind.u8 ↑b.toNat) (s.extract 0 s.size).data)=(List.map (fun b:UInt8=>Value.int .u8 b.toNat) s.data.toList).toArray:=by
            apply Array.ext';simp [ByteArray.extract_zero_size]
           simp only [Builtin.firstCells,ByteArray.toList_eq];rw [hq];rfl,fun x hx=>by simp only [Zo] at hx;obtain ⟨b,_,rfl⟩:=hx;rfl,
          fun q c e d x he hd hx=>by
           simp only [qC,zS,zG] at he;obtain ⟨b,hb,rfl⟩:=he;cases c with
           |succ c=>simp at hd
           |zero=>
            simp at hd;subst hd;simp only [Nat.mul_one,zN,zS,zG] at hx;obtain ⟨b2,dK,rfl⟩:=hx;rw [hb] at dK;cases dK
            exact .int _ _ _⟩
        refine ⟨v,w',?_,jA⟩;rw [hex];simp [builtin,dC]
      ·cases h
     ·cases h
    ·cases h
   ·cases h3
  ·cases h3
 ·cases hc
end
end
section
theorem D.NB:∀(p:aY) (d x y:D),(d.put p x).put p y=d.put p y
 |[],d,x,y=>by simp [D.put]
 |(i,j)::p,d,x,y=>by
  cases d with
  |sl sz es=>
   simp only [D.put];cases h:es[i]? with
   |none=>simp [h,D.put]
   |some e=>
    simp only;cases h2:e[j]? with
    |none=>simp [D.put,h,h2]
    |some d'=>
     obtain ⟨hi,_⟩:=zi.1 h;obtain ⟨hj,_⟩:=zi.1 h2;simp [D.put,hi,hj,D.NB p d' x y]
  |_=>simp [D.put]
theorem D.KT:∀(p:aY) (d x y:D),d.fO p=some y→(d.put p x).fO p=some x
 |[],d,x,y,_=>by simp [D.put,D.fO]
 |(i,j)::p,d,x,y,h=>by
  cases d with
  |sl sz es=>
   simp only [D.fO] at h;split at h
   ·rename_i e he;split at h
    ·rename_i d' hd;obtain ⟨hi,_⟩:=zi.1 he;obtain ⟨hj,_⟩:=zi.1 hd;simp only [D.put];rw [he];simp only;rw [hd];simp only [D.fO];rw [zB hi];simp only;rw [zB hj];exact D.KT p d' x y h
    ·cases h
   ·cases h
  |_=>simp [D.fO] at h
section
variable {P:Program} {κ:Nat→FuncId} {w0:World} {cl0:dv} {S:St} {w:World} {g:Gh} {a:Act} {Γ:Env} {d:Nat}
theorem Vi {m m':Ms} {r j:Nat} {p:aY} {x y:D} (ha:m.at r j p=some y) (h:m.putAt r j p x []=some m'):m'.at r j p=some x:=by
 obtain ⟨nK,rt,d0,h1,h2,h3⟩:=gl ha;obtain ⟨rt',d0',k1,k2,rfl⟩:=Jb h;rw [h1] at k1;cases k1;rw [h2] at k2;cases k2
 have hc:(rt.gG j (.own (d0.put p x))).cells[j]?=some (.own (d0.put p x)):=by
  obtain ⟨hj,_⟩:=zi.1 h2;cases rt<;>simp [Rt.gG,Rt.cells] at hj ⊢<;>simp [hj]
 have hk:Ms.b_ (az m r (some (rt.gG j (.own (d0.put p x))),[]++(m r).2)) r j p=false:=by
  simp only [Ms.b_,g_,zt];exact nK
 simp only [Ms.at,hk];simp only [Ms.cell,g_,hc];exact D.KT p d0 x y h3
theorem Vk {m m1:Ms} {r j:Nat} {p:aY} {x y:D} (h:m.putAt r j p x []=some m1):m1.putAt r j p y []=m.putAt r j p y []:=by
 obtain ⟨rt,d0,k1,k2,rfl⟩:=Jb h
 have hc:(rt.gG j (.own (d0.put p x))).cells[j]?=some (.own (d0.put p x)):=by
  obtain ⟨hj,_⟩:=zi.1 k2;cases rt<;>simp [Rt.gG,Rt.cells] at hj ⊢<;>simp [hj]
 simp only [Ms.putAt,g_,hc,k1,k2];simp only [D.NB]
 have e:(rt.gG j (.own (d0.put p x))).gG j (.own (d0.put p y))=rt.gG j (.own (d0.put p y)):=by
  cases rt<;>simp [Rt.gG]
 rw [e];congr 1;funext k;simp only [az];split<;>simp
theorem Vj {m:Ms} {r j:Nat} {p:aY} {y:D} (x:D) (ha:m.at r j p=some y):∃m',m.putAt r j p x []=some m':=by
 obtain ⟨nK,rt,d0,h1,h2,h3⟩:=gl ha;exact ⟨_,by simp only [Ms.putAt,h1,h2];rfl⟩
theorem Oi:∀(ys:List Value) (b o i k:Nat),storeCells ⟨b,o,none⟩ ys (i+k)=storeCells ⟨b,o+i,none⟩ ys k
 |[],_,_,_,_=>rfl
 |y::ys,b,o,i,k=>by
  simp only [storeCells];rw [zr i k 1,Oi ys b o i (k+1)];simp only [Addr.add_lit,zr]
theorem Oh:∀(xs ys:List Value) (b o i:Nat) {w w1 w2:World},(storeCells ⟨b,o,none⟩ xs i).run P w=.ok () w1→(storeCells ⟨b,o+i+xs.length,none⟩ ys 0).run P w1=.ok () w2→
 (storeCells ⟨b,o,none⟩ (xs++ys) i).run P w=.ok () w2
 |[],ys,b,o,i,w,w1,w2,h1,h2=>by
  simp only [storeCells,Sem.run_pure,Result.ok.injEq,true_and] at h1;subst h1;have:=Oi ys b o i 0;rw [zN] at this;simp only [zt];rw [this];simpa using h2
 |x::xs,ys,b,o,i,w,w1,w2,h1,h2=>by
  simp only [storeCells,List.cons_append,Sem.run_bind] at h1 ⊢;cases hs:(store (Addr.add ⟨b,o,none⟩ i) x).run P w with
  |ok u wa=>
   rw [hs] at h1;simp only [Result.andThen_ok] at h1 ⊢;refine Oh xs ys b o (i+1) h1 ?_;rw [show o+(i+1)+xs.length=o+i+(x::xs).length by simp;omega];exact h2
  |_=>rw [hs] at h1;simp [Result.andThen] at h1
theorem MQ:∀(os ns:List D) (j:Nat) (p:aY) (i c:Nat),os.all D.bF=true→ns.all D.bF=true→lu j p i c os ns=[]
 |[],_,_,_,_,_,_,_=>by simp [lu]
 |_::_,[],_,_,_,_,_,_=>by simp [lu]
 |o::os,n::ns,j,p,i,c,h1,h2=>by
  simp only [Za,zb] at h1 h2;simp only [lu,h1.1,h2.1,Bool.and_self,if_true];exact MQ os ns j p i (c+1) h1.2 h2.2
theorem PV {es:List (List D)} {z:List D} {lo k:Nat} (h:lo+k<es.length):
 (es.take lo++zj k z++es.drop (lo+k)).set (lo+k) z=es.take lo++zj (k+1) z++es.drop (lo+(k+1)):=by
 apply Zf;intro n;have hl:(es.take lo).length=lo:=by simp;omega
 simp only [List.getElem?_set,List.getElem?_append,zV,zu,zP,zX,List.length_drop,hl]
 repeat' split
 all_goals first|rfl|(exfalso;omega)|(congr 1;omega)
theorem PU {r j sz lo hi:Nat} {p:aY} {z:List D} {zv:List Value} {es:List (List D)} {B O N C:Nat} (hz:z.all D.bF=true) (iW:z.length=sz) (kj:zv.length=sz)
 (nN:∀x∈zv,x.oneCell'=true) (S4:∀{w:World} {g:Gh} (q:Nat) (d:D) (x:Value),z[q]?=some d→zv[q]?=some x→Hd w g q d x) (mL:hi≤es.length) (h_:fZ ((es.take hi).drop lo)=true)
 (ch:∀{m:Ms} {w:World} {g:Gh},Rel w0 cl0 { S with ms:=m } a.tmps w g→RA w g m (.rg r j p sz lo hi) (.slice (some ⟨B,O,none⟩) N C)):
 ∀(n k:Nat) {m m':Ms} {w:World} {g:Gh},lo+k+(n+1)=hi→Rel w0 cl0 { S with ms:=m } a.tmps w g→m.at r j p=some (.sl sz (es.take lo++zj k z++es.drop (lo+k)))→
  m.putAt r j p (.sl sz (es.take lo++zj (hi-lo) z++es.drop hi)) []=some m'→
  ∃w' g',(storeCells ⟨B,O+k*sz,none⟩ (rep (n+1) zv) 0).run P w=.ok () w'∧Rel w0 cl0 { S with ms:=m' } a.tmps w' g':=by
 have step:∀(k:Nat) {m m1:Ms} {w:World} {g:Gh},lo+k<hi→Rel w0 cl0 { S with ms:=m } a.tmps w g→m.at r j p=some (.sl sz (es.take lo++zj k z++es.drop (lo+k)))→
  m.putAt r j p (.sl sz (es.take lo++zj (k+1) z++es.drop (lo+(k+1)))) []=some m1→
  ∃w' g',(storeCells ⟨B,O+k*sz,none⟩ zv 0).run P w=.ok () w'∧Rel w0 cl0 { S with ms:=m1 } a.tmps w' g':=by
  intro k m m1 w g hk R bI fU;have hl:(es.take lo).length=lo:=by simp;omega
  obtain ⟨e,he⟩:∃e,es[lo+k]?=some e:=⟨_,zg (by omega)⟩
  have C_:(es.take lo++zj k z++es.drop (lo+k))[lo+k]?=some e:=by
   rw [ze (by simp;omega)];simp only [zP,zX,hl,zu,Nat.sub_self,zN];exact he
  have nE:e.all D.bF=true:=by
   refine zd.1 h_ e (zh.2 ⟨k,?_⟩);rw [zu,zQ,if_pos hk];exact he
  have Md:es.length≤(es.take lo++zj k z++es.drop (lo+k)).length:=by simp;omega
  generalize hE:(es.take lo++zj k z++es.drop (lo+k))=Qs at bI C_ Md;obtain ⟨x0,ho⟩:=R.at bI;have iE:=ho.iR;have nK:m.b_ r j p=false:=(gl bI).1;have hR:=ch R;cases hR with
  |rg _ _ _ _ _ _ _ _ _ hh=>
   have hv:=hh nK;rw [←iE] at hv;cases ho with
   |nil _ _ h1=>
    have abz:es.length≤0:=Md;omega
   |sl _ _ _ b off cap vals E cq bq hlen cz hw hN gY=>
    have jZ:¬cap=lo:=by omega
    simp only [iY,if_neg jZ,zJ,Addr.add_lit,Value.slice.injEq,zF,Addr.mk.injEq,and_true] at hv;obtain ⟨⟨rfl,rfl⟩,_,_⟩:=hv;have j5:e.length=sz:=hlen e (za C_);refine Oj (P:=P) (a:=a) R (r:=r) (j:=j) (sz:=sz) (i:=lo+k) (c:=0) (p:=p) (es:=Qs) (e:=e) (ds:=z) (vals:=zv) ?_ bI C_ (by omega) ?_ (by omega) nN (fun q d x h1 h2=>S4 q d x h1 h2)
    ·rw [←iE];simp only [qN,zN,Zg,zr]
    ·have tf:iL e 0 z=z:=by simp [iL];omega
     rw [tf,←hE,PV (by omega),MQ _ _ _ _ _ _ (by simpa using nE) hz];exact fU
 intro n;induction n with
 |zero=>
  intro k m m' w g hk R bI fU;have e1:hi-lo=k+1:=by omega
  have e2:hi=lo+(k+1):=by omega
  rw [e1] at fU;rw [e2] at fU;obtain ⟨w',g',h1,h2⟩:=step k (by omega) R bI (by simpa using fU);exact ⟨w',g',by simpa [rep] using h1,h2⟩
 |succ n ih=>
  intro k m m' w g hk R bI fU;obtain ⟨m1,iC⟩:=Vj (.sl sz (es.take lo++zj (k+1) z++es.drop (lo+(k+1)))) bI;obtain ⟨w1,g1,h1,R1⟩:=step k (by omega) R bI iC;obtain ⟨w2,g2,h2,R2⟩:=ih (k+1) (by omega) R1 (Vi bI iC) (by rw [Vk iC];exact fU);refine ⟨w2,g2,?_,R2⟩;have e:rep (n+1+1) zv=zv++rep (n+1) zv:=by simp [rep,Zb]
  rw [e];refine Oh zv _ B _ 0 h1 ?_;rw [show O+k*sz+0+zv.length=O+(k+1)*sz by rw [kj,zq];omega];exact h2
theorem aaA (z:Array Value) (n:Nat):(Builtin.zeroCells z n).toList=rep n z.toList:=by
 by_cases hz:z.size=0
 ·have:z=#[]:=Array.eq_empty_of_size_eq_zero hz;subst this;simp [Builtin.zeroCells,rep]
 apply Zf;intro k;have hlen:(rep n z.toList).length=n*z.size:=by simp [rep]
 by_cases hk:k<n*z.size
 ·rw [NL z.toList n k (by simpa using hk)];have hm:k%z.size<z.size:=zT _ (by omega);simp [Builtin.zeroCells,hk,hm]
 ·rw [zY (by simp [Builtin.zeroCells];omega),zY (by rw [hlen];omega)]
theorem Uo (R:Rel w0 cl0 S a.tmps w g) {sz:Nat} {z:List D} {x:PX} {op:Op} {av:AV} {rt:Option Rt} {m':Ms}
 (hc:bf P κ (.mw sz z x) op=true) (h:ay Γ S.ev d S.ms (.mw sz z x)=some (av,rt,m')) (o:Oper) (ho:o.op=op):
 ∃v w',(execOp a.eval o).run P w=.ok (.value v) w'∧eX w0 cl0 S a.tmps d av rt m' v w':=by
 cases op with
 |call c=>?_
 |_=>simp [bf] at hc
 simp only [bf] at hc;split at hc
 ·rename_i oa t lf ew oV;simp only [zb] at hc;obtain ⟨h1,h3⟩:=hc;split at h3
  ·rename_i e he;split at h3
   ·rename_i zl s1 dI iW fa;simp only [zb,beq_iff_eq] at h3;obtain ⟨rfl,Ru⟩:=h3;obtain ⟨i,zv,hi,kj,ki,jD⟩:=sE iW;have g6:P.underlying t=some (.slice e):=by unfold hY at he;split at he<;>simp_all
    unfold gh at fa;rw [hi] at fa;simp at fa;obtain ⟨hl,hg⟩:=BZ z zl Ru;simp only [ay] at h;split at h
    ·rename_i r j p n8 lo fT hx;split at h
     ·rename_i wM es bI;split at h
      ·rename_i dA;obtain ⟨rfl,rfl,ae,mL,D1,MG,h_⟩:=dA;split at h
       ·rename_i m2 fU;simp at h;obtain ⟨rfl,rfl,rfl⟩:=h;have e1:=(b8 R h1).1;rw [hx] at e1;generalize x8:a.eval oa=vv at e1
        have DF:∀{m:Ms} {w:World} {g:Gh},Rel w0 cl0 { S with ms:=m } a.tmps w g→RA w g m (.rg r j p n8 lo fT) vv:=fun R2=>by
         have:=(b8 R2 h1).1;rw [x8] at this;have bJ:∀m,({ S with ms:=m }:St).ev x=S.ev x:=fun m=>by cases x<;>rfl
         rw [bJ,hx] at this;exact this
        obtain ⟨x0,mR⟩:=R.at bI;have iE:=mR.iR;have nK:S.ms.b_ r j p=false:=(gl bI).1;cases e1 with
        |rg _ _ _ _ _ _ bb nn cc hh=>
         have hv:=hh nK;rw [←iE] at hv;cases mR with
         |nil _ _ tc=>simp at mL;omega
         |sl _ _ _ b off cap vals E cq bq hlen cz hw hN gY=>
          have jZ:¬cap=lo:=by omega
          simp only [iY,if_neg jZ,zJ,Addr.add_lit,Value.slice.injEq] at hv;obtain ⟨rfl,rfl,rfl⟩:=hv
          obtain ⟨w',g',dC,R2⟩:=PU (P:=P) (a:=a) (S:=S) (zv:=zl) (es:=es) (lo:=lo) (hi:=fT) MG D1 (by omega) (fun x hx=>by
           obtain ⟨q,hq⟩:=zh.1 hx;have Ds:=bE hq;obtain ⟨dd,iS⟩:∃dd,z[q]?=some dd:=⟨_,zg (by omega)⟩;have RP:=xe (w:=w) (g:=g) (q:=q) (hg q dd x iS hq)
           exact RP.one (fun e=>by subst e;have:=zd.1 MG _ (za iS);simp [D.bF] at this))
           (fun {w g} q dd x iS hq=>xe (hg q dd x iS hq)) mL h_ DF (fT-lo-1) 0 (m:=S.ms) (m':=m2) (by omega) R (by simpa using bI) fU
          refine ⟨.tuple #[],w',?_,⟨g',R2,.a_ _ _ rfl (fun i a x hi=>by simp at hi),fun r hr=>by simp [AV.refs,AV.cA] at hr⟩⟩;obtain ⟨cs,hex⟩:=qO (a:=a) lf ew oV ho;have nJ:fT-lo-1+1=fT-lo:=by omega
          rw [nJ] at dC;rw [hex];obtain ⟨n',eC⟩:∃n',fT-lo=n'+1:=⟨fT-lo-1,by omega⟩;have rG:(Builtin.zeroCells zv.cells (n'+1)).toList=rep (n'+1) zl:=by rw [aaA,ki]
          simp only [zD,List.map_nil,x8];rw [eC];rw [eC] at dC;simp only [Nat.zero_mul,zN] at dC;simp [builtin,Builtin.clear_,run_underlying g6,zeroValue,typeInfo,hi,kj,rG,dC]
       ·cases h
      ·cases h
     ·cases h
    ·cases h
   ·cases h3
  ·cases h3
 ·cases hc
end
end
section
section
variable {P:Program} {κ:Nat→FuncId} {w0:World} {cl0:dv} {S:St} {w:World} {g:Gh} {a:Act} {Γ:Env} {d:Nat}
def uw (w:World) (g:Gh) (r j:Nat) (cs:List C) (vs:List Value):Prop:=
 cs.length=vs.length∧∀(i:Nat) (c:C) (x:Value),cs[i]?=some c→vs[i]?=some x→RC w g r (j+i) c x
def iM (w:World) (g:Gh) (r j:Nat):V→Value→Prop
 |.one c,v=>RC w g r j c v∧v.cells=#[v]
 |.st cs,v=>∃vs:Array Value,v=.agg vs∧uw w g r j cs vs.toList
 |_,_=>False
def ml (w:World) (g:Gh):Nat→List V→List Value→Prop
 |_,[],[]=>True
 |n,x::xs,v::vs=>iM w g 0 n x v∧ml w g (n+x.flat.length) xs vs
 |_,_,_=>False
def JK (w:World) (g:Gh) (r R:Nat) (cs:List C) (v:Value):Prop:=
 ∃b vals E,v=.pointer (some ⟨b,0,none⟩)∧g.cl b=.box R∧w.heap[b]?=some (.cells vals E)∧uw w g r 0 cs vals.toList
def kY (w:World) (g:Gh):V→Value→Prop
 |.a_ xs,v=>∃vs:Array Value,v=.tuple vs∧ml w g 0 xs vs.toList
 |.ptr cs,v=>∃R,JK w g 0 R cs v
 |x,v=>iM w g 0 0 x v
def jb (w:World) (g:Gh) (i:Nat):V→Value→Prop
 |.a_ _,_=>False
 |.ptr cs,v=>JK w g (i+1) i cs v
 |x,v=>iM w g (i+1) 0 x v∧(x.flat.any C.cY=true→∀(j:Nat) (y:Value),v.cells[j]?=some y→g.hd (i+1) j []=y)
structure Left (w:World) (g:Gh) (xs:List V) (args:Array Value) (us:List (Nat×Nat×C)) (w':World) (g':Gh):Prop where
 sd:eB w w'
 sz:w.heap.size≤w'.heap.size
 fr:∀b,b<w.heap.size→(g.cl b).ck=false→w'.heap[b]?=w.heap[b]?
 im:∀b k,g'.cl b=kc k↔g.cl b=kc k
 bd:∀b,g'.cl b≠.no→b<w'.heap.size
 mi:∀b,b<w.heap.size→(g'.cl b).ck=true→(g.cl b).ck=true
 up:∀i j c,(i,j,c)∈us→match xs[i]? with
  |some (.ptr _)=>∃b vals E x,args[i]?=some (.pointer (some ⟨b,0,none⟩))∧g'.cl b=.box i∧w'.heap[b]?=some (.cells vals E)∧vals.size≤us.length∧vals[j]?=some x∧RC w' g' (i+1) j c x
  |_=>∃v x,args[i]?=some v∧v.cells[j]?=some x∧RC w' g' (i+1) j c x
def OK (P:Program) (f:FuncId) (xs:List V) (r:V) (us:List (Nat×Nat×C)):Prop:=
 ∀(w:World) (args:Array Value) (g:Gh),args.size=xs.length→(∀b,g.cl b≠.no→b<w.heap.size)→
  (∀(i:Nat) (x:V) (v:Value),xs[i]?=some x→args[i]?=some v→jb w g i x v)→
  Calls P f args w fun e w'=>∃v g',e=.returned v∧kY w' g' r v∧Left w g xs args us w' g'
theorem B2:∀(xs:List PX) (os:List Operand),pO xs os=true→xs.length=os.length∧∀(i:Nat) (x:PX) (o:Operand),xs[i]?=some x→os[i]?=some o→b7 x o=true:=by
 intro xs;induction xs with
 |nil=>intro os h;cases os<;>simp [pO] at h ⊢
 |cons b bs ih=>
  intro os h;cases os with
  |nil=>simp [pO] at h
  |cons v vs=>
   simp only [pO,zb] at h;obtain ⟨h1,h2⟩:=ih vs h.2;refine ⟨by simp [h1],fun i c x hc hx=>?_⟩;cases i with
   |zero=>simp at hc hx;subst hc;subst hx;exact h.1
   |succ i=>exact h2 i c x (by simpa using hc) (by simpa using hx)
def Gh.de (g:Gh) (lent bl:Bool) (ex:Nat→Bool):Gh where
 cl:=fun b=>match g.cl b with
  |.iX=>.iX
  |.gn=>.gn
  |.own 0 _ _=>.no
  |.own (n+1) _ _=>if lent&&!ex n then .gn else .no
  |.box r=>if lent&&bl&&!ex r then .gn else .no
  |.no=>.no
 hd:=g.hd
 bk:=g.bk
theorem Gh.TU {lent bl:Bool} {ex:Nat→Bool} {b:Nat}:(g.de lent bl ex).cl b=.iX↔g.cl b=.iX:=by
 simp only [Gh.de];cases h:g.cl b with
 |own n j ρ=>cases n<;>simp<;>split<;>simp
 |box r=>simp;split<;>simp
 |_=>simp
theorem Gh.ye {lent bl:Bool} {ex:Nat→Bool} {b:Nat} {k:Bool} (h:g.cl b=kc k):(g.de lent bl ex).cl b=kc k:=by
 cases k<;>simp [kc] at h ⊢<;>simp [Gh.de,h]
theorem Gh.yf {lent bl:Bool} {ex:Nat→Bool} {b:Nat}:((g.de lent bl ex).cl b).ck=false:=by
 simp only [Gh.de];cases h:g.cl b with
 |own n j ρ=>
  cases n with
  |zero=>rfl
  |succ n=>simp only;split<;>rfl
 |box r=>simp only;split<;>rfl
 |_=>rfl
theorem Gh.D9 {lent bl:Bool} {ex:Nat→Bool} {b:Nat} {k:Bool} (hk:k=false∨lent=false) (h:(g.de lent bl ex).cl b=kc k):g.cl b=kc k:=by
 simp only [Gh.de] at h;revert h;cases hg:g.cl b with
 |own n j ρ=>rcases hk with rfl|rfl<;>cases n<;>simp [kc]<;>first|(split<;>simp;done)|(cases k<;>simp [kc];done)
 |box r=>rcases hk with rfl|rfl<;>simp [kc]<;>first|(split<;>simp;done)|(cases k<;>simp [kc];done)
 |no=>cases k<;>simp [kc]
 |iX=>simp
 |gn=>simp
theorem Gh.D_ {lent bl:Bool} {ex:Nat→Bool} {b:Nat} (h:g.cl b=.no):(g.de lent bl ex).cl b=.no:=by
 simp [Gh.de,h]
theorem Vx:∀{cs:List C} {ds:List D},qA cs=some ds→ds.length=cs.length∧∀(i:Nat) (d:D),ds[i]?=some d→∃k,cs[i]?=some (.ro k d)∧(k=true∨d.bF=true):=by
 intro cs;induction cs with
 |nil=>intro ds h;simp [qA] at h;subst h;exact ⟨rfl,fun i d h=>by simp at h⟩
 |cons c cs ih=>
  intro ds h;cases c with
  |ro k d=>
   simp only [qA] at h;split at h
   ·rename_i hk;split at h
    ·rename_i Cm h2;simp at h;subst h;obtain ⟨h3,h4⟩:=ih h2;refine ⟨by simp [h3],fun i d' hd=>?_⟩;cases i with
     |zero=>simp at hd;subst hd;exact ⟨k,rfl,by simpa using hk⟩
     |succ i=>exact h4 i d' (by simpa using hd)
    ·cases h
   ·cases h
  |own d=>simp [qA] at h
  |rf r j=>simp [qA] at h
theorem TJ:∀{cs:List C} {ds:List D},o9 cs=some ds→ds.length=cs.length∧∀(i:Nat) (d:D),ds[i]?=some d→(∃k,cs[i]?=some (.ro k d)∧(k=true∨d.bF=true))∨cs[i]?=some (.own d):=by
 intro cs;induction cs with
 |nil=>intro ds h;simp [o9] at h;subst h;exact ⟨rfl,fun i d h=>by simp at h⟩
 |cons c cs ih=>
  intro ds h;cases c with
  |ro k d=>
   simp only [o9] at h;split at h
   ·rename_i hk;split at h
    ·rename_i Cm h2;simp at h;subst h;obtain ⟨h3,h4⟩:=ih h2;refine ⟨by simp [h3],fun i d' hd=>?_⟩;cases i with
     |zero=>simp at hd;subst hd;exact .inl ⟨k,rfl,by simpa using hk⟩
     |succ i=>exact h4 i d' (by simpa using hd)
    ·cases h
   ·cases h
  |own d=>
   simp only [o9] at h;split at h
   ·rename_i Cm h2;simp at h;subst h;obtain ⟨h3,h4⟩:=ih h2;refine ⟨by simp [h3],fun i d' hd=>?_⟩;cases i with
    |zero=>simp at hd;subst hd;exact .inr rfl
    |succ i=>exact h4 i d' (by simpa using hd)
   ·cases h
  |rf r j=>simp [o9] at h
theorem RO.bF {w:World} {cl cl':Nat→cG} {k k':Bool} {d:D} {x:Value} (h:RO w cl k d x) (hs:d.bF=true):RO w cl' k' d x:=by
 cases h<;>first|exact .int _ _|exact .bool _|exact .str _|(simp [D.bF] at hs)
theorem Kc (R:Rel w0 cl0 S a.tmps w g) {av:AV} {x:Value} {c:C} {lent bl:Bool} {ex:Nat→Bool} (ha:RA w g S.ms av x) (h:kA S.ms av=some c)
 (hl:av.vD=true→lent=true) (hb:av.vC=true→bl=true) (hex:∀r∈av.refs,ex r=false) (i j:Nat):
 RC w (g.de lent bl ex) (i+1) j c x∧c.cY=false∧x.cells=#[x]∧c.bA=true:=by
 have c_:∀b k,g.cl b=kc k→w.heap[b]?=w.heap[b]?∧(g.de lent bl ex).cl b=kc k:=fun b k h=>⟨rfl,Gh.ye h⟩
 unfold kA at h;split at h
 ·cases h
 ·rename_i k dd hd;simp at h;subst h;refine ⟨?_,rfl,?_,rfl⟩
  ·cases ha with
   |v _ _ _ hr=>exact .ro _ _ _ (hr.mono fun b hc=>c_ b _ hc)
  ·cases ha with
   |v _ _ _ hr=>cases hr<;>first|rfl|exact absurd rfl hd
 ·simp at h;subst h;cases ha with
  |nl=>exact ⟨.ro _ _ _ (.emp _ _ _),rfl,rfl,rfl⟩
 ·rename_i r j0 p;split at h
  ·rename_i sz es bI;simp at h;subst h;cases ha with
   |pl _ _ _ b n c hx=>
    obtain ⟨x0,ho⟩:=R.at bI;have:=hx (gl bI).1;have:=ho.iR;subst this;rw [hx (gl bI).1];refine ⟨.ro _ _ _ (ho.borrow fun b ρ hb=>⟨rfl,?_⟩),rfl,?_,rfl⟩
    ·simp [Gh.de,hb,hl rfl,hex r (by simp [AV.refs])]
    ·obtain ⟨_,_,_,e⟩:=ho.slice;rw [e];rfl
  ·cases h
 ·rename_i r j0 p sz lo hi;split at h
  ·rename_i es q_;simp at h;subst h;obtain ⟨mC,bI,h1,h2,rfl⟩:=xk q_;cases ha with
   |rg _ _ _ _ _ _ b n c hx=>
    obtain ⟨x0,ho⟩:=R.at bI;have hk:=(gl bI).1;have:=ho.iR;subst this;have br:=ho.borrow (cl':=(g.de lent bl ex).cl) (w':=w) (fun b ρ hb=>⟨rfl,by simp [Gh.de,hb,hl rfl,hex r (by simp [AV.refs])]⟩);obtain ⟨b1,n1,c1,e⟩:=ho.slice;rw [e] at br;have:=(NO (g:=g.de lent bl ex) br h1 h2).2;rw [hx hk,e];exact ⟨.ro _ _ _ this,rfl,rfl,rfl⟩
  ·cases h
 ·rename_i f r;split at h
  ·rename_i cs hm;split at h
   ·rename_i d0 ds iB;simp at h;subst h;cases ha;obtain ⟨bq,vals,E,hw,kg,ql⟩:=R.rt r _ hm;obtain ⟨hlen,bL⟩:=Vx iB;refine ⟨.ro _ _ _ (.sR f (d0::ds) (g.bk r) (by simp) ?_ (fun i hi=>?_) (fun i d' x hd hx=>?_)),rfl,rfl,rfl⟩
    ·simp [Gh.de,bq,hl rfl,hb rfl,kc,hex r (by simp [AV.refs])]
    ·rw [lH hw];have:i<vals.size:=by rw [kg,←hlen];exact hi
     simp [this]
    ·rw [lH hw] at hx;obtain ⟨k,h1,h2⟩:=bL i d' hd;have h3:=ql i _ x h1 hx;cases h3 with
     |ro _ _ _ h4=>
      rcases h2 with rfl|h2
      ·exact h4.mono fun b hc=>c_ b _ hc
      ·exact h4.bF h2
   ·cases h
  ·cases h
 ·rename_i r;split at h
  ·rename_i cs hm;split at h
   ·rename_i d0 ds iB;simp at h;subst h;cases ha;obtain ⟨bq,vals,E,hw,kg,ql⟩:=R.rt r _ hm;obtain ⟨hlen,bL⟩:=TJ iB;refine ⟨.ro _ _ _ (.rp (d0::ds) (g.bk r) (by simp) ?_ (fun i hi=>?_) (fun i d' x hd hx=>?_)),rfl,rfl,rfl⟩
    ·simp [Gh.de,bq,hl rfl,hb rfl,kc,hex r (by simp [AV.refs])]
    ·rw [lH hw];have:i<vals.size:=by rw [kg,←hlen];exact hi
     simp [this]
    ·rw [lH hw] at hx;rcases bL i d' hd with ⟨k,h1,h2⟩|h1
     ·have h3:=ql i _ x h1 hx;cases h3 with
      |ro _ _ _ h4=>
       rcases h2 with rfl|h2
       ·exact h4.mono fun b hc=>c_ b _ hc
       ·exact h4.bF h2
     ·have h3:=ql i _ x h1 hx;cases h3 with
      |own _ _ h4=>exact h4.borrow fun b ρ hb=>⟨rfl,by simp [Gh.de,hb,hl rfl,hex r (by simp [AV.refs])]⟩
   ·cases h
  ·cases h
 ·cases h
theorem Pu (R:Rel w0 cl0 S a.tmps w g) {lent bl:Bool} {ex:Nat→Bool} (i:Nat):∀(as:List AV) (vs:List Value) (cs:List C) (j:Nat),as.length=vs.length→
 (∀(k:Nat) (av:AV) (x:Value),as[k]?=some av→vs[k]?=some x→RA w g S.ms av x)→kB S.ms as=some cs→
 ((AV.agg as).lent=true→lent=true)→((AV.agg as).kH=true→bl=true)→(∀r∈AV.cA as,ex r=false)→
 cs.length=vs.length∧(∀(k:Nat) (c:C) (x:Value),cs[k]?=some c→vs[k]?=some x→RC w (g.de lent bl ex) (i+1) (j+k) c x)∧cs.any C.cY=false∧cs.all C.bA=true:=by
 intro as;induction as with
 |nil=>intro vs cs j hl ch h oL oI hex;simp [kB] at h;subst h;cases vs<;>simp at hl ⊢
 |cons av as ih=>
  intro vs cs j hl ch h oL oI hex;cases vs with
  |nil=>simp at hl
  |cons v vs=>
   simp only [kB] at h;cases h1:kA S.ms av with
   |none=>simp [h1] at h
   |some c=>
    simp only [h1] at h;cases h2:kB S.ms as with
    |none=>simp [h2] at h
    |some jt=>
     simp only [h2] at h;simp at h;subst h
     have Se:av.vD=true→lent=true:=fun hh=>oL (by
      simp only [AV.lent,zH,zz];left;exact hh)
     have Sf:(AV.agg as).lent=true→lent=true:=fun hh=>oL (by
      simp only [AV.lent,zH,zz] at hh ⊢;right;exact hh)
     have RK:av.vC=true→bl=true:=fun hh=>oI (by
      simp only [AV.kH,zH,zz];left;exact hh)
     have RL:(AV.agg as).kH=true→bl=true:=fun hh=>oI (by
      simp only [AV.kH,zH,zz] at hh ⊢;right;exact hh)
     obtain ⟨k1,k2,k3,k4⟩:=Kc R (ch 0 av v rfl rfl) h1 Se RK (fun r hr=>hex r (by simp [AV.cA,hr])) i j;obtain ⟨q1,q2,q3,q4⟩:=ih vs jt (j+1) (by simpa using hl) (fun k av x hk hx=>ch (k+1) av x hk hx) h2 Sf RL (fun r hr=>hex r (by simp [AV.cA,hr]));refine ⟨by simp [q1],fun k c' x hc hx=>?_,by simp [k2,q3],by simp [k4,q4]⟩;cases k with
     |zero=>simp at hc hx;subst hc;subst hx;exact k1
     |succ k=>
      have:=q2 k c' x hc hx;rwa [show j+(k+1)=j+1+k from by omega]
theorem Pk (R:Rel w0 cl0 S a.tmps w g) {av:AV} {v:Value} {x:V} {lent bl:Bool} {ex:Nat→Bool} (ha:RA w g S.ms av v) (h:jq S.ms false av=some x) (hl:av.lent=true→lent=true) (hb:av.kH=true→bl=true) (hex:∀r∈av.refs,ex r=false) (i:Nat):
 jb w (g.de lent bl ex) i x v:=by
 cases av with
 |agg as=>
  simp only [jq,zO,if_false] at h;cases h1:kB S.ms as with
  |none=>simp [h1] at h
  |some cs=>
   simp [h1] at h;subst h;cases ha with
   |agg _ vs hlen ch=>
    obtain ⟨q1,q2,q3,_⟩:=Pu (lent:=lent) (bl:=bl) (ex:=ex) R i as vs.toList cs 0 (by simpa using hlen) (fun k av x hk hx=>ch k av x hk (by simpa using hx)) h1 hl hb hex;exact ⟨⟨vs,rfl,q1,q2⟩,fun h=>by simp only [V.flat] at h;rw [q3] at h;cases h⟩
 |_=>
  simp only [jq,zO,if_false] at h;split at h
  ·rename_i c hc;simp at h;subst h;obtain ⟨k1,k2,k3,_⟩:=Kc (lent:=lent) (bl:=bl) (ex:=ex) R ha hc hl hb hex i 0;exact ⟨⟨k1,k3⟩,fun h=>by simp [V.flat,k2] at h⟩
  ·cases h
end
end
section
section
variable {P:Program} {κ:Nat→FuncId} {w0:World} {cl0:dv} {S:St} {w:World} {g:Gh} {a:Act} {Γ:Env} {d:Nat}
theorem Rel.grow (R:Rel w0 cl0 S a.tmps w g) {w':World} {g':Gh} (hp:∀b,b<w.heap.size→w'.heap[b]?=w.heap[b]?) (hs:w.heap.size≤w'.heap.size) (dL:eB w w')
 (bq:∀b,b<w.heap.size→g'.cl b=g.cl b) (e_:∀b,w.heap.size≤b→g'.cl b=.no) (cq:g'.hd=g.hd) (iP:g'.bk=g.bk):Rel w0 cl0 S a.tmps w' g':=by
 have ae:∀b c,g.cl b=c→c≠.no→w'.heap[b]?=w.heap[b]?∧g'.cl b=c:=fun b c h hc=>by
  have:=R.bd b (by rw [h];exact hc);exact ⟨hp b this,by rw [bq b this,h]⟩
 have c_:∀b k,g.cl b=kc k→w'.heap[b]?=w.heap[b]?∧g'.cl b=kc k:=fun b k h=>ae b _ h (by cases k<;>simp [kc])
 have Rv:∀b c,c≠.no→(g'.cl b=c↔g.cl b=c):=fun b c hc=>by
  rcases zL b w.heap.size with h|h
  ·rw [bq b h]
  ·rw [e_ b h];refine ⟨fun e=>absurd e.symm hc,fun e=>?_⟩;have:=R.bd b (by rw [e];exact hc);omega
 refine { av:=fun n=>(R.av n).mono c_ (fun r _=>⟨by rw [iP],fun j p hk=>⟨hk,by rw [cq]⟩⟩),rt:=fun n rt h=>?_,eT:=R.eT,eA:=R.eA,
          bd:=fun b h=>?_,sz:=Zc R.sz hs,fr:=fun b hb hm=>?_,im:=fun b k=>(Rv b _ (by cases k<;>simp [kc])).trans (R.im b k),mi:=fun b hb hm=>?_,sd:=R.sd.trans dL,
          fK:=fun i hi=>(by have h:=R.fK i hi;unfold wS at h ⊢;rw [cq,iP];exact h) }
 ·have h0:=R.rt n rt h;refine h0.mono c_ (fun b j ρ hb=>ae b _ hb (by simp)) (fun cs cC=>?_) (fun j ρ=>by rw [cq]) (fun _ _ _ _=>by rw [cq]);subst cC;have:=ae _ _ h0.1 (by simp);exact ⟨by rw [iP],this.1,by rw [this.2,h0.1]⟩
 ·rcases zL b w.heap.size with h1|h1
  ·omega
  ·exact absurd (e_ b h1) h
 ·rw [hp b (zA hb R.sz)];exact R.fr b hb hm
 ·rw [bq b (zA hb R.sz)] at hm;exact R.mi b hb hm
def V.vals:V→Value→List Value
 |.a_ _,v=>match v with
  |.tuple vs=>vs.toList.flatMap fun x=>x.cells.toList
  |_=>[]
 |_,v=>v.cells.toList
def V.eu:V→List C
 |.a_ xs=>xs.flatMap V.flat
 |x=>x.flat
theorem qL {w:World} {g:Gh} {r j:Nat} {x:V} {v:Value} (h:iM w g r j x v):uw w g r j x.flat v.cells.toList:=by
 cases x with
 |one c=>
  obtain ⟨h1,h2⟩:=h;rw [h2];refine ⟨rfl,fun i c' y hc hy=>?_⟩;cases i with
  |zero=>simp [V.flat] at hc hy;subst hc;subst hy;exact h1
  |succ i=>simp [V.flat] at hc
 |st cs=>
  obtain ⟨vs,rfl,h2⟩:=h;exact h2
 |ptr=>exact h.elim
 |a_=>exact h.elim
theorem O_ {w:World} {g:Gh}:∀(xs:List V) (vs:List Value) (n:Nat),ml w g n xs vs→uw w g 0 n (xs.flatMap V.flat) (vs.flatMap fun x=>x.cells.toList):=by
 intro xs;induction xs with
 |nil=>intro vs n h;cases vs<;>simp [ml] at h;exact ⟨rfl,fun i c x hc=>by simp at hc⟩
 |cons x xs ih=>
  intro vs n h;cases vs with
  |nil=>simp [ml] at h
  |cons v vs=>
   simp only [ml] at h;obtain ⟨h1,h2⟩:=qL h.1;obtain ⟨h3,h4⟩:=ih vs _ h.2;refine ⟨by simp [h1,h3] at *,fun i c y hc hy=>?_⟩
   ·simp only [zo] at hc hy;by_cases hi:i<x.flat.length
    ·rw [zf hi] at hc;rw [zf (by omega)] at hy;exact h2 i c y hc hy
    ·rw [ze (by omega)] at hc hy;have:=h4 (i-x.flat.length) c y hc (by rwa [h1]);rwa [show n+x.flat.length+(i-x.flat.length)=n+i from by omega] at this
theorem wU {w:World} {g:Gh} {x:V} {v:Value} (h:kY w g x v) (hn:∀cs,x≠.ptr cs):uw w g 0 0 x.eu (x.vals v):=by
 cases x with
 |a_ xs=>
  obtain ⟨vs,rfl,h2⟩:=h;exact O_ xs vs.toList 0 h2
 |ptr cs=>exact absurd rfl (hn cs)
 |one c=>exact qL (x:=.one c) h
 |st cs=>exact qL (x:=.st cs) h
theorem Ta {m:Ms}:∀(cs:List C) (vs:List Value) (n:Nat),cs.length=vs.length→(∀(i:Nat) (c:C) (x:Value),cs[i]?=some c→vs[i]?=some x→RA w g m (iI d (n+i) c) x)→
 (lT d n cs).length=vs.length∧∀(i:Nat) (b:AV) (x:Value),(lT d n cs)[i]?=some b→vs[i]?=some x→RA w g m b x:=by
 intro cs;induction cs with
 |nil=>intro vs n hl h;cases vs<;>simp [lT] at hl ⊢
 |cons c cs ih=>
  intro vs n hl h;cases vs with
  |nil=>simp at hl
  |cons v vs=>
   obtain ⟨h1,h2⟩:=ih vs (n+1) (by simpa using hl) (fun i c' x hc hx=>by
    have:=h (i+1) c' x hc hx
    rwa [show n+(i+1)=n+1+i from by omega] at this)
   refine ⟨by simp [lT,h1],fun i b x hb hx=>?_⟩;cases i with
   |zero=>simp [lT] at hb hx;subst hb;subst hx;exact h 0 c v rfl rfl
   |succ i=>exact h2 i b x (by simpa [lT] using hb) (by simpa using hx)
theorem x_ {m:Ms} {x:V} {v:Value} {n:Nat} {w1:World} {g1:Gh} {r:Nat} (h:iM w1 g1 r n x v)
 (hc:∀(i:Nat) (c:C) (y:Value),x.flat[i]?=some c→v.cells[i]?=some y→RA w g m (iI d (n+i) c) y):RA w g m (oZ d n x) v:=by
 cases x with
 |one c=>
  obtain ⟨h1,h2⟩:=h;exact hc 0 c v rfl (by rw [h2];rfl)
 |st cs=>
  obtain ⟨vs,rfl,hl,_⟩:=h
  obtain ⟨h3,h4⟩:=Ta (w:=w) (g:=g) (m:=m) (d:=d) cs vs.toList n hl (fun i c y h5 h6=>hc i c y h5 (by
   show (Value.agg vs).cells[i]?=some y
   simpa [Value.cells] using h6))
  exact .agg _ _ (by simpa using h3) (fun i b y h5 h6=>h4 i b y h5 (by simpa using h6))
 |ptr=>exact h.elim
 |a_=>exact h.elim
theorem Tb {m:Ms} {w1:World} {g1:Gh}:∀(xs:List V) (vs:List Value) (n:Nat),ml w1 g1 n xs vs→
 (∀(i:Nat) (c:C) (y:Value),(xs.flatMap V.flat)[i]?=some c→(vs.flatMap fun x=>x.cells.toList)[i]?=some y→RA w g m (iI d (n+i) c) y)→
 (lU d n xs).length=vs.length∧∀(i:Nat) (b:AV) (x:Value),(lU d n xs)[i]?=some b→vs[i]?=some x→RA w g m b x:=by
 intro xs;induction xs with
 |nil=>intro vs n h hc;cases vs<;>simp [ml] at h;simp [lU]
 |cons x xs ih=>
  intro vs n h hc;cases vs with
  |nil=>simp [ml] at h
  |cons v vs=>
   simp only [ml] at h;obtain ⟨h1,h2⟩:=qL h.1
   obtain ⟨h3,h4⟩:=ih vs _ h.2 (fun i c y dG hy=>by
    have:=hc (x.flat.length+i) c y (by
     simp only [zo]
     rw [ze (by omega),show x.flat.length+i-x.flat.length=i from by omega];exact dG) (by
     simp only [zo]
     rw [ze (by omega),show x.flat.length+i-v.cells.toList.length=i from by omega];exact hy)
    rwa [←zr] at this)
   refine ⟨by simp [lU,h3],fun i b y hb hy=>?_⟩;cases i with
   |zero=>
    simp [lU] at hb hy;subst hb;subst hy;refine x_ h.1 (fun i c y dG hy=>hc i c y ?_ ?_)
    ·simp only [zo];rw [zf (bE dG)];exact dG
    ·simp only [zo];have:i<v.cells.toList.length:=by have:=bE dG;omega
     rw [zf this];simpa using hy
   |succ i=>exact h4 i b y (by simpa [lU] using hb) (by simpa using hy)
theorem qm {m:Ms} {x:V} {v:Value} {w1:World} {g1:Gh} (h:kY w1 g1 x v) (hn:∀cs,x≠.ptr cs)
 (hc:∀(i:Nat) (c:C) (y:Value),x.eu[i]?=some c→(x.vals v)[i]?=some y→RA w g m (iI d i c) y):RA w g m (imp d x).1 v:=by
 cases x with
 |a_ xs=>
  obtain ⟨vs,rfl,h2⟩:=h;obtain ⟨h3,h4⟩:=Tb (w:=w) (g:=g) (m:=m) (d:=d) xs vs.toList 0 h2 (fun i c y h5 h6=>by rw [zk];exact hc i c y h5 h6);exact .a_ _ _ (by simpa using h3) (fun i b y h5 h6=>h4 i b y h5 (by simpa using h6))
 |ptr cs=>exact absurd rfl (hn cs)
 |one c=>exact x_ (x:=.one c) (n:=0) h (fun i c y h5 h6=>by rw [zk];exact hc i c y h5 (by simpa [V.vals] using h6))
 |st cs=>exact x_ (x:=.st cs) (n:=0) h (fun i c y h5 h6=>by rw [zk];exact hc i c y h5 (by simpa [V.vals] using h6))
theorem Jd {d n r:Nat} {c:C} (h:r∈(iI d n c).refs) (hn:c.bA=true):r=d∧c.cY=true:=by
 cases c with
 |ro k dd=>simp [iI,ym] at h
 |own dd=>
  simp only [iI,ou] at h;split at h
  ·simp [AV.refs] at h;exact ⟨h,by simp [C.cY,D.bF]⟩
  ·simp [AV.refs] at h
  ·simp [AV.refs] at h
 |rf=>simp [C.bA] at hn
theorem MH:∀(cs:List C) (n r:Nat),cs.all C.bA=true→r∈AV.cA (lT d n cs)→r=d∧cs.any C.cY=true:=by
 intro cs;induction cs with
 |nil=>intro n r _ h;simp [lT,AV.cA] at h
 |cons c cs ih=>
  intro n r hn h;simp only [Za,zb] at hn;simp only [lT,AV.cA,zw] at h;rcases h with h|h
  ·obtain ⟨h1,h2⟩:=Jd h hn.1;exact ⟨h1,by simp [h2]⟩
  ·obtain ⟨h1,h2⟩:=ih _ r hn.2 h;exact ⟨h1,by simp [h2]⟩
theorem Tc:∀(xs:List V) (n r:Nat),xs.all V.qy=true→r∈AV.cA (lU d n xs)→r=d∧(xs.flatMap V.flat).any C.cY=true:=by
 intro xs;induction xs with
 |nil=>intro n r _ h;simp [lU,AV.cA] at h
 |cons x xs ih=>
  intro n r hn h;simp only [Za,zb] at hn;simp only [lU,AV.cA,zw] at h;rcases h with h|h
  ·have:r=d∧x.flat.any C.cY=true:=by
    cases x with
    |one c=>obtain ⟨h1,h2⟩:=Jd h hn.1;exact ⟨h1,by simp [V.flat,h2]⟩
    |st cs=>exact MH cs n r hn.1 (by simpa [oZ,AV.refs] using h)
    |_=>simp [V.qy] at hn
   exact ⟨this.1,by simp only [zo,zW,this.2,Bool.true_or]⟩
  ·obtain ⟨h1,h2⟩:=ih _ r hn.2 h;exact ⟨h1,by simp only [zo,zW,h2,Bool.or_true]⟩
theorem wC {x:V} (h:x.plain=true) (hn:∀cs,x≠.ptr cs):x.eu.all C.bA=true:=by
 cases x with
 |one c=>simpa [V.eu,V.flat,V.plain,V.qy] using h
 |st cs=>simpa [V.eu,V.flat,V.plain,V.qy] using h
 |ptr cs=>exact absurd rfl (hn cs)
 |a_ xs=>
  simp only [V.plain] at h;simp only [V.eu];rw [Zj];refine zd.2 (fun x hx=>?_);have:=zd.1 h x hx;cases x<;>simp_all [V.qy,V.flat]
theorem yq {x:V} (h:x.bB=true) (hn:∀cs,x≠.ptr cs):x.eu.all C.bB=true:=by
 cases x with
 |one c=>simpa [V.eu,V.flat,V.bB,V.pb] using h
 |st cs=>simpa [V.eu,V.flat,V.bB,V.pb] using h
 |ptr cs=>exact absurd rfl (hn cs)
 |a_ xs=>
  simp only [V.bB] at h;simp only [V.eu];rw [Zj];refine zd.2 (fun x hx=>?_);have:=zd.1 h x hx;cases x<;>simp_all [V.pb,V.flat]
theorem o6 {x:V} (h:x.plain=true) (hn:∀cs,x≠.ptr cs) {r:Nat} (hr:r∈(imp d x).1.refs):r=d∧x.eu.any C.cY=true:=by
 cases x with
 |one c=>exact (fun h=>⟨h.1,by simp [V.eu,V.flat,h.2]⟩) (Jd hr h)
 |st cs=>exact MH cs 0 r h (by simpa [imp,oZ,AV.refs] using hr)
 |ptr cs=>exact absurd rfl (hn cs)
 |a_ xs=>exact Tc xs 0 r h (by simpa [imp,AV.refs] using hr)
theorem rH {x:V} (hn:∀cs,x≠.ptr cs):(imp d x).2=if x.eu.any C.cY then some (.an x.eu) else none:=by
 cases x with
 |ptr cs=>exact absurd rfl (hn cs)
 |_=>rfl
def Gh.im (g g':Gh) (d size bR:Nat) (X:Nat→Value):Gh where
 cl:=fun b=>if b<size then g.cl b else match g'.cl b with
  |.own 0 j ρ=>.own (d+1) j ρ
  |.box _=>if b=bR then .box d else .no
  |_=>.no
 hd:=fun r j ρ=>if r=d+1 then (if ρ=[] then X j else g'.hd 0 j ρ) else g.hd r j ρ
 bk:=az g.bk d bR
theorem ek.im (dU:∀b,g.cl b≠.no→b<w.heap.size) {w':World} {g':Gh} {bR:Nat} {X:Nat→Value} (hp:∀b,b<w.heap.size→w'.heap[b]?=w.heap[b]?) (hs:w.heap.size≤w'.heap.size) (dL:eB w w')
 (uO:∀b,g'.cl b≠.no→b<w'.heap.size):ek d w w' g (g.im g' d w.heap.size bR X):=by
 refine { hp:=fun b h _=>hp b h,hs:=hs,kc:=fun b k=>?_,cl:=fun b n j ρ h hn=>?_,bx:=fun b n h hn=>?_,hd:=fun n j ρ hn=>by simp [Gh.im,hn],
          bk:=fun n hn=>by simp [Gh.im,az,hn],bd:=fun b h=>?_,mi:=fun b hb h=>by simpa [Gh.im,hb] using h,sd:=dL }
 ·by_cases hb:b<w.heap.size
  ·simp [Gh.im,hb]
  ·have:g.cl b=.no:=by
    by_cases h:g.cl b=.no
    ·exact h
    ·exact absurd (dU b h) hb
   rw [this];simp only [Gh.im,if_neg hb];split<;>first|(cases k<;>simp [OM.kc];done)|(split<;>cases k<;>simp [OM.kc])
 ·have:=dU b (by rw [h];simp);simp [Gh.im,this,h]
 ·have:=dU b (by rw [h];simp);simp [Gh.im,this,h]
 ·by_cases hb:b<w.heap.size
  ·left;simpa [Gh.im,hb] using h
  ·right;refine ⟨by omega,uO b (fun e=>?_)⟩;simp [Gh.im,hb,e] at h
theorem Ki (R:Rel w0 cl0 S a.tmps w g) {lent bl:Bool} {ex:Nat→Bool} {xs:List V} {args:Array Value} {r:V} {w':World} {g':Gh} {v:Value} (bZ:r.plain=true) (dm:(r.bB||!lent)=true)
 (hr:kY w' g' r v) (hL:Left w (g.de lent bl ex) xs args [] w' g') (hn:((imp d r).2).isSome→(S.ms d).1=none):
 eX w0 cl0 S a.tmps d (imp d r).1 (imp d r).2 S.ms v w':=by
 have hp:∀b,b<w.heap.size→w'.heap[b]?=w.heap[b]?:=fun b hb=>hL.fr b hb Gh.yf
 have Mf:∀b,b<w.heap.size→(g'.cl b).ck=false:=fun b hb=>by
  cases h:(g'.cl b).ck
  ·rfl
  ·have:=hL.mi b hb h;rw [Gh.yf] at this;cases this
 have RU:∀b,g'.cl b=.iX→b<w.heap.size∧g.cl b=.iX:=fun b h=>by
  have:=Gh.TU.1 ((hL.im b false).1 h);exact ⟨R.bd b (by rw [this];simp),this⟩
 have Rm:lent=false→∀b,g'.cl b=.gn→b<w.heap.size∧g.cl b=.gn:=fun hl b h=>by
  have h1:=(hL.im b true).1 h;have:g.cl b=.gn:=Gh.D9 (k:=true) (.inr hl) h1;exact ⟨R.bd b (by rw [this];simp),this⟩
 have br:∀{g2:Gh} {k:Bool} {dd:D} {x:Value},(∀b,b<w.heap.size→g2.cl b=g.cl b)→RO w' g'.cl k dd x→(C.ro k dd).bB=true∨lent=false→RO w' g2.cl k dd x:=by
  intro g2 k dd x bM h ho;cases k with
  |false=>exact h.mono fun b hb=>⟨rfl,by obtain ⟨h1,h2⟩:=RU b hb;rw [bM b h1,h2];rfl⟩
  |true=>
   rcases ho with ho|ho
   ·simp only [C.bB,Bool.not_true,Zn] at ho;cases h with
    |int=>exact .int _ _
    |bool=>exact .bool _
    |str=>exact .str _
    |_=>simp [D.bF] at ho
   ·exact h.mono fun b hb=>⟨rfl,by obtain ⟨h1,h2⟩:=Rm ho b hb;rw [bM b h1,h2];rfl⟩
 have oP:∀{g2:Gh} {n r1 j1:Nat} {dd:D} {x:Value},(∀b ρ,w.heap.size≤b→g'.cl b=.own 0 n ρ→g2.cl b=.own r1 j1 ρ)→(∀ρ,ρ≠[]→g2.hd r1 j1 ρ=g'.hd 0 n ρ)→(g2.hd r1 j1 []=x)→
  OW w' g' 0 n [] dd x→OW w' g2 r1 j1 [] dd x:=by
  intro g2 n r1 j1 dd x h1 h2 h3 h
  have au:∀b ρ,g'.cl b=.own 0 n ρ→w.heap.size≤b:=fun b ρ hb=>by
   rcases zL b w.heap.size with h|h
   ·have:=Mf b h;rw [hb] at this;cases this
   ·exact h
  exact Hd.place (w:=w') (g:=g') (.inl h) (fun b ρ hb=>⟨rfl,by simpa using h1 b ρ (au b ρ hb) hb⟩) (fun ρ g7=>by simpa using h2 ρ g7) h3
 by_cases jB:∃cs,r=.ptr cs
 ·obtain ⟨cs,rfl⟩:=jB;obtain ⟨Rn,b,vals,E,rfl,bq,ey,jZ,bW⟩:=hr
  have p_:w.heap.size≤b:=by
   rcases zL b w.heap.size with h|h
   ·have:=Mf b h;rw [bq] at this;cases this
   ·exact h
  have H:=ek.im (d:=d) (g:=g) (g':=g') (w:=w) (w':=w') (bR:=b) (X:=fun j=>vals.getD j undef) R.bd hp hL.sz hL.sd hL.bd;simp only [imp] at hn ⊢;have eL:=hn rfl;simp only [V.plain] at bZ
  have dp:∀(j:Nat) (c:C) (x:Value),cs[j]?=some c→vals[j]?=some x→RC w' (g.im g' d w.heap.size b fun j=>vals.getD j undef) (d+1) j c x:=by
   intro j c x hc hx;have h5:=bW j c x hc (by simpa using hx);rw [zk] at h5;have e_:=zd.1 bZ c (za hc)
   have jh:c.bB=true∨lent=false:=by
    rcases zz _ _▸dm with h|h
    ·simp only [V.bB,V.pb] at h;exact .inl (zd.1 h c (za hc))
    ·right;simpa using h
   cases h5 with
   |ro k dd _ h6=>exact .ro _ _ _ (br (fun b hb=>by simp [Gh.im,hb]) h6 jh)
   |own dd _ h6=>
    refine .own _ _ (oP (fun b ρ hb h7=>?_) (fun ρ g7=>by simp [Gh.im,g7]) ?_ h6)
    ·have:¬b<w.heap.size:=by omega
     simp [Gh.im,this,h7]
    ·simp [Gh.im,zC,hx]
   |rf=>simp [C.bA] at e_
  refine ⟨_,R.fresh (rt:=.bx cs) eL H ⟨?_,vals,E,?_,by simpa using jZ.symm,dp⟩ (fun j r1 j1 hj=>?_),?_,fun q hq=>?_⟩
  ·have:¬b<w.heap.size:=by omega
   simp [Gh.im,az,this,bq]
  ·simp only [Gh.im,g_];exact ey
  ·have:=zd.1 bZ _ (za hj);simp [C.bA] at this
  ·have nD:=RA.bx (w:=w') (g:=g.im g' d w.heap.size b fun j=>vals.getD j undef) (m:=az S.ms d (some (.bx cs),[])) d 0;have:(g.im g' d w.heap.size b fun j=>vals.getD j undef).bk d=b:=by simp [Gh.im,az]
   rw [this] at nD;exact nD
  ·simp [AV.refs] at hq;subst hq;simp [az]
 ·have dj:∀cs,r≠.ptr cs:=fun cs e=>jB ⟨cs,e⟩
  obtain ⟨h_,mI⟩:=wU hr dj;have j_:=wC bZ dj
  have mP:∀c∈r.eu,c.bB=true∨lent=false:=by
   intro c hc;rcases zz _ _▸dm with h|h
   ·exact .inl (zd.1 (yq h dj) c hc)
   ·right;simpa using h
  rw [rH dj] at hn ⊢;by_cases fR:r.eu.any C.cY=true
  ·rw [if_pos fR] at hn ⊢;have eL:=hn rfl;have H:=ek.im (d:=d) (g:=g) (g':=g') (w:=w) (w':=w') (bR:=0) (X:=fun j=>(r.vals v).getD j undef) R.bd hp hL.sz hL.sd hL.bd
   have dp:∀(j:Nat) (c:C) (x:Value),r.eu[j]?=some c→(r.vals v)[j]?=some x→RC w' (g.im g' d w.heap.size 0 fun j=>(r.vals v).getD j undef) (d+1) j c x:=by
    intro j c x hc hx;have h5:=mI j c x hc hx;rw [zk] at h5;have e_:=zd.1 j_ c (za hc);have jh:=mP c (za hc);cases h5 with
    |ro k dd _ h6=>exact .ro _ _ _ (br (fun b hb=>by simp [Gh.im,hb]) h6 jh)
    |own dd _ h6=>
     refine .own _ _ (oP (fun b ρ hb h7=>?_) (fun ρ g7=>by simp [Gh.im,g7]) ?_ h6)
     ·have:¬b<w.heap.size:=by omega
      simp [Gh.im,this,h7]
     ·simp [Gh.im,zy,hx]
    |rf=>simp [C.bA] at e_
   refine ⟨_,R.fresh (rt:=.an r.eu) eL H (fun j c hc=>?_) (fun j r1 j1 hj=>?_),?_,fun q hq=>?_⟩
   ·have ae:=bE hc;have hx:(r.vals v)[j]?=some (r.vals v)[j]:=by simp [show j<(r.vals v).length from by omega]
    have:=dp j c _ hc hx;have hh:(g.im g' d w.heap.size 0 fun j=>(r.vals v).getD j undef).hd (d+1) j []=(r.vals v)[j]:=by simp [Gh.im,zy,hx]
    rw [hh];exact this
   ·have:=zd.1 j_ _ (za hj);simp [C.bA] at this
   ·exact qm hr dj (fun i c y hc hy=>pw (dp i c y hc hy))
   ·obtain ⟨rfl,_⟩:=o6 bZ dj hq;simp [az]
  ·rw [if_neg fR] at hn ⊢
   let g2:Gh:={ cl:=fun b=>if b<w.heap.size then g.cl b else .no,hd:=g.hd,bk:=g.bk }
   have R2:Rel w0 cl0 S a.tmps w' g2:=R.grow hp hL.sz hL.sd (fun b hb=>by simp [g2,hb]) (fun b hb=>by simp [g2,show ¬b<w.heap.size from by omega]) rfl rfl;refine ⟨g2,R2,?_,fun q hq=>?_⟩
   ·refine qm hr dj (fun i c y hc hy=>?_);have h5:=mI i c y hc hy;have jh:=mP c (za hc);have e_:=zd.1 j_ c (za hc);cases h5 with
    |ro k dd _ h6=>exact yj (br (fun b hb=>by simp [g2,hb]) h6 jh)
    |own dd _ h6=>
     have rD:dd.bF=true:=by
      have:(C.own dd).cY=false:=by
       cases h8:(C.own dd).cY
       ·rfl
       ·exact absurd (Zi.2 ⟨_,za hc,h8⟩) fR
      simpa [C.cY] using this
     refine BV (w:=w') (g:=g2) (r:=d) (j:=i) (p:=[]) ?_;cases h6 with
     |int=>exact .int _ _ _
     |bool=>exact .bool _ _
     |str=>exact .str _ _
     |_=>simp [D.bF] at rD
    |rf=>simp [C.bA] at e_
   ·exact absurd (o6 bZ dj hq).2 fR
end
end
section
def Gh.gv (g:Gh) (m':Ms) (r j:Nat) (p:aY) (q:Nat):Gh where
 cl:=fun b=>match g.cl b with
  |.own 0 q1 ρ=>if q1=q then .own (r+1) j (p++ρ) else .own 0 q1 ρ
  |c=>c
 hd:=fun r1 j1 ρ=>if r1=r+1∧j1=j∧p <+: ρ∧m'.b_ r j ρ=true then g.hd 0 q (ρ.drop p.length) else g.hd r1 j1 ρ
 bk:=g.bk
section
variable {w0:World} {cl0:dv} {S:St} {ts:Array Value} {w:World} {g:Gh}
theorem Gh.CN {m':Ms} {r j:Nat} {p:aY} {q b:Nat} {k:Bool}:(g.gv m' r j p q).cl b=kc k↔g.cl b=kc k:=by
 simp only [Gh.gv];split
 ·rename_i q1 ρ h;rw [h];split<;>cases k<;>simp [kc]
 ·exact .rfl
theorem Gh.QY {m':Ms} {r j:Nat} {p:aY} {q b:Nat}:(g.gv m' r j p q).cl b=.no↔g.cl b=.no:=by
 simp only [Gh.gv];split
 ·rename_i q1 ρ h;rw [h];split<;>simp
 ·exact .rfl
theorem Gh.QX {m':Ms} {r j:Nat} {p:aY} {q b:Nat}:((g.gv m' r j p q).cl b).ck=(g.cl b).ck:=by
 simp only [Gh.gv];split
 ·rename_i q1 ρ h;rw [h];split<;>rfl
 ·rfl
theorem Gh.CO {m':Ms} {r j:Nat} {p:aY} {q b n j1:Nat} {ρ:aY} (h:g.cl b=.own (n+1) j1 ρ):(g.gv m' r j p q).cl b=.own (n+1) j1 ρ:=by
 simp only [Gh.gv,h]
theorem Gh.CM {m':Ms} {r j:Nat} {p:aY} {q b n:Nat} (h:g.cl b=.box n):(g.gv m' r j p q).cl b=.box n:=by
 simp only [Gh.gv,h]
theorem W3 (p:aY) (c:Nat):jM (p++[(0,c)]) p=false:=by
 induction p with
 |nil=>rfl
 |cons x p ih=>obtain ⟨i,k⟩:=x;simp [jM,ih]
theorem W1 (p:aY) (i c:Nat) (ρ:aY):jM (p++[(0,c)]) (p++(i,c)::ρ)=true:=by
 induction p with
 |nil=>simp [jM]
 |cons x p ih=>obtain ⟨i1,k⟩:=x;simp [jM,ih]
theorem T5 {j:Nat} {p:aY}:∀{n c:Nat},c<n→(j,p++[(0,c)])∈o8 j p n:=by
 intro n;induction n with
 |zero=>intro c h;omega
 |succ n ih=>
  intro c h;simp only [o8];by_cases e:c=n
  ·subst e;simp
  ·exact zK _ (ih (by omega))
theorem TF {j:Nat} {p:aY}:∀{n:Nat},(o8 j p n).any (fun x=>x.1==j&&jM x.2 p)=false:=by
 intro n;induction n with
 |zero=>rfl
 |succ n ih=>simp only [o8,zH,ih,W3];simp
structure qM (q:Nat) (g:Gh) (m:Ms) (g':Gh) (m':Ms):Prop where
 kc:∀b k,g'.cl b=kc k↔g.cl b=kc k
 bk:g'.bk=g.bk
 kl:∀r j p,m'.b_ r j p=false→m.b_ r j p=false
 hd:∀r j p,m'.b_ r j p=false→g'.hd (r+1) j p=g.hd (r+1) j p
 cl0:∀b q1 ρ,q1≠q→g.cl b=.own 0 q1 ρ→g'.cl b=.own 0 q1 ρ
 iA:∀q1 ρ,g'.hd 0 q1 ρ=g.hd 0 q1 ρ
 no:∀r,(m r).1=none↔(m' r).1=none
 so:∀r,(m' r).1.isSome=(m r).1.isSome
 nw:∀n,(m n).1=none→(∀j ρ,g'.hd (n+1) j ρ=g.hd (n+1) j ρ)
 ow:∀b n j ρ,g.cl b=.own (n+1) j ρ→g'.cl b=.own (n+1) j ρ
 bx:∀b n,g.cl b=.box n→g'.cl b=.box n
theorem qM.refl (q:Nat) (g:Gh) (m:Ms):qM q g m g m:=⟨fun _ _=>.rfl,rfl,fun _ _ _ h=>h,fun _ _ _ _=>rfl,fun _ _ _ _ h=>h,fun _ _=>rfl,fun _=>.rfl,fun _=>rfl,fun _ _ _ _=>rfl,fun _ _ _ _ h=>h,fun _ _ h=>h⟩
theorem qM.ra {q:Nat} {g':Gh} {m m':Ms} (h:qM q g m g' m') {a:AV} {x:Value} (ha:RA w g m a x):RA w g' m' a x:=
 ha.mono (fun b k hb=>⟨rfl,(h.kc b k).2 hb⟩) (fun r _=>⟨by rw [h.bk],fun j p hk=>⟨h.kl r j p hk,h.hd r j p hk⟩⟩)
theorem qM.rc {q q1:Nat} {g':Gh} {m m':Ms} (h:qM q g m g' m') (hq:q1≠q) {c:C} {x:Value} (hn:c.bA=true) (ha:RC w g 0 q1 c x):RC w g' 0 q1 c x:=
 ha.mono (fun b k hb=>⟨rfl,(h.kc b k).2 hb⟩) (fun b ρ hb=>⟨rfl,h.cl0 b q1 ρ hq hb⟩) (fun ρ=>h.iA q1 ρ) (fun r1 j1 e=>by subst e;simp [C.bA] at hn)
theorem aac (R:Rel w0 cl0 S ts w g) {a:AV} {c:C} {x:Value} {m':Ms} {q:Nat} (ha:RA w g S.ms a x) (hc:RC w g 0 q c x) (h:nu S.ms c a=some m'):
 ∃g',Rel w0 cl0 { S with ms:=m' } ts w g'∧qM q g S.ms g' m':=by
 unfold nu at h;split at h
 ·rename_i r j p;split at h
  ·rename_i sz es;split at h
   ·rename_i bI;obtain ⟨nK,rt,d0,h1,h2,h3⟩:=gl bI;simp only [Ms.putAt,h1,h2] at h;simp at h
    have hx:x=g.hd (r+1) j p:=by
     cases ha with
     |pl _ _ _ _ _ _ hh=>exact hh nK
    have Rb:OW w g 0 q [] (.sl sz es) x:=by cases hc with|own _ _ ho=>exact ho
    have Dz:m'.b_ r j p=false:=by
     subst h;simp only [Ms.b_,g_,zW,TF,Zn];exact nK
    have lP:∀r1 j1 ρ,m'.b_ r1 j1 ρ=false→S.ms.b_ r1 j1 ρ=false:=fun r1 j1 ρ hk=>D6 (m:=S.ms) (kl:=o8 j p sz) (by rw [←h] at hk;exact hk)
    have cq:∀r1 j1 ρ,¬(r1=r∧j1=j∧p <+: ρ∧m'.b_ r j ρ=true)→(g.gv m' r j p q).hd (r1+1) j1 ρ=g.hd (r1+1) j1 ρ:=fun r1 j1 ρ hn=>by
     simp only [Gh.gv];rw [if_neg (fun e=>hn ⟨by omega,e.2.1,e.2.2.1,e.2.2.2⟩)]
    have ry:∀j1,(g.gv m' r j p q).hd (r+1) j1 []=g.hd (r+1) j1 []:=fun j1=>cq r j1 [] (fun e=>by
     have hp:p=[]:=List.prefix_nil.1 e.2.2.1;rw [hp] at Dz;rw [Dz] at e
     exact absurd e.2.2.2 (by simp))
    have R7:∀(i c:Nat) (ρ:aY),c<sz→(g.gv m' r j p q).hd (r+1) j ((p++[(i,c)])++ρ)=g.hd 0 q ([(i,c)]++ρ):=fun i c ρ ae=>by
     have e1:p <+: (p++[(i,c)])++ρ:=⟨[(i,c)]++ρ,by simp⟩
     have e2:m'.b_ r j ((p++[(i,c)])++ρ)=true:=by
      refine D5 (k:=p++[(0,c)]) ?_ (by simpa using W1 p i c ρ);subst h;simp only [g_];exact List.mem_append_left _ (T5 ae)
     simp only [Gh.gv];rw [if_pos (by simp only [true_and];exact ⟨e1,e2⟩)];simp
    have c_:∀b k,g.cl b=kc k→w.heap[b]?=w.heap[b]?∧(g.gv m' r j p q).cl b=kc k:=fun b k hb=>⟨rfl,Gh.CN.2 hb⟩
    have bq:∀b ρ,g.cl b=.own 0 q ρ→(g.gv m' r j p q).cl b=.own (r+1) j (p++ρ):=fun b ρ hb=>by simp [Gh.gv,hb]
    have xQ:OW w (g.gv m' r j p q) (r+1) j p (.sl sz es) x:=by
     have Mn:(g.gv m' r j p q).hd (r+1) j p=x:=by
      rw [cq r j p (fun e=>by rw [Dz] at e;exact absurd e.2.2.2 (by simp)),hx]
     cases Rb with
     |nil _ _ hh=>exact .nil _ _ Mn
     |sl _ _ _ b off cap vals E hh dF hl cz hw hN hk=>
      refine .sl _ _ _ b off cap vals E Mn (by simpa using bq b [] dF) hl cz hw hN (fun i c e d y he hd hy=>?_)
      have ae:c<sz:=by
       have h1:=hl e (za he);have h2:=(zi.1 hd).1;omega
      exact (hk i c e d y he hd hy).mono (q':=p++[(i,c)]) (fun b1 ρ hb=>⟨rfl,by simpa using bq b1 _ hb⟩) (fun ρ=>by simpa using R7 i c ρ ae)
    have rm:m'=az S.ms r (some (rt.gG j (.own (d0.put p (.sl sz es)))),o8 j p sz++(S.ms r).2):=h.symm;refine ⟨g.gv m' r j p q,?_,?_⟩
    ·have mS:=R.rt r rt h1
     have oS:∀r1 j1,(g.gv m' r j p q).hd (r1+1) j1 []=g.hd (r1+1) j1 []:=fun r1 j1=>by
      by_cases e:r1=r
      ·subst e;exact ry j1
      ·exact cq r1 j1 [] (fun e2=>e e2.1)
     refine { av:=fun n=>?_,rt:=fun n cw h4=>?_,eT:=fun n r1 h4=>by rw [rm];exact wH (R.eT n r1 h4),eA:=by rw [rm];exact NN h1 (by simp) R.eA,
              bd:=fun b h4=>R.bd b (by rwa [ne_eq,Gh.QY] at h4),sz:=R.sz,fr:=R.fr,im:=fun b k=>Gh.CN.trans (R.im b k),
              mi:=fun b h4 h5=>R.mi b h4 (by rwa [Gh.QX] at h5),sd:=R.sd,fK:=fun i hi=>?_ }
     rotate_left 2
     ·have h4:=R.fK i hi;show wS cl0 i (m' i).1 _;by_cases e:i=r
      ·subst e;rw [h1] at h4;rw [show (m' i).1=some (rt.gG j (.own (d0.put p (.sl sz es)))) from by rw [rm];simp [g_]];cases rt with
       |an cs=>exact fun j1=>(oS _ _).trans (h4 j1)
       |bx cs=>exact h4
      ·rw [show (m' i).1=(S.ms i).1 from by rw [rm];simp [fk e]];revert h4;cases (S.ms i).1 with
       |none=>exact id
       |some cw=>
        cases cw with
        |an cs=>exact fun h4 j1=>(oS _ _).trans (h4 j1)
        |bx cs=>exact id
     ·refine (R.av n).mono c_ (fun r1 _=>⟨rfl,fun j1 p1 h4=>⟨lP _ _ _ h4,cq _ _ _ (fun e=>?_)⟩⟩);obtain ⟨rfl,rfl,_,e4⟩:=e;rw [h4] at e4;cases e4
     ·simp only [rm] at h4;by_cases e:n=r
      ·subst e;simp only [g_,zF] at h4;subst h4
       refine mS.put h2 h3 c_ (fun b j1 ρ h5 _=>⟨rfl,Gh.CO h5⟩) (fun cs cC=>⟨rfl,rfl,?_⟩)
        (fun j1 ρ hn=>cq _ _ _ (fun e=>hn ⟨e.2.1,e.2.2.1⟩)) (fun _ _=>oS _ _) (fun _ _ _ _=>oS _ _) (fun y hy=>?_)
       ·subst cC;rw [Gh.CM mS.1,mS.1]
       ·cases hy with
        |dead _ _ hh=>rw [←hh,←hx];exact xQ
      ·simp only [fk e] at h4;have h5:=R.rt n cw h4;refine h5.mono c_ (fun b j1 ρ h6=>⟨rfl,Gh.CO h6⟩) (fun cs hb=>⟨rfl,rfl,?_⟩) (fun j1 ρ=>cq _ _ _ (fun e2=>e e2.1)) (fun _ _ _ _=>oS _ _);subst hb;rw [Gh.CM h5.1,h5.1]
    ·refine ⟨fun _ _=>Gh.CN,rfl,lP,fun r1 j1 ρ hk=>cq _ _ _ (fun e=>?_),fun b q1 ρ hq hb=>by simp [Gh.gv,hb,hq],fun q1 ρ=>by simp [Gh.gv],fun r1=>?_,fun r1=>?_,fun n hn j1 ρ=>cq _ _ _ (fun e=>?_),fun b n j1 ρ hb=>Gh.CO hb,fun b n hb=>Gh.CM hb⟩
     ·obtain ⟨rfl,rfl,_,e4⟩:=e;rw [hk] at e4;cases e4
     ·rw [rm];by_cases e:r1=r
      ·subst e;simp [g_,h1]
      ·simp [fk e]
     ·rw [rm];by_cases e:r1=r
      ·subst e;simp [g_,h1]
      ·simp [fk e]
     ·rw [e.1,h1] at hn;cases hn
   ·cases h
  ·cases h
 ·split at h
  ·simp at h;subst h;exact ⟨g,R,.refl _ _ _⟩
  ·cases h
 ·cases h
theorem aai {as:List AV} {vals:List Value}:∀(us:List (Nat×Nat×C)) {lo:Nat} {S:St} {g:Gh} {m':Ms} (R:Rel w0 cl0 S ts w g),
 (∀(j:Nat) (a:AV),as[j]?=some a→∃x,vals[j]?=some x∧RA w g S.ms a x)→
 (∀i j c,(i,j,c)∈us→lo≤j→∃x,vals[j]?=some x∧c.bA=true∧RC w g 0 j c x)→jN as lo S.ms us=some m'→
 ∃g',Rel w0 cl0 { S with ms:=m' } ts w g'∧(∀b k,g'.cl b=kc k↔g.cl b=kc k)∧g'.bk=g.bk∧(∀r j p,m'.b_ r j p=false→S.ms.b_ r j p=false∧g'.hd (r+1) j p=g.hd (r+1) j p)∧
  (∀r,(m' r).1.isSome=(S.ms r).1.isSome)∧(∀n,(S.ms n).1=none→∀j ρ,g'.hd (n+1) j ρ=g.hd (n+1) j ρ)∧
  (∀b n j ρ,g.cl b=.own (n+1) j ρ→g'.cl b=.own (n+1) j ρ)∧(∀b n,g.cl b=.box n→g'.cl b=.box n):=by
 intro us;induction us with
 |nil=>
  intro lo S g m' R _ _ h;simp [jN] at h;subst h;exact ⟨g,R,fun _ _=>.rfl,rfl,fun _ _ _ h=>⟨h,rfl⟩,fun _=>rfl,fun _ _ _ _=>rfl,fun _ _ _ _ h=>h,fun _ _ h=>h⟩
 |cons u us ih=>
  intro lo S g m' R ha hc h;obtain ⟨i,j,c⟩:=u;simp only [jN] at h;split at h
  ·rename_i Dk;split at h
   ·rename_i a Rh;split at h
    ·rename_i m2 h1;obtain ⟨x,hx,Rk⟩:=ha j a Rh;obtain ⟨y,hy,hn,C9⟩:=hc i j c (by simp) Dk.2;rw [hx] at hy;cases hy;obtain ⟨g1,R1,U⟩:=aac R Rk C9 h1
     obtain ⟨g2,R2,k1,k2,k3,k4,k5,k6,k7⟩:=ih (S:={ S with ms:=m2 }) R1 (fun j a h2=>by
      obtain ⟨z,hz,kO⟩:=ha j a h2
      exact ⟨z,hz,U.ra kO⟩) (fun i' j' c' hm hj=>by
      obtain ⟨z,hz,kO,S3⟩:=hc i' j' c' (by simp [hm]) (by omega)
      exact ⟨z,hz,kO,U.rc (by omega) kO S3⟩) h
     exact ⟨g2,R2,fun b k=>(k1 b k).trans (U.kc b k),k2.trans U.bk,fun r j p hk=>⟨U.kl r j p (k3 r j p hk).1,(k3 r j p hk).2.trans (U.hd r j p (k3 r j p hk).1)⟩,
      fun r=>(k4 r).trans (U.so r),fun n hn j ρ=>(k5 n ((U.no n).1 hn) j ρ).trans (U.nw n hn j ρ),fun b n j ρ hb=>k6 b n j ρ (U.ow b n j ρ hb),fun b n hb=>k7 b n (U.bx b n hb)⟩
    ·cases h
   ·cases h
  ·cases h
theorem Rel.pass (R:Rel w0 cl0 S ts w g) {w':World} {g':Gh} {d0:Nat} (H0:ek d0 w w' g g') (H:∀n,((S.ms n).1).isSome→∃d,n≠d∧ek d w w' g g'):Rel w0 cl0 S ts w' g':=by
 have ae:∀b,g.cl b≠.no→(∀j ρ,g.cl b≠.own 0 j ρ)→w'.heap[b]?=w.heap[b]?:=fun b hb=>H0.hp b (R.bd b hb)
 have c_:∀b k,g.cl b=OM.kc k→w'.heap[b]?=w.heap[b]?∧g'.cl b=OM.kc k:=
  fun b k h=>⟨ae b (by rw [h];cases k<;>simp [OM.kc]) (by rw [h];cases k<;>simp [OM.kc]),(H0.kc b k).2 h⟩
 have cq:∀n,((S.ms n).1).isSome→∀j ρ,g'.hd (n+1) j ρ=g.hd (n+1) j ρ:=fun n hn j ρ=>by
  obtain ⟨d,h1,h2⟩:=H n hn;exact h2.hd n j ρ h1
 have iP:∀n,((S.ms n).1).isSome→g'.bk n=g.bk n:=fun n hn=>by
  obtain ⟨d,h1,h2⟩:=H n hn;exact h2.bk n h1
 refine { av:=fun n=>?_,rt:=fun n cw h=>?_,eT:=R.eT,eA:=R.eA,bd:=fun b h=>?_,sz:=Zc R.sz H0.hs,fr:=fun b hb hm=>?_,
          im:=fun b k=>(H0.kc b k).trans (R.im b k),mi:=fun b hb hm=>R.mi b hb (H0.mi b (zA hb R.sz) hm),sd:=R.sd.trans H0.sd,
          fK:=fun i hi=>(by
           have h:=R.fK i hi
           have hs:((S.ms i).1).isSome:=by
            revert h;cases (S.ms i).1 with
            |none=>exact fun h=>h.elim
            |some _=>exact fun _=>rfl
           have h1:=cq i hs;have h2:=iP i hs;revert h;cases (S.ms i).1 with
           |none=>exact id
           |some cw=>
            cases cw with
            |an cs=>exact fun h j1=>(h1 j1 []).trans (h j1)
            |bx cs=>exact fun h=>h2.trans h) }
 ·exact (R.av n).mono c_ (fun r hr=>⟨iP r (R.eT n r hr),fun j p hk=>⟨hk,cq r (R.eT n r hr) j p⟩⟩)
 ·have h0:=R.rt n cw h;have hs:((S.ms n).1).isSome:=by rw [h];rfl
  obtain ⟨d,eQ,bp⟩:=H n hs;refine h0.mono c_ (fun b j ρ hb=>⟨ae b (by rw [hb];simp) (by rw [hb];simp),bp.cl b n j ρ hb eQ⟩) (fun cs cC=>?_) (fun j ρ=>bp.hd n j ρ eQ) (fun j r1 j1 hc=>?_)
  ·subst cC;exact ⟨bp.bk n eQ,ae _ (by rw [h0.1];simp) (by rw [h0.1];simp),by rw [h0.1];exact bp.bx _ _ h0.1 eQ⟩
  ·obtain ⟨cs,h2⟩:=R.eA n cw j r1 j1 h hc;exact cq r1 (by rw [h2];rfl) j1 []
 ·rcases H0.bd b h with h1|h1
  ·exact zA (R.bd b h1) H0.hs
  ·exact h1.2
 ·rw [H0.hp b (zA hb R.sz) (fun j ρ h=>by
   have:=R.mi b hb (by rw [h];rfl)
   rw [this] at hm;cases hm)]
  exact R.fr b hb hm
def Gh.gi (g:Gh) (X:Nat→Value) (lent:Bool):Gh where
 cl:=fun b=>match g.cl b with
  |.iX=>.iX
  |.gn=>.gn
  |.own 0 q ρ=>.own 1 q ρ
  |.own (_+1) _ _=>if lent then .gn else .no
  |.box _=>if lent then .gn else .no
  |.no=>.no
 hd:=fun r j ρ=>if r=1 then (if ρ=[] then X j else g.hd 0 j ρ) else g.hd r j ρ
 bk:=g.bk
def cG.held:cG→Bool
 |.own 0 _ _=>true
 |_=>false
def Gh.go (g g':Gh) (size d bR:Nat) (cr:Bool) (X:Nat→Value):Gh where
 cl:=fun b=>if b<size∧(g.cl b).held=false then g.cl b else match g'.cl b with
  |.own 1 q ρ=>.own 0 q ρ
  |.own 0 n ρ=>if cr then .own (d+1) n ρ else .no
  |.box _=>if cr=true∧b=bR then .box d else .no
  |_=>.no
 hd:=fun r j ρ=>if r=0 then g'.hd 1 j ρ else if r=d+1∧cr=true then (if ρ=[] then X j else g'.hd 0 j ρ) else g.hd r j ρ
 bk:=if cr then az g.bk d bR else g.bk
theorem Gh.QL {X:Nat→Value} {lent:Bool} {b:Nat} {k:Bool} (h:g.cl b=kc k):(g.gi X lent).cl b=kc k:=by
 cases k<;>simp [kc] at h ⊢<;>simp [Gh.gi,h]
theorem Gh.QI {X:Nat→Value} {lent:Bool} {b:Nat} {k:Bool} (hk:k=false∨lent=false) (h:(g.gi X lent).cl b=kc k):g.cl b=kc k:=by
 simp only [Gh.gi] at h;revert h;cases hg:g.cl b with
 |own n j ρ=>rcases hk with rfl|rfl<;>cases n<;>first|(cases lent<;>simp [kc];done)|(cases k<;>simp [kc])
 |box r=>rcases hk with rfl|rfl<;>first|(cases lent<;>simp [kc];done)|(cases k<;>simp [kc])
 |no=>cases k<;>simp [kc]
 |iX=>simp
 |gn=>simp
theorem Gh.QJ {X:Nat→Value} {lent:Bool} {b:Nat} {k:Bool} (h:(g.de lent true fun _=>false).cl b=kc k):(g.gi X lent).cl b=kc k:=by
 simp only [Gh.gi,Gh.de] at h ⊢;revert h;cases hg:g.cl b with
 |own n j ρ=>cases n<;>simp<;>cases k<;>simp [kc]
 |box r=>simp
 |no=>simp
 |iX=>simp
 |gn=>simp
theorem Gh.QK {X:Nat→Value} {lent:Bool} {b:Nat} (h:g.cl b=.no):(g.gi X lent).cl b=.no:=by simp [Gh.gi,h]
theorem Gh.Lq {X:Nat→Value} {lent:Bool} {b:Nat}:((g.gi X lent).cl b).ck=(g.cl b).held:=by
 simp only [Gh.gi];cases hb:g.cl b with
 |own n j ρ=>cases n<;>cases lent<;>rfl
 |box r=>cases lent<;>rfl
 |_=>rfl
theorem cG.sX {c:cG} (h:c.held=true):∃q ρ,c=.own 0 q ρ:=by
 cases c with
 |own r j p=>
  cases r with
  |zero=>exact ⟨_,_,rfl⟩
  |succ r=>simp [cG.held] at h
 |_=>simp [cG.held] at h
theorem ek.go {w':World} {g':Gh} {d bR:Nat} {cr lent:Bool} {X X':Nat→Value} (dU:∀b,g.cl b≠.no→b<w.heap.size)
 (ri:∀b,b<w.heap.size→((g.gi X' lent).cl b).ck=false→w'.heap[b]?=w.heap[b]?) (hs:w.heap.size≤w'.heap.size) (dL:eB w w')
 (uO:∀b,g'.cl b≠.no→b<w'.heap.size) (n:Nat) (hn:cr=true→n=d):ek n w w' g (g.go g' w.heap.size d bR cr X):=by
 have oK:∀b,g.cl b≠.no→(g.cl b).held=false→(g.go g' w.heap.size d bR cr X).cl b=g.cl b:=fun b h1 h2=>by
  simp only [Gh.go];rw [if_pos ⟨dU b h1,h2⟩]
 refine { hp:=fun b h h2=>ri b h ?_,hs:=hs,kc:=fun b k=>?_,cl:=fun b n1 j ρ h _=>?_,bx:=fun b n1 h _=>?_,hd:=fun n1 j ρ h=>?_,
          bk:=fun n1 h=>?_,bd:=fun b h=>?_,mi:=fun b hb h=>?_,sd:=dL }
 ·rw [Gh.Lq];cases hh:(g.cl b).held with
  |false=>rfl
  |true=>obtain ⟨q,ρ,e⟩:=cG.sX hh;exact absurd e (h2 q ρ)
 ·by_cases hb:b<w.heap.size∧(g.cl b).held=false
  ·simp only [Gh.go];rw [if_pos hb]
  ·have h1:∀k,g.cl b≠OM.kc k:=fun k e=>hb ⟨dU b (by rw [e];cases k<;>simp [OM.kc]),by rw [e];cases k<;>rfl⟩
   constructor
   ·intro h2;simp only [Gh.go] at h2;rw [if_neg hb] at h2;split at h2<;>first|(cases k<;>simp [OM.kc] at h2;done)|(split at h2<;>cases k<;>simp [OM.kc] at h2)
   ·exact fun h2=>absurd h2 (h1 k)
 ·rw [oK b (by rw [h];simp) (by rw [h];rfl)];exact h
 ·rw [oK b (by rw [h];simp) (by rw [h];rfl)];exact h
 ·simp only [Gh.go];rw [if_neg (by omega),if_neg (fun e=>h (by have:=hn e.2;omega))]
 ·simp only [Gh.go];cases bW:cr with
  |false=>simp
  |true=>have:=hn bW;subst this;simp [az,h]
 ·by_cases hb:b<w.heap.size∧(g.cl b).held=false
  ·left;simp only [Gh.go] at h;rw [if_pos hb] at h;exact h
  ·by_cases ae:b<w.heap.size
   ·left
    have:(g.cl b).held=true:=by
     cases hh:(g.cl b).held with
     |true=>rfl
     |false=>exact absurd ⟨ae,hh⟩ hb
    obtain ⟨q,ρ,e⟩:=cG.sX this;rw [e];simp
   ·right;refine ⟨by omega,uO b (fun e=>?_)⟩;simp only [Gh.go] at h;rw [if_neg hb,e] at h;exact h rfl
 ·by_cases dK:(g.cl b).held=false
  ·simp only [Gh.go] at h;rw [if_pos ⟨hb,dK⟩] at h;exact h
  ·obtain ⟨q,ρ,e⟩:=cG.sX (c:=g.cl b) (by simpa using dK);rw [e];rfl
section
variable {w':World} {g':Gh} {d bR:Nat} {cr lent:Bool} {X X':Nat→Value}
theorem CI (eZ:∀b,b<w.heap.size→(g'.cl b).ck=true→((g.gi X' lent).cl b).ck=true) {b:Nat} (hm:(g'.cl b).ck=true):
 (g.go g' w.heap.size d bR cr X).cl b=match g'.cl b with
  |.own 1 q ρ=>.own 0 q ρ
  |.own 0 n ρ=>if cr then .own (d+1) n ρ else .no
  |.box _=>if cr=true∧b=bR then .box d else .no
  |_=>.no:=by
 simp only [Gh.go];rw [if_neg (fun e=>?_)];have:=eZ b e.1 hm;rw [Gh.Lq,e.2] at this;cases this
theorem CJ (jz:∀b k,g'.cl b=kc k↔(g.gi X' lent).cl b=kc k) (dU:∀b,g.cl b≠.no→b<w.heap.size) {k:Bool} {dd:D} {x:Value} (dm:(C.ro k dd).bB=true∨lent=false) (h:RO w' g'.cl k dd x):
 RO w' (g.go g' w.heap.size d bR cr X).cl k dd x:=by
 by_cases hs:dd.bF=true
 ·exact h.bF hs
 have j6:k=false∨lent=false:=by
  rcases dm with dm|dm
  ·left;simpa [C.bB,hs] using dm
  ·exact .inr dm
 exact h.mono fun b hb=>⟨rfl,by
  have h1:=Gh.QI j6 ((jz b k).1 hb);simp only [Gh.go];rw [if_pos ⟨dU b (by rw [h1];cases k<;>simp [kc]),by rw [h1];cases k<;>rfl⟩]
  exact h1⟩
theorem QS (eZ:∀b,b<w.heap.size→(g'.cl b).ck=true→((g.gi X' lent).cl b).ck=true) (jz:∀b k,g'.cl b=kc k↔(g.gi X' lent).cl b=kc k) (dU:∀b,g.cl b≠.no→b<w.heap.size)
 {j:Nat} {c:C} {x:Value} (dm:c.bB=true∨lent=false) (hn:c.bA=true) (h:RC w' g' 1 j c x):RC w' (g.go g' w.heap.size d bR cr X) 0 j c x:=by
 cases h with
 |ro k dd _ h=>exact .ro _ _ _ (CJ jz dU dm h)
 |own dd _ h=>
  refine .own _ _ (h.mono (q':=[]) (fun b ρ hb=>⟨rfl,?_⟩) (fun ρ=>by simp [Gh.go]));rw [CI eZ (by rw [hb];rfl),hb];rfl
 |rf=>simp [C.bA] at hn
theorem QT (eZ:∀b,b<w.heap.size→(g'.cl b).ck=true→((g.gi X' lent).cl b).ck=true) (jz:∀b k,g'.cl b=kc k↔(g.gi X' lent).cl b=kc k) (dU:∀b,g.cl b≠.no→b<w.heap.size)
 {j:Nat} {c:C} {x:Value} (dm:c.bB=true∨lent=false) (hn:c.bA=true) (hx:X j=x) (h:RC w' g' 0 j c x):RC w' (g.go g' w.heap.size d bR true X) (d+1) j c x:=by
 cases h with
 |ro k dd _ h=>exact .ro _ _ _ (CJ jz dU dm h)
 |own dd _ h=>
  refine .own _ _ (Hd.place (w:=w') (g:=g') (.inl h) (fun b ρ hb=>⟨rfl,?_⟩) (fun ρ g7=>?_) ?_)
  ·rw [CI eZ (by rw [hb];rfl),hb];simp
  ·simp [Gh.go,g7]
  ·simp [Gh.go,hx]
 |rf=>simp [C.bA] at hn
end
end
end
end Go.Proofs.YtohlfelngklcfaaGreat.OM
