/- A part of the proof. -/
import Derived.Test.YtohlfelngklcfaaGreatH0
import Derived.Laws.BytesArg
import Derived.Laws.BytesString
set_option linter.all false
namespace Go.Proofs.YtohlfelngklcfaaGreat.OM
open List renaming mem_of_getElem?→za,all_eq_true→zd,getElem?_eq_getElem→ze,getElem?_append_right→zf,getElem?_append_left→zg,mem_iff_getElem?→zh,replicate→zj,getElem?_eq_some_iff→zk,flatMap_cons→zo,getElem?_drop→zp,getD→zu,nil_append→zw,mem_append→zx,getElem?_set_self→zA,map_cons→zC,getElem?_map→zE,length_cons→zG,eq_nil_of_length_eq_zero→zK,length_append→zN,getElem?_take→zO,any_cons→zP,append_assoc→zQ,getElem?_take_of_lt→zT,getElem?_replicate→zV,length_nil→zW,length_replicate→zX,getElem?_eq_none→zY,mem_cons_of_mem→z0,getElem?_set_ne→z1,all_cons→z2,replicate_succ→z3,map_nil→z5,prefix_append→z7,ext_getElem?→z9,length_take→z_,any_eq_true→Za,all_flatMap→Zb,any_append→Ze,mem_map→Zg
open Bool renaming and_eq_true→zb,or_eq_true→zz,false_eq_true→zM
open Nat renaming le_refl→zi,zero_add→zm,mul_le_mul_right→zn,mul_comm→zq,succ_mul→zr,add_assoc→zt,pos_of_ne_zero→zy,lt_or_ge→zH,div_lt_of_lt_mul→zI,add_zero→zJ,add_mul→zL,mod_lt→zS,mod_eq_of_lt→zU,sub_self→z4,lt_of_lt_of_le→z8,mul_add_mod→Zc,div_add_mod→Zd,lt_irrefl→Zf
open _root_.Array renaming getD_eq_getD_getElem?→zB,getElem?_range→zZ,getElem?_map→z6,range→Zh
open Option renaming map_some→zD,map_eq_some_iff→zF
open Option.some renaming injEq→zR
section
section
variable {P:Program} {κ:Nat→FuncId} {w0:World} {cl0:dv} {S:St} {w:World} {g:Gh} {a:Act} {Γ:Env} {d:Nat}
theorem Ji {n:Int} {A4 k:Nat} (h:uO n A4=some k):0≤n∧n≤A4∧k=n.toNat:=by
 unfold uO at h;split at h
 ·rename_i hh;simp at h;exact ⟨hh.1,hh.2,h.symm⟩
 ·cases h
theorem run_sliceBound {v:Value} {n:Int} {y:Nat} {code:BoundsCode} (hv:∃k,v=.int k n) (h0:0≤n) (h1:n≤y):
 (Instr.sliceBound v y code).run P w=.ok n.toNat w:=by
 obtain ⟨k,rfl⟩:=hv;simp [Instr.sliceBound,asIntOf,h0,h1]
theorem AX (R:Rel w0 cl0 S a.tmps w g) {len cap:Nat} {lo hi:Option PX} {mD fu:Option Operand} {l h:Nat} (hlen:len≤cap) (hl:mg lo mD=true) (hh:mg hi fu=true)
 (he:kQ len S.ev lo hi=some (l,h)) (RJ:Bool):l≤h∧h≤len∧(Instr.sliceBounds RJ len cap (mD.map a.eval) (fu.map a.eval) none).run P w=.ok (l,h,cap) w:=by
 unfold kQ at he;split at he
 ·rename_i h1 kO;split at he
  ·rename_i l1 nj;simp at he;obtain ⟨rfl,rfl⟩:=he
   have H:h1≤len∧((fu=none∧h1=len)∨∃ox,fu=some ox∧∀code,(Instr.sliceBound (a.eval ox) cap code).run P w=.ok h1 w):=by
    cases hi with
    |none=>
     cases fu with
     |none=>simp at kO;subst kO;exact ⟨zi _,.inl ⟨rfl,rfl⟩⟩
     |some=>simp [mg] at hh
    |some x=>
     cases fu with
     |none=>simp [mg] at hh
     |some ox=>
      simp only [mg] at hh;have e:=(bF R hh).1;simp only at kO;split at kO
      ·rename_i n hn;obtain ⟨b1,b2,b3⟩:=Ji kO;subst b3;exact ⟨by omega,.inr ⟨ox,rfl,fun code=>run_sliceBound (tN e hn) b1 (by omega)⟩⟩
      ·cases kO
   have L:l1≤h1∧((mD=none∧l1=0)∨∃ox,mD=some ox∧∀code,(Instr.sliceBound (a.eval ox) h1 code).run P w=.ok l1 w):=by
    cases lo with
    |none=>
     cases mD with
     |none=>simp at nj;subst nj;exact ⟨Nat.zero_le _,.inl ⟨rfl,rfl⟩⟩
     |some=>simp [mg] at hl
    |some x=>
     cases mD with
     |none=>simp [mg] at hl
     |some ox=>
      simp only [mg] at hl;have e:=(bF R hl).1;simp only at nj;split at nj
      ·rename_i n hn;obtain ⟨b1,b2,b3⟩:=Ji nj;subst b3;exact ⟨by omega,.inr ⟨ox,rfl,fun code=>run_sliceBound (tN e hn) b1 b2⟩⟩
      ·cases nj
   refine ⟨L.1,H.1,?_⟩;rcases H.2 with ⟨rfl,rfl⟩|⟨oh,rfl,hH⟩<;>rcases L.2 with ⟨rfl,rfl⟩|⟨ol,rfl,hL⟩
   ·simp [Instr.sliceBounds]
   ·simp [Instr.sliceBounds,hL]
   ·simp [Instr.sliceBounds,hH]
   ·simp [Instr.sliceBounds,hH,hL]
  ·cases he
 ·cases he
theorem Tz (R:Rel w0 cl0 S a.tmps w g) {x:PX} {lo hi:Option PX} {op:Op} {av:AV} {rt:Option Rt} {m':Ms}
 (hc:aM P κ (.tm x lo hi) op=true) (h:aw Γ S.ev d S.ms (.tm x lo hi)=some (av,rt,m')):fl P S w g a av rt m' op:=by
 cases op with
 |slice t ox mD fu mx=>?_
 |_=>simp [aM] at hc
 simp only [aM,zb] at hc;obtain ⟨⟨⟨⟨hm,mZ⟩,bA⟩,u7⟩,hc⟩:=hc;obtain rfl:mx=none:=by cases mx<;>simp_all
 have e1:=bF R mZ;simp only [aw] at h;split at h
 ·rename_i k s hx;split at h
  ·rename_i l hh jX;simp at h;obtain ⟨rfl,rfl,rfl⟩:=h;refine ⟨rfl,rfl,fun o ho=>?_⟩;rw [hx] at e1;have hv:=tj e1.1;obtain ⟨_,_,hb⟩:=AX (P:=P) R (zi _) bA u7 jX false;cases hu:P.underlying t with
   |none=>simp [hu] at hc
   |some u=>
    cases u<;>simp [hu] at hc;refine ⟨.string (s.extract l hh),?_,.v _ _ _ (.str _),jw⟩;simp [execOp,ho,hv,Instr.sliceAt,Instr.slice,run_underlying hu,hb]
  ·cases h
 ·cases h
theorem Ix {t e:TypeId} {s dD:Nat} (ht:gP P t=some e) (hs:fK P e=some (s,dD)) {v:Option Addr} {len cap l h:Nat} {lo hi:Option Value}
 (hb:(Instr.sliceBounds true len cap lo hi none).run P w=.ok (l,h,cap) w):
 (Instr.sliceAt t (.slice v len cap) lo hi none).run P w=.ok (iJ (.slice v len cap) s l h) w:=by
 unfold gP at ht;split at ht
 ·rename_i e' hu;simp at ht;subst ht;unfold fK at hs;split at hs
  ·rename_i i hi;simp at hs;obtain ⟨rfl,rfl⟩:=hs;simp [Instr.sliceAt,Instr.slice,run_underlying hu,hb,sizeOf,typeInfo,hi,iJ]
  ·cases hs
 ·cases ht
theorem L2 {k:Bool} {sz:Nat} {es:List (List D)} {b:Option Addr} {len cap l h:Nat} (hr:RO w g.cl k (.sl sz es) (.slice b len cap)) (h1:l≤h) (h2:h≤es.length):
 len=es.length∧RO w g.cl k (.sl sz (cut es l h)) (iJ (.slice b len cap) sz l h):=by
 have hlen:(cut es l h).length=h-l:=by simp [cut];omega
 cases hr with
 |emp=>
  obtain rfl:h=0:=by simpa using h2
  obtain rfl:l=0:=by omega
  refine ⟨rfl,?_⟩;simp only [cut,iJ,List.take_nil,List.drop_nil,z4];exact .emp _ _ _
 |sl _ _ b off _ bA hl cf dx hk=>
  refine ⟨rfl,?_⟩;by_cases hz:h=l
  ·subst hz;have:cut es h h=[]:=zK (by omega);rw [this];simp only [iJ,z4];exact .emp _ _ _
  ·have cg:cap≠l:=by omega
   simp only [iJ,if_neg cg,zD,Addr.add_lit];rw [←hlen];refine .sl _ _ b (off+l*sz) _ bA (fun e he=>hl e (List.mem_of_mem_take (List.mem_of_mem_drop he))) (by omega) (fun i j hi hj=>?_) (fun i j e d x he hd hx=>?_)
   ·have:=dx (l+i) j (by omega) hj;rwa [show off+(l+i)*sz+j=off+l*sz+i*sz+j from by rw [zL];omega] at this
   ·have hi:=bj he;simp only [cut,zp] at he;rw [zT (by omega)] at he;refine hk (l+i) j e d x he hd ?_;rwa [show off+(l+i)*sz+j=off+l*sz+i*sz+j from by rw [zL];omega]
theorem Tx (R:Rel w0 cl0 S a.tmps w g) {o7:Nat} {x:PX} {lo hi:Option PX} {op:Op} {av:AV} {rt:Option Rt} {m':Ms}
 (hc:aM P κ (.rA o7 x lo hi) op=true) (h:aw Γ S.ev d S.ms (.rA o7 x lo hi)=some (av,rt,m')):fl P S w g a av rt m' op:=by
 cases op with
 |slice t ox mD fu mx=>?_
 |_=>simp [aM] at hc
 simp only [aM,zb] at hc;obtain ⟨⟨⟨⟨hm,mZ⟩,bA⟩,u7⟩,hc⟩:=hc;obtain rfl:mx=none:=by cases mx<;>simp_all
 have e1:=bF R mZ;split at hc
 ·rename_i e he;split at hc
  ·rename_i s dD hs;simp at hc;subst hc;simp only [aw] at h;split at h
   ·rename_i k sz es hx;split at h
    ·rename_i l hh jX;split at h
     ·rename_i dg;subst dg;simp at h;obtain ⟨rfl,rfl,rfl⟩:=h;refine ⟨rfl,rfl,fun o ho=>?_⟩;rw [hx] at e1;obtain ⟨h1,h2⟩:=e1;generalize hv:a.eval ox=v at h1;cases h1 with
      |v _ _ _ dz=>
       obtain ⟨b,n,c,rfl,QX⟩:∃b n c,v=.slice b n c∧n≤c:=by
        cases dz with
        |emp=>exact ⟨_,_,_,rfl,Nat.zero_le _⟩
        |sl _ _ _ _ _ _ _ cf=>exact ⟨_,_,_,rfl,cf⟩
       have hle:=AX (P:=P) R (cap:=c) (by
        have:n=es.length:=by
         cases dz with
         |emp=>rfl
         |sl=>rfl
        omega) bA u7 jX true
       obtain ⟨hn,AE⟩:=L2 dz hle.1 hle.2.1;subst hn;refine ⟨_,?_,.v _ _ _ AE,jw⟩;have vY:=Ix he hs (v:=b) hle.2.2;simp [execOp,ho,hv,vY]
     ·cases h
    ·cases h
   ·rename_i sz hx;split at h
    ·rename_i lh jX;obtain ⟨l,hh⟩:=lh;simp at h;obtain ⟨rfl,rfl,rfl⟩:=h;refine ⟨rfl,rfl,fun o ho=>?_⟩;rw [hx] at e1;obtain ⟨h1,h2⟩:=e1;generalize hv:a.eval ox=v at h1;cases h1 with
     |nl=>
      have hle:=AX (P:=P) R (cap:=0) (zi _) bA u7 jX true;have vY:=Ix he hs (v:=none) hle.2.2;obtain rfl:hh=0:=by omega
      obtain rfl:l=0:=by omega
      refine ⟨.slice none 0 0,?_,.nl _,fun r hr=>by simp [AV.refs] at hr⟩;simp [execOp,ho,hv,vY,iJ]
    ·cases h
   ·rename_i r j p hx;split at h
    ·rename_i sz es bz;split at h
     ·rename_i l hh jX;split at h
      ·rename_i dg;subst dg;simp at h;obtain ⟨rfl,rfl,rfl⟩:=h;refine ⟨rfl,rfl,fun o ho=>?_⟩;rw [hx] at e1;obtain ⟨h1,h2⟩:=e1;generalize hv:a.eval ox=v at h1;cases h1 with
       |pl _ _ _ b1 n1 c1 kO=>
        obtain ⟨eg,bX,d0,bP,_⟩:=fo bz;obtain ⟨x0,bf⟩:=R.at bz;have pL:=kO eg;have pM:=bf.ir;subst pM
        obtain ⟨b,n,c,hg,QX,cg⟩:∃b n c,g.hd (r+1) j p=.slice b n c∧n≤c∧n=es.length:=by
         generalize g.hd (r+1) j p=v0 at bf;cases bf with
         |nil=>exact ⟨_,_,_,rfl,zi _,rfl⟩
         |sl _ _ _ b off cap=>exact ⟨_,_,_,rfl,by assumption,rfl⟩
        have hle:=AX (P:=P) R (cap:=c) (by omega) bA u7 jX true;subst cg;have vY:=Ix he hs (v:=b) hle.2.2;rw [hg] at pL;refine ⟨iJ (.slice b es.length c) sz l hh,?_,.rg _ _ _ _ _ _ _ _ _ fun _=>by rw [hg];rfl,fun r1 hr=>?_⟩
        ·simp [execOp,ho,hv,pL,vY]
        ·simp [AV.refs] at hr;subst hr;exact ur bP
      ·cases h
     ·cases h
    ·cases h
   ·cases h
  ·cases hc
 ·cases hc
theorem Nl:∀(es:List (List D)) {bs:List UInt8},pf es=some bs→
 ∃ns:List Int,es=ns.map (fun n=>[D.int .u8 n])∧bs=ns.map (fun n=>UInt8.ofNat n.toNat):=by
 intro es;induction es with
 |nil=>intro bs h;simp [pf] at h;subst h;exact ⟨[],rfl,rfl⟩
 |cons e es ih=>
  intro bs h;unfold pf at h;split at h
  ·rename_i h1;cases h1
  ·rename_i n l h1;cases h1;split at h
   ·rename_i WH h2;simp at h;subst h;obtain ⟨ns,h3,h4⟩:=ih h2;exact ⟨n::ns,by simp [h3],by simp [h4]⟩
   ·cases h
  ·cases h
theorem Td (R:Rel w0 cl0 S a.tmps w g) {x:PX} {op:Op} {av:AV} {rt:Option Rt} {m':Ms}
 (hc:aM P κ (.ph x) op=true) (h:aw Γ S.ev d S.ms (.ph x)=some (av,rt,m')):fl P S w g a av rt m' op:=by
 cases op with
 |convert src dst ox=>?_
 |_=>simp [aM] at hc
 simp only [aM,zb] at hc;obtain ⟨mZ,hc⟩:=hc;have e1:=(bF R mZ).1;simp only [aw] at h;split at h
 ·rename_i sz es oX;split at h
  ·rename_i bs O3;simp at h;obtain ⟨rfl,rfl,rfl⟩:=h;refine ⟨rfl,rfl,fun o ho=>?_⟩;split at hc
   ·rename_i e hs hd
    have he:P.underlying e=some (.int .u8):=by
     cases hu:P.underlying e with
     |none=>simp [hu] at hc
     |some u=>
      cases u with
      |int k=>cases k<;>simp [hu] at hc ⊢
      |_=>simp [hu] at hc
    obtain ⟨b,cap,hv,_,u6⟩:=B3 R e1 oX;obtain ⟨ns,rfl,rfl⟩:=Nl es O3;refine ⟨.string (strOfNums ns),?_,.v _ _ _ (.str _),jw⟩;cases ns with
    |nil=>
     cases b with
     |none=>
      have:=run_convert_bytes_nil (P:=P) w src e hs he 0 cap dst hd;simp only [execOp,ho,hv,Sem.run_bind,z5,zW,this,Result.andThen_ok,Sem.run_pure];rfl
     |some a1=>
      obtain ⟨b1,o1,s1⟩:=a1;have hl:(loadCells ⟨b1,o1,s1⟩ 0).run P w=.ok (([]:List Int).map (Value.int .u8)).toArray w:=by simp [loadCells,loadCellsFrom]
      have h1:=run_convert_bytes_string w src dst e (some ⟨b1,o1,s1⟩) 0 cap hs he hd;have h2:=run_bytesToString w ⟨b1,o1,s1⟩ 0 cap [] hl;simp only [execOp,ho,hv,Sem.run_bind,z5,zW,h1,h2,Result.andThen_ok,Sem.run_pure];rfl
    |cons n ns=>
     obtain ⟨b',o',rfl,_,hlen,dF⟩:=u6 (by simp);have dg:sz=1:=by have:=hlen [D.int .u8 n] (by simp);simpa using this.symm
     subst dg
     have:=run_convert_bytes_arg (P:=P) w src e hs he b' o' (n::ns).length cap (n::ns) rfl (fun i hi=>by
      have hg:((n::ns).map fun n=>[D.int .u8 n])[i]?=some [D.int .u8 ((n::ns).getD i 0)]:=by
       rw [zE,ze hi];simp [zu,ze hi]
      obtain ⟨x,hx,iZ⟩:=dF i 0 _ _ hg rfl
      have w_:x=.int .u8 ((n::ns).getD i 0):=by
       rcases iZ with ⟨k,h⟩|⟨_,_,_,h⟩<;>cases h<;>rfl
      rw [←w_];simpa using hx) dst hd
     simp only [execOp,ho,hv,Sem.run_bind,List.length_map,this,Result.andThen_ok,Sem.run_pure]
   ·cases hc
  ·cases h
 ·cases h
end
end
section
section
variable {P:Program} {κ:Nat→FuncId} {w0:World} {cl0:dv} {S:St} {w:World} {g:Gh} {a:Act} {Γ:Env} {d:Nat}
def et (w0:World) (cl0:dv) (S:St) (ts:Array Value) (d:Nat) (av:AV) (rt:Option Rt) (m':Ms) (v:Value) (w':World):Prop:=
 ∃g',Rel w0 cl0 { S with ms:=match rt with|none=>m'|some r=>aB m' d (some r,[]) } ts w' g'∧
  RA w' g' (match rt with|none=>m'|some r=>aB m' d (some r,[])) av v∧Live (match rt with|none=>m'|some r=>aB m' d (some r,[])) av
def Gh.new (g:Gh) (d b:Nat) (C:cM) (H:Nat→aI→Value):Gh where
 cl:=aB g.cl b C
 hd:=fun r j ρ=>if r=d+1 then H j ρ else g.hd r j ρ
 bk:=aB g.bk d b
theorem dT.new {w':World} (d_:∀b,g.cl b≠.no→b<w.heap.size) {d:Nat} {C:cM} {H:Nat→aI→Value} (hC:C=.box d∨∃j p,C=.own (d+1) j p)
 (hp:∀b,b<w.heap.size→w'.heap[b]?=w.heap[b]?) (hs:w'.heap.size=w.heap.size+1) (eJ:ee w w'):dT d w w' g (g.new d w.heap.size C H) where
 sd:=eJ
 hp:=fun b h _=>hp b h
 hs:=by omega
 kc:=fun b k=>by
  simp only [Gh.new,aB];split
  ·rename_i e;subst e
   have:g.cl w.heap.size=.no:=by
    by_cases h:g.cl w.heap.size=.no
    ·exact h
    ·exact absurd (d_ _ h) (Zf _)
   rw [this];rcases hC with rfl|⟨j,p,rfl⟩<;>cases k<;>simp [OM.kc]
  ·exact .rfl
 cl:=fun b n j ρ h hn=>by
  have:b≠w.heap.size:=fun e=>by have:=d_ b (by rw [h];simp);omega
  simp [Gh.new,aB,this,h]
 bx:=fun b n h hn=>by
  have:b≠w.heap.size:=fun e=>by have:=d_ b (by rw [h];simp);omega
  simp [Gh.new,aB,this,h]
 hd:=fun n j ρ hn=>by simp [Gh.new,hn]
 bk:=fun n hn=>by simp [Gh.new,aB,hn]
 bd:=fun b h=>by
  by_cases e:b=w.heap.size
  ·exact .inr ⟨by omega,by omega⟩
  ·simp only [Gh.new,eL e] at h;exact .inl h
 mi:=fun b hb h=>by
  have:b≠w.heap.size:=by omega
  simpa [Gh.new,aB,this] using h
theorem val_one {m:Ms} {av:AV} {v:Value} (h:RA w g m av v) (hv:av.isVal=true) (hn:∀cs,av≠.agg cs):v.cells=#[v]∧v.oneCell'=true:=by
 cases h with
 |un=>simp [AV.isVal] at hv
 |v k d x h=>
  cases h with
  |dead=>simp [AV.isVal] at hv
  |_=>exact ⟨rfl,rfl⟩
 |agg cs=>exact absurd rfl (hn cs)
 |bu=>simp [AV.isVal] at hv
 |_=>exact ⟨rfl,rfl⟩
theorem uQ {m:Ms} {av:AV} {v:Value} (h:RA w g m av v) (hv:av.isVal=true):
 av.cells.length=v.cells.size∧∀(k:Nat) (b:AV) (x:Value),av.cells[k]?=some b→v.cells[k]?=some x→RA w g m b x:=by
 by_cases hn:∀cs,av≠.agg cs
 ·have h1:=(val_one h hv hn).1;have h2:av.cells=[av]:=by cases av<;>first|rfl|exact absurd rfl (hn _)
  rw [h1,h2];refine ⟨rfl,fun k b x h3 h4=>?_⟩;cases k with
  |zero=>simp at h3 h4;subst h3;subst h4;exact h
  |succ k=>simp at h3
 ·obtain ⟨cs,hn⟩:=Classical.not_forall.1 hn;obtain rfl:=Classical.not_not.1 hn;cases h with
  |agg _ vs hl bZ=>exact ⟨hl,bZ⟩
theorem Lu {m m':Ms} {av:AV} {cs:List C} (h:eX m av.cells=some (cs,m')):av.isVal=true:=by
 cases av with
 |un=>simp [AV.cells,eX,eo] at h
 |bu=>simp [AV.cells,eX,eo] at h
 |v k d=>cases d<;>first|rfl|(simp [AV.cells,eX,eo] at h)
 |_=>rfl
theorem RL {m:Ms} {av:AV} {cs:List C} (h:gT m av.cells=some cs):av.isVal=true:=by
 cases av with
 |un=>simp [AV.cells,gT,mF] at h
 |bu=>simp [AV.cells,gT,mF] at h
 |v k d=>cases d<;>first|rfl|(simp [AV.cells,gT,mF] at h)
 |_=>rfl
theorem T4 {m:Ms} {av:AV} {c:C} {x:Value} (ha:RA w g m av x) (h:mF m av=some c) {w':World} {g':Gh} {r j:Nat}
 (hb:∀b k,g.cl b=kc k→w'.heap[b]?=w.heap[b]?∧g'.cl b=kc k) (hh:g'.hd r j []=x)
 (hr:∀r1 j1,((m r1).1).isSome→g'.hd (r1+1) j1 []=g.hd (r1+1) j1 []):RC w' g' r j c x∧(∀r1 j1,c=.rf r1 j1→∃cs,(m r1).1=some (.aR cs)):=by
 unfold mF at h;split at h
 ·cases h
 ·simp at h;subst h;cases ha with
  |v _ _ _ dz=>exact ⟨.ro _ _ _ (dz.mono fun b hc=>hb b _ hc),by simp⟩
 ·simp at h;subst h;cases ha with
  |nl=>exact ⟨.own _ _ (.nil _ _ hh),by simp⟩
 ·rename_i r0 j0;split at h
  ·rename_i cs dx;split at h
   ·cases h
   ·rename_i hk;simp at h;subst h;cases ha with
    |pl _ _ _ b n c0 hx=>
     refine ⟨.rf r0 j0 b n c0 ?_,fun r1 j1 e=>?_⟩
     ·rw [hr r0 j0 (by rw [dx];rfl)];exact (hx (by simpa using hk)).symm
     ·simp at e;obtain ⟨rfl,rfl⟩:=e;exact ⟨cs,dx⟩
  ·cases h
 ·cases h
theorem T5 {m:Ms}:∀(as:List AV) {cs:List C},gT m as=some cs→cs.length=as.length∧∀(i:Nat) (c:C),cs[i]?=some c→∃av,as[i]?=some av∧mF m av=some c:=by
 intro as;induction as with
 |nil=>intro cs h;simp [gT] at h;subst h;exact ⟨rfl,fun i c h=>by simp at h⟩
 |cons b bs ih=>
  intro cs h;simp only [gT] at h;cases h1:mF m b with
  |none=>simp [h1] at h
  |some c=>
   simp only [h1] at h;cases h2:gT m bs with
   |none=>simp [h2] at h
   |some jk=>
    simp only [h2] at h;simp at h;subst h;obtain ⟨hl,hg⟩:=ih h2;refine ⟨by simp [hl],fun i c1 hc=>?_⟩;cases i with
    |zero=>simp at hc;subst hc;exact ⟨b,rfl,h1⟩
    |succ i=>exact hg i c1 (by simpa using hc)
theorem LF (R:Rel w0 cl0 S a.tmps w g) {as:List AV} {vals:Array Value} {cs:List C} (hn:(S.ms d).1=none) (dx:gT S.ms as=some cs)
 (hl:as.length=vals.size) (bZ:∀(k:Nat) (b:AV) (x:Value),as[k]?=some b→vals[k]?=some x→RA w g S.ms b x) (E:TypeId):
 et w0 cl0 S a.tmps d (.bx d 0) (some (.bx cs)) S.ms (.pointer (some ⟨w.heap.size,0,none⟩)) (w.alloc (.cells vals E)):=by
 obtain ⟨bA,O7⟩:=T5 as dx;have gy:∀b,b<w.heap.size→(w.alloc (.cells vals E)).heap[b]?=w.heap[b]?:=fun b hb=>heap_alloc_old w _ b hb
 have H:=dT.new (w:=w) (w':=w.alloc (.cells vals E)) (g:=g) R.bd (d:=d) (C:=.box d) (H:=fun j _=>vals.getD j undef) (.inl rfl) gy (by simp) (.alloc _ _)
 have de:∀b k,g.cl b=kc k→(w.alloc (.cells vals E)).heap[b]?=w.heap[b]?∧(g.new d w.heap.size (.box d) (fun j _=>vals.getD j undef)).cl b=kc k:=
  fun b k h=>⟨gy b (R.bd b (by rw [h];cases k<;>simp [kc])),(H.kc b k).2 h⟩
 have cg:∀r,((S.ms r).1).isSome→r≠d:=fun r h e=>by subst e;simp [hn] at h
 have o5:∀(j:Nat) (c:C) (x:Value),cs[j]?=some c→vals[j]?=some x→
  RC (w.alloc (.cells vals E)) (g.new d w.heap.size (.box d) (fun j _=>vals.getD j undef)) (d+1) j c x∧(∀r1 j1,c=.rf r1 j1→∃cs,(S.ms r1).1=some (.aR cs)):=by
  intro j c x hc hx;obtain ⟨av,h1,h2⟩:=O7 j c hc;refine T4 (bZ j av x h1 hx) h2 de ?_ (fun r1 j1 h=>by simp [Gh.new,cg r1 h]);simp [Gh.new,zB,hx]
 refine ⟨_,R.fresh (rt:=.bx cs) hn H ?_ ?_,?_,?_⟩
 ·refine ⟨by simp [Gh.new,aB],vals,E,by simp only [Gh.new,gL];exact heap_alloc_new w _,by omega,fun j c x hc hx=>(o5 j c x hc hx).1⟩
 ·intro j r1 j1 hj;simp only [Rt.cells] at hj;have ah:j<vals.size:=by have:=bj hj;omega
  exact (o5 j _ vals[j] hj (by simp [ah])).2 r1 j1 rfl
 ·have:(g.new d w.heap.size (.box d) (fun j _=>vals.getD j undef)).bk d=w.heap.size:=by simp [Gh.new,aB]
  have hb:=RA.bx (w:=w.alloc (.cells vals E)) (g:=g.new d w.heap.size (.box d) (fun j _=>vals.getD j undef)) (m:=aB S.ms d (some (.bx cs),[])) d 0;rw [this] at hb;exact hb
 ·intro r hr;simp [AV.refs] at hr;subst hr;simp [aB]
theorem S5 (R:Rel w0 cl0 S a.tmps w g) {n:Nat} {x:PX} {op:Op} {av:AV} {rt:Option Rt} {m':Ms} (hn:(S.ms d).1=none)
 (hc:aM P κ (.box n x) op=true) (h:aw Γ S.ev d S.ms (.box n x)=some (av,rt,m')) (o:Oper) (ho:o.op=op):
 ∃v w',(execOp a.eval o).run P w=.ok (.value v) w'∧et w0 cl0 S a.tmps d av rt m' v w':=by
 cases op with
 |box e ox=>?_
 |_=>simp [aM] at hc
 simp only [aM] at hc;have e1:=(bF R hc).1;simp only [aw] at h;split at h
 ·rename_i cs dx;split at h
  ·simp at h;obtain ⟨rfl,rfl,rfl⟩:=h;obtain ⟨hl,bZ⟩:=uQ e1 (RL dx);refine ⟨_,_,?_,LF R hn dx hl bZ e⟩;simp [execOp,ho,Instr.box,newVar,newRow]
  ·cases h
 ·cases h
theorem JA:∀(as:List AV) (vs:List Value),rP as vs=true→as.length=vs.length∧∀(i:Nat) (b:AV) (v:Value),as[i]?=some b→vs[i]?=some v→uR b v=true:=by
 intro as;induction as with
 |nil=>intro vs h;cases vs<;>simp [rP] at h ⊢
 |cons b bs ih=>
  intro vs h;cases vs with
  |nil=>simp [rP] at h
  |cons v vs=>
   simp only [rP,zb] at h;obtain ⟨h1,h2⟩:=ih vs h.2;refine ⟨by simp [h1],fun i c x hc hx=>?_⟩;cases i with
   |zero=>simp at hc hx;subst hc;subst hx;exact h.1
   |succ i=>exact h2 i c x (by simpa using hc) (by simpa using hx)
theorem tG {e:TypeId} {z:List Value} (h:o_ P e=some z):∃i zv,P.info? e=some i∧i.zero=some zv∧zv.cells.toList=z∧zv.cells.size=i.size:=by
 unfold o_ at h;split at h
 ·rename_i i hi;split at h
  ·rename_i zv hz;split at h
   ·rename_i hs;simp at h;exact ⟨i,zv,hi,hz,h,hs⟩
   ·cases h
  ·cases h
 ·cases h
theorem S0 (R:Rel w0 cl0 S a.tmps w g) {zs:List AV} {op:Op} {av:AV} {rt:Option Rt} {m':Ms} (hn:(S.ms d).1=none)
 (hc:aM P κ (.alloc zs) op=true) (h:aw Γ S.ev d S.ms (.alloc zs)=some (av,rt,m')) (o:Oper) (ho:o.op=op):
 ∃v w',(execOp a.eval o).run P w=.ok (.value v) w'∧et w0 cl0 S a.tmps d av rt m' v w':=by
 cases op with
 |alloc e=>?_
 |_=>simp [aM] at hc
 simp only [aM] at hc;split at hc
 ·rename_i z hz;obtain ⟨i,zv,hi,ko,kn,_⟩:=tG hz;obtain ⟨hl,hg⟩:=JA zs z hc;simp only [aw] at h;split at h
  ·rename_i cs dx;simp at h;obtain ⟨rfl,rfl,rfl⟩:=h;refine ⟨_,_,?_,LF R (vals:=zv.cells) hn dx (by rw [hl,←kn];simp) (fun k b x hb hx=>?_) e⟩
   ·simp [execOp,ho,Instr.alloc,zeroValue,typeInfo,hi,ko,newVar,newRow]
   ·exact (BU (hg k b x hb (by rw [←kn];simpa using hx))).1
  ·cases h
 ·cases hc
end
end
section
section
variable {P:Program} {κ:Nat→FuncId} {w0:World} {cl0:dv} {S:St} {w:World} {g:Gh} {a:Act} {Γ:Env} {d:Nat}
def Hd (w:World) (g:Gh) (q:Nat) (d:D) (x:Value):Prop:=OW w g 0 q [] d x∨∃sz,d=.sl sz []∧x=.slice none 0 0
theorem Hd.one {q:Nat} {d:D} {x:Value} (h:Hd w g q d x) (hd:d≠.dead):x.oneCell'=true:=by
 rcases h with h|⟨_,_,rfl⟩
 ·cases h<;>first|rfl|exact absurd rfl hd
 ·rfl
theorem My {q:Nat} {c:C} {d:D} {x:Value} (h:RC w g 0 q c x) (hc:c.oA=some d):Hd w g q d x:=by
 cases h with
 |ro k d0 _ hr=>
  simp only [C.oA] at hc;split at hc
  ·rename_i hs;simp at hc;subst hc;refine .inl ?_;cases hr with
   |int=>exact .int _ _ _
   |bool=>exact .bool _ _
   |str=>exact .str _ _
   |_=>simp [D.bC] at hs
  ·cases hc
 |own d0 _ ho=>simp [C.oA] at hc;subst hc;exact .inl ho
 |rf=>simp [C.oA] at hc
theorem Mz:∀(cs:List C) {ds:List D},qq cs=some ds→ds.length=cs.length∧∀(i:Nat) (c:C) (d:D),cs[i]?=some c→ds[i]?=some d→c.oA=some d:=by
 intro cs;induction cs with
 |nil=>intro ds h;simp [qq] at h;subst h;exact ⟨rfl,fun i c d h=>by simp at h⟩
 |cons c cs ih=>
  intro ds h;simp only [qq] at h;cases h1:c.oA with
  |none=>simp [h1] at h
  |some d1=>
   simp only [h1] at h;cases h2:qq cs with
   |none=>simp [h2] at h
   |some B1=>
    simp only [h2] at h;simp at h;subst h;obtain ⟨hl,hg⟩:=ih h2;refine ⟨by simp [hl],fun i c1 NY hc hd=>?_⟩;cases i with
    |zero=>simp at hc hd;subst hc;subst hd;exact h1
    |succ i=>exact hg i c1 NY (by simpa using hc) (by simpa using hd)
theorem eV.gG {N:Nat→Prop} {g g':Gh} {m m':Ms} (h:eV N g m g' m') {q:Nat} (hq:¬N q) {d:D} {x:Value} (ha:Hd w g q d x):Hd w g' q d x:=by
 rcases ha with ha|ha
 ·exact .inl (h.ow hq ha)
 ·exact .inr ha
theorem Hd.place {w':World} {g':Gh} {q r j:Nat} {p:aI} {d:D} {x:Value} (h:Hd w g q d x)
 (hc:∀b ρ,g.cl b=.own 0 q ρ→w'.heap[b]?=w.heap[b]?∧g'.cl b=.own r j (p++ρ))
 (hh:∀ρ,ρ≠[]→g'.hd r j (p++ρ)=g.hd 0 q ρ) (hx:g'.hd r j p=x):OW w' g' r j p d x:=by
 rcases h with h|⟨sz,rfl,rfl⟩
 ·cases h with
  |int=>exact .int _ _ _
  |bool=>exact .bool _ _
  |str=>exact .str _ _
  |dead=>exact .dead _ _ hx
  |nil=>exact .nil _ _ hx
  |sl _ sz es b off cap vals E bY bA hl cf hw hN hk=>
   have h0:=hc b [] bA;refine .sl _ _ _ b off cap vals E hx (by simpa using h0.2) hl cf (by rw [h0.1];exact hw) hN (fun i c e d x he hd hx=>?_);refine (hk i c e d x he hd hx).mono (fun b ρ hb=>?_) (fun ρ=>?_)
   ·have:=hc b ((i,c)::ρ) (by simpa using hb);simpa using this
   ·have:=hh ((i,c)::ρ) (by simp);simpa using this
 ·exact .nil _ _ hx
theorem Hd.scalar {w':World} {g':Gh} {q r j:Nat} {p:aI} {d:D} {x:Value} (h:Hd w g q d x) (hs:d.bC=true):OW w' g' r j p d x:=by
 rcases h with h|⟨sz,rfl,rfl⟩
 ·cases h with
  |int=>exact .int _ _ _
  |bool=>exact .bool _ _
  |str=>exact .str _ _
  |_=>simp [D.bC] at hs
 ·simp [D.bC] at hs
theorem yC {q:Nat} {d:D} {x:Value} (h:yB d x=true):Hd w g q d x:=by
 unfold yB at h;split at h
 ·simp at h;obtain ⟨rfl,rfl⟩:=h;exact .inl (.int _ _ _)
 ·simp at h;subst h;exact .inl (.bool _ _)
 ·rename_i s s';simp at h;obtain rfl:s=s':=ByteArray.ext h;exact .inl (.str _ _)
 ·simp at h;obtain ⟨rfl,rfl⟩:=h;exact .inr ⟨_,rfl,rfl⟩
 ·cases h
theorem BW:∀(as:List D) (vs:List Value),qD as vs=true→as.length=vs.length∧∀(i:Nat) (b:D) (v:Value),as[i]?=some b→vs[i]?=some v→yB b v=true:=by
 intro as;induction as with
 |nil=>intro vs h;cases vs<;>simp [qD] at h ⊢
 |cons b bs ih=>
  intro vs h;cases vs with
  |nil=>simp [qD] at h
  |cons v vs=>
   simp only [qD,zb] at h;obtain ⟨h1,h2⟩:=ih vs h.2;refine ⟨by simp [h1],fun i c x hc hx=>?_⟩;cases i with
   |zero=>simp at hc hx;subst hc;subst hx;exact h.1
   |succ i=>exact h2 i c x (by simpa using hc) (by simpa using hx)
def Gh.jD (g:Gh) (d b sz:Nat) (hdr:Value) (X:Nat→Value):Gh where
 cl:=fun k=>if k=b then .own (d+1) 0 [] else match g.cl k with
  |.own 0 q ρ=>.own (d+1) 0 ((q/sz,q%sz)::ρ)
  |c=>c
 hd:=fun r j ρ=>if r=d+1 then (match ρ with
     |[]=>hdr
     |(i,c)::l_=>if l_=[] then X (i*sz+c) else g.hd 0 (i*sz+c) l_) else g.hd r j ρ
 bk:=g.bk
theorem dT.jD {w':World} (d_:∀b,g.cl b≠.no→b<w.heap.size) {d sz:Nat} {hdr:Value} {X:Nat→Value}
 (hp:∀b,b<w.heap.size→w'.heap[b]?=w.heap[b]?) (hs:w'.heap.size=w.heap.size+1) (eJ:ee w w'):dT d w w' g (g.jD d w.heap.size sz hdr X):=by
 have eF:g.cl w.heap.size=.no:=by
  by_cases h:g.cl w.heap.size=.no
  ·exact h
  ·exact absurd (d_ _ h) (Zf _)
 have cg:∀b c,g.cl b=c→c≠.no→b≠w.heap.size:=fun b c h hc e=>by subst e;rw [eF] at h;exact hc h.symm
 refine { hp:=fun b h _=>hp b h,hs:=by omega,kc:=fun b k=>?_,cl:=fun b n j ρ h hn=>?_,bx:=fun b n h hn=>?_,hd:=fun n j ρ hn=>by simp [Gh.jD,hn],
          bk:=fun n hn=>rfl,bd:=fun b h=>?_,mi:=fun b hb h=>?_,sd:=eJ }
 ·simp only [Gh.jD];split
  ·rename_i e;subst e;rw [eF];cases k<;>simp [OM.kc]
  ·cases h:g.cl b with
   |own r j ρ=>cases r<;>cases k<;>simp [OM.kc]
   |_=>exact .rfl
 ·simp [Gh.jD,cg b _ h (by simp),h]
 ·simp [Gh.jD,cg b _ h (by simp),h]
 ·by_cases e:b=w.heap.size
  ·exact .inr ⟨by omega,by omega⟩
  ·left;intro h0;simp [Gh.jD,e,h0] at h
 ·have e:b≠w.heap.size:=by omega
  simp only [Gh.jD,if_neg e] at h;cases h0:g.cl b<;>rw [h0] at h<;>first|rfl|(simp [cM.bS] at h)
theorem LG (R:Rel w0 cl0 S a.tmps w g) (hn:(S.ms d).1=none) {w':World} {sz cap:Nat} {es:List (List D)} {vals:Array Value} {E:TypeId}
 (hp:∀b,b<w.heap.size→w'.heap[b]?=w.heap[b]?) (hs:w'.heap.size=w.heap.size+1) (eJ:ee w w') (gy:w'.heap[w.heap.size]?=some (.cells vals E))
 (hl:∀e∈es,e.length=sz) (cf:es.length≤cap) (hN:cap*sz≤vals.size)
 (hc:∀(i c:Nat) (e:List D) (d:D) (x:Value),es[i]?=some e→e[c]?=some d→vals[i*sz+c]?=some x→Hd w g (i*sz+c) d x):
 et w0 cl0 S a.tmps d (.pl d 0 []) (some (.aR [.own (.sl sz es)])) S.ms (.slice (some ⟨w.heap.size,0,none⟩) es.length cap) w':=by
 have H:=dT.jD (w:=w) (w':=w') (g:=g) R.bd (d:=d) (sz:=sz) (hdr:=.slice (some ⟨w.heap.size,0,none⟩) es.length cap) (X:=fun k=>vals.getD k undef) hp hs eJ;refine ⟨_,R.fresh hn H ?_ ?_,?_,?_⟩
 ·intro j c hj;cases j with
  |succ j=>simp at hj
  |zero=>
   simp at hj;subst hj;refine .own _ _ ?_
   have bY:(g.jD d w.heap.size sz (.slice (some ⟨w.heap.size,0,none⟩) es.length cap) fun k=>vals.getD k undef).hd (d+1) 0 []=
    .slice (some ⟨w.heap.size,0,none⟩) es.length cap:=by simp [Gh.jD]
   rw [bY];refine .sl _ _ _ w.heap.size 0 cap vals E bY (by simp [Gh.jD]) hl cf gy (by omega) (fun i c e dd x he hd hx=>?_);simp only [zm,zw] at hx ⊢;have dx:c<sz:=by have:=jR hl he;have:=bj hd;omega
   have hdiv:(i*sz+c)/sz=i:=by
    rw [zq,Nat.mul_add_div (by omega),Nat.div_eq_of_lt dx];rfl
   have CQ:(i*sz+c)%sz=c:=by
    rw [zq,Zc,zU dx]
   refine (hc i c e dd x he hd hx).place (fun b ρ hb=>?_) (fun ρ gJ=>?_) ?_
   ·have ah:=R.bd b (by rw [hb];simp);refine ⟨hp b ah,?_⟩;have:b≠w.heap.size:=by omega
    simp [Gh.jD,this,hb,hdiv,CQ]
   ·simp [Gh.jD,gJ]
   ·simp only [Gh.jD,if_true,zB,hx,Option.getD_some]
 ·intro j r1 j1 hj;cases j<;>simp [Rt.cells] at hj
 ·exact .pl _ _ _ _ _ _ fun _=>by simp [Gh.jD]
 ·intro r hr;simp [AV.refs] at hr;subst hr;simp [aB]
end
end
section
section
variable {P:Program} {κ:Nat→FuncId} {w0:World} {cl0:dv} {S:St} {w:World} {g:Gh} {a:Act} {Γ:Env} {d:Nat}
theorem Kc:∀(l:List Value) (n off:Nat) (cs:Array Value),
 ((l.zipIdx n).foldl (fun cs (x:Value×Nat)=>cs.setIfInBounds (off+x.2) x.1) cs).size=cs.size∧
 ∀k:Nat,off+n+l.length≤cs.size→
  ((l.zipIdx n).foldl (fun cs (x:Value×Nat)=>cs.setIfInBounds (off+x.2) x.1) cs)[k]?=if off+n≤k∧k<off+n+l.length then l[k-(off+n)]? else cs[k]?:=by
 intro l;induction l with
 |nil=>intro n off cs;simp;intro k h1 h2 h3;omega
 |cons v l ih=>
  intro n off cs;simp only [List.zipIdx_cons,List.foldl_cons];obtain ⟨h1,h2⟩:=ih (n+1) off (cs.setIfInBounds (off+n) v);refine ⟨by rw [h1];simp,fun k hk=>?_⟩;simp only [zG] at hk;rw [h2 k (by simp;omega)];by_cases e1:off+(n+1)≤k∧k<off+(n+1)+l.length
  ·rw [if_pos e1,if_pos (by simp only [zG];omega),show k-(off+n)=(k-(off+(n+1)))+1 from by omega];simp
  ·rw [if_neg e1];by_cases e2:k=off+n
   ·subst e2;rw [if_pos (by simp only [zG];omega)];simp [show off+n<cs.size from by omega]
   ·rw [if_neg (by simp only [zG];omega)];rw [Array.getElem?_setIfInBounds_ne (by omega)]
theorem J1 {place:Nat→Option (Nat×Nat)} {cells:Array Value} {i off n:Nat} {v:Value} {rest:List (Nat×Value)} (hp:place i=some (off,n))
 (hn:v.cells.size=n) (hb:off+n≤cells.size):∃gE,Instr.fill place cells ((i,v)::rest)=Instr.fill place gE rest∧gE.size=cells.size∧
   ∀k:Nat,gE[k]?=if off≤k∧k<off+n then v.cells[k-off]? else cells[k]?:=by
 refine ⟨(v.cells.toList.zipIdx 0).foldl (fun cs x=>cs.setIfInBounds (off+x.2) x.1) cells,?_,(Kc _ _ _ _).1,fun k=>?_⟩
 ·have h1:¬((decide (v.cells.size≠n)||decide (off+v.cells.size>cells.size))=true):=by simp;omega
  simp only [Instr.fill,hp,h1,zM,if_false];rw [←Array.foldl_toList,Array.toList_zipIdx]
 ·rw [(Kc v.cells.toList 0 off cells).2 k (by simp;omega)];simp [hn]
theorem yh {α:Type} {l xs:List α} {o k:Nat} (h:o+xs.length≤l.length):
 (ic l o xs)[k]?=if o≤k∧k<o+xs.length then xs[k-o]? else l[k]?:=by
 unfold ic;by_cases h1:k<o
 ·rw [if_neg (by omega),zQ,zg (by simp;omega),zT h1]
 ·by_cases h2:k<o+xs.length
  ·rw [if_pos ⟨by omega,h2⟩,zQ,zf (by simp;omega)];simp only [z_];rw [show min o l.length=o from by omega,zg (by omega)]
  ·rw [if_neg (by omega),zf (by simp;omega)];simp only [zN,z_,zp];rw [show min o l.length=o from by omega];congr 1;omega
theorem Be {α:Type} {l xs:List α} {o:Nat} (h:o+xs.length≤l.length):(ic l o xs).length=l.length:=by
 simp [ic];omega
theorem N5 (R:Rel w0 cl0 S a.tmps w g) {place at?:Nat→Option (Nat×Nat)} (bz:∀i off n,at? i=some (off,n)→place i=some (off,n)):
 ∀(ps:List (Nat×Nat×PX)) (parts:List (Nat×Operand)) (z l:List AV) (cells:Array Value),tR at? ps parts=true→
  tY z (ps.map fun x=>(x.1,x.2.1,S.ev x.2.2))=some l→z.length=cells.size→(∀(k:Nat) (b:AV) (x:Value),z[k]?=some b→cells[k]?=some x→RA w g S.ms b x∧Live S.ms b)→
  ∃gE,Instr.fill place cells (parts.map fun x=>(x.1,a.eval x.2))=some gE∧l.length=gE.size∧
   ∀(k:Nat) (b:AV) (x:Value),l[k]?=some b→gE[k]?=some x→RA w g S.ms b x∧Live S.ms b:=by
 intro ps;induction ps with
 |nil=>
  intro parts z l cells hc h hz hg;cases parts with
  |nil=>simp [tY] at h;subst h;exact ⟨cells,by simp [Instr.fill],hz,hg⟩
  |cons=>simp [tR] at hc
 |cons p ps ih=>
  intro parts z l cells hc h hz hg;obtain ⟨off,n,x⟩:=p;cases parts with
  |nil=>simp [tR] at hc
  |cons pt parts=>
   obtain ⟨i,ox⟩:=pt;simp only [tR,zb,decide_eq_true_eq] at hc;obtain ⟨⟨h1,h2⟩,h3⟩:=hc;simp only [zC,tY] at h;split at h
   ·rename_i cN;obtain ⟨hn,hb,uq⟩:=cN;have e:=bF R h2;obtain ⟨bA,bG⟩:=uQ e.1 uq;obtain ⟨gE,hf,hs,gH⟩:=J1 (v:=a.eval ox) (rest:=parts.map fun x=>(x.1,a.eval x.2)) (bz i off n h1) (by omega) (show off+n≤cells.size by omega);have hlen:=Be (l:=z) (xs:=(S.ev x).cells) (o:=off) (by omega)
    obtain ⟨c2,qQ,bV,fE⟩:=ih parts _ l gE h3 h (by omega) (fun k b y dc hy=>by
     rw [yh (by omega)] at dc;rw [gH k] at hy;rw [hn] at dc;split at dc
     ·rename_i hk;rw [if_pos hk] at hy;refine ⟨bG _ b y dc hy,?_⟩;intro r hr;refine e.2 r ?_;cases bo:S.ev x with
      |agg cs=>
       rw [bo] at dc;have gu:cs[k-off]?=some b:=dc;simpa [AV.refs] using xn gu hr
      |_=>
       rw [bo] at dc;simp only [AV.cells] at dc;cases ug:k-off with
       |zero=>rw [ug] at dc;simp at dc;subst dc;exact hr
       |succ m=>rw [ug] at dc;simp at dc
     ·rename_i hk;rw [if_neg hk] at hy
      exact hg k b y dc hy)
    exact ⟨c2,by simp only [zC];rw [hf];exact qQ,bV,fE⟩
   ·cases h
theorem run_places {fs:Array Field} (h:∀f∈fs.toList,∃i,P.info? f.type=some i):
 (fs.mapM fun f=>(do pure (f.offset,←sizeOf f.type):Sem (Nat×Nat))).run P w=.ok (fs.map fun f=>(f.offset,P.cellsOf f.type)) w:=by
 obtain ⟨l⟩:=fs;rw [Array.mapM_eq_mapM_toList];simp only at h
 have:(l.mapM fun f=>(do pure (f.offset,←sizeOf f.type):Sem (Nat×Nat))).run P w=.ok (l.map fun f=>(f.offset,P.cellsOf f.type)) w:=by
  induction l with
  |nil=>simp
  |cons f l ih=>
   obtain ⟨i,hi⟩:=h f (by simp);have:=ih (fun f hf=>h f (by simp [hf]));have hs:(sizeOf f.type).run P w=.ok (P.cellsOf f.type) w:=by simp [sizeOf,typeInfo,hi,Program.cellsOf]
   simp only [List.mapM_cons,Sem.run_bind,this,hs,Result.andThen_ok,Sem.run_pure,zC]
 rw [Sem.run_map,this];simp
theorem SA {m:Ms}:∀(l:List AV),(∀(k:Nat) (av:AV),l[k]?=some av→Live m av)→∀r∈AV.b9 l,((m r).1).isSome:=by
 intro l;induction l with
 |nil=>intro _ r h;simp [AV.b9] at h
 |cons b bs ih=>
  intro h1 r h2;simp only [AV.b9,zx] at h2;rcases h2 with h2|h2
  ·exact h1 0 b rfl r h2
  ·exact ih (fun k av hk=>h1 (k+1) av hk) r h2
theorem N4 {t:TypeId} {f off n:Nat} (h:r6 P t f=some (off,n)):∃fs fd,P.underlying t=some (.struct fs)∧fs[f]?=some fd∧fd.offset=off∧P.cellsOf fd.type=n:=by
 unfold r6 at h;split at h
 ·rename_i fs hu;split at h
  ·rename_i fd pz;split at h
   ·rename_i i hi;simp at h;exact ⟨fs,fd,hu,pz,h.1,by simp [Program.cellsOf,hi,h.2]⟩
   ·cases h
  ·cases h
 ·cases h
theorem S7 (R:Rel w0 cl0 S a.tmps w g) {z:List AV} {ps:List (Nat×Nat×PX)} {op:Op} {av:AV} {rt:Option Rt} {m':Ms}
 (hc:aM P κ (.build z ps) op=true) (h:aw Γ S.ev d S.ms (.build z ps)=some (av,rt,m')):fl P S w g a av rt m' op:=by
 cases op with
 |build t parts=>?_
 |_=>simp [aM] at hc
 simp only [aM,zb] at hc;obtain ⟨⟨hz,Ra⟩,Cq⟩:=hc;split at hz
 ·rename_i zl my;obtain ⟨i,zv,hi,ko,kn,ju⟩:=tG my;obtain ⟨hl,hg⟩:=JA z zl hz;simp only [aw] at h;split at h
  ·rename_i l kN;simp at h;obtain ⟨rfl,rfl,rfl⟩:=h;refine ⟨rfl,rfl,fun o ho=>?_⟩;split at Cq
   ·rename_i fs hu
    have P4:∀f∈fs.toList,∃i,P.info? f.type=some i:=by
     intro f hf;have:=zd.1 Cq f hf;cases hh:P.info? f.type with
     |none=>simp [hh] at this
     |some i=>exact ⟨i,rfl⟩
    obtain ⟨gE,yZ,bV,bZ⟩:=N5 R (place:=((fs.map fun f=>(f.offset,P.cellsOf f.type))[·]?)) (at?:=r6 P t) (fun i off n h=>by
     obtain ⟨W9,fd,Ln,pz,h1,h2⟩:=N4 h;rw [hu] at Ln;cases Ln
     simp [pz,h1,h2]) ps parts.toList z l zv.cells Ra kN (by rw [hl,←kn];simp) (fun k b x hb hx=>by
      have:=BU (w:=w) (g:=g) (m:=S.ms) (hg k b x hb (by rw [←kn];simpa using hx))
      exact ⟨this.1,fun r hr=>by rw [this.2] at hr;cases hr⟩)
    refine ⟨.agg gE,?_,.agg _ _ bV (fun k b x hb hx=>(bZ k b x hb hx).1),?_⟩
    ·have Q9:=run_places (P:=P) (w:=w) P4;have Au:(parts.map fun x=>(x.1,a.eval x.2)).toList=parts.toList.map fun x=>(x.1,a.eval x.2):=by simp
     simp only [execOp,ho,Instr.build,Sem.run_bind,zeroValue,typeInfo,run_program,hi,Result.andThen_ok,ko,Sem.run_pure,run_underlying hu,Q9];rw [Au,yZ];rfl
    ·intro r hr;simp only [AV.refs] at hr;refine SA l (fun k b hk=>?_) r hr;have ah:=bj hk;exact (bZ k b gE[k] hk (by simp [show k<gE.size from by omega])).2
   ·cases Cq
  ·cases h
 ·cases hz
theorem LZ {α:Type} (l:List α):∀(n k:Nat),k<n*l.length→(rep n l)[k]?=l[k%l.length]?:=by
 intro n;induction n with
 |zero=>intro k h;simp at h
 |succ n ih=>
  intro k h;rw [zr] at h;simp only [rep,z3,List.flatten_cons];by_cases hk:k<l.length
  ·rw [zg hk,zU hk]
  ·rw [zf (by omega)];have:=ih (k-l.length) (by omega);simp only [rep] at this;rw [this];congr 1;rw [Nat.mod_eq_sub_mod (a:=k) (by omega)]
theorem Tp (R:Rel w0 cl0 S a.tmps w g) {sz bytes:Nat} {z:List D} {x:PX} {op:Op} {av:AV} {rt:Option Rt} {m':Ms} (hn:(S.ms d).1=none)
 (hc:aM P κ (.gR sz bytes z x) op=true) (h:aw Γ S.ev d S.ms (.gR sz bytes z x)=some (av,rt,m')) (o:Oper) (ho:o.op=op):
 ∃v w',(execOp a.eval o).run P w=.ok (.value v) w'∧et w0 cl0 S a.tmps d av rt m' v w':=by
 cases op with
 |makeSlice t ol oc=>?_
 |_=>simp [aM] at hc
 simp only [aM] at hc;split at hc
 ·rename_i e he;split at hc
  ·rename_i zl s1 dD my ix;obtain ⟨i,zv,hi,ko,kn,ju⟩:=tG my;simp only [zb,decide_eq_true_eq] at hc;obtain ⟨⟨⟨⟨⟨h1,h2⟩,h3⟩,h4⟩,h5⟩,h6⟩:=hc;obtain ⟨hl,hg⟩:=BW z zl h3;unfold fK at ix;rw [hi] at ix;simp at ix;simp only [aw] at h;split at h
   ·rename_i n K4;split at h
    ·rename_i cN;obtain ⟨h0,hb⟩:=cN;simp at h;obtain ⟨rfl,rfl,rfl⟩:=h;obtain ⟨k1,P7⟩:=tN (bF R h4).1 K4;obtain ⟨k2,jW⟩:=tN (bF R h5).1 K4
     have hu:P.underlying t=some (.slice e):=by
      unfold gP at he;split at he<;>simp_all
     have dg:i.size=sz:=by rw [←ju,←h1,←kn];simp
     have mj:i.bytes=bytes:=by rw [ix.2,h2]
     have gu:i.bytes*n.toNat≤2^47:=by rw [mj,zq];exact hb
     have KJ:(i.bytes:Int)*n≤281474976710656:=by
      have:((i.bytes*n.toNat:Nat):Int)≤2^47:=by exact_mod_cast gu
      rw [Int.natCast_mul,Int.toNat_of_nonneg h0] at this;omega
     have hb4:n.toNat≤2^47:=Nat.le_trans (Nat.le_mul_of_pos_right _ h6) hb;have du:=run_make (P:=P) w t e i zv hu hi ko k1 k2 n n h0 (Int.le_refl _) KJ (by omega)
     have Rf:(execOp a.eval o).run P w=.ok (.value (.slice (some ⟨w.heap.size,0,none⟩) n.toNat n.toNat)) (w.alloc (.cells (madeCells zv.cells (n.toNat*i.size)) e)):=by
      simp only [execOp,ho,P7,jW,Sem.run_bind,du,Result.andThen_ok,Sem.run_pure]
     refine ⟨_,_,Rf,?_⟩
     have js:=LG (d:=d) (a:=a) R hn (w':=w.alloc (.cells (madeCells zv.cells (n.toNat*i.size)) e)) (sz:=sz) (cap:=n.toNat) (es:=zj n.toNat z)
      (vals:=madeCells zv.cells (n.toNat*i.size)) (E:=e) (fun b hb=>heap_alloc_old w _ b hb) (by simp) (.alloc _ _) (heap_alloc_new w _)
      (fun l y9=>by rw [List.eq_of_mem_replicate y9];omega) (by simp) (by rw [size_madeCells,dg];exact zi _) (fun q c el dd y eI gG hy=>by
        have hq:=bj eI;simp at hq;rw [zV] at eI;simp [hq] at eI;subst eI;have hcz:=bj gG;have bA:c<zl.length:=by omega
        have P2:q*sz+c<n.toNat*i.size:=by
         have:(q+1)*sz≤n.toNat*sz:=zn _ (by omega);rw [zr] at this;rw [dg];omega
        have CQ:(q*sz+c)%zv.cells.size=c:=by
         rw [ju,dg,zq,Zc,zU (by omega)]
        have sR:zv.cells[c]?=zl[c]?:=by rw [←kn];simp
        rw [ze bA] at sR
        have:y=zl[c]:=by
         simp only [madeCells,z6,zZ,if_pos P2,zD,zR] at hy;rw [←hy,CQ];rw [getElem!_def,sR]
        subst this
        exact yC (hg c dd _ gG (by simp [bA])))
     simpa using js
    ·cases h
   ·cases h
  ·cases hc
 ·cases hc
end
end
section
section
variable {P:Program} {κ:Nat→FuncId} {w0:World} {cl0:dv} {S:St} {w:World} {g:Gh} {a:Act} {Γ:Env} {d:Nat}
theorem N7 {sz:Nat}:∀(ps:List (Nat×PX)) (parts:List (Nat×Operand)) {S:St} {g:Gh} (R:Rel w0 cl0 S a.tmps w g) (l l':List D) (cells:Array Value) (m':Ms),
 tT (fun i=>some (i*sz,sz)) ps parts=true→mX S.ms sz l (ps.map fun x=>(x.1,S.ev x.2))=some (l',m')→l.length=cells.size→
 (∀(k:Nat) (b:D) (x:Value),l[k]?=some b→cells[k]?=some x→Hd w g k b x)→
 ∃g' gE,Rel w0 cl0 { S with ms:=m' } a.tmps w g'∧Instr.fill (fun i=>some (i*sz,sz)) cells (parts.map fun x=>(x.1,a.eval x.2))=some gE∧l'.length=gE.size∧
  (∀(k:Nat) (b:D) (x:Value),l'[k]?=some b→gE[k]?=some x→Hd w g' k b x)∧(∀r,(S.ms r).1=none→(m' r).1=none)∧l'.length=l.length:=by
 intro ps;induction ps with
 |nil=>
  intro parts S g R l l' cells m' hc h hz hg;cases parts with
  |nil=>simp [mX] at h;obtain ⟨rfl,rfl⟩:=h;exact ⟨g,cells,R,by simp [Instr.fill],hz,hg,fun _ h=>h,rfl⟩
  |cons=>simp [tT] at hc
 |cons p ps ih=>
  intro parts S g R l l' cells m' hc h hz hg;obtain ⟨off,x⟩:=p;cases parts with
  |nil=>simp [tT] at hc
  |cons pt parts=>
   obtain ⟨i,ox⟩:=pt;simp only [tT,zb,beq_iff_eq] at hc;obtain ⟨⟨rfl,h2⟩,h3⟩:=hc;simp only [zC,mX] at h;cases h4:eX S.ms (S.ev x).cells with
   |none=>simp [h4] at h
   |some cm=>
    obtain ⟨cs,m1⟩:=cm;simp only [h4] at h;cases h5:qq cs with
    |none=>simp [h5] at h
    |some ds=>
     simp only [h5] at h;split at h
     ·rename_i cN;obtain ⟨hn,hb⟩:=cN;have e:=(bF R h2).1;obtain ⟨bA,bG⟩:=uQ e (Lu h4)
      obtain ⟨g1,R1,T1,nj,py⟩:=BI (S.ev x).cells R (vals:=(a.eval ox).cells.toList) (i*sz) (by simpa using bA)
       (fun k b y hb hy=>bG k b y hb (by simpa using hy)) h4
      obtain ⟨oW,iS⟩:=Mz cs h5
      obtain ⟨Nv,hf,hs,gH⟩:=J1 (place:=fun i=>some (i*sz,sz)) (cells:=cells) (v:=a.eval ox) (rest:=parts.map fun x=>(x.1,a.eval x.2)) (i:=i) rfl
       (by omega) (by omega)
      have hlen:=Be (l:=l) (xs:=ds) (o:=i*sz) (by omega)
      obtain ⟨g2,c2,R2,qQ,bV,fE,eF,vn⟩:=ih parts (S:={ S with ms:=m1 }) R1 (ic l (i*sz) ds) l' Nv m' h3 h (by omega) (fun k b y dc hy=>by
       rw [yh (by omega)] at dc;rw [gH k] at hy;rw [hn] at dc;split at dc
       ·rename_i hk;rw [if_pos hk] at hy;have ah:=bj dc;have gZ:cs[k-i*sz]?=some cs[k-i*sz]:=by simp [show k-i*sz<cs.length from by omega]
        have:=My (py (k-i*sz) _ y gZ (by simpa using hy)) (iS _ _ _ gZ dc);rwa [show i*sz+(k-i*sz)=k from by omega] at this
       ·rename_i hk;rw [if_neg hk] at hy
        exact T1.gG (by omega) (hg k b y dc hy))
      exact ⟨g2,c2,R2,by simp only [zC];rw [hf];exact qQ,bV,fE,fun r hr=>eF r (T1.no r hr),by omega⟩
     ·cases h
theorem JB:∀(n sz:Nat) (l:List D) (i c:Nat) (e:List D),(chunks sz n l)[i]?=some e→i<n∧e=(l.drop (i*sz)).take sz:=by
 intro n;induction n with
 |zero=>intro sz l i c e h;simp [chunks] at h
 |succ n ih=>
  intro sz l i c e h;simp only [chunks] at h;cases i with
  |zero=>simp at h;exact ⟨by omega,by simp [h]⟩
  |succ i=>
   simp only [List.getElem?_cons_succ] at h;obtain ⟨h1,h2⟩:=ih sz _ i c e h;refine ⟨by omega,?_⟩;rw [h2,List.drop_drop];congr 2;rw [zr];omega
theorem JC:∀(n sz:Nat) (l:List D),(chunks sz n l).length=n:=by
 intro n;induction n with
 |zero=>intros;rfl
 |succ n ih=>intro sz l;simp [chunks,ih]
theorem S6 (R:Rel w0 cl0 S a.tmps w g) {sz n:Nat} {z:List D} {ps:List (Nat×PX)} {op:Op} {av:AV} {rt:Option Rt} {m':Ms} (dS:(m' d).1=none)
 (hc:aM P κ (.cu sz z n ps) op=true) (h:aw Γ S.ev d S.ms (.cu sz z n ps)=some (av,rt,m')) (o:Oper) (ho:o.op=op):
 ∃v w',(execOp a.eval o).run P w=.ok (.value v) w'∧et w0 cl0 S a.tmps d av rt m' v w':=by
 cases op with
 |buildSlice t n' parts=>?_
 |_=>simp [aM] at hc
 simp only [aM] at hc;split at hc
 ·rename_i e he;split at hc
  ·rename_i zl my;obtain ⟨i,zv,hi,ko,kn,ju⟩:=tG my;simp only [zb,decide_eq_true_eq] at hc;obtain ⟨⟨⟨⟨rfl,h2⟩,h3⟩,h4⟩,h5⟩:=hc;obtain ⟨hl,hg⟩:=BW z _ h4
   have hu:P.underlying t=some (.slice e):=by
    unfold gP at he;split at he<;>simp_all
   have dg:i.size=sz:=by rw [←ju,←h2,←kn];simp
   have Da:(rep n zl).length=n*sz:=by rw [←h2];clear hl hg h4;induction n with
    |zero=>simp [rep]
    |succ n ih=>simp [rep,zr] at *
   simp only [aw] at h;split at h
   ·rename_i l m1 pz;simp at h;obtain ⟨rfl,rfl,rfl⟩:=h
    have pR:∃zc:Array Value,((n*sz=0∧zc=#[])∨(n*sz≠0∧zc=zv.cells))∧
     ∀k:Nat,k<n*sz→((Zh (n*sz)).map (zc[·%zc.size]!))[k]?=(rep n zl)[k]?:=by
     by_cases hz:n*sz=0
     ·exact ⟨#[],.inl ⟨hz,rfl⟩,fun k hk=>by omega⟩
     ·refine ⟨zv.cells,.inr ⟨hz,rfl⟩,fun k hk=>?_⟩;have rj:0<sz:=zy (fun e=>hz (by rw [e,Nat.mul_zero]));rw [LZ zl n k (by rw [h2];exact hk)];have hm:k%zl.length<zl.length:=zS _ (by omega);simp only [z6,zZ,if_pos hk,zD]
      have sR:zv.cells[k%zv.cells.size]?=zl[k%zl.length]?:=by
       rw [ju,dg,←h2,←kn];simp
      rw [ze hm] at sR ⊢;rw [getElem!_def,sR]
    obtain ⟨zc,ja,mw⟩:=pR
    obtain ⟨g1,gE,R1,yZ,nj,kO,eF,vn⟩:=N7 ps parts.toList R z l ((Zh (n*sz)).map (zc[·%zc.size]!)) m1 h5 pz (by simp;omega) (fun k b x hb hx=>by
     have hk:=bj hb;rw [mw k (by omega)] at hx
     exact yC (hg k b x hb hx))
    have Au:(parts.map fun x=>(x.1,a.eval x.2)).toList=parts.toList.map fun x=>(x.1,a.eval x.2):=by simp
    have du:(execOp a.eval o).run P w=.ok (.value (.slice (some ⟨w.heap.size,0,none⟩) n n)) (w.alloc (.cells gE e)):=by
     have Ks:¬(n*sz>2^24):=by omega
     have sE:(sizeOf e).run P w=.ok sz w:=by simp [sizeOf,typeInfo,hi,dg]
     have Rw:(zeroValue e).run P w=.ok zv w:=by simp [zeroValue,typeInfo,hi,ko]
     rcases ja with ⟨h8,rfl⟩|⟨h8,rfl⟩
     ·simp only [execOp,ho,Instr.buildSlice,Sem.run_bind,run_underlying hu,Result.andThen_ok,sE,Ks,if_false,if_pos h8,Sem.run_pure];rw [Au,yZ];simp [newRow]
     ·simp only [execOp,ho,Instr.buildSlice,Sem.run_bind,run_underlying hu,Result.andThen_ok,sE,Ks,if_false,if_neg h8,Sem.run_pure,Rw];rw [Au,yZ];simp [newRow]
    refine ⟨_,_,du,?_⟩
    have js:=LG (S:={ S with ms:=m1 }) (d:=d) (a:=a) R1 dS (w':=w.alloc (.cells gE e)) (sz:=sz) (cap:=n) (es:=chunks sz n l)
     (vals:=gE) (E:=e) (fun b hb=>heap_alloc_old w _ b hb) (by simp) (.alloc _ _) (heap_alloc_new w _) (fun el jo=>by
       obtain ⟨q,hq⟩:=zh.1 jo;obtain ⟨h6,rfl⟩:=JB n sz l q 0 el hq;have:(q+1)*sz≤n*sz:=zn _ h6;rw [zr] at this
       simp;omega) (by rw [JC];exact zi _) (by omega) (fun q c el dd y hq hd hy=>by
       obtain ⟨h6,rfl⟩:=JB n sz l q c el hq;rw [zO] at hd;split at hd
       ·rw [zp] at hd;exact kO _ dd y hd hy
       ·cases hd)
    rw [JC] at js;exact js
   ·cases h
  ·cases hc
 ·cases hc
def tZ:C→Prop
 |.ro _ d=>d≠.dead
 |.own d=>∃sz es,d=.sl sz es
 |.rf ..=>False
theorem MZ {m m':Ms} {av:AV} {c:C} (h:eo m av=some (c,m')):tZ c:=by
 unfold eo at h;split at h
 ·cases h
 ·rename_i hd;simp at h;obtain ⟨rfl,rfl⟩:=h;exact fun e=>hd e
 ·simp at h;obtain ⟨rfl,rfl⟩:=h;exact ⟨_,_,rfl⟩
 ·split at h
  ·rename_i ht;simp at h;obtain ⟨rfl,rfl⟩:=h;obtain ⟨sz,es,_,_,rfl,_⟩:=tt ht;exact ⟨_,_,rfl⟩
  ·cases h
 ·split at h
  ·simp at h;obtain ⟨rfl,rfl⟩:=h;exact ⟨_,_,rfl⟩
  ·cases h
 ·cases h
theorem M0:∀(as:List AV) {m m':Ms} {cs:List C},eX m as=some (cs,m')→∀c∈cs,tZ c:=by
 intro as;induction as with
 |nil=>intro m m' cs h;simp [eX] at h;obtain ⟨rfl,rfl⟩:=h;intro c hc;cases hc
 |cons a as ih=>
  intro m m' cs h;simp only [eX] at h;cases h1:eo m a with
  |none=>simp [h1] at h
  |some cm=>
   obtain ⟨c,m1⟩:=cm;simp only [h1] at h;cases h2:eX m1 as with
   |none=>simp [h2] at h
   |some JD=>
    simp only [h2] at h;simp at h;obtain ⟨rfl,rfl⟩:=h;intro c' qO;rcases List.mem_cons.1 qO with rfl|qO
    ·exact MZ h1
    ·exact ih h2 c' qO
theorem Ko {r j:Nat} {c:C} {x:Value} (h:RC w g r j c x) (hg:tZ c):x.oneCell'=true:=by
 cases h with
 |ro k d _ hr=>
  cases hr with
  |dead=>exact absurd rfl hg
  |_=>rfl
 |own d _ ho=>
  obtain ⟨sz,es,rfl⟩:=hg;obtain ⟨b,n,c,rfl⟩:=ho.slice;rfl
 |rf=>exact hg.elim
def Gh.sb (g:Gh) (r j n:Nat) (K:Nat→Bool) (X:Nat→Value):Gh where
 cl:=fun k=>match g.cl k with
  |.own 0 q ρ=>if q<n∧K q=true then .own (r+1) (j+q) ρ else .own 0 q ρ
  |c=>c
 hd:=fun r1 j1 ρ=>if r1=r+1∧j≤j1∧j1<j+n∧K (j1-j)=true then (if ρ=[] then X (j1-j) else g.hd 0 (j1-j) ρ) else g.hd r1 j1 ρ
 bk:=g.bk
theorem Gh.L3 {r j n:Nat} {K:Nat→Bool} {X:Nat→Value} {b:Nat} {k:Bool}:(g.sb r j n K X).cl b=kc k↔g.cl b=kc k:=by
 simp only [Gh.sb];cases h:g.cl b with
 |own r1 j1 ρ=>
  cases r1 with
  |zero=>simp only [];split<;>cases k<;>simp [kc]
  |succ r1=>exact .rfl
 |_=>exact .rfl
theorem Gh.Ut {r j n:Nat} {K:Nat→Bool} {X:Nat→Value} {b:Nat}:((g.sb r j n K X).cl b).bS=(g.cl b).bS:=by
 simp only [Gh.sb];cases h:g.cl b with
 |own r1 j1 ρ=>
  cases r1 with
  |zero=>simp only [];split<;>rfl
  |succ r1=>rfl
 |_=>rfl
theorem Gh.Uu {r j n:Nat} {K:Nat→Bool} {X:Nat→Value} {b:Nat}:(g.sb r j n K X).cl b=.no↔g.cl b=.no:=by
 simp only [Gh.sb];cases h:g.cl b with
 |own r1 j1 ρ=>
  cases r1 with
  |zero=>simp only [];split<;>simp
  |succ r1=>simp
 |_=>simp
theorem SG:∀(q j:Nat) (os ns:List C) (o n:C),os[q]?=some o→ns[q]?=some n→(o.bC&&n.bC)=false→(j+q,[])∈mC j os ns:=by
 intro q;induction q with
 |zero=>
  intro j os ns o n ho hn hk;cases os with
  |nil=>simp at ho
  |cons o' os=>
   cases ns with
   |nil=>simp at hn
   |cons n' ns=>
    simp at ho hn;subst ho;subst hn;simp only [mC];rw [if_neg (by rw [hk];simp)];simp
 |succ q ih=>
  intro j os ns o n ho hn hk;cases os with
  |nil=>simp at ho
  |cons o' os=>
   cases ns with
   |nil=>simp at hn
   |cons n' ns=>
    simp at ho hn;have:=ih (j+1) os ns o n ho hn hk;rw [show j+(q+1)=j+1+q from by omega];simp only [mC];split
    ·exact this
    ·exact z0 _ this
theorem DI {m:Ms} {r j:Nat} {k p:aI} (h:(j,k)∈(m r).2) (ht:jG k p=true):m.bM r j p=true:=by
 simp only [Ms.bM,Za];exact ⟨(j,k),h,by simp [ht]⟩
theorem Vb (p:aI):jG [] p=true:=by cases p<;>rfl
def Ca:C→Prop
 |.ro _ _=>True
 |.own d=>∃sz es,d=.sl sz es
 |.rf ..=>False
theorem Md (R:Rel w0 cl0 S a.tmps w g) {r j:Nat} {cs0 cs:List C} {vals:List Value} {kl:List (Nat×aI)} (hm:S.ms r=(some (.bx cs0),kl)) (hb:j+cs.length≤cs0.length)
 (pE:vals.length=cs.length) (qR:∀c∈cs,Ca c) (o4:∀x∈vals,x.oneCell'=true) (hh:∀(i:Nat) (c:C) (x:Value),cs[i]?=some c→vals[i]?=some x→RC w g 0 i c x):
 ∃w' g',(storeCells ⟨g.bk r,j,none⟩ vals 0).run P w=.ok () w'∧
  Rel w0 cl0 { S with ms:=aB S.ms r (some (.bx (ic cs0 j cs)),mC j (cs0.drop j) cs++kl) } a.tmps w' g':=by
 have bP:=R.rt r (.bx cs0) (by rw [hm]);obtain ⟨bA,Vr,E,hw,hs,ml⟩:=bP;obtain ⟨w',dV,du,gy,AJ,gH,ri,sE,eJ⟩:=IF P hw vals (o:=j) (by omega) o4
 let K:Nat→Bool:=fun q=>!(((cs0.drop j).getD q (.own .dead)).bC&&(cs.getD q (.own .dead)).bC)
 have P8:∀q,q<cs.length→K q=true→∀ρ,Ms.bM (aB S.ms r (some (.bx (ic cs0 j cs)),mC j (cs0.drop j) cs++(S.ms r).2)) r (j+q) ρ=true:=by
  intro q hq hK ρ;refine DI (k:=[]) ?_ (Vb _);simp only [gL];refine zx.2 (.inl ?_)
  have h1:(cs0.drop j)[q]?=some ((cs0.drop j).getD q (.own .dead)):=by
   have:q<(cs0.drop j).length:=by simp;omega
   simp only [zu,ze this];rfl
  have h2:cs[q]?=some (cs.getD q (.own .dead)):=by
   simp only [zu,ze hq];rfl
  refine SG q j _ _ _ _ h1 h2 ?_;simp only [K] at hK;revert hK;generalize (((cs0.drop j).getD q (.own .dead)).bC&&(cs.getD q (.own .dead)).bC)=b;cases b<;>simp
 have de:∀b k,g.cl b=kc k→w'.heap[b]?=w.heap[b]?∧(g.sb r j cs.length K (fun q=>vals.getD q undef)).cl b=kc k:=fun b k h=>
  ⟨ri b (fun e=>by subst e;rw [bA] at h;cases k<;>simp [kc] at h),Gh.L3.2 h⟩
 have pH:∀b n j1 ρ,g.cl b=.own n j1 ρ→w'.heap[b]?=w.heap[b]?:=fun b n j1 ρ h=>ri b (fun e=>by subst e;rw [bA] at h;cases h)
 have hlen:=Be (l:=cs0) (xs:=cs) (o:=j) hb;refine ⟨w',g.sb r j cs.length K (fun q=>vals.getD q undef),du,?_⟩;have eg:(mC j (cs0.drop j) cs++kl)=mC j (cs0.drop j) cs++(S.ms r).2:=by rw [hm]
 rw [eg];refine R.Jz (b0:=g.bk r) (rt:=.bx cs0) (rt':=.bx (ic cs0 j cs)) (by rw [hm]) rfl ?_ ?_ ?_
 ·refine { hp:=ri,hs:=sE,ow:=.inl bA,kc:=fun b k=>Gh.L3,cl:=fun b n j1 ρ h=>by simp [Gh.sb,h],bx:=fun b n h=>by simp [Gh.sb,h],
           hd:=fun n j1 ρ hn=>by simp [Gh.sb,hn],hr:=fun j1 ρ hk=>?_,hv:=fun _ h=>by simp [Rt.sU] at h,bk:=rfl,bd:=fun b h=>by rwa [ne_eq,Gh.Uu] at h,
           mi:=fun b h=>by rwa [Gh.Ut] at h,sd:=eJ }
  simp only [Gh.sb];split
  ·rename_i hc;obtain ⟨_,h1,h2,h3⟩:=hc;have:=P8 (j1-j) (by omega) h3 ρ;rw [show j+(j1-j)=j1 from by omega] at this;rw [this] at hk;cases hk
  ·rfl
 ·refine ⟨by simp [Gh.sb,bA],dV,E,gy,by omega,fun k c x hc hx=>?_⟩;rw [yh hb] at hc;rw [gH k,pE] at hx;split at hc
  ·rename_i hk;rw [if_pos hk] at hx;have o5:=hh (k-j) c x hc hx;have hg:=qR c (za hc);cases o5 with
   |ro kk dd _ hr=>exact .ro _ _ _ (hr.mono fun b hb=>de b kk hb)
   |own dd _ ho=>
    obtain ⟨sz,es,rfl⟩:=hg
    have hK:K (k-j)=true:=by
     simp only [K,zu,hc];simp [C.bC]
    refine .own _ _ (ho.mono (fun b ρ hb=>⟨pH b _ _ _ hb,?_⟩) (fun ρ=>?_))
    ·simp only [Gh.sb,hb,zw];rw [if_pos ⟨by omega,hK⟩,show j+(k-j)=k from by omega]
    ·simp only [Gh.sb,zw];rw [if_pos ⟨trivial,hk.1,hk.2,hK⟩];split
     ·rename_i e;subst e;rw [←ho.ir];simp [zu,hx]
     ·rfl
   |rf=>exact hg.elim
  ·rename_i hk;rw [if_neg hk] at hx;refine (ml k c x hc hx).mono de (fun b ρ hb=>⟨pH b _ _ _ hb,by simp [Gh.sb,hb]⟩) (fun ρ=>?_) (fun r1 j1 e=>?_)
   ·simp only [Gh.sb];rw [if_neg (by omega)]
   ·subst e;obtain ⟨WK,hv⟩:=R.ea r (.bx cs0) k r1 j1 (by rw [hm]) hc;have:r1≠r:=fun e=>by subst e;rw [hm] at hv;cases hv
    simp [Gh.sb,this]
 ·intro k r1 j1 hc;simp only [Rt.cells] at hc;rw [yh hb] at hc;split at hc
  ·exact (qR _ (za hc)).elim
  ·exact R.ea r (.bx cs0) k r1 j1 (by rw [hm]) hc
theorem Ol {c:C} (h:tZ c):Ca c:=by
 cases c with
 |ro k d=>trivial
 |own d=>exact h
 |rf=>exact h.elim
theorem UM (R:Rel w0 cl0 S a.tmps w g) {r j:Nat} {cs0 cs:List C} {vals:List Value} {kl:List (Nat×aI)} (hm:S.ms r=(some (.bx cs0),kl)) (hb:j+cs.length≤cs0.length)
 (pE:vals.length=cs.length) (qR:∀c∈cs,tZ c) (hh:∀(i:Nat) (c:C) (x:Value),cs[i]?=some c→vals[i]?=some x→RC w g 0 i c x):
 ∃w' g',(storeCells ⟨g.bk r,j,none⟩ vals 0).run P w=.ok () w'∧
  Rel w0 cl0 { S with ms:=aB S.ms r (some (.bx (ic cs0 j cs)),mC j (cs0.drop j) cs++kl) } a.tmps w' g':=by
 refine Md R hm hb pE (fun c hc=>Ol (qR c hc)) (fun x hx=>?_) hh;obtain ⟨i,hi⟩:=zh.1 hx;have ah:=bj hi;have qP:cs[i]?=some cs[i]:=by simp [show i<cs.length from by omega]
 exact Ko (hh i _ x qP hi) (qR _ (za qP))
end
end
section
section
variable {P:Program} {κ:Nat→FuncId} {w0:World} {cl0:dv} {S:St} {w:World} {g:Gh} {a:Act} {Γ:Env} {d:Nat}
def Gh.so (g:Gh) (r j:Nat) (p:aI) (i c n:Nat) (K:Nat→Bool) (X:Nat→Value):Gh where
 cl:=fun k=>match g.cl k with
  |.own 0 q ρ=>if q<n∧K q=true then .own (r+1) j (p++(i,c+q)::ρ) else .own 0 q ρ
  |c=>c
 hd:=fun r1 j1 rF=>match rF.drop p.length with
  |(i',c')::ρ=>if r1=r+1∧j1=j∧p <+: rF∧i'=i∧c≤c'∧c'<c+n∧K (c'-c)=true then (if ρ=[] then X (c'-c) else g.hd 0 (c'-c) ρ) else g.hd r1 j1 rF
  |[]=>g.hd r1 j1 rF
 bk:=g.bk
section
variable {r j i c n:Nat} {p:aI} {K:Nat→Bool} {X:Nat→Value}
theorem Gh.L8 {b:Nat} {k:Bool}:(g.so r j p i c n K X).cl b=kc k↔g.cl b=kc k:=by
 simp only [Gh.so];cases h:g.cl b with
 |own r1 j1 ρ=>
  cases r1 with
  |zero=>simp only [];split<;>cases k<;>simp [kc]
  |succ r1=>exact .rfl
 |_=>exact .rfl
theorem Gh.Uz {b:Nat}:((g.so r j p i c n K X).cl b).bS=(g.cl b).bS:=by
 simp only [Gh.so];cases h:g.cl b with
 |own r1 j1 ρ=>
  cases r1 with
  |zero=>simp only [];split<;>rfl
  |succ r1=>rfl
 |_=>rfl
theorem Gh.UA {b:Nat}:(g.so r j p i c n K X).cl b=.no↔g.cl b=.no:=by
 simp only [Gh.so];cases h:g.cl b with
 |own r1 j1 ρ=>
  cases r1 with
  |zero=>simp only [];split<;>simp
  |succ r1=>simp
 |_=>simp
theorem Gh.tq {r1 j1:Nat} {rF:aI} (h:¬(r1=r+1∧j1=j∧∃q ρ,rF=p++(i,c+q)::ρ∧q<n∧K q=true)):(g.so r j p i c n K X).hd r1 j1 rF=g.hd r1 j1 rF:=by
 simp only [Gh.so];split
 ·rename_i i' c' ρ hd;split
  ·rename_i hc;obtain ⟨h1,h2,h3,h4,h5,h6,h7⟩:=hc;exfalso;refine h ⟨h1,h2,c'-c,ρ,?_,by omega,h7⟩;obtain ⟨t,rfl⟩:=h3;simp at hd;rw [hd,h4,show c+(c'-c)=c' from by omega]
  ·rfl
 ·rfl
theorem Gh.L7 {q:Nat} {ρ:aI} (hq:q<n) (hK:K q=true):(g.so r j p i c n K X).hd (r+1) j (p++(i,c+q)::ρ)=if ρ=[] then X q else g.hd 0 q ρ:=by
 simp only [Gh.so,List.drop_left];rw [if_pos ⟨trivial,trivial,z7 _ _,trivial,by omega,by omega,by rw [show c+q-c=q from by omega];exact hK⟩,show c+q-c=q from by omega]
end
theorem U_:∀(p k q:aI),jG (p++k) (p++q)=jG k q:=by
 intro p;induction p with
 |nil=>intros;rfl
 |cons s p ih=>intro k q;obtain ⟨i,c⟩:=s;simp [jG,ih]
theorem SH:∀(q j:Nat) (p:aI) (i c:Nat) (os ns:List D) (o n:D),os[q]?=some o→ns[q]?=some n→(o.bC&&n.bC)=false→(j,p++[(i,c+q)])∈lC j p i c os ns:=by
 intro q;induction q with
 |zero=>
  intro j p i c os ns o n ho hn hk;cases os with
  |nil=>simp at ho
  |cons o' os=>
   cases ns with
   |nil=>simp at hn
   |cons n' ns=>
    simp at ho hn;subst ho;subst hn;simp only [lC];rw [if_neg (by rw [hk];simp)];simp
 |succ q ih=>
  intro j p i c os ns o n ho hn hk;cases os with
  |nil=>simp at ho
  |cons o' os=>
   cases ns with
   |nil=>simp at hn
   |cons n' ns=>
    simp at ho hn;have:=ih j p i (c+1) os ns o n ho hn hk;rw [show c+(q+1)=c+1+q from by omega];simp only [lC];split
    ·exact this
    ·exact z0 _ this
theorem Rx {i i' c' c n sz:Nat} (h:i'≠i) (qO:c'<sz) (hc:c+n≤sz):¬(i*sz+c≤i'*sz+c'∧i'*sz+c'<i*sz+c+n):=by
 rcases zH i' i with h1|h1
 ·have:(i'+1)*sz≤i*sz:=zn _ h1;rw [zr] at this;omega
 ·have:(i+1)*sz≤i'*sz:=zn _ (by omega);rw [zr] at this;omega
theorem Ir {m m':Ms} {r j:Nat} {p:aI} {x:D} {kl:List (Nat×aI)} (h:m.putAt r j p x kl=some m'):
 ∃rt d0,(m r).1=some rt∧rt.cells[j]?=some (.own d0)∧m'=aB m r (some (rt.gB j (.own (d0.put p x))),kl++(m r).2):=by
 unfold Ms.putAt at h;split at h
 ·rename_i rt bP;split at h
  ·rename_i d0 g9;simp at h;exact ⟨rt,d0,bP,g9,h.symm⟩
  ·cases h
 ·cases h
theorem Mh (R:Rel w0 cl0 S a.tmps w g) {r j sz i c b1 o1:Nat} {p:aI} {es:List (List D)} {e:List D} {ds:List D} {vals:List Value} {m':Ms}
 (jt:Value.pointer (some ⟨b1,o1,none⟩)=pb (g.hd (r+1) j p) (i*sz+c)) (bz:S.ms.at r j p=some (.sl sz es)) (he:es[i]?=some e) (hb:c+ds.length≤e.length)
 (hm:S.ms.putAt r j p (.sl sz (es.set i (ic e c ds))) (lC j p i c (e.drop c) ds)=some m')
 (pE:vals.length=ds.length) (o4:∀x∈vals,x.oneCell'=true) (hh:∀(q:Nat) (d:D) (x:Value),ds[q]?=some d→vals[q]?=some x→Hd w g q d x):
 ∃w' g',(storeCells ⟨b1,o1,none⟩ vals 0).run P w=.ok () w'∧Rel w0 cl0 { S with ms:=m' } a.tmps w' g':=by
 obtain ⟨rt,d0,bP,g9,rfl⟩:=Ir hm
 have Pd:d0.ff p=some (.sl sz es):=by
  obtain ⟨_,rt2,d2,h1,h2,h3⟩:=fo bz;rw [bP] at h1;cases h1;rw [g9] at h2;cases h2;exact h3
 obtain ⟨x0,ho⟩:=R.at bz;have fI:=ho.ir;subst fI;generalize KO:g.hd (r+1) j p=v0 at ho jt;cases ho with
 |nil=>simp at he
 |sl _ _ _ b off cap Vr E bY bA hl cf hw hN gI=>
  simp only [pb,Value.pointer.injEq,zR,Addr.mk.injEq] at jt;obtain ⟨rfl,rfl,_⟩:=jt;have jo:=jR hl he;have y7:=bj he;have P0:(i+1)*sz≤cap*sz:=zn _ (by omega);rw [zr] at P0;obtain ⟨w',dV,du,gy,AJ,gH,ri,sE,eJ⟩:=IF P hw vals (o:=off+(i*sz+c)) (by omega) o4
  let K:Nat→Bool:=fun q=>!(((e.drop c).getD q .dead).bC&&(ds.getD q .dead).bC)
  let X:Nat→Value:=fun q=>vals.getD q undef
  have P':∀q,q<ds.length→K q=true→∀ρ,Ms.bM (aB S.ms r (some (rt.gB j (.own (d0.put p (.sl sz (es.set i (ic e c ds)))))),lC j p i c (e.drop c) ds++(S.ms r).2)) r j (p++(i,c+q)::ρ)=true:=by
   intro q hq hK ρ;refine DI (k:=p++[(i,c+q)]) ?_ (by rw [U_];simp [jG]);simp only [gL];refine zx.2 (.inl ?_)
   have h1:(e.drop c)[q]?=some ((e.drop c).getD q .dead):=by
    have:q<(e.drop c).length:=by simp;omega
    simp only [zu,ze this];rfl
   have h2:ds[q]?=some (ds.getD q .dead):=by
    simp only [zu,ze hq];rfl
   refine SH q j p i c _ _ _ _ h1 h2 ?_;simp only [K] at hK;revert hK;generalize (((e.drop c).getD q .dead).bC&&(ds.getD q .dead).bC)=b;cases b<;>simp
  have cg:∀b',g.cl b'≠.own (r+1) j p→w'.heap[b']?=w.heap[b']?:=fun b' h=>ri b' (fun e=>by subst e;exact h bA)
  have de:∀b k,g.cl b=kc k→w'.heap[b]?=w.heap[b]?∧(g.so r j p i c ds.length K X).cl b=kc k:=fun b k h=>
   ⟨cg b (by rw [h];exact R_),Gh.L8.2 h⟩
  have u9:∀b n j1 ρ,g.cl b=.own (n+1) j1 ρ→(g.so r j p i c ds.length K X).cl b=.own (n+1) j1 ρ:=fun b n j1 ρ h=>by simp [Gh.so,h]
  have ui:∀n j1,(g.so r j p i c ds.length K X).hd n j1 []=g.hd n j1 []:=fun n j1=>Gh.tq (by simp)
  refine ⟨w',g.so r j p i c ds.length K X,du,?_⟩;refine R.Jz (b0:=b1) (rt:=rt) bP (by cases rt<;>rfl) ?_ ?_ (fun k r1 j1 hc=>?_)
  ·refine { hp:=ri,hs:=sE,ow:=.inr ⟨j,p,bA⟩,kc:=fun b k=>Gh.L8,cl:=u9,bx:=fun b n h=>by simp [Gh.so,h],
            hd:=fun n j1 ρ hn=>Gh.tq (by simp [hn]),hr:=fun j1 ρ hk=>?_,hv:=fun j1 _=>ui _ _,bk:=rfl,bd:=fun b h=>by rwa [ne_eq,Gh.UA] at h,
            mi:=fun b h=>by rwa [Gh.Uz] at h,sd:=eJ }
   refine Gh.tq (fun hc=>?_);obtain ⟨_,rfl,q,l_,rfl,hq,hK⟩:=hc;rw [P' q hq hK l_] at hk;cases hk
  ·refine (R.rt r rt bP).put g9 Pd de (fun b' j1 ρ h1 h2=>⟨cg b' (fun e=>?_),u9 _ _ _ _ h1⟩) (fun cs dx=>⟨rfl,cg _ (fun e=>?_),?_⟩)
    (fun j1 ρ h1=>Gh.tq (fun hc=>?_)) (fun _ _=>ui _ _) (fun _ _ _ _=>ui _ _) (fun x hx=>?_)
   ·rw [h1] at e;cases e;exact h2 ⟨rfl,List.prefix_refl _⟩
   ·have h5:=R.rt r rt bP;subst dx;rw [h5.1] at e;cases e
   ·have h5:=R.rt r rt bP;subst dx;simp [Gh.so,h5.1]
   ·obtain ⟨_,rfl,q,l_,rfl,_⟩:=hc;exact h1 ⟨rfl,z7 _ _⟩
   ·
    have pM:=hx.ir;rw [KO] at pM;subst pM;have hlen:(es.set i (ic e c ds)).length=es.length:=by simp
    have uk:=Be (l:=e) (xs:=ds) (o:=c) hb;rw [←hlen];refine .sl p sz _ b1 off cap dV E ?_ (u9 _ _ _ _ bA) ?_ (by rw [hlen];exact cf) gy (by omega) ?_
    ·rw [hlen,←KO]
     exact Gh.tq (fun hc=>by
      obtain ⟨_,_,q,l_,h,_⟩:=hc;have:=congrArg List.length h
      simp at this)
    ·intro e' eI;rcases List.mem_or_eq_of_mem_set eI with h|h
     ·exact hl _ h
     ·subst h;omega
    ·intro i' c' e' d' x eI gG hx;rw [gH] at hx;by_cases hi:i'=i
     ·subst hi;rw [zA y7] at eI;cases eI;rw [yh hb] at gG;split at gG
      ·rename_i gZ;rw [if_pos (by omega)] at hx
       have fh:vals[c'-c]?=some x:=by
        rw [←hx];congr 1;omega
       have Ky:=hh (c'-c) d' x gG fh;by_cases hK:K (c'-c)=true
       ·refine Ky.place (fun b' ρ dc=>⟨cg b' (by rw [dc];simp),?_⟩) (fun ρ gJ=>?_) ?_
        ·simp only [Gh.so,dc];rw [if_pos ⟨by omega,hK⟩,show c+(c'-c)=c' from by omega];simp
        ·have:=Gh.L7 (g:=g) (r:=r) (j:=j) (p:=p) (i:=i') (c:=c) (X:=X) (ρ:=ρ) (show c'-c<ds.length by omega) hK;rw [show c+(c'-c)=c' from by omega] at this;simp only [zQ,List.singleton_append];rw [this,if_neg gJ]
        ·have:=Gh.L7 (g:=g) (r:=r) (j:=j) (p:=p) (i:=i') (c:=c) (X:=X) (ρ:=[]) (show c'-c<ds.length by omega) hK;rw [show c+(c'-c)=c' from by omega] at this;rw [this,if_pos rfl];simp [X,zu,fh]
       ·refine Ky.scalar ?_;have:(ds.getD (c'-c) .dead)=d':=by simp [zu,gG]
        simp only [K,this] at hK;cases mo:d'.bC
        ·simp [mo] at hK
        ·rfl
      ·rename_i gZ;rw [if_neg (by omega)] at hx;refine (gI i' c' e d' x he gG hx).mono (fun b' ρ dc=>⟨cg b' (fun e=>?_),u9 _ _ _ _ dc⟩) (fun ρ=>Gh.tq (fun hc=>?_))
       ·rw [dc] at e;simp at e
       ·obtain ⟨_,_,q,l_,h,hq,_⟩:=hc;simp at h;omega
     ·rw [z1 (by omega)] at eI;have dx:c'<sz:=by have:=jR hl eI;have:=bj gG;omega
      have e_:=Rx (n:=ds.length) (c:=c) hi dx (by omega);rw [if_neg (by omega)] at hx;refine (gI i' c' e' d' x eI gG hx).mono (fun b' ρ dc=>⟨cg b' (fun e=>?_),u9 _ _ _ _ dc⟩) (fun ρ=>Gh.tq (fun hc=>?_))
      ·rw [dc] at e;simp at e
      ·obtain ⟨_,_,q,l_,h,hq,_⟩:=hc;simp at h;omega
  ·rw [Jo] at hc;by_cases e:k=j
   ·subst e;rw [zA (bj g9)] at hc;cases hc
   ·rw [z1 (by omega)] at hc;exact R.ea r rt k r1 j1 bP hc
theorem D.aa' {c:C} {d:D} (hg:tZ c) (h:c.oA=some d):d≠.dead:=by
 cases c with
 |ro k d0=>simp only [C.oA] at h;split at h<;>simp at h;subst h;exact hg
 |own d0=>simp [C.oA] at h;subst h;obtain ⟨_,_,rfl⟩:=hg;simp
 |rf=>exact hg.elim
theorem Iy {t:TypeId} {n b o:Nat} {v:Value} {w':World} (hs:∃dD,fK P t=some (n,dD)) (hv:v.cells.size=n)
 (h:(storeCells ⟨b,o,none⟩ v.cells.toList 0).run P w=.ok () w'):(Instr.storeAt t (.pointer (some ⟨b,o,none⟩)) v).run P w=.ok () w':=by
 obtain ⟨dD,hs⟩:=hs;unfold fK at hs;split at hs
 ·rename_i i hi;simp at hs;have dg:(sizeOf t).run P w=.ok v.cells.size w:=by simp [sizeOf,typeInfo,hi,hs.1,hv]
  simp only [Instr.storeAt,Sem.run_bind,Instr.sureAddr,Sem.run_pure,Result.andThen_ok,storeVar,dg,ne_eq,not_true,if_false];exact h
 ·cases hs
theorem TA (R:Rel w0 cl0 S a.tmps w g) {n:Nat} {x y:PX} {op:Op} {av:AV} {rt:Option Rt} {m':Ms}
 (hc:aM P κ (.st n x y) op=true) (h:aw Γ S.ev d S.ms (.st n x y)=some (av,rt,m')) (o:Oper) (ho:o.op=op):
 rt=none∧∃w' g',(execOp a.eval o).run P w=.ok .skip w'∧Rel w0 cl0 { S with ms:=m' } a.tmps w' g':=by
 cases op with
 |store t oa ob=>?_
 |_=>simp [aM] at hc
 simp only [aM] at hc;split at hc
 ·rename_i n' dD hs;simp only [zb,beq_iff_eq] at hc;obtain ⟨⟨rfl,h1⟩,h2⟩:=hc;have e2:=(bF R h2).1;simp only [aw] at h;split at h
  ·rename_i cs m1 ua;split at h
   ·rename_i hn;split at h
    ·rename_i m2 cO;simp at h;obtain ⟨rfl,rfl,rfl⟩:=h;refine ⟨rfl,?_⟩;obtain ⟨bA,bG⟩:=uQ e2 (Lu ua)
     obtain ⟨g1,R1,T1,nj,kO⟩:=BI (S.ev y).cells R (vals:=(a.eval ob).cells.toList) 0 (by simpa using bA)
      (fun k b z hb hz=>bG k b z hb (by simpa using hz)) ua
     have qR:=M0 _ ua;have e1:=(bF R1 h1).1;have dg:(a.eval ob).cells.size=n:=by omega
     generalize hv:a.eval oa=v at e1;have bo:({ S with ms:=m1 }:St).ev x=S.ev x:=by cases x<;>rfl
     rw [bo] at e1;cases hx:S.ev x with
     |bx r j=>
      rw [hx] at e1 cO;cases e1 with
      |bx=>
       simp only [kR] at cO;cases hm:m1 r with
       |mk jE kl=>
        cases jE with
        |none=>simp [hm] at cO
        |some bX=>
         cases bX with
         |aR=>simp [hm] at cO
         |bx cs0=>
          simp only [hm] at cO;split at cO
          ·rename_i hb;simp at cO;subst cO
           obtain ⟨w',g',du,R2⟩:=UM (P:=P) (a:=a) R1 (r:=r) (j:=j) (cs0:=cs0) (cs:=cs) (vals:=(a.eval ob).cells.toList) (kl:=kl) hm hb (by simp;omega) qR
            (fun i c z hc hz=>by simpa using kO i c z hc hz)
           refine ⟨w',g',?_,R2⟩;have:=Iy (P:=P) (t:=t) (v:=a.eval ob) ⟨_,hs⟩ dg du;simp only [execOp,ho,hv,Sem.run_bind,this,Result.andThen_ok,Sem.run_pure]
          ·cases cO
     |ad r j p sz i c=>
      rw [hx] at e1 cO;simp only [kR] at cO;split at cO
      ·rename_i ds mo;split at cO
       ·rename_i dQ es bz;split at cO
        ·rename_i e he;split at cO
         ·rename_i hb;obtain ⟨hb,rfl⟩:=hb;obtain ⟨oW,iS⟩:=Mz cs mo;cases e1 with
          |ad _ _ _ _ _ _ b1 o1 jt=>
           have hk:m1.bM r j p=false:=(fo bz).1
           obtain ⟨w',g',du,R2⟩:=Mh (P:=P) (a:=a) R1 (vals:=(a.eval ob).cells.toList) (jt hk) bz he hb cO (by simp;omega)
            (fun z hz=>by
              obtain ⟨q,hq⟩:=zh.1 hz;have ah:=bj hq;simp at ah;have u_:cs[q]?=some cs[q]:=by simp [show q<cs.length from by omega]
              exact Ko (by simpa using kO q _ z u_ hq) (qR _ (za u_)))
            (fun q d z hd hz=>by
              have ah:=bj hd;have u_:cs[q]?=some cs[q]:=by simp [show q<cs.length from by omega]
              exact My (by simpa using kO q _ z u_ hz) (iS q _ d u_ hd))
           refine ⟨w',g',?_,R2⟩;have:=Iy (P:=P) (t:=t) (v:=a.eval ob) ⟨_,hs⟩ dg du;simp only [execOp,ho,hv,Sem.run_bind,this,Result.andThen_ok,Sem.run_pure]
         ·cases cO
        ·cases cO
       ·cases cO
      ·cases cO
     |_=>rw [hx] at cO;simp [kR] at cO
    ·cases h
   ·cases h
  ·cases h
 ·cases hc
theorem B0 {w:World} {g:Gh} {m:Ms} {a:AV} {c:C} {x:Value} {q:Nat} (ha:RA w g m a x) (h:pk a=some c):RC w g 0 q c x∧Ca c∧x.oneCell'=true:=by
 unfold pk at h;split at h
 ·cases h
 ·rename_i k d hd;simp at h;subst h;cases ha with
  |v _ _ _ hr=>exact ⟨.ro _ _ _ hr,trivial,by cases hr<;>first|rfl|exact absurd rfl hd⟩
 ·simp at h;subst h;cases ha with
  |nl=>exact ⟨.ro _ _ _ (.dead _),trivial,rfl⟩
 ·simp at h;subst h;cases ha with
  |pl=>exact ⟨.ro _ _ _ (.dead _),trivial,rfl⟩
 ·simp at h;subst h;cases ha with
  |rg=>exact ⟨.ro _ _ _ (.dead _),trivial,rfl⟩
 ·cases h
theorem N1:∀(as:List AV) {cs:List C},mW as=some cs→cs.length=as.length∧∀(i:Nat) (c:C),cs[i]?=some c→∃a,as[i]?=some a∧pk a=some c:=by
 intro as;induction as with
 |nil=>intro cs h;simp [mW] at h;subst h;exact ⟨rfl,fun i c hc=>by simp at hc⟩
 |cons a as ih=>
  intro cs h;simp only [mW] at h;cases h1:pk a with
  |none=>simp [h1] at h
  |some c=>
   simp only [h1] at h;cases h2:mW as with
   |none=>simp [h2] at h
   |some jk=>
    simp only [h2] at h;simp at h;subst h;obtain ⟨hl,hg⟩:=ih h2;refine ⟨by simp [hl],fun i c1 hc=>?_⟩;cases i with
    |zero=>simp at hc;subst hc;exact ⟨a,rfl,h1⟩
    |succ i=>simpa using hg i c1 (by simpa using hc)
theorem RK {av:AV} {cs:List C} (h:mW av.cells=some cs):av.isVal=true:=by
 cases av with
 |un=>simp [AV.cells,mW,pk] at h
 |bu=>simp [AV.cells,mW,pk] at h
 |v k d=>cases d<;>first|rfl|(simp [AV.cells,mW,pk] at h)
 |_=>rfl
theorem TB (R:Rel w0 cl0 S a.tmps w g) {n:Nat} {x y:PX} {op:Op} {av:AV} {rt:Option Rt} {m':Ms}
 (hc:aM P κ (.qp n x y) op=true) (h:aw Γ S.ev d S.ms (.qp n x y)=some (av,rt,m')) (o:Oper) (ho:o.op=op):
 rt=none∧∃w' g',(execOp a.eval o).run P w=.ok .skip w'∧Rel w0 cl0 { S with ms:=m' } a.tmps w' g':=by
 cases op with
 |store t oa ob=>?_
 |_=>simp [aM] at hc
 simp only [aM] at hc;split at hc
 ·rename_i n' dD hs;simp only [zb,beq_iff_eq] at hc;obtain ⟨⟨rfl,h1⟩,h2⟩:=hc;have e2:=(bF R h2).1;have e1:=(bF R h1).1;simp only [aw] at h;split at h
  ·rename_i cs ua;split at h
   ·rename_i hn;split at h
    ·rename_i m2 cO;simp at h;obtain ⟨rfl,rfl,rfl⟩:=h;refine ⟨rfl,?_⟩;obtain ⟨bA,bG⟩:=uQ e2 (RK ua);obtain ⟨oW,iS⟩:=N1 _ ua;have dg:(a.eval ob).cells.size=n:=by omega
     generalize hv:a.eval oa=v at e1;cases hx:S.ev x with
     |bx r j=>
      rw [hx] at e1 cO;cases e1 with
      |bx=>
       simp only [tr,kR] at cO;cases hm:S.ms r with
       |mk jE kl=>
        cases jE with
        |none=>simp [hm] at cO
        |some bX=>
         cases bX with
         |aR=>simp [hm] at cO
         |bx cs0=>
          simp only [hm] at cO;split at cO
          ·rename_i hb;simp at cO;subst cO
           obtain ⟨w',g',du,R2⟩:=Md (P:=P) (a:=a) R (r:=r) (j:=j) (cs0:=cs0) (cs:=cs) (vals:=(a.eval ob).cells.toList) (kl:=kl) hm hb (by simp;omega)
            (fun c hc=>by
              obtain ⟨i,hi⟩:=zh.1 hc;obtain ⟨b,pw,gu⟩:=iS i c hi;have ah:=bj pw;have hz:(a.eval ob).cells[i]?=some (a.eval ob).cells[i]:=by simp [show i<(a.eval ob).cells.size from by omega]
              exact (B0 (q:=i) (bG i b _ pw hz) gu).2.1)
            (fun z hz=>by
              obtain ⟨i,hi⟩:=zh.1 hz;have ah:=bj hi;simp at ah;have qP:cs[i]?=some cs[i]:=by simp [show i<cs.length from by omega]
              obtain ⟨b,pw,gu⟩:=iS i _ qP
              exact (B0 (q:=i) (bG i b z pw (by simpa using hi)) gu).2.2)
            (fun i c z hc hz=>by
              obtain ⟨b,pw,gu⟩:=iS i c hc
              exact (B0 (q:=i) (bG i b z pw (by simpa using hz)) gu).1)
           refine ⟨w',g',?_,R2⟩;have:=Iy (P:=P) (t:=t) (v:=a.eval ob) ⟨_,hs⟩ dg du;simp only [execOp,ho,hv,Sem.run_bind,this,Result.andThen_ok,Sem.run_pure]
          ·cases cO
     |_=>rw [hx] at cO;simp [tr] at cO
    ·cases h
   ·cases h
  ·cases h
 ·cases hc
end
end
section
section
variable {P:Program} {κ:Nat→FuncId} {w0:World} {cl0:dv} {S:St} {w:World} {g:Gh} {a:Act} {Γ:Env} {d:Nat}
def Gh.ap (g:Gh) (d b n:Nat) (hdr:Value):Gh where
 cl:=fun k=>if k=b then .own (d+1) 0 [] else match g.cl k with
  |.own 0 0 ρ=>.own (d+1) 0 ρ
  |.own 0 1 ((i,c)::ρ)=>.own (d+1) 0 ((n+i,c)::ρ)
  |c=>c
 hd:=fun r j ρ=>if r=d+1 then (match ρ with
     |[]=>hdr
     |(i,c)::l_=>if i<n then g.hd 0 0 ((i,c)::l_) else g.hd 0 1 ((i-n,c)::l_)) else g.hd r j ρ
 bk:=g.bk
theorem Ja (c:cM):(∃ρ,c=.own 0 0 ρ)∨(∃i j ρ,c=.own 0 1 ((i,j)::ρ))∨((∀ρ,c≠.own 0 0 ρ)∧∀i j ρ,c≠.own 0 1 ((i,j)::ρ)):=by
 cases c with
 |own r j ρ=>
  by_cases h:r=0∧j=0
  ·obtain ⟨rfl,rfl⟩:=h;exact .inl ⟨ρ,rfl⟩
  ·by_cases h2:r=0∧j=1∧ρ≠[]
   ·obtain ⟨rfl,rfl,h3⟩:=h2;cases ρ with
    |nil=>exact absurd rfl h3
    |cons s ρ=>exact .inr (.inl ⟨s.1,s.2,ρ,rfl⟩)
   ·refine .inr (.inr ⟨fun l_ e=>?_,fun i j' l_ e=>?_⟩)
    ·simp at e;exact h ⟨e.1,e.2.1⟩
    ·simp at e;exact h2 ⟨e.1,e.2.1,by rw [e.2.2];simp⟩
 |_=>exact .inr (.inr ⟨by simp,by simp⟩)
theorem Gh.uK {d b n k:Nat} {hdr:Value} (hk:k≠b) (h1:∀ρ,g.cl k≠.own 0 0 ρ) (h2:∀i j ρ,g.cl k≠.own 0 1 ((i,j)::ρ)):(g.ap d b n hdr).cl k=g.cl k:=by
 simp only [Gh.ap,if_neg hk]
theorem dT.ap {w':World} (d_:∀b,g.cl b≠.no→b<w.heap.size) {d b n:Nat} {hdr:Value} (hb:(g.cl b=.own 0 0 [])∨(w.heap.size≤b∧b<w'.heap.size))
 (hp:∀k,k<w.heap.size→k≠b→w'.heap[k]?=w.heap[k]?) (hs:w.heap.size≤w'.heap.size) (eJ:ee w w'):dT d w w' g (g.ap d b n hdr):=by
 have kM:∀k c,g.cl k=c→(c≠.no∧c≠.own 0 0 [])→k≠b:=by
  intro k c h hc e;subst e;rcases hb with hb|hb
  ·rw [hb] at h;exact hc.2 h.symm
  ·have:=d_ k (by rw [h];exact hc.1);omega
 refine { hp:=fun k hk h0=>hp k hk (fun e=>?_),hs:=hs,kc:=fun k kk=>?_,cl:=fun k n' j ρ h hn=>?_,bx:=fun k n' h hn=>?_,hd:=fun n' j ρ hn=>by simp [Gh.ap,hn],
          bk:=fun n' hn=>rfl,bd:=fun k h=>?_,mi:=fun k hk h=>?_,sd:=eJ }
 ·subst e;rcases hb with hb|hb
  ·exact h0 _ _ hb
  ·omega
 ·by_cases e:k=b
  ·subst e;have h1:(g.ap d k n hdr).cl k=.own (d+1) 0 []:=by simp [Gh.ap]
   rw [h1];rcases hb with hb|hb
   ·rw [hb];cases kk<;>simp [OM.kc]
   ·have:g.cl k=.no:=by
     by_cases h:g.cl k=.no
     ·exact h
     ·have:=d_ k h;omega
    rw [this];cases kk<;>simp [OM.kc]
  ·rcases Ja (g.cl k) with ⟨ρ,h⟩|⟨i,j,ρ,h⟩|⟨h1,h2⟩
   ·simp only [Gh.ap,if_neg e,h];cases kk<;>simp [OM.kc]
   ·simp only [Gh.ap,if_neg e,h];cases kk<;>simp [OM.kc]
   ·rw [Gh.uK e h1 h2]
 ·rw [Gh.uK (kM k _ h ⟨by simp,by simp⟩) (by rw [h];simp) (by rw [h];simp),h]
 ·rw [Gh.uK (kM k _ h ⟨by simp,by simp⟩) (by rw [h];simp) (by rw [h];simp),h]
 ·by_cases e:k=b
  ·subst e;rcases hb with hb|hb
   ·left;rw [hb];simp
   ·exact .inr hb
  ·left;intro h0;rw [Gh.uK e (by rw [h0];simp) (by rw [h0];simp)] at h;exact h h0
 ·by_cases e:k=b
  ·subst e;rcases hb with hb|hb
   ·rw [hb];rfl
   ·omega
  ·rcases Ja (g.cl k) with ⟨ρ,h1⟩|⟨i,j,ρ,h1⟩|⟨h1,h2⟩
   ·rw [h1];rfl
   ·rw [h1];rfl
   ·rwa [Gh.uK e h1 h2] at h
theorem BK (R:Rel w0 cl0 S a.tmps w g) (hn:(S.ms d).1=none) {w':World} {sz b off cap:Nat} {es ys:List (List D)} {vals:Array Value} {E:TypeId}
 (hb:(g.cl b=.own 0 0 [])∨(w.heap.size≤b∧b<w'.heap.size)) (hp:∀k,k<w.heap.size→k≠b→w'.heap[k]?=w.heap[k]?) (hs:w.heap.size≤w'.heap.size) (eJ:ee w w')
 (gy:w'.heap[b]?=some (.cells vals E)) (hl:∀e∈es++ys,e.length=sz) (cf:(es++ys).length≤cap) (hN:off+cap*sz≤vals.size)
 (O6:∀(i c:Nat) (e:List D) (d:D) (x:Value),es[i]?=some e→e[c]?=some d→vals[off+i*sz+c]?=some x→OW w g 0 0 [(i,c)] d x)
 (Cm:∀(i c:Nat) (e:List D) (d:D) (x:Value),ys[i]?=some e→e[c]?=some d→vals[off+(es.length+i)*sz+c]?=some x→d.bC=true∧OW w g 0 1 [(i,c)] d x∨OW w g 0 1 [(i,c)] d x):
 et w0 cl0 S a.tmps d (.pl d 0 []) (some (.aR [.own (.sl sz (es++ys))])) S.ms (.slice (some ⟨b,off,none⟩) (es++ys).length cap) w':=by
 have H:=dT.ap (w:=w) (w':=w') (g:=g) R.bd (d:=d) (b:=b) (n:=es.length) (hdr:=.slice (some ⟨b,off,none⟩) (es++ys).length cap) hb hp hs eJ
 have kM:∀k c,g.cl k=c→(c≠.no∧c≠.own 0 0 [])→k≠b:=by
  intro k c h hc e;subst e;rcases hb with hb|hb
  ·rw [hb] at h;exact hc.2 h.symm
  ·have:=R.bd k (by rw [h];exact hc.1);omega
 refine ⟨_,R.fresh hn H ?_ ?_,?_,?_⟩
 ·intro j c hj;cases j with
  |succ j=>simp at hj
  |zero=>
   simp at hj;subst hj;refine .own _ _ ?_;have bY:(g.ap d b es.length (.slice (some ⟨b,off,none⟩) (es++ys).length cap)).hd (d+1) 0 []=.slice (some ⟨b,off,none⟩) (es++ys).length cap:=by simp [Gh.ap]
   rw [bY];refine .sl _ _ _ b off cap vals E bY (by simp [Gh.ap]) hl cf gy hN (fun i c e dd x he hd hx=>?_);simp only [zw];by_cases hi:i<es.length
   ·rw [zg hi] at he;refine (O6 i c e dd x he hd hx).mono (fun k ρ hk=>?_) (fun ρ=>?_)
    ·have vm:=kM k _ hk ⟨by simp,by simp⟩;have ah:=R.bd k (by rw [hk];simp);exact ⟨hp k ah vm,by simp [Gh.ap,vm,hk]⟩
    ·simp [Gh.ap,hi]
   ·rw [zf (by omega)] at he;have:=Cm (i-es.length) c e dd x he hd (by rwa [show es.length+(i-es.length)=i from by omega]);have sw:OW w g 0 1 [(i-es.length,c)] dd x:=by rcases this with h|h;exact h.2;exact h
    refine sw.mono (fun k ρ hk=>?_) (fun ρ=>?_)
    ·have vm:=kM k _ hk ⟨by simp,by simp⟩;have ah:=R.bd k (by rw [hk];simp);refine ⟨hp k ah vm,?_⟩;have:g.cl k=.own 0 1 ((i-es.length,c)::ρ):=by simpa using hk
     simp only [Gh.ap,if_neg vm,this];simp;omega
    ·simp [Gh.ap,hi]
 ·intro j r1 j1 hj;cases j<;>simp [Rt.cells] at hj
 ·exact .pl _ _ _ _ _ _ fun _=>by simp [Gh.ap]
 ·intro r hr;simp [AV.refs] at hr;subst hr;simp [aB]
theorem N2 (R:Rel w0 cl0 S a.tmps w g) {y:AV} {v:Value} (ha:RA w g S.ms y v) {sz:Nat} {ys:List (List D)} (h:S.ms.eY y=some (sz,ys)) (hf:jm ys=true) (dg:0<sz) (g2:Gh):
 ∃(b:Option Addr) (cap:Nat) (news:List Value),v=.slice b ys.length cap∧(∀e∈ys,e.length=sz)∧news.length=ys.length*sz∧
  (∀w1:World,w1.heap=w.heap→(Builtin.firstCells sz ys.length v).run P w1=.ok news.toArray w1)∧(∀x∈news,x.oneCell'=true)∧
  ∀(i c:Nat) (e:List D) (d:D) (x:Value),ys[i]?=some e→e[c]?=some d→news[i*sz+c]?=some x→OW w g2 0 1 [(i,c)] d x:=by
 obtain ⟨b,cap,hv,_,u6⟩:=B3 R ha h;by_cases cg:ys=[]
 ·subst cg;refine ⟨b,cap,[],hv,by simp,by simp,fun w1 _=>?_,by simp,by simp⟩;subst hv;cases b with
  |none=>simp [Builtin.firstCells]
  |some a=>simp [Builtin.firstCells,loadCells,loadCellsFrom]
 ·obtain ⟨b',o,rfl,cf,hl,dF⟩:=u6 cg
  have Lk:∀(i c:Nat) (e:List D) (d:D),ys[i]?=some e→e[c]?=some d→d.bC=true:=by
   intro i c e d he hd;have:=zd.1 hf e (za he);exact zd.1 this d (za hd)
  have uq:∀k,k<ys.length*sz→∃x,w.cell? ⟨b',o+k,none⟩=some x∧∀(e:List D) (d:D),ys[k/sz]?=some e→e[k%sz]?=some d→((∃kk,RO w g.cl kk d x)∨∃r j p,OW w g r j p d x):=by
   intro k hk;have hi:k/sz<ys.length:=zI (by rw [zq];exact hk);have hc:k%sz<sz:=zS _ dg;have he:ys[k/sz]?=some ys[k/sz]:=by simp [hi]
   have jo:=hl _ (za he);have hd:(ys[k/sz])[k%sz]?=some (ys[k/sz])[k%sz]:=by simp [jo,hc]
   obtain ⟨x,hx,iZ⟩:=dF _ _ _ _ he hd;have jW:o+k/sz*sz+k%sz=o+k:=by have:=Zd k sz;rw [zq] at this;omega
   rw [jW] at hx;refine ⟨x,hx,fun e d eI gG=>?_⟩;rw [he] at eI;cases eI;rw [hd] at gG;cases gG;exact iZ
  have sD:∀(d:D) (x:Value),d.bC=true→((∃kk,RO w g.cl kk d x)∨∃r j p,OW w g r j p d x)→x.oneCell'=true∧∀p,OW w g2 0 1 p d x:=by
   intro d x hs hx;rcases hx with ⟨kk,hx⟩|⟨_,_,_,hx⟩
   ·cases hx with
    |int=>exact ⟨rfl,fun p=>.int _ _ _⟩
    |bool=>exact ⟨rfl,fun p=>.bool _ _⟩
    |str=>exact ⟨rfl,fun p=>.str _ _⟩
    |_=>simp [D.bC] at hs
   ·cases hx with
    |int=>exact ⟨rfl,fun p=>.int _ _ _⟩
    |bool=>exact ⟨rfl,fun p=>.bool _ _⟩
    |str=>exact ⟨rfl,fun p=>.str _ _⟩
    |_=>simp [D.bC] at hs
  have vq:∀(k:Nat) (x:Value),((List.range (ys.length*sz)).map fun k=>(w.cell? ⟨b',o+k,none⟩).getD undef)[k]?=some x→k<ys.length*sz∧w.cell? ⟨b',o+k,none⟩=some x:=by
   intro k x hx;simp only [zE,zF] at hx;obtain ⟨k',CD,rfl⟩:=hx;have ah:=bj CD;simp at ah;rw [List.getElem?_range ah] at CD;cases CD;obtain ⟨x,hx,_⟩:=uq k ah;exact ⟨ah,by rw [hx];rfl⟩
  refine ⟨_,cap,(List.range (ys.length*sz)).map fun k=>(w.cell? ⟨b',o+k,none⟩).getD undef,hv,hl,by simp,fun w1 bW=>?_,fun x hx=>?_,fun i c e d x he hd hx=>?_⟩
  ·subst hv;simp only [Builtin.firstCells];refine xm P (by simp) (fun k x hx=>?_);have:=(vq k x hx).2;simpa [World.cell?,bW] using this
  ·obtain ⟨k,hk⟩:=zh.1 hx;obtain ⟨ah,hc⟩:=vq k x hk;obtain ⟨x',fh,iZ⟩:=uq k ah;rw [hc] at fh;cases fh;have hi:k/sz<ys.length:=zI (by rw [zq];exact ah);have gZ:k%sz<sz:=zS _ dg;have he:ys[k/sz]?=some ys[k/sz]:=by simp [hi]
   have jo:=hl _ (za he);have hd:(ys[k/sz])[k%sz]?=some (ys[k/sz])[k%sz]:=by simp [jo,gZ]
   exact (sD _ x (Lk _ _ _ _ he hd) (iZ _ _ he hd)).1
  ·obtain ⟨ah,hc⟩:=vq _ x hx;obtain ⟨x',fh,iZ⟩:=dF i c e d he hd;rw [zt,hc] at fh;cases fh;exact (sD d x (Lk i c e d he hd) iZ).2 _
theorem TK {w:World} {g:Gh} {sz:Nat} {ys:List (List D)} {v:Value} (h:OW w g 0 1 [] (.sl sz ys) v) (CG:ys.all (fun e=>e.all D.live)=true):
 ∃(b:Option Addr) (cap:Nat) (news:List Value),v=.slice b ys.length cap∧(∀e∈ys,e.length=sz)∧news.length=ys.length*sz∧
  (∀w1:World,w1.heap=w.heap→(Builtin.firstCells sz ys.length v).run P w1=.ok news.toArray w1)∧(∀x∈news,x.oneCell'=true∨sz=0)∧
  ∀(i c:Nat) (e:List D) (d:D) (x:Value),ys[i]?=some e→e[c]?=some d→news[i*sz+c]?=some x→OW w g 0 1 [(i,c)] d x:=by
 cases h with
 |nil=>exact ⟨none,0,[],rfl,by simp,by simp,fun w1 _=>by simp [Builtin.firstCells],by simp,by simp⟩
 |sl _ _ _ b off cap vals E hh bA hl cf hw hN hk=>
  have hle:ys.length*sz≤cap*sz:=zn _ cf
  have gH:∀(k:Nat) (x:Value),((vals.toList.drop off).take (ys.length*sz))[k]?=some x→k<ys.length*sz∧vals[off+k]?=some x:=by
   intro k x hx;rw [zO] at hx;split at hx
   ·rename_i ah;exact ⟨ah,by simpa using hx⟩
   ·cases hx
  refine ⟨_,cap,(vals.toList.drop off).take (ys.length*sz),rfl,hl,by simp;omega,fun w1 bW=>?_,fun x hx=>?_,fun i c e d x he hd hx=>?_⟩
  ·simp only [Builtin.firstCells];refine xm P (by simp;omega) (fun k x hx=>?_);rw [jP (vals:=vals) (E:=E) (fz:=(0,0)) (by rw [bW];exact hw)];exact (gH k x hx).2
  ·by_cases dg:sz=0
   ·exact .inr dg
   ·left;obtain ⟨k,ug⟩:=zh.1 hx;obtain ⟨ah,hc⟩:=gH k x ug;have hi:k/sz<ys.length:=zI (by rw [zq];exact ah);have gZ:k%sz<sz:=zS _ (zy dg);have he:ys[k/sz]?=some ys[k/sz]:=by simp [hi]
    have jo:=hl _ (za he);have hd:(ys[k/sz])[k%sz]?=some (ys[k/sz])[k%sz]:=by simp [jo,gZ]
    have jW:off+k/sz*sz+k%sz=off+k:=by have:=Zd k sz;rw [zq] at this;omega
    have ho:=hk _ _ _ _ x he hd (by rw [jW];exact hc)
    have pE:((ys[k/sz])[k%sz]).live=true:=by
     have:=zd.1 CG _ (za he);exact zd.1 this _ (za hd)
    generalize (ys[k/sz])[k%sz]=dd at ho pE;cases ho<;>first|rfl|simp [D.live] at pE
  ·obtain ⟨_,hc⟩:=gH _ x hx;exact hk i c e d x he hd (by rw [zt];exact hc)
end
end
section
section
variable {P:Program} {κ:Nat→FuncId} {w0:World} {cl0:dv} {S:St} {w:World} {g:Gh} {a:Act} {Γ:Env} {d:Nat}
theorem SW (R:Rel w0 cl0 S a.tmps w g) (hn:(S.ms d).1=none) (sz:Nat):
 et w0 cl0 S a.tmps d (.pl d 0 []) (some (.aR [.own (.sl sz [])])) S.ms (.slice none 0 0) w:=by
 let g':Gh:={ g with hd:=fun r j ρ=>if r=d+1 then .slice none 0 0 else g.hd r j ρ }
 have H:dT d w w g g':={ dT.refl d w g with hd:=fun n j ρ hn=>by simp [g',hn] };refine ⟨g',R.fresh hn H (fun j c hj=>?_) (fun j r1 j1 hj=>by cases j<;>simp [Rt.cells] at hj),.pl _ _ _ _ _ _ fun _=>by simp [g'],fun r hr=>by simp [AV.refs] at hr;subst hr;simp [aB]⟩;cases j with
 |succ j=>simp at hj
 |zero=>
  simp at hj;subst hj;have:g'.hd (d+1) 0 []=.slice none 0 0:=by simp [g']
  rw [this];exact .own _ _ (.nil _ _ this)
theorem Jb (R:Rel w0 cl0 S a.tmps w g) (hn:(S.ms d).1=none) {t u ty e:TypeId} {i:TypeInfo} {zv:Value} {sz bytes:Nat} (iW:P.underlying t=some (.slice e))
 (hi:P.info? e=some i) (hz:i.zero=some zv) (dg:i.size=sz) (u4:i.bytes=bytes) (ju:zv.cells.size=i.size) (rj:0<sz) (O2:0<bytes)
 {es ys:List (List D)} {vx vy:Value} (hx:OW w g 0 0 [] (.sl sz es) vx) (pA:(es.length+ys.length)*bytes≤2^46)
 (hy:∃(news:List Value),((P.underlying u=some (.slice e)∧∃b cap,vy=.slice b ys.length cap)∨(P.underlying u=some .string∧∃s:ByteArray,vy=.string s∧s.size=ys.length))∧(∀e∈ys,e.length=sz)∧news.length=ys.length*sz∧
   (∀w1:World,w1.heap=w.heap→(Builtin.firstCells sz ys.length vy).run P w1=.ok news.toArray w1)∧(∀x∈news,x.oneCell'=true)∧
   ∀(i c:Nat) (e:List D) (d:D) (x:Value),ys[i]?=some e→e[c]?=some d→news[i*sz+c]?=some x→OW w g 0 1 [(i,c)] d x):
 ∃v w',(Builtin.append_ #[t,u] ty #[vx,vy]).run P w=.ok v w'∧et w0 cl0 S a.tmps d (.pl d 0 []) (some (.aR [.own (.sl sz (es++ys))])) S.ms v w':=by
 obtain ⟨news,sN,xd,CT,hf,o4,DB⟩:=hy;subst dg u4
 have KT:es.length+ys.length≤2^62:=by
  have:(es.length+ys.length)*1≤(es.length+ys.length)*i.bytes:=Nat.mul_le_mul_left _ O2;omega
 have pM:=hx.ir;cases hx with
 |nil _ _ aaV=>
  have hr:=Jc P (ty:=ty) (E0:=e) iW hi hz sN hf CT o4 none 0 0 (.inl ⟨rfl,rfl,rfl⟩) (by simpa using pA) (by simpa using KT);rcases hr with ⟨b,off,vals,w',dV,h,_⟩|⟨_,iv,du⟩|⟨cap,dV,w',lD,h1,du,gy,AJ,eJ,hp,h5,h6,h7,h8,h9⟩
  ·cases h
  ·have:ys=[]:=zK iv;subst this;exact ⟨_,_,du,by simpa using SW R hn i.size⟩
  ·refine ⟨_,_,du,?_⟩
   have js:=BK (d:=d) (a:=a) R hn (w':=w') (sz:=i.size) (b:=w.heap.size) (off:=0) (cap:=cap) (es:=[]) (ys:=ys) (vals:=dV) (E:=e) (.inr ⟨zi _,by omega⟩)
    (fun k hk _=>hp k hk) (by omega) eJ gy (by simpa using xd) (by simpa using h1) (by rw [zm,h8 ju];exact zi _) (by simp) (fun q c el dd x he hd hx=>by
      have hq:=bj he;have hc:=jR xd he;have bA:=bj hd
      have hk:q*i.size+c<ys.length*i.size:=by
       have:=pV (off:=0) (cap:=ys.length) (N:=ys.length*i.size) hq (show c<i.size by omega) (zi _) (by omega);omega
      have:=h7 _ hk;simp only [Nat.zero_mul,zm,zW] at this hx;rw [this] at hx
      exact .inr (DB q c el dd x he hd hx))
   simpa using js
 |sl _ _ _ b off cap vals E bY bA hl cf hw hN gI=>
  have hr:=Jc P (ty:=ty) (E0:=E) iW hi hz sN hf CT o4 (some ⟨b,off,none⟩) es.length cap (.inr ⟨b,off,vals,rfl,cf,hw,hN⟩) pA KT
  have gF:∀el∈es++ys,el.length=i.size:=by
   intro el jo;rcases zx.1 jo with h|h
   ·exact hl el h
   ·exact xd el h
  rcases hr with ⟨b',uw,Vs,w',dV,h,sC,bW,hN1,du,gy,AJ,gH,ri,sE,eJ⟩|⟨h,_,_⟩|⟨Jk,dV,w',lD,h1,du,gy,AJ,eJ,hp,h5,h6,h7,h8,h9⟩
  ·cases h;rw [hw] at bW;cases bW;refine ⟨_,_,du,?_⟩
   have js:=BK (d:=d) (a:=a) R hn (w':=w') (sz:=i.size) (b:=b) (off:=off) (cap:=cap) (es:=es) (ys:=ys) (vals:=dV) (E:=E) (.inl bA)
    (fun k _ hk=>ri k hk) (by omega) eJ gy gF (by simp;omega) (by omega) (fun q c el dd x he hd hx=>by
      have hq:=bj he;have dx:=jR hl he;have jT:=bj hd
      have hk:q*i.size+c<es.length*i.size:=by
       have:=pV (off:=0) (cap:=es.length) (N:=es.length*i.size) hq (show c<i.size by omega) (zi _) (by omega);omega
      rw [gH,if_neg (by omega)] at hx
      exact gI q c el dd x he hd hx) (fun q c el dd x he hd hx=>by
      have hq:=bj he;have dx:=jR xd he;have jT:=bj hd
      have hk:q*i.size+c<ys.length*i.size:=by
       have:=pV (off:=0) (cap:=ys.length) (N:=ys.length*i.size) hq (show c<i.size by omega) (zi _) (by omega);omega
      rw [zL,gH,if_pos (by omega)] at hx;refine .inr (DB q c el dd x he hd ?_)
      rw [←hx];congr 1;omega)
   simpa using js
  ·cases h
  ·refine ⟨_,_,du,?_⟩
   have js:=BK (d:=d) (a:=a) R hn (w':=w') (sz:=i.size) (b:=w.heap.size) (off:=0) (cap:=Jk) (es:=es) (ys:=ys) (vals:=dV) (E:=e) (.inr ⟨zi _,by omega⟩)
    (fun k hk _=>hp k hk) (by omega) eJ gy gF (by simpa using h1) (by rw [zm,h8 ju];exact zi _) (fun q c el dd x he hd hx=>by
      have hq:=bj he;have dx:=jR hl he;have jT:=bj hd
      have hk:q*i.size+c<es.length*i.size:=by
       have:=pV (off:=0) (cap:=es.length) (N:=es.length*i.size) hq (show c<i.size by omega) (zi _) (by omega);omega
      rw [zm,h5 _ hk,h9 b off vals rfl hw _ hk,←zt] at hx
      exact gI q c el dd x he hd hx) (fun q c el dd x he hd hx=>by
      have hq:=bj he;have dx:=jR xd he;have jT:=bj hd
      have hk:q*i.size+c<ys.length*i.size:=by
       have:=pV (off:=0) (cap:=ys.length) (N:=ys.length*i.size) hq (show c<i.size by omega) (zi _) (by omega);omega
      rw [zm,zL,zt,h7 _ hk] at hx
      exact .inr (DB q c el dd x he hd hx))
   simpa using js
theorem LJ (R:Rel w0 cl0 S a.tmps w g) {sz bytes:Nat} {x y:PX} {op:Op} {av:AV} {rt:Option Rt} {m':Ms} (dS:(m' d).1=none)
 (hc:aM P κ (.app sz bytes x y) op=true) (h:aw Γ S.ev d S.ms (.app sz bytes x y)=some (av,rt,m')) (o:Oper) (ho:o.op=op):
 ∃v w',(execOp a.eval o).run P w=.ok (.value v) w'∧et w0 cl0 S a.tmps d av rt m' v w':=by
 cases op with
 |call c=>?_
 |_=>simp [aM] at hc
 simp only [aM] at hc;split at hc
 ·rename_i oa ob t u lj dR pJ;simp only [zb] at hc;obtain ⟨⟨h1,h2⟩,h3⟩:=hc;split at h3
  ·rename_i e e' he eI;simp only [zb,beq_iff_eq] at h3;obtain ⟨rfl,h3⟩:=h3;split at h3
   ·rename_i z s1 dD my ix;simp only [zb,beq_iff_eq,bne_iff_ne,ne_eq] at h3;obtain ⟨⟨⟨⟨rfl,rfl⟩,DG⟩,Db⟩,u0⟩:=h3;obtain ⟨i,zv,hi,ko,kn,ju⟩:=tG my;have iW:P.underlying t=some (.slice e):=by unfold gP at he;split at he<;>simp_all
    have pK:P.underlying u=some (.slice e):=by unfold gP at eI;split at eI<;>simp_all
    unfold fK at ix;rw [hi] at ix;simp at ix;obtain ⟨dg,u4⟩:=ix;obtain ⟨cs,hex⟩:=rN (a:=a) lj dR pJ ho;have e1:=bF R h1;have e2:=bF R h2
    have fin:∀{S1:St} {g1:Gh} {m2:Ms} {es ys:List (List D)},S1.av=S.av→Rel w0 cl0 S1 a.tmps w g1→eo S1.ms (S.ev x)=some (.own (.sl s1 es),m2)→(es.length+ys.length)*dD≤2^46→(m2 d).1=none→
     (∀g2:Gh,(∀(b:Nat) (ρ:aI),g1.cl b=.own 0 1 ρ→g2.cl b=.own 0 1 ρ)→(∀ρ,g2.hd 0 1 ρ=g1.hd 0 1 ρ)→
       ∃(b:Option Addr) (cap:Nat) (news:List Value),a.eval ob=.slice b ys.length cap∧(∀e∈ys,e.length=s1)∧news.length=ys.length*s1∧
       (∀w1:World,w1.heap=w.heap→(Builtin.firstCells s1 ys.length (a.eval ob)).run P w1=.ok news.toArray w1)∧(∀x∈news,x.oneCell'=true)∧
       ∀(i c:Nat) (e:List D) (d:D) (x:Value),ys[i]?=some e→e[c]?=some d→news[i*s1+c]?=some x→OW w g2 0 1 [(i,c)] d x)→
     ∃v w',(execOp a.eval o).run P w=.ok (.value v) w'∧et w0 cl0 S a.tmps d (.pl d 0 []) (some (.aR [.own (.sl s1 (es++ys))])) m2 v w':=by
     intro S1 g1 m2 es ys c4 R1 qM pA QT vq;have J0:=(bF R1 h1).1;have bo:S1.ev x=S.ev x:=by cases x<;>simp [St.ev,c4]
     rw [bo] at J0;obtain ⟨g2,R2,T2,o5⟩:=uJ R1 J0 qM 0;cases o5 with
     |own _ _ C6=>
      obtain ⟨v,w',du,js⟩:=Jb (P:=P) (ty:=o.type) (d:=d) (a:=a) R2 QT iW hi ko dg u4 ju (zy Db) (zy u0) C6 pA
       (by
         obtain ⟨b,cap,news,q1,q2⟩:=vq g2 (fun b ρ hb=>T2.cl0 b 1 ρ (by simp) hb) (fun ρ=>T2.g9 1 ρ (by simp))
         exact ⟨news,.inl ⟨pK,b,cap,q1⟩,q2⟩)
      refine ⟨v,w',?_,?_⟩
      ·rw [hex];simp [builtin,du]
      ·have hS:({ S1 with ms:=m2 }:St).av=S.av:=c4;unfold et at js ⊢;simp only [c4] at js;exact js
    simp only [aw] at h;split at h
    ·rename_i s2 ys m1 nA;split at h
     ·rename_i s3 es m2 qM;split at h
      ·rename_i cN;obtain ⟨rfl,rfl,pA⟩:=cN;simp at h;obtain ⟨rfl,rfl,rfl⟩:=h;split at nA
       ·rename_i s4 ys4 Ph;split at nA
        ·rename_i Pl;simp at nA;obtain ⟨rfl,rfl,rfl⟩:=nA;exact fin (S1:=S) rfl R qM pA dS (fun g2 _ _=>N2 R e2.1 Ph Pl (zy Db) g2)
        ·split at nA
         ·rename_i s5 ys5 m5 OF;split at nA
          ·rename_i CG;simp at nA;obtain ⟨rfl,rfl,rfl⟩:=nA;obtain ⟨g1,R1,T1,o5⟩:=uJ R e2.1 OF 1;cases o5 with
           |own _ _ Q5=>
            obtain ⟨b,cap,news,k1,k2,k3,k4,k5,k6⟩:=TK (P:=P) Q5 CG;refine fin (S1:={ S with ms:=m5 }) rfl R1 qM pA dS (fun g2 fE Pt=>⟨b,cap,news,k1,k2,k3,k4,fun x hx=>(k5 x hx).resolve_right Db,fun q c el dd x he hd hx=>?_⟩);exact (k6 q c el dd x he hd hx).mono (fun b ρ hb=>⟨rfl,fE b _ hb⟩) (fun ρ=>Pt _)
          ·cases nA
         ·cases nA
       ·cases nA
      ·cases h
     ·cases h
    ·cases h
   ·cases h3
  ·cases h3
 ·cases hc
theorem S3 (R:Rel w0 cl0 S a.tmps w g) {x y:PX} {op:Op} {av:AV} {rt:Option Rt} {m':Ms} (dS:(m' d).1=none)
 (hc:aM P κ (.apps x y) op=true) (h:aw Γ S.ev d S.ms (.apps x y)=some (av,rt,m')) (o:Oper) (ho:o.op=op):
 ∃v w',(execOp a.eval o).run P w=.ok (.value v) w'∧et w0 cl0 S a.tmps d av rt m' v w':=by
 cases op with
 |call c=>?_
 |_=>simp [aM] at hc
 simp only [aM] at hc;split at hc
 ·rename_i oa ob t u lj dR pJ;simp only [zb] at hc;obtain ⟨⟨h1,h2⟩,h3⟩:=hc;split at h3
  ·rename_i e he pK;split at h3
   ·rename_i z s1 dD my ix;simp only [zb,beq_iff_eq] at h3;obtain ⟨⟨rfl,rfl⟩,DG⟩:=h3;obtain ⟨i,zv,hi,ko,kn,ju⟩:=tG my;have iW:P.underlying t=some (.slice e):=by unfold gP at he;split at he<;>simp_all
    unfold fK at ix;rw [hi] at ix;simp at ix;obtain ⟨dg,u4⟩:=ix;obtain ⟨cs,hex⟩:=rN (a:=a) lj dR pJ ho;have e2:=(bF R h2).1;have e1:=(bF R h1).1;simp only [aw] at h;split at h
    ·rename_i k s hy;split at h
     ·rename_i es m2 qM;split at h
      ·rename_i pA;simp at h;obtain ⟨rfl,rfl,rfl⟩:=h;obtain ⟨g2,R2,T2,o5⟩:=uJ R e1 qM 0;rw [hy] at e2
       have sN:a.eval ob=.string s:=by
        generalize a.eval ob=vv at e2;cases e2 with
        |v _ _ _ hr=>cases hr;rfl
       have uk:(rB s).length=s.size:=by
        simp [rB,ByteArray.toList_eq]
       cases o5 with
       |own _ _ C6=>
        obtain ⟨v,w',du,js⟩:=Jb (P:=P) (u:=u) (ty:=o.type) (d:=d) (a:=a) (vy:=a.eval ob) (ys:=rB s) R2 dS iW hi ko dg u4 ju (by omega) (by omega) C6 (by rw [uk];omega)
         ⟨s.toList.map (fun b=>Value.int .u8 b.toNat),.inr ⟨pK,s,sN,uk.symm⟩,fun e he=>by simp only [rB,Zg] at he;obtain ⟨b,_,rfl⟩:=he;rfl,by simp [rB],
           fun w1 _=>by
            rw [sN,uk]
            have hq:(Array.map (fun b:UInt8=>Value.int IntKind.u8 ↑b.toNat) (s.extract 0 s.size).data)=(List.map (fun b:UInt8=>Value.int .u8 b.toNat) s.data.toList).toArray:=by
             apply Array.ext';simp [ByteArray.extract_zero_size]
            simp only [Builtin.firstCells,ByteArray.toList_eq];rw [hq];rfl,fun x hx=>by simp only [Zg] at hx;obtain ⟨b,_,rfl⟩:=hx;rfl,
           fun q c e d x he hd hx=>by
            simp only [rB,zE,zF] at he;obtain ⟨b,hb,rfl⟩:=he;cases c with
            |succ c=>simp at hd
            |zero=>
             simp at hd;subst hd;simp only [Nat.mul_one,zJ,zE,zF] at hx;obtain ⟨b2,gu,rfl⟩:=hx;rw [hb] at gu;cases gu
             exact .int _ _ _⟩
        refine ⟨v,w',?_,js⟩;rw [hex];simp [builtin,du]
      ·cases h
     ·cases h
    ·cases h
   ·cases h3
  ·cases h3
 ·cases hc
end
end
section
theorem D.LU:∀(p:aI) (d x y:D),(d.put p x).put p y=d.put p y
 |[],d,x,y=>by simp [D.put]
 |(i,j)::p,d,x,y=>by
  cases d with
  |sl sz es=>
   simp only [D.put];cases h:es[i]? with
   |none=>simp [h,D.put]
   |some e=>
    simp only;cases h2:e[j]? with
    |none=>simp [D.put,h,h2]
    |some d'=>
     obtain ⟨hi,_⟩:=zk.1 h;obtain ⟨hj,_⟩:=zk.1 h2;simp [D.put,hi,hj,D.LU p d' x y]
  |_=>simp [D.put]
theorem D.JS:∀(p:aI) (d x y:D),d.ff p=some y→(d.put p x).ff p=some x
 |[],d,x,y,_=>by simp [D.put,D.ff]
 |(i,j)::p,d,x,y,h=>by
  cases d with
  |sl sz es=>
   simp only [D.ff] at h;split at h
   ·rename_i e he;split at h
    ·rename_i d' hd;obtain ⟨hi,_⟩:=zk.1 he;obtain ⟨hj,_⟩:=zk.1 hd;simp only [D.put];rw [he];simp only;rw [hd];simp only [D.ff];rw [zA hi];simp only;rw [zA hj];exact D.JS p d' x y h
    ·cases h
   ·cases h
  |_=>simp [D.ff] at h
section
variable {P:Program} {κ:Nat→FuncId} {w0:World} {cl0:dv} {S:St} {w:World} {g:Gh} {a:Act} {Γ:Env} {d:Nat}
theorem TQ {m m':Ms} {r j:Nat} {p:aI} {x y:D} (ha:m.at r j p=some y) (h:m.putAt r j p x []=some m'):m'.at r j p=some x:=by
 obtain ⟨o3,rt,d0,h1,h2,h3⟩:=fo ha;obtain ⟨rt',WL,k1,k2,rfl⟩:=Ir h;rw [h1] at k1;cases k1;rw [h2] at k2;cases k2
 have hc:(rt.gB j (.own (d0.put p x))).cells[j]?=some (.own (d0.put p x)):=by
  obtain ⟨hj,_⟩:=zk.1 h2;cases rt<;>simp [Rt.gB,Rt.cells] at hj ⊢<;>simp [hj]
 have hk:Ms.bM (aB m r (some (rt.gB j (.own (d0.put p x))),[]++(m r).2)) r j p=false:=by
  simp only [Ms.bM,gL,zw];exact o3
 simp only [Ms.at,hk];simp only [Ms.cell,gL,hc];exact D.JS p d0 x y h3
theorem TS {m m1:Ms} {r j:Nat} {p:aI} {x y:D} (h:m.putAt r j p x []=some m1):m1.putAt r j p y []=m.putAt r j p y []:=by
 obtain ⟨rt,d0,k1,k2,rfl⟩:=Ir h
 have hc:(rt.gB j (.own (d0.put p x))).cells[j]?=some (.own (d0.put p x)):=by
  obtain ⟨hj,_⟩:=zk.1 k2;cases rt<;>simp [Rt.gB,Rt.cells] at hj ⊢<;>simp [hj]
 simp only [Ms.putAt,gL,hc,k1,k2];simp only [D.LU]
 have e:(rt.gB j (.own (d0.put p x))).gB j (.own (d0.put p y))=rt.gB j (.own (d0.put p y)):=by
  cases rt<;>simp [Rt.gB]
 rw [e];congr 1;funext k;simp only [aB];split<;>simp
theorem TR {m:Ms} {r j:Nat} {p:aI} {y:D} (x:D) (ha:m.at r j p=some y):∃m',m.putAt r j p x []=some m':=by
 obtain ⟨o3,rt,d0,h1,h2,h3⟩:=fo ha;exact ⟨_,by simp only [Ms.putAt,h1,h2];rfl⟩
theorem Mg:∀(ys:List Value) (b o i k:Nat),storeCells ⟨b,o,none⟩ ys (i+k)=storeCells ⟨b,o+i,none⟩ ys k
 |[],_,_,_,_=>rfl
 |y::ys,b,o,i,k=>by
  simp only [storeCells];rw [zt i k 1,Mg ys b o i (k+1)];simp only [Addr.add_lit,zt]
theorem Mf:∀(xs ys:List Value) (b o i:Nat) {w w1 w2:World},(storeCells ⟨b,o,none⟩ xs i).run P w=.ok () w1→(storeCells ⟨b,o+i+xs.length,none⟩ ys 0).run P w1=.ok () w2→
 (storeCells ⟨b,o,none⟩ (xs++ys) i).run P w=.ok () w2
 |[],ys,b,o,i,w,w1,w2,h1,h2=>by
  simp only [storeCells,Sem.run_pure,Result.ok.injEq,true_and] at h1;subst h1;have:=Mg ys b o i 0;rw [zJ] at this;simp only [zw];rw [this];simpa using h2
 |x::xs,ys,b,o,i,w,w1,w2,h1,h2=>by
  simp only [storeCells,List.cons_append,Sem.run_bind] at h1 ⊢;cases hs:(store (Addr.add ⟨b,o,none⟩ i) x).run P w with
  |ok u wa=>
   rw [hs] at h1;simp only [Result.andThen_ok] at h1 ⊢;refine Mf xs ys b o (i+1) h1 ?_;rw [show o+(i+1)+xs.length=o+i+(x::xs).length by simp;omega];exact h2
  |_=>rw [hs] at h1;simp [Result.andThen] at h1
theorem Lw:∀(os ns:List D) (j:Nat) (p:aI) (i c:Nat),os.all D.bC=true→ns.all D.bC=true→lC j p i c os ns=[]
 |[],_,_,_,_,_,_,_=>by simp [lC]
 |_::_,[],_,_,_,_,_,_=>by simp [lC]
 |o::os,n::ns,j,p,i,c,h1,h2=>by
  simp only [z2,zb] at h1 h2;simp only [lC,h1.1,h2.1,Bool.and_self,if_true];exact Lw os ns j p i (c+1) h1.2 h2.2
theorem NB {es:List (List D)} {z:List D} {lo k:Nat} (h:lo+k<es.length):
 (es.take lo++zj k z++es.drop (lo+k)).set (lo+k) z=es.take lo++zj (k+1) z++es.drop (lo+(k+1)):=by
 apply z9;intro n;have hl:(es.take lo).length=lo:=by simp;omega
 simp only [List.getElem?_set,List.getElem?_append,zV,zp,zN,zX,List.length_drop,hl]
 repeat' split
 all_goals first|rfl|(exfalso;omega)|(congr 1;omega)
theorem NA {r j sz lo hi:Nat} {p:aI} {z:List D} {zv:List Value} {es:List (List D)} {B O N C:Nat} (hz:z.all D.bC=true) (my:z.length=sz) (ko:zv.length=sz)
 (o4:∀x∈zv,x.oneCell'=true) (Rv:∀{w:World} {g:Gh} (q:Nat) (d:D) (x:Value),z[q]?=some d→zv[q]?=some x→Hd w g q d x) (ni:hi≤es.length) (kN:jm ((es.take hi).drop lo)=true)
 (bZ:∀{m:Ms} {w:World} {g:Gh},Rel w0 cl0 { S with ms:=m } a.tmps w g→RA w g m (.rg r j p sz lo hi) (.slice (some ⟨B,O,none⟩) N C)):
 ∀(n k:Nat) {m m':Ms} {w:World} {g:Gh},lo+k+(n+1)=hi→Rel w0 cl0 { S with ms:=m } a.tmps w g→m.at r j p=some (.sl sz (es.take lo++zj k z++es.drop (lo+k)))→
  m.putAt r j p (.sl sz (es.take lo++zj (hi-lo) z++es.drop hi)) []=some m'→
  ∃w' g',(storeCells ⟨B,O+k*sz,none⟩ (rep (n+1) zv) 0).run P w=.ok () w'∧Rel w0 cl0 { S with ms:=m' } a.tmps w' g':=by
 have step:∀(k:Nat) {m m1:Ms} {w:World} {g:Gh},lo+k<hi→Rel w0 cl0 { S with ms:=m } a.tmps w g→m.at r j p=some (.sl sz (es.take lo++zj k z++es.drop (lo+k)))→
  m.putAt r j p (.sl sz (es.take lo++zj (k+1) z++es.drop (lo+(k+1)))) []=some m1→
  ∃w' g',(storeCells ⟨B,O+k*sz,none⟩ zv 0).run P w=.ok () w'∧Rel w0 cl0 { S with ms:=m1 } a.tmps w' g':=by
  intro k m m1 w g hk R bz iw;have hl:(es.take lo).length=lo:=by simp;omega
  obtain ⟨e,he⟩:∃e,es[lo+k]?=some e:=⟨_,ze (by omega)⟩
  have Co:(es.take lo++zj k z++es.drop (lo+k))[lo+k]?=some e:=by
   rw [zf (by simp;omega)];simp only [zN,zX,hl,zp,z4,zJ];exact he
  have oX:e.all D.bC=true:=by
   refine zd.1 kN e (zh.2 ⟨k,?_⟩);rw [zp,zO,if_pos hk];exact he
  have KS:es.length≤(es.take lo++zj k z++es.drop (lo+k)).length:=by simp;omega
  generalize hE:(es.take lo++zj k z++es.drop (lo+k))=JX at bz Co KS;obtain ⟨x0,ho⟩:=R.at bz;have fI:=ho.ir;have o3:m.bM r j p=false:=(fo bz).1;have hR:=bZ R;cases hR with
  |rg _ _ _ _ _ _ _ _ _ hh=>
   have hv:=hh o3;rw [←fI] at hv;cases ho with
   |nil _ _ h1=>
    have aaA:es.length≤0:=KS;omega
   |sl _ _ _ b off cap vals E bY bA hlen cf hw hN gI=>
    have jT:¬cap=lo:=by omega
    simp only [iJ,if_neg jT,zD,Addr.add_lit,Value.slice.injEq,zR,Addr.mk.injEq,and_true] at hv;obtain ⟨⟨rfl,rfl⟩,_,_⟩:=hv;have jo:e.length=sz:=hlen e (za Co);refine Mh (P:=P) (a:=a) R (r:=r) (j:=j) (sz:=sz) (i:=lo+k) (c:=0) (p:=p) (es:=JX) (e:=e) (ds:=z) (vals:=zv) ?_ bz Co (by omega) ?_ (by omega) o4 (fun q d x h1 h2=>Rv q d x h1 h2)
    ·rw [←fI];simp only [pb,zJ,zL,zt]
    ·have AK:ic e 0 z=z:=by simp [ic];omega
     rw [AK,←hE,NB (by omega),Lw _ _ _ _ _ _ (by simpa using oX) hz];exact iw
 intro n;induction n with
 |zero=>
  intro k m m' w g hk R bz iw;have e1:hi-lo=k+1:=by omega
  have e2:hi=lo+(k+1):=by omega
  rw [e1] at iw;rw [e2] at iw;obtain ⟨w',g',h1,h2⟩:=step k (by omega) R bz (by simpa using iw);exact ⟨w',g',by simpa [rep] using h1,h2⟩
 |succ n ih=>
  intro k m m' w g hk R bz iw;obtain ⟨m1,si⟩:=TR (.sl sz (es.take lo++zj (k+1) z++es.drop (lo+(k+1)))) bz;obtain ⟨w1,g1,h1,R1⟩:=step k (by omega) R bz si;obtain ⟨w2,g2,h2,R2⟩:=ih (k+1) (by omega) R1 (TQ bz si) (by rw [TS si];exact iw);refine ⟨w2,g2,?_,R2⟩;have e:rep (n+1+1) zv=zv++rep (n+1) zv:=by simp [rep,z3]
  rw [e];refine Mf zv _ B _ 0 h1 ?_;rw [show O+k*sz+0+zv.length=O+(k+1)*sz by rw [ko,zr];omega];exact h2
theorem Wc (z:Array Value) (n:Nat):(Builtin.zeroCells z n).toList=rep n z.toList:=by
 by_cases hz:z.size=0
 ·have:z=#[]:=Array.eq_empty_of_size_eq_zero hz;subst this;simp [Builtin.zeroCells,rep]
 apply z9;intro k;have hlen:(rep n z.toList).length=n*z.size:=by simp [rep]
 by_cases hk:k<n*z.size
 ·rw [LZ z.toList n k (by simpa using hk)];have hm:k%z.size<z.size:=zS _ (by omega);simp [Builtin.zeroCells,hk,hm]
 ·rw [zY (by simp [Builtin.zeroCells];omega),zY (by rw [hlen];omega)]
theorem Tb (R:Rel w0 cl0 S a.tmps w g) {sz:Nat} {z:List D} {x:PX} {op:Op} {av:AV} {rt:Option Rt} {m':Ms}
 (hc:aM P κ (.oS sz z x) op=true) (h:aw Γ S.ev d S.ms (.oS sz z x)=some (av,rt,m')) (o:Oper) (ho:o.op=op):
 ∃v w',(execOp a.eval o).run P w=.ok (.value v) w'∧et w0 cl0 S a.tmps d av rt m' v w':=by
 cases op with
 |call c=>?_
 |_=>simp [aM] at hc
 simp only [aM] at hc;split at hc
 ·rename_i oa t lj dR pJ;simp only [zb] at hc;obtain ⟨h1,h3⟩:=hc;split at h3
  ·rename_i e he;split at h3
   ·rename_i zl s1 dD my ix;simp only [zb,beq_iff_eq] at h3;obtain ⟨rfl,O8⟩:=h3;obtain ⟨i,zv,hi,ko,kn,ju⟩:=tG my;have iW:P.underlying t=some (.slice e):=by unfold gP at he;split at he<;>simp_all
    unfold fK at ix;rw [hi] at ix;simp at ix;obtain ⟨hl,hg⟩:=BW z zl O8;simp only [aw] at h;split at h
    ·rename_i r j p o7 lo fu hx;split at h
     ·rename_i yj es bz;split at h
      ·rename_i cN;obtain ⟨rfl,rfl,ah,ni,DG,Lq,kN⟩:=cN;split at h
       ·rename_i m2 iw;simp at h;obtain ⟨rfl,rfl,rfl⟩:=h;have e1:=(bF R h1).1;rw [hx] at e1;generalize AP:a.eval oa=vv at e1
        have C':∀{m:Ms} {w:World} {g:Gh},Rel w0 cl0 { S with ms:=m } a.tmps w g→RA w g m (.rg r j p o7 lo fu) vv:=fun R2=>by
         have:=(bF R2 h1).1;rw [AP] at this;have bo:∀m,({ S with ms:=m }:St).ev x=S.ev x:=fun m=>by cases x<;>rfl
         rw [bo,hx] at this;exact this
        obtain ⟨x0,sw⟩:=R.at bz;have fI:=sw.ir;have o3:S.ms.bM r j p=false:=(fo bz).1;cases e1 with
        |rg _ _ _ _ _ _ bb nn cc hh=>
         have hv:=hh o3;rw [←fI] at hv;cases sw with
         |nil _ _ CT=>simp at ni;omega
         |sl _ _ _ b off cap vals E bY bA hlen cf hw hN gI=>
          have jT:¬cap=lo:=by omega
          simp only [iJ,if_neg jT,zD,Addr.add_lit,Value.slice.injEq] at hv;obtain ⟨rfl,rfl,rfl⟩:=hv
          obtain ⟨w',g',du,R2⟩:=NA (P:=P) (a:=a) (S:=S) (zv:=zl) (es:=es) (lo:=lo) (hi:=fu) Lq DG (by omega) (fun x hx=>by
           obtain ⟨q,hq⟩:=zh.1 hx;have CP:=bj hq;obtain ⟨dd,jV⟩:∃dd,z[q]?=some dd:=⟨_,ze (by omega)⟩;have Pu:=yC (w:=w) (g:=g) (q:=q) (hg q dd x jV hq)
           exact Pu.one (fun e=>by subst e;have:=zd.1 Lq _ (za jV);simp [D.bC] at this))
           (fun {w g} q dd x jV hq=>yC (hg q dd x jV hq)) ni kN C' (fu-lo-1) 0 (m:=S.ms) (m':=m2) (by omega) R (by simpa using bz) iw
          refine ⟨.tuple #[],w',?_,⟨g',R2,.bu _ _ rfl (fun i a x hi=>by simp at hi),fun r hr=>by simp [AV.refs,AV.b9] at hr⟩⟩;obtain ⟨cs,hex⟩:=rN (a:=a) lj dR pJ ho;have uh:fu-lo-1+1=fu-lo:=by omega
          rw [uh] at du;rw [hex];obtain ⟨n',dS⟩:∃n',fu-lo=n'+1:=⟨fu-lo-1,by omega⟩;have sR:(Builtin.zeroCells zv.cells (n'+1)).toList=rep (n'+1) zl:=by rw [Wc,kn]
          simp only [zC,z5,AP];rw [dS];rw [dS] at du;simp only [Nat.zero_mul,zJ] at du;simp [builtin,Builtin.clear_,run_underlying iW,zeroValue,typeInfo,hi,ko,sR,du]
       ·cases h
      ·cases h
     ·cases h
    ·cases h
   ·cases h3
  ·cases h3
 ·cases hc
end
end
section
section
variable {P:Program} {κ:Nat→FuncId} {w0:World} {cl0:dv} {S:St} {w:World} {g:Gh} {a:Act} {Γ:Env} {d:Nat}
def qC (w:World) (g:Gh) (r j:Nat) (cs:List C) (vs:List Value):Prop:=
 cs.length=vs.length∧∀(i:Nat) (c:C) (x:Value),cs[i]?=some c→vs[i]?=some x→RC w g r (j+i) c x
def ig (w:World) (g:Gh) (r j:Nat):V→Value→Prop
 |.one c,v=>RC w g r j c v∧v.cells=#[v]
 |.st cs,v=>∃vs:Array Value,v=.agg vs∧qC w g r j cs vs.toList
 |_,_=>False
def mM (w:World) (g:Gh):Nat→List V→List Value→Prop
 |_,[],[]=>True
 |n,x::xs,v::vs=>ig w g 0 n x v∧mM w g (n+x.flat.length) xs vs
 |_,_,_=>False
def I1 (w:World) (g:Gh) (r R:Nat) (cs:List C) (v:Value):Prop:=
 ∃b vals E,v=.pointer (some ⟨b,0,none⟩)∧g.cl b=.box R∧w.heap[b]?=some (.cells vals E)∧qC w g r 0 cs vals.toList
def kW (w:World) (g:Gh):V→Value→Prop
 |.bu xs,v=>∃vs:Array Value,v=.tuple vs∧mM w g 0 xs vs.toList
 |.ptr cs,v=>∃R,I1 w g 0 R cs v
 |x,v=>ig w g 0 0 x v
def jh (w:World) (g:Gh) (i:Nat):V→Value→Prop
 |.bu _,_=>False
 |.ptr cs,v=>I1 w g (i+1) i cs v
 |x,v=>ig w g (i+1) 0 x v∧(x.flat.any C.dn=true→∀(j:Nat) (y:Value),v.cells[j]?=some y→g.hd (i+1) j []=y)
structure Left (w:World) (g:Gh) (xs:List V) (args:Array Value) (us:List (Nat×Nat×C)) (w':World) (g':Gh):Prop where
 sd:ee w w'
 sz:w.heap.size≤w'.heap.size
 fr:∀b,b<w.heap.size→(g.cl b).bS=false→w'.heap[b]?=w.heap[b]?
 im:∀b k,g'.cl b=kc k↔g.cl b=kc k
 bd:∀b,g'.cl b≠.no→b<w'.heap.size
 mi:∀b,b<w.heap.size→(g'.cl b).bS=true→(g.cl b).bS=true
 up:∀i j c,(i,j,c)∈us→match xs[i]? with
  |some (.ptr _)=>∃b vals E x,args[i]?=some (.pointer (some ⟨b,0,none⟩))∧g'.cl b=.box i∧w'.heap[b]?=some (.cells vals E)∧vals.size≤us.length∧vals[j]?=some x∧RC w' g' (i+1) j c x
  |_=>∃v x,args[i]?=some v∧v.cells[j]?=some x∧RC w' g' (i+1) j c x
def OK (P:Program) (f:FuncId) (xs:List V) (r:V) (us:List (Nat×Nat×C)):Prop:=
 ∀(w:World) (args:Array Value) (g:Gh),args.size=xs.length→(∀b,g.cl b≠.no→b<w.heap.size)→
  (∀(i:Nat) (x:V) (v:Value),xs[i]?=some x→args[i]?=some v→jh w g i x v)→
  Calls P f args w fun e w'=>∃v g',e=.returned v∧kW w' g' r v∧Left w g xs args us w' g'
theorem yE:∀(xs:List PX) (os:List Operand),pg xs os=true→xs.length=os.length∧∀(i:Nat) (x:PX) (o:Operand),xs[i]?=some x→os[i]?=some o→bJ x o=true:=by
 intro xs;induction xs with
 |nil=>intro os h;cases os<;>simp [pg] at h ⊢
 |cons b bs ih=>
  intro os h;cases os with
  |nil=>simp [pg] at h
  |cons v vs=>
   simp only [pg,zb] at h;obtain ⟨h1,h2⟩:=ih vs h.2;refine ⟨by simp [h1],fun i c x hc hx=>?_⟩;cases i with
   |zero=>simp at hc hx;subst hc;subst hx;exact h.1
   |succ i=>exact h2 i c x (by simpa using hc) (by simpa using hx)
def Gh.c6 (g:Gh) (lent bl:Bool) (ex:Nat→Bool):Gh where
 cl:=fun b=>match g.cl b with
  |.iH=>.iH
  |.gr=>.gr
  |.own 0 _ _=>.no
  |.own (n+1) _ _=>if lent&&!ex n then .gr else .no
  |.box r=>if lent&&bl&&!ex r then .gr else .no
  |.no=>.no
 hd:=g.hd
 bk:=g.bk
theorem Gh.Sy {lent bl:Bool} {ex:Nat→Bool} {b:Nat}:(g.c6 lent bl ex).cl b=.iH↔g.cl b=.iH:=by
 simp only [Gh.c6];cases h:g.cl b with
 |own n j ρ=>cases n<;>simp<;>split<;>simp
 |box r=>simp;split<;>simp
 |_=>simp
theorem Gh.AT {lent bl:Bool} {ex:Nat→Bool} {b:Nat} {k:Bool} (h:g.cl b=kc k):(g.c6 lent bl ex).cl b=kc k:=by
 cases k<;>simp [kc] at h ⊢<;>simp [Gh.c6,h]
theorem Gh.AU {lent bl:Bool} {ex:Nat→Bool} {b:Nat}:((g.c6 lent bl ex).cl b).bS=false:=by
 simp only [Gh.c6];cases h:g.cl b with
 |own n j ρ=>
  cases n with
  |zero=>rfl
  |succ n=>simp only;split<;>rfl
 |box r=>simp only;split<;>rfl
 |_=>rfl
theorem Gh.DK {lent bl:Bool} {ex:Nat→Bool} {b:Nat} {k:Bool} (hk:k=false∨lent=false) (h:(g.c6 lent bl ex).cl b=kc k):g.cl b=kc k:=by
 simp only [Gh.c6] at h;revert h;cases hg:g.cl b with
 |own n j ρ=>rcases hk with rfl|rfl<;>cases n<;>simp [kc]<;>first|(split<;>simp;done)|(cases k<;>simp [kc];done)
 |box r=>rcases hk with rfl|rfl<;>simp [kc]<;>first|(split<;>simp;done)|(cases k<;>simp [kc];done)
 |no=>cases k<;>simp [kc]
 |iH=>simp
 |gr=>simp
theorem Gh.AW {lent bl:Bool} {ex:Nat→Bool} {b:Nat} (h:g.cl b=.no):(g.c6 lent bl ex).cl b=.no:=by
 simp [Gh.c6,h]
theorem T8:∀{cs:List C} {ds:List D},rz cs=some ds→ds.length=cs.length∧∀(i:Nat) (d:D),ds[i]?=some d→∃k,cs[i]?=some (.ro k d)∧(k=true∨d.bC=true):=by
 intro cs;induction cs with
 |nil=>intro ds h;simp [rz] at h;subst h;exact ⟨rfl,fun i d h=>by simp at h⟩
 |cons c cs ih=>
  intro ds h;cases c with
  |ro k d=>
   simp only [rz] at h;split at h
   ·rename_i hk;split at h
    ·rename_i B1 h2;simp at h;subst h;obtain ⟨h3,h4⟩:=ih h2;refine ⟨by simp [h3],fun i d' hd=>?_⟩;cases i with
     |zero=>simp at hd;subst hd;exact ⟨k,rfl,by simpa using hk⟩
     |succ i=>exact h4 i d' (by simpa using hd)
    ·cases h
   ·cases h
  |own d=>simp [rz] at h
  |rf r j=>simp [rz] at h
theorem Sn:∀{cs:List C} {ds:List D},p7 cs=some ds→ds.length=cs.length∧∀(i:Nat) (d:D),ds[i]?=some d→(∃k,cs[i]?=some (.ro k d)∧(k=true∨d.bC=true))∨cs[i]?=some (.own d):=by
 intro cs;induction cs with
 |nil=>intro ds h;simp [p7] at h;subst h;exact ⟨rfl,fun i d h=>by simp at h⟩
 |cons c cs ih=>
  intro ds h;cases c with
  |ro k d=>
   simp only [p7] at h;split at h
   ·rename_i hk;split at h
    ·rename_i B1 h2;simp at h;subst h;obtain ⟨h3,h4⟩:=ih h2;refine ⟨by simp [h3],fun i d' hd=>?_⟩;cases i with
     |zero=>simp at hd;subst hd;exact .inl ⟨k,rfl,by simpa using hk⟩
     |succ i=>exact h4 i d' (by simpa using hd)
    ·cases h
   ·cases h
  |own d=>
   simp only [p7] at h;split at h
   ·rename_i B1 h2;simp at h;subst h;obtain ⟨h3,h4⟩:=ih h2;refine ⟨by simp [h3],fun i d' hd=>?_⟩;cases i with
    |zero=>simp at hd;subst hd;exact .inr rfl
    |succ i=>exact h4 i d' (by simpa using hd)
   ·cases h
  |rf r j=>simp [p7] at h
theorem RO.bC {w:World} {cl cl':Nat→cM} {k k':Bool} {d:D} {x:Value} (h:RO w cl k d x) (hs:d.bC=true):RO w cl' k' d x:=by
 cases h<;>first|exact .int _ _|exact .bool _|exact .str _|(simp [D.bC] at hs)
theorem Jh (R:Rel w0 cl0 S a.tmps w g) {av:AV} {x:Value} {c:C} {lent bl:Bool} {ex:Nat→Bool} (ha:RA w g S.ms av x) (h:kF S.ms av=some c)
 (hl:av.xl=true→lent=true) (hb:av.xk=true→bl=true) (hex:∀r∈av.refs,ex r=false) (i j:Nat):
 RC w (g.c6 lent bl ex) (i+1) j c x∧c.dn=false∧x.cells=#[x]∧c.bg=true:=by
 have de:∀b k,g.cl b=kc k→w.heap[b]?=w.heap[b]?∧(g.c6 lent bl ex).cl b=kc k:=fun b k h=>⟨rfl,Gh.AT h⟩
 unfold kF at h;split at h
 ·cases h
 ·rename_i k dd hd;simp at h;subst h;refine ⟨?_,rfl,?_,rfl⟩
  ·cases ha with
   |v _ _ _ hr=>exact .ro _ _ _ (hr.mono fun b hc=>de b _ hc)
  ·cases ha with
   |v _ _ _ hr=>cases hr<;>first|rfl|exact absurd rfl hd
 ·simp at h;subst h;cases ha with
  |nl=>exact ⟨.ro _ _ _ (.emp _ _ _),rfl,rfl,rfl⟩
 ·rename_i r j0 p;split at h
  ·rename_i sz es bz;simp at h;subst h;cases ha with
   |pl _ _ _ b n c hx=>
    obtain ⟨x0,ho⟩:=R.at bz;have:=hx (fo bz).1;have:=ho.ir;subst this;rw [hx (fo bz).1];refine ⟨.ro _ _ _ (ho.borrow fun b ρ hb=>⟨rfl,?_⟩),rfl,?_,rfl⟩
    ·simp [Gh.c6,hb,hl rfl,hex r (by simp [AV.refs])]
    ·obtain ⟨_,_,_,e⟩:=ho.slice;rw [e];rfl
  ·cases h
 ·rename_i r j0 p sz lo hi;split at h
  ·rename_i es sa;simp at h;subst h;obtain ⟨mh,bz,h1,h2,rfl⟩:=yQ sa;cases ha with
   |rg _ _ _ _ _ _ b n c hx=>
    obtain ⟨x0,ho⟩:=R.at bz;have hk:=(fo bz).1;have:=ho.ir;subst this;have dz:=ho.borrow (cl':=(g.c6 lent bl ex).cl) (w':=w) (fun b ρ hb=>⟨rfl,by simp [Gh.c6,hb,hl rfl,hex r (by simp [AV.refs])]⟩);obtain ⟨b1,n1,c1,e⟩:=ho.slice;rw [e] at dz;have:=(L2 (g:=g.c6 lent bl ex) dz h1 h2).2;rw [hx hk,e];exact ⟨.ro _ _ _ this,rfl,rfl,rfl⟩
  ·cases h
 ·rename_i f r;split at h
  ·rename_i cs hm;split at h
   ·rename_i d0 ds mo;simp at h;subst h;cases ha;obtain ⟨bA,vals,E,hw,Du,rl⟩:=R.rt r _ hm;obtain ⟨hlen,gH⟩:=T8 mo;refine ⟨.ro _ _ _ (.uX f (d0::ds) (g.bk r) (by simp) ?_ (fun i hi=>?_) (fun i d' x hd hx=>?_)),rfl,rfl,rfl⟩
    ·simp [Gh.c6,bA,hl rfl,hb rfl,kc,hex r (by simp [AV.refs])]
    ·rw [jP hw];have:i<vals.size:=by rw [Du,←hlen];exact hi
     simp [this]
    ·rw [jP hw] at hx;obtain ⟨k,h1,h2⟩:=gH i d' hd;have h3:=rl i _ x h1 hx;cases h3 with
     |ro _ _ _ h4=>
      rcases h2 with rfl|h2
      ·exact h4.mono fun b hc=>de b _ hc
      ·exact h4.bC h2
   ·cases h
  ·cases h
 ·rename_i r;split at h
  ·rename_i cs hm;split at h
   ·rename_i d0 ds mo;simp at h;subst h;cases ha;obtain ⟨bA,vals,E,hw,Du,rl⟩:=R.rt r _ hm;obtain ⟨hlen,gH⟩:=Sn mo;refine ⟨.ro _ _ _ (.rp (d0::ds) (g.bk r) (by simp) ?_ (fun i hi=>?_) (fun i d' x hd hx=>?_)),rfl,rfl,rfl⟩
    ·simp [Gh.c6,bA,hl rfl,hb rfl,kc,hex r (by simp [AV.refs])]
    ·rw [jP hw];have:i<vals.size:=by rw [Du,←hlen];exact hi
     simp [this]
    ·rw [jP hw] at hx;rcases gH i d' hd with ⟨k,h1,h2⟩|h1
     ·have h3:=rl i _ x h1 hx;cases h3 with
      |ro _ _ _ h4=>
       rcases h2 with rfl|h2
       ·exact h4.mono fun b hc=>de b _ hc
       ·exact h4.bC h2
     ·have h3:=rl i _ x h1 hx;cases h3 with
      |own _ _ h4=>exact h4.borrow fun b ρ hb=>⟨rfl,by simp [Gh.c6,hb,hl rfl,hex r (by simp [AV.refs])]⟩
   ·cases h
  ·cases h
 ·cases h
theorem Ng (R:Rel w0 cl0 S a.tmps w g) {lent bl:Bool} {ex:Nat→Bool} (i:Nat):∀(as:List AV) (vs:List Value) (cs:List C) (j:Nat),as.length=vs.length→
 (∀(k:Nat) (av:AV) (x:Value),as[k]?=some av→vs[k]?=some x→RA w g S.ms av x)→kG S.ms as=some cs→
 ((AV.agg as).lent=true→lent=true)→((AV.agg as).kL=true→bl=true)→(∀r∈AV.b9 as,ex r=false)→
 cs.length=vs.length∧(∀(k:Nat) (c:C) (x:Value),cs[k]?=some c→vs[k]?=some x→RC w (g.c6 lent bl ex) (i+1) (j+k) c x)∧cs.any C.dn=false∧cs.all C.bg=true:=by
 intro as;induction as with
 |nil=>intro vs cs j hl bZ h pD pB hex;simp [kG] at h;subst h;cases vs<;>simp at hl ⊢
 |cons av as ih=>
  intro vs cs j hl bZ h pD pB hex;cases vs with
  |nil=>simp at hl
  |cons v vs=>
   simp only [kG] at h;cases h1:kF S.ms av with
   |none=>simp [h1] at h
   |some c=>
    simp only [h1] at h;cases h2:kG S.ms as with
    |none=>simp [h2] at h
    |some jk=>
     simp only [h2] at h;simp at h;subst h
     have Qg:av.xl=true→lent=true:=fun hh=>pD (by
      simp only [AV.lent,zP,zz];left;exact hh)
     have Qh:(AV.agg as).lent=true→lent=true:=fun hh=>pD (by
      simp only [AV.lent,zP,zz] at hh ⊢;right;exact hh)
     have Pm:av.xk=true→bl=true:=fun hh=>pB (by
      simp only [AV.kL,zP,zz];left;exact hh)
     have Pn:(AV.agg as).kL=true→bl=true:=fun hh=>pB (by
      simp only [AV.kL,zP,zz] at hh ⊢;right;exact hh)
     obtain ⟨k1,k2,k3,k4⟩:=Jh R (bZ 0 av v rfl rfl) h1 Qg Pm (fun r hr=>hex r (by simp [AV.b9,hr])) i j;obtain ⟨q1,q2,q3,q4⟩:=ih vs jk (j+1) (by simpa using hl) (fun k av x hk hx=>bZ (k+1) av x hk hx) h2 Qh Pn (fun r hr=>hex r (by simp [AV.b9,hr]));refine ⟨by simp [q1],fun k c' x hc hx=>?_,by simp [k2,q3],by simp [k4,q4]⟩;cases k with
     |zero=>simp at hc hx;subst hc;subst hx;exact k1
     |succ k=>
      have:=q2 k c' x hc hx;rwa [show j+(k+1)=j+1+k from by omega]
theorem M8 (R:Rel w0 cl0 S a.tmps w g) {av:AV} {v:Value} {x:V} {lent bl:Bool} {ex:Nat→Bool} (ha:RA w g S.ms av v) (h:ji S.ms false av=some x) (hl:av.lent=true→lent=true) (hb:av.kL=true→bl=true) (hex:∀r∈av.refs,ex r=false) (i:Nat):
 jh w (g.c6 lent bl ex) i x v:=by
 cases av with
 |agg as=>
  simp only [ji,zM,if_false] at h;cases h1:kG S.ms as with
  |none=>simp [h1] at h
  |some cs=>
   simp [h1] at h;subst h;cases ha with
   |agg _ vs hlen bZ=>
    obtain ⟨q1,q2,q3,_⟩:=Ng (lent:=lent) (bl:=bl) (ex:=ex) R i as vs.toList cs 0 (by simpa using hlen) (fun k av x hk hx=>bZ k av x hk (by simpa using hx)) h1 hl hb hex;exact ⟨⟨vs,rfl,q1,q2⟩,fun h=>by simp only [V.flat] at h;rw [q3] at h;cases h⟩
 |_=>
  simp only [ji,zM,if_false] at h;split at h
  ·rename_i c hc;simp at h;subst h;obtain ⟨k1,k2,k3,_⟩:=Jh (lent:=lent) (bl:=bl) (ex:=ex) R ha hc hl hb hex i 0;exact ⟨⟨k1,k3⟩,fun h=>by simp [V.flat,k2] at h⟩
  ·cases h
end
end
section
section
variable {P:Program} {κ:Nat→FuncId} {w0:World} {cl0:dv} {S:St} {w:World} {g:Gh} {a:Act} {Γ:Env} {d:Nat}
theorem Rel.grow (R:Rel w0 cl0 S a.tmps w g) {w':World} {g':Gh} (hp:∀b,b<w.heap.size→w'.heap[b]?=w.heap[b]?) (hs:w.heap.size≤w'.heap.size) (eJ:ee w w')
 (bA:∀b,b<w.heap.size→g'.cl b=g.cl b) (eF:∀b,w.heap.size≤b→g'.cl b=.no) (bY:g'.hd=g.hd) (kM:g'.bk=g.bk):Rel w0 cl0 S a.tmps w' g':=by
 have ah:∀b c,g.cl b=c→c≠.no→w'.heap[b]?=w.heap[b]?∧g'.cl b=c:=fun b c h hc=>by
  have:=R.bd b (by rw [h];exact hc);exact ⟨hp b this,by rw [bA b this,h]⟩
 have de:∀b k,g.cl b=kc k→w'.heap[b]?=w.heap[b]?∧g'.cl b=kc k:=fun b k h=>ah b _ h (by cases k<;>simp [kc])
 have O9:∀b c,c≠.no→(g'.cl b=c↔g.cl b=c):=fun b c hc=>by
  rcases zH b w.heap.size with h|h
  ·rw [bA b h]
  ·rw [eF b h];refine ⟨fun e=>absurd e.symm hc,fun e=>?_⟩;have:=R.bd b (by rw [e];exact hc);omega
 refine { av:=fun n=>(R.av n).mono de (fun r _=>⟨by rw [kM],fun j p hk=>⟨hk,by rw [bY]⟩⟩),rt:=fun n rt h=>?_,ey:=R.ey,ea:=R.ea,
          bd:=fun b h=>?_,sz:=Nat.le_trans R.sz hs,fr:=fun b hb hm=>?_,im:=fun b k=>(O9 b _ (by cases k<;>simp [kc])).trans (R.im b k),mi:=fun b hb hm=>?_,sd:=R.sd.trans eJ,
          fi:=fun i hi=>(by have h:=R.fi i hi;unfold yq at h ⊢;rw [bY,kM];exact h) }
 ·have h0:=R.rt n rt h;refine h0.mono de (fun b j ρ hb=>ah b _ hb (by simp)) (fun cs dx=>?_) (fun j ρ=>by rw [bY]) (fun _ _ _ _=>by rw [bY]);subst dx;have:=ah _ _ h0.1 (by simp);exact ⟨by rw [kM],this.1,by rw [this.2,h0.1]⟩
 ·rcases zH b w.heap.size with h1|h1
  ·omega
  ·exact absurd (eF b h1) h
 ·rw [hp b (z8 hb R.sz)];exact R.fr b hb hm
 ·rw [bA b (z8 hb R.sz)] at hm;exact R.mi b hb hm
def V.vals:V→Value→List Value
 |.bu _,v=>match v with
  |.tuple vs=>vs.toList.flatMap fun x=>x.cells.toList
  |_=>[]
 |_,v=>v.cells.toList
def V.dZ:V→List C
 |.bu xs=>xs.flatMap V.flat
 |x=>x.flat
theorem rK {w:World} {g:Gh} {r j:Nat} {x:V} {v:Value} (h:ig w g r j x v):qC w g r j x.flat v.cells.toList:=by
 cases x with
 |one c=>
  obtain ⟨h1,h2⟩:=h;rw [h2];refine ⟨rfl,fun i c' y hc hy=>?_⟩;cases i with
  |zero=>simp [V.flat] at hc hy;subst hc;subst hy;exact h1
  |succ i=>simp [V.flat] at hc
 |st cs=>
  obtain ⟨vs,rfl,h2⟩:=h;exact h2
 |ptr=>exact h.elim
 |bu=>exact h.elim
theorem MU {w:World} {g:Gh}:∀(xs:List V) (vs:List Value) (n:Nat),mM w g n xs vs→qC w g 0 n (xs.flatMap V.flat) (vs.flatMap fun x=>x.cells.toList):=by
 intro xs;induction xs with
 |nil=>intro vs n h;cases vs<;>simp [mM] at h;exact ⟨rfl,fun i c x hc=>by simp at hc⟩
 |cons x xs ih=>
  intro vs n h;cases vs with
  |nil=>simp [mM] at h
  |cons v vs=>
   simp only [mM] at h;obtain ⟨h1,h2⟩:=rK h.1;obtain ⟨h3,h4⟩:=ih vs _ h.2;refine ⟨by simp [h1,h3] at *,fun i c y hc hy=>?_⟩
   ·simp only [zo] at hc hy;by_cases hi:i<x.flat.length
    ·rw [zg hi] at hc;rw [zg (by omega)] at hy;exact h2 i c y hc hy
    ·rw [zf (by omega)] at hc hy;have:=h4 (i-x.flat.length) c y hc (by rwa [h1]);rwa [show n+x.flat.length+(i-x.flat.length)=n+i from by omega] at this
theorem yt {w:World} {g:Gh} {x:V} {v:Value} (h:kW w g x v) (hn:∀cs,x≠.ptr cs):qC w g 0 0 x.dZ (x.vals v):=by
 cases x with
 |bu xs=>
  obtain ⟨vs,rfl,h2⟩:=h;exact MU xs vs.toList 0 h2
 |ptr cs=>exact absurd rfl (hn cs)
 |one c=>exact rK (x:=.one c) h
 |st cs=>exact rK (x:=.st cs) h
theorem RE {m:Ms}:∀(cs:List C) (vs:List Value) (n:Nat),cs.length=vs.length→(∀(i:Nat) (c:C) (x:Value),cs[i]?=some c→vs[i]?=some x→RA w g m (kt d (n+i) c) x)→
 (mA d n cs).length=vs.length∧∀(i:Nat) (b:AV) (x:Value),(mA d n cs)[i]?=some b→vs[i]?=some x→RA w g m b x:=by
 intro cs;induction cs with
 |nil=>intro vs n hl h;cases vs<;>simp [mA] at hl ⊢
 |cons c cs ih=>
  intro vs n hl h;cases vs with
  |nil=>simp at hl
  |cons v vs=>
   obtain ⟨h1,h2⟩:=ih vs (n+1) (by simpa using hl) (fun i c' x hc hx=>by
    have:=h (i+1) c' x hc hx
    rwa [show n+(i+1)=n+1+i from by omega] at this)
   refine ⟨by simp [mA,h1],fun i b x hb hx=>?_⟩;cases i with
   |zero=>simp [mA] at hb hx;subst hb;subst hx;exact h 0 c v rfl rfl
   |succ i=>exact h2 i b x (by simpa [mA] using hb) (by simpa using hx)
theorem AR {m:Ms} {x:V} {v:Value} {n:Nat} {w1:World} {g1:Gh} {r:Nat} (h:ig w1 g1 r n x v)
 (hc:∀(i:Nat) (c:C) (y:Value),x.flat[i]?=some c→v.cells[i]?=some y→RA w g m (kt d (n+i) c) y):RA w g m (sS d n x) v:=by
 cases x with
 |one c=>
  obtain ⟨h1,h2⟩:=h;exact hc 0 c v rfl (by rw [h2];rfl)
 |st cs=>
  obtain ⟨vs,rfl,hl,_⟩:=h
  obtain ⟨h3,h4⟩:=RE (w:=w) (g:=g) (m:=m) (d:=d) cs vs.toList n hl (fun i c y h5 h6=>hc i c y h5 (by
   show (Value.agg vs).cells[i]?=some y
   simpa [Value.cells] using h6))
  exact .agg _ _ (by simpa using h3) (fun i b y h5 h6=>h4 i b y h5 (by simpa using h6))
 |ptr=>exact h.elim
 |bu=>exact h.elim
theorem RF {m:Ms} {w1:World} {g1:Gh}:∀(xs:List V) (vs:List Value) (n:Nat),mM w1 g1 n xs vs→
 (∀(i:Nat) (c:C) (y:Value),(xs.flatMap V.flat)[i]?=some c→(vs.flatMap fun x=>x.cells.toList)[i]?=some y→RA w g m (kt d (n+i) c) y)→
 (mB d n xs).length=vs.length∧∀(i:Nat) (b:AV) (x:Value),(mB d n xs)[i]?=some b→vs[i]?=some x→RA w g m b x:=by
 intro xs;induction xs with
 |nil=>intro vs n h hc;cases vs<;>simp [mM] at h;simp [mB]
 |cons x xs ih=>
  intro vs n h hc;cases vs with
  |nil=>simp [mM] at h
  |cons v vs=>
   simp only [mM] at h;obtain ⟨h1,h2⟩:=rK h.1
   obtain ⟨h3,h4⟩:=ih vs _ h.2 (fun i c y gZ hy=>by
    have:=hc (x.flat.length+i) c y (by
     simp only [zo]
     rw [zf (by omega),show x.flat.length+i-x.flat.length=i from by omega];exact gZ) (by
     simp only [zo]
     rw [zf (by omega),show x.flat.length+i-v.cells.toList.length=i from by omega];exact hy)
    rwa [←zt] at this)
   refine ⟨by simp [mB,h3],fun i b y hb hy=>?_⟩;cases i with
   |zero=>
    simp [mB] at hb hy;subst hb;subst hy;refine AR h.1 (fun i c y gZ hy=>hc i c y ?_ ?_)
    ·simp only [zo];rw [zg (bj gZ)];exact gZ
    ·simp only [zo];have:i<v.cells.toList.length:=by have:=bj gZ;omega
     rw [zg this];simpa using hy
   |succ i=>exact h4 i b y (by simpa [mB] using hb) (by simpa using hy)
theorem rm {m:Ms} {x:V} {v:Value} {w1:World} {g1:Gh} (h:kW w1 g1 x v) (hn:∀cs,x≠.ptr cs)
 (hc:∀(i:Nat) (c:C) (y:Value),x.dZ[i]?=some c→(x.vals v)[i]?=some y→RA w g m (kt d i c) y):RA w g m (imp d x).1 v:=by
 cases x with
 |bu xs=>
  obtain ⟨vs,rfl,h2⟩:=h;obtain ⟨h3,h4⟩:=RF (w:=w) (g:=g) (m:=m) (d:=d) xs vs.toList 0 h2 (fun i c y h5 h6=>by rw [zm];exact hc i c y h5 h6);exact .bu _ _ (by simpa using h3) (fun i b y h5 h6=>h4 i b y h5 (by simpa using h6))
 |ptr cs=>exact absurd rfl (hn cs)
 |one c=>exact AR (x:=.one c) (n:=0) h (fun i c y h5 h6=>by rw [zm];exact hc i c y h5 (by simpa [V.vals] using h6))
 |st cs=>exact AR (x:=.st cs) (n:=0) h (fun i c y h5 h6=>by rw [zm];exact hc i c y h5 (by simpa [V.vals] using h6))
theorem Is {d n r:Nat} {c:C} (h:r∈(kt d n c).refs) (hn:c.bg=true):r=d∧c.dn=true:=by
 cases c with
 |ro k dd=>simp [kt,AZ] at h
 |own dd=>
  simp only [kt,qB] at h;split at h
  ·simp [AV.refs] at h;exact ⟨h,by simp [C.dn,D.bC]⟩
  ·simp [AV.refs] at h
  ·simp [AV.refs] at h
 |rf=>simp [C.bg] at hn
theorem Lr:∀(cs:List C) (n r:Nat),cs.all C.bg=true→r∈AV.b9 (mA d n cs)→r=d∧cs.any C.dn=true:=by
 intro cs;induction cs with
 |nil=>intro n r _ h;simp [mA,AV.b9] at h
 |cons c cs ih=>
  intro n r hn h;simp only [z2,zb] at hn;simp only [mA,AV.b9,zx] at h;rcases h with h|h
  ·obtain ⟨h1,h2⟩:=Is h hn.1;exact ⟨h1,by simp [h2]⟩
  ·obtain ⟨h1,h2⟩:=ih _ r hn.2 h;exact ⟨h1,by simp [h2]⟩
theorem RG:∀(xs:List V) (n r:Nat),xs.all V.ry=true→r∈AV.b9 (mB d n xs)→r=d∧(xs.flatMap V.flat).any C.dn=true:=by
 intro xs;induction xs with
 |nil=>intro n r _ h;simp [mB,AV.b9] at h
 |cons x xs ih=>
  intro n r hn h;simp only [z2,zb] at hn;simp only [mB,AV.b9,zx] at h;rcases h with h|h
  ·have:r=d∧x.flat.any C.dn=true:=by
    cases x with
    |one c=>obtain ⟨h1,h2⟩:=Is h hn.1;exact ⟨h1,by simp [V.flat,h2]⟩
    |st cs=>exact Lr cs n r hn.1 (by simpa [sS,AV.refs] using h)
    |_=>simp [V.ry] at hn
   exact ⟨this.1,by simp only [zo,Ze,this.2,Bool.true_or]⟩
  ·obtain ⟨h1,h2⟩:=ih _ r hn.2 h;exact ⟨h1,by simp only [zo,Ze,h2,Bool.or_true]⟩
theorem ye {x:V} (h:x.plain=true) (hn:∀cs,x≠.ptr cs):x.dZ.all C.bg=true:=by
 cases x with
 |one c=>simpa [V.dZ,V.flat,V.plain,V.ry] using h
 |st cs=>simpa [V.dZ,V.flat,V.plain,V.ry] using h
 |ptr cs=>exact absurd rfl (hn cs)
 |bu xs=>
  simp only [V.plain] at h;simp only [V.dZ];rw [Zb];refine zd.2 (fun x hx=>?_);have:=zd.1 h x hx;cases x<;>simp_all [V.ry,V.flat]
theorem A6 {x:V} (h:x.bp=true) (hn:∀cs,x≠.ptr cs):x.dZ.all C.bp=true:=by
 cases x with
 |one c=>simpa [V.dZ,V.flat,V.bp,V.p8] using h
 |st cs=>simpa [V.dZ,V.flat,V.bp,V.p8] using h
 |ptr cs=>exact absurd rfl (hn cs)
 |bu xs=>
  simp only [V.bp] at h;simp only [V.dZ];rw [Zb];refine zd.2 (fun x hx=>?_);have:=zd.1 h x hx;cases x<;>simp_all [V.p8,V.flat]
theorem pX {x:V} (h:x.plain=true) (hn:∀cs,x≠.ptr cs) {r:Nat} (hr:r∈(imp d x).1.refs):r=d∧x.dZ.any C.dn=true:=by
 cases x with
 |one c=>exact (fun h=>⟨h.1,by simp [V.dZ,V.flat,h.2]⟩) (Is hr h)
 |st cs=>exact Lr cs 0 r h (by simpa [imp,sS,AV.refs] using hr)
 |ptr cs=>exact absurd rfl (hn cs)
 |bu xs=>exact RG xs 0 r h (by simpa [imp,AV.refs] using hr)
theorem sT {x:V} (hn:∀cs,x≠.ptr cs):(imp d x).2=if x.dZ.any C.dn then some (.aR x.dZ) else none:=by
 cases x with
 |ptr cs=>exact absurd rfl (hn cs)
 |_=>rfl
def Gh.im (g g':Gh) (d size bR:Nat) (X:Nat→Value):Gh where
 cl:=fun b=>if b<size then g.cl b else match g'.cl b with
  |.own 0 j ρ=>.own (d+1) j ρ
  |.box _=>if b=bR then .box d else .no
  |_=>.no
 hd:=fun r j ρ=>if r=d+1 then (if ρ=[] then X j else g'.hd 0 j ρ) else g.hd r j ρ
 bk:=aB g.bk d bR
theorem dT.im (d_:∀b,g.cl b≠.no→b<w.heap.size) {w':World} {g':Gh} {bR:Nat} {X:Nat→Value} (hp:∀b,b<w.heap.size→w'.heap[b]?=w.heap[b]?) (hs:w.heap.size≤w'.heap.size) (eJ:ee w w')
 (u3:∀b,g'.cl b≠.no→b<w'.heap.size):dT d w w' g (g.im g' d w.heap.size bR X):=by
 refine { hp:=fun b h _=>hp b h,hs:=hs,kc:=fun b k=>?_,cl:=fun b n j ρ h hn=>?_,bx:=fun b n h hn=>?_,hd:=fun n j ρ hn=>by simp [Gh.im,hn],
          bk:=fun n hn=>by simp [Gh.im,aB,hn],bd:=fun b h=>?_,mi:=fun b hb h=>by simpa [Gh.im,hb] using h,sd:=eJ }
 ·by_cases hb:b<w.heap.size
  ·simp [Gh.im,hb]
  ·have:g.cl b=.no:=by
    by_cases h:g.cl b=.no
    ·exact h
    ·exact absurd (d_ b h) hb
   rw [this];simp only [Gh.im,if_neg hb];split<;>first|(cases k<;>simp [OM.kc];done)|(split<;>cases k<;>simp [OM.kc])
 ·have:=d_ b (by rw [h];simp);simp [Gh.im,this,h]
 ·have:=d_ b (by rw [h];simp);simp [Gh.im,this,h]
 ·by_cases hb:b<w.heap.size
  ·left;simpa [Gh.im,hb] using h
  ·right;refine ⟨by omega,u3 b (fun e=>?_)⟩;simp [Gh.im,hb,e] at h
theorem BR (R:Rel w0 cl0 S a.tmps w g) {lent bl:Bool} {ex:Nat→Bool} {xs:List V} {args:Array Value} {r:V} {w':World} {g':Gh} {v:Value} (dy:r.plain=true) (aP:(r.bp||!lent)=true)
 (hr:kW w' g' r v) (hL:Left w (g.c6 lent bl ex) xs args [] w' g') (hn:((imp d r).2).isSome→(S.ms d).1=none):
 et w0 cl0 S a.tmps d (imp d r).1 (imp d r).2 S.ms v w':=by
 have hp:∀b,b<w.heap.size→w'.heap[b]?=w.heap[b]?:=fun b hb=>hL.fr b hb Gh.AU
 have KU:∀b,b<w.heap.size→(g'.cl b).bS=false:=fun b hb=>by
  cases h:(g'.cl b).bS
  ·rfl
  ·have:=hL.mi b hb h;rw [Gh.AU] at this;cases this
 have P3:∀b,g'.cl b=.iH→b<w.heap.size∧g.cl b=.iH:=fun b h=>by
  have:=Gh.Sy.1 ((hL.im b false).1 h);exact ⟨R.bd b (by rw [this];simp),this⟩
 have O1:lent=false→∀b,g'.cl b=.gr→b<w.heap.size∧g.cl b=.gr:=fun hl b h=>by
  have h1:=(hL.im b true).1 h;have:g.cl b=.gr:=Gh.DK (k:=true) (.inr hl) h1;exact ⟨R.bd b (by rw [this];simp),this⟩
 have dz:∀{g2:Gh} {k:Bool} {dd:D} {x:Value},(∀b,b<w.heap.size→g2.cl b=g.cl b)→RO w' g'.cl k dd x→(C.ro k dd).bp=true∨lent=false→RO w' g2.cl k dd x:=by
  intro g2 k dd x fE h ho;cases k with
  |false=>exact h.mono fun b hb=>⟨rfl,by obtain ⟨h1,h2⟩:=P3 b hb;rw [fE b h1,h2];rfl⟩
  |true=>
   rcases ho with ho|ho
   ·simp only [C.bp,Bool.not_true,Bool.false_or] at ho;cases h with
    |int=>exact .int _ _
    |bool=>exact .bool _
    |str=>exact .str _
    |_=>simp [D.bC] at ho
   ·exact h.mono fun b hb=>⟨rfl,by obtain ⟨h1,h2⟩:=O1 ho b hb;rw [fE b h1,h2];rfl⟩
 have pH:∀{g2:Gh} {n r1 j1:Nat} {dd:D} {x:Value},(∀b ρ,w.heap.size≤b→g'.cl b=.own 0 n ρ→g2.cl b=.own r1 j1 ρ)→(∀ρ,ρ≠[]→g2.hd r1 j1 ρ=g'.hd 0 n ρ)→(g2.hd r1 j1 []=x)→
  OW w' g' 0 n [] dd x→OW w' g2 r1 j1 [] dd x:=by
  intro g2 n r1 j1 dd x h1 h2 h3 h
  have vk:∀b ρ,g'.cl b=.own 0 n ρ→w.heap.size≤b:=fun b ρ hb=>by
   rcases zH b w.heap.size with h|h
   ·have:=KU b h;rw [hb] at this;cases this
   ·exact h
  exact Hd.place (w:=w') (g:=g') (.inl h) (fun b ρ hb=>⟨rfl,by simpa using h1 b ρ (vk b ρ hb) hb⟩) (fun ρ gJ=>by simpa using h2 ρ gJ) h3
 by_cases jt:∃cs,r=.ptr cs
 ·obtain ⟨cs,rfl⟩:=jt;obtain ⟨Rn,b,vals,E,rfl,bA,gy,jT,bG⟩:=hr
  have qN:w.heap.size≤b:=by
   rcases zH b w.heap.size with h|h
   ·have:=KU b h;rw [bA] at this;cases this
   ·exact h
  have H:=dT.im (d:=d) (g:=g) (g':=g') (w:=w) (w':=w') (bR:=b) (X:=fun j=>vals.getD j undef) R.bd hp hL.sz hL.sd hL.bd;simp only [imp] at hn ⊢;have iv:=hn rfl;simp only [V.plain] at dy
  have dF:∀(j:Nat) (c:C) (x:Value),cs[j]?=some c→vals[j]?=some x→RC w' (g.im g' d w.heap.size b fun j=>vals.getD j undef) (d+1) j c x:=by
   intro j c x hc hx;have h5:=bG j c x hc (by simpa using hx);rw [zm] at h5;have eF:=zd.1 dy c (za hc)
   have iU:c.bp=true∨lent=false:=by
    rcases zz _ _▸aP with h|h
    ·simp only [V.bp,V.p8] at h;exact .inl (zd.1 h c (za hc))
    ·right;simpa using h
   cases h5 with
   |ro k dd _ h6=>exact .ro _ _ _ (dz (fun b hb=>by simp [Gh.im,hb]) h6 iU)
   |own dd _ h6=>
    refine .own _ _ (pH (fun b ρ hb h7=>?_) (fun ρ gJ=>by simp [Gh.im,gJ]) ?_ h6)
    ·have:¬b<w.heap.size:=by omega
     simp [Gh.im,this,h7]
    ·simp [Gh.im,zB,hx]
   |rf=>simp [C.bg] at eF
  refine ⟨_,R.fresh (rt:=.bx cs) iv H ⟨?_,vals,E,?_,by simpa using jT.symm,dF⟩ (fun j r1 j1 hj=>?_),?_,fun q hq=>?_⟩
  ·have:¬b<w.heap.size:=by omega
   simp [Gh.im,aB,this,bA]
  ·simp only [Gh.im,gL];exact gy
  ·have:=zd.1 dy _ (za hj);simp [C.bg] at this
  ·have oV:=RA.bx (w:=w') (g:=g.im g' d w.heap.size b fun j=>vals.getD j undef) (m:=aB S.ms d (some (.bx cs),[])) d 0;have:(g.im g' d w.heap.size b fun j=>vals.getD j undef).bk d=b:=by simp [Gh.im,aB]
   rw [this] at oV;exact oV
  ·simp [AV.refs] at hq;subst hq;simp [aB]
 ·have dm:∀cs,r≠.ptr cs:=fun cs e=>jt ⟨cs,e⟩
  obtain ⟨kN,m_⟩:=yt hr dm;have jZ:=ye dy dm
  have nu:∀c∈r.dZ,c.bp=true∨lent=false:=by
   intro c hc;rcases zz _ _▸aP with h|h
   ·exact .inl (zd.1 (A6 h dm) c hc)
   ·right;simpa using h
  rw [sT dm] at hn ⊢;by_cases ft:r.dZ.any C.dn=true
  ·rw [if_pos ft] at hn ⊢;have iv:=hn rfl;have H:=dT.im (d:=d) (g:=g) (g':=g') (w:=w) (w':=w') (bR:=0) (X:=fun j=>(r.vals v).getD j undef) R.bd hp hL.sz hL.sd hL.bd
   have dF:∀(j:Nat) (c:C) (x:Value),r.dZ[j]?=some c→(r.vals v)[j]?=some x→RC w' (g.im g' d w.heap.size 0 fun j=>(r.vals v).getD j undef) (d+1) j c x:=by
    intro j c x hc hx;have h5:=m_ j c x hc hx;rw [zm] at h5;have eF:=zd.1 jZ c (za hc);have iU:=nu c (za hc);cases h5 with
    |ro k dd _ h6=>exact .ro _ _ _ (dz (fun b hb=>by simp [Gh.im,hb]) h6 iU)
    |own dd _ h6=>
     refine .own _ _ (pH (fun b ρ hb h7=>?_) (fun ρ gJ=>by simp [Gh.im,gJ]) ?_ h6)
     ·have:¬b<w.heap.size:=by omega
      simp [Gh.im,this,h7]
     ·simp [Gh.im,zu,hx]
    |rf=>simp [C.bg] at eF
   refine ⟨_,R.fresh (rt:=.aR r.dZ) iv H (fun j c hc=>?_) (fun j r1 j1 hj=>?_),?_,fun q hq=>?_⟩
   ·have ah:=bj hc;have hx:(r.vals v)[j]?=some (r.vals v)[j]:=by simp [show j<(r.vals v).length from by omega]
    have:=dF j c _ hc hx;have hh:(g.im g' d w.heap.size 0 fun j=>(r.vals v).getD j undef).hd (d+1) j []=(r.vals v)[j]:=by simp [Gh.im,zu,hx]
    rw [hh];exact this
   ·have:=zd.1 jZ _ (za hj);simp [C.bg] at this
   ·exact rm hr dm (fun i c y hc hy=>ql (dF i c y hc hy))
   ·obtain ⟨rfl,_⟩:=pX dy dm hq;simp [aB]
  ·rw [if_neg ft] at hn ⊢
   let g2:Gh:={ cl:=fun b=>if b<w.heap.size then g.cl b else .no,hd:=g.hd,bk:=g.bk }
   have R2:Rel w0 cl0 S a.tmps w' g2:=R.grow hp hL.sz hL.sd (fun b hb=>by simp [g2,hb]) (fun b hb=>by simp [g2,show ¬b<w.heap.size from by omega]) rfl rfl;refine ⟨g2,R2,?_,fun q hq=>?_⟩
   ·refine rm hr dm (fun i c y hc hy=>?_);have h5:=m_ i c y hc hy;have iU:=nu c (za hc);have eF:=zd.1 jZ c (za hc);cases h5 with
    |ro k dd _ h6=>exact AY (dz (fun b hb=>by simp [g2,hb]) h6 iU)
    |own dd _ h6=>
     have sD:dd.bC=true:=by
      have:(C.own dd).dn=false:=by
       cases h8:(C.own dd).dn
       ·rfl
       ·exact absurd (Za.2 ⟨_,za hc,h8⟩) ft
      simpa [C.dn] using this
     refine BS (w:=w') (g:=g2) (r:=d) (j:=i) (p:=[]) ?_;cases h6 with
     |int=>exact .int _ _ _
     |bool=>exact .bool _ _
     |str=>exact .str _ _
     |_=>simp [D.bC] at sD
    |rf=>simp [C.bg] at eF
   ·exact absurd (pX dy dm hq).2 ft
end
end
end Go.Proofs.YtohlfelngklcfaaGreat.OM
