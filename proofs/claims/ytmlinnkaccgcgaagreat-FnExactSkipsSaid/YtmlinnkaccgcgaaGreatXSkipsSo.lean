/- The contract of the sort, at values. -/
import Derived.Test.YtmlinnkaccgcgaaGreatXSkipsLm2
import Derived.Test.YtmlinnkaccgcgaaGreatOMLaw
import Derived.Shelf.SlSortCmp.NoneTotal
set_option linter.all false
namespace Go.Proofs.YtmlinnkaccgcgaaGreat.OM
set_option maxHeartbeats 4000000
open Go.Proofs Go.Shelf Go.RowKit Go.Lib Go.Sort

theorem ltV_swo : Go.Sort.SWO ltV:=by
 refine ⟨ltV_irrefl,fun x y z h1 h2 => ltV_trans h1 h2,fun x y z h1 h2 => ?_⟩
 cases hh : ltV x z with
 | false => rfl
 | true =>
  cases h3 : ltV y x with
  | true => rw [ltV_trans h3 hh] at h2; cases h2
  | false =>
   have:=ltV_tri h1 h3
   subst this
   rw [hh] at h2; cases h2

def encV (v : XVal) : List Value:=[.int .i64 v.Ty,.int .i64 v.N,.string v.S]
theorem encV_len (v : XVal) : (encV v).length = 3:=rfl
theorem encV_one (v : XVal) : ∀ x ∈ encV v,x.oneCell' = true:=fun x hx => by
 simp only [encV,List.mem_cons,List.not_mem_nil,or_false] at hx
 rcases hx with rfl | rfl | rfl <;> rfl
theorem encV_get (v : XVal) {c : Nat} {d : D} {x : Value} (hd : v.e[c]? = some d) (hx : (encV v)[c]? = some x) (w : World) (g : Gh) (r j : Nat) (p : Pth) : OW w g r j p d x:=by
 match c,hd,hx with
 | 0,hd,hx => simp at hd; simp [encV] at hx; subst hd; subst hx; exact .int _ _ _
 | 1,hd,hx => simp at hd; simp [encV] at hx; subst hd; subst hx; exact .int _ _ _
 | 2,hd,hx => simp at hd; simp [encV] at hx; subst hd; subst hx; exact .str _ _
 | c + 3,hd,hx => simp at hd
theorem encV_of {v : XVal} {c : Nat} {d : D} {x : Value} {w : World} {g : Gh} {r j : Nat} {p : Pth} (hd : v.e[c]? = some d) (h : OW w g r j p d x) : (encV v)[c]? = some x:=by
 match c,hd with
 | 0,hd => simp at hd; subst hd; cases h; rfl
 | 1,hd => simp at hd; subst hd; cases h; rfl
 | 2,hd => simp at hd; subst hd; cases h; rfl
 | c + 3,hd => simp at hd

theorem valD_list : ∀ {es : List (List D)},es.all valD = true → ∃ l : List XVal,es = l.map XVal.e
 | [],_ => ⟨[],rfl⟩
 | e :: es,h => by
  simp only [List.all_cons,Bool.and_eq_true] at h
  obtain ⟨l,rfl⟩:=valD_list h.2
  match e,h.1 with
  | [.int .i64 t,.int .i64 n,.str s],_ => exact ⟨⟨t,n,s⟩ :: l,rfl⟩

theorem lt_cmp {α : Type} (f : α → XVal) : (ltOf fun x y : α => cmpV (f x) (f y)) = fun x y => ltV (f x) (f y):=by
 have key : ∀ a b : XVal,decide (cmpV a b < 0) = ltV a b:=fun a b => by
  unfold cmpV
  cases ltV a b with
  | true => simp
  | false => simp; split <;> simp
 funext x y
 exact key _ _

theorem sort_args {xs : List V} {es : List (List D)} {k : Bool} {gk : Nat} (h : initAL 0 xs = [(0,.pl 0 0 [],some (.vir [.own (.sl 3 es)])),(1,.v k (.fn gk []),none)]) : xs = [.one (.own (.sl 3 es)),.one (.ro k (.fn gk []))]:=by
 match xs,h with
 | [],h => simp [initAL] at h
 | [x],h => simp [initAL] at h
 | x :: y :: z :: t,h => simp [initAL] at h
 | [x,y],h =>
  simp only [initAL,List.cons.injEq,Prod.mk.injEq,and_true,true_and] at h
  obtain ⟨⟨h1,h2⟩,h3,h4⟩:=h
  have hx : x = .one (.own (.sl 3 es)):=by
   cases x with
   | one c =>
    have h5 : virOf [c] = some (.vir [.own (.sl 3 es)]):=h2
    unfold virOf at h5
    split at h5
    ·simp only [Option.some.injEq,Rt.vir.injEq,List.cons.injEq,and_true] at h5
     rw [h5]
    ·cases h5
   | st cs => simp [imp,impV] at h1
   | tup xs => simp [imp] at h1
   | ptr cs => simp [imp] at h1
  have hy : y = .one (.ro k (.fn gk [])):=by
   cases y with
   | one c =>
    have h6 : rcell 1 0 c = .v k (.fn gk []):=h3
    have h7 : virOf [c] = none:=h4
    unfold virOf at h7
    cases c with
    | ro k' d =>
     cases d <;> simp [rcell,mkv] at h6
     obtain ⟨rfl,rfl,rfl⟩:=h6
     rfl
    | own d => cases d <;> simp [rcell,cellAV] at h6 <;> simp [C.isOwn,D.scal] at h7
    | rf => simp [rcell] at h6
   | st cs => simp [imp,impV] at h3
   | tup xs => simp [imp] at h3
   | ptr cs => simp [imp] at h3
  rw [hx,hy]

theorem sort_of {Γ : Env} {fuel : Nat} {xs : List V} {r : V} {us : List (Nat × Nat × C)} (h : prun Γ fuel pf595 xs = some (r,us)) :
  ∃ (l : List XVal) (k : Bool) (gk : Nat),xs = [.one (.own (.sl 3 (l.map XVal.e))),.one (.ro k (.fn gk []))] ∧ l.length < 4611686018427387904 ∧ r = .tup [] ∧ us = [(0,0,.own (.sl 3 ((sortV l).map XVal.e)))] ∧
   ∀ x ∈ l,∀ y ∈ l,Γ gk [.st (x.e.map (.ro false)),.st (y.e.map (.ro false))] = some (.one (.ro false (.int .i64 (cmpV x y))),[]):=by
 unfold prun at h
 split at h
 ·simp only [pf595,pb595,pexec] at h
  by_cases hc : CallsOf Γ (sortCalls (initAL 0 xs))
  ·rw [if_pos hc] at h
   unfold sortCalls at hc
   split at hc
   ·rename_i es k gk heq
    have hxs:=sort_args heq
    subst hxs
    split at hc
    ·rename_i hv
     obtain ⟨l,rfl⟩:=valD_list hv.1
     have hlen:=hv.2
     rw [List.length_map] at hlen
     rw [heq] at h
     simp only [sortF,sortD_map] at h
     refine ⟨l,k,gk,rfl,hlen,?_,?_,fun x hx y hy => ?_⟩
     ·simp [finish,out?,outVs,outUps,upsOf] at h; exact h.1.symm
     ·simp [finish,out?,outVs,outUps,upsOf] at h; exact h.2.symm
     ·exact hc (gk,_,_) (List.mem_flatMap.2 ⟨x.e,List.mem_map.2 ⟨x,hx,rfl⟩,List.mem_map.2 ⟨y.e,List.mem_map.2 ⟨y,hy,rfl⟩,rfl⟩⟩)
    ·exact absurd hc (by simp [CallsOf])
   ·exact absurd hc (by simp [CallsOf])
  ·rw [if_neg hc] at h; cases h
 ·cases h

theorem enters_ok {P : Program} {f : FuncId} (hbody : bodyOk P f = true) (args : Array Value) (w : World) : (callFunc f args).run P w = .ok (.enter f args) w:=by
 unfold bodyOk at hbody
 split at hbody
 ·rename_i fn hfun
  simp only [Bool.and_eq_true,bne_iff_ne,ne_eq] at hbody
  have hbn : fn.body.isNone = false:=by cases hb : fn.body <;> simp_all
  have hnm : (fn.name == "runtime.NumGoroutine") = false:=by simpa using hbody.2
  simp only [callFunc,Sem.run_bind,run_program,Result.andThen_ok,hfun]
  simp [hnm,hbn]
 ·cases hbody

theorem ow_emp {w : World} {g : Gh} {r j : Nat} {p : Pth} {v : Value} {es : List (List D)} (he : es = []) (h : OW w g r j p (.sl 3 es) v) : ∃ q cap,v = .slice q 0 cap:=by
 cases h with
 | nil => exact ⟨_,_,rfl⟩
 | sl => subst he; exact ⟨_,_,rfl⟩

theorem ow_sl {w : World} {g : Gh} {r j : Nat} {p : Pth} {v : Value} {es : List (List D)} (he : es ≠ []) (h : OW w g r j p (.sl 3 es) v) :
  ∃ b off cap vals E,v = .slice (some ⟨b,off,none⟩) es.length cap ∧ g.hd r j p = .slice (some ⟨b,off,none⟩) es.length cap ∧ g.cl b = .own r j p ∧ es.length ≤ cap ∧ w.heap[b]? = some (.cells vals E) ∧ off + cap * 3 ≤ vals.size ∧
   ∀ i c e d x,es[i]? = some e → e[c]? = some d → vals[off + i * 3 + c]? = some x → OW w g r j (p ++ [(i,c)]) d x:=by
 cases h with
 | nil => exact absurd rfl he
 | sl _ _ _ b off cap vals E h1 h2 h3 h4 h5 h6 h7 => exact ⟨b,off,cap,vals,E,rfl,h1,h2,h4,h5,h6,h7⟩

/-- What lies before a call is left,as an equation. -/
theorem grown_of {w w' : World} (hs : Same w w') (hz : w.heap.size ≤ w'.heap.size) (hf : ∀ b,b < w.heap.size → w'.heap[b]? = w.heap[b]?) : ∃ q os',w' = Go.Sort.grow (w.drewN q) os':=by
 refine ⟨w'.drawn - w.drawn,w'.heap.extract w.heap.size w'.heap.size,?_⟩
 obtain ⟨h,t,d,o,out⟩:=w'
 obtain ⟨h0,t0,d0,o0,out0⟩:=w
 obtain ⟨e1,e2,_,e4,e5⟩:=hs
 simp only at e1 e2 e4 e5 hz hf
 subst e1; subst e2; subst e4
 simp only [Go.Sort.grow,World.drewN,World.mk.injEq,true_and,and_true]
 refine ⟨?_,by omega⟩
 apply Array.ext_getElem?
 intro i
 by_cases hi : i < h0.size
 ·rw [hf i hi,Array.getElem?_append_left hi]
 ·rw [Array.getElem?_append_right (by omega),Array.getElem?_extract]
  by_cases hi2 : i < h.size
  ·rw [if_pos (by omega)]; congr 1; omega
  ·rw [if_neg (by omega),Array.getElem?_eq_none (by omega)]

theorem cells_arg (W : World) (i : Nat) (z : XVal) : RVa W (inGh W) i (.st (z.e.map (.ro false))) (.agg (encV z).toArray):=by
 refine ⟨⟨_,rfl,rfl,fun k c y hc hy => ?_⟩,fun hh => by simp [V.flat,C.isOwn] at hh⟩
 match k,hc,hy with
 | 0,hc,hy => simp at hc; simp [encV] at hy; subst hc; subst hy; exact .ro _ _ _ (.int _ _)
 | 1,hc,hy => simp at hc; simp [encV] at hy; subst hc; subst hy; exact .ro _ _ _ (.int _ _)
 | 2,hc,hy => simp at hc; simp [encV] at hy; subst hc; subst hy; exact .ro _ _ _ (.str _)
 | k + 3,hc,hy => simp at hc

theorem cmp_lays {P : Program} {Γ : Env} (hG : GOk P kap Γ) {gk : Nat} {x y : XVal} (h : Γ gk [.st (x.e.map (.ro false)),.st (y.e.map (.ro false))] = some (.one (.ro false (.int .i64 (cmpV x y))),[])) (W : World) :
  Calls P (kap gk) #[.agg (encV x).toArray,.agg (encV y).toArray] W fun e w' => e = .returned (.int .i64 (cmpV x y)) ∧ ∃ q os',w' = Go.Sort.grow (W.drewN q) os':=by
 refine (hG.ok gk _ _ _ h W #[.agg (encV x).toArray,.agg (encV y).toArray] (inGh W) rfl (fun b hb => ?_) (fun i z v hz hv => ?_)).mono ?_
 ·simp only [inGh,ne_eq] at hb
  by_cases h : b < W.heap.size
  ·exact h
  ·simp [h] at hb
 ·match i,hz,hv with
  | 0,hz,hv =>
   simp only [List.getElem?_cons_zero,Option.some.injEq] at hz
   have hv2 : v = .agg (encV x).toArray:=by simpa using hv.symm
   subst hz; subst hv2; exact cells_arg W 0 x
  | 1,hz,hv =>
   simp only [List.getElem?_cons_succ,List.getElem?_cons_zero,Option.some.injEq] at hz
   have hv2 : v = .agg (encV y).toArray:=by simpa using hv.symm
   subst hz; subst hv2; exact cells_arg W 1 y
  | i + 2,hz,hv => simp at hz
 ·rintro e W' ⟨v,g',rfl,⟨hr,_⟩,hL⟩
  refine ⟨?_,grown_of hL.sd hL.sz (fun b hb => hL.fr b hb (by simp [inGh,hb,Cls.mine]))⟩
  cases hr with
  | ro _ _ _ h6 => cases h6; rfl

theorem sort_ok {P : Program} {ρ : Ren} (L : SlLaysF0.n6 P ρ) (hf : ρ.f 6 = kap 595) (aE : ∀ w,(isAgg (ρ.t 24)).run P w = .ok true w) (zE : ∀ w,(Go.sizeOf (ρ.t 24)).run P w = .ok 3 w)
  {Γ : Env} (hG : GOk P kap Γ) {fuel : Nat} {xs : List V} {r : V} {us : List (Nat × Nat × C)} (h : prun Γ fuel pf595 xs = some (r,us)) : OK P (kap 595) xs r us:=by
 obtain ⟨l,k,gk,rfl,hlen,rfl,rfl,hcmp⟩:=sort_of h
 intro w args g hsz hbd hra
 obtain ⟨al,rfl⟩ : ∃ al : List Value,args = al.toArray:=⟨args.toList,by simp⟩
 match al,hsz with
 | [a0,a1],_ =>
 have h0:=hra 0 _ a0 rfl rfl
 have h1:=hra 1 _ a1 rfl rfl
 obtain ⟨⟨hc0,hcc0⟩,hh0⟩:=h0
 obtain ⟨⟨hc1,_⟩,_⟩:=h1
 have ha1 : a1 = .func (.func (kap gk)) #[] #[]:=by
  cases hc1 with
  | ro _ _ _ hro => cases hro with
   | fn => rfl
   | fnc _ _ b hne => exact absurd rfl hne
 subst ha1
 cases hc0 with
 | own _ _ how =>
 by_cases hl0 : l = []
 ·subst hl0
  have hsl:=ow_emp rfl how
  obtain ⟨p,cap,rfl⟩:=hsl
  have hc:=AnyF.slices_SortFunc_none L p cap (.func (.func (kap gk)) #[] #[]) w
  rw [hf] at hc
  refine hc.mono ?_
  rintro e w' ⟨rfl,rfl⟩
  refine ⟨_,g,rfl,⟨#[],rfl,trivial⟩,⟨Same.refl _,Nat.le_refl _,fun _ _ _ => rfl,fun _ _ => Iff.rfl,hbd,fun _ _ h => h,fun i j c hu => ?_⟩⟩
  simp only [List.mem_singleton,Prod.mk.injEq] at hu
  obtain ⟨rfl,rfl,rfl⟩:=hu
  have how2 : OW w' g 1 0 [] (.sl 3 ((sortV []).map XVal.e)) (.slice p 0 cap):=by simpa [sortV] using how
  exact ⟨.slice p 0 cap,.slice p 0 cap,rfl,rfl,.own _ _ how2⟩
 ·obtain ⟨v0,hv0⟩:=List.exists_mem_of_ne_nil l hl0
  have hlm : l.map XVal.e ≠ []:=by simpa using hl0
  obtain ⟨b,off,cap,vals,E,rfl,hhd,hcl,hcap,hheap,hsize,hels⟩:=ow_sl hlm how
  letI : Inhabited {v : XVal // v ∈ l}:=⟨⟨v0,hv0⟩⟩
  let enc : {v : XVal // v ∈ l} → List Value:=fun x => encV x.1
  let d : Array {v : XVal // v ∈ l}:=l.attach.toArray
  have hds : d.size = l.length:=by simp [d]
  have hblk : b < w.heap.size:=hbd b (by rw [hcl]; simp)
  have hget : ∀ (i : Nat) (hi : i < l.length),d[i]! = ⟨l[i],List.getElem_mem hi⟩:=fun i hi => by
   rw [getElem!_pos d i (by omega)]; simp [d]
  have hH : HoldsK enc 3 w b off d:=by
   intro j hj
   rw [size_flatK,hds] at hj
   have hi : j / 3 < l.length:=by omega
   have hc : j % 3 < 3:=Nat.mod_lt _ (by omega)
   have hlc : l.length ≤ cap:=by simpa using hcap
   have hjv : off + j < vals.size:=by omega
   have hej : off + j / 3 * 3 + j % 3 = off + j:=by omega
   have hx : vals[off + j]? = some vals[off + j]:=Array.getElem?_eq_getElem hjv
   refine ⟨?_,by simp [World.frozen?,hheap]⟩
   have hcell : w.cell? ⟨b,off + j,none⟩ = vals[off + j]?:=by simp [World.cell?,hheap]
   rw [hcell,hx,get_flatK _ _ _ _ (by rw [hds]; exact hj),hget _ hi]
   have hle : (l.map XVal.e)[j / 3]? = some (l[j / 3]).e:=by simp [hi]
   have hlc3 : ((l[j / 3]).e).length = 3:=rfl
   obtain ⟨dd,hdd⟩ : ∃ dd,(l[j / 3]).e[j % 3]? = some dd:=⟨_,List.getElem?_eq_getElem (by rw [hlc3]; exact hc)⟩
   have:=encV_of hdd (hels _ _ _ _ _ hle hdd (by rw [hej]; exact hx))
   simp only [id,enc]
   rw [List.getElem!_of_getElem? this]
  have hcl2 : CmpLays P (kap gk) #[] enc 3 (fun x y => cmpV x.1 y.1) b off d.size w:=by
   intro m os dk hs x y
   exact cmp_lays hG (hcmp x.1 x.2 y.1 y.2) _
  have hlt:=lt_cmp (fun x : {v : XVal // v ∈ l} => x.1)
  have hO : SWO (ltOf fun x y : {v : XVal // v ∈ l} => cmpV x.1 y.1):=by
   rw [hlt]
   exact ⟨fun x => ltV_swo.irrefl x.1,fun x y z => ltV_swo.trans x.1 y.1 z.1,fun x y z => ltV_swo.ntrans x.1 y.1 z.1⟩
  have hc:=AnyQ.slices_SortFunc_total L 3 aE zE enc (fun x => encV_len x.1) (fun x => encV_one x.1) (fun x y => cmpV x.1 y.1) hO (kap gk) #[] b off cap d w
   (fun args w => enters_ok (hG.body gk _ _ (hcmp v0 hv0 v0 hv0)) args w) hcl2 hH hblk (by omega) (fun x y h1 h2 => by
    rw [hlt] at h1 h2
    exact Subtype.ext (ltV_tri h1 h2))
  rw [hf,hds] at hc
  rw [hlt] at hc
  have hlen2 : (l.map XVal.e).length = l.length:=by simp
  rw [hlen2]
  refine hc.mono ?_
  rintro e w' ⟨rfl,n,os,hw'⟩
  generalize hD : (d.toList.mergeSort fun x y => !ltV y.1 x.1).toArray = D at hw'
  have hDl : D.toList.map (·.1) = sortV l:=by
   rw [← hD]
   simp only [d,List.toList_toArray]
   rw [List.map_mergeSort (s:=fun x y => !ltV y x) (by intro a _ b _; rfl)]
   simp [sortV]
  have hDs : D.size = d.size:=by
   have:=congrArg List.length hDl
   simp only [List.length_map,Array.length_toList,sortV_len] at this
   omega
  have hHD : HoldsK enc 3 w' b off D:=by rw [hw']; exact holdsK_sortWorldK_c enc 3 w b off d D n os hH hblk hDs
  have hwb : ∀ b',b' < w.heap.size → w'.heap[b']? = if b = b' then (w.heap[b']?).map (onCells (putCells id off (flatK enc 3 D))) else w.heap[b']?:=fun b' hb' => by
   rw [hw']
   unfold sortWorldK putRowK
   rw [heap_grow_old _ _ (by simpa using hb')]
   simp [putRow,mapBlock,Array.getElem?_modify,ahead]
  have hwz : w.heap.size ≤ w'.heap.size:=by
   rw [hw']; unfold sortWorldK putRowK; simp [Go.Sort.grow,Go.Sort.ahead]
  have hheap' : w'.heap[b]? = some (.cells (putCells id off (flatK enc 3 D) vals) E):=by
   rw [hwb b hblk,if_pos rfl,hheap]; try rfl
  have hsame : Same w w':=by
   refine ⟨by rw [hw']; rfl,by rw [hw']; rfl,fun a hi => ?_,by rw [hw']; rfl,by rw [hw']; exact Nat.le_add_right _ _⟩
   have ha : a.block < w.heap.size:=by
    rcases Nat.lt_or_ge a.block w.heap.size with h | h
    ·exact h
    ·rw [Array.getElem?_eq_none h] at hi; cases hi
   refine ⟨by rw [Array.getElem?_eq_getElem (by omega)]; rfl,?_⟩
   rw [hw']; unfold sortWorldK putRowK
   rw [frozen?_grow _ _ _ (by simpa using ha)]
   simp
  have hle2 : ((sortV l).map XVal.e).length = l.length:=by simp [sortV_len]
  refine ⟨_,g,rfl,⟨#[],rfl,trivial⟩,⟨hsame,hwz,fun b' hb' hm => ?_,fun _ _ => Iff.rfl,fun b' hb' => Nat.lt_of_lt_of_le (hbd b' hb') hwz,fun _ _ h => h,fun i j c hu => ?_⟩⟩
  ·rw [hwb b' hb',if_neg]
   rintro rfl
   rw [hcl] at hm; cases hm
  ·simp only [List.mem_singleton,Prod.mk.injEq] at hu
   obtain ⟨rfl,rfl,rfl⟩:=hu
   refine ⟨_,_,rfl,rfl,.own _ _ ?_⟩
   rw [← hle2]
   refine .sl _ _ _ b off cap _ E (by rw [hhd,hlen2,hle2]) hcl (fun e he => ?_) (by rw [hle2]; simpa using hcap) hheap' (by simpa [putCells] using hsize) (fun i c e dd x hi hcd hx => ?_)
   ·obtain ⟨v,_,rfl⟩:=List.mem_map.1 he; rfl
   ·rw [List.getElem?_map,Option.map_eq_some_iff] at hi
    obtain ⟨v,hv,rfl⟩:=hi
    have hc3 : c < 3:=(List.getElem?_eq_some_iff.1 hcd).1
    obtain ⟨hil,hiv⟩:=List.getElem?_eq_some_iff.1 hv
    rw [sortV_len] at hil
    have hj : i * 3 + c < (flatK enc 3 D).size:=by rw [size_flatK,hDs,hds]; omega
    have hcell:=(hHD (i * 3 + c) hj).1
    have hcell2 : w'.cell? ⟨b,off + (i * 3 + c),none⟩ = (putCells id off (flatK enc 3 D) vals)[off + (i * 3 + c)]?:=by simp [World.cell?,hheap']
    rw [hcell2,← Nat.add_assoc,hx,get_flatK _ _ _ _ (by rw [size_flatK] at hj; exact hj)] at hcell
    simp only [id,Option.some.injEq] at hcell
    have e1 : (i * 3 + c) / 3 = i:=by omega
    have e2 : (i * 3 + c) % 3 = c:=by omega
    rw [e1,e2] at hcell
    have hDi : (D[i]!).1 = v:=by
     rw [getElem!_pos D i (by omega)]
     have:=congrArg (fun l => l[i]?) hDl
     simp only [List.getElem?_map,hv] at this
     rw [Array.getElem?_toList,Array.getElem?_eq_getElem (by omega)] at this
     simpa using this
    refine encV_get v hcd ?_ _ _ _ _ _
    have : (encV v)[c]! = x:=by rw [hcell]; simp only [enc,hDi]
    rw [List.getElem?_eq_getElem (by rw [encV_len]; exact hc3),← this,getElem!_pos]

end Go.Proofs.YtmlinnkaccgcgaaGreat.OM
