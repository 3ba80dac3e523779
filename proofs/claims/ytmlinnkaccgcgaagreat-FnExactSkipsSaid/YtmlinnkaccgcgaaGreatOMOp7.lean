/- The own machine: make, slice literals, struct literals. -/
import Derived.Test.YtmlinnkaccgcgaaGreatOMPlace
set_option linter.all false
namespace Go.Proofs.YtmlinnkaccgcgaaGreat.OM
section
variable {P : Program} {κ : Nat → FuncId} {w0 : World} {cl0 : Ini} {S : St} {w : World} {g : Gh} {a : Act} {Γ : Env} {d : Nat}
theorem foldl_set : ∀ (l : List Value) (n off : Nat) (cs : Array Value),
  ((l.zipIdx n).foldl (fun cs (x : Value × Nat) => cs.setIfInBounds (off + x.2) x.1) cs).size = cs.size ∧
  ∀ k : Nat,off + n + l.length ≤ cs.size →
   ((l.zipIdx n).foldl (fun cs (x : Value × Nat) => cs.setIfInBounds (off + x.2) x.1) cs)[k]? = if off + n ≤ k ∧ k < off + n + l.length then l[k - (off + n)]? else cs[k]?:=by
 intro l
 induction l with
 | nil => intro n off cs; simp; intro k h1 h2 h3; omega
 | cons v l ih =>
  intro n off cs
  simp only [List.zipIdx_cons,List.foldl_cons]
  obtain ⟨h1,h2⟩:=ih (n + 1) off (cs.setIfInBounds (off + n) v)
  refine ⟨by rw [h1]; simp,fun k hk => ?_⟩
  simp only [List.length_cons] at hk
  rw [h2 k (by simp; omega)]
  by_cases e1 : off + (n + 1) ≤ k ∧ k < off + (n + 1) + l.length
  ·rw [if_pos e1,if_pos (by simp only [List.length_cons]; omega),show k - (off + n) = (k - (off + (n + 1))) + 1 from by omega]
   simp
  ·rw [if_neg e1]
   by_cases e2 : k = off + n
   ·subst e2
    rw [if_pos (by simp only [List.length_cons]; omega)]
    simp [show off + n < cs.size from by omega]
   ·rw [if_neg (by simp only [List.length_cons]; omega)]
    rw [Array.getElem?_setIfInBounds_ne (by omega)]
theorem fill_step {place : Nat → Option (Nat × Nat)} {cells : Array Value} {i off n : Nat} {v : Value} {rest : List (Nat × Value)} (hp : place i = some (off,n))
  (hn : v.cells.size = n) (hb : off + n ≤ cells.size) : ∃ cells',Instr.fill place cells ((i,v) :: rest) = Instr.fill place cells' rest ∧ cells'.size = cells.size ∧
   ∀ k : Nat,cells'[k]? = if off ≤ k ∧ k < off + n then v.cells[k - off]? else cells[k]?:=by
 refine ⟨(v.cells.toList.zipIdx 0).foldl (fun cs x => cs.setIfInBounds (off + x.2) x.1) cells,?_,(foldl_set _ _ _ _).1,fun k => ?_⟩
 ·have h1 : ¬ ((decide (v.cells.size ≠ n) || decide (off + v.cells.size > cells.size)) = true):=by simp; omega
  simp only [Instr.fill,hp,h1,Bool.false_eq_true,if_false]
  rw [← Array.foldl_toList,Array.toList_zipIdx]
 ·rw [(foldl_set v.cells.toList 0 off cells).2 k (by simp; omega)]
  simp [hn]
theorem setRange_get {α : Type} {l xs : List α} {o k : Nat} (h : o + xs.length ≤ l.length) :
  (setRange l o xs)[k]? = if o ≤ k ∧ k < o + xs.length then xs[k - o]? else l[k]?:=by
 unfold setRange
 by_cases h1 : k < o
 ·rw [if_neg (by omega),List.append_assoc,List.getElem?_append_left (by simp; omega),List.getElem?_take_of_lt h1]
 ·by_cases h2 : k < o + xs.length
  ·rw [if_pos ⟨by omega,h2⟩,List.append_assoc,List.getElem?_append_right (by simp; omega)]
   simp only [List.length_take]
   rw [show min o l.length = o from by omega,List.getElem?_append_left (by omega)]
  ·rw [if_neg (by omega),List.getElem?_append_right (by simp; omega)]
   simp only [List.length_append,List.length_take,List.getElem?_drop]
   rw [show min o l.length = o from by omega]
   congr 1
   omega
theorem setRange_length {α : Type} {l xs : List α} {o : Nat} (h : o + xs.length ≤ l.length) : (setRange l o xs).length = l.length:=by
 simp [setRange]; omega
theorem fillAV_ok (R : Rel w0 cl0 S a.tmps w g) {place at? : Nat → Option (Nat × Nat)} (hat : ∀ i off n,at? i = some (off,n) → place i = some (off,n)) :
  ∀ (ps : List (Nat × Nat × PX)) (parts : List (Nat × Operand)) (z l : List AV) (cells : Array Value),chkFields at? ps parts = true →
   fillAV z (ps.map fun x => (x.1,x.2.1,S.ev x.2.2)) = some l → z.length = cells.size → (∀ (k : Nat) (b : AV) (x : Value),z[k]? = some b → cells[k]? = some x → RA w g S.ms b x ∧ Live S.ms b) →
   ∃ cells',Instr.fill place cells (parts.map fun x => (x.1,a.eval x.2)) = some cells' ∧ l.length = cells'.size ∧
    ∀ (k : Nat) (b : AV) (x : Value),l[k]? = some b → cells'[k]? = some x → RA w g S.ms b x ∧ Live S.ms b:=by
 intro ps
 induction ps with
 | nil =>
  intro parts z l cells hc h hz hg
  cases parts with
  | nil => simp [fillAV] at h; subst h; exact ⟨cells,by simp [Instr.fill],hz,hg⟩
  | cons => simp [chkFields] at hc
 | cons p ps ih =>
  intro parts z l cells hc h hz hg
  obtain ⟨off,n,x⟩:=p
  cases parts with
  | nil => simp [chkFields] at hc
  | cons pt parts =>
   obtain ⟨i,ox⟩:=pt
   simp only [chkFields,Bool.and_eq_true,decide_eq_true_eq] at hc
   obtain ⟨⟨h1,h2⟩,h3⟩:=hc
   simp only [List.map_cons,fillAV] at h
   split at h
   ·rename_i hcond
    obtain ⟨hn,hb,hval⟩:=hcond
    have e:=chkX_ok R h2
    obtain ⟨hcl,hcr⟩:=cells_ok e.1 hval
    obtain ⟨cells',hf,hs,hget⟩:=fill_step (v:=a.eval ox) (rest:=parts.map fun x => (x.1,a.eval x.2)) (hat i off n h1) (by omega) (show off + n ≤ cells.size by omega)
    have hlen:=setRange_length (l:=z) (xs:=(S.ev x).cells) (o:=off) (by omega)
    obtain ⟨c2,hf2,hl2,hg2⟩:=ih parts _ l cells' h3 h (by omega) (fun k b y hb' hy => by
     rw [setRange_get (by omega)] at hb'
     rw [hget k] at hy
     rw [hn] at hb'
     split at hb'
     ·rename_i hk
      rw [if_pos hk] at hy
      refine ⟨hcr _ b y hb' hy,?_⟩
      intro r hr
      refine e.2 r ?_
      cases hev : S.ev x with
      | agg cs =>
       rw [hev] at hb'
       have hb2 : cs[k - off]? = some b:=hb'
       simpa [AV.refs] using mem_refsL hb2 hr
      | _ =>
       rw [hev] at hb'
       simp only [AV.cells] at hb'
       cases hkk : k - off with
       | zero => rw [hkk] at hb'; simp at hb'; subst hb'; exact hr
       | succ m => rw [hkk] at hb'; simp at hb'
     ·rename_i hk
      rw [if_neg hk] at hy
      exact hg k b y hb' hy)
    exact ⟨c2,by simp only [List.map_cons]; rw [hf]; exact hf2,hl2,hg2⟩
   ·cases h
theorem run_places {fs : Array Field} (h : ∀ f ∈ fs.toList,∃ i,P.info? f.type = some i) :
  (fs.mapM fun f => (do pure (f.offset,← sizeOf f.type) : Sem (Nat × Nat))).run P w = .ok (fs.map fun f => (f.offset,P.cellsOf f.type)) w:=by
 obtain ⟨l⟩:=fs
 rw [Array.mapM_eq_mapM_toList]
 simp only at h
 have : (l.mapM fun f => (do pure (f.offset,← sizeOf f.type) : Sem (Nat × Nat))).run P w = .ok (l.map fun f => (f.offset,P.cellsOf f.type)) w:=by
  induction l with
  | nil => simp
  | cons f l ih =>
   obtain ⟨i,hi⟩:=h f (by simp)
   have:=ih (fun f hf => h f (by simp [hf]))
   have hs : (sizeOf f.type).run P w = .ok (P.cellsOf f.type) w:=by simp [sizeOf,typeInfo,hi,Program.cellsOf]
   simp only [List.mapM_cons,Sem.run_bind,this,hs,Result.andThen_ok,Sem.run_pure,List.map_cons]
 rw [Sem.run_map,this]
 simp
theorem liveL {m : Ms} : ∀ (l : List AV),(∀ (k : Nat) (av : AV),l[k]? = some av → Live m av) → ∀ r ∈ AV.refsL l,((m r).1).isSome:=by
 intro l
 induction l with
 | nil => intro _ r h; simp [AV.refsL] at h
 | cons b bs ih =>
  intro h1 r h2
  simp only [AV.refsL,List.mem_append] at h2
  rcases h2 with h2 | h2
  ·exact h1 0 b rfl r h2
  ·exact ih (fun k av hk => h1 (k + 1) av hk) r h2
theorem fieldT_some {t : TypeId} {f off n : Nat} (h : fieldT P t f = some (off,n)) : ∃ fs fd,P.underlying t = some (.struct fs) ∧ fs[f]? = some fd ∧ fd.offset = off ∧ P.cellsOf fd.type = n:=by
 unfold fieldT at h
 split at h
 ·rename_i fs hu
  split at h
  ·rename_i fd hfd
   split at h
   ·rename_i i hi
    simp at h
    exact ⟨fs,fd,hu,hfd,h.1,by simp [Program.cellsOf,hi,h.2]⟩
   ·cases h
  ·cases h
 ·cases h
theorem ok_build (R : Rel w0 cl0 S a.tmps w g) {z : List AV} {ps : List (Nat × Nat × PX)} {op : Op} {av : AV} {rt : Option Rt} {m' : Ms}
  (hc : chkOp P κ (.build z ps) op = true) (h : opf Γ S.ev d S.ms (.build z ps) = some (av,rt,m')) : PureOk P S w g a av rt m' op:=by
 cases op with
 | build t parts => ?_
 | _ => simp [chkOp] at hc
 simp only [chkOp,Bool.and_eq_true] at hc
 obtain ⟨⟨hz,hps⟩,hfs⟩:=hc
 split at hz
 ·rename_i zl hzl
  obtain ⟨i,zv,hi,hzv,hzc,hzs⟩:=zeroT_some hzl
  obtain ⟨hl,hg⟩:=chkCs_get z zl hz
  simp only [opf] at h
  split at h
  ·rename_i l hfl
   simp at h; obtain ⟨rfl,rfl,rfl⟩:=h
   refine ⟨rfl,rfl,fun o ho => ?_⟩
   split at hfs
   ·rename_i fs hu
    have hinfo : ∀ f ∈ fs.toList,∃ i,P.info? f.type = some i:=by
     intro f hf
     have:=List.all_eq_true.1 hfs f hf
     cases hh : P.info? f.type with
     | none => simp [hh] at this
     | some i => exact ⟨i,rfl⟩
    obtain ⟨cells',hfill,hl2,hra⟩:=fillAV_ok R (place:=((fs.map fun f => (f.offset,P.cellsOf f.type))[·]?)) (at?:=fieldT P t) (fun i off n h => by
     obtain ⟨fs',fd,hu',hfd,h1,h2⟩:=fieldT_some h
     rw [hu] at hu'; cases hu'
     simp [hfd,h1,h2]) ps parts.toList z l zv.cells hps hfl (by rw [hl,← hzc]; simp) (fun k b x hb hx => by
      have:=chkC_ok (w:=w) (g:=g) (m:=S.ms) (hg k b x hb (by rw [← hzc]; simpa using hx))
      exact ⟨this.1,fun r hr => by rw [this.2] at hr; cases hr⟩)
    refine ⟨.agg cells',?_,.agg _ _ hl2 (fun k b x hb hx => (hra k b x hb hx).1),?_⟩
    ·have hplaces:=run_places (P:=P) (w:=w) hinfo
     have hparts : (parts.map fun x => (x.1,a.eval x.2)).toList = parts.toList.map fun x => (x.1,a.eval x.2):=by simp
     simp only [execOp,ho,Instr.build,Sem.run_bind,zeroValue,typeInfo,run_program,hi,Result.andThen_ok,hzv,Sem.run_pure,run_underlying hu,hplaces]
     rw [hparts,hfill]
     rfl
    ·intro r hr
     simp only [AV.refs] at hr
     refine liveL l (fun k b hk => ?_) r hr
     have hlt:=lt_of_get hk
     exact (hra k b cells'[k] hk (by simp [show k < cells'.size from by omega])).2
   ·cases hfs
  ·cases h
 ·cases hz
theorem rep_get {α : Type} (l : List α) : ∀ (n k : Nat),k < n * l.length → (rep n l)[k]? = l[k % l.length]?:=by
 intro n
 induction n with
 | zero => intro k h; simp at h
 | succ n ih =>
  intro k h
  rw [Nat.succ_mul] at h
  simp only [rep,List.replicate_succ,List.flatten_cons]
  by_cases hk : k < l.length
  ·rw [List.getElem?_append_left hk,Nat.mod_eq_of_lt hk]
  ·rw [List.getElem?_append_right (by omega)]
   have:=ih (k - l.length) (by omega)
   simp only [rep] at this
   rw [this]
   congr 1
   rw [Nat.mod_eq_sub_mod (a:=k) (by omega)]
theorem ok_mks (R : Rel w0 cl0 S a.tmps w g) {sz bytes : Nat} {z : List D} {x : PX} {op : Op} {av : AV} {rt : Option Rt} {m' : Ms} (hn : (S.ms d).1 = none)
  (hc : chkOp P κ (.mks sz bytes z x) op = true) (h : opf Γ S.ev d S.ms (.mks sz bytes z x) = some (av,rt,m')) (o : Oper) (ho : o.op = op) :
  ∃ v w',(execOp a.eval o).run P w = .ok (.value v) w' ∧ Post w0 cl0 S a.tmps d av rt m' v w':=by
 cases op with
 | makeSlice t ol oc => ?_
 | _ => simp [chkOp] at hc
 simp only [chkOp] at hc
 split at hc
 ·rename_i e he
  split at hc
  ·rename_i zl s1 by' hzl hsb
   obtain ⟨i,zv,hi,hzv,hzc,hzs⟩:=zeroT_some hzl
   simp only [Bool.and_eq_true,decide_eq_true_eq] at hc
   obtain ⟨⟨⟨⟨⟨h1,h2⟩,h3⟩,h4⟩,h5⟩,h6⟩:=hc
   obtain ⟨hl,hg⟩:=chkDs_get z zl h3
   unfold sizeT at hsb
   rw [hi] at hsb
   simp at hsb
   simp only [opf] at h
   split at h
   ·rename_i n hnn
    split at h
    ·rename_i hcond
     obtain ⟨h0,hb⟩:=hcond
     simp at h; obtain ⟨rfl,rfl,rfl⟩:=h
     obtain ⟨k1,hk1⟩:=asInt_ok (chkX_ok R h4).1 hnn
     obtain ⟨k2,hk2⟩:=asInt_ok (chkX_ok R h5).1 hnn
     have hu : P.underlying t = some (.slice e):=by
      unfold elemT at he; split at he <;> simp_all
     have hsz : i.size = sz:=by rw [← hzs,← h1,← hzc]; simp
     have hbb : i.bytes = bytes:=by rw [hsb.2,h2]
     have hb2 : i.bytes * n.toNat ≤ 2 ^ 47:=by rw [hbb,Nat.mul_comm]; exact hb
     have hb3 : (i.bytes : Int) * n ≤ 281474976710656:=by
      have : ((i.bytes * n.toNat : Nat) : Int) ≤ 2 ^ 47:=by exact_mod_cast hb2
      rw [Int.natCast_mul,Int.toNat_of_nonneg h0] at this
      omega
     have hb4 : n.toNat ≤ 2 ^ 47:=Nat.le_trans (Nat.le_mul_of_pos_right _ h6) hb
     have hrun:=run_make (P:=P) w t e i zv hu hi hzv k1 k2 n n h0 (Int.le_refl _) hb3 (by omega)
     have hrun' : (execOp a.eval o).run P w = .ok (.value (.slice (some ⟨w.heap.size,0,none⟩) n.toNat n.toNat)) (w.alloc (.cells (madeCells zv.cells (n.toNat * i.size)) e)):=by
      simp only [execOp,ho,hk1,hk2,Sem.run_bind,hrun,Result.andThen_ok,Sem.run_pure]
     refine ⟨_,_,hrun',?_⟩
     have hpost:=newSlice (d:=d) (a:=a) R hn (w':=w.alloc (.cells (madeCells zv.cells (n.toNat * i.size)) e)) (sz:=sz) (cap:=n.toNat) (es:=List.replicate n.toNat z)
      (vals:=madeCells zv.cells (n.toNat * i.size)) (E:=e) (fun b hb => heap_alloc_old w _ b hb) (by simp) (.alloc _ _) (heap_alloc_new w _)
      (fun l hl' => by rw [List.eq_of_mem_replicate hl']; omega) (by simp) (by rw [size_madeCells,hsz]; exact Nat.le_refl _) (fun q c el dd y he' hd' hy => by
       have hq:=lt_of_get he'
       simp at hq
       rw [List.getElem?_replicate] at he'
       simp [hq] at he'
       subst he'
       have hcz:=lt_of_get hd'
       have hcl : c < zl.length:=by omega
       have hidx : q * sz + c < n.toNat * i.size:=by
        have : (q + 1) * sz ≤ n.toNat * sz:=Nat.mul_le_mul_right _ (by omega)
        rw [Nat.succ_mul] at this
        rw [hsz]; omega
       have hmod : (q * sz + c) % zv.cells.size = c:=by
        rw [hzs,hsz,Nat.mul_comm,Nat.mul_add_mod,Nat.mod_eq_of_lt (by omega)]
       have hzc2 : zv.cells[c]? = zl[c]?:=by rw [← hzc]; simp
       rw [List.getElem?_eq_getElem hcl] at hzc2
       have : y = zl[c]:=by
        simp only [madeCells,Array.getElem?_map,Array.getElem?_range,if_pos hidx,Option.map_some,Option.some.injEq] at hy
        rw [← hy,hmod]
        rw [getElem!_def,hzc2]
       subst this
       exact chkD_hd (hg c dd _ hd' (by simp [hcl])))
     simpa using hpost
    ·cases h
   ·cases h
  ·cases hc
 ·cases hc
end
end Go.Proofs.YtmlinnkaccgcgaaGreat.OM
