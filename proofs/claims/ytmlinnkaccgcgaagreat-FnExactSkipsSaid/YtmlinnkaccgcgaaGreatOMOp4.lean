/- The own machine: addresses, cuts, conversions. -/
import Derived.Test.YtmlinnkaccgcgaaGreatOMOp3
set_option linter.all false
namespace Go.Proofs.YtmlinnkaccgcgaaGreat.OM
section
variable {P : Program} {κ : Nat → FuncId} {w0 : World} {cl0 : Ini} {S : St} {w : World} {g : Gh} {a : Act} {Γ : Env} {d : Nat}
theorem run_fieldAt {t : TypeId} {f off s : Nat} (hf : fieldT P t f = some (off,s)) (hs : s ≠ 0) (b o : Nat) :
  (Instr.fieldAt t (.pointer (some ⟨b,o,none⟩)) f).run P w = .ok (.pointer (some ⟨b,o + off,none⟩)) w:=by
 unfold fieldT at hf
 split at hf
 ·rename_i fs hu
  split at hf
  ·rename_i fd hfd
   split at hf
   ·rename_i i hi
    simp at hf; obtain ⟨rfl,rfl⟩:=hf
    simp [Instr.fieldAt,run_underlying hu,hfd,Instr.sureAddr,fieldPlace,sizeOf,typeInfo,hi,hs,Addr.add_lit]
   ·cases hf
  ·cases hf
 ·cases hf
theorem ok_fad (R : Rel w0 cl0 S a.tmps w g) {x : PX} {off : Nat} {op : Op} {av : AV} {rt : Option Rt} {m' : Ms}
  (hc : chkOp P κ (.fad x off) op = true) (h : opf Γ S.ev d S.ms (.fad x off) = some (av,rt,m')) : PureOk P S w g a av rt m' op:=by
 cases op with
 | fieldAddr t ox f => ?_
 | _ => simp [chkOp] at hc
 simp only [chkOp] at hc
 split at hc
 ·rename_i off' s hf
  simp only [Bool.and_eq_true,beq_iff_eq,bne_iff_ne,ne_eq] at hc
  obtain ⟨⟨rfl,hc⟩,hs⟩:=hc
  have e1:=chkX_ok R hc
  simp only [opf] at h
  split at h
  ·rename_i r j hx
   simp at h; obtain ⟨rfl,rfl,rfl⟩:=h
   refine ⟨rfl,rfl,fun o ho => ?_⟩
   rw [hx] at e1
   obtain ⟨h1,h2⟩:=e1
   generalize hv : a.eval ox = v at h1
   cases h1 with
   | bx => exact ⟨_,by simp [execOp,ho,hv,run_fieldAt hf hs],.bx _ _,h2⟩
  ·rename_i r j p sz i c hx
   simp at h; obtain ⟨rfl,rfl,rfl⟩:=h
   refine ⟨rfl,rfl,fun o ho => ?_⟩
   rw [hx] at e1
   obtain ⟨h1,h2⟩:=e1
   generalize hv : a.eval ox = v at h1
   cases h1 with
   | ad _ _ _ _ _ _ b o1 hh =>
    refine ⟨_,by simp [execOp,ho,hv,run_fieldAt hf hs],.ad _ _ _ _ _ _ b (o1 + off) fun hk => ?_,h2⟩
    have:=hh hk
    unfold adv at this ⊢
    split at this
    ·simp at this; simp [this]; omega
    ·cases this
  ·rename_i k sz es i c hx
   simp at h; obtain ⟨rfl,rfl,rfl⟩:=h
   refine ⟨rfl,rfl,fun o ho => ?_⟩
   rw [hx] at e1
   obtain ⟨h1,h2⟩:=e1
   generalize hv : a.eval ox = v at h1
   cases h1 with
   | ra _ _ _ _ _ b off1 cap hro hi =>
    exact ⟨_,by simp only [execOp,ho,hv,Sem.run_bind,run_fieldAt hf hs,Result.andThen_ok,Sem.run_pure]; rw [Nat.add_assoc],.ra _ _ _ _ _ b off1 cap hro hi,h2⟩
  ·cases h
 ·cases hc
theorem run_indexAt {t e : TypeId} {s by' : Nat} (ht : elemT P t = some e) (hs : sizeT P e = some (s,by')) {k : IntKind} {n : Int} {b o len cap : Nat}
  (h0 : 0 ≤ n) (h1 : n < len) : (Instr.indexAt t (.slice (some ⟨b,o,none⟩) len cap) (.int k n)).run P w = .ok (.pointer (some ⟨b,o + n.toNat * s,none⟩)) w:=by
 unfold elemT at ht
 split at ht
 ·rename_i e' hu
  simp at ht; subst ht
  unfold sizeT at hs
  split at hs
  ·rename_i i hi
   simp at hs; obtain ⟨rfl,rfl⟩:=hs
   simp [Instr.indexAt,asIntOf,run_underlying hu,h0,h1,sizeOf,typeInfo,hi,Addr.add_lit]
  ·cases hs
 ·cases ht
theorem ok_iad (R : Rel w0 cl0 S a.tmps w g) {sz : Nat} {x i : PX} {op : Op} {av : AV} {rt : Option Rt} {m' : Ms}
  (hc : chkOp P κ (.iad sz x i) op = true) (h : opf Γ S.ev d S.ms (.iad sz x i) = some (av,rt,m')) : PureOk P S w g a av rt m' op:=by
 cases op with
 | indexAddr t ox oi => ?_
 | _ => simp [chkOp] at hc
 simp only [chkOp] at hc
 split at hc
 ·rename_i e he
  split at hc
  ·rename_i s by' hs
   simp only [Bool.and_eq_true,beq_iff_eq] at hc
   obtain ⟨⟨rfl,hcx⟩,hci⟩:=hc
   have e1:=chkX_ok R hcx
   have e2:=chkX_ok R hci
   simp only [opf] at h
   split at h
   ·rename_i n hn
    obtain ⟨k,hk⟩:=asInt_ok e2.1 hn
    split at h
    ·rename_i kk sz' es hx
     split at h
     ·rename_i hcond
      obtain ⟨h0,h1,rfl⟩:=hcond
      simp at h; obtain ⟨rfl,rfl,rfl⟩:=h
      refine ⟨rfl,rfl,fun o ho => ?_⟩
      rw [hx] at e1
      obtain ⟨h2,h3⟩:=e1
      generalize hv : a.eval ox = v at h2
      cases h2 with
      | v _ _ _ hro =>
       cases hro with
       | emp => simp at h1; omega
       | sl _ _ b off cap hcl hl hcap hcs hk2 =>
        refine ⟨.pointer (some ⟨b,off + n.toNat * sz' + 0,none⟩),?_,.ra _ _ _ _ 0 b off cap (.sl _ _ b off cap hcl hl hcap hcs hk2) (by omega),fun r hr => by simp [AV.refs] at hr⟩
        simp only [execOp,ho,hv,hk,Sem.run_bind,run_indexAt he hs h0 h1,Result.andThen_ok,Sem.run_pure,Nat.add_zero]
     ·cases h
    ·rename_i r j p hx
     split at h
     ·rename_i sz' es hat
      split at h
      ·rename_i hcond
       obtain ⟨h0,h1,rfl⟩:=hcond
       simp at h; obtain ⟨rfl,rfl,rfl⟩:=h
       refine ⟨rfl,rfl,fun o ho => ?_⟩
       rw [hx] at e1
       obtain ⟨h2,h3⟩:=e1
       generalize hv : a.eval ox = v at h2
       cases h2 with
       | pl _ _ _ _ _ _ hh =>
        obtain ⟨hkl,rt1,d0,hrt,_⟩:=at_some hat
        obtain ⟨x0,hw0⟩:=R.at hat
        have hve:=hh hkl
        have hxe:=hw0.hd_eq
        subst hxe
        generalize hg : g.hd (r + 1) j p = v0 at hw0 hve
        cases hw0 with
        | nil => simp at h1; omega
        | sl _ _ _ b off cap vals E hhd hcl hl hcap hhp hN hkids =>
         rw [hve] at hv
         refine ⟨.pointer (some ⟨b,off + n.toNat * sz',none⟩),?_,.ad _ _ _ _ _ _ b _ fun _ => ?_,fun r1 hr => ?_⟩
         ·simp only [execOp,ho,hv,hk,Sem.run_bind,run_indexAt he hs h0 h1,Result.andThen_ok,Sem.run_pure]
         ·simp [hg,adv]
         ·simp [AV.refs] at hr; subst hr; exact isSome_of hrt
      ·cases h
     ·cases h
    ·rename_i r j p sz' lo hi hx
     split at h
     ·rename_i es hcut
      split at h
      ·rename_i hcond
       obtain ⟨h0,h1,rfl⟩:=hcond
       simp at h; obtain ⟨rfl,rfl,rfl⟩:=h
       refine ⟨rfl,rfl,fun o ho => ?_⟩
       obtain ⟨es0,hat,hlo,hhi,rfl⟩:=cutD_some hcut
       rw [hx] at e1
       obtain ⟨h2,h3⟩:=e1
       generalize hv : a.eval ox = v at h2
       have hlen : ((es0.take hi).drop lo).length = hi - lo:=by simp; omega
       rw [hlen] at h1
       cases h2 with
       | rg _ _ _ _ _ _ _ _ _ hh =>
        obtain ⟨hkl,rt1,d0,hrt,_⟩:=at_some hat
        obtain ⟨x0,hw0⟩:=R.at hat
        have hve:=hh hkl
        have hxe:=hw0.hd_eq
        subst hxe
        generalize hg : g.hd (r + 1) j p = v0 at hw0 hve
        cases hw0 with
        | nil => simp at hhi; omega
        | sl _ _ _ b off cap vals E hhd hcl hl hcap hhp hN hkids =>
         have hne : cap ≠ lo:=by omega
         simp only [slcv,if_neg hne,Option.map_some,Addr.add_lit] at hve
         rw [hve] at hv
         refine ⟨.pointer (some ⟨b,off + lo * sz' + n.toNat * sz',none⟩),?_,.ad _ _ _ _ _ _ b _ fun _ => ?_,fun r1 hr => ?_⟩
         ·simp only [execOp,ho,hv,hk,Sem.run_bind,run_indexAt he hs h0 h1,Result.andThen_ok,Sem.run_pure]
         ·simp [hg,adv,Nat.add_mul]; omega
         ·simp [AV.refs] at hr; subst hr; exact isSome_of hrt
      ·cases h
     ·cases h
    ·cases h
   ·cases h
  ·cases hc
 ·cases hc
theorem ok_ext (R : Rel w0 cl0 S a.tmps w g) {x : PX} {k : Nat} {op : Op} {av : AV} {rt : Option Rt} {m' : Ms}
  (hc : chkOp P κ (.ext x k) op = true) (h : opf Γ S.ev d S.ms (.ext x k) = some (av,rt,m')) : PureOk P S w g a av rt m' op:=by
 cases op with
 | extract ox k' => ?_
 | _ => simp [chkOp] at hc
 simp only [chkOp,Bool.and_eq_true,beq_iff_eq] at hc
 obtain ⟨hc,rfl⟩:=hc
 have e1:=chkX_ok R hc
 simp only [opf] at h
 split at h
 ·rename_i cs hx
  split at h
  ·rename_i a1 ha1
   simp at h; obtain ⟨rfl,rfl,rfl⟩:=h
   refine ⟨rfl,rfl,fun o ho => ?_⟩
   rw [hx] at e1
   obtain ⟨h1,h2⟩:=e1
   generalize hv : a.eval ox = v at h1
   cases h1 with
   | tup _ vs hl hra =>
    have hlt:=lt_of_get ha1
    have hg : vs[k]? = some vs[k]:=by simp [show k < vs.size from by omega]
    exact ⟨vs[k],by simp [execOp,ho,hv,Instr.extract,hg],hra k a1 _ ha1 hg,fun r hr => h2 r (by simpa [AV.refs] using mem_refsL ha1 hr)⟩
  ·cases h
 ·cases h
theorem ok_cvi (R : Rel w0 cl0 S a.tmps w g) {x : PX} {k : IntKind} {op : Op} {av : AV} {rt : Option Rt} {m' : Ms}
  (hc : chkOp P κ (.cvi k x) op = true) (h : opf Γ S.ev d S.ms (.cvi k x) = some (av,rt,m')) : PureOk P S w g a av rt m' op:=by
 cases op with
 | convert s t ox => ?_
 | _ => simp [chkOp] at hc
 simp only [chkOp,Bool.and_eq_true] at hc
 obtain ⟨hcx,hc⟩:=hc
 have e1:=chkX_ok R hcx
 simp only [opf] at h
 split at h
 ·rename_i kk k1 n hx
  simp at h; obtain ⟨rfl,rfl,rfl⟩:=h
  refine ⟨rfl,rfl,fun o ho => ?_⟩
  rw [hx] at e1
  have hv:=ra_int e1.1
  split at hc
  ·rename_i u1 k' h1 h2
   simp at hc; subst hc
   refine ⟨.int k (k.wrap n),?_,.v _ _ _ (.int _ _),live_v⟩
   simp [execOp,ho,hv,convert,run_underlying h1,run_underlying h2,Conv.intToInt]
  ·cases hc
 ·cases h
theorem ok_idx (R : Rel w0 cl0 S a.tmps w g) {x i : PX} {op : Op} {av : AV} {rt : Option Rt} {m' : Ms}
  (hc : chkOp P κ (.idx x i) op = true) (h : opf Γ S.ev d S.ms (.idx x i) = some (av,rt,m')) : PureOk P S w g a av rt m' op:=by
 cases op with
 | index t ox oi => ?_
 | _ => simp [chkOp] at hc
 simp only [chkOp,Bool.and_eq_true] at hc
 obtain ⟨⟨hcx,hci⟩,hc⟩:=hc
 have e1:=chkX_ok R hcx
 have e2:=chkX_ok R hci
 simp only [opf] at h
 split at h
 ·rename_i kk s n hx hn
  split at h
  ·rename_i h0
   split at h
   ·rename_i b hb
    simp at h; obtain ⟨rfl,rfl,rfl⟩:=h
    refine ⟨rfl,rfl,fun o ho => ?_⟩
    rw [hx] at e1
    have hv:=ra_str e1.1
    obtain ⟨k,hk⟩:=asInt_ok e2.1 hn
    cases hu : P.underlying t with
    | none => simp [hu] at hc
    | some u =>
     cases u <;> simp [hu] at hc
     have hgs : s[n.toNat]? = some b:=by
      rw [ByteArray.toList_eq] at hb
      have hlt:=lt_of_get hb
      rw [List.getElem?_eq_getElem hlt] at hb
      have hlt' : n.toNat < s.size:=by simpa using hlt
      rw [getElem?_pos s n.toNat hlt']
      have hd : s[n.toNat] = s.data[n.toNat]:=rfl
      rw [hd]
      simpa using hb
     refine ⟨.int .u8 b.toNat,?_,.v _ _ _ (.int _ _),live_v⟩
     simp [execOp,ho,hv,hk,Instr.index,asIntOf,run_underlying hu,h0,hgs]
   ·cases h
  ·cases h
 ·cases h
theorem ok_mn (R : Rel w0 cl0 S a.tmps w g) {x y : PX} {op : Op} {av : AV} {rt : Option Rt} {m' : Ms}
  (hc : chkOp P κ (.mn x y) op = true) (h : opf Γ S.ev d S.ms (.mn x y) = some (av,rt,m')) : PureOk P S w g a av rt m' op:=by
 cases op with
 | call c => ?_
 | _ => simp [chkOp] at hc
 simp only [chkOp] at hc
 split at hc
 ·rename_i a1 a2 hcal hargs
  simp only [Bool.and_eq_true] at hc
  obtain ⟨h1,h2⟩:=hc
  have e1:=(chkX_ok R h1).1
  have e2:=(chkX_ok R h2).1
  simp only [opf] at h
  split at h
  ·rename_i k1 ka na k2 kb nb hx hy
   simp at h; obtain ⟨rfl,rfl,rfl⟩:=h
   refine ⟨rfl,rfl,fun o ho => ?_⟩
   obtain ⟨cs,hx'⟩:=call_builtin (a:=a) hcal hargs rfl ho
   rw [hx] at e1; rw [hy] at e2
   rw [hx']
   refine ⟨_,?_,.v _ _ _ (.int _ _),live_v⟩
   simp [builtin,Builtin.min_,ra_int e1,ra_int e2,Builtin.min2]
  ·cases h
 ·cases hc
theorem ok_mx (R : Rel w0 cl0 S a.tmps w g) {x y : PX} {op : Op} {av : AV} {rt : Option Rt} {m' : Ms}
  (hc : chkOp P κ (.mx x y) op = true) (h : opf Γ S.ev d S.ms (.mx x y) = some (av,rt,m')) : PureOk P S w g a av rt m' op:=by
 cases op with
 | call c => ?_
 | _ => simp [chkOp] at hc
 simp only [chkOp] at hc
 split at hc
 ·rename_i a1 a2 hcal hargs
  simp only [Bool.and_eq_true] at hc
  obtain ⟨h1,h2⟩:=hc
  have e1:=(chkX_ok R h1).1
  have e2:=(chkX_ok R h2).1
  simp only [opf] at h
  split at h
  ·rename_i k1 ka na k2 kb nb hx hy
   simp at h; obtain ⟨rfl,rfl,rfl⟩:=h
   refine ⟨rfl,rfl,fun o ho => ?_⟩
   obtain ⟨cs,hx'⟩:=call_builtin (a:=a) hcal hargs rfl ho
   rw [hx] at e1; rw [hy] at e2
   rw [hx']
   refine ⟨_,?_,.v _ _ _ (.int _ _),live_v⟩
   simp [builtin,Builtin.max_,ra_int e1,ra_int e2,Builtin.max2]
  ·cases h
 ·cases hc
end
end Go.Proofs.YtmlinnkaccgcgaaGreat.OM
