/- The own machine: cuts, text, struct values. -/
import Derived.Test.YtmlinnkaccgcgaaGreatOMOp4
import Derived.Laws.BytesArg
import Derived.Laws.BytesString
set_option linter.all false
namespace Go.Proofs.YtmlinnkaccgcgaaGreat.OM
section
variable {P : Program} {κ : Nat → FuncId} {w0 : World} {cl0 : Ini} {S : St} {w : World} {g : Gh} {a : Act} {Γ : Env} {d : Nat}
theorem boundI_some {n : Int} {most k : Nat} (h : boundI n most = some k) : 0 ≤ n ∧ n ≤ most ∧ k = n.toNat:=by
 unfold boundI at h
 split at h
 ·rename_i hh; simp at h; exact ⟨hh.1,hh.2,h.symm⟩
 ·cases h
theorem run_sliceBound {v : Value} {n : Int} {y : Nat} {code : BoundsCode} (hv : ∃ k,v = .int k n) (h0 : 0 ≤ n) (h1 : n ≤ y) :
  (Instr.sliceBound v y code).run P w = .ok n.toNat w:=by
 obtain ⟨k,rfl⟩:=hv
 simp [Instr.sliceBound,asIntOf,h0,h1]
theorem loHi_ok (R : Rel w0 cl0 S a.tmps w g) {len cap : Nat} {lo hi : Option PX} {lo' hi' : Option Operand} {l h : Nat} (hlen : len ≤ cap) (hl : chkO? lo lo' = true) (hh : chkO? hi hi' = true)
  (he : loHi len S.ev lo hi = some (l,h)) (isS : Bool) : l ≤ h ∧ h ≤ len ∧ (Instr.sliceBounds isS len cap (lo'.map a.eval) (hi'.map a.eval) none).run P w = .ok (l,h,cap) w:=by
 unfold loHi at he
 split at he
 ·rename_i h1 hh1
  split at he
  ·rename_i l1 hl1
   simp at he; obtain ⟨rfl,rfl⟩:=he
   have H : h1 ≤ len ∧ ((hi' = none ∧ h1 = len) ∨ ∃ ox,hi' = some ox ∧ ∀ code,(Instr.sliceBound (a.eval ox) cap code).run P w = .ok h1 w):=by
    cases hi with
    | none =>
     cases hi' with
     | none => simp at hh1; subst hh1; exact ⟨Nat.le_refl _,.inl ⟨rfl,rfl⟩⟩
     | some => simp [chkO?] at hh
    | some x =>
     cases hi' with
     | none => simp [chkO?] at hh
     | some ox =>
      simp only [chkO?] at hh
      have e:=(chkX_ok R hh).1
      simp only at hh1
      split at hh1
      ·rename_i n hn
       obtain ⟨b1,b2,b3⟩:=boundI_some hh1
       subst b3
       exact ⟨by omega,.inr ⟨ox,rfl,fun code => run_sliceBound (asInt_ok e hn) b1 (by omega)⟩⟩
      ·cases hh1
   have L : l1 ≤ h1 ∧ ((lo' = none ∧ l1 = 0) ∨ ∃ ox,lo' = some ox ∧ ∀ code,(Instr.sliceBound (a.eval ox) h1 code).run P w = .ok l1 w):=by
    cases lo with
    | none =>
     cases lo' with
     | none => simp at hl1; subst hl1; exact ⟨Nat.zero_le _,.inl ⟨rfl,rfl⟩⟩
     | some => simp [chkO?] at hl
    | some x =>
     cases lo' with
     | none => simp [chkO?] at hl
     | some ox =>
      simp only [chkO?] at hl
      have e:=(chkX_ok R hl).1
      simp only at hl1
      split at hl1
      ·rename_i n hn
       obtain ⟨b1,b2,b3⟩:=boundI_some hl1
       subst b3
       exact ⟨by omega,.inr ⟨ox,rfl,fun code => run_sliceBound (asInt_ok e hn) b1 b2⟩⟩
      ·cases hl1
   refine ⟨L.1,H.1,?_⟩
   rcases H.2 with ⟨rfl,rfl⟩ | ⟨oh,rfl,hH⟩ <;> rcases L.2 with ⟨rfl,rfl⟩ | ⟨ol,rfl,hL⟩
   ·simp [Instr.sliceBounds]
   ·simp [Instr.sliceBounds,hL]
   ·simp [Instr.sliceBounds,hH]
   ·simp [Instr.sliceBounds,hH,hL]
  ·cases he
 ·cases he
theorem run_slice {t e : TypeId} {s by' : Nat} (ht : elemT P t = some e) (hs : sizeT P e = some (s,by')) {v : Option Addr} {len cap l h : Nat} {lo hi : Option Value}
  (hb : (Instr.sliceBounds true len cap lo hi none).run P w = .ok (l,h,cap) w) :
  (Instr.sliceAt t (.slice v len cap) lo hi none).run P w = .ok (slcv (.slice v len cap) s l h) w:=by
 unfold elemT at ht
 split at ht
 ·rename_i e' hu
  simp at ht; subst ht
  unfold sizeT at hs
  split at hs
  ·rename_i i hi
   simp at hs; obtain ⟨rfl,rfl⟩:=hs
   simp [Instr.sliceAt,Instr.slice,run_underlying hu,hb,sizeOf,typeInfo,hi,slcv]
  ·cases hs
 ·cases ht
theorem ro_slice {k : Bool} {sz : Nat} {es : List (List D)} {b : Option Addr} {len cap l h : Nat} (hr : RO w g.cl k (.sl sz es) (.slice b len cap)) (h1 : l ≤ h) (h2 : h ≤ es.length) :
  len = es.length ∧ RO w g.cl k (.sl sz (cut es l h)) (slcv (.slice b len cap) sz l h):=by
 have hlen : (cut es l h).length = h - l:=by simp [cut]; omega
 cases hr with
 | emp =>
  obtain rfl : h = 0:=by simpa using h2
  obtain rfl : l = 0:=by omega
  refine ⟨rfl,?_⟩
  simp only [cut,slcv,List.take_nil,List.drop_nil,Nat.sub_self]
  exact .emp _ _ _
 | sl _ _ b off _ hcl hl hcap hcs hk =>
  refine ⟨rfl,?_⟩
  by_cases hz : h = l
  ·subst hz
   have : cut es h h = []:=List.eq_nil_of_length_eq_zero (by omega)
   rw [this]
   simp only [slcv,Nat.sub_self]
   exact .emp _ _ _
  ·have hne : cap ≠ l:=by omega
   simp only [slcv,if_neg hne,Option.map_some,Addr.add_lit]
   rw [← hlen]
   refine .sl _ _ b (off + l * sz) _ hcl (fun e he => hl e (List.mem_of_mem_take (List.mem_of_mem_drop he))) (by omega) (fun i j hi hj => ?_) (fun i j e d x he hd hx => ?_)
   ·have:=hcs (l + i) j (by omega) hj
    rwa [show off + (l + i) * sz + j = off + l * sz + i * sz + j from by rw [Nat.add_mul]; omega] at this
   ·have hi:=lt_of_get he
    simp only [cut,List.getElem?_drop] at he
    rw [List.getElem?_take_of_lt (by omega)] at he
    refine hk (l + i) j e d x he hd ?_
    rwa [show off + (l + i) * sz + j = off + l * sz + i * sz + j from by rw [Nat.add_mul]; omega]
theorem ok_slc (R : Rel w0 cl0 S a.tmps w g) {sz0 : Nat} {x : PX} {lo hi : Option PX} {op : Op} {av : AV} {rt : Option Rt} {m' : Ms}
  (hc : chkOp P κ (.slc sz0 x lo hi) op = true) (h : opf Γ S.ev d S.ms (.slc sz0 x lo hi) = some (av,rt,m')) : PureOk P S w g a av rt m' op:=by
 cases op with
 | slice t ox lo' hi' mx => ?_
 | _ => simp [chkOp] at hc
 simp only [chkOp,Bool.and_eq_true] at hc
 obtain ⟨⟨⟨⟨hm,hcx⟩,hcl⟩,hch⟩,hc⟩:=hc
 obtain rfl : mx = none:=by cases mx <;> simp_all
 have e1:=chkX_ok R hcx
 split at hc
 ·rename_i e he
  split at hc
  ·rename_i s by' hs
   simp at hc; subst hc
   simp only [opf] at h
   split at h
   ·rename_i k sz es hx
    split at h
    ·rename_i l hh hlh
     split at h
     ·rename_i hsz
      subst hsz
      simp at h; obtain ⟨rfl,rfl,rfl⟩:=h
      refine ⟨rfl,rfl,fun o ho => ?_⟩
      rw [hx] at e1
      obtain ⟨h1,h2⟩:=e1
      generalize hv : a.eval ox = v at h1
      cases h1 with
      | v _ _ _ hro =>
       obtain ⟨b,n,c,rfl,hnc⟩ : ∃ b n c,v = .slice b n c ∧ n ≤ c:=by
        cases hro with
        | emp => exact ⟨_,_,_,rfl,Nat.zero_le _⟩
        | sl _ _ _ _ _ _ _ hcap => exact ⟨_,_,_,rfl,hcap⟩
       have hle:=loHi_ok (P:=P) R (cap:=c) (by
        have : n = es.length:=by
         cases hro with
         | emp => rfl
         | sl => rfl
        omega) hcl hch hlh true
       obtain ⟨hn,hr2⟩:=ro_slice hro hle.1 hle.2.1
       subst hn
       refine ⟨_,?_,.v _ _ _ hr2,live_v⟩
       have hr3:=run_slice he hs (v:=b) hle.2.2
       simp [execOp,ho,hv,hr3]
     ·cases h
    ·cases h
   ·rename_i sz hx
    split at h
    ·rename_i lh hlh
     obtain ⟨l,hh⟩:=lh
     simp at h; obtain ⟨rfl,rfl,rfl⟩:=h
     refine ⟨rfl,rfl,fun o ho => ?_⟩
     rw [hx] at e1
     obtain ⟨h1,h2⟩:=e1
     generalize hv : a.eval ox = v at h1
     cases h1 with
     | nl =>
      have hle:=loHi_ok (P:=P) R (cap:=0) (Nat.le_refl _) hcl hch hlh true
      have hr3:=run_slice he hs (v:=none) hle.2.2
      obtain rfl : hh = 0:=by omega
      obtain rfl : l = 0:=by omega
      refine ⟨.slice none 0 0,?_,.nl _,fun r hr => by simp [AV.refs] at hr⟩
      simp [execOp,ho,hv,hr3,slcv]
    ·cases h
   ·rename_i r j p hx
    split at h
    ·rename_i sz es hat
     split at h
     ·rename_i l hh hlh
      split at h
      ·rename_i hsz
       subst hsz
       simp at h; obtain ⟨rfl,rfl,rfl⟩:=h
       refine ⟨rfl,rfl,fun o ho => ?_⟩
       rw [hx] at e1
       obtain ⟨h1,h2⟩:=e1
       generalize hv : a.eval ox = v at h1
       cases h1 with
       | pl _ _ _ b1 n1 c1 hh1 =>
        obtain ⟨hkl,rt1,d0,hrt,_⟩:=at_some hat
        obtain ⟨x0,hw0⟩:=R.at hat
        have hve:=hh1 hkl
        have hxe:=hw0.hd_eq
        subst hxe
        obtain ⟨b,n,c,hg,hnc,hne⟩ : ∃ b n c,g.hd (r + 1) j p = .slice b n c ∧ n ≤ c ∧ n = es.length:=by
         generalize g.hd (r + 1) j p = v0 at hw0
         cases hw0 with
         | nil => exact ⟨_,_,_,rfl,Nat.le_refl _,rfl⟩
         | sl _ _ _ b off cap => exact ⟨_,_,_,rfl,by assumption,rfl⟩
        have hle:=loHi_ok (P:=P) R (cap:=c) (by omega) hcl hch hlh true
        subst hne
        have hr3:=run_slice he hs (v:=b) hle.2.2
        rw [hg] at hve
        refine ⟨slcv (.slice b es.length c) sz l hh,?_,.rg _ _ _ _ _ _ _ _ _ fun _ => by rw [hg]; rfl,fun r1 hr => ?_⟩
        ·simp [execOp,ho,hv,hve,hr3]
        ·simp [AV.refs] at hr; subst hr; exact isSome_of hrt
      ·cases h
     ·cases h
    ·cases h
   ·cases h
  ·cases hc
 ·cases hc
theorem bytesStr_some : ∀ (es : List (List D)) {bs : List UInt8},bytesStr es = some bs →
  ∃ ns : List Int,es = ns.map (fun n => [D.int .u8 n]) ∧ bs = ns.map (fun n => UInt8.ofNat n.toNat):=by
 intro es
 induction es with
 | nil => intro bs h; simp [bytesStr] at h; subst h; exact ⟨[],rfl,rfl⟩
 | cons e es ih =>
  intro bs h
  unfold bytesStr at h
  split at h
  ·rename_i h1; cases h1
  ·rename_i n l h1
   cases h1
   split at h
   ·rename_i bs' h2
    simp at h; subst h
    obtain ⟨ns,h3,h4⟩:=ih h2
    exact ⟨n :: ns,by simp [h3],by simp [h4]⟩
   ·cases h
  ·cases h
theorem ok_cvs (R : Rel w0 cl0 S a.tmps w g) {x : PX} {op : Op} {av : AV} {rt : Option Rt} {m' : Ms}
  (hc : chkOp P κ (.cvs x) op = true) (h : opf Γ S.ev d S.ms (.cvs x) = some (av,rt,m')) : PureOk P S w g a av rt m' op:=by
 cases op with
 | convert src dst ox => ?_
 | _ => simp [chkOp] at hc
 simp only [chkOp,Bool.and_eq_true] at hc
 obtain ⟨hcx,hc⟩:=hc
 have e1:=(chkX_ok R hcx).1
 simp only [opf] at h
 split at h
 ·rename_i sz es hes
  split at h
  ·rename_i bs hbs
   simp at h; obtain ⟨rfl,rfl,rfl⟩:=h
   refine ⟨rfl,rfl,fun o ho => ?_⟩
   split at hc
   ·rename_i e hs hd
    have he : P.underlying e = some (.int .u8):=by
     cases hu : P.underlying e with
     | none => simp [hu] at hc
     | some u =>
      cases u with
      | int k => cases k <;> simp [hu] at hc ⊢
      | _ => simp [hu] at hc
    obtain ⟨b,cap,hv,_,hcells⟩:=els_ok R e1 hes
    obtain ⟨ns,rfl,rfl⟩:=bytesStr_some es hbs
    refine ⟨.string (strOfNums ns),?_,.v _ _ _ (.str _),live_v⟩
    cases ns with
    | nil =>
     cases b with
     | none =>
      have:=run_convert_bytes_nil (P:=P) w src e hs he 0 cap dst hd
      simp only [execOp,ho,hv,Sem.run_bind,List.map_nil,List.length_nil,this,Result.andThen_ok,Sem.run_pure]
      rfl
     | some a1 =>
      obtain ⟨b1,o1,s1⟩:=a1
      have hl : (loadCells ⟨b1,o1,s1⟩ 0).run P w = .ok (([] : List Int).map (Value.int .u8)).toArray w:=by simp [loadCells,loadCellsFrom]
      have h1:=run_convert_bytes_string w src dst e (some ⟨b1,o1,s1⟩) 0 cap hs he hd
      have h2:=run_bytesToString w ⟨b1,o1,s1⟩ 0 cap [] hl
      simp only [execOp,ho,hv,Sem.run_bind,List.map_nil,List.length_nil,h1,h2,Result.andThen_ok,Sem.run_pure]
      rfl
    | cons n ns =>
     obtain ⟨b',o',rfl,_,hlen,hcell⟩:=hcells (by simp)
     have hsz : sz = 1:=by have:=hlen [D.int .u8 n] (by simp); simpa using this.symm
     subst hsz
     have:=run_convert_bytes_arg (P:=P) w src e hs he b' o' (n :: ns).length cap (n :: ns) rfl (fun i hi => by
      have hg : ((n :: ns).map fun n => [D.int .u8 n])[i]? = some [D.int .u8 ((n :: ns).getD i 0)]:=by
       rw [List.getElem?_map,List.getElem?_eq_getElem hi]; simp [List.getD,List.getElem?_eq_getElem hi]
      obtain ⟨x,hx,hx2⟩:=hcell i 0 _ _ hg rfl
      have hxv : x = .int .u8 ((n :: ns).getD i 0):=by
       rcases hx2 with ⟨k,h⟩ | ⟨_,_,_,h⟩ <;> cases h <;> rfl
      rw [← hxv]; simpa using hx) dst hd
     simp only [execOp,ho,hv,Sem.run_bind,List.length_map,this,Result.andThen_ok,Sem.run_pure]
   ·cases hc
  ·cases h
 ·cases h
end
end Go.Proofs.YtmlinnkaccgcgaaGreat.OM
