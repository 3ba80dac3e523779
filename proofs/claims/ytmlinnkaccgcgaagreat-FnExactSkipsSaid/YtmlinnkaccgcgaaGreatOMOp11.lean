/- The own machine: the append operation. -/
import Derived.Test.YtmlinnkaccgcgaaGreatOMOp10
set_option linter.all false
namespace Go.Proofs.YtmlinnkaccgcgaaGreat.OM
section
variable {P : Program} {κ : Nat → FuncId} {w0 : World} {cl0 : Ini} {S : St} {w : World} {g : Gh} {a : Act} {Γ : Env} {d : Nat}
theorem newNil (R : Rel w0 cl0 S a.tmps w g) (hn : (S.ms d).1 = none) (sz : Nat) :
  Post w0 cl0 S a.tmps d (.pl d 0 []) (some (.vir [.own (.sl sz [])])) S.ms (.slice none 0 0) w:=by
 let g' : Gh:={ g with hd:=fun r j ρ => if r = d + 1 then .slice none 0 0 else g.hd r j ρ }
 have H : NewR d w w g g':={ NewR.refl d w g with hd:=fun n j ρ hn => by simp [g',hn] }
 refine ⟨g',R.fresh hn H (fun j c hj => ?_) (fun j r1 j1 hj => by cases j <;> simp [Rt.cells] at hj),.pl _ _ _ _ _ _ fun _ => by simp [g'],fun r hr => by simp [AV.refs] at hr; subst hr; simp [upd]⟩
 cases j with
 | succ j => simp at hj
 | zero =>
  simp at hj; subst hj
  have : g'.hd (d + 1) 0 [] = .slice none 0 0:=by simp [g']
  rw [this]
  exact .own _ _ (.nil _ _ this)
theorem app_core (R : Rel w0 cl0 S a.tmps w g) (hn : (S.ms d).1 = none) {t u ty e : TypeId} {i : TypeInfo} {zv : Value} {sz bytes : Nat} (hu1 : P.underlying t = some (.slice e))
  (hi : P.info? e = some i) (hz : i.zero = some zv) (hsz : i.size = sz) (hby : i.bytes = bytes) (hzs : zv.cells.size = i.size) (hpos : 0 < sz) (hbpos : 0 < bytes)
  {es ys : List (List D)} {vx vy : Value} (hx : OW w g 0 0 [] (.sl sz es) vx) (hfit : (es.length + ys.length) * bytes ≤ 2 ^ 46)
  (hy : ∃ (news : List Value),((P.underlying u = some (.slice e) ∧ ∃ b cap,vy = .slice b ys.length cap) ∨ (P.underlying u = some .string ∧ ∃ s : ByteArray,vy = .string s ∧ s.size = ys.length)) ∧ (∀ e ∈ ys,e.length = sz) ∧ news.length = ys.length * sz ∧
   (∀ w1 : World,w1.heap = w.heap → (Builtin.firstCells sz ys.length vy).run P w1 = .ok news.toArray w1) ∧ (∀ x ∈ news,x.oneCell' = true) ∧
   ∀ (i c : Nat) (e : List D) (d : D) (x : Value),ys[i]? = some e → e[c]? = some d → news[i * sz + c]? = some x → OW w g 0 1 [(i,c)] d x) :
  ∃ v w',(Builtin.append_ #[t,u] ty #[vx,vy]).run P w = .ok v w' ∧ Post w0 cl0 S a.tmps d (.pl d 0 []) (some (.vir [.own (.sl sz (es ++ ys))])) S.ms v w':=by
 obtain ⟨news,hvy,hyl,hnl,hf,hone,hyo⟩:=hy
 subst hsz hby
 have hlen2 : es.length + ys.length ≤ 2 ^ 62:=by
  have : (es.length + ys.length) * 1 ≤ (es.length + ys.length) * i.bytes:=Nat.mul_le_mul_left _ hbpos
  omega
 have hxe:=hx.hd_eq
 cases hx with
 | nil _ _ hnl0 =>
  have hr:=append_run P (ty:=ty) (E0:=e) hu1 hi hz hvy hf hnl hone none 0 0 (.inl ⟨rfl,rfl,rfl⟩) (by simpa using hfit) (by simpa using hlen2)
  rcases hr with ⟨b,off,vals,w',vals',h,_⟩ | ⟨_,hn0,hrun⟩ | ⟨cap,vals',w',olds,h1,hrun,hw',hs',hsd,hp,h5,h6,h7,h8,h9⟩
  ·cases h
  ·have : ys = []:=List.eq_nil_of_length_eq_zero hn0
   subst this
   exact ⟨_,_,hrun,by simpa using newNil R hn i.size⟩
  ·refine ⟨_,_,hrun,?_⟩
   have hpost:=appRoot (d:=d) (a:=a) R hn (w':=w') (sz:=i.size) (b:=w.heap.size) (off:=0) (cap:=cap) (es:=[]) (ys:=ys) (vals:=vals') (E:=e) (.inr ⟨Nat.le_refl _,by omega⟩)
    (fun k hk _ => hp k hk) (by omega) hsd hw' (by simpa using hyl) (by simpa using h1) (by rw [Nat.zero_add,h8 hzs]; exact Nat.le_refl _) (by simp) (fun q c el dd x he hd hx => by
     have hq:=lt_of_get he
     have hc:=get_len hyl he
     have hcl:=lt_of_get hd
     have hk : q * i.size + c < ys.length * i.size:=by
      have:=idx_lt (off:=0) (cap:=ys.length) (N:=ys.length * i.size) hq (show c < i.size by omega) (Nat.le_refl _) (by omega); omega
     have:=h7 _ hk
     simp only [Nat.zero_mul,Nat.zero_add,List.length_nil] at this hx
     rw [this] at hx
     exact .inr (hyo q c el dd x he hd hx))
   simpa using hpost
 | sl _ _ _ b off cap vals E hhd hcl hl hcap hw hN hkids =>
  have hr:=append_run P (ty:=ty) (E0:=E) hu1 hi hz hvy hf hnl hone (some ⟨b,off,none⟩) es.length cap (.inr ⟨b,off,vals,rfl,hcap,hw,hN⟩) hfit hlen2
  have hall : ∀ el ∈ es ++ ys,el.length = i.size:=by
   intro el hel
   rcases List.mem_append.1 hel with h | h
   ·exact hl el h
   ·exact hyl el h
  rcases hr with ⟨b',off',vals1,w',vals',h,hroom,hw1,hN1,hrun,hw',hs',hget,hother,hsize,hsd⟩ | ⟨h,_,_⟩ | ⟨cap',vals',w',olds,h1,hrun,hw',hs',hsd,hp,h5,h6,h7,h8,h9⟩
  ·cases h
   rw [hw] at hw1; cases hw1
   refine ⟨_,_,hrun,?_⟩
   have hpost:=appRoot (d:=d) (a:=a) R hn (w':=w') (sz:=i.size) (b:=b) (off:=off) (cap:=cap) (es:=es) (ys:=ys) (vals:=vals') (E:=E) (.inl hcl)
    (fun k _ hk => hother k hk) (by omega) hsd hw' hall (by simp; omega) (by omega) (fun q c el dd x he hd hx => by
     have hq:=lt_of_get he
     have hcs:=get_len hl he
     have hcl2:=lt_of_get hd
     have hk : q * i.size + c < es.length * i.size:=by
      have:=idx_lt (off:=0) (cap:=es.length) (N:=es.length * i.size) hq (show c < i.size by omega) (Nat.le_refl _) (by omega); omega
     rw [hget,if_neg (by omega)] at hx
     exact hkids q c el dd x he hd hx) (fun q c el dd x he hd hx => by
     have hq:=lt_of_get he
     have hcs:=get_len hyl he
     have hcl2:=lt_of_get hd
     have hk : q * i.size + c < ys.length * i.size:=by
      have:=idx_lt (off:=0) (cap:=ys.length) (N:=ys.length * i.size) hq (show c < i.size by omega) (Nat.le_refl _) (by omega); omega
     rw [Nat.add_mul,hget,if_pos (by omega)] at hx
     refine .inr (hyo q c el dd x he hd ?_)
     rw [← hx]; congr 1; omega)
   simpa using hpost
  ·cases h
  ·refine ⟨_,_,hrun,?_⟩
   have hpost:=appRoot (d:=d) (a:=a) R hn (w':=w') (sz:=i.size) (b:=w.heap.size) (off:=0) (cap:=cap') (es:=es) (ys:=ys) (vals:=vals') (E:=e) (.inr ⟨Nat.le_refl _,by omega⟩)
    (fun k hk _ => hp k hk) (by omega) hsd hw' hall (by simpa using h1) (by rw [Nat.zero_add,h8 hzs]; exact Nat.le_refl _) (fun q c el dd x he hd hx => by
     have hq:=lt_of_get he
     have hcs:=get_len hl he
     have hcl2:=lt_of_get hd
     have hk : q * i.size + c < es.length * i.size:=by
      have:=idx_lt (off:=0) (cap:=es.length) (N:=es.length * i.size) hq (show c < i.size by omega) (Nat.le_refl _) (by omega); omega
     rw [Nat.zero_add,h5 _ hk,h9 b off vals rfl hw _ hk,← Nat.add_assoc] at hx
     exact hkids q c el dd x he hd hx) (fun q c el dd x he hd hx => by
     have hq:=lt_of_get he
     have hcs:=get_len hyl he
     have hcl2:=lt_of_get hd
     have hk : q * i.size + c < ys.length * i.size:=by
      have:=idx_lt (off:=0) (cap:=ys.length) (N:=ys.length * i.size) hq (show c < i.size by omega) (Nat.le_refl _) (by omega); omega
     rw [Nat.zero_add,Nat.add_mul,Nat.add_assoc,h7 _ hk] at hx
     exact .inr (hyo q c el dd x he hd hx))
   simpa using hpost
theorem ok_app (R : Rel w0 cl0 S a.tmps w g) {sz bytes : Nat} {x y : PX} {op : Op} {av : AV} {rt : Option Rt} {m' : Ms} (hn' : (m' d).1 = none)
  (hc : chkOp P κ (.app sz bytes x y) op = true) (h : opf Γ S.ev d S.ms (.app sz bytes x y) = some (av,rt,m')) (o : Oper) (ho : o.op = op) :
  ∃ v w',(execOp a.eval o).run P w = .ok (.value v) w' ∧ Post w0 cl0 S a.tmps d av rt m' v w':=by
 cases op with
 | call c => ?_
 | _ => simp [chkOp] at hc
 simp only [chkOp] at hc
 split at hc
 ·rename_i oa ob t u hcal hargs htys
  simp only [Bool.and_eq_true] at hc
  obtain ⟨⟨h1,h2⟩,h3⟩:=hc
  split at h3
  ·rename_i e e' he he'
   simp only [Bool.and_eq_true,beq_iff_eq] at h3
   obtain ⟨rfl,h3⟩:=h3
   split at h3
   ·rename_i z s1 by' hzl hsb
    simp only [Bool.and_eq_true,beq_iff_eq,bne_iff_ne,ne_eq] at h3
    obtain ⟨⟨⟨⟨rfl,rfl⟩,hzl2⟩,hs0⟩,hb0⟩:=h3
    obtain ⟨i,zv,hi,hzv,hzc,hzs⟩:=zeroT_some hzl
    have hu1 : P.underlying t = some (.slice e):=by unfold elemT at he; split at he <;> simp_all
    have hu2 : P.underlying u = some (.slice e):=by unfold elemT at he'; split at he' <;> simp_all
    unfold sizeT at hsb
    rw [hi] at hsb
    simp at hsb
    obtain ⟨hsz,hby⟩:=hsb
    obtain ⟨cs,hex⟩:=call_builtin (a:=a) hcal hargs htys ho
    have e1:=chkX_ok R h1
    have e2:=chkX_ok R h2
    have fin : ∀ {S1 : St} {g1 : Gh} {m2 : Ms} {es ys : List (List D)},S1.av = S.av → Rel w0 cl0 S1 a.tmps w g1 → absC S1.ms (S.ev x) = some (.own (.sl s1 es),m2) → (es.length + ys.length) * by' ≤ 2 ^ 46 → (m2 d).1 = none →
      (∀ g2 : Gh,(∀ (b : Nat) (ρ : Pth),g1.cl b = .own 0 1 ρ → g2.cl b = .own 0 1 ρ) → (∀ ρ,g2.hd 0 1 ρ = g1.hd 0 1 ρ) →
       ∃ (b : Option Addr) (cap : Nat) (news : List Value),a.eval ob = .slice b ys.length cap ∧ (∀ e ∈ ys,e.length = s1) ∧ news.length = ys.length * s1 ∧
       (∀ w1 : World,w1.heap = w.heap → (Builtin.firstCells s1 ys.length (a.eval ob)).run P w1 = .ok news.toArray w1) ∧ (∀ x ∈ news,x.oneCell' = true) ∧
       ∀ (i c : Nat) (e : List D) (d : D) (x : Value),ys[i]? = some e → e[c]? = some d → news[i * s1 + c]? = some x → OW w g2 0 1 [(i,c)] d x) →
      ∃ v w',(execOp a.eval o).run P w = .ok (.value v) w' ∧ Post w0 cl0 S a.tmps d (.pl d 0 []) (some (.vir [.own (.sl s1 (es ++ ys))])) m2 v w':=by
     intro S1 g1 m2 es ys hav R1 hab hfit hn2 hnews
     have ex1:=(chkX_ok R1 h1).1
     have hev : S1.ev x = S.ev x:=by cases x <;> simp [St.ev,hav]
     rw [hev] at ex1
     obtain ⟨g2,R2,T2,hrc⟩:=absC_ok R1 ex1 hab 0
     cases hrc with
     | own _ _ hox =>
      obtain ⟨v,w',hrun,hpost⟩:=app_core (P:=P) (ty:=o.type) (d:=d) (a:=a) R2 hn2 hu1 hi hzv hsz hby hzs (Nat.pos_of_ne_zero hs0) (Nat.pos_of_ne_zero hb0) hox hfit
       (by
        obtain ⟨b,cap,news,q1,q2⟩:=hnews g2 (fun b ρ hb => T2.cl0 b 1 ρ (by simp) hb) (fun ρ => T2.hd0 1 ρ (by simp))
        exact ⟨news,.inl ⟨hu2,b,cap,q1⟩,q2⟩)
      refine ⟨v,w',?_,?_⟩
      ·rw [hex]
       simp [builtin,hrun]
      ·have hS : ({ S1 with ms:=m2 } : St).av = S.av:=hav
       unfold Post at hpost ⊢
       simp only [hav] at hpost
       exact hpost
    simp only [opf] at h
    split at h
    ·rename_i s2 ys m1 hsrc
     split at h
     ·rename_i s3 es m2 hab
      split at h
      ·rename_i hcond
       obtain ⟨rfl,rfl,hfit⟩:=hcond
       simp at h; obtain ⟨rfl,rfl,rfl⟩:=h
       split at hsrc
       ·rename_i s4 ys4 hels
        split at hsrc
        ·rename_i hflat
         simp at hsrc
         obtain ⟨rfl,rfl,rfl⟩:=hsrc
         exact fin (S1:=S) rfl R hab hfit hn' (fun g2 _ _ => els_news R e2.1 hels hflat (Nat.pos_of_ne_zero hs0) g2)
        ·split at hsrc
         ·rename_i s5 ys5 m5 hab2
          split at hsrc
          ·rename_i hlive
           simp at hsrc
           obtain ⟨rfl,rfl,rfl⟩:=hsrc
           obtain ⟨g1,R1,T1,hrc⟩:=absC_ok R e2.1 hab2 1
           cases hrc with
           | own _ _ hoy =>
            obtain ⟨b,cap,news,k1,k2,k3,k4,k5,k6⟩:=own_news (P:=P) hoy hlive
            refine fin (S1:={ S with ms:=m5 }) rfl R1 hab hfit hn' (fun g2 hg2 hh2 => ⟨b,cap,news,k1,k2,k3,k4,fun x hx => (k5 x hx).resolve_right hs0,fun q c el dd x he hd hx => ?_⟩)
            exact (k6 q c el dd x he hd hx).mono (fun b ρ hb => ⟨rfl,hg2 b _ hb⟩) (fun ρ => hh2 _)
          ·cases hsrc
         ·cases hsrc
       ·cases hsrc
      ·cases h
     ·cases h
    ·cases h
   ·cases h3
  ·cases h3
 ·cases hc
theorem ok_apps (R : Rel w0 cl0 S a.tmps w g) {x y : PX} {op : Op} {av : AV} {rt : Option Rt} {m' : Ms} (hn' : (m' d).1 = none)
  (hc : chkOp P κ (.apps x y) op = true) (h : opf Γ S.ev d S.ms (.apps x y) = some (av,rt,m')) (o : Oper) (ho : o.op = op) :
  ∃ v w',(execOp a.eval o).run P w = .ok (.value v) w' ∧ Post w0 cl0 S a.tmps d av rt m' v w':=by
 cases op with
 | call c => ?_
 | _ => simp [chkOp] at hc
 simp only [chkOp] at hc
 split at hc
 ·rename_i oa ob t u hcal hargs htys
  simp only [Bool.and_eq_true] at hc
  obtain ⟨⟨h1,h2⟩,h3⟩:=hc
  split at h3
  ·rename_i e he hu2
   split at h3
   ·rename_i z s1 by' hzl hsb
    simp only [Bool.and_eq_true,beq_iff_eq] at h3
    obtain ⟨⟨rfl,rfl⟩,hzl2⟩:=h3
    obtain ⟨i,zv,hi,hzv,hzc,hzs⟩:=zeroT_some hzl
    have hu1 : P.underlying t = some (.slice e):=by unfold elemT at he; split at he <;> simp_all
    unfold sizeT at hsb
    rw [hi] at hsb
    simp at hsb
    obtain ⟨hsz,hby⟩:=hsb
    obtain ⟨cs,hex⟩:=call_builtin (a:=a) hcal hargs htys ho
    have e2:=(chkX_ok R h2).1
    have e1:=(chkX_ok R h1).1
    simp only [opf] at h
    split at h
    ·rename_i k s hy
     split at h
     ·rename_i es m2 hab
      split at h
      ·rename_i hfit
       simp at h; obtain ⟨rfl,rfl,rfl⟩:=h
       obtain ⟨g2,R2,T2,hrc⟩:=absC_ok R e1 hab 0
       rw [hy] at e2
       have hvy : a.eval ob = .string s:=by
        generalize a.eval ob = vv at e2
        cases e2 with
        | v _ _ _ hr => cases hr; rfl
       have hsl : (strBytes s).length = s.size:=by
        simp [strBytes,ByteArray.toList_eq]
       cases hrc with
       | own _ _ hox =>
        obtain ⟨v,w',hrun,hpost⟩:=app_core (P:=P) (u:=u) (ty:=o.type) (d:=d) (a:=a) (vy:=a.eval ob) (ys:=strBytes s) R2 hn' hu1 hi hzv hsz hby hzs (by omega) (by omega) hox (by rw [hsl]; omega)
         ⟨s.toList.map (fun b => Value.int .u8 b.toNat),.inr ⟨hu2,s,hvy,hsl.symm⟩,fun e he => by simp only [strBytes,List.mem_map] at he; obtain ⟨b,_,rfl⟩:=he; rfl,by simp [strBytes],
          fun w1 _ => by
           rw [hvy,hsl]
           have hq : (Array.map (fun b : UInt8 => Value.int IntKind.u8 ↑b.toNat) (s.extract 0 s.size).data) = (List.map (fun b : UInt8 => Value.int .u8 b.toNat) s.data.toList).toArray:=by
            apply Array.ext'
            simp [ByteArray.extract_zero_size]
           simp only [Builtin.firstCells,ByteArray.toList_eq]
           rw [hq]; rfl,fun x hx => by simp only [List.mem_map] at hx; obtain ⟨b,_,rfl⟩:=hx; rfl,
          fun q c e d x he hd hx => by
           simp only [strBytes,List.getElem?_map,Option.map_eq_some_iff] at he
           obtain ⟨b,hb,rfl⟩:=he
           cases c with
           | succ c => simp at hd
           | zero =>
            simp at hd; subst hd
            simp only [Nat.mul_one,Nat.add_zero,List.getElem?_map,Option.map_eq_some_iff] at hx
            obtain ⟨b2,hb2,rfl⟩:=hx
            rw [hb] at hb2; cases hb2
            exact .int _ _ _⟩
        refine ⟨v,w',?_,hpost⟩
        rw [hex]
        simp [builtin,hrun]
      ·cases h
     ·cases h
    ·cases h
   ·cases h3
  ·cases h3
 ·cases hc
end
end Go.Proofs.YtmlinnkaccgcgaaGreat.OM
