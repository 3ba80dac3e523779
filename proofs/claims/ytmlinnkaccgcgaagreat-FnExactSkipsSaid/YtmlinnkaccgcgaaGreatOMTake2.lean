/- The own machine: taking. -/
import Derived.Test.YtmlinnkaccgcgaaGreatOMTake
set_option linter.all false
namespace Go.Proofs.YtmlinnkaccgcgaaGreat.OM
theorem take_some {m m' : Ms} {r j : Nat} {p : Pth} {d : D} (h : m.take r j p = some (d,m')) :
  ∃ sz es rt d0,d = .sl sz es ∧ m.at r j p = some (.sl sz es) ∧ (m r).1 = some rt ∧ rt.cells[j]? = some (.own d0) ∧ d0.dig p = some (.sl sz es) ∧
   m' = upd m r (some (rt.setc j (.own (d0.put p .dead))),(m r).2):=by
 simp only [Ms.take] at h
 split at h
 ·rename_i sz es ha
  obtain ⟨_,rt,d0,h1,h2,h3⟩:=at_some ha
  simp only [Ms.putAt,h1,h2] at h
  simp at h
  exact ⟨sz,es,rt,d0,h.1.symm,ha,h1,h2,h3,h.2.symm⟩
 ·simp at h
theorem upd_same {α : Type} {f : Nat → α} {n : Nat} {x : α} : upd f n x n = x:=by simp [upd]
theorem upd_ne {α : Type} {f : Nat → α} {n k : Nat} {x : α} (h : k ≠ n) : upd f n x k = f k:=by simp [upd,h]
section
variable {w0 : World} {cl0 : Ini} {S : St} {ts : Array Value} {w : World} {g : Gh}
theorem rfs_upd {m : Ms} {r : Nat} {rt' : Rt} {kl : List (Nat × Pth)} {k : Nat} (h : ((m k).1).isSome) : ((upd m r (some rt',kl) k).1).isSome:=by
 by_cases e : k = r
 ·subst e; simp [upd]
 ·simpa [upd,e] using h
theorem rfc_upd {m : Ms} {r j : Nat} {rt : Rt} {c0 : C} {kl : List (Nat × Pth)} (hrt : (m r).1 = some rt) (hc : ∀ r' j',c0 ≠ .rf r' j')
  (H : ∀ (n : Nat) (rt : Rt) (j r j' : Nat),(m n).1 = some rt → rt.cells[j]? = some (C.rf r j') → ∃ cs,(m r).1 = some (.vir cs)) :
  ∀ (n : Nat) (rt1 : Rt) (j1 r1 j1' : Nat),(upd m r (some (rt.setc j c0),kl) n).1 = some rt1 → rt1.cells[j1]? = some (C.rf r1 j1') →
   ∃ cs,(upd m r (some (rt.setc j c0),kl) r1).1 = some (.vir cs):=by
 intro n rt1 j1 r1 j1' h1 h2
 have : ∃ cs,(m r1).1 = some (.vir cs):=by
  by_cases e : n = r
  ·subst e
   simp [upd] at h1
   subst h1
   rw [cells_setc] at h2
   by_cases e2 : j1 = j
   ·subst e2
    rcases Nat.lt_or_ge j1 rt.cells.length with hl | hl
    ·rw [List.getElem?_set_self hl] at h2; cases h2; exact absurd rfl (hc _ _)
    ·rw [List.getElem?_eq_none (by simpa using hl)] at h2; cases h2
   ·rw [List.getElem?_set_ne (by omega)] at h2
    exact H n rt j1 r1 j1' hrt h2
  ·simp [upd,e] at h1
   exact H n rt1 j1 r1 j1' h1 h2
 obtain ⟨cs,h3⟩:=this
 by_cases e : r1 = r
 ·subst e
  rw [hrt] at h3
  cases h3
  exact ⟨cs.set j c0,by simp [upd,Rt.setc]⟩
 ·exact ⟨cs,by simpa [upd,e] using h3⟩
theorem Rel.take (R : Rel w0 cl0 S ts w g) {r j : Nat} {p : Pth} {d : D} {m' : Ms} (ht : S.ms.take r j p = some (d,m')) (q : Nat) (v : Value) :
    Rel w0 cl0 { S with ms:=m' } ts w (g.tk r j p q v):=by
  obtain ⟨sz,es,rt,d0,rfl,ha,h1,h2,h3,rfl⟩:=take_some ht
  have hkc : ∀ b k,g.cl b = kc k → w.heap[b]? = w.heap[b]? ∧ (g.tk r j p q v).cl b = kc k:=fun b k h => ⟨rfl,Gh.tk_kc.2 h⟩
  have hhd : ∀ n j1 ρ,(g.tk r j p q v).hd (n + 1) j1 ρ = g.hd (n + 1) j1 ρ:=fun n j1 ρ => by simp [Gh.tk]
  refine { av:=fun n => ?_,rt:=fun n rt1 h4 => ?_,rfs:=fun n r1 h4 => rfs_upd (R.rfs n r1 h4),rfc:=rfc_upd h1 (by simp) R.rfc,
           bd:=fun b h4 => R.bd b (by rwa [ne_eq,Gh.tk_no] at h4),sz:=R.sz,fr:=R.fr,im:=fun b k => Gh.tk_kc.trans (R.im b k),
           mi:=fun b h4 h5 => R.mi b h4 (by rwa [Gh.tk_mine] at h5),sd:=R.sd,
           pin:=fun i hi => ?_ }
  rotate_left 2
  · have h4:=R.pin i hi
    by_cases e : i = r
    · subst e
      rw [h1] at h4
      simp only [upd,if_true]
      cases rt with
      | vir cs => exact fun j1 => (hhd _ _ _).trans (h4 j1)
      | bx cs => exact h4
    · simp only [upd_ne e]
      revert h4
      cases (S.ms i).1 with
      | none => exact id
      | some rt1 =>
        cases rt1 with
        | vir cs => exact fun h4 j1 => (hhd _ _ _).trans (h4 j1)
        | bx cs => exact id
  · refine (R.av n).mono hkc (fun r1 _ => ⟨rfl,fun j1 p1 h4 => ⟨?_,hhd _ _ _⟩⟩)
    exact killed_upd (m:=S.ms) (kl:=[]) (by simpa using h4)
  · by_cases e : n = r
    · subst e
      simp [upd] at h4
      subst h4
      refine (R.rt n rt h1).put h2 h3 hkc (fun b j1 ρ h5 h6 => ⟨rfl,Gh.tk_other h5 (by simpa using h6)⟩) (fun cs _ => ⟨rfl,rfl,?_⟩)
        (fun j1 ρ _ => hhd _ _ _) (fun _ _ => hhd _ _ _) (fun _ _ _ _ => hhd _ _ _) (fun x hx => .dead _ _ ((hhd _ _ _).trans hx.hd_eq.symm))
      have:=R.rt n rt h1
      rename_i hbx
      subst hbx
      simp only [Gh.tk,this.1]
    · simp only [upd_ne e] at h4
      refine (R.rt n rt1 h4).mono hkc (fun b j1 ρ h5 => ⟨rfl,Gh.tk_other h5 (by simp [e])⟩) (fun cs hb => ⟨rfl,rfl,?_⟩)
        (fun j1 ρ => hhd _ _ _) (fun _ _ _ _ => hhd _ _ _)
      have:=R.rt n rt1 h4
      subst hb
      simp only [Gh.tk,this.1]
theorem Rel.took (R : Rel w0 cl0 S ts w g) {r j : Nat} {p : Pth} {d : D} {m' : Ms} (ht : S.ms.take r j p = some (d,m')) (q : Nat) :
  OW w (g.tk r j p q (g.hd (r + 1) j p)) 0 q [] d (g.hd (r + 1) j p):=by
 obtain ⟨sz,es,rt,d0,rfl,ha,h1,h2,h3,rfl⟩:=take_some ht
 obtain ⟨x,hx⟩:=R.at ha
 have hxv:=hx.hd_eq
 subst hxv
 refine hx.mono (fun b ρ h => ⟨rfl,?_⟩) (fun ρ => ?_)
 ·simp [Gh.tk,h]
 ·simp only [Gh.tk,List.nil_append,and_self,if_true]
  split
  ·rename_i e; subst e; simp
  ·rfl
theorem Rel.tookTo (R : Rel w0 cl0 S ts w g) {r j : Nat} {p : Pth} {sz : Nat} {es : List (List D)} {m' : Ms} (ht : S.ms.take r j p = some (.sl sz es,m')) (q hi : Nat)
  (hhi : hi ≤ es.length) :
  OW w (g.tk r j p q (slcv (g.hd (r + 1) j p) sz 0 hi)) 0 q [] (.sl sz (es.take hi)) (slcv (g.hd (r + 1) j p) sz 0 hi):=by
 obtain ⟨sz1,es1,rt,d0,e1,ha,h1,h2,h3,rfl⟩:=take_some ht
 cases e1
 obtain ⟨x,hx⟩:=R.at ha
 have hxv:=hx.hd_eq
 subst hxv
 generalize hv : g.hd (r + 1) j p = v at hx
 cases hx with
 | nil =>
  simp only [slcv,List.take_nil]
  have : hi = 0:=by simpa using hhi
  subst this
  refine .nil _ _ (by simp [Gh.tk])
 | sl _ _ _ b off cap vals E hh hc hl hcap hw hN hk =>
  have hlen : (es.take hi).length = hi:=by simp; omega
  have hsl : slcv (.slice (some ⟨b,off,none⟩) es.length cap) sz 0 hi = .slice (some ⟨b,off,none⟩) (es.take hi).length cap:=by
   simp only [slcv,Nat.zero_mul,Nat.sub_zero,hlen]
   split <;> simp [Addr.add]
  rw [hsl]
  refine .sl _ _ _ b off cap vals E (by simp [Gh.tk]) (by simp [Gh.tk,hc]) (fun e he => hl e (List.mem_of_mem_take he)) (by omega) hw hN ?_
  intro i c e d x he hd hx
  have he' : es[i]? = some e:=by
   rw [List.getElem?_take] at he
   split at he
   ·exact he
   ·cases he
  refine (hk i c e d x he' hd hx).mono (fun b ρ h => ⟨rfl,?_⟩) (fun ρ => ?_)
  ·simp [Gh.tk,h]
  ·simp [Gh.tk]
structure TkR (N : Nat → Prop) (g : Gh) (m : Ms) (g' : Gh) (m' : Ms) : Prop where
 kc : ∀ b k,g'.cl b = kc k ↔ g.cl b = kc k
 hd : ∀ n j ρ,g'.hd (n + 1) j ρ = g.hd (n + 1) j ρ
 bk : g'.bk = g.bk
 kl : ∀ r,(m' r).2 = (m r).2
 cl0 : ∀ b q ρ,¬ N q → g.cl b = .own 0 q ρ → g'.cl b = .own 0 q ρ
 hd0 : ∀ q ρ,¬ N q → g'.hd 0 q ρ = g.hd 0 q ρ
 so : ∀ r,((m r).1).isSome → ((m' r).1).isSome
 no : ∀ r,(m r).1 = none → (m' r).1 = none
 bx : ∀ b r,g.cl b = .box r → g'.cl b = .box r
theorem TkR.refl (N : Nat → Prop) (g : Gh) (m : Ms) : TkR N g m g m :=
 ⟨fun _ _ => .rfl,fun _ _ _ => rfl,rfl,fun _ => rfl,fun _ _ _ _ h => h,fun _ _ _ => rfl,fun _ h => h,fun _ h => h,fun _ _ h => h⟩
theorem TkR.weak {N N' : Nat → Prop} {g g' : Gh} {m m' : Ms} (h : TkR N g m g' m') (hN : ∀ q,N q → N' q) : TkR N' g m g' m' :=
 ⟨h.kc,h.hd,h.bk,h.kl,fun b q ρ hq => h.cl0 b q ρ fun e => hq (hN q e),fun q ρ hq => h.hd0 q ρ fun e => hq (hN q e),h.so,h.no,h.bx⟩
theorem TkR.trans {N : Nat → Prop} {g g1 g2 : Gh} {m m1 m2 : Ms} (h : TkR N g m g1 m1) (h' : TkR N g1 m1 g2 m2) : TkR N g m g2 m2 :=
 ⟨fun b k => (h'.kc b k).trans (h.kc b k),fun n j ρ => (h'.hd n j ρ).trans (h.hd n j ρ),h'.bk.trans h.bk,fun r => (h'.kl r).trans (h.kl r),
  fun b q ρ hq1 hb => h'.cl0 b q ρ hq1 (h.cl0 b q ρ hq1 hb),fun q ρ hq1 => (h'.hd0 q ρ hq1).trans (h.hd0 q ρ hq1),
  fun r hr => h'.so r (h.so r hr),fun r hr => h'.no r (h.no r hr),fun b r hb => h'.bx b r (h.bx b r hb)⟩
theorem TkR.ra {N : Nat → Prop} {g g' : Gh} {m m' : Ms} {w : World} (h : TkR N g m g' m') {a : AV} {x : Value} (ha : RA w g m a x) : RA w g' m' a x :=
 ha.mono (fun b k hb => ⟨rfl,(h.kc b k).2 hb⟩) (fun r _ => ⟨by rw [h.bk],fun j p hk => ⟨by simpa only [Ms.killed,h.kl] using hk,h.hd _ _ _⟩⟩)
theorem TkR.rc {N : Nat → Prop} {g g' : Gh} {m m' : Ms} {w : World} (h : TkR N g m g' m') {q : Nat} (hq : ¬ N q) {c : C} {x : Value} (ha : RC w g 0 q c x) : RC w g' 0 q c x :=
 ha.mono (fun b k hb => ⟨rfl,(h.kc b k).2 hb⟩) (fun b ρ hb => ⟨rfl,h.cl0 b q ρ hq hb⟩) (fun ρ => h.hd0 q ρ hq) (fun _ _ _ => h.hd _ _ _)
theorem TkR.ow {N : Nat → Prop} {g g' : Gh} {m m' : Ms} {w : World} (h : TkR N g m g' m') {q : Nat} (hq : ¬ N q) {c : D} {x : Value} (ha : OW w g 0 q [] c x) : OW w g' 0 q [] c x :=
 ha.mono (fun b ρ hb => ⟨rfl,h.cl0 b q _ hq hb⟩) (fun ρ => h.hd0 q _ hq)
theorem TkR.tk {m : Ms} {r j : Nat} {p : Pth} {d : D} {m' : Ms} (ht : m.take r j p = some (d,m')) (g : Gh) (q : Nat) (v : Value) : TkR (· = q) g m (g.tk r j p q v) m':=by
 obtain ⟨sz,es,rt,d0,rfl,ha,h1,h2,h3,rfl⟩:=take_some ht
 refine ⟨fun _ _ => Gh.tk_kc,fun n j1 ρ => by simp [Gh.tk],rfl,fun r1 => ?_,fun b q1 ρ hq hb => Gh.tk_other hb (by simp),fun q1 ρ hq => ?_,
  fun r1 h => rfs_upd h,fun r1 h => ?_,fun b r1 hb => by simp [Gh.tk,hb]⟩
 ·by_cases e : r1 = r
  ·subst e; simp [upd]
  ·simp [upd,e]
 ·simp [Gh.tk,hq]
 ·by_cases e : r1 = r
  ·subst e; rw [h1] at h; cases h
  ·simpa [upd,e] using h
theorem cutD_some {d : Option D} {sz lo hi : Nat} {es : List (List D)} (h : cutD d sz lo hi = some es) :
  ∃ es0,d = some (.sl sz es0) ∧ lo ≤ hi ∧ hi ≤ es0.length ∧ es = (es0.take hi).drop lo:=by
 unfold cutD at h
 split at h
 ·split at h
  ·rename_i hh
   obtain ⟨h1,h2,h3⟩:=hh
   subst h1
   exact ⟨_,rfl,h2,h3,by simpa using h.symm⟩
  ·cases h
 ·cases h
theorem absC_ok {S : St} (R : Rel w0 cl0 S ts w g) {a : AV} {c : C} {x : Value} {m' : Ms} (ha : RA w g S.ms a x) (h : absC S.ms a = some (c,m')) (q : Nat) :
    ∃ g',Rel w0 cl0 { S with ms:=m' } ts w g' ∧ TkR (· = q) g S.ms g' m' ∧ RC w g' 0 q c x:=by
  unfold absC at h
  split at h
  · cases h
  · rename_i k d _
    simp at h; obtain ⟨rfl,rfl⟩:=h
    cases ha with
    | v _ _ _ hr => exact ⟨g,R,.refl _ _ _,.ro _ _ _ hr⟩
  · rename_i sz
    simp at h; obtain ⟨rfl,rfl⟩:=h
    cases ha with
    | nl =>
      refine ⟨{ g with hd:=fun r1 j1 ρ => if r1 = 0 ∧ j1 = q then .slice none 0 0 else g.hd r1 j1 ρ },?_,⟨fun _ _ => .rfl,fun n j ρ => by simp,rfl,fun _ => rfl,fun _ _ _ _ h => h,fun q1 ρ hq => ?_,fun _ h => h,fun _ h => h,fun _ _ h => h⟩,.own _ _ (.nil _ _ (by simp))⟩
      · exact { av:=fun n => (R.av n).mono (fun b k h => ⟨rfl,h⟩) (fun r _ => ⟨rfl,fun j p hk => ⟨hk,by simp⟩⟩),
                rt:=fun n rt h => (R.rt n rt h).mono (fun b k h => ⟨rfl,h⟩) (fun b j ρ h => ⟨rfl,h⟩) (fun _ _ => ⟨rfl,rfl,rfl⟩) (fun j ρ => by simp) (fun _ _ _ _ => by simp),
                rfs:=R.rfs,rfc:=R.rfc,bd:=R.bd,sz:=R.sz,fr:=R.fr,im:=R.im,mi:=R.mi,sd:=R.sd,pin:=R.pin }
      · simp [hq]
  · rename_i r j p
    split at h
    · rename_i d m1 ht
      simp at h; obtain ⟨rfl,rfl⟩:=h
      cases ha with
      | pl _ _ _ _ _ _ hx =>
        obtain ⟨sz,es,rt,d0,rfl,hat,_⟩:=take_some ht
        have hk:=(at_some hat).1
        rw [hx hk]
        exact ⟨_,R.take ht q _,.tk ht g q _,.own _ _ (R.took ht q)⟩
    · cases h
  · rename_i r j p sz hi
    split at h
    · rename_i es d m1 hc ht
      simp at h; obtain ⟨rfl,rfl⟩:=h
      obtain ⟨es0,hat,_,hhi,rfl⟩:=cutD_some hc
      obtain ⟨sz1,es1,rt,d0,rfl,hat1,_⟩:=take_some ht
      rw [hat] at hat1; cases hat1
      cases ha with
      | rg _ _ _ _ _ _ _ _ _ hx =>
        have hk:=(at_some hat).1
        rw [hx hk]
        exact ⟨_,R.take ht q _,.tk ht g q _,.own _ _ (by simpa using R.tookTo ht q hi hhi)⟩
    · cases h
  · cases h
theorem absCs_ok : ∀ (as : List AV) {S : St} {g : Gh} (R : Rel w0 cl0 S ts w g) {vals : List Value} {cs : List C} {m' : Ms} (q : Nat),
  as.length = vals.length → (∀ (i : Nat) (a : AV) (x : Value),as[i]? = some a → vals[i]? = some x → RA w g S.ms a x) →
  absCs S.ms as = some (cs,m') →
  ∃ g',Rel w0 cl0 { S with ms:=m' } ts w g' ∧ TkR (fun x => q ≤ x ∧ x < q + as.length) g S.ms g' m' ∧ cs.length = as.length ∧
   ∀ (i : Nat) (c : C) (x : Value),cs[i]? = some c → vals[i]? = some x → RC w g' 0 (q + i) c x:=by
 intro as
 induction as with
 | nil =>
  intro S g R vals cs m' q hl hv h
  simp [absCs] at h; obtain ⟨rfl,rfl⟩:=h
  exact ⟨g,R,.refl _ _ _,rfl,fun i c x hc => by simp at hc⟩
 | cons a as ih =>
  intro S g R vals cs m' q hl hv h
  cases vals with
  | nil => simp at hl
  | cons v vals =>
   simp only [absCs] at h
   cases h1 : absC S.ms a with
   | none => simp [h1] at h
   | some cm =>
    obtain ⟨c,m1⟩:=cm
    simp only [h1] at h
    cases h2 : absCs m1 as with
    | none => simp [h2] at h
    | some cm2 =>
     obtain ⟨cs2,m2⟩:=cm2
     simp only [h2] at h
     simp at h; obtain ⟨rfl,rfl⟩:=h
     obtain ⟨g1,R1,T1,hc1⟩:=absC_ok R (hv 0 a v rfl rfl) h1 q
     obtain ⟨g2,R2,T2,hl2,hc2⟩:=ih (S:={ S with ms:=m1 }) R1 (vals:=vals) (q + 1) (by simpa using hl)
      (fun i a x ha hx => T1.ra (hv (i + 1) a x ha hx)) h2
     refine ⟨g2,R2,(T1.weak fun x h => (by subst h; simp)).trans (T2.weak fun x h => (by simp only [List.length_cons]; omega)),by simp [hl2],fun i c1 x hc hx => ?_⟩
     cases i with
     | zero => simp at hc hx; subst hc; subst hx; exact T2.rc (by omega) hc1
     | succ i =>
      have:=hc2 i c1 x hc hx
      rwa [show q + (i + 1) = q + 1 + i from by omega]
end
end Go.Proofs.YtmlinnkaccgcgaaGreat.OM
