/- The own machine: what a call left is put back where it was. -/
import Derived.Test.YtmlinnkaccgcgaaGreatOMCall2
set_option linter.all false
namespace Go.Proofs.YtmlinnkaccgcgaaGreat.OM
def Gh.gv (g : Gh) (m' : Ms) (r j : Nat) (p : Pth) (q : Nat) : Gh where
 cl:=fun b => match g.cl b with
  | .own 0 q1 ρ => if q1 = q then .own (r + 1) j (p ++ ρ) else .own 0 q1 ρ
  | c => c
 hd:=fun r1 j1 ρ => if r1 = r + 1 ∧ j1 = j ∧ p <+: ρ ∧ m'.killed r j ρ = true then g.hd 0 q (ρ.drop p.length) else g.hd r1 j1 ρ
 bk:=g.bk
section
variable {w0 : World} {cl0 : Ini} {S : St} {ts : Array Value} {w : World} {g : Gh}
theorem Gh.gv_kc {m' : Ms} {r j : Nat} {p : Pth} {q b : Nat} {k : Bool} : (g.gv m' r j p q).cl b = kc k ↔ g.cl b = kc k:=by
 simp only [Gh.gv]
 split
 ·rename_i q1 ρ h
  rw [h]
  split <;> cases k <;> simp [kc]
 ·exact .rfl
theorem Gh.gv_no {m' : Ms} {r j : Nat} {p : Pth} {q b : Nat} : (g.gv m' r j p q).cl b = .no ↔ g.cl b = .no:=by
 simp only [Gh.gv]
 split
 ·rename_i q1 ρ h
  rw [h]
  split <;> simp
 ·exact .rfl
theorem Gh.gv_mine {m' : Ms} {r j : Nat} {p : Pth} {q b : Nat} : ((g.gv m' r j p q).cl b).mine = (g.cl b).mine:=by
 simp only [Gh.gv]
 split
 ·rename_i q1 ρ h
  rw [h]
  split <;> rfl
 ·rfl
theorem Gh.gv_own {m' : Ms} {r j : Nat} {p : Pth} {q b n j1 : Nat} {ρ : Pth} (h : g.cl b = .own (n + 1) j1 ρ) : (g.gv m' r j p q).cl b = .own (n + 1) j1 ρ:=by
 simp only [Gh.gv,h]
theorem Gh.gv_box {m' : Ms} {r j : Nat} {p : Pth} {q b n : Nat} (h : g.cl b = .box n) : (g.gv m' r j p q).cl b = .box n:=by
 simp only [Gh.gv,h]
theorem thr_longer (p : Pth) (c : Nat) : thr (p ++ [(0,c)]) p = false:=by
 induction p with
 | nil => rfl
 | cons x p ih => obtain ⟨i,k⟩:=x; simp [thr,ih]
theorem thr_kid (p : Pth) (i c : Nat) (ρ : Pth) : thr (p ++ [(0,c)]) (p ++ (i,c) :: ρ) = true:=by
 induction p with
 | nil => simp [thr]
 | cons x p ih => obtain ⟨i1,k⟩:=x; simp [thr,ih]
theorem mem_kidKills {j : Nat} {p : Pth} : ∀ {n c : Nat},c < n → (j,p ++ [(0,c)]) ∈ kidKills j p n:=by
 intro n
 induction n with
 | zero => intro c h; omega
 | succ n ih =>
  intro c h
  simp only [kidKills]
  by_cases e : c = n
  ·subst e; simp
  ·exact List.mem_cons_of_mem _ (ih (by omega))
theorem kidKills_at {j : Nat} {p : Pth} : ∀ {n : Nat},(kidKills j p n).any (fun x => x.1 == j && thr x.2 p) = false:=by
 intro n
 induction n with
 | zero => rfl
 | succ n ih => simp only [kidKills,List.any_cons,ih,thr_longer]; simp
structure UpR (q : Nat) (g : Gh) (m : Ms) (g' : Gh) (m' : Ms) : Prop where
 kc : ∀ b k,g'.cl b = kc k ↔ g.cl b = kc k
 bk : g'.bk = g.bk
 kl : ∀ r j p,m'.killed r j p = false → m.killed r j p = false
 hd : ∀ r j p,m'.killed r j p = false → g'.hd (r + 1) j p = g.hd (r + 1) j p
 cl0 : ∀ b q1 ρ,q1 ≠ q → g.cl b = .own 0 q1 ρ → g'.cl b = .own 0 q1 ρ
 hd0 : ∀ q1 ρ,g'.hd 0 q1 ρ = g.hd 0 q1 ρ
 no : ∀ r,(m r).1 = none ↔ (m' r).1 = none
 so : ∀ r,(m' r).1.isSome = (m r).1.isSome
 nw : ∀ n,(m n).1 = none → (∀ j ρ,g'.hd (n + 1) j ρ = g.hd (n + 1) j ρ)
 ow : ∀ b n j ρ,g.cl b = .own (n + 1) j ρ → g'.cl b = .own (n + 1) j ρ
 bx : ∀ b n,g.cl b = .box n → g'.cl b = .box n
theorem UpR.refl (q : Nat) (g : Gh) (m : Ms) : UpR q g m g m:=⟨fun _ _ => .rfl,rfl,fun _ _ _ h => h,fun _ _ _ _ => rfl,fun _ _ _ _ h => h,fun _ _ => rfl,fun _ => .rfl,fun _ => rfl,fun _ _ _ _ => rfl,fun _ _ _ _ h => h,fun _ _ h => h⟩
theorem UpR.ra {q : Nat} {g' : Gh} {m m' : Ms} (h : UpR q g m g' m') {a : AV} {x : Value} (ha : RA w g m a x) : RA w g' m' a x :=
 ha.mono (fun b k hb => ⟨rfl,(h.kc b k).2 hb⟩) (fun r _ => ⟨by rw [h.bk],fun j p hk => ⟨h.kl r j p hk,h.hd r j p hk⟩⟩)
theorem UpR.rc {q q1 : Nat} {g' : Gh} {m m' : Ms} (h : UpR q g m g' m') (hq : q1 ≠ q) {c : C} {x : Value} (hn : c.noRf = true) (ha : RC w g 0 q1 c x) : RC w g' 0 q1 c x :=
 ha.mono (fun b k hb => ⟨rfl,(h.kc b k).2 hb⟩) (fun b ρ hb => ⟨rfl,h.cl0 b q1 ρ hq hb⟩) (fun ρ => h.hd0 q1 ρ) (fun r1 j1 e => by subst e; simp [C.noRf] at hn)
theorem upC_ok (R : Rel w0 cl0 S ts w g) {a : AV} {c : C} {x : Value} {m' : Ms} {q : Nat} (ha : RA w g S.ms a x) (hc : RC w g 0 q c x) (h : upC S.ms c a = some m') :
    ∃ g',Rel w0 cl0 { S with ms:=m' } ts w g' ∧ UpR q g S.ms g' m':=by
  unfold upC at h
  split at h
  · rename_i r j p
    split at h
    · rename_i sz es
      split at h
      · rename_i hat
        obtain ⟨hnk,rt,d0,h1,h2,h3⟩:=at_some hat
        simp only [Ms.putAt,h1,h2] at h
        simp at h
        -- the header
        have hx : x = g.hd (r + 1) j p:=by
          cases ha with
          | pl _ _ _ _ _ _ hh => exact hh hnk
        have hOW : OW w g 0 q [] (.sl sz es) x:=by cases hc with | own _ _ ho => exact ho
        have hnk' : m'.killed r j p = false:=by
          subst h
          simp only [Ms.killed,upd_same,List.any_append,kidKills_at,Bool.false_or]
          exact hnk
        have hkl : ∀ r1 j1 ρ,m'.killed r1 j1 ρ = false → S.ms.killed r1 j1 ρ = false:=fun r1 j1 ρ hk => killed_upd (m:=S.ms) (kl:=kidKills j p sz) (by rw [← h] at hk; exact hk)
        have hhd : ∀ r1 j1 ρ,¬ (r1 = r ∧ j1 = j ∧ p <+: ρ ∧ m'.killed r j ρ = true) → (g.gv m' r j p q).hd (r1 + 1) j1 ρ = g.hd (r1 + 1) j1 ρ:=fun r1 j1 ρ hn => by
          simp only [Gh.gv]
          rw [if_neg (fun e => hn ⟨by omega,e.2.1,e.2.2.1,e.2.2.2⟩)]
        have hp0 : ∀ j1,(g.gv m' r j p q).hd (r + 1) j1 [] = g.hd (r + 1) j1 []:=fun j1 => hhd r j1 [] (fun e => by
          have hp : p = []:=List.prefix_nil.1 e.2.2.1
          rw [hp] at hnk'
          rw [hnk'] at e
          exact absurd e.2.2.2 (by simp))
        have hkid : ∀ (i c : Nat) (ρ : Pth),c < sz → (g.gv m' r j p q).hd (r + 1) j ((p ++ [(i,c)]) ++ ρ) = g.hd 0 q ([(i,c)] ++ ρ):=fun i c ρ hlt => by
          have e1 : p <+: (p ++ [(i,c)]) ++ ρ:=⟨[(i,c)] ++ ρ,by simp⟩
          have e2 : m'.killed r j ((p ++ [(i,c)]) ++ ρ) = true:=by
            refine killed_of_mem (k:=p ++ [(0,c)]) ?_ (by simpa using thr_kid p i c ρ)
            subst h
            simp only [upd_same]
            exact List.mem_append_left _ (mem_kidKills hlt)
          simp only [Gh.gv]
          rw [if_pos (by simp only [true_and]; exact ⟨e1,e2⟩)]
          simp
        have hkc : ∀ b k,g.cl b = kc k → w.heap[b]? = w.heap[b]? ∧ (g.gv m' r j p q).cl b = kc k:=fun b k hb => ⟨rfl,Gh.gv_kc.2 hb⟩
        have hcl : ∀ b ρ,g.cl b = .own 0 q ρ → (g.gv m' r j p q).cl b = .own (r + 1) j (p ++ ρ):=fun b ρ hb => by simp [Gh.gv,hb]
        have hnew : OW w (g.gv m' r j p q) (r + 1) j p (.sl sz es) x:=by
          have hph : (g.gv m' r j p q).hd (r + 1) j p = x:=by
            rw [hhd r j p (fun e => by rw [hnk'] at e; exact absurd e.2.2.2 (by simp)),hx]
          cases hOW with
          | nil _ _ hh => exact .nil _ _ hph
          | sl _ _ _ b off cap vals E hh hc0 hl hcap hw hN hk =>
            refine .sl _ _ _ b off cap vals E hph (by simpa using hcl b [] hc0) hl hcap hw hN (fun i c e d y he hd hy => ?_)
            have hlt : c < sz:=by
              have h1:=hl e (List.mem_of_getElem? he)
              have h2:=(List.getElem?_eq_some_iff.1 hd).1
              omega
            exact (hk i c e d y he hd hy).mono (q':=p ++ [(i,c)]) (fun b1 ρ hb => ⟨rfl,by simpa using hcl b1 _ hb⟩) (fun ρ => by simpa using hkid i c ρ hlt)
        have hm' : m' = upd S.ms r (some (rt.setc j (.own (d0.put p (.sl sz es)))),kidKills j p sz ++ (S.ms r).2):=h.symm
        refine ⟨g.gv m' r j p q,?_,?_⟩
        · have hr0:=R.rt r rt h1
          have hrf : ∀ r1 j1,(g.gv m' r j p q).hd (r1 + 1) j1 [] = g.hd (r1 + 1) j1 []:=fun r1 j1 => by
            by_cases e : r1 = r
            · subst e; exact hp0 j1
            · exact hhd r1 j1 [] (fun e2 => e e2.1)
          refine { av:=fun n => ?_,rt:=fun n rt1 h4 => ?_,rfs:=fun n r1 h4 => by rw [hm']; exact rfs_upd (R.rfs n r1 h4),rfc:=by rw [hm']; exact rfc_upd h1 (by simp) R.rfc,
                   bd:=fun b h4 => R.bd b (by rwa [ne_eq,Gh.gv_no] at h4),sz:=R.sz,fr:=R.fr,im:=fun b k => Gh.gv_kc.trans (R.im b k),
                   mi:=fun b h4 h5 => R.mi b h4 (by rwa [Gh.gv_mine] at h5),sd:=R.sd,pin:=fun i hi => ?_ }
          rotate_left 2
          · have h4:=R.pin i hi
            show Pin cl0 i (m' i).1 _
            by_cases e : i = r
            · subst e
              rw [h1] at h4
              rw [show (m' i).1 = some (rt.setc j (.own (d0.put p (.sl sz es)))) from by rw [hm']; simp [upd_same]]
              cases rt with
              | vir cs => exact fun j1 => (hrf _ _).trans (h4 j1)
              | bx cs => exact h4
            · rw [show (m' i).1 = (S.ms i).1 from by rw [hm']; simp [upd_ne e]]
              revert h4
              cases (S.ms i).1 with
              | none => exact id
              | some rt1 =>
                cases rt1 with
                | vir cs => exact fun h4 j1 => (hrf _ _).trans (h4 j1)
                | bx cs => exact id
          · refine (R.av n).mono hkc (fun r1 _ => ⟨rfl,fun j1 p1 h4 => ⟨hkl _ _ _ h4,hhd _ _ _ (fun e => ?_)⟩⟩)
            obtain ⟨rfl,rfl,_,e4⟩:=e
            rw [h4] at e4; cases e4
          · simp only [hm'] at h4
            by_cases e : n = r
            · subst e
              simp only [upd_same,Option.some.injEq] at h4
              subst h4
              refine hr0.put h2 h3 hkc (fun b j1 ρ h5 _ => ⟨rfl,Gh.gv_own h5⟩) (fun cs hcs => ⟨rfl,rfl,?_⟩)
                (fun j1 ρ hn => hhd _ _ _ (fun e => hn ⟨e.2.1,e.2.2.1⟩)) (fun _ _ => hrf _ _) (fun _ _ _ _ => hrf _ _) (fun y hy => ?_)
              · subst hcs
                rw [Gh.gv_box hr0.1,hr0.1]
              · cases hy with
                | dead _ _ hh => rw [← hh,← hx]; exact hnew
            · simp only [upd_ne e] at h4
              have h5:=R.rt n rt1 h4
              refine h5.mono hkc (fun b j1 ρ h6 => ⟨rfl,Gh.gv_own h6⟩) (fun cs hb => ⟨rfl,rfl,?_⟩) (fun j1 ρ => hhd _ _ _ (fun e2 => e e2.1)) (fun _ _ _ _ => hrf _ _)
              subst hb
              rw [Gh.gv_box h5.1,h5.1]
        · refine ⟨fun _ _ => Gh.gv_kc,rfl,hkl,fun r1 j1 ρ hk => hhd _ _ _ (fun e => ?_),fun b q1 ρ hq hb => by simp [Gh.gv,hb,hq],fun q1 ρ => by simp [Gh.gv],fun r1 => ?_,fun r1 => ?_,fun n hn j1 ρ => hhd _ _ _ (fun e => ?_),fun b n j1 ρ hb => Gh.gv_own hb,fun b n hb => Gh.gv_box hb⟩
          · obtain ⟨rfl,rfl,_,e4⟩:=e
            rw [hk] at e4; cases e4
          · rw [hm']
            by_cases e : r1 = r
            · subst e; simp [upd_same,h1]
            · simp [upd_ne e]
          · rw [hm']
            by_cases e : r1 = r
            · subst e; simp [upd_same,h1]
            · simp [upd_ne e]
          · rw [e.1,h1] at hn; cases hn
      · cases h
    · cases h
  · split at h
    · simp at h; subst h
      exact ⟨g,R,.refl _ _ _⟩
    · cases h
  · cases h
theorem ups_ok {as : List AV} {vals : List Value} : ∀ (us : List (Nat × Nat × C)) {lo : Nat} {S : St} {g : Gh} {m' : Ms} (R : Rel w0 cl0 S ts w g),
  (∀ (j : Nat) (a : AV),as[j]? = some a → ∃ x,vals[j]? = some x ∧ RA w g S.ms a x) →
  (∀ i j c,(i,j,c) ∈ us → lo ≤ j → ∃ x,vals[j]? = some x ∧ c.noRf = true ∧ RC w g 0 j c x) → ups as lo S.ms us = some m' →
  ∃ g',Rel w0 cl0 { S with ms:=m' } ts w g' ∧ (∀ b k,g'.cl b = kc k ↔ g.cl b = kc k) ∧ g'.bk = g.bk ∧ (∀ r j p,m'.killed r j p = false → S.ms.killed r j p = false ∧ g'.hd (r + 1) j p = g.hd (r + 1) j p) ∧
   (∀ r,(m' r).1.isSome = (S.ms r).1.isSome) ∧ (∀ n,(S.ms n).1 = none → ∀ j ρ,g'.hd (n + 1) j ρ = g.hd (n + 1) j ρ) ∧
   (∀ b n j ρ,g.cl b = .own (n + 1) j ρ → g'.cl b = .own (n + 1) j ρ) ∧ (∀ b n,g.cl b = .box n → g'.cl b = .box n):=by
 intro us
 induction us with
 | nil =>
  intro lo S g m' R _ _ h
  simp [ups] at h; subst h
  exact ⟨g,R,fun _ _ => .rfl,rfl,fun _ _ _ h => ⟨h,rfl⟩,fun _ => rfl,fun _ _ _ _ => rfl,fun _ _ _ _ h => h,fun _ _ h => h⟩
 | cons u us ih =>
  intro lo S g m' R ha hc h
  obtain ⟨i,j,c⟩:=u
  simp only [ups] at h
  split at h
  ·rename_i hij
   split at h
   ·rename_i a haj
    split at h
    ·rename_i m2 h1
     obtain ⟨x,hx,hax⟩:=ha j a haj
     obtain ⟨y,hy,hn,hcy⟩:=hc i j c (by simp) hij.2
     rw [hx] at hy; cases hy
     obtain ⟨g1,R1,U⟩:=upC_ok R hax hcy h1
     obtain ⟨g2,R2,k1,k2,k3,k4,k5,k6,k7⟩:=ih (S:={ S with ms:=m2 }) R1 (fun j a h2 => by
       obtain ⟨z,hz,hz2⟩:=ha j a h2
       exact ⟨z,hz,U.ra hz2⟩) (fun i' j' c' hm hj => by
       obtain ⟨z,hz,hz2,hz3⟩:=hc i' j' c' (by simp [hm]) (by omega)
       exact ⟨z,hz,hz2,U.rc (by omega) hz2 hz3⟩) h
     exact ⟨g2,R2,fun b k => (k1 b k).trans (U.kc b k),k2.trans U.bk,fun r j p hk => ⟨U.kl r j p (k3 r j p hk).1,(k3 r j p hk).2.trans (U.hd r j p (k3 r j p hk).1)⟩,
      fun r => (k4 r).trans (U.so r),fun n hn j ρ => (k5 n ((U.no n).1 hn) j ρ).trans (U.nw n hn j ρ),fun b n j ρ hb => k6 b n j ρ (U.ow b n j ρ hb),fun b n hb => k7 b n (U.bx b n hb)⟩
    ·cases h
   ·cases h
  ·cases h
theorem Rel.pass (R : Rel w0 cl0 S ts w g) {w' : World} {g' : Gh} {d0 : Nat} (H0 : NewR d0 w w' g g') (H : ∀ n,((S.ms n).1).isSome → ∃ d,n ≠ d ∧ NewR d w w' g g') : Rel w0 cl0 S ts w' g':=by
  have hlt : ∀ b,g.cl b ≠ .no → (∀ j ρ,g.cl b ≠ .own 0 j ρ) → w'.heap[b]? = w.heap[b]?:=fun b hb => H0.hp b (R.bd b hb)
  have hkc : ∀ b k,g.cl b = OM.kc k → w'.heap[b]? = w.heap[b]? ∧ g'.cl b = OM.kc k :=
    fun b k h => ⟨hlt b (by rw [h]; cases k <;> simp [OM.kc]) (by rw [h]; cases k <;> simp [OM.kc]),(H0.kc b k).2 h⟩
  have hhd : ∀ n,((S.ms n).1).isSome → ∀ j ρ,g'.hd (n + 1) j ρ = g.hd (n + 1) j ρ:=fun n hn j ρ => by
    obtain ⟨d,h1,h2⟩:=H n hn
    exact h2.hd n j ρ h1
  have hbk : ∀ n,((S.ms n).1).isSome → g'.bk n = g.bk n:=fun n hn => by
    obtain ⟨d,h1,h2⟩:=H n hn
    exact h2.bk n h1
  refine { av:=fun n => ?_,rt:=fun n rt1 h => ?_,rfs:=R.rfs,rfc:=R.rfc,bd:=fun b h => ?_,sz:=Nat.le_trans R.sz H0.hs,fr:=fun b hb hm => ?_,
           im:=fun b k => (H0.kc b k).trans (R.im b k),mi:=fun b hb hm => R.mi b hb (H0.mi b (Nat.lt_of_lt_of_le hb R.sz) hm),sd:=R.sd.trans H0.sd,
           pin:=fun i hi => (by
             have h:=R.pin i hi
             have hs : ((S.ms i).1).isSome:=by
               revert h
               cases (S.ms i).1 with
               | none => exact fun h => h.elim
               | some _ => exact fun _ => rfl
             have h1:=hhd i hs
             have h2:=hbk i hs
             revert h
             cases (S.ms i).1 with
             | none => exact id
             | some rt1 =>
               cases rt1 with
               | vir cs => exact fun h j1 => (h1 j1 []).trans (h j1)
               | bx cs => exact fun h => h2.trans h) }
  · exact (R.av n).mono hkc (fun r hr => ⟨hbk r (R.rfs n r hr),fun j p hk => ⟨hk,hhd r (R.rfs n r hr) j p⟩⟩)
  · have h0:=R.rt n rt1 h
    have hs : ((S.ms n).1).isSome:=by rw [h]; rfl
    obtain ⟨d,hd1,hd2⟩:=H n hs
    refine h0.mono hkc (fun b j ρ hb => ⟨hlt b (by rw [hb]; simp) (by rw [hb]; simp),hd2.cl b n j ρ hb hd1⟩) (fun cs hcs => ?_) (fun j ρ => hd2.hd n j ρ hd1) (fun j r1 j1 hc => ?_)
    · subst hcs
      exact ⟨hd2.bk n hd1,hlt _ (by rw [h0.1]; simp) (by rw [h0.1]; simp),by rw [h0.1]; exact hd2.bx _ _ h0.1 hd1⟩
    · obtain ⟨cs,h2⟩:=R.rfc n rt1 j r1 j1 h hc
      exact hhd r1 (by rw [h2]; rfl) j1 []
  · rcases H0.bd b h with h1 | h1
    · exact Nat.lt_of_lt_of_le (R.bd b h1) H0.hs
    · exact h1.2
  · rw [H0.hp b (Nat.lt_of_lt_of_le hb R.sz) (fun j ρ h => by
      have:=R.mi b hb (by rw [h]; rfl)
      rw [this] at hm; cases hm)]
    exact R.fr b hb hm
def Gh.gi (g : Gh) (X : Nat → Value) (lent : Bool) : Gh where
 cl:=fun b => match g.cl b with
  | .imm => .imm
  | .bor => .bor
  | .own 0 q ρ => .own 1 q ρ
  | .own (_ + 1) _ _ => if lent then .bor else .no
  | .box _ => if lent then .bor else .no
  | .no => .no
 hd:=fun r j ρ => if r = 1 then (if ρ = [] then X j else g.hd 0 j ρ) else g.hd r j ρ
 bk:=g.bk
def Cls.held : Cls → Bool
 | .own 0 _ _ => true
 | _ => false
def Gh.go (g g' : Gh) (size d bR : Nat) (cr : Bool) (X : Nat → Value) : Gh where
 cl:=fun b => if b < size ∧ (g.cl b).held = false then g.cl b else match g'.cl b with
  | .own 1 q ρ => .own 0 q ρ
  | .own 0 n ρ => if cr then .own (d + 1) n ρ else .no
  | .box _ => if cr = true ∧ b = bR then .box d else .no
  | _ => .no
 hd:=fun r j ρ => if r = 0 then g'.hd 1 j ρ else if r = d + 1 ∧ cr = true then (if ρ = [] then X j else g'.hd 0 j ρ) else g.hd r j ρ
 bk:=if cr then upd g.bk d bR else g.bk
theorem Gh.gi_up {X : Nat → Value} {lent : Bool} {b : Nat} {k : Bool} (h : g.cl b = kc k) : (g.gi X lent).cl b = kc k:=by
 cases k <;> simp [kc] at h ⊢ <;> simp [Gh.gi,h]
theorem Gh.gi_down {X : Nat → Value} {lent : Bool} {b : Nat} {k : Bool} (hk : k = false ∨ lent = false) (h : (g.gi X lent).cl b = kc k) : g.cl b = kc k:=by
 simp only [Gh.gi] at h
 revert h
 cases hg : g.cl b with
 | own n j ρ => rcases hk with rfl | rfl <;> cases n <;> first | (cases lent <;> simp [kc]; done) | (cases k <;> simp [kc])
 | box r => rcases hk with rfl | rfl <;> first | (cases lent <;> simp [kc]; done) | (cases k <;> simp [kc])
 | no => cases k <;> simp [kc]
 | imm => simp
 | bor => simp
theorem Gh.gi_lend {X : Nat → Value} {lent : Bool} {b : Nat} {k : Bool} (h : (g.lend lent true fun _ => false).cl b = kc k) : (g.gi X lent).cl b = kc k:=by
 simp only [Gh.gi,Gh.lend] at h ⊢
 revert h
 cases hg : g.cl b with
 | own n j ρ => cases n <;> simp <;> cases k <;> simp [kc]
 | box r => simp
 | no => simp
 | imm => simp
 | bor => simp
theorem Gh.gi_no {X : Nat → Value} {lent : Bool} {b : Nat} (h : g.cl b = .no) : (g.gi X lent).cl b = .no:=by simp [Gh.gi,h]
theorem Gh.gi_mine {X : Nat → Value} {lent : Bool} {b : Nat} : ((g.gi X lent).cl b).mine = (g.cl b).held:=by
 simp only [Gh.gi]
 cases hb : g.cl b with
 | own n j ρ => cases n <;> cases lent <;> rfl
 | box r => cases lent <;> rfl
 | _ => rfl
theorem Cls.held_own {c : Cls} (h : c.held = true) : ∃ q ρ,c = .own 0 q ρ:=by
 cases c with
 | own r j p =>
  cases r with
  | zero => exact ⟨_,_,rfl⟩
  | succ r => simp [Cls.held] at h
 | _ => simp [Cls.held] at h
theorem NewR.go {w' : World} {g' : Gh} {d bR : Nat} {cr lent : Bool} {X X' : Nat → Value} (hbd : ∀ b,g.cl b ≠ .no → b < w.heap.size)
    (hfr : ∀ b,b < w.heap.size → ((g.gi X' lent).cl b).mine = false → w'.heap[b]? = w.heap[b]?) (hs : w.heap.size ≤ w'.heap.size) (hsd : Same w w')
    (hbd' : ∀ b,g'.cl b ≠ .no → b < w'.heap.size) (n : Nat) (hn : cr = true → n = d) : NewR n w w' g (g.go g' w.heap.size d bR cr X):=by
  have hkeep : ∀ b,g.cl b ≠ .no → (g.cl b).held = false → (g.go g' w.heap.size d bR cr X).cl b = g.cl b:=fun b h1 h2 => by
    simp only [Gh.go]; rw [if_pos ⟨hbd b h1,h2⟩]
  refine { hp:=fun b h h2 => hfr b h ?_,hs:=hs,kc:=fun b k => ?_,cl:=fun b n1 j ρ h _ => ?_,bx:=fun b n1 h _ => ?_,hd:=fun n1 j ρ h => ?_,
           bk:=fun n1 h => ?_,bd:=fun b h => ?_,mi:=fun b hb h => ?_,sd:=hsd }
  · rw [Gh.gi_mine]
    cases hh : (g.cl b).held with
    | false => rfl
    | true => obtain ⟨q,ρ,e⟩:=Cls.held_own hh; exact absurd e (h2 q ρ)
  · by_cases hb : b < w.heap.size ∧ (g.cl b).held = false
    · simp only [Gh.go]; rw [if_pos hb]
    · have h1 : ∀ k,g.cl b ≠ OM.kc k:=fun k e => hb ⟨hbd b (by rw [e]; cases k <;> simp [OM.kc]),by rw [e]; cases k <;> rfl⟩
      constructor
      · intro h2
        simp only [Gh.go] at h2
        rw [if_neg hb] at h2
        split at h2 <;> first | (cases k <;> simp [OM.kc] at h2; done) | (split at h2 <;> cases k <;> simp [OM.kc] at h2)
      · exact fun h2 => absurd h2 (h1 k)
  · rw [hkeep b (by rw [h]; simp) (by rw [h]; rfl)]; exact h
  · rw [hkeep b (by rw [h]; simp) (by rw [h]; rfl)]; exact h
  · simp only [Gh.go]
    rw [if_neg (by omega),if_neg (fun e => h (by have:=hn e.2; omega))]
  · simp only [Gh.go]
    cases hcr : cr with
    | false => simp
    | true => have:=hn hcr; subst this; simp [upd,h]
  · by_cases hb : b < w.heap.size ∧ (g.cl b).held = false
    · left
      simp only [Gh.go] at h; rw [if_pos hb] at h; exact h
    · by_cases hlt : b < w.heap.size
      · left
        have : (g.cl b).held = true:=by
          cases hh : (g.cl b).held with
          | true => rfl
          | false => exact absurd ⟨hlt,hh⟩ hb
        obtain ⟨q,ρ,e⟩:=Cls.held_own this
        rw [e]; simp
      · right
        refine ⟨by omega,hbd' b (fun e => ?_)⟩
        simp only [Gh.go] at h
        rw [if_neg hb,e] at h
        exact h rfl
  · by_cases hb2 : (g.cl b).held = false
    · simp only [Gh.go] at h; rw [if_pos ⟨hb,hb2⟩] at h; exact h
    · obtain ⟨q,ρ,e⟩:=Cls.held_own (c:=g.cl b) (by simpa using hb2)
      rw [e]; rfl
section
variable {w' : World} {g' : Gh} {d bR : Nat} {cr lent : Bool} {X X' : Nat → Value}
theorem go_cl (hmi : ∀ b,b < w.heap.size → (g'.cl b).mine = true → ((g.gi X' lent).cl b).mine = true) {b : Nat} (hm : (g'.cl b).mine = true) :
  (g.go g' w.heap.size d bR cr X).cl b = match g'.cl b with
   | .own 1 q ρ => .own 0 q ρ
   | .own 0 n ρ => if cr then .own (d + 1) n ρ else .no
   | .box _ => if cr = true ∧ b = bR then .box d else .no
   | _ => .no:=by
 simp only [Gh.go]
 rw [if_neg (fun e => ?_)]
 have:=hmi b e.1 hm
 rw [Gh.gi_mine,e.2] at this
 cases this
theorem go_ro (him : ∀ b k,g'.cl b = kc k ↔ (g.gi X' lent).cl b = kc k) (hbd : ∀ b,g.cl b ≠ .no → b < w.heap.size) {k : Bool} {dd : D} {x : Value} (hok : (C.ro k dd).okRes = true ∨ lent = false) (h : RO w' g'.cl k dd x) :
  RO w' (g.go g' w.heap.size d bR cr X).cl k dd x:=by
 by_cases hs : dd.scal = true
 ·exact h.scal hs
 have hk2 : k = false ∨ lent = false:=by
  rcases hok with hok | hok
  ·left; simpa [C.okRes,hs] using hok
  ·exact .inr hok
 exact h.mono fun b hb => ⟨rfl,by
  have h1:=Gh.gi_down hk2 ((him b k).1 hb)
  simp only [Gh.go]
  rw [if_pos ⟨hbd b (by rw [h1]; cases k <;> simp [kc]),by rw [h1]; cases k <;> rfl⟩]
  exact h1⟩
theorem go_held (hmi : ∀ b,b < w.heap.size → (g'.cl b).mine = true → ((g.gi X' lent).cl b).mine = true) (him : ∀ b k,g'.cl b = kc k ↔ (g.gi X' lent).cl b = kc k) (hbd : ∀ b,g.cl b ≠ .no → b < w.heap.size)
  {j : Nat} {c : C} {x : Value} (hok : c.okRes = true ∨ lent = false) (hn : c.noRf = true) (h : RC w' g' 1 j c x) : RC w' (g.go g' w.heap.size d bR cr X) 0 j c x:=by
 cases h with
 | ro k dd _ h => exact .ro _ _ _ (go_ro him hbd hok h)
 | own dd _ h =>
  refine .own _ _ (h.mono (q':=[]) (fun b ρ hb => ⟨rfl,?_⟩) (fun ρ => by simp [Gh.go]))
  rw [go_cl hmi (by rw [hb]; rfl),hb]; rfl
 | rf => simp [C.noRf] at hn
theorem go_res (hmi : ∀ b,b < w.heap.size → (g'.cl b).mine = true → ((g.gi X' lent).cl b).mine = true) (him : ∀ b k,g'.cl b = kc k ↔ (g.gi X' lent).cl b = kc k) (hbd : ∀ b,g.cl b ≠ .no → b < w.heap.size)
  {j : Nat} {c : C} {x : Value} (hok : c.okRes = true ∨ lent = false) (hn : c.noRf = true) (hx : X j = x) (h : RC w' g' 0 j c x) : RC w' (g.go g' w.heap.size d bR true X) (d + 1) j c x:=by
 cases h with
 | ro k dd _ h => exact .ro _ _ _ (go_ro him hbd hok h)
 | own dd _ h =>
  refine .own _ _ (Hd.place (w:=w') (g:=g') (.inl h) (fun b ρ hb => ⟨rfl,?_⟩) (fun ρ hρ => ?_) ?_)
  ·rw [go_cl hmi (by rw [hb]; rfl),hb]
   simp
  ·simp [Gh.go,hρ]
  ·simp [Gh.go,hx]
 | rf => simp [C.noRf] at hn
end
end
end Go.Proofs.YtmlinnkaccgcgaaGreat.OM
