/- The own machine: an operation sees and turns only the roots of its operands. -/
import Derived.Test.YtmlinnkaccgcgaaGreatOMDef
set_option linter.all false
namespace Go.Proofs.YtmlinnkaccgcgaaGreat.OM
def Fr (W : Nat → Prop) (m m' m1 m1' : Ms) : Prop:=(∀ r,W r → m1' r = m' r) ∧ (∀ r,¬ W r → m' r = m r) ∧ (∀ r,¬ W r → m1' r = m1 r)
section
variable {m m' m1 : Ms}
theorem Fr.none {W : Nat → Prop} (h : ∀ r,W r → m1 r = m r) : Fr W m m m1 m1:=⟨h,fun _ _ => rfl,fun _ _ => rfl⟩
theorem Fr.trans {W W2 W' : Nat → Prop} {m'' m1' m1'' : Ms} (h : Fr W m m' m1 m1') (h' : Fr W' m' m'' m1' m1'') (h1 : ∀ r,W r → W2 r) (h2 : ∀ r,W' r → W2 r)
  (ha : ∀ r,W2 r → m1 r = m r) : Fr W2 m m'' m1 m1'':=by
 refine ⟨fun r hr => ?_,fun r hr => ?_,fun r hr => ?_⟩
 ·by_cases h3 : W' r
  ·exact h'.1 r h3
  ·rw [h'.2.2 r h3,h'.2.1 r h3]
   by_cases h4 : W r
   ·exact h.1 r h4
   ·rw [h.2.2 r h4,h.2.1 r h4]; exact ha r hr
 ·rw [h'.2.1 r (fun e => hr (h2 r e)),h.2.1 r (fun e => hr (h1 r e))]
 ·rw [h'.2.2 r (fun e => hr (h2 r e)),h.2.2 r (fun e => hr (h1 r e))]
theorem Fr.agree {W : Nat → Prop} {m1' : Ms} (h : Fr W m m' m1 m1') {r : Nat} (hr : m1 r = m r) : m1' r = m' r:=by
 by_cases h1 : W r
 ·exact h.1 r h1
 ·rw [h.2.2 r h1,h.2.1 r h1,hr]
theorem Fr.wide {W W2 : Nat → Prop} {m1' : Ms} (h : Fr W m m' m1 m1') (h1 : ∀ r,W r → W2 r) (ha : ∀ r,W2 r → m1 r = m r) : Fr W2 m m' m1 m1' :=
 ⟨fun r hr => h.agree (ha r hr),fun r hr => h.2.1 r fun e => hr (h1 r e),fun r hr => h.2.2 r fun e => hr (h1 r e)⟩
theorem killed_congr {r j : Nat} {p : Pth} (h : m1 r = m r) : m1.killed r j p = m.killed r j p:=by simp only [Ms.killed,h]
theorem cell_congr {r j : Nat} (h : m1 r = m r) : m1.cell r j = m.cell r j:=by simp only [Ms.cell,h]
theorem at_congr {r j : Nat} {p : Pth} (h : m1 r = m r) : m1.at r j p = m.at r j p:=by simp only [Ms.at,killed_congr h,cell_congr h]
theorem Fr.upd {r : Nat} {x : Mem} : Fr (· = r) m (OM.upd m r x) m1 (OM.upd m1 r x) :=
 ⟨fun k hk => by simp [OM.upd,hk],fun k hk => by simp [OM.upd,hk],fun k hk => by simp [OM.upd,hk]⟩
theorem putAt_fr {r j : Nat} {p : Pth} {x : D} {kl : List (Nat × Pth)} (h : m.putAt r j p x kl = some m') (ha : m1 r = m r) :
  ∃ m1',m1.putAt r j p x kl = some m1' ∧ Fr (· = r) m m' m1 m1':=by
 simp only [Ms.putAt,ha] at h ⊢
 split at h
 ·split at h
  ·simp at h; subst h
   exact ⟨_,rfl,.upd⟩
  ·cases h
 ·cases h
theorem take_fr {r j : Nat} {p : Pth} {d : D} (h : m.take r j p = some (d,m')) (ha : m1 r = m r) :
  ∃ m1',m1.take r j p = some (d,m1') ∧ Fr (· = r) m m' m1 m1':=by
 simp only [Ms.take,at_congr ha] at h ⊢
 split at h
 ·split at h
  ·rename_i m2 hp
   simp at h; obtain ⟨rfl,rfl⟩:=h
   obtain ⟨m1',h1,h2⟩:=putAt_fr hp ha
   exact ⟨m1',by simp [h1],h2⟩
  ·cases h
 ·cases h
theorem els_congr {a : AV} (ha : ∀ r ∈ a.refs,m1 r = m r) : m1.els a = m.els a:=by
 cases a with
 | v k d => cases d <;> rfl
 | pl r j p => simp only [Ms.els,at_congr (ha r (by simp [AV.refs]))]
 | rg r j p sz lo hi => simp only [Ms.els,at_congr (ha r (by simp [AV.refs]))]
 | _ => rfl
theorem absC_fr {a : AV} {c : C} (h : absC m a = some (c,m')) (ha : ∀ r ∈ a.refs,m1 r = m r) :
  ∃ m1',absC m1 a = some (c,m1') ∧ Fr (· ∈ a.refs) m m' m1 m1':=by
 unfold absC at h
 split at h
 ·cases h
 ·rename_i k d hd
  simp at h; obtain ⟨rfl,rfl⟩:=h
  exact ⟨m1,by cases d <;> first | rfl | exact absurd rfl hd,.none ha⟩
 ·simp at h; obtain ⟨rfl,rfl⟩:=h
  exact ⟨m1,rfl,.none ha⟩
 ·rename_i r j p
  split at h
  ·rename_i d m2 ht
   simp at h; obtain ⟨rfl,rfl⟩:=h
   obtain ⟨m1',h1,h2⟩:=take_fr ht (ha r (by simp [AV.refs]))
   exact ⟨m1',by simp [absC,h1],h2.wide (fun q hq => by simp [AV.refs,hq]) ha⟩
  ·cases h
 ·rename_i r j p sz hi
  split at h
  ·rename_i es _ m2 hcut ht
   simp at h; obtain ⟨rfl,rfl⟩:=h
   obtain ⟨m1',h1,h2⟩:=take_fr ht (ha r (by simp [AV.refs]))
   exact ⟨m1',by simp [absC,h1,at_congr (ha r (by simp [AV.refs])),hcut],h2.wide (fun q hq => by simp [AV.refs,hq]) ha⟩
  ·cases h
 ·cases h
theorem absCs_fr : ∀ (as : List AV) {cs : List C} {m m' m1 : Ms},absCs m as = some (cs,m') → (∀ r ∈ AV.refsL as,m1 r = m r) →
  ∃ m1',absCs m1 as = some (cs,m1') ∧ Fr (· ∈ AV.refsL as) m m' m1 m1':=by
 intro as
 induction as with
 | nil => intro cs m m' m1 h ha; simp [absCs] at h; obtain ⟨rfl,rfl⟩:=h; exact ⟨m1,rfl,.none ha⟩
 | cons a as ih =>
  intro cs m m' m1 h ha
  simp only [absCs] at h
  split at h
  ·rename_i c m2 h1
   split at h
   ·rename_i cs2 m3 h2
    simp at h; obtain ⟨rfl,rfl⟩:=h
    obtain ⟨q1,e1,f1⟩:=absC_fr h1 (m1:=m1) (fun r hr => ha r (by simp [AV.refsL,hr]))
    obtain ⟨q2,e2,f2⟩:=ih h2 (m1:=q1) (fun r hr => f1.agree (ha r (by simp [AV.refsL,hr])))
    exact ⟨q2,by simp [absCs,e1,e2],f1.trans f2 (fun r hr => by simp [AV.refsL,hr]) (fun r hr => by simp [AV.refsL,hr]) ha⟩
   ·cases h
  ·cases h
theorem refC_congr {a : AV} (ha : ∀ r ∈ a.refs,m1 r = m r) : refC m1 a = refC m a:=by
 cases a with
 | v k d => cases d <;> rfl
 | pl r j p => cases p with
  | nil => simp only [refC,ha r (by simp [AV.refs]),killed_congr (ha r (by simp [AV.refs]))]
  | cons => rfl
 | _ => rfl
theorem refCs_congr : ∀ (as : List AV),(∀ r ∈ AV.refsL as,m1 r = m r) → refCs m1 as = refCs m as:=by
 intro as
 induction as with
 | nil => intro _; rfl
 | cons a as ih =>
  intro ha
  simp only [refCs,refC_congr (a:=a) fun r hr => ha r (by simp [AV.refsL,hr]),ih fun r hr => ha r (by simp [AV.refsL,hr])]
theorem loadC_congr {n : Nat} {a : AV} (ha : ∀ r ∈ a.refs,m1 r = m r) : loadC m1 n a = loadC m n a:=by
 cases a with
 | bx r j => simp only [loadC,ha r (by simp [AV.refs])]
 | ad r j p sz i c => simp only [loadC,at_congr (ha r (by simp [AV.refs]))]
 | v k d => cases d <;> rfl
 | _ => rfl
theorem storeC_fr {cs : List C} {a : AV} (h : storeC m cs a = some m') (ha : ∀ r ∈ a.refs,m1 r = m r) :
  ∃ m1',storeC m1 cs a = some m1' ∧ Fr (· ∈ a.refs) m m' m1 m1':=by
 cases a with
 | bx r j =>
  simp only [storeC,ha r (by simp [AV.refs])] at h ⊢
  split at h
  ·split at h
   ·rename_i hl
    simp at h; subst h
    refine ⟨_,by rw [if_pos hl],Fr.upd.wide (fun q hq => by simp [AV.refs,hq]) ha⟩
   ·cases h
  ·cases h
 | ad r j p sz i c =>
  simp only [storeC] at h ⊢
  rw [at_congr (ha r (by simp [AV.refs]))]
  split at h
  ·split at h
   ·split at h
    ·rename_i ds hds _ sz' es hat e he
     split at h
     ·rename_i hl
      obtain ⟨m1',h1,h2⟩:=putAt_fr h (ha r (by simp [AV.refs]))
      refine ⟨m1',?_,h2.wide (fun q hq => by simp [AV.refs,hq]) ha⟩
      simp only [he,if_pos hl,h1]
     ·cases h
    ·cases h
   ·cases h
  ·cases h
 | _ => simp [storeC] at h
theorem refs_cells (a : AV) : AV.refsL a.cells = a.refs:=by
 cases a <;> simp [AV.cells,AV.refsL,AV.refs]
theorem fillD_fr {sz : Nat} : ∀ (ps : List (Nat × AV)) {l l' : List D} {m m' m1 : Ms},fillD m sz l ps = some (l',m') →
  (∀ x ∈ ps,∀ r ∈ x.2.refs,m1 r = m r) → ∃ m1',fillD m1 sz l ps = some (l',m1') ∧ Fr (fun r => ∃ x ∈ ps,r ∈ x.2.refs) m m' m1 m1':=by
 intro ps
 induction ps with
 | nil => intro l l' m m' m1 h ha; simp [fillD] at h; obtain ⟨rfl,rfl⟩:=h; exact ⟨m1,rfl,.none fun r hr => by simp at hr⟩
 | cons x ps ih =>
  intro l l' m m' m1 h ha
  obtain ⟨off,a⟩:=x
  simp only [fillD] at h
  split at h
  ·rename_i cs m2 h1
   split at h
   ·rename_i ds hds
    split at h
    ·rename_i hl
     have ha0 : ∀ r ∈ a.refs,m1 r = m r:=fun r hr => ha (off,a) (by simp) r hr
     obtain ⟨q1,e1,f1⟩:=absCs_fr a.cells h1 (m1:=m1) (fun r hr => ha0 r (by rwa [refs_cells] at hr))
     obtain ⟨q2,e2,f2⟩:=ih h (m1:=q1) (fun x hx r hr => f1.agree (ha x (by simp [hx]) r hr))
     refine ⟨q2,by simp only [fillD,e1,hds,if_pos hl,e2],f1.trans f2 (fun r hr => ⟨(off,a),by simp,by rwa [refs_cells] at hr⟩) (fun r hr => ?_) (fun r hr => ?_)⟩
     ·obtain ⟨x,hx,hr⟩:=hr; exact ⟨x,by simp [hx],hr⟩
     ·obtain ⟨x,hx,hr⟩:=hr; exact ha x hx r hr
    ·cases h
   ·cases h
  ·cases h
theorem outV_fr {a : AV} {x : V} (h : outV m a = some (x,m')) (ha : ∀ r ∈ a.refs,m1 r = m r) : ∃ m1',outV m1 a = some (x,m1') ∧ Fr (· ∈ a.refs) m m' m1 m1':=by
 have one : (∀ cs,a ≠ .agg cs) → ∃ m1',outV m1 a = some (x,m1') ∧ Fr (· ∈ a.refs) m m' m1 m1':=by
  intro hn
  have e1 : ∀ q : Ms,outV q a = match absC q a with
   | some (c,q') => some (.one c,q')
   | none => none:=by
   intro q
   cases a with
   | agg cs => exact absurd rfl (hn cs)
   | _ => rfl
  rw [e1] at h
  split at h
  ·rename_i c m2 h1
   simp at h; obtain ⟨rfl,rfl⟩:=h
   obtain ⟨q1,e2,f1⟩:=absC_fr h1 ha
   exact ⟨q1,by rw [e1,e2],f1⟩
  ·cases h
 cases a with
 | agg cs =>
  simp only [outV] at h
  split at h
  ·rename_i l m2 h1
   simp at h; obtain ⟨rfl,rfl⟩:=h
   obtain ⟨q1,e1,f1⟩:=absCs_fr cs h1 (m1:=m1) (fun r hr => ha r (by simpa [AV.refs] using hr))
   exact ⟨q1,by simp only [outV,e1],f1.wide (fun r hr => by simpa [AV.refs] using hr) ha⟩
  ·cases h
 | _ => exact one (fun cs e => by cases e)
theorem upC_fr {a : AV} {c : C} (h : upC m c a = some m') (ha : ∀ r ∈ a.refs,m1 r = m r) : ∃ m1',upC m1 c a = some m1' ∧ Fr (· ∈ a.refs) m m' m1 m1':=by
 cases a with
 | pl r j p =>
  have hr : m1 r = m r:=ha r (by simp [AV.refs])
  simp only [upC,at_congr hr] at h ⊢
  split at h
  ·split at h
   ·obtain ⟨q,e,f⟩:=putAt_fr h hr
    exact ⟨q,e,f.wide (fun k hk => by subst hk; simp [AV.refs]) (fun k hk => by simp [AV.refs] at hk; subst hk; exact hr)⟩
   ·cases h
  ·cases h
 | nl sz =>
  simp only [upC] at h ⊢
  split at h
  ·simp at h; subst h; exact ⟨m1,rfl,.none fun r hr => by simp [AV.refs] at hr⟩
  ·cases h
 | _ => simp [upC] at h
theorem ups_fr {cs : List AV} : ∀ (us : List (Nat × Nat × C)) {lo : Nat} {m m' m1 : Ms},ups cs lo m us = some m' → (∀ r ∈ AV.refsL cs,m1 r = m r) → ∃ m1',ups cs lo m1 us = some m1' ∧ Fr (· ∈ AV.refsL cs) m m' m1 m1':=by
 intro us
 induction us with
 | nil => intro lo m m' m1 h ha; simp [ups] at h; subst h; exact ⟨m1,rfl,.none ha⟩
 | cons u us ih =>
  intro lo m m' m1 h ha
  obtain ⟨i,j,c⟩:=u
  simp only [ups] at h
  split at h
  ·rename_i hi
   split at h
   ·rename_i a hj
    split at h
    ·rename_i m2 h1
     have hsub : ∀ r ∈ a.refs,r ∈ AV.refsL cs:=fun r hr => by
      clear ih h h1 ha hi
      induction cs generalizing j with
      | nil => simp at hj
      | cons b cs ih2 =>
       simp only [AV.refsL,List.mem_append]
       cases j with
       | zero => simp at hj; subst hj; exact .inl hr
       | succ j => exact .inr (ih2 j (by simpa using hj))
     obtain ⟨q1,e1,f1⟩:=upC_fr h1 (m1:=m1) (fun r hr => ha r (hsub r hr))
     obtain ⟨q2,e2,f2⟩:=ih h (m1:=q1) (fun r hr => f1.agree (ha r hr))
     exact ⟨q2,by simp only [ups,if_pos hi,hj,e1,e2],f1.trans f2 hsub (fun r hr => hr) ha⟩
    ·cases h
   ·cases h
  ·cases h
theorem borC_congr {a : AV} (ha : ∀ r ∈ a.refs,m1 r = m r) : borC m1 a = borC m a:=by
 cases a with
 | v k d => cases d <;> rfl
 | pl r j p => simp only [borC,at_congr (ha r (by simp [AV.refs]))]
 | rg r j p sz lo hi => simp only [borC,at_congr (ha r (by simp [AV.refs]))]
 | fv f r => simp only [borC,ha r (by simp [AV.refs])]
 | bx r j => cases j <;> simp only [borC,ha r (by simp [AV.refs])]
 | _ => rfl
theorem iooC_congr {a : AV} (ha : ∀ r ∈ a.refs,m1 r = m r) : iooC m1 a = iooC m a:=by
 cases a with
 | v k d => cases d <;> rfl
 | pl r j p => simp only [iooC,at_congr (ha r (by simp [AV.refs]))]
 | _ => rfl
theorem borCs_congr : ∀ (as : List AV),(∀ r ∈ AV.refsL as,m1 r = m r) → borCs m1 as = borCs m as:=by
 intro as
 induction as with
 | nil => intro _; rfl
 | cons a as ih =>
  intro ha
  simp only [borCs,borC_congr (a:=a) fun r hr => ha r (by simp [AV.refsL,hr]),ih fun r hr => ha r (by simp [AV.refsL,hr])]
theorem iooCs_congr : ∀ (as : List AV),(∀ r ∈ AV.refsL as,m1 r = m r) → iooCs m1 as = iooCs m as:=by
 intro as
 induction as with
 | nil => intro _; rfl
 | cons a as ih =>
  intro ha
  simp only [iooCs,iooC_congr (a:=a) fun r hr => ha r (by simp [AV.refsL,hr]),ih fun r hr => ha r (by simp [AV.refsL,hr])]
theorem argV_congr {a : AV} (io : Bool) (ha : ∀ r ∈ a.refs,m1 r = m r) : argV m1 io a = argV m io a:=by
 cases a with
 | agg cs => simp only [argV,borCs_congr cs ha,iooCs_congr cs ha]
 | _ => simp only [argV,borC_congr ha,iooC_congr ha]
theorem argVs_congr (io : List Nat) : ∀ (as : List AV) (i : Nat),(∀ a ∈ as,∀ r ∈ a.refs,m1 r = m r) → argVs m1 io i as = argVs m io i as:=by
 intro as
 induction as with
 | nil => intro _ _; rfl
 | cons a as ih =>
  intro i ha
  simp only [argVs,argV_congr (io.contains i) (ha a (by simp)),ih (i + 1) fun b hb => ha b (by simp [hb])]
theorem loHi_congr {len : Nat} {ev ev' : PX → AV} {lo hi : Option PX} (h1 : ∀ x ∈ lo.toList,ev' x = ev x) (h2 : ∀ x ∈ hi.toList,ev' x = ev x) : loHi len ev' lo hi = loHi len ev lo hi:=by
 cases lo <;> cases hi <;> simp_all [loHi]
end
end Go.Proofs.YtmlinnkaccgcgaaGreat.OM
