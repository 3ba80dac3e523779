/- The own machine: the operations' footprints, and two steps in either order. -/
import Derived.Test.YtmlinnkaccgcgaaGreatOMFr
set_option linter.all false
namespace Go.Proofs.YtmlinnkaccgcgaaGreat.OM
def opR (ev : PX → AV) (op : POp) (r : Nat) : Prop:=∃ x ∈ op.reads,r ∈ (ev x).refs
def opW (ev : PX → AV) (op : POp) (r : Nat) : Prop:=∃ x ∈ op.takes,r ∈ (ev x).refs
theorem takes_reads {op : POp} {x : PX} (h : x ∈ op.takes) : x ∈ op.reads:=by
 cases op with
 | call f io args =>
  simp only [POp.takes] at h
  split at h
  ·simp at h
  ·exact h
 | appf sz by' a b => simp [POp.takes] at h; subst h; simp [POp.reads]
 | apps a b => simp [POp.takes] at h; subst h; simp [POp.reads]
 | clr s z a => simp [POp.takes] at h; subst h; simp [POp.reads]
 | callm f i as => exact h
 | _ => first | exact h | (simp [POp.takes] at h)
theorem reads_opnds {op : POp} {x : PX} (h : x ∈ op.reads) : x ∈ op.opnds:=by
 cases op <;> first | exact h | exact List.mem_cons_of_mem _ h | (simp [POp.reads] at h; done) | (simp [POp.reads] at h; subst h; simp [POp.opnds])
section
variable {Γ : Env} {ev ev' : PX → AV} {d : Nat} {m m' m1 : Ms} {av : AV} {rt : Option Rt}
theorem ptr?_congr {a : AV} (h : ∀ r ∈ a.refs,m1 r = m r) : a.ptr? m1 = a.ptr? m:=by
 cases a with
 | bx r j =>
  cases j with
  | zero => simp only [AV.ptr?,h r (by simp [AV.refs])]
  | succ j => rfl
 | _ => rfl
theorem opf_fr {op : POp} (hcon : ∀ a,ev (.c a) = a) (hev : ∀ x ∈ op.opnds,ev' x = ev x) (hm : ∀ r,opR ev op r → m1 r = m r) (h : opf Γ ev d m op = some (av,rt,m')) :
  ∃ m1',opf Γ ev' d m1 op = some (av,rt,m1') ∧ Fr (opW ev op) m m' m1 m1':=by
 have hW : ∀ r,opW ev op r → m1 r = m r:=fun r ⟨x,hx,hr⟩ => hm r ⟨x,takes_reads hx,hr⟩
 -- operations that leave the memory as it is
 have pure0 : opf Γ ev' d m1 op = (match opf Γ ev d m op with | some (a,b,_) => some (a,b,m1) | none => none) → m' = m →
   ∃ m1',opf Γ ev' d m1 op = some (av,rt,m1') ∧ Fr (opW ev op) m m' m1 m1':=by
  intro h1 h2
  subst h2
  exact ⟨m1,by rw [h1,h],.none hW⟩
 cases op with
 | mv x =>
  simp only [opf,hev x (by simp [POp.opnds])] at h ⊢
  simp at h; obtain ⟨rfl,rfl,rfl⟩:=h; exact ⟨m1,rfl,.none hW⟩
 | pick c x y =>
  simp only [opf,hev x (by simp [POp.opnds]),hev y (by simp [POp.opnds]),hev c (by simp [POp.opnds])] at h ⊢
  split at h
  ·simp at h; obtain ⟨rfl,rfl,rfl⟩:=h; exact ⟨m1,rfl,.none hW⟩
  ·cases h
 | bin b x y =>
  simp only [opf,hev x (by simp [POp.opnds]),hev y (by simp [POp.opnds])] at h ⊢
  split at h
  ·split at h
   ·rename_i hx hy _ _ hb; simp at h; obtain ⟨rfl,rfl,rfl⟩:=h; exact ⟨m1,by simp only [hx,hy,hb],.none hW⟩
   ·cases h
  ·cases h
 | eqs n ks x y =>
  simp only [opf,hev x (by simp [POp.opnds]),hev y (by simp [POp.opnds])] at h ⊢
  split at h
  ·split at h
   ·rename_i hx hy _ _ hb; simp at h; obtain ⟨rfl,rfl,rfl⟩:=h; exact ⟨m1,by simp only [hx,hy,hb],.none hW⟩
   ·cases h
  ·cases h
 | eqb n x y =>
  simp only [opf,hev x (by simp [POp.opnds]),hev y (by simp [POp.opnds])] at h ⊢
  split at h
  ·rename_i _ _ hx hy; simp at h; obtain ⟨rfl,rfl,rfl⟩:=h; exact ⟨m1,by simp only [hx,hy],.none hW⟩
  ·cases h
 | un u x =>
  simp only [opf,hev x (by simp [POp.opnds])] at h ⊢
  split at h
  ·split at h
   ·rename_i hx _ _ hb; simp at h; obtain ⟨rfl,rfl,rfl⟩:=h; exact ⟨m1,by simp only [hx,hb],.none hW⟩
   ·cases h
  ·cases h
 | len x =>
  have e1 : m1.els (ev x) = m.els (ev x):=els_congr fun r hr => hm r ⟨x,by simp [POp.reads],hr⟩
  simp only [opf,hev x (by simp [POp.opnds]),e1] at h ⊢
  split at h
  ·rename_i _ _ hx; simp at h; obtain ⟨rfl,rfl,rfl⟩:=h; exact ⟨m1,by simp only [hx],.none hW⟩
  ·cases h
 | lens x =>
  simp only [opf,hev x (by simp [POp.opnds])] at h ⊢
  split at h
  ·rename_i _ _ hx; simp at h; obtain ⟨rfl,rfl,rfl⟩:=h; exact ⟨m1,by simp only [hx],.none hW⟩
  ·cases h
 | box n x =>
  have e1 : refCs m1 (ev x).cells = refCs m (ev x).cells:=refCs_congr _ fun r hr => hm r ⟨x,by simp [POp.reads],by rwa [refs_cells] at hr⟩
  simp only [opf,hev x (by simp [POp.opnds]),e1] at h ⊢
  split at h
  ·split at h
   ·rename_i _ hx hl; simp at h; obtain ⟨rfl,rfl,rfl⟩:=h; exact ⟨m1,by simp only [hx,if_pos hl],.none hW⟩
   ·cases h
  ·cases h
 | alloc zs =>
  have e1 : refCs m1 zs = refCs m zs:=refCs_congr _ fun r hr => by
   have hmem : ∀ (l : List AV),r ∈ AV.refsL l → ∃ a ∈ l,r ∈ a.refs:=by
    intro l
    induction l with
    | nil => intro h; simp [AV.refsL] at h
    | cons b l ih =>
     intro h
     simp only [AV.refsL,List.mem_append] at h
     rcases h with h | h
     ·exact ⟨b,by simp,h⟩
     ·obtain ⟨a,h1,h2⟩:=ih h; exact ⟨a,by simp [h1],h2⟩
   obtain ⟨a,h1,h2⟩:=hmem zs hr
   exact hm r ⟨.c a,by simp [POp.reads,h1],by rwa [hcon]⟩
  simp only [opf,e1] at h ⊢
  split at h
  ·rename_i _ hx; simp at h; obtain ⟨rfl,rfl,rfl⟩:=h; exact ⟨m1,by simp only [hx],.none hW⟩
  ·cases h
 | build z ps =>
  have e1 : (ps.map fun x => (x.1,x.2.1,ev' x.2.2)) = ps.map fun x => (x.1,x.2.1,ev x.2.2) :=
   List.map_congr_left fun x hx => by rw [hev x.2.2 (by simp only [POp.opnds,List.mem_map]; exact ⟨x,hx,rfl⟩)]
  simp only [opf,e1] at h ⊢
  split at h
  ·rename_i _ hx; simp at h; obtain ⟨rfl,rfl,rfl⟩:=h; exact ⟨m1,by simp only [hx],.none hW⟩
  ·cases h
 | bsl sz z n ps =>
  have e1 : (ps.map fun x => (x.1,ev' x.2)) = ps.map fun x => (x.1,ev x.2) :=
   List.map_congr_left fun x hx => by rw [hev x.2 (by simp only [POp.opnds,List.mem_map]; exact ⟨x,hx,rfl⟩)]
  simp only [opf,e1] at h ⊢
  split at h
  ·rename_i l m2 hx
   simp at h; obtain ⟨rfl,rfl,rfl⟩:=h
   obtain ⟨q,h1,h2⟩:=fillD_fr _ hx (m1:=m1) (fun x hx r hr => by
    simp only [List.mem_map] at hx
    obtain ⟨y,hy,rfl⟩:=hx
    exact hm r ⟨y.2,by simp only [POp.reads,List.mem_map]; exact ⟨y,hy,rfl⟩,hr⟩)
   refine ⟨q,by simp only [h1],h2.wide (fun r hr => ?_) hW⟩
   obtain ⟨x,hx,hr⟩:=hr
   simp only [List.mem_map] at hx
   obtain ⟨y,hy,rfl⟩:=hx
   exact ⟨y.2,by simp only [POp.takes,List.mem_map]; exact ⟨y,hy,rfl⟩,hr⟩
  ·cases h
 | mks sz by' z x =>
  simp only [opf,hev x (by simp [POp.opnds])] at h ⊢
  split at h
  ·split at h
   ·rename_i _ hx hl; simp at h; obtain ⟨rfl,rfl,rfl⟩:=h; exact ⟨m1,by simp only [hx,if_pos hl],.none hW⟩
   ·cases h
  ·cases h
 | ld ag n x =>
  have e1 : loadC m1 n (ev x) = loadC m n (ev x):=loadC_congr fun r hr => hm r ⟨x,by simp [POp.reads],hr⟩
  simp only [opf,hev x (by simp [POp.opnds]),e1] at h ⊢
  split at h
  ·rename_i l hx
   split at h
   ·rename_i hag; simp at h; obtain ⟨rfl,rfl,rfl⟩:=h; exact ⟨m1,by simp only [hx,if_pos hag],.none hW⟩
   ·rename_i hag
    split at h
    ·simp at h; obtain ⟨rfl,rfl,rfl⟩:=h; exact ⟨m1,by simp only [hx,if_neg hag],.none hW⟩
    ·cases h
  ·cases h
 | st n x y =>
  simp only [opf,hev x (by simp [POp.opnds]),hev y (by simp [POp.opnds])] at h ⊢
  split at h
  ·rename_i cs m2 h1
   split at h
   ·rename_i hl
    split at h
    ·rename_i m3 h2
     simp at h; obtain ⟨rfl,rfl,rfl⟩:=h
     obtain ⟨q1,e1,f1⟩:=absCs_fr _ h1 (m1:=m1) (fun r hr => hm r ⟨y,by simp [POp.reads],by rwa [refs_cells] at hr⟩)
     obtain ⟨q2,e2,f2⟩:=storeC_fr h2 (m1:=q1) (fun r hr => f1.agree (hm r ⟨x,by simp [POp.reads],hr⟩))
     refine ⟨q2,by simp only [e1,if_pos hl,e2],f1.trans f2 (fun r hr => ⟨y,by simp [POp.takes],by rwa [refs_cells] at hr⟩) (fun r hr => ⟨x,by simp [POp.takes],hr⟩) hW⟩
    ·cases h
   ·cases h
  ·cases h
 | std => simp [opf] at h
 | fldv => simp [opf] at h
 | nck => simp [opf] at h
 | fad x off =>
  simp only [opf,hev x (by simp [POp.opnds])] at h ⊢
  split at h
  ·rename_i _ _ hx; simp at h; obtain ⟨rfl,rfl,rfl⟩:=h; exact ⟨m1,by simp only [hx],.none hW⟩
  ·rename_i hx; simp at h; obtain ⟨rfl,rfl,rfl⟩:=h; exact ⟨m1,by simp only [hx],.none hW⟩
  ·rename_i hx; simp at h; obtain ⟨rfl,rfl,rfl⟩:=h; exact ⟨m1,by simp only [hx],.none hW⟩
  ·cases h
 | iad sz x i =>
  simp only [opf,hev x (by simp [POp.opnds]),hev i (by simp [POp.opnds])] at h ⊢
  split at h
  ·rename_i n hn
   split at h
   ·rename_i hx
    split at h
    ·rename_i hl; simp at h; obtain ⟨rfl,rfl,rfl⟩:=h; exact ⟨m1,by simp only [hx,if_pos hl],.none hW⟩
    ·cases h
   ·rename_i r j p hx
    have e1 : m1.at r j p = m.at r j p:=at_congr (hm r ⟨x,by simp [POp.reads],by simp [hx,AV.refs]⟩)
    split at h
    ·rename_i hat
     split at h
     ·rename_i hl; simp at h; obtain ⟨rfl,rfl,rfl⟩:=h; exact ⟨m1,by simp only [hx,e1,hat,if_pos hl],.none hW⟩
     ·cases h
    ·cases h
   ·rename_i r j p sz' lo hi hx
    have e1 : m1.at r j p = m.at r j p:=at_congr (hm r ⟨x,by simp [POp.reads],by simp [hx,AV.refs]⟩)
    split at h
    ·rename_i hat
     split at h
     ·rename_i hl; simp at h; obtain ⟨rfl,rfl,rfl⟩:=h; exact ⟨m1,by simp only [hx,e1,hat,if_pos hl],.none hW⟩
     ·cases h
    ·cases h
   ·cases h
  ·cases h
 | slc sz x lo hi =>
  have e0 : ∀ n,loHi n ev' lo hi = loHi n ev lo hi:=fun n => loHi_congr (fun y hy => hev y (by simp only [POp.opnds]; simp only [List.mem_cons,List.mem_append]; exact .inr (.inl hy)))
   (fun y hy => hev y (by simp only [POp.opnds]; simp only [List.mem_cons,List.mem_append]; exact .inr (.inr hy)))
  simp only [opf,hev x (by simp [POp.opnds]),e0] at h ⊢
  split at h
  ·rename_i hx
   split at h
   ·rename_i hlh
    split at h
    ·rename_i hl; simp at h; obtain ⟨rfl,rfl,rfl⟩:=h; exact ⟨m1,by simp only [hx,hlh,if_pos hl],.none hW⟩
    ·cases h
   ·cases h
  ·rename_i hx
   split at h
   ·rename_i hlh; simp at h; obtain ⟨rfl,rfl,rfl⟩:=h; exact ⟨m1,by simp only [hx,hlh],.none hW⟩
   ·cases h
  ·rename_i r j p hx
   have e1 : m1.at r j p = m.at r j p:=at_congr (hm r ⟨x,by simp [POp.reads],by simp [hx,AV.refs]⟩)
   split at h
   ·rename_i hat
    split at h
    ·rename_i hlh
     split at h
     ·rename_i hl; simp at h; obtain ⟨rfl,rfl,rfl⟩:=h; exact ⟨m1,by simp only [hx,e1,hat,hlh,if_pos hl],.none hW⟩
     ·cases h
    ·cases h
   ·cases h
  ·cases h
 | slcs => simp [opf] at h
 | ext x k =>
  simp only [opf,hev x (by simp [POp.opnds])] at h ⊢
  split at h
  ·split at h
   ·rename_i hx _ _ hk; simp at h; obtain ⟨rfl,rfl,rfl⟩:=h; exact ⟨m1,by simp only [hx,hk],.none hW⟩
   ·cases h
  ·cases h
 | call f io args =>
  have e0 : args.map ev' = args.map ev:=List.map_congr_left fun x hx => hev x hx
  cases io with
  | nil =>
   have e1 : argVs m1 [] 0 (args.map ev) = argVs m [] 0 (args.map ev):=argVs_congr [] _ _ fun a ha r hr => by
    simp only [List.mem_map] at ha
    obtain ⟨x,hx,rfl⟩:=ha
    exact hm r ⟨x,hx,hr⟩
   simp only [opf,e0,e1] at h ⊢
   split at h
   ·rename_i xs h1
    split at h
    ·rename_i r us h2
     split at h
     ·rename_i h3
      split at h
      ·simp at h; obtain ⟨rfl,rfl,rfl⟩:=h; exact ⟨m1,by simp only [h1,h2,if_pos h3],.none hW⟩
      ·cases h
     ·cases h
    ·cases h
   ·cases h
  | cons i0 io =>
   have hall : ∀ a ∈ args.map ev,∀ r ∈ a.refs,m1 r = m r:=fun a ha r hr => by
    simp only [List.mem_map] at ha
    obtain ⟨x,hx,rfl⟩:=ha
    exact hm r ⟨x,hx,hr⟩
   have hW2 : ∀ a ∈ args.map ev,∀ r ∈ a.refs,opW ev (.call f (i0 :: io) args) r:=fun a ha r hr => by
    simp only [List.mem_map] at ha
    obtain ⟨x,hx,rfl⟩:=ha
    exact ⟨x,by simp [POp.takes,hx],hr⟩
   simp only [opf,e0] at h ⊢
   generalize args.map ev = as at h hall hW2 ⊢
   cases as with
   | nil => simp at h
   | cons a0 rest =>
    simp only at h ⊢
    rw [ptr?_congr (hall a0 (by simp))]
    split at h
    ·cases h
    split at h
    ·rename_i x0 m2 h1
     obtain ⟨q1,e1,f1⟩:=outV_fr h1 (m1:=m1) (hall a0 (by simp))
     have e2 : argVs q1 [] 1 rest = argVs m2 [] 1 rest:=argVs_congr [] _ _ fun a ha r hr => f1.agree (hall a (by simp [ha]) r hr)
     split at h
     ·rename_i xs h2
      ·split at h
       ·rename_i r us h4
        split at h
        ·rename_i h5
         split at h
         ·rename_i m3 h6
          simp at h; obtain ⟨rfl,rfl,rfl⟩:=h
          obtain ⟨q2,e3,f2⟩:=ups_fr us h6 (m1:=q1) (fun r hr => f1.agree (hall a0 (by simp) r (by rwa [refs_cells] at hr)))
          exact ⟨q2,by simp only [e1,e2,h2,h4,if_pos h5,e3],f1.trans f2 (fun r hr => hW2 a0 (by simp) r hr) (fun r hr => hW2 a0 (by simp) r (by rwa [refs_cells] at hr)) hW⟩
         ·cases h
        ·cases h
       ·cases h
     ·cases h
    ·cases h
 | app sz by' x y =>
  have e1 : m1.els (ev y) = m.els (ev y):=els_congr fun r hr => hm r ⟨y,by simp [POp.reads],hr⟩
  simp only [opf,hev x (by simp [POp.opnds]),hev y (by simp [POp.opnds]),e1] at h ⊢
  split at h
  ·rename_i s1 ys m2 h1
   split at h
   ·rename_i s2 es m3 h2
    split at h
    ·rename_i hl
     simp at h; obtain ⟨rfl,rfl,rfl⟩:=h
     have fin : ∀ q1,Fr (opW ev (.app sz by' x y)) m m2 m1 q1 → ∃ q2,absC q1 (ev x) = some (.own (.sl s2 es),q2) ∧ Fr (opW ev (.app sz by' x y)) m m3 m1 q2:=by
      intro q1 f1
      obtain ⟨q2,e2,f2⟩:=absC_fr h2 (m1:=q1) (fun r hr => f1.agree (hm r ⟨x,by simp [POp.reads],hr⟩))
      exact ⟨q2,e2,f1.trans f2 (fun r hr => hr) (fun r hr => ⟨x,by simp [POp.takes],hr⟩) hW⟩
     split at h1
     ·rename_i s ys0 he
      split at h1
      ·rename_i hf
       simp at h1; obtain ⟨rfl,rfl,rfl⟩:=h1
       obtain ⟨q2,e2,f2⟩:=fin m1 (.none hW)
       exact ⟨q2,by simp only [he,if_pos hf,e2,if_pos hl],f2⟩
      ·rename_i hf
       split at h1
       ·rename_i s3 ys3 m4 ha
        split at h1
        ·rename_i hlv
         simp at h1; obtain ⟨rfl,rfl,rfl⟩:=h1
         obtain ⟨q,e3,f3⟩:=absC_fr ha (m1:=m1) (fun r hr => hm r ⟨y,by simp [POp.reads],hr⟩)
         obtain ⟨q2,e2,f2⟩:=fin q (f3.wide (fun r hr => ⟨y,by simp [POp.takes],hr⟩) hW)
         exact ⟨q2,by simp only [he,if_neg hf,e3,if_pos hlv,e2,if_pos hl],f2⟩
        ·cases h1
       ·cases h1
     ·cases h1
    ·cases h
   ·cases h
  ·cases h
 | apps x y =>
  simp only [opf,hev x (by simp [POp.opnds]),hev y (by simp [POp.opnds])] at h ⊢
  split at h
  ·rename_i hy
   split at h
   ·rename_i es m2 h2
    split at h
    ·rename_i hl
     simp at h; obtain ⟨rfl,rfl,rfl⟩:=h
     obtain ⟨q2,e2,f2⟩:=absC_fr h2 (m1:=m1) (fun r hr => hm r ⟨x,by simp [POp.reads],hr⟩)
     exact ⟨q2,by simp only [hy,e2,if_pos hl],f2.wide (fun r hr => ⟨x,by simp [POp.takes],hr⟩) hW⟩
    ·cases h
   ·cases h
  ·cases h
 | appf sz by' x y =>
  have e1 : m1.els (ev y) = m.els (ev y):=els_congr fun r hr => hm r ⟨y,by simp [POp.reads],hr⟩
  simp only [opf,hev x (by simp [POp.opnds]),hev y (by simp [POp.opnds]),e1] at h ⊢
  split at h
  ·rename_i s1 ys h1
   split at h
   ·rename_i hf
    split at h
    ·rename_i s2 es m3 h2
     split at h
     ·rename_i hl
      simp at h; obtain ⟨rfl,rfl,rfl⟩:=h
      obtain ⟨q2,e2,f2⟩:=absC_fr h2 (m1:=m1) (fun r hr => hm r ⟨x,by simp [POp.reads],hr⟩)
      exact ⟨q2,by simp only [h1,if_pos hf,e2,if_pos hl],f2.wide (fun r hr => ⟨x,by simp [POp.takes],hr⟩) hW⟩
     ·cases h
    ·cases h
   ·cases h
  ·cases h
 | cvi k x =>
  simp only [opf,hev x (by simp [POp.opnds])] at h ⊢
  split at h
  ·rename_i hx; simp at h; obtain ⟨rfl,rfl,rfl⟩:=h; exact ⟨m1,by simp only [hx],.none hW⟩
  ·cases h
 | cvs x =>
  have e1 : m1.els (ev x) = m.els (ev x):=els_congr fun r hr => hm r ⟨x,by simp [POp.reads],hr⟩
  simp only [opf,hev x (by simp [POp.opnds]),e1] at h ⊢
  split at h
  ·rename_i hx
   split at h
   ·rename_i hb; simp at h; obtain ⟨rfl,rfl,rfl⟩:=h; exact ⟨m1,by simp only [hx,hb],.none hW⟩
   ·cases h
  ·cases h
 | cvb x => simp [opf] at h
 | idx x i =>
  simp only [opf,hev x (by simp [POp.opnds]),hev i (by simp [POp.opnds])] at h ⊢
  split at h
  ·rename_i hx hi
   split at h
   ·rename_i hl
    split at h
    ·rename_i hb; simp at h; obtain ⟨rfl,rfl,rfl⟩:=h; exact ⟨m1,by simp only [hx,hi,if_pos hl,hb],.none hW⟩
    ·cases h
   ·cases h
  ·cases h
 | mn x y =>
  simp only [opf,hev x (by simp [POp.opnds]),hev y (by simp [POp.opnds])] at h ⊢
  split at h
  ·rename_i hx hy; simp at h; obtain ⟨rfl,rfl,rfl⟩:=h; exact ⟨m1,by simp only [hx,hy],.none hW⟩
  ·cases h
 | mx x y =>
  simp only [opf,hev x (by simp [POp.opnds]),hev y (by simp [POp.opnds])] at h ⊢
  split at h
  ·rename_i hx hy; simp at h; obtain ⟨rfl,rfl,rfl⟩:=h; exact ⟨m1,by simp only [hx,hy],.none hW⟩
  ·cases h
 | mkf => simp [opf] at h
 | callm f i args =>
  have e0 : args.map ev' = args.map ev:=List.map_congr_left fun x hx => hev x hx
  have hall : ∀ a ∈ args.map ev,∀ r ∈ a.refs,m1 r = m r:=fun a ha r hr => by
   simp only [List.mem_map] at ha
   obtain ⟨x,hx,rfl⟩:=ha
   exact hm r ⟨x,hx,hr⟩
  have hW2 : ∀ a ∈ args.map ev,∀ r ∈ a.refs,opW ev (.callm f i args) r:=fun a ha r hr => by
   simp only [List.mem_map] at ha
   obtain ⟨x,hx,rfl⟩:=ha
   exact ⟨x,by simp [POp.takes,hx],hr⟩
  simp only [opf,e0] at h ⊢
  generalize args.map ev = as at h hall hW2 ⊢
  split at h
  ·rename_i a0 ha0
   have ha:=List.mem_of_getElem? ha0
   split at h
   ·rename_i x0 m2 h1
    obtain ⟨q1,e1,f1⟩:=outV_fr h1 (m1:=m1) (hall a0 ha)
    have e2 : argVs q1 [] 0 (as.set i (.v false (.bool true))) = argVs m2 [] 0 (as.set i (.v false (.bool true))):=argVs_congr [] _ _ fun a ha r hr => f1.agree (by
     rcases List.mem_or_eq_of_mem_set ha with ha | rfl
     ·exact hall a ha r hr
     ·simp [AV.refs] at hr)
    split at h
    ·rename_i xs h2
     split at h
     ·rename_i r us h4
      split at h
      ·rename_i h5
       simp at h; obtain ⟨rfl,rfl,rfl⟩:=h
       exact ⟨q1,by simp only [ha0,e1,e2,h2,h4,if_pos h5],f1.wide (fun r hr => hW2 a0 ha r hr) hW⟩
      ·cases h
     ·cases h
    ·cases h
   ·cases h
  ·cases h
 | clr sz z x =>
  simp only [opf,hev x (by simp [POp.opnds])] at h ⊢
  split at h
  ·rename_i r j p sz0 lo hi hx
   have hr0 : m1 r = m r:=hm r ⟨x,by simp [POp.reads],by simp [hx,AV.refs]⟩
   split at h
   ·rename_i sz1 es hat
    split at h
    ·rename_i hcond
     split at h
     ·rename_i m2 hput
      simp at h; obtain ⟨rfl,rfl,rfl⟩:=h
      obtain ⟨q,e1,f1⟩:=putAt_fr hput hr0
      exact ⟨q,by simp only [hx,at_congr hr0,hat,if_pos hcond,e1],f1.wide (fun r1 hr1 => by subst hr1; exact ⟨x,by simp [POp.takes],by simp [hx,AV.refs]⟩) hW⟩
     ·cases h
    ·cases h
   ·cases h
  ·cases h
 | callv => simp [opf] at h
end
end Go.Proofs.YtmlinnkaccgcgaaGreat.OM
