/- The own machine: steps that may change places. -/
import Derived.Test.YtmlinnkaccgcgaaGreatOMFr2
set_option linter.all false
namespace Go.Proofs.YtmlinnkaccgcgaaGreat.OM
def PX.slot : PX → List Nat
 | .t n => [n]
 | .c _ => []
def PO.looks (o : PO) : List Nat:=o.op.opnds.flatMap PX.slot ++ (match o.g with | some (t,_) => [t] | none => [])
def putAv (S : St) (dst : Option Nat) (a : AV) : Nat → AV:=match dst with
 | some d => upd S.av d a
 | none => S.av
section
variable {Γ : Env}
theorem wanted_gd {S : St} {g : Option (Nat × Bool)} {b : Bool} (h : gd S g = some b) : wanted S g = b:=by
 cases g with
 | none => simp [gd] at h; subst h; rfl
 | some x =>
  obtain ⟨t,want⟩:=x
  simp only [gd] at h
  simp only [wanted]
  split at h
  ·rename_i hb; simp at h; subst h; simp [hb]
  ·rename_i hb; simp at h; subst h; simp [hb]
  ·cases h
theorem opf_creates {ev : PX → AV} {d : Nat} {m m' : Ms} {op : POp} {a : AV} {r : Rt} (h : opf Γ ev d m op = some (a,some r,m')) : op.creates = true:=by
 cases op with
 | box => rfl
 | alloc => rfl
 | bsl => rfl
 | mks => rfl
 | call => rfl
 | callm => rfl
 | callv => rfl
 | app => rfl
 | appf => rfl
 | apps => rfl
 | cvb => simp [opf] at h
 | _ =>
  exfalso
  simp only [opf] at h
  repeat' split at h
  all_goals first | (cases h; done) | (simp at h; done)
theorem stepO_cases {o : PO} {S S' : St} (h : stepO Γ o S = some S') :
  (gd S o.g = some false ∧ S' = ⟨putAv S o.dst (.tup []),S.ms⟩) ∨
  (gd S o.g = some true ∧ ∃ av rt m',opf Γ S.ev (o.dst.getD 0) S.ms o.op = some (av,rt,m') ∧
   ((rt = none ∧ S' = ⟨putAv S o.dst av,m'⟩) ∨ ∃ d r,rt = some r ∧ o.dst = some d ∧ (m' d).1 = none ∧ S' = ⟨putAv S o.dst av,upd m' d (some r,[])⟩)):=by
 unfold stepO at h
 split at h
 ·rename_i h1
  refine .inr ⟨h1,?_⟩
  split at h
  ·rename_i d hd
   split at h
   ·rename_i a m' ho
    simp at h; subst h
    exact ⟨a,none,m',by simpa [hd] using ho,.inl ⟨rfl,by simp [putAv,hd]⟩⟩
   ·rename_i a r m' ho
    split at h
    ·rename_i hm
     simp at h; subst h
     exact ⟨a,some r,m',by simpa [hd] using ho,.inr ⟨d,r,rfl,hd,by rw [hm],by simp [putAv,hd]⟩⟩
    ·cases h
   ·cases h
  ·rename_i hd
   split at h
   ·rename_i a m' ho
    simp at h; subst h
    exact ⟨a,none,m',by simpa [hd] using ho,.inl ⟨rfl,by simp [putAv,hd]⟩⟩
   ·cases h
 ·rename_i h1
  refine .inl ⟨h1,?_⟩
  split at h
  ·rename_i d hd; simp at h; subst h; simp [putAv,hd]
  ·rename_i hd; simp at h; subst h; simp [putAv,hd]
 ·cases h
theorem stepO_skip {o : PO} {S : St} (h : gd S o.g = some false) : stepO Γ o S = some ⟨putAv S o.dst (.tup []),S.ms⟩:=by
 unfold stepO
 cases hd : o.dst <;> simp [h,putAv]
theorem stepO_run {o : PO} {S : St} (h : gd S o.g = some true) {av : AV} {rt : Option Rt} {m' : Ms} (ho : opf Γ S.ev (o.dst.getD 0) S.ms o.op = some (av,rt,m')) :
  (rt = none → stepO Γ o S = some ⟨putAv S o.dst av,m'⟩) ∧
  (∀ d r,rt = some r → o.dst = some d → (m' d).1 = none → stepO Γ o S = some ⟨putAv S o.dst av,upd m' d (some r,[])⟩):=by
 refine ⟨fun e => ?_,fun d r e hd hm => ?_⟩
 ·subst e
  unfold stepO
  cases hd : o.dst with
  | none => rw [hd] at ho; simp only [Option.getD_none] at ho; simp [h,putAv,ho]
  | some d => rw [hd] at ho; simp only [Option.getD_some] at ho; simp [h,putAv,ho]
 ·subst e
  unfold stepO
  rw [hd] at ho ⊢
  simp only [Option.getD_some] at ho
  have : m' d = (none,(m' d).2):=by rw [← hm]
  simp only [h,ho,putAv]
  rw [this]
theorem gd_congr {S S' : St} {g : Option (Nat × Bool)} (h : ∀ t w,g = some (t,w) → S'.av t = S.av t) : gd S' g = gd S g:=by
 cases g with
 | none => rfl
 | some x => obtain ⟨t,w⟩:=x; simp only [gd,h t w rfl]
theorem wanted_congr {S S' : St} {g : Option (Nat × Bool)} (h : ∀ t w,g = some (t,w) → S'.av t = S.av t) : wanted S' g = wanted S g:=by
 cases g with
 | none => rfl
 | some x => obtain ⟨t,w⟩:=x; simp only [wanted,h t w rfl]
theorem ev_congr {S S' : St} {o : PO} (h : ∀ n ∈ o.looks,S'.av n = S.av n) {x : PX} (hx : x ∈ o.op.opnds) : S'.ev x = S.ev x:=by
 cases x with
 | c a => rfl
 | t n => exact h n (List.mem_append_left _ (List.mem_flatMap.2 ⟨_,hx,by simp [PX.slot]⟩))
theorem takes_opnds {op : POp} {x : PX} (h : x ∈ op.takes) : x ∈ op.opnds:=reads_opnds (takes_reads h)
theorem flatMap_congr' {l : List PX} {f f' : PX → List Nat} (h : ∀ x ∈ l,f x = f' x) : l.flatMap f = l.flatMap f':=by
 induction l with
 | nil => rfl
 | cons a l ih => simp only [List.flatMap_cons,h a (by simp),ih fun x hx => h x (by simp [hx])]
theorem foot_congr {S S' : St} {o : PO} (h : ∀ n ∈ o.looks,S'.av n = S.av n) : footR S' o = footR S o ∧ footW S' o = footW S o:=by
 have hw : wanted S' o.g = wanted S o.g:=wanted_congr fun t w e => h t (by simp [PO.looks,e])
 simp only [footR,footW,hw]
 rw [flatMap_congr' (f:=fun x => (S'.ev x).refs) (f':=fun x => (S.ev x).refs) fun x hx => by rw [ev_congr h (reads_opnds hx)],
  flatMap_congr' (f:=fun x => (S'.ev x).refs) (f':=fun x => (S.ev x).refs) fun x hx => by rw [ev_congr h (takes_opnds hx)]]
 exact ⟨rfl,rfl⟩
theorem step_frame {q : PO} {S S2 S' : St} (h : stepO Γ q S = some S2) (hl : ∀ n ∈ q.looks,S'.av n = S.av n) (hr : ∀ r ∈ footR S q,S'.ms r = S.ms r)
  (hn : ∀ d,q.dst = some d → d ∈ footW S q → S'.ms d = S.ms d) :
  ∃ S2',stepO Γ q S' = some S2' ∧ (∀ n,q.dst = some n → S2'.av n = S2.av n) ∧ (∀ n,q.dst ≠ some n → S2'.av n = S'.av n ∧ S2.av n = S.av n) ∧
   (∀ r ∈ footW S q,S2'.ms r = S2.ms r) ∧ (∀ r,r ∉ footW S q → S2'.ms r = S'.ms r ∧ S2.ms r = S.ms r):=by
 have hg : gd S' q.g = gd S q.g:=gd_congr fun t w e => hl t (by simp [PO.looks,e])
 have hput : ∀ av,(∀ n,q.dst = some n → putAv S' q.dst av n = putAv S q.dst av n) ∧ (∀ n,q.dst ≠ some n → putAv S' q.dst av n = S'.av n ∧ putAv S q.dst av n = S.av n):=by
  intro av
  cases hd : q.dst with
  | none => exact ⟨by simp,fun n _ => ⟨rfl,rfl⟩⟩
  | some d => exact ⟨fun n e => by simp at e; subst e; simp [putAv,upd],fun n e => by
    have : n ≠ d:=fun e' => e (by rw [e'])
    simp [putAv,upd,this]⟩
 rcases stepO_cases h with ⟨h1,rfl⟩ | ⟨h1,av,rt,m',ho,h2⟩
 ·have hw:=wanted_gd h1
  refine ⟨_,stepO_skip (hg.trans h1),(hput _).1,(hput _).2,fun r hr => ?_,fun r _ => ⟨rfl,rfl⟩⟩
  simp [footW,hw] at hr
 ·have hw:=wanted_gd h1
  have hR : ∀ r,opR S.ev q.op r → S'.ms r = S.ms r:=fun r ⟨x,hx,h3⟩ => hr r (by simp only [footR,hw,if_true,List.mem_flatMap]; exact ⟨x,hx,h3⟩)
  obtain ⟨m1',ho',hF⟩:=opf_fr (ev:=S.ev) (ev':=S'.ev) (m1:=S'.ms) (fun a => rfl) (fun x hx => ev_congr hl hx) hR ho
  have hWm : ∀ r,opW S.ev q.op r → r ∈ footW S q:=fun r ⟨x,hx,h3⟩ => by
   simp only [footW,hw,if_true,List.mem_append,List.mem_flatMap]; exact .inr ⟨x,hx,h3⟩
  have hmem : ∀ r,r ∈ footW S q → opW S.ev q.op r ∨ (q.op.creates = true ∧ q.dst = some r):=fun r h3 => by
   simp only [footW,hw,if_true,List.mem_append,List.mem_flatMap] at h3
   rcases h3 with h3 | h3
   ·split at h3
    ·rename_i hc; exact .inr ⟨hc,by simpa [Option.mem_toList] using h3⟩
    ·simp at h3
   ·exact .inl h3
  rcases h2 with ⟨rfl,rfl⟩ | ⟨d,r,rfl,hd,hm,rfl⟩
  ·refine ⟨_,(stepO_run (hg.trans h1) ho').1 rfl,(hput _).1,(hput _).2,fun r hr => ?_,fun r hr => ?_⟩
   ·by_cases h4 : opW S.ev q.op r
    ·exact hF.1 r h4
    ·rcases hmem r hr with h3 | h3
     ·exact absurd h3 h4
     ·show m1' r = m' r
      rw [hF.2.2 r h4,hF.2.1 r h4]; exact hn r h3.2 hr
   ·exact ⟨hF.2.2 r fun e => hr (hWm r e),hF.2.1 r fun e => hr (hWm r e)⟩
  ·have hdW : d ∈ footW S q:=by
    simp only [footW,hw,if_true,opf_creates ho,hd,List.mem_append]; exact .inl (by simp)
   have hm1 : (m1' d).1 = none:=by
    by_cases h4 : opW S.ev q.op d
    ·rw [hF.1 d h4,hm]
    ·rw [hF.2.2 d h4,hn d hd hdW,← hF.2.1 d h4,hm]
   refine ⟨_,(stepO_run (hg.trans h1) ho').2 d r rfl hd hm1,(hput _).1,(hput _).2,fun k hk => ?_,fun k hk => ?_⟩
   ·by_cases e : k = d
    ·subst e; simp [upd]
    ·simp only [upd,if_neg e]
     rcases hmem k hk with h3 | h3
     ·exact hF.1 k h3
     ·rw [hd] at h3; simp at h3; exact absurd h3.2.symm e
   ·have e : k ≠ d:=fun e => hk (e ▸ hdW)
    simp only [upd,if_neg e]
    exact ⟨hF.2.2 k fun e => hk (hWm k e),hF.2.1 k fun e => hk (hWm k e)⟩
def apartO (p q : PO) : Bool :=
 (match p.dst with
  | some d => !q.looks.contains d && q.dst != some d
  | none => true) &&
 (match q.dst with
  | some d => !p.looks.contains d
  | none => true)
theorem apartO_spec {p q : PO} (h : apartO p q = true) : (∀ d,p.dst = some d → d ∉ q.looks) ∧ (∀ d,p.dst = some d → q.dst ≠ some d) ∧ (∀ d,q.dst = some d → d ∉ p.looks):=by
 refine ⟨fun d hd => ?_,fun d hd => ?_,fun d hd => ?_⟩ <;> simp [apartO,hd] at h
 ·exact h.1.1
 ·exact h.1.2
 ·exact h.2
theorem disj_spec {a b : List Nat} (h : disj a b = true) {r : Nat} (ha : r ∈ a) : r ∉ b:=by
 simp only [disj,List.all_eq_true] at h
 simpa using h r ha
theorem footW_mem {S : St} {q : PO} {r : Nat} (h : r ∈ footW S q) : r ∈ footR S q ∨ q.dst = some r:=by
 unfold footW at h
 split at h
 ·rename_i hw
  rcases List.mem_append.1 h with h | h
  ·split at h
   ·exact .inr (by simpa [Option.mem_toList] using h)
   ·simp at h
  ·obtain ⟨x,hx,h3⟩:=List.mem_flatMap.1 h
   exact .inl (by simp only [footR,hw,if_true,List.mem_flatMap]; exact ⟨x,takes_reads hx,h3⟩)
 ·simp at h
theorem stepO_comm {p q : PO} {S S1 S2 : St} (h1 : stepO Γ p S = some S1) (h2 : stepO Γ q S1 = some S2) (ha : apartO p q = true)
  (hd1 : disj (footW S p) (footR S1 q) = true) (hd2 : disj (footW S1 q) (footR S p) = true) :
  ∃ S1',stepO Γ q S = some S1' ∧ stepO Γ p S1' = some S2 ∧ footR S q = footR S1 q ∧ footW S q = footW S1 q ∧ footR S1' p = footR S p ∧ footW S1' p = footW S p:=by
 obtain ⟨a1,a2,a3⟩:=apartO_spec ha
 -- what the first left
 obtain ⟨Sx,hx,_,p2,_,p4⟩:=step_frame (S':=S) h1 (fun _ _ => rfl) (fun _ _ => rfl) (fun _ _ _ => rfl)
 have hnot : ∀ r,r ∈ footW S p → r ∈ footW S1 q → False:=fun r h3 h4 => by
  rcases footW_mem h4 with h5 | h5
  ·exact disj_spec hd1 h3 h5
  ·rcases footW_mem h3 with h6 | h6
   ·exact disj_spec hd2 h4 h6
   ·exact a2 r h6 h5
 have hlq : ∀ n ∈ q.looks,S.av n = S1.av n:=fun n hn => (p2 n fun e => a1 n e hn).2.symm
 obtain ⟨S1',e1,q1,q2,q3,q4⟩:=step_frame (S':=S) h2 hlq (fun r hr => (p4 r fun e => disj_spec hd1 e hr).2.symm)
  (fun d hd hW => (p4 d fun e => hnot d e hW).2.symm)
 obtain ⟨S2',e2,r1,r2,r3,r4⟩:=step_frame (S':=S1') h1 (fun n hn => (q2 n fun e => a3 n e hn).1)
  (fun r hr => (q4 r fun e => disj_spec hd2 e hr).1) (fun d hd hW => (q4 d fun e => hnot d hW e).1)
 have hf1:=foot_congr (o:=q) (S:=S1) (S':=S) hlq
 have hf2:=foot_congr (o:=p) (S:=S) (S':=S1') (fun n hn => (q2 n fun e => a3 n e hn).1)
 refine ⟨S1',e1,?_,hf1.1,hf1.2,hf2.1,hf2.2⟩
 have : S2' = S2:=by
  obtain ⟨av2,ms2⟩:=S2
  obtain ⟨av2',ms2'⟩:=S2'
  have hav : av2' = av2:=by
   funext n
   by_cases hp : p.dst = some n
   ·have hq : q.dst ≠ some n:=a2 n hp
    have:=r1 n hp
    have h3:=(q2 n hq).2
    simp only at this h3 ⊢
    rw [this,h3]
   ·by_cases hq : q.dst = some n
    ·have h3:=(r2 n hp).1
     have h4:=q1 n hq
     simp only at h3 h4 ⊢
     rw [h3,h4]
    ·have h3:=(r2 n hp).1
     have h4:=(q2 n hq).1
     have h5:=(q2 n hq).2
     have h6:=(p2 n hp).2
     simp only at h3 h4 h5 h6 ⊢
     rw [h3,h4,h5,h6]
  have hms : ms2' = ms2:=by
   funext r
   by_cases hp : r ∈ footW S p
   ·have hq : r ∉ footW S1 q:=fun e => hnot r hp e
    have h3:=r3 r hp
    have h4:=(q4 r hq).2
    simp only at h3 h4 ⊢
    rw [h3,h4]
   ·by_cases hq : r ∈ footW S1 q
    ·have h3:=(r4 r hp).1
     have h4:=q3 r hq
     simp only at h3 h4 ⊢
     rw [h3,h4]
    ·have h3:=(r4 r hp).1
     have h4:=(q4 r hq).1
     have h5:=(q4 r hq).2
     have h6:=(p4 r hp).2
     simp only at h3 h4 h5 h6 ⊢
     rw [h3,h4,h5,h6]
  rw [hav,hms]
 rw [← this]; exact e2
def RunsF (Γ : Env) (ops : List PO) (F : Nat → List Nat × List Nat) : List Nat → St → St → Prop
 | [],S,S' => S = S'
 | i :: l,S,S' => ∃ o S1,ops[i]? = some o ∧ stepO Γ o S = some S1 ∧ footR S o = (F i).1 ∧ footW S o = (F i).2 ∧ RunsF Γ ops F l S1 S'
def PairOk (ops : List PO) (F : Nat → List Nat × List Nat) (k i : Nat) : Prop :=
 ∀ p q,ops[k]? = some p → ops[i]? = some q → apartO p q = true ∧ disj (F k).2 (F i).1 = true ∧ disj (F i).2 (F k).1 = true
theorem RunsF.bubble {ops : List PO} {F : Nat → List Nat × List Nat} {i : Nat} {rest : List Nat} : ∀ (ks : List Nat) {S S' : St},RunsF Γ ops F (ks ++ i :: rest) S S' →
  (∀ k ∈ ks,PairOk ops F k i) → RunsF Γ ops F (i :: (ks ++ rest)) S S':=by
 intro ks
 induction ks with
 | nil => intro S S' h _; exact h
 | cons k ks ih =>
  intro S S' h hp
  obtain ⟨p,S1,hp1,hs,hr,hw,h⟩:=h
  obtain ⟨q,S2,hq1,hs2,hr2,hw2,h⟩:=ih h fun j hj => hp j (by simp [hj])
  obtain ⟨a,b,c⟩:=hp k (by simp) p q hp1 hq1
  obtain ⟨S1',e1,e2,f1,f2,f3,f4⟩:=stepO_comm hs hs2 a (by rw [hw,hr2]; exact b) (by rw [hw2,hr]; exact c)
  exact ⟨q,S1',hq1,e1,f1.trans hr2,f2.trans hw2,p,S2,hp1,e2,f3.trans hr,f4.trans hw,h⟩
end
end Go.Proofs.YtmlinnkaccgcgaaGreat.OM
