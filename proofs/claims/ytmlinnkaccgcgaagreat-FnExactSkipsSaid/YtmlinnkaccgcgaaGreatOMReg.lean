/- The own machine: regions. -/
import Derived.Test.YtmlinnkaccgcgaaGreatOMStep
import Derived.Test.YtmlinnkaccgcgaaGreatOMOrd
import Derived.LoopN
set_option linter.all false
namespace Go.Proofs.YtmlinnkaccgcgaaGreat.OM
def Sim (w0 : World) (cl0 : Ini) (N : Nat) (S : St) (a : Act) (w : World) : Prop:=∃ g,Rel w0 cl0 S a.tmps w g ∧ a.defers = [] ∧ N ≤ a.tmps.size
def chkPO (P : Program) (κ : Nat → FuncId) (N : Nat) (ops : Array Oper) (po : PO) (o : Oper) : Bool :=
 decide (po.dst = o.dst) && (match po.dst with | some d => decide (d < N) | none => true) &&
 (match po.g,o.guard with
  | none,none => true
  | some (t,want),some (j,want') => want == want' && decide ((ops[j]?).bind (·.dst) = some t)
  | _,_ => false) && chkOp P κ po.op o.op
def CallsOk (P : Program) (κ : Nat → FuncId) (Γ : Env) (_keys : List Nat) : Prop:=GOk P κ Γ
def POp.key : POp → List Nat
 | .call f _ _ => [f]
 | _ => []
section
variable {P : Program} {κ : Nat → FuncId} {w0 : World} {cl0 : Ini} {Γ : Env} {N : Nat} {ops : Array Oper}
theorem put_defers (a : Act) (d : Option Tmp) (v : Value) : (a.put d v).defers = a.defers:=by cases d <;> rfl
theorem put_size (a : Act) (d : Option Tmp) (v : Value) : (a.put d v).tmps.size = a.tmps.size:=by cases d <;> simp [Act.put]
theorem Rel.put {S : St} {a : Act} {w : World} {g : Gh} (R : Rel w0 cl0 S a.tmps w g) {dst : Option Nat} {av : AV} {v : Value} (hd : ∀ d,dst = some d → d < a.tmps.size)
  (ha : RA w g S.ms av v) (hr : Live S.ms av) : Rel w0 cl0 ⟨putAv S dst av,S.ms⟩ (a.put dst v).tmps w g:=by
 cases dst with
 | none => exact R
 | some d => exact R.slot (hd d rfl) ha hr
theorem guard_ok {S : St} {a : Act} {w : World} {g : Gh} (R : Rel w0 cl0 S a.tmps w g) {po : PO} {o : Oper} (hc : chkPO P κ N ops po o = true) {b : Bool} (h : gd S po.g = some b) :
  Region.wanted o (yielded ops a.tmps) = b:=by
 simp only [chkPO,Bool.and_eq_true] at hc
 obtain ⟨⟨⟨_,_⟩,hg⟩,_⟩:=hc
 unfold Region.wanted
 cases hpg : po.g with
 | none =>
  rw [hpg] at hg h
  cases hog : o.guard with
  | none => simp [gd] at h; subst h; rfl
  | some x => rw [hog] at hg; simp at hg
 | some x =>
  obtain ⟨t,want⟩:=x
  rw [hpg] at hg h
  cases hog : o.guard with
  | none => rw [hog] at hg; simp at hg
  | some y =>
   obtain ⟨j,want'⟩:=y
   rw [hog] at hg
   simp only [Bool.and_eq_true,beq_iff_eq,decide_eq_true_eq] at hg
   obtain ⟨rfl,hj⟩:=hg
   have hav:=R.av t
   simp only [gd] at h
   simp only [yielded,hj,Option.bind_some]
   split at h
   ·rename_i k bb hb
    simp at h; subst h
    rw [hb] at hav
    have hv:=ra_bool hav
    have : a.tmps[t]? = some (.bool bb):=by
     rw [Array.getD_eq_getD_getElem?] at hv
     cases h2 : a.tmps[t]? with
     | none => rw [h2] at hv; simp [undef] at hv
     | some y => rw [h2] at hv; simp at hv; rw [hv]
    simp only [this]
    cases bb <;> cases want <;> rfl
   ·rename_i hb
    simp at h; subst h
    rw [hb] at hav
    have hv : a.tmps.getD t undef = .tuple #[]:=by
     generalize a.tmps.getD t undef = z at hav
     cases hav with
     | tup _ vs hl _ =>
      have : vs = #[]:=Array.eq_empty_of_size_eq_zero (by simpa using hl.symm)
      rw [this]
    rw [Array.getD_eq_getD_getElem?] at hv
    cases h2 : a.tmps[t]? with
    | none => rfl
    | some y => rw [h2] at hv; simp at hv; rw [hv]; rfl
   ·cases h
theorem step_ok {S S' : St} {a : Act} {w : World} {po : PO} {o : Oper} (hΓ : CallsOk P κ Γ po.op.key) (hc : chkPO P κ N ops po o = true) (hs : Sim w0 cl0 N S a w)
  (h : stepO Γ po S = some S') {Q : Exit → Act → World → Prop} :
  if Region.wanted o (yielded ops a.tmps) then o.wp P a w (Sim w0 cl0 N S') Q else Sim w0 cl0 N S' (a.put o.dst undef) w:=by
 obtain ⟨g,R,hdef,hN⟩:=hs
 have hc0:=hc
 simp only [chkPO,Bool.and_eq_true,decide_eq_true_eq] at hc
 obtain ⟨⟨⟨hdst,hlt⟩,_⟩,hop⟩:=hc
 have hd : ∀ d,po.dst = some d → d < a.tmps.size:=fun d e => by rw [e] at hlt; have:=of_decide_eq_true hlt; omega
 rcases stepO_cases h with ⟨h1,rfl⟩ | ⟨h1,av,rt,m',ho,h2⟩
 ·rw [guard_ok R hc0 h1,if_neg (by simp),← hdst]
  refine ⟨g,R.put hd ?_ (fun r hr => by simp [AV.refs,AV.refsL] at hr),by rw [put_defers]; exact hdef,by rw [put_size]; exact hN⟩
  exact .tup [] #[] rfl (fun i b x hb => by simp at hb)
 ·rw [guard_ok R hc0 h1,if_pos rfl]
  have hn' : rt.isSome → (m' (po.dst.getD 0)).1 = none:=by
   rcases h2 with ⟨rfl,_⟩ | ⟨d,r,rfl,hd2,hm,_⟩
   ·simp
   ·intro _; rw [hd2]; exact hm
  have hu:=ok_op R hn' hΓ hop ho o rfl
  have key : ∀ v w',Post w0 cl0 S a.tmps (po.dst.getD 0) av rt m' v w' → Sim w0 cl0 N S' (a.put o.dst v) w':=by
   intro v w' hp
   obtain ⟨g',R',ha,hl⟩:=hp
   rw [← hdst]
   refine ⟨g',?_,by rw [put_defers]; exact hdef,by rw [put_size]; exact hN⟩
   rcases h2 with ⟨rfl,rfl⟩ | ⟨d,r,rfl,hd2,hm,rfl⟩
   ·exact Rel.put (S:={ S with ms:=m' }) R' hd ha hl
   ·have:=Rel.put (S:={ S with ms:=upd m' d (some r,[]) }) (dst:=po.dst) (by rw [hd2] at R'; exact R') hd (by rw [hd2] at ha; exact ha) (by rw [hd2] at hl; exact hl)
    exact this
  unfold Oper.wp
  generalize (execOp a.eval o).run P w = res at hu
  cases res with
  | ok n w' =>
   cases n with
   | value v => exact key v w' hu
   | skip => exact key undef w' hu
   | enter f args =>
    refine Calls.mono hu fun e w'' he => ?_
    obtain ⟨v,rfl,hp⟩:=he
    exact key v w'' hp
   | _ => exact hu.elim
  | halt x w' => exact hu.elim
def chkOps (P : Program) (κ : Nat → FuncId) (N : Nat) (ops : Array Oper) : List PO → List Oper → Bool
 | [],[] => true
 | p :: ps,o :: os => chkPO P κ N ops p o && chkOps P κ N ops ps os
 | _,_ => false
theorem chkOps_get : ∀ (ps : List PO) (os : List Oper),chkOps P κ N ops ps os = true → ps.length = os.length ∧
  ∀ (i : Nat) (p : PO) (o : Oper),ps[i]? = some p → os[i]? = some o → chkPO P κ N ops p o = true:=by
 intro ps
 induction ps with
 | nil => intro os h; cases os <;> simp [chkOps] at h ⊢
 | cons p ps ih =>
  intro os h
  cases os with
  | nil => simp [chkOps] at h
  | cons o os =>
   simp only [chkOps,Bool.and_eq_true] at h
   obtain ⟨h1,h2⟩:=ih os h.2
   refine ⟨by simp [h1],fun i q x hq hx => ?_⟩
   cases i with
   | zero => simp at hq hx; subst hq; subst hx; exact h.1
   | succ i => exact h2 i q x (by simpa using hq) (by simpa using hx)
def keysOps (ps : List PO) : List Nat:=ps.flatMap fun p => p.op.key
theorem wpOp_ok {pos : List PO} (hΓ : CallsOk P κ Γ (keysOps pos)) (hc : chkOps P κ N ops pos ops.toList = true) {i : Nat} {po : PO} {S S1 : St} {a : Act} {w : World} (hi : pos[i]? = some po)
  (hs : Sim w0 cl0 N S a w) (h : stepO Γ po S = some S1) {Q : Exit → Act → World → Prop} {K : Act → World → Prop} (hK : ∀ a w,Sim w0 cl0 N S1 a w → K a w) :
  wpOp P ops Q i K a w:=by
 obtain ⟨hl,hg⟩:=chkOps_get pos ops.toList hc
 have hlt:=lt_of_get hi
 have ho : ops[i]? = some ops[i]:=by simp [show i < ops.size by rw [hl] at hlt; simpa using hlt]
 generalize ops[i] = o at ho
 have hcp:=hg i po o hi (by simpa using ho)
 have hst:=step_ok (w0:=w0) (cl0:=cl0) (Q:=Q) hΓ hcp hs h
 unfold wpOp
 simp only [ho]
 split
 ·rename_i hw
  rw [if_pos hw] at hst
  exact .inl (Oper.wp_mono hK hst)
 ·rename_i hw
  rw [if_neg hw] at hst
  exact hK _ _ hst
theorem wpOps_ok {pos : List PO} {F : Nat → List Nat × List Nat} (hΓ : CallsOk P κ Γ (keysOps pos)) (hc : chkOps P κ N ops pos ops.toList = true) {Q : Exit → Act → World → Prop} {S' : St}
  (hQ : ∀ a w,Sim w0 cl0 N S' a w → Q .normal a w) : ∀ (l : List Nat) (S : St) (a : Act) (w : World),RunsF Γ pos F l S S' → Sim w0 cl0 N S a w → wpOps P ops Q l a w:=by
 intro l
 induction l with
 | nil => intro S a w h hs; have : S = S':=h; subst this; exact hQ a w hs
 | cons i l ih =>
  intro S a w h hs
  obtain ⟨po,S1,hi,hst,_,_,h⟩:=h
  rw [wpOps_cons]
  exact wpOp_ok hΓ hc hi hs hst fun a w h2 => ih S1 a w h h2
theorem runs_of (all : List PO) (F : Nat → List Nat × List Nat) : ∀ (os : List PO) (k : Nat) (S S' : St),(∀ i,i < os.length → all[k + i]? = os[i]?) → runOps Γ os S = some S' →
  (∀ i fp,(foots Γ os S)[i]? = some fp → F (k + i) = fp) → RunsF Γ all F (List.range' k os.length) S S':=by
 intro os
 induction os with
 | nil => intro k S S' _ h _; simp [runOps] at h; exact h
 | cons o os ih =>
  intro k S S' ha h hF
  simp only [runOps] at h
  split at h
  ·rename_i S1 hst
   have hf0 : foots Γ (o :: os) S = (footR S o,footW S o) :: foots Γ os S1:=by simp only [foots,hst]
   have h0:=hF 0 (footR S o,footW S o) (by rw [hf0]; rfl)
   simp only [Nat.add_zero] at h0
   rw [List.length_cons,List.range'_succ]
   refine ⟨o,S1,by have:=ha 0 (by simp); simpa using this,hst,by rw [h0],by rw [h0],ih (k + 1) S1 S' (fun i hi => ?_) h (fun i fp hi => ?_)⟩
   ·have:=ha (i + 1) (by simp; omega)
    rw [show k + 1 + i = k + (i + 1) from by omega,this]; rfl
   ·have:=hF (i + 1) fp (by rw [hf0]; exact hi)
    rwa [show k + 1 + i = k + (i + 1) from by omega]
  ·cases h
def ftF (fs : List (List Nat × List Nat)) (i : Nat) : List Nat × List Nat:=fs[i]?.getD ([],[])
theorem runs_all {os : List PO} {S S' : St} (h : runOps Γ os S = some S') : RunsF Γ os (ftF (foots Γ os S)) (List.range os.length) S S':=by
 rw [List.range_eq_range']
 exact runs_of os _ os 0 S S' (fun i _ => by simp) h (fun i fp hi => by simp [ftF,hi])
theorem wp_seqReg {pos : List PO} (hΓ : CallsOk P κ Γ (keysOps pos)) (hc : chkOps P κ N ops pos ops.toList = true) {Q : Exit → Act → World → Prop} {S S' : St} {id : Nat}
  (hQ : ∀ a w,Sim w0 cl0 N S' a w → Q .normal a w) (h : runOps Γ pos S = some S') {a : Act} {w : World} (hs : Sim w0 cl0 N S a w) : (Code.region id ops false).wp P Q a w:=by
 refine wp_region ?_
 have hl:=(chkOps_get pos ops.toList hc).1
 have:=wpOps_ok hΓ hc hQ _ S a w (runs_all h) hs
 rwa [hl] at this
end
end Go.Proofs.YtmlinnkaccgcgaaGreat.OM
