/- The own machine: new boxes and slices. -/
import Derived.Test.YtmlinnkaccgcgaaGreatOMOp5
set_option linter.all false
namespace Go.Proofs.YtmlinnkaccgcgaaGreat.OM
section
variable {P : Program} {κ : Nat → FuncId} {w0 : World} {cl0 : Ini} {S : St} {w : World} {g : Gh} {a : Act} {Γ : Env} {d : Nat}
def Post (w0 : World) (cl0 : Ini) (S : St) (ts : Array Value) (d : Nat) (av : AV) (rt : Option Rt) (m' : Ms) (v : Value) (w' : World) : Prop :=
 ∃ g',Rel w0 cl0 { S with ms:=match rt with | none => m' | some r => upd m' d (some r,[]) } ts w' g' ∧
  RA w' g' (match rt with | none => m' | some r => upd m' d (some r,[])) av v ∧ Live (match rt with | none => m' | some r => upd m' d (some r,[])) av
def Gh.new (g : Gh) (d b : Nat) (C : Cls) (H : Nat → Pth → Value) : Gh where
 cl:=upd g.cl b C
 hd:=fun r j ρ => if r = d + 1 then H j ρ else g.hd r j ρ
 bk:=upd g.bk d b
theorem NewR.new {w' : World} (hbd : ∀ b,g.cl b ≠ .no → b < w.heap.size) {d : Nat} {C : Cls} {H : Nat → Pth → Value} (hC : C = .box d ∨ ∃ j p,C = .own (d + 1) j p)
  (hp : ∀ b,b < w.heap.size → w'.heap[b]? = w.heap[b]?) (hs : w'.heap.size = w.heap.size + 1) (hsd : Same w w') : NewR d w w' g (g.new d w.heap.size C H) where
 sd:=hsd
 hp:=fun b h _ => hp b h
 hs:=by omega
 kc:=fun b k => by
  simp only [Gh.new,upd]
  split
  ·rename_i e
   subst e
   have : g.cl w.heap.size = .no:=by
    by_cases h : g.cl w.heap.size = .no
    ·exact h
    ·exact absurd (hbd _ h) (Nat.lt_irrefl _)
   rw [this]
   rcases hC with rfl | ⟨j,p,rfl⟩ <;> cases k <;> simp [OM.kc]
  ·exact .rfl
 cl:=fun b n j ρ h hn => by
  have : b ≠ w.heap.size:=fun e => by have:=hbd b (by rw [h]; simp); omega
  simp [Gh.new,upd,this,h]
 bx:=fun b n h hn => by
  have : b ≠ w.heap.size:=fun e => by have:=hbd b (by rw [h]; simp); omega
  simp [Gh.new,upd,this,h]
 hd:=fun n j ρ hn => by simp [Gh.new,hn]
 bk:=fun n hn => by simp [Gh.new,upd,hn]
 bd:=fun b h => by
  by_cases e : b = w.heap.size
  ·exact .inr ⟨by omega,by omega⟩
  ·simp only [Gh.new,upd_ne e] at h; exact .inl h
 mi:=fun b hb h => by
  have : b ≠ w.heap.size:=by omega
  simpa [Gh.new,upd,this] using h
theorem val_one {m : Ms} {av : AV} {v : Value} (h : RA w g m av v) (hv : av.isVal = true) (hn : ∀ cs,av ≠ .agg cs) : v.cells = #[v] ∧ v.oneCell' = true:=by
 cases h with
 | un => simp [AV.isVal] at hv
 | v k d x h =>
  cases h with
  | dead => simp [AV.isVal] at hv
  | _ => exact ⟨rfl,rfl⟩
 | agg cs => exact absurd rfl (hn cs)
 | tup => simp [AV.isVal] at hv
 | _ => exact ⟨rfl,rfl⟩
theorem cells_ok {m : Ms} {av : AV} {v : Value} (h : RA w g m av v) (hv : av.isVal = true) :
  av.cells.length = v.cells.size ∧ ∀ (k : Nat) (b : AV) (x : Value),av.cells[k]? = some b → v.cells[k]? = some x → RA w g m b x:=by
 by_cases hn : ∀ cs,av ≠ .agg cs
 ·have h1:=(val_one h hv hn).1
  have h2 : av.cells = [av]:=by cases av <;> first | rfl | exact absurd rfl (hn _)
  rw [h1,h2]
  refine ⟨rfl,fun k b x h3 h4 => ?_⟩
  cases k with
  | zero => simp at h3 h4; subst h3; subst h4; exact h
  | succ k => simp at h3
 ·obtain ⟨cs,hn⟩:=Classical.not_forall.1 hn
  obtain rfl:=Classical.not_not.1 hn
  cases h with
  | agg _ vs hl hra => exact ⟨hl,hra⟩
theorem isVal_of_abs {m m' : Ms} {av : AV} {cs : List C} (h : absCs m av.cells = some (cs,m')) : av.isVal = true:=by
 cases av with
 | un => simp [AV.cells,absCs,absC] at h
 | tup => simp [AV.cells,absCs,absC] at h
 | v k d => cases d <;> first | rfl | (simp [AV.cells,absCs,absC] at h)
 | _ => rfl
theorem isVal_of_ref {m : Ms} {av : AV} {cs : List C} (h : refCs m av.cells = some cs) : av.isVal = true:=by
 cases av with
 | un => simp [AV.cells,refCs,refC] at h
 | tup => simp [AV.cells,refCs,refC] at h
 | v k d => cases d <;> first | rfl | (simp [AV.cells,refCs,refC] at h)
 | _ => rfl
theorem refC_ok {m : Ms} {av : AV} {c : C} {x : Value} (ha : RA w g m av x) (h : refC m av = some c) {w' : World} {g' : Gh} {r j : Nat}
  (hb : ∀ b k,g.cl b = kc k → w'.heap[b]? = w.heap[b]? ∧ g'.cl b = kc k) (hh : g'.hd r j [] = x)
  (hr : ∀ r1 j1,((m r1).1).isSome → g'.hd (r1 + 1) j1 [] = g.hd (r1 + 1) j1 []) : RC w' g' r j c x ∧ (∀ r1 j1,c = .rf r1 j1 → ∃ cs,(m r1).1 = some (.vir cs)):=by
 unfold refC at h
 split at h
 ·cases h
 ·simp at h; subst h
  cases ha with
  | v _ _ _ hro => exact ⟨.ro _ _ _ (hro.mono fun b hc => hb b _ hc),by simp⟩
 ·simp at h; subst h
  cases ha with
  | nl => exact ⟨.own _ _ (.nil _ _ hh),by simp⟩
 ·rename_i r0 j0
  split at h
  ·rename_i cs hcs
   split at h
   ·cases h
   ·rename_i hk
    simp at h; subst h
    cases ha with
    | pl _ _ _ b n c0 hx =>
     refine ⟨.rf r0 j0 b n c0 ?_,fun r1 j1 e => ?_⟩
     ·rw [hr r0 j0 (by rw [hcs]; rfl)]; exact (hx (by simpa using hk)).symm
     ·simp at e; obtain ⟨rfl,rfl⟩:=e; exact ⟨cs,hcs⟩
  ·cases h
 ·cases h
theorem refCs_get {m : Ms} : ∀ (as : List AV) {cs : List C},refCs m as = some cs → cs.length = as.length ∧ ∀ (i : Nat) (c : C),cs[i]? = some c → ∃ av,as[i]? = some av ∧ refC m av = some c:=by
 intro as
 induction as with
 | nil => intro cs h; simp [refCs] at h; subst h; exact ⟨rfl,fun i c h => by simp at h⟩
 | cons b bs ih =>
  intro cs h
  simp only [refCs] at h
  cases h1 : refC m b with
  | none => simp [h1] at h
  | some c =>
   simp only [h1] at h
   cases h2 : refCs m bs with
   | none => simp [h2] at h
   | some cs2 =>
    simp only [h2] at h
    simp at h; subst h
    obtain ⟨hl,hg⟩:=ih h2
    refine ⟨by simp [hl],fun i c1 hc => ?_⟩
    cases i with
    | zero => simp at hc; subst hc; exact ⟨b,rfl,h1⟩
    | succ i => exact hg i c1 (by simpa using hc)
theorem newBox (R : Rel w0 cl0 S a.tmps w g) {as : List AV} {vals : Array Value} {cs : List C} (hn : (S.ms d).1 = none) (hcs : refCs S.ms as = some cs)
  (hl : as.length = vals.size) (hra : ∀ (k : Nat) (b : AV) (x : Value),as[k]? = some b → vals[k]? = some x → RA w g S.ms b x) (E : TypeId) :
  Post w0 cl0 S a.tmps d (.bx d 0) (some (.bx cs)) S.ms (.pointer (some ⟨w.heap.size,0,none⟩)) (w.alloc (.cells vals E)):=by
 obtain ⟨hcl,hcg⟩:=refCs_get as hcs
 have hw' : ∀ b,b < w.heap.size → (w.alloc (.cells vals E)).heap[b]? = w.heap[b]?:=fun b hb => heap_alloc_old w _ b hb
 have H:=NewR.new (w:=w) (w':=w.alloc (.cells vals E)) (g:=g) R.bd (d:=d) (C:=.box d) (H:=fun j _ => vals.getD j undef) (.inl rfl) hw' (by simp) (.alloc _ _)
 have hkc : ∀ b k,g.cl b = kc k → (w.alloc (.cells vals E)).heap[b]? = w.heap[b]? ∧ (g.new d w.heap.size (.box d) (fun j _ => vals.getD j undef)).cl b = kc k :=
  fun b k h => ⟨hw' b (R.bd b (by rw [h]; cases k <;> simp [kc])),(H.kc b k).2 h⟩
 have hne : ∀ r,((S.ms r).1).isSome → r ≠ d:=fun r h e => by subst e; simp [hn] at h
 have hrc : ∀ (j : Nat) (c : C) (x : Value),cs[j]? = some c → vals[j]? = some x →
   RC (w.alloc (.cells vals E)) (g.new d w.heap.size (.box d) (fun j _ => vals.getD j undef)) (d + 1) j c x ∧ (∀ r1 j1,c = .rf r1 j1 → ∃ cs,(S.ms r1).1 = some (.vir cs)):=by
  intro j c x hc hx
  obtain ⟨av,h1,h2⟩:=hcg j c hc
  refine refC_ok (hra j av x h1 hx) h2 hkc ?_ (fun r1 j1 h => by simp [Gh.new,hne r1 h])
  simp [Gh.new,Array.getD_eq_getD_getElem?,hx]
 refine ⟨_,R.fresh (rt:=.bx cs) hn H ?_ ?_,?_,?_⟩
 ·refine ⟨by simp [Gh.new,upd],vals,E,by simp only [Gh.new,upd_same]; exact heap_alloc_new w _,by omega,fun j c x hc hx => (hrc j c x hc hx).1⟩
 ·intro j r1 j1 hj
  simp only [Rt.cells] at hj
  have hlt : j < vals.size:=by have:=lt_of_get hj; omega
  exact (hrc j _ vals[j] hj (by simp [hlt])).2 r1 j1 rfl
 ·have : (g.new d w.heap.size (.box d) (fun j _ => vals.getD j undef)).bk d = w.heap.size:=by simp [Gh.new,upd]
  have hb:=RA.bx (w:=w.alloc (.cells vals E)) (g:=g.new d w.heap.size (.box d) (fun j _ => vals.getD j undef)) (m:=upd S.ms d (some (.bx cs),[])) d 0
  rw [this] at hb
  exact hb
 ·intro r hr; simp [AV.refs] at hr; subst hr; simp [upd]
theorem ok_box (R : Rel w0 cl0 S a.tmps w g) {n : Nat} {x : PX} {op : Op} {av : AV} {rt : Option Rt} {m' : Ms} (hn : (S.ms d).1 = none)
  (hc : chkOp P κ (.box n x) op = true) (h : opf Γ S.ev d S.ms (.box n x) = some (av,rt,m')) (o : Oper) (ho : o.op = op) :
  ∃ v w',(execOp a.eval o).run P w = .ok (.value v) w' ∧ Post w0 cl0 S a.tmps d av rt m' v w':=by
 cases op with
 | box e ox => ?_
 | _ => simp [chkOp] at hc
 simp only [chkOp] at hc
 have e1:=(chkX_ok R hc).1
 simp only [opf] at h
 split at h
 ·rename_i cs hcs
  split at h
  ·simp at h; obtain ⟨rfl,rfl,rfl⟩:=h
   obtain ⟨hl,hra⟩:=cells_ok e1 (isVal_of_ref hcs)
   refine ⟨_,_,?_,newBox R hn hcs hl hra e⟩
   simp [execOp,ho,Instr.box,newVar,newRow]
  ·cases h
 ·cases h
theorem chkCs_get : ∀ (as : List AV) (vs : List Value),chkCs as vs = true → as.length = vs.length ∧ ∀ (i : Nat) (b : AV) (v : Value),as[i]? = some b → vs[i]? = some v → chkC b v = true:=by
 intro as
 induction as with
 | nil => intro vs h; cases vs <;> simp [chkCs] at h ⊢
 | cons b bs ih =>
  intro vs h
  cases vs with
  | nil => simp [chkCs] at h
  | cons v vs =>
   simp only [chkCs,Bool.and_eq_true] at h
   obtain ⟨h1,h2⟩:=ih vs h.2
   refine ⟨by simp [h1],fun i c x hc hx => ?_⟩
   cases i with
   | zero => simp at hc hx; subst hc; subst hx; exact h.1
   | succ i => exact h2 i c x (by simpa using hc) (by simpa using hx)
theorem zeroT_some {e : TypeId} {z : List Value} (h : zeroT P e = some z) : ∃ i zv,P.info? e = some i ∧ i.zero = some zv ∧ zv.cells.toList = z ∧ zv.cells.size = i.size:=by
 unfold zeroT at h
 split at h
 ·rename_i i hi
  split at h
  ·rename_i zv hz
   split at h
   ·rename_i hs; simp at h; exact ⟨i,zv,hi,hz,h,hs⟩
   ·cases h
  ·cases h
 ·cases h
theorem ok_alloc (R : Rel w0 cl0 S a.tmps w g) {zs : List AV} {op : Op} {av : AV} {rt : Option Rt} {m' : Ms} (hn : (S.ms d).1 = none)
  (hc : chkOp P κ (.alloc zs) op = true) (h : opf Γ S.ev d S.ms (.alloc zs) = some (av,rt,m')) (o : Oper) (ho : o.op = op) :
  ∃ v w',(execOp a.eval o).run P w = .ok (.value v) w' ∧ Post w0 cl0 S a.tmps d av rt m' v w':=by
 cases op with
 | alloc e => ?_
 | _ => simp [chkOp] at hc
 simp only [chkOp] at hc
 split at hc
 ·rename_i z hz
  obtain ⟨i,zv,hi,hzv,hzc,_⟩:=zeroT_some hz
  obtain ⟨hl,hg⟩:=chkCs_get zs z hc
  simp only [opf] at h
  split at h
  ·rename_i cs hcs
   simp at h; obtain ⟨rfl,rfl,rfl⟩:=h
   refine ⟨_,_,?_,newBox R (vals:=zv.cells) hn hcs (by rw [hl,← hzc]; simp) (fun k b x hb hx => ?_) e⟩
   ·simp [execOp,ho,Instr.alloc,zeroValue,typeInfo,hi,hzv,newVar,newRow]
   ·exact (chkC_ok (hg k b x hb (by rw [← hzc]; simpa using hx))).1
  ·cases h
 ·cases hc
end
end Go.Proofs.YtmlinnkaccgcgaaGreat.OM
