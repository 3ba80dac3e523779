/- The own machine: functions, from their arguments to their results. -/
import Derived.Test.YtmlinnkaccgcgaaGreatOMFun
set_option linter.all false
namespace Go.Proofs.YtmlinnkaccgcgaaGreat.OM
section
variable {P : Program} {κ : Nat → FuncId} {w0 : World} {cl0 : Ini} {Γ : Env} {w : World} {g : Gh}
theorem mapM_cons_run {α β : Type} (f : α → Sem β) (x : α) (xs : List α) (v : β) (vs : List β) (h1 : (f x).run P w = .ok v w) (h2 : (xs.mapM f).run P w = .ok vs w) :
  ((x :: xs).mapM f).run P w = .ok (v :: vs) w:=by
 simp [List.mapM_cons,h1,h2]
theorem outVs_ok {L : AL} {tmps : Array Value} {g0 : Gh} (R0 : Rel w0 cl0 L.st tmps w g0) : ∀ (rs : List PR) (rvs : List ResultVar) (m m' : Ms) (g : Gh) (xs : List V) (n : Nat),Rel w0 cl0 { L.st with ms:=m } tmps w g →
  TkR (fun _ => True) g0 L.st.ms g m → chkRes P rs rvs = true → outVs L m rs = some (xs,m') →
  ∃ vs g',(rvs.mapM (readRes tmps)).run P w = .ok vs w ∧ Rel w0 cl0 { L.st with ms:=m' } tmps w g' ∧ RVs w g' n xs vs ∧ TkR (fun k => n ≤ k) g m g' m' ∧ vs.length = rs.length:=by
 intro rs
 induction rs with
 | nil =>
  intro rvs m m' g xs n R T hc h
  simp [outVs] at h; obtain ⟨rfl,rfl⟩:=h
  cases rvs with
  | nil => exact ⟨[],g,by simp [List.mapM_nil],R,trivial,.refl _ _ _,rfl⟩
  | cons rv rvs => cases rv <;> simp [chkRes] at hc
 | cons r rs ih =>
  intro rvs m m' g xs n R T hc h
  cases rvs with
  | nil => cases r <;> simp [chkRes] at hc
  | cons rv rvs =>
   simp only [outVs] at h
   split at h
   ·rename_i a ha
    split at h
    ·rename_i x m1 hx
     split at h
     ·rename_i xs1 m2 hxs
      simp at h; obtain ⟨rfl,rfl⟩:=h
      obtain ⟨v,hr,hra,hc'⟩:=resAV_ok R0 hc ha
      obtain ⟨g1,R1,T1,hv⟩:=outV_ok R (T.ra hra) hx n
      obtain ⟨vs,g2,hrs,R2,hvs,T2,hlen⟩:=ih rvs m1 m2 g1 xs1 (n + x.flat.length) R1 (T.trans (T1.weak fun _ _ => trivial)) hc' hxs
      exact ⟨v :: vs,g2,mapM_cons_run _ _ _ _ _ hr hrs,R2,⟨T2.rv1 (fun k h1 h2 => by omega) hv,hvs⟩,
       (T1.weak fun k hk => hk.1).trans (T2.weak fun k hk => by omega),by simp [hlen]⟩
     ·cases h
    ·cases h
   ·cases h
def UpOk (I : Ini) (m : Ms) (w : World) (g : Gh) : Prop:=∀ i ∈ I.io,∀ rt,(m i).1 = some rt → RtOk w g i rt ∧ Pin I i (some rt) g
theorem Rel.upOk {S : St} {tmps : Array Value} (R : Rel w0 cl0 S tmps w g) : UpOk cl0 S.ms w g:=fun i hi rt h => ⟨R.rt i rt h,h ▸ R.pin i hi⟩
def Gh.give (g : Gh) (r : Nat) : Gh where
 cl:=fun b => match g.cl b with
  | .own (n + 1) j ρ => if n = r then .own 0 j ρ else .own (n + 1) j ρ
  | c => c
 hd:=fun n j ρ => if n = 0 then g.hd (r + 1) j ρ else g.hd n j ρ
 bk:=g.bk
theorem Gh.give_kc {r b : Nat} {k : Bool} : (g.give r).cl b = kc k ↔ g.cl b = kc k:=by
 simp only [Gh.give]
 cases h : g.cl b with
 | own n j ρ =>
  cases n with
  | zero => cases k <;> simp [kc]
  | succ n => simp only; split <;> cases k <;> simp [kc]
 | _ => exact .rfl
theorem Gh.give_mine {r b : Nat} : ((g.give r).cl b).mine = (g.cl b).mine:=by
 simp only [Gh.give]
 cases h : g.cl b with
 | own n j ρ =>
  cases n with
  | zero => rfl
  | succ n => simp only; split <;> rfl
 | _ => rfl
theorem Gh.give_no {r b : Nat} : (g.give r).cl b = .no ↔ g.cl b = .no:=by
 simp only [Gh.give]
 cases h : g.cl b with
 | own n j ρ =>
  cases n with
  | zero => simp
  | succ n => simp only; split <;> simp
 | _ => exact .rfl
structure Base (I : Ini) (w0 w : World) (g : Gh) : Prop where
 sz : w0.heap.size ≤ w.heap.size
 fr : ∀ b,b < w0.heap.size → (I.g.cl b).mine = false → w.heap[b]? = w0.heap[b]?
 im : ∀ b k,g.cl b = kc k ↔ I.g.cl b = kc k
 bd : ∀ b,g.cl b ≠ .no → b < w.heap.size
 mi : ∀ b,b < w0.heap.size → (g.cl b).mine = true → (I.g.cl b).mine = true
 sd : Same w0 w
theorem Rel.base {S : St} {tmps : Array Value} (R : Rel w0 cl0 S tmps w g) : Base cl0 w0 w g:=⟨R.sz,R.fr,R.im,R.bd,R.mi,R.sd⟩
theorem out1_ok {S : St} {tmps : Array Value} (R : Rel w0 cl0 S tmps w g) {a : AV} {v : Value} {x : V} {m' : Ms} (ha : RA w g S.ms a v) (h : out1 S.ms a = some (x,m')) :
  ∃ g',RVr w g' x v ∧ UpOk cl0 m' w g' ∧ Base cl0 w0 w g':=by
 have plain : outV S.ms a = some (x,m') → (∃ g',RVr w g' x v ∧ UpOk cl0 m' w g' ∧ Base cl0 w0 w g'):=by
  intro h
  obtain ⟨g',R',_,hv⟩:=outV_ok R ha h 0
  refine ⟨g',?_,R'.upOk,R'.base⟩
  cases x with
  | one c => exact hv
  | st cs => exact hv
  | ptr => exact hv.elim
  | tup => exact hv.elim
 cases a with
 | bx r j =>
  cases j with
  | succ j => exact plain (by simpa only [out1] using h)
  | zero =>
   simp only [out1] at h
   split at h
   ·rename_i cs hm
    split at h
    ·rename_i hnr
     simp at h; obtain ⟨rfl,rfl⟩:=h
     cases ha
     obtain ⟨hcl,vals,E,hw,hl,hc⟩:=R.rt r _ hm
     have hkc : ∀ b k,g.cl b = kc k → w.heap[b]? = w.heap[b]? ∧ (g.give r).cl b = kc k:=fun b k h => ⟨rfl,Gh.give_kc.2 h⟩
     refine ⟨g.give r,⟨r,g.bk r,vals,E,rfl,by simp [Gh.give,hcl],hw,by simpa using hl.symm,fun i c y h1 h2 => ?_⟩,fun i hi rt h1 => ?_,?_⟩
     ·have h3:=hc i c y h1 (by simpa using h2)
      rw [Nat.zero_add]
      have hno:=List.all_eq_true.1 hnr c (List.mem_of_getElem? h1)
      refine h3.mono hkc (fun b ρ hb => ⟨rfl,by simp [Gh.give,hb]⟩) (fun ρ => by simp [Gh.give]) (fun r1 j1 e => ?_)
      subst e; simp [C.noRf] at hno
     ·have hne : i ≠ r:=fun e => by subst e; simp [upd] at h1
      simp only [upd_ne hne] at h1
      refine ⟨(R.rt i rt h1).mono hkc (fun b j ρ hb => ⟨rfl,by simp [Gh.give,hb,hne]⟩) (fun cs1 e => ⟨rfl,rfl,?_⟩) (fun j ρ => by simp [Gh.give]) (fun _ _ _ _ => by simp [Gh.give]),?_⟩
      ·have:=R.rt i rt h1; subst e; simp [Gh.give,this.1]
      ·have h4:=R.pin i hi
       rw [h1] at h4
       cases rt with
       | vir => exact fun j => by simp only [Gh.give]; exact h4 j
       | bx => exact h4
     ·have B:=R.base
      exact ⟨B.sz,B.fr,fun b k => Gh.give_kc.trans (B.im b k),fun b h => B.bd b (fun e => h (Gh.give_no.2 e)),fun b hb h => B.mi b hb (by rwa [Gh.give_mine] at h),B.sd⟩
    ·cases h
   ·cases h
 | _ => exact plain (by simpa only [out1] using h)
theorem upsOf_mem {i i' j' : Nat} {c : C} : ∀ (cs : List C) (j : Nat),(i',j',c) ∈ upsOf i j cs → i' = i ∧ j ≤ j' ∧ cs[j' - j]? = some c:=by
 intro cs
 induction cs with
 | nil => intro j h; simp [upsOf] at h
 | cons b cs ih =>
  intro j h
  have step : (i',j',c) ∈ upsOf i (j + 1) cs → i' = i ∧ j ≤ j' ∧ (b :: cs)[j' - j]? = some c:=fun h => by
   obtain ⟨h1,h2,h3⟩:=ih _ h
   exact ⟨h1,by omega,by rw [show j' - j = (j' - (j + 1)) + 1 from by omega]; simpa using h3⟩
  simp only [upsOf] at h
  split at h
  ·rcases List.mem_cons.1 h with h | h
   ·simp at h; obtain ⟨rfl,rfl,rfl⟩:=h; exact ⟨rfl,Nat.le_refl _,by simp⟩
   ·exact step h
  ·exact step h
theorem upsAll_mem {i i' j' : Nat} {c : C} : ∀ (cs : List C) (j : Nat),(i',j',c) ∈ upsAll i j cs → i' = i ∧ j ≤ j' ∧ cs[j' - j]? = some c:=by
 intro cs
 induction cs with
 | nil => intro j h; simp [upsAll] at h
 | cons b cs ih =>
  intro j h
  simp only [upsAll] at h
  rcases List.mem_cons.1 h with h | h
  ·simp at h; obtain ⟨rfl,rfl,rfl⟩:=h; exact ⟨rfl,Nat.le_refl _,by simp⟩
  ·obtain ⟨h1,h2,h3⟩:=ih _ h
   exact ⟨h1,by omega,by rw [show j' - j = (j' - (j + 1)) + 1 from by omega]; simpa using h3⟩
theorem upsAll_len (i : Nat) : ∀ (cs : List C) (j : Nat),(upsAll i j cs).length = cs.length:=by
 intro cs
 induction cs with
 | nil => intro j; rfl
 | cons c cs ih => intro j; simp [upsAll,ih]
theorem outUps_len {xs : List V} {m : Ms} {i : Nat} {cs cs0 : List C} (h1 : (m i).1 = some (.bx cs)) (h2 : xs[i]? = some (.ptr cs0)) : ∀ (is : List Nat) {us : List (Nat × Nat × C)},outUps xs m is = some us → i ∈ is → cs.length ≤ us.length:=by
 intro is
 induction is with
 | nil => intro us _ hm; simp at hm
 | cons i0 is ih =>
  intro us h hm
  simp only [outUps] at h
  split at h
  ·rename_i l h3
   split at h
   ·rename_i l2 h4
    simp at h; subst h
    rcases List.mem_cons.1 hm with e | hm
    ·subst e
     simp only [h1,h2,Option.some.injEq] at h3
     subst h3
     simp [upsAll_len]
    ·have:=ih h4 hm
     simp only [List.length_append]
     omega
   ·cases h
  ·cases h
theorem outUps_mem {xs : List V} {m : Ms} {i j : Nat} {c : C} : ∀ (is : List Nat) {us : List (Nat × Nat × C)},outUps xs m is = some us → (i,j,c) ∈ us → i ∈ is ∧
  ((∃ cs x,(m i).1 = some (.vir cs) ∧ xs[i]? = some x ∧ cs[j]? = some c ∧ j < x.flat.length) ∨ ∃ cs cs0,(m i).1 = some (.bx cs) ∧ xs[i]? = some (.ptr cs0) ∧ cs[j]? = some c):=by
 intro is
 induction is with
 | nil => intro us h hm; simp [outUps] at h; subst h; simp at hm
 | cons i0 is ih =>
  intro us h hm
  simp only [outUps] at h
  split at h
  ·rename_i l h1
   split at h
   ·rename_i l2 h2
    simp at h; subst h
    rcases List.mem_append.1 hm with hm | hm
    ·split at h1
     ·rename_i cs x e1 e2
      split at h1
      ·rename_i hl
       simp at h1; subst h1
       obtain ⟨rfl,_,h3⟩:=upsOf_mem cs 0 hm
       simp only [Nat.sub_zero] at h3
       exact ⟨by simp,.inl ⟨cs,x,e1,e2,h3,by have:=lt_of_get h3; omega⟩⟩
      ·cases h1
     ·rename_i cs cs0 e1 e2
      simp at h1; subst h1
      obtain ⟨rfl,_,h3⟩:=upsAll_mem cs 0 hm
      simp only [Nat.sub_zero] at h3
      exact ⟨by simp,.inr ⟨cs,cs0,e1,e2,h3⟩⟩
     ·cases h1
    ·obtain ⟨h3,h4⟩:=ih h2 hm
     exact ⟨by simp [h3],h4⟩
   ·cases h
  ·cases h
end
end Go.Proofs.YtmlinnkaccgcgaaGreat.OM
