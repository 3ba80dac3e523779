/- The own machine: calls that write what they are given. -/
import Derived.Test.YtmlinnkaccgcgaaGreatOMIo
set_option linter.all false
namespace Go.Proofs.YtmlinnkaccgcgaaGreat.OM
section
variable {P : Program} {κ : Nat → FuncId} {w0 : World} {cl0 : Ini} {Γ : Env} {w : World} {g : Gh}
theorem outV_ok {S : St} {tmps : Array Value} (R : Rel w0 cl0 S tmps w g) {a : AV} {v : Value} {x : V} {m' : Ms} (ha : RA w g S.ms a v) (h : outV S.ms a = some (x,m')) (q : Nat) :
  ∃ g',Rel w0 cl0 { S with ms:=m' } tmps w g' ∧ TkR (fun k => q ≤ k ∧ k < q + x.flat.length) g S.ms g' m' ∧ RV1 w g' 0 q x v:=by
 by_cases hn : ∃ cs,a = .agg cs
 ·obtain ⟨cs,rfl⟩:=hn
  simp only [outV] at h
  split at h
  ·rename_i l m1 h1
   simp at h; obtain ⟨rfl,rfl⟩:=h
   cases ha with
   | agg _ vs hl hra =>
    obtain ⟨g',R',T,hl',hc⟩:=absCs_ok cs R (vals:=vs.toList) q (by simpa using hl) (fun i a x h2 h3 => hra i a x h2 (by simpa using h3)) h1
    refine ⟨g',R',T.weak (fun k hk => by simp only [V.flat,hl']; exact hk),vs,rfl,by simp [hl',hl],fun i c x h2 h3 => hc i c x h2 h3⟩
  ·cases h
 ·have h1 : ∃ c,absC S.ms a = some (c,m') ∧ x = .one c:=by
   cases a with
   | agg cs => exact absurd ⟨cs,rfl⟩ hn
   | _ =>
    simp only [outV] at h
    split at h
    ·rename_i c m1 h1; simp at h; obtain ⟨rfl,rfl⟩:=h; exact ⟨c,h1,rfl⟩
    ·cases h
  obtain ⟨c,h1,rfl⟩:=h1
  obtain ⟨g',R',T,hc⟩:=absC_ok R ha h1 q
  have hv : a.isVal = true:=by
   cases a with
   | un => simp [absC] at h1
   | tup => simp [absC] at h1
   | v k d => cases d <;> first | rfl | (simp [absC] at h1)
   | _ => rfl
  exact ⟨g',R',T.weak (fun k hk => by subst hk; simp [V.flat]),hc,(val_one ha hv fun cs e => hn ⟨cs,e⟩).1⟩
theorem TkR.rv1 {N : Nat → Prop} {g g' : Gh} {m m' : Ms} (h : TkR N g m g' m') {x : V} {v : Value} {q : Nat} (hq : ∀ k,q ≤ k → k < q + x.flat.length → ¬ N k) (hx : RV1 w g 0 q x v) : RV1 w g' 0 q x v:=by
 cases x with
 | one c => exact ⟨h.rc (hq q (Nat.le_refl _) (by simp [V.flat])) hx.1,hx.2⟩
 | st cs =>
  obtain ⟨vs,rfl,hl,hc⟩:=hx
  exact ⟨vs,rfl,hl,fun i c x h1 h2 => h.rc (hq _ (by omega) (by have:=lt_of_get h1; simp only [V.flat]; omega)) (hc i c x h1 h2)⟩
 | ptr => exact hx.elim
 | tup => exact hx.elim
theorem absC_own {m m' : Ms} {a : AV} {c : C} (h : absC m a = some (c,m')) : c.noRf = true:=by
 unfold absC at h
 split at h
 ·cases h
 ·simp at h; obtain ⟨rfl,_⟩:=h; rfl
 ·simp at h; obtain ⟨rfl,_⟩:=h; rfl
 ·split at h
  ·simp at h; obtain ⟨rfl,_⟩:=h; rfl
  ·cases h
 ·split at h
  ·simp at h; obtain ⟨rfl,_⟩:=h; rfl
  ·cases h
 ·cases h
theorem absCs_own : ∀ (as : List AV) {m m' : Ms} {cs : List C},absCs m as = some (cs,m') → cs.all C.noRf = true:=by
 intro as
 induction as with
 | nil => intro m m' cs h; simp [absCs] at h; obtain ⟨rfl,_⟩:=h; rfl
 | cons a as ih =>
  intro m m' cs h
  simp only [absCs] at h
  split at h
  ·rename_i c m1 h1
   split at h
   ·rename_i cs2 m2 h2
    simp at h; obtain ⟨rfl,_⟩:=h
    simp [absC_own h1,ih h2]
   ·cases h
  ·cases h
theorem outV_own {m m' : Ms} {a : AV} {x : V} (h : outV m a = some (x,m')) : x.flat.all C.noRf = true ∧ (∀ cs,x ≠ .ptr cs) ∧ (∀ cs,x ≠ .tup cs):=by
 unfold outV at h
 split at h
 ·split at h
  ·rename_i h1
   simp at h; obtain ⟨rfl,_⟩:=h
   exact ⟨absCs_own _ h1,by simp,by simp⟩
  ·cases h
 ·split at h
  ·rename_i h1
   simp at h; obtain ⟨rfl,_⟩:=h
   exact ⟨by simp [V.flat,absC_own h1],by simp,by simp⟩
  ·cases h
theorem borC_isRo {m : Ms} {a : AV} {c : C} (h : borC m a = some c) : c.isRo = true:=by
 unfold borC at h
 split at h <;> first | (cases h; done) | (simp at h; subst h; rfl) | (split at h <;> first | (cases h; done) | (simp at h; subst h; rfl) | (split at h <;> first | (cases h; done) | (simp at h; subst h; rfl)))
theorem borCs_isRo {m : Ms} : ∀ (as : List AV) {cs : List C},borCs m as = some cs → cs.all C.isRo = true:=by
 intro as
 induction as with
 | nil => intro cs h; simp [borCs] at h; subst h; rfl
 | cons a as ih =>
  intro cs h
  simp only [borCs] at h
  split at h
  ·rename_i c h1
   split at h
   ·rename_i cs2 h2
    simp at h; subst h
    simp [borC_isRo h1,ih h2]
   ·cases h
  ·cases h
theorem argV_isRo {m : Ms} {a : AV} {x : V} (h : argV m false a = some x) : x.flat.all C.isRo = true:=by
 cases a with
 | agg cs =>
  simp only [argV,Bool.false_eq_true,if_false] at h
  split at h
  ·rename_i h1; simp at h; subst h; exact borCs_isRo _ h1
  ·cases h
 | _ =>
  simp only [argV,Bool.false_eq_true,if_false] at h
  split at h
  ·rename_i h1; simp at h; subst h; simp [V.flat,borC_isRo h1]
  ·cases h
theorem RV1.keep {g' : Gh} {r j : Nat} {x : V} {v : Value} (hk : ∀ b k,g.cl b = kc k → g'.cl b = kc k) (hx : x.flat.all C.isRo = true) (h : RV1 w g r j x v) : RV1 w g' r j x v:=by
 have hc : ∀ {n : Nat} {c : C} {y : Value},c.isRo = true → RC w g r n c y → RC w g' r n c y:=fun {n c y} h1 h2 => by
  cases h2 with
  | ro k d _ h3 => exact .ro _ _ _ (h3.mono fun b hb => ⟨rfl,hk b _ hb⟩)
  | own => simp [C.isRo] at h1
  | rf => simp [C.isRo] at h1
 cases x with
 | one c => exact ⟨hc (by simpa [V.flat] using hx) h.1,h.2⟩
 | st cs =>
  obtain ⟨vs,rfl,hl,h2⟩:=h
  exact ⟨vs,rfl,hl,fun i c y h3 h4 => hc (List.all_eq_true.1 hx c (List.mem_of_getElem? h3)) (h2 i c y h3 h4)⟩
 | ptr => exact h.elim
 | tup => exact h.elim
theorem RVa.keep {g' : Gh} {i : Nat} {x : V} {v : Value} (hk : ∀ b k,g.cl b = kc k → g'.cl b = kc k) (hx : x.flat.all C.isRo = true) (hp : ∀ cs,x ≠ .ptr cs) (h : RVa w g i x v) : RVa w g' i x v:=by
 have hno : ∀ x : V,x.flat.all C.isRo = true → ¬ x.flat.any C.isOwn = true:=fun x h1 h2 => by
  obtain ⟨c,h3,h4⟩:=List.any_eq_true.1 h2
  have:=List.all_eq_true.1 h1 c h3
  cases c <;> simp [C.isRo,C.isOwn] at this h4
 cases x with
 | one c => exact ⟨h.1.keep hk hx,fun h2 => absurd h2 (hno _ hx)⟩
 | st cs => exact ⟨h.1.keep hk hx,fun h2 => absurd h2 (hno _ hx)⟩
 | ptr cs => exact absurd rfl (hp cs)
 | tup => exact h.elim
theorem argV_ptr {m : Ms} {a : AV} {x : V} (h : argV m false a = some x) : ∀ cs,x ≠ .ptr cs:=by
 intro cs e
 subst e
 cases a with
 | _ =>
  simp only [argV,Bool.false_eq_true,if_false] at h
  split at h <;> simp at h
theorem argVs_each {m : Ms} : ∀ (as : List AV) (xs : List V) (i : Nat),argVs m [] i as = some xs → ∀ (k : Nat) (x : V),xs[k]? = some x → ∃ a,argV m false a = some x:=by
 intro as
 induction as with
 | nil => intro xs i h k x hx; simp [argVs] at h; subst h; simp at hx
 | cons a as ih =>
  intro xs i h k x hx
  simp only [argVs,List.contains_nil] at h
  split at h
  ·rename_i y h1
   split at h
   ·rename_i ys h2
    simp at h; subst h
    cases k with
    | zero => simp at hx; subst hx; exact ⟨a,h1⟩
    | succ k => exact ih ys _ h2 k x (by simpa using hx)
   ·cases h
  ·cases h
theorem held_arg {x : V} {v : Value} {X : Nat → Value} {lent : Bool} (hn : x.flat.all C.noRf = true) (hX : ∀ j y,v.cells[j]? = some y → X j = y) (h : RV1 w g 0 0 x v) : RVa w (g.gi X lent) 0 x v:=by
 have hc : ∀ {n : Nat} {c : C} {y : Value},c.noRf = true → X n = y → RC w g 0 n c y → RC w (g.gi X lent) 1 n c y:=fun {n c y} h1 hy h2 => by
  cases h2 with
  | ro k d _ h3 => exact .ro _ _ _ (h3.mono fun b hb => ⟨rfl,Gh.gi_up hb⟩)
  | own d _ h3 =>
   refine .own _ _ (Hd.place (w:=w) (g:=g) (.inl h3) (fun b ρ hb => ⟨rfl,by simp [Gh.gi,hb]⟩) (fun ρ hρ => ?_) ?_)
   ·simp [Gh.gi,hρ]
   ·simp [Gh.gi,hy]
  | rf => simp [C.noRf] at h1
 cases x with
 | one c =>
  refine ⟨⟨hc (by simpa [V.flat] using hn) (hX 0 v (by rw [h.2]; rfl)) h.1,h.2⟩,fun _ j y hy => ?_⟩
  simp [Gh.gi,hX j y hy]
 | st cs =>
  obtain ⟨vs,rfl,hl,h2⟩:=h
  refine ⟨⟨vs,rfl,hl,fun i c y h3 h4 => ?_⟩,fun _ j y hy => ?_⟩
  ·refine hc (List.all_eq_true.1 hn c (List.mem_of_getElem? h3)) (hX _ y ?_) (h2 i c y h3 h4)
   rw [Nat.zero_add]
   simpa [Value.cells] using h4
  ·simp [Gh.gi,hX j y hy]
 | ptr => exact h.elim
 | tup => exact h.elim
theorem upC_so {m m' : Ms} {c : C} {a : AV} (h : upC m c a = some m') : (∀ r,(m' r).1.isSome = (m r).1.isSome) ∧ c.noRf = true:=by
 unfold upC at h
 split at h
 ·rename_i r j p
  split at h
  ·split at h
   ·rename_i hat
    obtain ⟨hnk,rt,d0,h1,h2,h3⟩:=at_some hat
    simp only [Ms.putAt,h1,h2] at h
    simp at h; subst h
    refine ⟨fun r1 => ?_,rfl⟩
    by_cases e : r1 = r
    ·subst e; simp [upd_same,h1]
    ·simp [upd_ne e]
   ·cases h
  ·cases h
 ·split at h
  ·simp at h; subst h; exact ⟨fun _ => rfl,rfl⟩
  ·cases h
 ·cases h
theorem ups_so {as : List AV} : ∀ (us : List (Nat × Nat × C)) {lo : Nat} {m m' : Ms},ups as lo m us = some m' → (∀ r,(m' r).1.isSome = (m r).1.isSome) ∧ ∀ i j c,(i,j,c) ∈ us → i = 0 ∧ c.noRf = true:=by
 intro us
 induction us with
 | nil => intro lo m m' h; simp [ups] at h; subst h; exact ⟨fun _ => rfl,fun i j c h => by simp at h⟩
 | cons u us ih =>
  intro lo m m' h
  obtain ⟨i,j,c⟩:=u
  simp only [ups] at h
  split at h
  ·rename_i hij
   split at h
   ·split at h
    ·rename_i h1
     obtain ⟨k1,k2⟩:=upC_so h1
     obtain ⟨k3,k4⟩:=ih h
     refine ⟨fun r => (k3 r).trans (k1 r),fun i' j' c' hm => ?_⟩
     rcases List.mem_cons.1 hm with e | hm
     ·simp only [Prod.mk.injEq] at e; obtain ⟨rfl,rfl,rfl⟩:=e; exact ⟨hij.1,k2⟩
     ·exact k4 i' j' c' hm
    ·cases h
   ·cases h
  ·cases h
end
end Go.Proofs.YtmlinnkaccgcgaaGreat.OM
