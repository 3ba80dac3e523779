/- The own machine: regions whose order is drawn. -/
import Derived.Test.YtmlinnkaccgcgaaGreatOMReg
set_option linter.all false
namespace Go.Proofs.YtmlinnkaccgcgaaGreat.OM
def direct (o : Oper) : List Nat:=(o.after.toList.filter (Region.binds .any)).map (·.on)
def merge (a b : List Nat) : List Nat:=a.foldl (fun acc x => if acc.contains x then acc else x :: acc) b
def ancsGo : List (List Nat) → List Oper → List (List Nat)
 | A,[] => A
 | A,o :: os => ancsGo (A ++ [(direct o).foldl (fun s d => merge (A.getD d []) (merge [d] s)) []]) os
def chkAnc (ops : List Oper) (A : List (List Nat)) : Bool :=
 (List.range ops.length).all fun i => match ops[i]?,A[i]? with
  | some o,some l => (direct o).all (fun e => decide (e < i)) && l.all fun k => (direct o).contains k || (direct o).any fun d => match A[d]? with | some m => m.contains k | none => false
  | _,_ => false
def quiet (p q : PO) : Bool:=(p.op.takes.isEmpty && !p.op.creates) || q.op.reads.isEmpty
def chkPairs (pos : List PO) (A : List (List Nat)) (ps : List (Nat × Nat)) : Bool :=
 (List.range pos.length).all fun i => match pos[i]?,A[i]? with
  | some q,some l => (List.range i).all fun k => l.contains k || match pos[k]? with
   | some p => apartO p q && ((quiet p q && quiet q p) || ps.contains (k,i))
   | none => false
  | _,_ => false
def chkDraw (pos : List PO) (ops : List Oper) (ps : List (Nat × Nat)) : Bool:=chkAnc ops (ancsGo [] ops) && chkPairs pos (ancsGo [] ops) ps
section
variable {P : Program} {κ : Nat → FuncId} {w0 : World} {cl0 : Ini} {Γ : Env} {N : Nat} {ops : Array Oper}
theorem quiet_spec {p q : PO} {S S' : St} (h : quiet p q = true) : disj (footW S p) (footR S' q) = true:=by
 simp only [quiet,Bool.or_eq_true,Bool.and_eq_true,Bool.not_eq_true',List.isEmpty_iff] at h
 rcases h with ⟨h1,h2⟩ | h1
 ·have : footW S p = []:=by simp [footW,h1,h2]
  rw [this]; rfl
 ·have : footR S' q = []:=by simp [footR,h1]
  rw [this]
  simp [disj]
theorem RunsF.at {os : List PO} {F : Nat → List Nat × List Nat} : ∀ (l : List Nat) {S S' : St},RunsF Γ os F l S S' → ∀ i ∈ l,∃ o S1,os[i]? = some o ∧ footR S1 o = (F i).1 ∧ footW S1 o = (F i).2:=by
 intro l
 induction l with
 | nil => intro S S' _ i hi; simp at hi
 | cons j l ih =>
  intro S S' h i hi
  obtain ⟨o,S1,h1,_,h2,h3,h⟩:=h
  rcases List.mem_cons.1 hi with rfl | hi
  ·exact ⟨o,S,h1,h2,h3⟩
  ·exact ih h i hi
theorem pairs_ok {pos : List PO} {A : List (List Nat)} {ps : List (Nat × Nat)} {S S' : St} (hc : chkPairs pos A ps = true) (hr : runOps Γ pos S = some S') (hp : parOk (foots Γ pos S) ps = true)
  {k i : Nat} (hi : i < pos.length) (hk : k < i) {l : List Nat} (hA : A[i]? = some l) (hn : k ∉ l) : PairOk pos (ftF (foots Γ pos S)) k i:=by
 intro p q hpk hqi
 simp only [chkPairs,List.all_eq_true,List.mem_range] at hc
 have h1:=hc i hi
 rw [hqi,hA] at h1
 simp only [List.all_eq_true,List.mem_range,Bool.or_eq_true,List.contains_iff_mem] at h1
 have h2:=(h1 k hk).resolve_left hn
 rw [hpk] at h2
 simp only [Bool.and_eq_true,Bool.or_eq_true] at h2
 refine ⟨h2.1,?_⟩
 have hruns:=runs_all hr
 obtain ⟨p',S1,e1,f1,f2⟩:=RunsF.at _ hruns k (by simp; omega)
 obtain ⟨q',S2,e2,f3,f4⟩:=RunsF.at _ hruns i (by simp; omega)
 rw [hpk] at e1; cases e1
 rw [hqi] at e2; cases e2
 rcases h2.2 with ⟨h3,h4⟩ | h3
 ·rw [← f1,← f2,← f3,← f4]
  exact ⟨quiet_spec h3,quiet_spec h4⟩
 ·simp only [parOk,List.all_eq_true] at hp
  have h5:=hp (k,i) (by simpa using h3)
  simp only at h5
  split at h5
  ·rename_i r1 w1 r2 w2 g1 g2
   simp only [Bool.and_eq_true] at h5
   simpa [ftF,g1,g2] using h5
  ·cases h5
def left (n : Nat) (listed : Array Bool) : List Nat:=(List.range n).filter fun i => !listed.getD i true
theorem left_split {n i : Nat} {listed : Array Bool} (hs : listed.size = n) (hi : i ∈ left n listed) :
  ∃ ks rest,left n listed = ks ++ i :: rest ∧ (∀ k ∈ ks,k < i ∧ k ∈ left n listed) ∧ left n (listed.setIfInBounds i true) = ks ++ rest:=by
 obtain ⟨ks,rest,h⟩:=List.append_of_mem hi
 have hsort : (left n listed).Pairwise (· < ·):=List.Pairwise.filter _ List.pairwise_lt_range
 rw [h] at hsort
 have h1:=List.pairwise_append.1 hsort
 refine ⟨ks,rest,h,fun k hk => ⟨h1.2.2 k hk i (by simp),by rw [h]; simp [hk]⟩,?_⟩
 have hin : i < n:=by simp only [left,List.mem_filter,List.mem_range] at hi; exact hi.1
 have h2 : left n (listed.setIfInBounds i true) = (left n listed).filter fun j => j != i:=by
  simp only [left,List.filter_filter]
  refine List.filter_congr fun j hj => ?_
  simp only [List.mem_range] at hj
  by_cases e : j = i
  ·subst e; simp [hs,hin]
  ·rw [getD_set_ne true (Ne.symm e)]
   have : (j != i) = true:=by simpa using e
   rw [this,Bool.true_and]
 rw [h2,h,List.filter_append,List.filter_cons]
 have hk : ks.filter (fun j => j != i) = ks:=List.filter_eq_self.2 fun j hj => by
  have:=h1.2.2 j hj i (by simp)
  simp; omega
 have hr : rest.filter (fun j => j != i) = rest:=List.filter_eq_self.2 fun j hj => by
  have:=(List.pairwise_cons.1 h1.2.1).1 j hj
  simp; omega
 simp [hk,hr]
theorem any_ok {pos : List PO} (hΓ : CallsOk P κ Γ (keysOps pos)) (hc : chkOps P κ N ops pos ops.toList = true) {F : Nat → List Nat × List Nat} {A : List (List Nat)} (hA : chkAnc ops.toList A = true)
  (hp : ∀ i k l,i < pos.length → k < i → A[i]? = some l → k ∉ l → PairOk pos F k i) {Q : Exit → Act → World → Prop} {S' : St} (hQ : ∀ a w,Sim w0 cl0 N S' a w → Q .normal a w) :
  ∀ (fuel : Nat) (listed : Array Bool) (S : St) (a : Act) (w : World),listed.size = ops.size → (left ops.size listed).length = fuel →
   (∀ x,listed.getD x false = true → ∀ l,A[x]? = some l → ∀ k ∈ l,listed.getD k false = true) →
   RunsF Γ pos F (left ops.size listed) S S' → Sim w0 cl0 N S a w → wpAny P .any ops Q fuel listed a w:=by
 have hl:=(chkOps_get pos ops.toList hc).1
 simp only [Array.length_toList] at hl
 simp only [chkAnc,List.all_eq_true,List.mem_range,Array.length_toList] at hA
 have hAt : ∀ i,i < ops.size → ∃ o l,ops[i]? = some o ∧ A[i]? = some l ∧ (∀ e ∈ direct o,e < i) ∧
   ∀ k ∈ l,k ∈ direct o ∨ ∃ d ∈ direct o,∃ m,A[d]? = some m ∧ k ∈ m:=by
  intro i hi
  have h1:=hA i hi
  split at h1
  ·rename_i o l e1 e2
   simp only [Bool.and_eq_true,List.all_eq_true,decide_eq_true_eq,Bool.or_eq_true,List.contains_iff_mem,List.any_eq_true] at h1
   refine ⟨o,l,by simpa using e1,e2,h1.1,fun k hk => ?_⟩
   rcases h1.2 k hk with h2 | ⟨d,hd,h2⟩
   ·exact .inl h2
   ·right
    refine ⟨d,hd,?_⟩
    split at h2
    ·rename_i m hm; exact ⟨m,hm,by simpa using h2⟩
    ·cases h2
  ·cases h1
 have hnot : ∀ (listed : Array Bool) k,listed.size = ops.size → (k ∈ left ops.size listed ↔ (k < ops.size ∧ listed.getD k false = false)):=by
  intro listed k hs
  simp only [left,List.mem_filter,List.mem_range,Bool.not_eq_true']
  constructor
  ·rintro ⟨h1,h2⟩; refine ⟨h1,?_⟩; simpa [hs,h1] using h2
  ·rintro ⟨h1,h2⟩; refine ⟨h1,?_⟩; simpa [hs,h1] using h2
 have hready : ∀ (listed : Array Bool) i,listed.size = ops.size → i ∈ Region.ready .any ops listed → i ∈ left ops.size listed ∧ ∀ o,ops[i]? = some o → ∀ e ∈ direct o,listed.getD e false = true:=by
  intro listed i hs hi
  obtain ⟨h1,o,ho,h2⟩:=mem_ready.1 hi
  refine ⟨by simp only [left,List.mem_filter,List.mem_range,h1]; exact ⟨(Array.getElem?_eq_some_iff.1 ho).1,rfl⟩,fun o' ho' e he => ?_⟩
  rw [ho] at ho'; cases ho'
  simp only [direct,List.mem_map,List.mem_filter] at he
  obtain ⟨x,⟨hx1,hx2⟩,rfl⟩:=he
  exact h2 x (by simpa using hx1) hx2
 intro fuel
 induction fuel with
 | zero =>
  intro listed S a w hs hf hcl hr hsim
  have hnil : left ops.size listed = []:=List.eq_nil_of_length_eq_zero hf
  rw [hnil] at hr
  have : S = S':=hr
  subst this
  refine ⟨?_,hQ a w hsim⟩
  cases h : Region.ready .any ops listed with
  | nil => rfl
  | cons i t =>
   have:=(hready listed i hs (by rw [h]; simp)).1
   rw [hnil] at this; simp at this
 | succ fuel ih =>
  intro listed S a w hs hf hcl hr hsim
  refine ⟨fun h => ?_,fun i hi => ?_⟩
  ·exfalso
   cases hll : left ops.size listed with
   | nil => rw [hll] at hf; simp at hf
   | cons i t =>
    have hi : i ∈ left ops.size listed:=by rw [hll]; simp
    obtain ⟨hin,hiu⟩:=(hnot listed i hs).1 hi
    obtain ⟨o,l,ho,hAl,hlt,_⟩:=hAt i hin
    have : i ∈ Region.ready .any ops listed:=by
     rw [mem_ready]
     refine ⟨by simpa [hs,hin] using hiu,o,ho,fun e he hb => ?_⟩
     have h1 : e.on ∈ direct o:=by simp only [direct,List.mem_map,List.mem_filter]; exact ⟨e,⟨by simpa using he,hb⟩,rfl⟩
     have h2:=hlt _ h1
     cases h3 : listed.getD e.on false with
     | true => rfl
     | false =>
      have h4 : e.on ∈ left ops.size listed:=(hnot listed _ hs).2 ⟨by omega,h3⟩
      have hsort : (left ops.size listed).Pairwise (· < ·):=List.Pairwise.filter _ List.pairwise_lt_range
      rw [hll] at hsort h4
      rcases List.mem_cons.1 h4 with h5 | h5
      ·omega
      ·have:=(List.pairwise_cons.1 hsort).1 _ h5; omega
    rw [h] at this; simp at this
  ·obtain ⟨hil,hdeps⟩:=hready listed i hs hi
   obtain ⟨hin,hiu⟩:=(hnot listed i hs).1 hil
   obtain ⟨o,l,ho,hAl,hlt,hanc⟩:=hAt i hin
   have hdep:=hdeps o ho
   have hall : ∀ k ∈ l,listed.getD k false = true:=fun k hk => by
    rcases hanc k hk with h1 | ⟨d,hd,m,hm,hkm⟩
    ·exact hdep k h1
    ·exact hcl d (hdep d hd) m hm k hkm
   obtain ⟨ks,rest,hsp,hks,hset⟩:=left_split hs hil
   rw [hsp] at hr
   have hb:=RunsF.bubble ks hr fun k hk => hp i k l (by omega) (hks k hk).1 hAl fun hkl => by
    have h1:=hall k hkl
    have h2:=((hnot listed k hs).1 (hks k hk).2).2
    rw [h1] at h2; cases h2
   obtain ⟨po,S1,hpi,hst,_,_,hb⟩:=hb
   refine wpOp_ok hΓ hc hpi hsim hst fun a w h2 => ih _ S1 a w (by simp [hs]) ?_ ?_ (by rw [hset]; exact hb) h2
   ·rw [hset]; rw [hsp] at hf; simp at hf ⊢; omega
   ·intro x hx m hm k hk
    by_cases e : x = i
    ·subst e
     rw [hAl] at hm; cases hm
     exact getD_set_true (hall k hk)
    ·rw [getD_set_ne false (Ne.symm e)] at hx
     exact getD_set_true (hcl x hx m hm k hk)
theorem Sim.drew {S : St} {a : Act} {w : World} {n : Nat} (hdn : w.drawn ≤ n) (h : Sim w0 cl0 N S a w) : Sim w0 cl0 N S a { w with drawn:=n }:=by
 obtain ⟨g,R,hd,hN⟩:=h
 exact ⟨g,R.grow (w':={ w with drawn:=n }) (g':=g) (fun _ _ => rfl) (Nat.le_refl _) ⟨rfl,rfl,fun _ h => ⟨h,rfl⟩,rfl,hdn⟩ (fun _ _ => rfl)
  (fun b hb => by
   by_cases h : g.cl b = .no
   ·exact h
   ·have:=R.bd b h; omega) rfl rfl,hd,hN⟩
theorem wp_drawReg (hm : P.follows .mixedOrders = true) {pos : List PO} {ps : List (Nat × Nat)} (hΓ : CallsOk P κ Γ (keysOps pos)) (hc : chkOps P κ N ops pos ops.toList = true) (hd : chkDraw pos ops.toList ps = true)
  {Q : Exit → Act → World → Prop} {S S' : St} {id : Nat}
  (hQ : ∀ a w,Sim w0 cl0 N S' a w → Q .normal a w) (h : runOps Γ pos S = some S') (hp : parOk (foots Γ pos S) ps = true) {a : Act} {w : World} (hs : Sim w0 cl0 N S a w) : (Code.region id ops true).wp P Q a w:=by
 refine wp_region_any hm ?_
 simp only [chkDraw,Bool.and_eq_true] at hd
 have hl:=(chkOps_get pos ops.toList hc).1
 simp only [Array.length_toList] at hl
 have h0 : left ops.size (Array.replicate ops.size false) = List.range pos.length:=by
  rw [left,hl]
  refine List.filter_eq_self.2 fun i hi => ?_
  simp only [List.mem_range] at hi
  simp [hi]
 refine any_ok hΓ hc hd.1 (fun i k l hi hk hA hn => pairs_ok hd.2 h hp hi hk hA hn) hQ _ _ S a _ (by simp) (by rw [h0]; simp [hl]) (fun x hx => ?_) (by rw [h0]; exact runs_all h) (hs.drew (by omega))
 exfalso
 by_cases hxs : x < ops.size
 ·simp [hxs] at hx
 ·simp [show ops.size ≤ x by omega] at hx
end
end Go.Proofs.YtmlinnkaccgcgaaGreat.OM
