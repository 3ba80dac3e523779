/- The own machine: contracts, and calls that write nothing of the caller's. -/
import Derived.Test.YtmlinnkaccgcgaaGreatOMClr
set_option linter.all false
namespace Go.Proofs.YtmlinnkaccgcgaaGreat.OM
section
variable {P : Program} {κ : Nat → FuncId} {w0 : World} {cl0 : Ini} {S : St} {w : World} {g : Gh} {a : Act} {Γ : Env} {d : Nat}
def cellsR (w : World) (g : Gh) (r j : Nat) (cs : List C) (vs : List Value) : Prop :=
 cs.length = vs.length ∧ ∀ (i : Nat) (c : C) (x : Value),cs[i]? = some c → vs[i]? = some x → RC w g r (j + i) c x
def RV1 (w : World) (g : Gh) (r j : Nat) : V → Value → Prop
 | .one c,v => RC w g r j c v ∧ v.cells = #[v]
 | .st cs,v => ∃ vs : Array Value,v = .agg vs ∧ cellsR w g r j cs vs.toList
 | _,_ => False
def RVs (w : World) (g : Gh) : Nat → List V → List Value → Prop
 | _,[],[] => True
 | n,x :: xs,v :: vs => RV1 w g 0 n x v ∧ RVs w g (n + x.flat.length) xs vs
 | _,_,_ => False
def RVp (w : World) (g : Gh) (r R : Nat) (cs : List C) (v : Value) : Prop :=
 ∃ b vals E,v = .pointer (some ⟨b,0,none⟩) ∧ g.cl b = .box R ∧ w.heap[b]? = some (.cells vals E) ∧ cellsR w g r 0 cs vals.toList
def RVr (w : World) (g : Gh) : V → Value → Prop
 | .tup xs,v => ∃ vs : Array Value,v = .tuple vs ∧ RVs w g 0 xs vs.toList
 | .ptr cs,v => ∃ R,RVp w g 0 R cs v
 | x,v => RV1 w g 0 0 x v
def RVa (w : World) (g : Gh) (i : Nat) : V → Value → Prop
 | .tup _,_ => False
 | .ptr cs,v => RVp w g (i + 1) i cs v
 | x,v => RV1 w g (i + 1) 0 x v ∧ (x.flat.any C.isOwn = true → ∀ (j : Nat) (y : Value),v.cells[j]? = some y → g.hd (i + 1) j [] = y)
structure Left (w : World) (g : Gh) (xs : List V) (args : Array Value) (us : List (Nat × Nat × C)) (w' : World) (g' : Gh) : Prop where
 sd : Same w w'
 sz : w.heap.size ≤ w'.heap.size
 fr : ∀ b,b < w.heap.size → (g.cl b).mine = false → w'.heap[b]? = w.heap[b]?
 im : ∀ b k,g'.cl b = kc k ↔ g.cl b = kc k
 bd : ∀ b,g'.cl b ≠ .no → b < w'.heap.size
 mi : ∀ b,b < w.heap.size → (g'.cl b).mine = true → (g.cl b).mine = true
 up : ∀ i j c,(i,j,c) ∈ us → match xs[i]? with
  | some (.ptr _) => ∃ b vals E x,args[i]? = some (.pointer (some ⟨b,0,none⟩)) ∧ g'.cl b = .box i ∧ w'.heap[b]? = some (.cells vals E) ∧ vals.size ≤ us.length ∧ vals[j]? = some x ∧ RC w' g' (i + 1) j c x
  | _ => ∃ v x,args[i]? = some v ∧ v.cells[j]? = some x ∧ RC w' g' (i + 1) j c x
def OK (P : Program) (f : FuncId) (xs : List V) (r : V) (us : List (Nat × Nat × C)) : Prop :=
 ∀ (w : World) (args : Array Value) (g : Gh),args.size = xs.length → (∀ b,g.cl b ≠ .no → b < w.heap.size) →
  (∀ (i : Nat) (x : V) (v : Value),xs[i]? = some x → args[i]? = some v → RVa w g i x v) →
  Calls P f args w fun e w' => ∃ v g',e = .returned v ∧ RVr w' g' r v ∧ Left w g xs args us w' g'
theorem chkXs_get : ∀ (xs : List PX) (os : List Operand),chkXs xs os = true → xs.length = os.length ∧ ∀ (i : Nat) (x : PX) (o : Operand),xs[i]? = some x → os[i]? = some o → chkX x o = true:=by
 intro xs
 induction xs with
 | nil => intro os h; cases os <;> simp [chkXs] at h ⊢
 | cons b bs ih =>
  intro os h
  cases os with
  | nil => simp [chkXs] at h
  | cons v vs =>
   simp only [chkXs,Bool.and_eq_true] at h
   obtain ⟨h1,h2⟩:=ih vs h.2
   refine ⟨by simp [h1],fun i c x hc hx => ?_⟩
   cases i with
   | zero => simp at hc hx; subst hc; subst hx; exact h.1
   | succ i => exact h2 i c x (by simpa using hc) (by simpa using hx)
def Gh.lend (g : Gh) (lent bl : Bool) (ex : Nat → Bool) : Gh where
 cl:=fun b => match g.cl b with
  | .imm => .imm
  | .bor => .bor
  | .own 0 _ _ => .no
  | .own (n + 1) _ _ => if lent && !ex n then .bor else .no
  | .box r => if lent && bl && !ex r then .bor else .no
  | .no => .no
 hd:=g.hd
 bk:=g.bk
theorem Gh.lend_imm {lent bl : Bool} {ex : Nat → Bool} {b : Nat} : (g.lend lent bl ex).cl b = .imm ↔ g.cl b = .imm:=by
 simp only [Gh.lend]
 cases h : g.cl b with
 | own n j ρ => cases n <;> simp <;> split <;> simp
 | box r => simp; split <;> simp
 | _ => simp
theorem Gh.lend_kc {lent bl : Bool} {ex : Nat → Bool} {b : Nat} {k : Bool} (h : g.cl b = kc k) : (g.lend lent bl ex).cl b = kc k:=by
 cases k <;> simp [kc] at h ⊢ <;> simp [Gh.lend,h]
theorem Gh.lend_mine {lent bl : Bool} {ex : Nat → Bool} {b : Nat} : ((g.lend lent bl ex).cl b).mine = false:=by
 simp only [Gh.lend]
 cases h : g.cl b with
 | own n j ρ =>
  cases n with
  | zero => rfl
  | succ n => simp only; split <;> rfl
 | box r => simp only; split <;> rfl
 | _ => rfl
theorem Gh.lend_down {lent bl : Bool} {ex : Nat → Bool} {b : Nat} {k : Bool} (hk : k = false ∨ lent = false) (h : (g.lend lent bl ex).cl b = kc k) : g.cl b = kc k:=by
 simp only [Gh.lend] at h
 revert h
 cases hg : g.cl b with
 | own n j ρ => rcases hk with rfl | rfl <;> cases n <;> simp [kc] <;> first | (split <;> simp; done) | (cases k <;> simp [kc]; done)
 | box r => rcases hk with rfl | rfl <;> simp [kc] <;> first | (split <;> simp; done) | (cases k <;> simp [kc]; done)
 | no => cases k <;> simp [kc]
 | imm => simp
 | bor => simp
theorem Gh.lend_no {lent bl : Bool} {ex : Nat → Bool} {b : Nat} (h : g.cl b = .no) : (g.lend lent bl ex).cl b = .no:=by
 simp [Gh.lend,h]
theorem roDs_ok : ∀ {cs : List C} {ds : List D},roDs cs = some ds → ds.length = cs.length ∧ ∀ (i : Nat) (d : D),ds[i]? = some d → ∃ k,cs[i]? = some (.ro k d) ∧ (k = true ∨ d.scal = true):=by
 intro cs
 induction cs with
 | nil => intro ds h; simp [roDs] at h; subst h; exact ⟨rfl,fun i d h => by simp at h⟩
 | cons c cs ih =>
  intro ds h
  cases c with
  | ro k d =>
   simp only [roDs] at h
   split at h
   ·rename_i hk
    split at h
    ·rename_i ds2 h2
     simp at h; subst h
     obtain ⟨h3,h4⟩:=ih h2
     refine ⟨by simp [h3],fun i d' hd => ?_⟩
     cases i with
     | zero => simp at hd; subst hd; exact ⟨k,rfl,by simpa using hk⟩
     | succ i => exact h4 i d' (by simpa using hd)
    ·cases h
   ·cases h
  | own d => simp [roDs] at h
  | rf r j => simp [roDs] at h
theorem lenDs_ok : ∀ {cs : List C} {ds : List D},lenDs cs = some ds → ds.length = cs.length ∧ ∀ (i : Nat) (d : D),ds[i]? = some d → (∃ k,cs[i]? = some (.ro k d) ∧ (k = true ∨ d.scal = true)) ∨ cs[i]? = some (.own d):=by
 intro cs
 induction cs with
 | nil => intro ds h; simp [lenDs] at h; subst h; exact ⟨rfl,fun i d h => by simp at h⟩
 | cons c cs ih =>
  intro ds h
  cases c with
  | ro k d =>
   simp only [lenDs] at h
   split at h
   ·rename_i hk
    split at h
    ·rename_i ds2 h2
     simp at h; subst h
     obtain ⟨h3,h4⟩:=ih h2
     refine ⟨by simp [h3],fun i d' hd => ?_⟩
     cases i with
     | zero => simp at hd; subst hd; exact .inl ⟨k,rfl,by simpa using hk⟩
     | succ i => exact h4 i d' (by simpa using hd)
    ·cases h
   ·cases h
  | own d =>
   simp only [lenDs] at h
   split at h
   ·rename_i ds2 h2
    simp at h; subst h
    obtain ⟨h3,h4⟩:=ih h2
    refine ⟨by simp [h3],fun i d' hd => ?_⟩
    cases i with
    | zero => simp at hd; subst hd; exact .inr rfl
    | succ i => exact h4 i d' (by simpa using hd)
   ·cases h
  | rf r j => simp [lenDs] at h
theorem RO.scal {w : World} {cl cl' : Nat → Cls} {k k' : Bool} {d : D} {x : Value} (h : RO w cl k d x) (hs : d.scal = true) : RO w cl' k' d x:=by
 cases h <;> first | exact .int _ _ | exact .bool _ | exact .str _ | (simp [D.scal] at hs)
theorem borC_ok (R : Rel w0 cl0 S a.tmps w g) {av : AV} {x : Value} {c : C} {lent bl : Bool} {ex : Nat → Bool} (ha : RA w g S.ms av x) (h : borC S.ms av = some c)
  (hl : av.lent1 = true → lent = true) (hb : av.isFv = true → bl = true) (hex : ∀ r ∈ av.refs,ex r = false) (i j : Nat) :
  RC w (g.lend lent bl ex) (i + 1) j c x ∧ c.isOwn = false ∧ x.cells = #[x] ∧ c.noRf = true:=by
 have hkc : ∀ b k,g.cl b = kc k → w.heap[b]? = w.heap[b]? ∧ (g.lend lent bl ex).cl b = kc k:=fun b k h => ⟨rfl,Gh.lend_kc h⟩
 unfold borC at h
 split at h
 ·cases h
 ·rename_i k dd hd
  simp at h; subst h
  refine ⟨?_,rfl,?_,rfl⟩
  ·cases ha with
   | v _ _ _ hr => exact .ro _ _ _ (hr.mono fun b hc => hkc b _ hc)
  ·cases ha with
   | v _ _ _ hr => cases hr <;> first | rfl | exact absurd rfl hd
 ·simp at h; subst h
  cases ha with
  | nl => exact ⟨.ro _ _ _ (.emp _ _ _),rfl,rfl,rfl⟩
 ·rename_i r j0 p
  split at h
  ·rename_i sz es hat
   simp at h; subst h
   cases ha with
   | pl _ _ _ b n c hx =>
    obtain ⟨x0,ho⟩:=R.at hat
    have:=hx (at_some hat).1
    have:=ho.hd_eq
    subst this
    rw [hx (at_some hat).1]
    refine ⟨.ro _ _ _ (ho.borrow fun b ρ hb => ⟨rfl,?_⟩),rfl,?_,rfl⟩
    ·simp [Gh.lend,hb,hl rfl,hex r (by simp [AV.refs])]
    ·obtain ⟨_,_,_,e⟩:=ho.slice; rw [e]; rfl
  ·cases h
 ·rename_i r j0 p sz lo hi
  split at h
  ·rename_i es hcut
   simp at h; subst h
   obtain ⟨es0,hat,h1,h2,rfl⟩:=cutD_some hcut
   cases ha with
   | rg _ _ _ _ _ _ b n c hx =>
    obtain ⟨x0,ho⟩:=R.at hat
    have hk:=(at_some hat).1
    have:=ho.hd_eq
    subst this
    have hro:=ho.borrow (cl':=(g.lend lent bl ex).cl) (w':=w) (fun b ρ hb => ⟨rfl,by simp [Gh.lend,hb,hl rfl,hex r (by simp [AV.refs])]⟩)
    obtain ⟨b1,n1,c1,e⟩:=ho.slice
    rw [e] at hro
    have:=(ro_slice (g:=g.lend lent bl ex) hro h1 h2).2
    rw [hx hk,e]
    exact ⟨.ro _ _ _ this,rfl,rfl,rfl⟩
  ·cases h
 ·rename_i f r
  split at h
  ·rename_i cs hm
   split at h
   ·rename_i d0 ds hds
    simp at h; subst h
    cases ha
    obtain ⟨hcl,vals,E,hw,hvl,hvc⟩:=R.rt r _ hm
    obtain ⟨hlen,hget⟩:=roDs_ok hds
    refine ⟨.ro _ _ _ (.fnc f (d0 :: ds) (g.bk r) (by simp) ?_ (fun i hi => ?_) (fun i d' x hd hx => ?_)),rfl,rfl,rfl⟩
    ·simp [Gh.lend,hcl,hl rfl,hb rfl,kc,hex r (by simp [AV.refs])]
    ·rw [cell_cells hw]
     have : i < vals.size:=by rw [hvl,← hlen]; exact hi
     simp [this]
    ·rw [cell_cells hw] at hx
     obtain ⟨k,h1,h2⟩:=hget i d' hd
     have h3:=hvc i _ x h1 hx
     cases h3 with
     | ro _ _ _ h4 =>
      rcases h2 with rfl | h2
      ·exact h4.mono fun b hc => hkc b _ hc
      ·exact h4.scal h2
   ·cases h
  ·cases h
 ·rename_i r
  split at h
  ·rename_i cs hm
   split at h
   ·rename_i d0 ds hds
    simp at h; subst h
    cases ha
    obtain ⟨hcl,vals,E,hw,hvl,hvc⟩:=R.rt r _ hm
    obtain ⟨hlen,hget⟩:=lenDs_ok hds
    refine ⟨.ro _ _ _ (.rp (d0 :: ds) (g.bk r) (by simp) ?_ (fun i hi => ?_) (fun i d' x hd hx => ?_)),rfl,rfl,rfl⟩
    ·simp [Gh.lend,hcl,hl rfl,hb rfl,kc,hex r (by simp [AV.refs])]
    ·rw [cell_cells hw]
     have : i < vals.size:=by rw [hvl,← hlen]; exact hi
     simp [this]
    ·rw [cell_cells hw] at hx
     rcases hget i d' hd with ⟨k,h1,h2⟩ | h1
     ·have h3:=hvc i _ x h1 hx
      cases h3 with
      | ro _ _ _ h4 =>
       rcases h2 with rfl | h2
       ·exact h4.mono fun b hc => hkc b _ hc
       ·exact h4.scal h2
     ·have h3:=hvc i _ x h1 hx
      cases h3 with
      | own _ _ h4 => exact h4.borrow fun b ρ hb => ⟨rfl,by simp [Gh.lend,hb,hl rfl,hex r (by simp [AV.refs])]⟩
   ·cases h
  ·cases h
 ·cases h
theorem borCs_ok (R : Rel w0 cl0 S a.tmps w g) {lent bl : Bool} {ex : Nat → Bool} (i : Nat) : ∀ (as : List AV) (vs : List Value) (cs : List C) (j : Nat),as.length = vs.length →
  (∀ (k : Nat) (av : AV) (x : Value),as[k]? = some av → vs[k]? = some x → RA w g S.ms av x) → borCs S.ms as = some cs →
  ((AV.agg as).lent = true → lent = true) → ((AV.agg as).hasFv = true → bl = true) → (∀ r ∈ AV.refsL as,ex r = false) →
  cs.length = vs.length ∧ (∀ (k : Nat) (c : C) (x : Value),cs[k]? = some c → vs[k]? = some x → RC w (g.lend lent bl ex) (i + 1) (j + k) c x) ∧ cs.any C.isOwn = false ∧ cs.all C.noRf = true:=by
 intro as
 induction as with
 | nil => intro vs cs j hl hra h hlent hfv hex; simp [borCs] at h; subst h; cases vs <;> simp at hl ⊢
 | cons av as ih =>
  intro vs cs j hl hra h hlent hfv hex
  cases vs with
  | nil => simp at hl
  | cons v vs =>
   simp only [borCs] at h
   cases h1 : borC S.ms av with
   | none => simp [h1] at h
   | some c =>
    simp only [h1] at h
    cases h2 : borCs S.ms as with
    | none => simp [h2] at h
    | some cs2 =>
     simp only [h2] at h
     simp at h; subst h
     have hlent1 : av.lent1 = true → lent = true:=fun hh => hlent (by
      simp only [AV.lent,List.any_cons,Bool.or_eq_true]; left; exact hh)
     have hlent2 : (AV.agg as).lent = true → lent = true:=fun hh => hlent (by
      simp only [AV.lent,List.any_cons,Bool.or_eq_true] at hh ⊢; right; exact hh)
     have hfv1 : av.isFv = true → bl = true:=fun hh => hfv (by
      simp only [AV.hasFv,List.any_cons,Bool.or_eq_true]; left; exact hh)
     have hfv2 : (AV.agg as).hasFv = true → bl = true:=fun hh => hfv (by
      simp only [AV.hasFv,List.any_cons,Bool.or_eq_true] at hh ⊢; right; exact hh)
     obtain ⟨k1,k2,k3,k4⟩:=borC_ok R (hra 0 av v rfl rfl) h1 hlent1 hfv1 (fun r hr => hex r (by simp [AV.refsL,hr])) i j
     obtain ⟨q1,q2,q3,q4⟩:=ih vs cs2 (j + 1) (by simpa using hl) (fun k av x hk hx => hra (k + 1) av x hk hx) h2 hlent2 hfv2 (fun r hr => hex r (by simp [AV.refsL,hr]))
     refine ⟨by simp [q1],fun k c' x hc hx => ?_,by simp [k2,q3],by simp [k4,q4]⟩
     cases k with
     | zero => simp at hc hx; subst hc; subst hx; exact k1
     | succ k =>
      have:=q2 k c' x hc hx
      rwa [show j + (k + 1) = j + 1 + k from by omega]
theorem argV_ok (R : Rel w0 cl0 S a.tmps w g) {av : AV} {v : Value} {x : V} {lent bl : Bool} {ex : Nat → Bool} (ha : RA w g S.ms av v) (h : argV S.ms false av = some x) (hl : av.lent = true → lent = true) (hb : av.hasFv = true → bl = true) (hex : ∀ r ∈ av.refs,ex r = false) (i : Nat) :
  RVa w (g.lend lent bl ex) i x v:=by
 cases av with
 | agg as =>
  simp only [argV,Bool.false_eq_true,if_false] at h
  cases h1 : borCs S.ms as with
  | none => simp [h1] at h
  | some cs =>
   simp [h1] at h; subst h
   cases ha with
   | agg _ vs hlen hra =>
    obtain ⟨q1,q2,q3,_⟩:=borCs_ok (lent:=lent) (bl:=bl) (ex:=ex) R i as vs.toList cs 0 (by simpa using hlen) (fun k av x hk hx => hra k av x hk (by simpa using hx)) h1 hl hb hex
    exact ⟨⟨vs,rfl,q1,q2⟩,fun h => by simp only [V.flat] at h; rw [q3] at h; cases h⟩
 | _ =>
  simp only [argV,Bool.false_eq_true,if_false] at h
  split at h
  ·rename_i c hc
   simp at h; subst h
   obtain ⟨k1,k2,k3,_⟩:=borC_ok (lent:=lent) (bl:=bl) (ex:=ex) R ha hc hl hb hex i 0
   exact ⟨⟨k1,k3⟩,fun h => by simp [V.flat,k2] at h⟩
  ·cases h
end
end Go.Proofs.YtmlinnkaccgcgaaGreat.OM
