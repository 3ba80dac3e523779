/- The own machine: calls that write nothing of the caller's. -/
import Derived.Test.YtmlinnkaccgcgaaGreatOMCall
set_option linter.all false
namespace Go.Proofs.YtmlinnkaccgcgaaGreat.OM
section
variable {P : Program} {κ : Nat → FuncId} {w0 : World} {cl0 : Ini} {S : St} {w : World} {g : Gh} {a : Act} {Γ : Env} {d : Nat}
theorem Rel.grow (R : Rel w0 cl0 S a.tmps w g) {w' : World} {g' : Gh} (hp : ∀ b,b < w.heap.size → w'.heap[b]? = w.heap[b]?) (hs : w.heap.size ≤ w'.heap.size) (hsd : Same w w')
    (hcl : ∀ b,b < w.heap.size → g'.cl b = g.cl b) (hno : ∀ b,w.heap.size ≤ b → g'.cl b = .no) (hhd : g'.hd = g.hd) (hbk : g'.bk = g.bk) : Rel w0 cl0 S a.tmps w' g':=by
  have hlt : ∀ b c,g.cl b = c → c ≠ .no → w'.heap[b]? = w.heap[b]? ∧ g'.cl b = c:=fun b c h hc => by
    have:=R.bd b (by rw [h]; exact hc)
    exact ⟨hp b this,by rw [hcl b this,h]⟩
  have hkc : ∀ b k,g.cl b = kc k → w'.heap[b]? = w.heap[b]? ∧ g'.cl b = kc k:=fun b k h => hlt b _ h (by cases k <;> simp [kc])
  have hcl' : ∀ b c,c ≠ .no → (g'.cl b = c ↔ g.cl b = c):=fun b c hc => by
    rcases Nat.lt_or_ge b w.heap.size with h | h
    · rw [hcl b h]
    · rw [hno b h]
      refine ⟨fun e => absurd e.symm hc,fun e => ?_⟩
      have:=R.bd b (by rw [e]; exact hc)
      omega
  refine { av:=fun n => (R.av n).mono hkc (fun r _ => ⟨by rw [hbk],fun j p hk => ⟨hk,by rw [hhd]⟩⟩),rt:=fun n rt h => ?_,rfs:=R.rfs,rfc:=R.rfc,
           bd:=fun b h => ?_,sz:=Nat.le_trans R.sz hs,fr:=fun b hb hm => ?_,im:=fun b k => (hcl' b _ (by cases k <;> simp [kc])).trans (R.im b k),mi:=fun b hb hm => ?_,sd:=R.sd.trans hsd,
           pin:=fun i hi => (by have h:=R.pin i hi; unfold Pin at h ⊢; rw [hhd,hbk]; exact h) }
  · have h0:=R.rt n rt h
    refine h0.mono hkc (fun b j ρ hb => hlt b _ hb (by simp)) (fun cs hcs => ?_) (fun j ρ => by rw [hhd]) (fun _ _ _ _ => by rw [hhd])
    subst hcs
    have:=hlt _ _ h0.1 (by simp)
    exact ⟨by rw [hbk],this.1,by rw [this.2,h0.1]⟩
  · rcases Nat.lt_or_ge b w.heap.size with h1 | h1
    · omega
    · exact absurd (hno b h1) h
  · rw [hp b (Nat.lt_of_lt_of_le hb R.sz)]; exact R.fr b hb hm
  · rw [hcl b (Nat.lt_of_lt_of_le hb R.sz)] at hm; exact R.mi b hb hm
def V.vals : V → Value → List Value
 | .tup _,v => match v with
  | .tuple vs => vs.toList.flatMap fun x => x.cells.toList
  | _ => []
 | _,v => v.cells.toList
def V.flats : V → List C
 | .tup xs => xs.flatMap V.flat
 | x => x.flat
theorem RV1_cells {w : World} {g : Gh} {r j : Nat} {x : V} {v : Value} (h : RV1 w g r j x v) : cellsR w g r j x.flat v.cells.toList:=by
 cases x with
 | one c =>
  obtain ⟨h1,h2⟩:=h
  rw [h2]
  refine ⟨rfl,fun i c' y hc hy => ?_⟩
  cases i with
  | zero => simp [V.flat] at hc hy; subst hc; subst hy; exact h1
  | succ i => simp [V.flat] at hc
 | st cs =>
  obtain ⟨vs,rfl,h2⟩:=h
  exact h2
 | ptr => exact h.elim
 | tup => exact h.elim
theorem RVs_cells {w : World} {g : Gh} : ∀ (xs : List V) (vs : List Value) (n : Nat),RVs w g n xs vs → cellsR w g 0 n (xs.flatMap V.flat) (vs.flatMap fun x => x.cells.toList):=by
 intro xs
 induction xs with
 | nil => intro vs n h; cases vs <;> simp [RVs] at h; exact ⟨rfl,fun i c x hc => by simp at hc⟩
 | cons x xs ih =>
  intro vs n h
  cases vs with
  | nil => simp [RVs] at h
  | cons v vs =>
   simp only [RVs] at h
   obtain ⟨h1,h2⟩:=RV1_cells h.1
   obtain ⟨h3,h4⟩:=ih vs _ h.2
   refine ⟨by simp [h1,h3] at *,fun i c y hc hy => ?_⟩
   ·simp only [List.flatMap_cons] at hc hy
    by_cases hi : i < x.flat.length
    ·rw [List.getElem?_append_left hi] at hc
     rw [List.getElem?_append_left (by omega)] at hy
     exact h2 i c y hc hy
    ·rw [List.getElem?_append_right (by omega)] at hc hy
     have:=h4 (i - x.flat.length) c y hc (by rwa [h1])
     rwa [show n + x.flat.length + (i - x.flat.length) = n + i from by omega] at this
theorem RVr_cells {w : World} {g : Gh} {x : V} {v : Value} (h : RVr w g x v) (hn : ∀ cs,x ≠ .ptr cs) : cellsR w g 0 0 x.flats (x.vals v):=by
 cases x with
 | tup xs =>
  obtain ⟨vs,rfl,h2⟩:=h
  exact RVs_cells xs vs.toList 0 h2
 | ptr cs => exact absurd rfl (hn cs)
 | one c => exact RV1_cells (x:=.one c) h
 | st cs => exact RV1_cells (x:=.st cs) h
theorem impCs_ok {m : Ms} : ∀ (cs : List C) (vs : List Value) (n : Nat),cs.length = vs.length → (∀ (i : Nat) (c : C) (x : Value),cs[i]? = some c → vs[i]? = some x → RA w g m (rcell d (n + i) c) x) →
  (impCs d n cs).length = vs.length ∧ ∀ (i : Nat) (b : AV) (x : Value),(impCs d n cs)[i]? = some b → vs[i]? = some x → RA w g m b x:=by
 intro cs
 induction cs with
 | nil => intro vs n hl h; cases vs <;> simp [impCs] at hl ⊢
 | cons c cs ih =>
  intro vs n hl h
  cases vs with
  | nil => simp at hl
  | cons v vs =>
   obtain ⟨h1,h2⟩:=ih vs (n + 1) (by simpa using hl) (fun i c' x hc hx => by
    have:=h (i + 1) c' x hc hx
    rwa [show n + (i + 1) = n + 1 + i from by omega] at this)
   refine ⟨by simp [impCs,h1],fun i b x hb hx => ?_⟩
   cases i with
   | zero => simp [impCs] at hb hx; subst hb; subst hx; exact h 0 c v rfl rfl
   | succ i => exact h2 i b x (by simpa [impCs] using hb) (by simpa using hx)
theorem impV_ok {m : Ms} {x : V} {v : Value} {n : Nat} {w1 : World} {g1 : Gh} {r : Nat} (h : RV1 w1 g1 r n x v)
  (hc : ∀ (i : Nat) (c : C) (y : Value),x.flat[i]? = some c → v.cells[i]? = some y → RA w g m (rcell d (n + i) c) y) : RA w g m (impV d n x) v:=by
 cases x with
 | one c =>
  obtain ⟨h1,h2⟩:=h
  exact hc 0 c v rfl (by rw [h2]; rfl)
 | st cs =>
  obtain ⟨vs,rfl,hl,_⟩:=h
  obtain ⟨h3,h4⟩:=impCs_ok (w:=w) (g:=g) (m:=m) (d:=d) cs vs.toList n hl (fun i c y h5 h6 => hc i c y h5 (by
   show (Value.agg vs).cells[i]? = some y
   simpa [Value.cells] using h6))
  exact .agg _ _ (by simpa using h3) (fun i b y h5 h6 => h4 i b y h5 (by simpa using h6))
 | ptr => exact h.elim
 | tup => exact h.elim
theorem impVs_ok {m : Ms} {w1 : World} {g1 : Gh} : ∀ (xs : List V) (vs : List Value) (n : Nat),RVs w1 g1 n xs vs →
  (∀ (i : Nat) (c : C) (y : Value),(xs.flatMap V.flat)[i]? = some c → (vs.flatMap fun x => x.cells.toList)[i]? = some y → RA w g m (rcell d (n + i) c) y) →
  (impVs d n xs).length = vs.length ∧ ∀ (i : Nat) (b : AV) (x : Value),(impVs d n xs)[i]? = some b → vs[i]? = some x → RA w g m b x:=by
 intro xs
 induction xs with
 | nil => intro vs n h hc; cases vs <;> simp [RVs] at h; simp [impVs]
 | cons x xs ih =>
  intro vs n h hc
  cases vs with
  | nil => simp [RVs] at h
  | cons v vs =>
   simp only [RVs] at h
   obtain ⟨h1,h2⟩:=RV1_cells h.1
   obtain ⟨h3,h4⟩:=ih vs _ h.2 (fun i c y hcc hy => by
    have:=hc (x.flat.length + i) c y (by
     simp only [List.flatMap_cons]
     rw [List.getElem?_append_right (by omega),show x.flat.length + i - x.flat.length = i from by omega]; exact hcc) (by
     simp only [List.flatMap_cons]
     rw [List.getElem?_append_right (by omega),show x.flat.length + i - v.cells.toList.length = i from by omega]; exact hy)
    rwa [← Nat.add_assoc] at this)
   refine ⟨by simp [impVs,h3],fun i b y hb hy => ?_⟩
   cases i with
   | zero =>
    simp [impVs] at hb hy; subst hb; subst hy
    refine impV_ok h.1 (fun i c y hcc hy => hc i c y ?_ ?_)
    ·simp only [List.flatMap_cons]; rw [List.getElem?_append_left (lt_of_get hcc)]; exact hcc
    ·simp only [List.flatMap_cons]
     have : i < v.cells.toList.length:=by have:=lt_of_get hcc; omega
     rw [List.getElem?_append_left this]; simpa using hy
   | succ i => exact h4 i b y (by simpa [impVs] using hb) (by simpa using hy)
theorem imp_ok {m : Ms} {x : V} {v : Value} {w1 : World} {g1 : Gh} (h : RVr w1 g1 x v) (hn : ∀ cs,x ≠ .ptr cs)
  (hc : ∀ (i : Nat) (c : C) (y : Value),x.flats[i]? = some c → (x.vals v)[i]? = some y → RA w g m (rcell d i c) y) : RA w g m (imp d x).1 v:=by
 cases x with
 | tup xs =>
  obtain ⟨vs,rfl,h2⟩:=h
  obtain ⟨h3,h4⟩:=impVs_ok (w:=w) (g:=g) (m:=m) (d:=d) xs vs.toList 0 h2 (fun i c y h5 h6 => by rw [Nat.zero_add]; exact hc i c y h5 h6)
  exact .tup _ _ (by simpa using h3) (fun i b y h5 h6 => h4 i b y h5 (by simpa using h6))
 | ptr cs => exact absurd rfl (hn cs)
 | one c => exact impV_ok (x:=.one c) (n:=0) h (fun i c y h5 h6 => by rw [Nat.zero_add]; exact hc i c y h5 (by simpa [V.vals] using h6))
 | st cs => exact impV_ok (x:=.st cs) (n:=0) h (fun i c y h5 h6 => by rw [Nat.zero_add]; exact hc i c y h5 (by simpa [V.vals] using h6))
theorem rcell_refs {d n r : Nat} {c : C} (h : r ∈ (rcell d n c).refs) (hn : c.noRf = true) : r = d ∧ c.isOwn = true:=by
 cases c with
 | ro k dd => simp [rcell,mkv_refs] at h
 | own dd =>
  simp only [rcell,cellAV] at h
  split at h
  ·simp [AV.refs] at h; exact ⟨h,by simp [C.isOwn,D.scal]⟩
  ·simp [AV.refs] at h
  ·simp [AV.refs] at h
 | rf => simp [C.noRf] at hn
theorem impCs_refs : ∀ (cs : List C) (n r : Nat),cs.all C.noRf = true → r ∈ AV.refsL (impCs d n cs) → r = d ∧ cs.any C.isOwn = true:=by
 intro cs
 induction cs with
 | nil => intro n r _ h; simp [impCs,AV.refsL] at h
 | cons c cs ih =>
  intro n r hn h
  simp only [List.all_cons,Bool.and_eq_true] at hn
  simp only [impCs,AV.refsL,List.mem_append] at h
  rcases h with h | h
  ·obtain ⟨h1,h2⟩:=rcell_refs h hn.1
   exact ⟨h1,by simp [h2]⟩
  ·obtain ⟨h1,h2⟩:=ih _ r hn.2 h
   exact ⟨h1,by simp [h2]⟩
theorem impVs_refs : ∀ (xs : List V) (n r : Nat),xs.all V.plain1 = true → r ∈ AV.refsL (impVs d n xs) → r = d ∧ (xs.flatMap V.flat).any C.isOwn = true:=by
 intro xs
 induction xs with
 | nil => intro n r _ h; simp [impVs,AV.refsL] at h
 | cons x xs ih =>
  intro n r hn h
  simp only [List.all_cons,Bool.and_eq_true] at hn
  simp only [impVs,AV.refsL,List.mem_append] at h
  rcases h with h | h
  ·have : r = d ∧ x.flat.any C.isOwn = true:=by
    cases x with
    | one c => obtain ⟨h1,h2⟩:=rcell_refs h hn.1; exact ⟨h1,by simp [V.flat,h2]⟩
    | st cs => exact impCs_refs cs n r hn.1 (by simpa [impV,AV.refs] using h)
    | _ => simp [V.plain1] at hn
   exact ⟨this.1,by simp only [List.flatMap_cons,List.any_append,this.2,Bool.true_or]⟩
  ·obtain ⟨h1,h2⟩:=ih _ r hn.2 h
   exact ⟨h1,by simp only [List.flatMap_cons,List.any_append,h2,Bool.or_true]⟩
theorem plain_flats {x : V} (h : x.plain = true) (hn : ∀ cs,x ≠ .ptr cs) : x.flats.all C.noRf = true:=by
 cases x with
 | one c => simpa [V.flats,V.flat,V.plain,V.plain1] using h
 | st cs => simpa [V.flats,V.flat,V.plain,V.plain1] using h
 | ptr cs => exact absurd rfl (hn cs)
 | tup xs =>
  simp only [V.plain] at h
  simp only [V.flats]
  rw [List.all_flatMap]
  refine List.all_eq_true.2 (fun x hx => ?_)
  have:=List.all_eq_true.1 h x hx
  cases x <;> simp_all [V.plain1,V.flat]
theorem okRes_flats {x : V} (h : x.okRes = true) (hn : ∀ cs,x ≠ .ptr cs) : x.flats.all C.okRes = true:=by
 cases x with
 | one c => simpa [V.flats,V.flat,V.okRes,V.okRes1] using h
 | st cs => simpa [V.flats,V.flat,V.okRes,V.okRes1] using h
 | ptr cs => exact absurd rfl (hn cs)
 | tup xs =>
  simp only [V.okRes] at h
  simp only [V.flats]
  rw [List.all_flatMap]
  refine List.all_eq_true.2 (fun x hx => ?_)
  have:=List.all_eq_true.1 h x hx
  cases x <;> simp_all [V.okRes1,V.flat]
theorem imp_refs {x : V} (h : x.plain = true) (hn : ∀ cs,x ≠ .ptr cs) {r : Nat} (hr : r ∈ (imp d x).1.refs) : r = d ∧ x.flats.any C.isOwn = true:=by
 cases x with
 | one c => exact (fun h => ⟨h.1,by simp [V.flats,V.flat,h.2]⟩) (rcell_refs hr h)
 | st cs => exact impCs_refs cs 0 r h (by simpa [imp,impV,AV.refs] using hr)
 | ptr cs => exact absurd rfl (hn cs)
 | tup xs => exact impVs_refs xs 0 r h (by simpa [imp,AV.refs] using hr)
theorem imp_rt {x : V} (hn : ∀ cs,x ≠ .ptr cs) : (imp d x).2 = if x.flats.any C.isOwn then some (.vir x.flats) else none:=by
 cases x with
 | ptr cs => exact absurd rfl (hn cs)
 | _ => rfl
def Gh.im (g g' : Gh) (d size bR : Nat) (X : Nat → Value) : Gh where
 cl:=fun b => if b < size then g.cl b else match g'.cl b with
  | .own 0 j ρ => .own (d + 1) j ρ
  | .box _ => if b = bR then .box d else .no
  | _ => .no
 hd:=fun r j ρ => if r = d + 1 then (if ρ = [] then X j else g'.hd 0 j ρ) else g.hd r j ρ
 bk:=upd g.bk d bR
theorem NewR.im (hbd : ∀ b,g.cl b ≠ .no → b < w.heap.size) {w' : World} {g' : Gh} {bR : Nat} {X : Nat → Value} (hp : ∀ b,b < w.heap.size → w'.heap[b]? = w.heap[b]?) (hs : w.heap.size ≤ w'.heap.size) (hsd : Same w w')
    (hbd' : ∀ b,g'.cl b ≠ .no → b < w'.heap.size) : NewR d w w' g (g.im g' d w.heap.size bR X):=by
  refine { hp:=fun b h _ => hp b h,hs:=hs,kc:=fun b k => ?_,cl:=fun b n j ρ h hn => ?_,bx:=fun b n h hn => ?_,hd:=fun n j ρ hn => by simp [Gh.im,hn],
           bk:=fun n hn => by simp [Gh.im,upd,hn],bd:=fun b h => ?_,mi:=fun b hb h => by simpa [Gh.im,hb] using h,sd:=hsd }
  · by_cases hb : b < w.heap.size
    · simp [Gh.im,hb]
    · have : g.cl b = .no:=by
        by_cases h : g.cl b = .no
        · exact h
        · exact absurd (hbd b h) hb
      rw [this]
      simp only [Gh.im,if_neg hb]
      split <;> first | (cases k <;> simp [OM.kc]; done) | (split <;> cases k <;> simp [OM.kc])
  · have:=hbd b (by rw [h]; simp)
    simp [Gh.im,this,h]
  · have:=hbd b (by rw [h]; simp)
    simp [Gh.im,this,h]
  · by_cases hb : b < w.heap.size
    · left; simpa [Gh.im,hb] using h
    · right
      refine ⟨by omega,hbd' b (fun e => ?_)⟩
      simp [Gh.im,hb,e] at h
theorem callPost (R : Rel w0 cl0 S a.tmps w g) {lent bl : Bool} {ex : Nat → Bool} {xs : List V} {args : Array Value} {r : V} {w' : World} {g' : Gh} {v : Value} (hpl : r.plain = true) (hok : (r.okRes || !lent) = true)
  (hr : RVr w' g' r v) (hL : Left w (g.lend lent bl ex) xs args [] w' g') (hn : ((imp d r).2).isSome → (S.ms d).1 = none) :
  Post w0 cl0 S a.tmps d (imp d r).1 (imp d r).2 S.ms v w':=by
 have hp : ∀ b,b < w.heap.size → w'.heap[b]? = w.heap[b]?:=fun b hb => hL.fr b hb Gh.lend_mine
 have hmine : ∀ b,b < w.heap.size → (g'.cl b).mine = false:=fun b hb => by
  cases h : (g'.cl b).mine
  ·rfl
  ·have:=hL.mi b hb h; rw [Gh.lend_mine] at this; cases this
 have himm : ∀ b,g'.cl b = .imm → b < w.heap.size ∧ g.cl b = .imm:=fun b h => by
  have:=Gh.lend_imm.1 ((hL.im b false).1 h)
  exact ⟨R.bd b (by rw [this]; simp),this⟩
 have hbor : lent = false → ∀ b,g'.cl b = .bor → b < w.heap.size ∧ g.cl b = .bor:=fun hl b h => by
  have h1:=(hL.im b true).1 h
  have : g.cl b = .bor:=Gh.lend_down (k:=true) (.inr hl) h1
  exact ⟨R.bd b (by rw [this]; simp),this⟩
 -- a cell of the result,in a ghost that agrees with the caller's on what was there
 have hro : ∀ {g2 : Gh} {k : Bool} {dd : D} {x : Value},(∀ b,b < w.heap.size → g2.cl b = g.cl b) → RO w' g'.cl k dd x → (C.ro k dd).okRes = true ∨ lent = false → RO w' g2.cl k dd x:=by
  intro g2 k dd x hg2 h ho
  cases k with
  | false => exact h.mono fun b hb => ⟨rfl,by obtain ⟨h1,h2⟩:=himm b hb; rw [hg2 b h1,h2]; rfl⟩
  | true =>
   rcases ho with ho | ho
   ·simp only [C.okRes,Bool.not_true,Bool.false_or] at ho
    cases h with
    | int => exact .int _ _
    | bool => exact .bool _
    | str => exact .str _
    | _ => simp [D.scal] at ho
   ·exact h.mono fun b hb => ⟨rfl,by obtain ⟨h1,h2⟩:=hbor ho b hb; rw [hg2 b h1,h2]; rfl⟩
 have hown : ∀ {g2 : Gh} {n r1 j1 : Nat} {dd : D} {x : Value},(∀ b ρ,w.heap.size ≤ b → g'.cl b = .own 0 n ρ → g2.cl b = .own r1 j1 ρ) → (∀ ρ,ρ ≠ [] → g2.hd r1 j1 ρ = g'.hd 0 n ρ) → (g2.hd r1 j1 [] = x) →
   OW w' g' 0 n [] dd x → OW w' g2 r1 j1 [] dd x:=by
  intro g2 n r1 j1 dd x h1 h2 h3 h
  have hge : ∀ b ρ,g'.cl b = .own 0 n ρ → w.heap.size ≤ b:=fun b ρ hb => by
   rcases Nat.lt_or_ge b w.heap.size with h | h
   ·have:=hmine b h; rw [hb] at this; cases this
   ·exact h
  exact Hd.place (w:=w') (g:=g') (.inl h) (fun b ρ hb => ⟨rfl,by simpa using h1 b ρ (hge b ρ hb) hb⟩) (fun ρ hρ => by simpa using h2 ρ hρ) h3
 by_cases hptr : ∃ cs,r = .ptr cs
 ·obtain ⟨cs,rfl⟩:=hptr
  obtain ⟨Rn,b,vals,E,rfl,hcl,hw',hcl2,hcr⟩:=hr
  have hbn : w.heap.size ≤ b:=by
   rcases Nat.lt_or_ge b w.heap.size with h | h
   ·have:=hmine b h; rw [hcl] at this; cases this
   ·exact h
  have H:=NewR.im (d:=d) (g:=g) (g':=g') (w:=w) (w':=w') (bR:=b) (X:=fun j => vals.getD j undef) R.bd hp hL.sz hL.sd hL.bd
  simp only [imp] at hn ⊢
  have hn0:=hn rfl
  simp only [V.plain] at hpl
  have hcell : ∀ (j : Nat) (c : C) (x : Value),cs[j]? = some c → vals[j]? = some x → RC w' (g.im g' d w.heap.size b fun j => vals.getD j undef) (d + 1) j c x:=by
   intro j c x hc hx
   have h5:=hcr j c x hc (by simpa using hx)
   rw [Nat.zero_add] at h5
   have hno:=List.all_eq_true.1 hpl c (List.mem_of_getElem? hc)
   have hokc : c.okRes = true ∨ lent = false:=by
    rcases Bool.or_eq_true _ _ ▸ hok with h | h
    ·simp only [V.okRes,V.okRes1] at h
     exact .inl (List.all_eq_true.1 h c (List.mem_of_getElem? hc))
    ·right; simpa using h
   cases h5 with
   | ro k dd _ h6 => exact .ro _ _ _ (hro (fun b hb => by simp [Gh.im,hb]) h6 hokc)
   | own dd _ h6 =>
    refine .own _ _ (hown (fun b ρ hb h7 => ?_) (fun ρ hρ => by simp [Gh.im,hρ]) ?_ h6)
    ·have : ¬ b < w.heap.size:=by omega
     simp [Gh.im,this,h7]
    ·simp [Gh.im,Array.getD_eq_getD_getElem?,hx]
   | rf => simp [C.noRf] at hno
  refine ⟨_,R.fresh (rt:=.bx cs) hn0 H ⟨?_,vals,E,?_,by simpa using hcl2.symm,hcell⟩ (fun j r1 j1 hj => ?_),?_,fun q hq => ?_⟩
  ·have : ¬ b < w.heap.size:=by omega
   simp [Gh.im,upd,this,hcl]
  ·simp only [Gh.im,upd_same]; exact hw'
  ·have:=List.all_eq_true.1 hpl _ (List.mem_of_getElem? hj)
   simp [C.noRf] at this
  ·have hbx:=RA.bx (w:=w') (g:=g.im g' d w.heap.size b fun j => vals.getD j undef) (m:=upd S.ms d (some (.bx cs),[])) d 0
   have : (g.im g' d w.heap.size b fun j => vals.getD j undef).bk d = b:=by simp [Gh.im,upd]
   rw [this] at hbx
   exact hbx
  ·simp [AV.refs] at hq; subst hq; simp [upd]
 ·have hnp : ∀ cs,r ≠ .ptr cs:=fun cs e => hptr ⟨cs,e⟩
  obtain ⟨hfl,hfc⟩:=RVr_cells hr hnp
  have hplf:=plain_flats hpl hnp
  have hokf : ∀ c ∈ r.flats,c.okRes = true ∨ lent = false:=by
   intro c hc
   rcases Bool.or_eq_true _ _ ▸ hok with h | h
   ·exact .inl (List.all_eq_true.1 (okRes_flats h hnp) c hc)
   ·right; simpa using h
  rw [imp_rt hnp] at hn ⊢
  by_cases hany : r.flats.any C.isOwn = true
  ·rw [if_pos hany] at hn ⊢
   have hn0:=hn rfl
   have H:=NewR.im (d:=d) (g:=g) (g':=g') (w:=w) (w':=w') (bR:=0) (X:=fun j => (r.vals v).getD j undef) R.bd hp hL.sz hL.sd hL.bd
   have hcell : ∀ (j : Nat) (c : C) (x : Value),r.flats[j]? = some c → (r.vals v)[j]? = some x → RC w' (g.im g' d w.heap.size 0 fun j => (r.vals v).getD j undef) (d + 1) j c x:=by
    intro j c x hc hx
    have h5:=hfc j c x hc hx
    rw [Nat.zero_add] at h5
    have hno:=List.all_eq_true.1 hplf c (List.mem_of_getElem? hc)
    have hokc:=hokf c (List.mem_of_getElem? hc)
    cases h5 with
    | ro k dd _ h6 => exact .ro _ _ _ (hro (fun b hb => by simp [Gh.im,hb]) h6 hokc)
    | own dd _ h6 =>
     refine .own _ _ (hown (fun b ρ hb h7 => ?_) (fun ρ hρ => by simp [Gh.im,hρ]) ?_ h6)
     ·have : ¬ b < w.heap.size:=by omega
      simp [Gh.im,this,h7]
     ·simp [Gh.im,List.getD,hx]
    | rf => simp [C.noRf] at hno
   refine ⟨_,R.fresh (rt:=.vir r.flats) hn0 H (fun j c hc => ?_) (fun j r1 j1 hj => ?_),?_,fun q hq => ?_⟩
   ·have hlt:=lt_of_get hc
    have hx : (r.vals v)[j]? = some (r.vals v)[j]:=by simp [show j < (r.vals v).length from by omega]
    have:=hcell j c _ hc hx
    have hh : (g.im g' d w.heap.size 0 fun j => (r.vals v).getD j undef).hd (d + 1) j [] = (r.vals v)[j]:=by simp [Gh.im,List.getD,hx]
    rw [hh]; exact this
   ·have:=List.all_eq_true.1 hplf _ (List.mem_of_getElem? hj)
    simp [C.noRf] at this
   ·exact imp_ok hr hnp (fun i c y hc hy => rcell_ok (hcell i c y hc hy))
   ·obtain ⟨rfl,_⟩:=imp_refs hpl hnp hq
    simp [upd]
  ·rw [if_neg hany] at hn ⊢
   let g2 : Gh:={ cl:=fun b => if b < w.heap.size then g.cl b else .no,hd:=g.hd,bk:=g.bk }
   have R2 : Rel w0 cl0 S a.tmps w' g2:=R.grow hp hL.sz hL.sd (fun b hb => by simp [g2,hb]) (fun b hb => by simp [g2,show ¬ b < w.heap.size from by omega]) rfl rfl
   refine ⟨g2,R2,?_,fun q hq => ?_⟩
   ·refine imp_ok hr hnp (fun i c y hc hy => ?_)
    have h5:=hfc i c y hc hy
    have hokc:=hokf c (List.mem_of_getElem? hc)
    have hno:=List.all_eq_true.1 hplf c (List.mem_of_getElem? hc)
    cases h5 with
    | ro k dd _ h6 => exact mkv_ok (hro (fun b hb => by simp [g2,hb]) h6 hokc)
    | own dd _ h6 =>
     have hsc : dd.scal = true:=by
      have : (C.own dd).isOwn = false:=by
       cases h8 : (C.own dd).isOwn
       ·rfl
       ·exact absurd (List.any_eq_true.2 ⟨_,List.mem_of_getElem? hc,h8⟩) hany
      simpa [C.isOwn] using this
     refine cellAV_ok (w:=w') (g:=g2) (r:=d) (j:=i) (p:=[]) ?_
     cases h6 with
     | int => exact .int _ _ _
     | bool => exact .bool _ _
     | str => exact .str _ _
     | _ => simp [D.scal] at hsc
    | rf => simp [C.noRf] at hno
   ·exact absurd (imp_refs hpl hnp hq).2 hany
end
end Go.Proofs.YtmlinnkaccgcgaaGreat.OM
