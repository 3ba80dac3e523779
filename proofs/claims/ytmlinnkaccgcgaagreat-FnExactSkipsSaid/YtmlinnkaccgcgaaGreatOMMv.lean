/- The own machine: an argument that is given away in a call, whichever it is. -/
import Derived.Test.YtmlinnkaccgcgaaGreatOMIo3
set_option linter.all false
namespace Go.Proofs.YtmlinnkaccgcgaaGreat.OM
section
variable {w0 : World} {cl0 : Ini} {S : St} {ts : Array Value} {w : World} {g : Gh}
def Gh.gm (g : Gh) (I : Nat) (X : Nat → Value) (lent : Bool) : Gh where
 cl:=fun b => match g.cl b with
  | .imm => .imm
  | .bor => .bor
  | .own 0 q ρ => .own (I + 1) q ρ
  | .own (_ + 1) _ _ => if lent then .bor else .no
  | .box _ => if lent then .bor else .no
  | .no => .no
 hd:=fun r j ρ => if r = I + 1 then (if ρ = [] then X j else g.hd 0 j ρ) else g.hd r j ρ
 bk:=g.bk
def Gh.gq (g g' : Gh) (I : Nat) (size d bR : Nat) (cr : Bool) (X : Nat → Value) : Gh where
 cl:=fun b => if b < size ∧ (g.cl b).held = false then g.cl b else match g'.cl b with
  | .own 0 n ρ => if cr then .own (d + 1) n ρ else .no
  | .own r q ρ => if r = I + 1 then .own 0 q ρ else .no
  | .box _ => if cr = true ∧ b = bR then .box d else .no
  | _ => .no
 hd:=fun r j ρ => if r = 0 then g'.hd (I + 1) j ρ else if r = d + 1 ∧ cr = true then (if ρ = [] then X j else g'.hd 0 j ρ) else g.hd r j ρ
 bk:=if cr then upd g.bk d bR else g.bk
theorem Gh.gm_up {I : Nat} {X : Nat → Value} {lent : Bool} {b : Nat} {k : Bool} (h : g.cl b = kc k) : (g.gm I X lent).cl b = kc k:=by
 cases k <;> simp [kc] at h ⊢ <;> simp [Gh.gm,h]
theorem Gh.gm_down {I : Nat} {X : Nat → Value} {lent : Bool} {b : Nat} {k : Bool} (hk : k = false ∨ lent = false) (h : (g.gm I X lent).cl b = kc k) : g.cl b = kc k:=by
 simp only [Gh.gm] at h
 revert h
 cases hg : g.cl b with
 | own n j ρ => rcases hk with rfl | rfl <;> cases n <;> first | (cases lent <;> simp [kc]; done) | (cases k <;> simp [kc])
 | box r => rcases hk with rfl | rfl <;> first | (cases lent <;> simp [kc]; done) | (cases k <;> simp [kc])
 | no => cases k <;> simp [kc]
 | imm => simp
 | bor => simp
theorem Gh.gm_lend {I : Nat} {X : Nat → Value} {lent : Bool} {b : Nat} {k : Bool} (h : (g.lend lent true fun _ => false).cl b = kc k) : (g.gm I X lent).cl b = kc k:=by
 simp only [Gh.gm,Gh.lend] at h ⊢
 revert h
 cases hg : g.cl b with
 | own n j ρ => cases n <;> simp <;> cases k <;> simp [kc]
 | box r => simp
 | no => simp
 | imm => simp
 | bor => simp
theorem Gh.gm_no {I : Nat} {X : Nat → Value} {lent : Bool} {b : Nat} (h : g.cl b = .no) : (g.gm I X lent).cl b = .no:=by simp [Gh.gm,h]
theorem Gh.gm_mine {I : Nat} {X : Nat → Value} {lent : Bool} {b : Nat} : ((g.gm I X lent).cl b).mine = (g.cl b).held:=by
 simp only [Gh.gm]
 cases hb : g.cl b with
 | own n j ρ => cases n <;> cases lent <;> rfl
 | box r => cases lent <;> rfl
 | _ => rfl
theorem NewR.gq {w' : World} {g' : Gh} {d bR : Nat} {I : Nat} {cr lent : Bool} {X X' : Nat → Value} (hbd : ∀ b,g.cl b ≠ .no → b < w.heap.size)
    (hfr : ∀ b,b < w.heap.size → ((g.gm I X' lent).cl b).mine = false → w'.heap[b]? = w.heap[b]?) (hs : w.heap.size ≤ w'.heap.size) (hsd : Same w w')
    (hbd' : ∀ b,g'.cl b ≠ .no → b < w'.heap.size) (n : Nat) (hn : cr = true → n = d) : NewR n w w' g (g.gq g' I w.heap.size d bR cr X):=by
  have hkeep : ∀ b,g.cl b ≠ .no → (g.cl b).held = false → (g.gq g' I w.heap.size d bR cr X).cl b = g.cl b:=fun b h1 h2 => by
    simp only [Gh.gq]; rw [if_pos ⟨hbd b h1,h2⟩]
  refine { hp:=fun b h h2 => hfr b h ?_,hs:=hs,kc:=fun b k => ?_,cl:=fun b n1 j ρ h _ => ?_,bx:=fun b n1 h _ => ?_,hd:=fun n1 j ρ h => ?_,
           bk:=fun n1 h => ?_,bd:=fun b h => ?_,mi:=fun b hb h => ?_,sd:=hsd }
  · rw [Gh.gm_mine]
    cases hh : (g.cl b).held with
    | false => rfl
    | true => obtain ⟨q,ρ,e⟩:=Cls.held_own hh; exact absurd e (h2 q ρ)
  · by_cases hb : b < w.heap.size ∧ (g.cl b).held = false
    · simp only [Gh.gq]; rw [if_pos hb]
    · have h1 : ∀ k,g.cl b ≠ OM.kc k:=fun k e => hb ⟨hbd b (by rw [e]; cases k <;> simp [OM.kc]),by rw [e]; cases k <;> rfl⟩
      constructor
      · intro h2
        simp only [Gh.gq] at h2
        rw [if_neg hb] at h2
        split at h2 <;> first | (cases k <;> simp [OM.kc] at h2; done) | (split at h2 <;> cases k <;> simp [OM.kc] at h2)
      · exact fun h2 => absurd h2 (h1 k)
  · rw [hkeep b (by rw [h]; simp) (by rw [h]; rfl)]; exact h
  · rw [hkeep b (by rw [h]; simp) (by rw [h]; rfl)]; exact h
  · simp only [Gh.gq]
    rw [if_neg (by omega),if_neg (fun e => h (by have:=hn e.2; omega))]
  · simp only [Gh.gq]
    cases hcr : cr with
    | false => simp
    | true => have:=hn hcr; subst this; simp [upd,h]
  · by_cases hb : b < w.heap.size ∧ (g.cl b).held = false
    · left
      simp only [Gh.gq] at h; rw [if_pos hb] at h; exact h
    · by_cases hlt : b < w.heap.size
      · left
        have : (g.cl b).held = true:=by
          cases hh : (g.cl b).held with
          | true => rfl
          | false => exact absurd ⟨hlt,hh⟩ hb
        obtain ⟨q,ρ,e⟩:=Cls.held_own this
        rw [e]; simp
      · right
        refine ⟨by omega,hbd' b (fun e => ?_)⟩
        simp only [Gh.gq] at h
        rw [if_neg hb,e] at h
        exact h rfl
  · by_cases hb2 : (g.cl b).held = false
    · simp only [Gh.gq] at h; rw [if_pos ⟨hb,hb2⟩] at h; exact h
    · obtain ⟨q,ρ,e⟩:=Cls.held_own (c:=g.cl b) (by simpa using hb2)
      rw [e]; rfl
section
variable {w' : World} {g' : Gh} {d bR : Nat} {I : Nat} {cr lent : Bool} {X X' : Nat → Value}
theorem gq_cl (hmi : ∀ b,b < w.heap.size → (g'.cl b).mine = true → ((g.gm I X' lent).cl b).mine = true) {b : Nat} (hm : (g'.cl b).mine = true) :
  (g.gq g' I w.heap.size d bR cr X).cl b = match g'.cl b with
   | .own 0 n ρ => if cr then .own (d + 1) n ρ else .no
   | .own r q ρ => if r = I + 1 then .own 0 q ρ else .no
   | .box _ => if cr = true ∧ b = bR then .box d else .no
   | _ => .no:=by
 simp only [Gh.gq]
 rw [if_neg (fun e => ?_)]
 have:=hmi b e.1 hm
 rw [Gh.gm_mine,e.2] at this
 cases this
theorem gq_ro (him : ∀ b k,g'.cl b = kc k ↔ (g.gm I X' lent).cl b = kc k) (hbd : ∀ b,g.cl b ≠ .no → b < w.heap.size) {k : Bool} {dd : D} {x : Value} (hok : (C.ro k dd).okRes = true ∨ lent = false) (h : RO w' g'.cl k dd x) :
  RO w' (g.gq g' I w.heap.size d bR cr X).cl k dd x:=by
 by_cases hs : dd.scal = true
 ·exact h.scal hs
 have hk2 : k = false ∨ lent = false:=by
  rcases hok with hok | hok
  ·left; simpa [C.okRes,hs] using hok
  ·exact .inr hok
 exact h.mono fun b hb => ⟨rfl,by
  have h1:=Gh.gm_down hk2 ((him b k).1 hb)
  simp only [Gh.gq]
  rw [if_pos ⟨hbd b (by rw [h1]; cases k <;> simp [kc]),by rw [h1]; cases k <;> rfl⟩]
  exact h1⟩
theorem gq_res (hmi : ∀ b,b < w.heap.size → (g'.cl b).mine = true → ((g.gm I X' lent).cl b).mine = true) (him : ∀ b k,g'.cl b = kc k ↔ (g.gm I X' lent).cl b = kc k) (hbd : ∀ b,g.cl b ≠ .no → b < w.heap.size)
  {j : Nat} {c : C} {x : Value} (hok : c.okRes = true ∨ lent = false) (hn : c.noRf = true) (hx : X j = x) (h : RC w' g' 0 j c x) : RC w' (g.gq g' I w.heap.size d bR true X) (d + 1) j c x:=by
 cases h with
 | ro k dd _ h => exact .ro _ _ _ (gq_ro him hbd hok h)
 | own dd _ h =>
  refine .own _ _ (Hd.place (w:=w') (g:=g') (.inl h) (fun b ρ hb => ⟨rfl,?_⟩) (fun ρ hρ => ?_) ?_)
  ·rw [gq_cl hmi (by rw [hb]; rfl),hb]
   simp
  ·simp [Gh.gq,hρ]
  ·simp [Gh.gq,hx]
 | rf => simp [C.noRf] at hn
end
end
section
variable {P : Program} {κ : Nat → FuncId} {w0 : World} {cl0 : Ini} {S : St} {w : World} {g : Gh} {a : Act} {Γ : Env} {d : Nat}
theorem held_argM {x : V} {v : Value} {I : Nat} {X : Nat → Value} {lent : Bool} (hn : x.flat.all C.noRf = true) (hX : ∀ j y,v.cells[j]? = some y → X j = y) (h : RV1 w g 0 0 x v) : RVa w (g.gm I X lent) I x v:=by
 have hc : ∀ {n : Nat} {c : C} {y : Value},c.noRf = true → X n = y → RC w g 0 n c y → RC w (g.gm I X lent) (I + 1) n c y:=fun {n c y} h1 hy h2 => by
  cases h2 with
  | ro k d _ h3 => exact .ro _ _ _ (h3.mono fun b hb => ⟨rfl,Gh.gm_up hb⟩)
  | own d _ h3 =>
   refine .own _ _ (Hd.place (w:=w) (g:=g) (.inl h3) (fun b ρ hb => ⟨rfl,by simp [Gh.gm,hb]⟩) (fun ρ hρ => ?_) ?_)
   ·simp [Gh.gm,hρ]
   ·simp [Gh.gm,hy]
  | rf => simp [C.noRf] at h1
 cases x with
 | one c =>
  refine ⟨⟨hc (by simpa [V.flat] using hn) (hX 0 v (by rw [h.2]; rfl)) h.1,h.2⟩,fun _ j y hy => ?_⟩
  simp [Gh.gm,hX j y hy]
 | st cs =>
  obtain ⟨vs,rfl,hl,h2⟩:=h
  refine ⟨⟨vs,rfl,hl,fun i c y h3 h4 => ?_⟩,fun _ j y hy => ?_⟩
  ·refine hc (List.all_eq_true.1 hn c (List.mem_of_getElem? h3)) (hX _ y ?_) (h2 i c y h3 h4)
   rw [Nat.zero_add]
   simpa [Value.cells] using h4
  ·simp [Gh.gm,hX j y hy]
 | ptr => exact h.elim
 | tup => exact h.elim
theorem callM {I : Nat} {m1 : Ms} {g1 : Gh} (R1 : Rel w0 cl0 { S with ms:=m1 } a.tmps w g1) {xs : List V} {args : Array Value} {us : List (Nat × Nat × C)} {w' : World} {g' : Gh}
  {X X' : Nat → Value} {cr lent : Bool} {bR : Nat}
  (hL : Left w (g1.gm I X' lent) xs args us w' g') (hn : cr = true → (m1 d).1 = none) :
  ∃ g3,Rel w0 cl0 { S with ms:=m1 } a.tmps w' g3 ∧
   (∀ {c : C} {j : Nat} {x : Value},(c.okRes = true ∨ lent = false) → c.isOwn = false → c.noRf = true → RC w' g' 0 j c x → RC w' g3 (d + 1) j c x) ∧
   (cr = true → ∀ {c : C} {j : Nat} {x : Value},(c.okRes = true ∨ lent = false) → c.noRf = true → X j = x → RC w' g' 0 j c x → RC w' g3 (d + 1) j c x) ∧
   (cr = true → ∀ j,g3.hd (d + 1) j [] = X j) ∧ (cr = true → g3.bk d = bR ∧ ∀ n,g'.cl bR = .box n → g3.cl bR = .box d):=by
 have hfr:=hL.fr
 have hmi:=hL.mi
 have him:=hL.im
 have H : ∀ n,(cr = true → n = d) → NewR n w w' g1 (g1.gq g' I w.heap.size d bR cr X):=fun n hn => NewR.gq (X':=X') (lent:=lent) R1.bd (fun b h1 h2 => hfr b h1 h2) hL.sz hL.sd hL.bd n hn
 have R2 : Rel w0 cl0 { S with ms:=m1 } a.tmps w' (g1.gq g' I w.heap.size d bR cr X):=by
  refine R1.pass (d0:=d) (H d fun _ => rfl) (fun n hs => ?_)
  cases hcr : cr with
  | false =>
   subst hcr
   exact ⟨n + 1,by omega,H _ (fun e => by cases e)⟩
  | true =>
   subst hcr
   refine ⟨d,fun e => ?_,H d fun _ => rfl⟩
   subst e
   rw [hn rfl] at hs; cases hs
 refine ⟨_,R2,fun {c j x} ho h1 h2 h => ?_,fun hcr {c j x} ho h1 hx h => ?_,fun hcr j => ?_,fun hcr => ⟨?_,fun n hb => ?_⟩⟩
 ·cases h with
  | ro k dd _ h => exact .ro _ _ _ (gq_ro (d:=d) (bR:=bR) (cr:=cr) (X:=X) him R1.bd ho h)
  | own dd _ h =>
   simp only [C.isOwn,Bool.not_eq_false'] at h1
   refine .own _ _ ?_
   cases h <;> first | exact .int _ _ _ | exact .bool _ _ | exact .str _ _ | simp [D.scal] at h1
  | rf => simp [C.noRf] at h2
 ·subst hcr
  exact gq_res (d:=d) (bR:=bR) hmi him R1.bd ho h1 hx h
 ·subst hcr
  simp [Gh.gq]
 ·subst hcr
  simp [Gh.gq,upd]
 ·subst hcr
  rw [gq_cl hmi (by rw [hb]; rfl),hb]
  simp
theorem callPostM {I : Nat} {m1 : Ms} {g1 : Gh} (R1 : Rel w0 cl0 { S with ms:=m1 } a.tmps w g1) {xs : List V} {args : Array Value} {us : List (Nat × Nat × C)} {w' : World} {g' : Gh} {r : V} {v : Value}
  {X' : Nat → Value} {lent : Bool} (hok1 : (r.okRes || !lent) = true)
  (hpl : r.plain = true) (hr : RVr w' g' r v)
  (hL : Left w (g1.gm I X' lent) xs args us w' g') (hn : ((imp d r).2).isSome → (m1 d).1 = none) :
  Post w0 cl0 S a.tmps d (imp d r).1 (imp d r).2 m1 v w':=by
 by_cases hptr : ∃ cs,r = .ptr cs
 ·obtain ⟨cs,rfl⟩:=hptr
  obtain ⟨Rn,b,vals,E,rfl,hcl,hw',hcl2,hcr⟩:=hr
  obtain ⟨g3,R3,p1,p2,p3,p4⟩:=callM (d:=d) (cr:=true) (bR:=b) (X:=fun j => vals.getD j undef) R1 hL (fun _ => hn rfl)
  obtain ⟨p5,p6⟩:=p4 rfl
  simp only [imp] at hn ⊢
  have hn0:=hn rfl
  simp only [V.plain] at hpl
  have hcell : ∀ (j : Nat) (c : C) (x : Value),cs[j]? = some c → vals[j]? = some x → RC w' g3 (d + 1) j c x:=by
   intro j c x hc hx
   have h5:=hcr j c x hc (by simpa using hx)
   rw [Nat.zero_add] at h5
   have hokc : c.okRes = true ∨ lent = false:=by
    rcases Bool.or_eq_true _ _ ▸ hok1 with h | h
    ·simp only [V.okRes,V.okRes1] at h
     exact .inl (List.all_eq_true.1 h c (List.mem_of_getElem? hc))
    ·right; simpa using h
   exact p2 rfl hokc (List.all_eq_true.1 hpl c (List.mem_of_getElem? hc)) (by simp [Array.getD_eq_getD_getElem?,hx]) h5
  refine ⟨_,R3.fresh (rt:=.bx cs) hn0 (NewR.refl d w' g3) ⟨?_,vals,E,?_,by simpa using hcl2.symm,hcell⟩ (fun j r1 j1 hj => ?_),?_,fun q hq => ?_⟩
  ·rw [p5]; exact p6 _ hcl
  ·rw [p5]; exact hw'
  ·have:=List.all_eq_true.1 hpl _ (List.mem_of_getElem? hj)
   simp [C.noRf] at this
  ·have hbx:=RA.bx (w:=w') (g:=g3) (m:=upd m1 d (some (.bx cs),[])) d 0
   rw [p5] at hbx
   exact hbx
  ·simp [AV.refs] at hq; subst hq; simp [upd]
 ·have hnp : ∀ cs,r ≠ .ptr cs:=fun cs e => hptr ⟨cs,e⟩
  obtain ⟨hfl,hfc⟩:=RVr_cells hr hnp
  have hplf:=plain_flats hpl hnp
  have hokf : ∀ c ∈ r.flats,c.okRes = true ∨ lent = false:=by
   intro c hc
   rcases Bool.or_eq_true _ _ ▸ hok1 with h | h
   ·exact .inl (List.all_eq_true.1 (okRes_flats h hnp) c hc)
   ·right; simpa using h
  rw [imp_rt hnp] at hn ⊢
  by_cases hany : r.flats.any C.isOwn = true
  ·rw [if_pos hany] at hn ⊢
   have hn0:=hn rfl
   obtain ⟨g3,R3,p1,p2,p3,p4⟩:=callM (d:=d) (cr:=true) (bR:=0) (X:=fun j => (r.vals v).getD j undef) R1 hL (fun _ => hn rfl)
   have hcell : ∀ (j : Nat) (c : C) (x : Value),r.flats[j]? = some c → (r.vals v)[j]? = some x → RC w' g3 (d + 1) j c x:=by
    intro j c x hc hx
    have h5:=hfc j c x hc hx
    rw [Nat.zero_add] at h5
    exact p2 rfl (hokf c (List.mem_of_getElem? hc)) (List.all_eq_true.1 hplf c (List.mem_of_getElem? hc)) (by simp [List.getD,hx]) h5
   refine ⟨_,R3.fresh (rt:=.vir r.flats) hn0 (NewR.refl d w' g3) (fun j c hc => ?_) (fun j r1 j1 hj => ?_),?_,fun q hq => ?_⟩
   ·have hlt:=lt_of_get hc
    have hx : (r.vals v)[j]? = some (r.vals v)[j]:=by simp [show j < (r.vals v).length from by omega]
    have:=hcell j c _ hc hx
    rw [p3 rfl j]
    simpa [List.getD,hx] using this
   ·have:=List.all_eq_true.1 hplf _ (List.mem_of_getElem? hj)
    simp [C.noRf] at this
   ·exact imp_ok hr hnp (fun i c y hc hy => rcell_ok (hcell i c y hc hy))
   ·obtain ⟨rfl,_⟩:=imp_refs hpl hnp hq
    simp [upd]
  ·rw [if_neg hany] at hn ⊢
   obtain ⟨g3,R3,p1,p2,p3,p4⟩:=callM (d:=d) (cr:=false) (bR:=0) (X:=fun _ => undef) R1 hL (fun e => by cases e)
   refine ⟨g3,R3,?_,fun q hq => ?_⟩
   ·refine imp_ok hr hnp (fun i c y hc hy => ?_)
    have h5:=hfc i c y hc hy
    have hno:=List.all_eq_true.1 hplf c (List.mem_of_getElem? hc)
    rw [Nat.zero_add] at h5
    refine rcell_ok (p1 (hokf c (List.mem_of_getElem? hc)) ?_ hno h5)
    cases h8 : c.isOwn
    ·rfl
    ·exact absurd (List.any_eq_true.2 ⟨_,List.mem_of_getElem? hc,h8⟩) hany
   ·exact absurd (imp_refs hpl hnp hq).2 hany
end
end Go.Proofs.YtmlinnkaccgcgaaGreat.OM
