/- The own machine: the result of a call that wrote what it was given. -/
import Derived.Test.YtmlinnkaccgcgaaGreatOMIo2
set_option linter.all false
namespace Go.Proofs.YtmlinnkaccgcgaaGreat.OM
section
variable {P : Program} {κ : Nat → FuncId} {w0 : World} {cl0 : Ini} {S : St} {w : World} {g : Gh} {a : Act} {Γ : Env} {d : Nat}
theorem callIo {m1 m2 : Ms} {g1 : Gh} (R1 : Rel w0 cl0 { S with ms:=m1 } a.tmps w g1) {a0 : AV} {v0 : Value} {x0 : V} {xs : List V} {args : Array Value} {us : List (Nat × Nat × C)} {w' : World} {g' : Gh}
  {X X' : Nat → Value} {cr lent : Bool} {bR : Nat}
  (ha0 : ∀ {w : World} {g : Gh},Rel w0 cl0 { S with ms:=m1 } a.tmps w g → RA w g m1 a0 v0) (hx0 : (∀ cs,a0 ≠ .agg cs) → v0.cells = #[v0]) (hxp : ∀ cs,x0 ≠ .ptr cs) (h0 : args[0]? = some v0)
  (hL : Left w (g1.gi X' lent) (x0 :: xs) args us w' g') (hu : ups a0.cells 0 m1 us = some m2) (hoku : ∀ i j c,(i,j,c) ∈ us → c.okRes = true ∨ lent = false) (hn : cr = true → (m1 d).1 = none) :
  ∃ g3,Rel w0 cl0 { S with ms:=m2 } a.tmps w' g3 ∧
   (∀ {c : C} {j : Nat} {x : Value},(c.okRes = true ∨ lent = false) → c.isOwn = false → c.noRf = true → RC w' g' 0 j c x → RC w' g3 (d + 1) j c x) ∧
   (cr = true → ∀ {c : C} {j : Nat} {x : Value},(c.okRes = true ∨ lent = false) → c.noRf = true → X j = x → RC w' g' 0 j c x → RC w' g3 (d + 1) j c x) ∧
   (cr = true → ∀ j,g3.hd (d + 1) j [] = X j) ∧ (cr = true → g3.bk d = bR ∧ ∀ n,g'.cl bR = .box n → g3.cl bR = .box d):=by
 have hfr:=hL.fr
 have hmi:=hL.mi
 have him:=hL.im
 have H : ∀ n,(cr = true → n = d) → NewR n w w' g1 (g1.go g' w.heap.size d bR cr X):=fun n hn => NewR.go (X':=X') (lent:=lent) R1.bd (fun b h1 h2 => hfr b h1 h2) hL.sz hL.sd hL.bd n hn
 have R2 : Rel w0 cl0 { S with ms:=m1 } a.tmps w' (g1.go g' w.heap.size d bR cr X):=by
  refine R1.pass (d0:=d) (H d fun _ => rfl) (fun n hs => ?_)
  cases hcr : cr with
  | false =>
   subst hcr
   exact ⟨n + 1,by omega,H _ (fun e => by cases e)⟩
  | true =>
   subst hcr
   refine ⟨d,fun e => ?_,H d fun _ => rfl⟩
   subst e
   rw [hn rfl] at hs; cases hs
 obtain ⟨hso,hus⟩:=ups_so us hu
 have hra2:=ha0 R2
 have hcells : ∀ (j : Nat) (b : AV),a0.cells[j]? = some b → ∃ x,v0.cells.toList[j]? = some x ∧ RA w' (g1.go g' w.heap.size d bR cr X) m1 b x:=by
  intro j b hj
  by_cases hag : ∃ cs,a0 = .agg cs
  ·obtain ⟨cs,rfl⟩:=hag
   cases hra2 with
   | agg _ vs hl hr =>
    simp only [AV.cells] at hj
    have hlt:=lt_of_get hj
    have hx : vs[j]? = some vs[j]:=by simp [show j < vs.size from by omega]
    exact ⟨vs[j],by simp [Value.cells,hx],hr j b _ hj hx⟩
  ·have hv:=hx0 (fun cs e => hag ⟨cs,e⟩)
   have : a0.cells = [a0]:=by
    cases a0 with
    | agg cs => exact absurd ⟨cs,rfl⟩ hag
    | _ => rfl
   rw [this] at hj
   rw [hv]
   cases j with
   | zero => simp at hj; subst hj; exact ⟨v0,rfl,hra2⟩
   | succ j => simp at hj
 obtain ⟨g3,R3,k1,k2,k3,k4,k5,k6,k7⟩:=ups_ok us (as:=a0.cells) (vals:=v0.cells.toList) (lo:=0) R2 hcells (fun i j c hm _ => by
  obtain ⟨rfl,hno⟩:=hus i j c hm
  have h1:=hL.up 0 j c hm
  have h2 : ∃ v x,args[0]? = some v ∧ v.cells[j]? = some x ∧ RC w' g' (0 + 1) j c x:=by
   revert h1
   simp only [List.getElem?_cons_zero]
   cases x0 with
   | ptr cs => exact absurd rfl (hxp cs)
   | _ => exact id
  obtain ⟨v,x,h3,h4,h5⟩:=h2
  rw [h0] at h3
  cases h3
  exact ⟨x,by simpa using h4,hno,go_held (X':=X') (lent:=lent) hmi him R1.bd (hoku 0 j c hm) hno h5⟩) hu
 refine ⟨g3,R3,fun {c j x} ho h1 h2 h => ?_,fun hcr {c j x} ho h1 hx h => ?_,fun hcr j => ?_,fun hcr => ⟨?_,fun n hb => ?_⟩⟩
 ·cases h with
  | ro k dd _ h =>
   refine .ro _ _ _ ((go_ro (d:=d) (bR:=bR) (cr:=cr) (X:=X) him R1.bd ho h).mono fun b hb => ⟨rfl,(k1 b k).2 hb⟩)
  | own dd _ h =>
   simp only [C.isOwn,Bool.not_eq_false'] at h1
   refine .own _ _ ?_
   cases h <;> first | exact .int _ _ _ | exact .bool _ _ | exact .str _ _ | simp [D.scal] at h1
  | rf => simp [C.noRf] at h2
 ·subst hcr
  refine (go_res (d:=d) (bR:=bR) hmi him R1.bd ho h1 hx h).mono (fun b k hb => ⟨rfl,(k1 b k).2 hb⟩) (fun b ρ hb => ⟨rfl,k6 b d j ρ hb⟩) (fun ρ => k5 d (hn rfl) j ρ) (fun r' j' e => ?_)
  subst e; simp [C.noRf] at h1
 ·subst hcr
  rw [k5 d (hn rfl) j []]
  simp [Gh.go]
 ·subst hcr
  rw [k2]; simp [Gh.go,upd]
 ·subst hcr
  refine k7 bR d ?_
  rw [go_cl hmi (by rw [hb]; rfl),hb]
  simp
theorem callPostIo {m1 m2 : Ms} {g1 : Gh} (R1 : Rel w0 cl0 { S with ms:=m1 } a.tmps w g1) {a0 : AV} {v0 : Value} {x0 : V} {xs : List V} {args : Array Value} {us : List (Nat × Nat × C)} {w' : World} {g' : Gh} {r : V} {v : Value}
  {X' : Nat → Value} {lent : Bool} (hok : ((r.okRes && us.all fun u => u.2.2.okRes) || !lent) = true)
  (ha0 : ∀ {w : World} {g : Gh},Rel w0 cl0 { S with ms:=m1 } a.tmps w g → RA w g m1 a0 v0) (hx0 : (∀ cs,a0 ≠ .agg cs) → v0.cells = #[v0]) (hxp : ∀ cs,x0 ≠ .ptr cs) (h0 : args[0]? = some v0)
  (hpl : r.plain = true) (hr : RVr w' g' r v)
  (hL : Left w (g1.gi X' lent) (x0 :: xs) args us w' g') (hu : ups a0.cells 0 m1 us = some m2) (hn : ((imp d r).2).isSome → (m2 d).1 = none) :
  Post w0 cl0 S a.tmps d (imp d r).1 (imp d r).2 m2 v w':=by
 have hok1 : (r.okRes || !lent) = true:=by
  revert hok; cases r.okRes <;> simp
 have hoku : ∀ i j c,(i,j,c) ∈ us → c.okRes = true ∨ lent = false:=by
  intro i j c hm
  rcases Bool.or_eq_true _ _ ▸ hok with h | h
  ·simp only [Bool.and_eq_true] at h
   exact .inl (List.all_eq_true.1 h.2 _ hm)
  ·right; simpa using h
 have hso:=(ups_so us hu).1 d
 have hn1 : ((imp d r).2).isSome → (m1 d).1 = none:=fun h => by
  have:=hn h
  rw [this] at hso
  cases h1 : (m1 d).1 with
  | none => rfl
  | some _ => rw [h1] at hso; cases hso
 by_cases hptr : ∃ cs,r = .ptr cs
 ·obtain ⟨cs,rfl⟩:=hptr
  obtain ⟨Rn,b,vals,E,rfl,hcl,hw',hcl2,hcr⟩:=hr
  obtain ⟨g3,R3,p1,p2,p3,p4⟩:=callIo (d:=d) (cr:=true) (bR:=b) (X:=fun j => vals.getD j undef) R1 ha0 hx0 hxp h0 hL hu hoku (fun _ => hn1 rfl)
  obtain ⟨p5,p6⟩:=p4 rfl
  simp only [imp] at hn ⊢
  have hn0:=hn rfl
  simp only [V.plain] at hpl
  have hcell : ∀ (j : Nat) (c : C) (x : Value),cs[j]? = some c → vals[j]? = some x → RC w' g3 (d + 1) j c x:=by
   intro j c x hc hx
   have h5:=hcr j c x hc (by simpa using hx)
   rw [Nat.zero_add] at h5
   have hokc : c.okRes = true ∨ lent = false:=by
    rcases Bool.or_eq_true _ _ ▸ hok1 with h | h
    ·simp only [V.okRes,V.okRes1] at h
     exact .inl (List.all_eq_true.1 h c (List.mem_of_getElem? hc))
    ·right; simpa using h
   exact p2 rfl hokc (List.all_eq_true.1 hpl c (List.mem_of_getElem? hc)) (by simp [Array.getD_eq_getD_getElem?,hx]) h5
  refine ⟨_,R3.fresh (rt:=.bx cs) hn0 (NewR.refl d w' g3) ⟨?_,vals,E,?_,by simpa using hcl2.symm,hcell⟩ (fun j r1 j1 hj => ?_),?_,fun q hq => ?_⟩
  ·rw [p5]; exact p6 _ hcl
  ·rw [p5]; exact hw'
  ·have:=List.all_eq_true.1 hpl _ (List.mem_of_getElem? hj)
   simp [C.noRf] at this
  ·have hbx:=RA.bx (w:=w') (g:=g3) (m:=upd m2 d (some (.bx cs),[])) d 0
   rw [p5] at hbx
   exact hbx
  ·simp [AV.refs] at hq; subst hq; simp [upd]
 ·have hnp : ∀ cs,r ≠ .ptr cs:=fun cs e => hptr ⟨cs,e⟩
  obtain ⟨hfl,hfc⟩:=RVr_cells hr hnp
  have hplf:=plain_flats hpl hnp
  have hokf : ∀ c ∈ r.flats,c.okRes = true ∨ lent = false:=by
   intro c hc
   rcases Bool.or_eq_true _ _ ▸ hok1 with h | h
   ·exact .inl (List.all_eq_true.1 (okRes_flats h hnp) c hc)
   ·right; simpa using h
  rw [imp_rt hnp] at hn hn1 ⊢
  by_cases hany : r.flats.any C.isOwn = true
  ·rw [if_pos hany] at hn hn1 ⊢
   have hn0:=hn rfl
   obtain ⟨g3,R3,p1,p2,p3,p4⟩:=callIo (d:=d) (cr:=true) (bR:=0) (X:=fun j => (r.vals v).getD j undef) R1 ha0 hx0 hxp h0 hL hu hoku (fun _ => hn1 rfl)
   have hcell : ∀ (j : Nat) (c : C) (x : Value),r.flats[j]? = some c → (r.vals v)[j]? = some x → RC w' g3 (d + 1) j c x:=by
    intro j c x hc hx
    have h5:=hfc j c x hc hx
    rw [Nat.zero_add] at h5
    exact p2 rfl (hokf c (List.mem_of_getElem? hc)) (List.all_eq_true.1 hplf c (List.mem_of_getElem? hc)) (by simp [List.getD,hx]) h5
   refine ⟨_,R3.fresh (rt:=.vir r.flats) hn0 (NewR.refl d w' g3) (fun j c hc => ?_) (fun j r1 j1 hj => ?_),?_,fun q hq => ?_⟩
   ·have hlt:=lt_of_get hc
    have hx : (r.vals v)[j]? = some (r.vals v)[j]:=by simp [show j < (r.vals v).length from by omega]
    have:=hcell j c _ hc hx
    rw [p3 rfl j]
    simpa [List.getD,hx] using this
   ·have:=List.all_eq_true.1 hplf _ (List.mem_of_getElem? hj)
    simp [C.noRf] at this
   ·exact imp_ok hr hnp (fun i c y hc hy => rcell_ok (hcell i c y hc hy))
   ·obtain ⟨rfl,_⟩:=imp_refs hpl hnp hq
    simp [upd]
  ·rw [if_neg hany] at hn ⊢
   obtain ⟨g3,R3,p1,p2,p3,p4⟩:=callIo (d:=d) (cr:=false) (bR:=0) (X:=fun _ => undef) R1 ha0 hx0 hxp h0 hL hu hoku (fun e => by cases e)
   refine ⟨g3,R3,?_,fun q hq => ?_⟩
   ·refine imp_ok hr hnp (fun i c y hc hy => ?_)
    have h5:=hfc i c y hc hy
    have hno:=List.all_eq_true.1 hplf c (List.mem_of_getElem? hc)
    rw [Nat.zero_add] at h5
    refine rcell_ok (p1 (hokf c (List.mem_of_getElem? hc)) ?_ hno h5)
    cases h8 : c.isOwn
    ·rfl
    ·exact absurd (List.any_eq_true.2 ⟨_,List.mem_of_getElem? hc,h8⟩) hany
   ·exact absurd (imp_refs hpl hnp hq).2 hany
end
end Go.Proofs.YtmlinnkaccgcgaaGreat.OM
