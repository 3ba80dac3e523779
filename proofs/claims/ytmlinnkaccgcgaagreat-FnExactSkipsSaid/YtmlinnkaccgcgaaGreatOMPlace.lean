/- The own machine: what is held finds its place. -/
import Derived.Test.YtmlinnkaccgcgaaGreatOMOp6
set_option linter.all false
namespace Go.Proofs.YtmlinnkaccgcgaaGreat.OM
section
variable {P : Program} {κ : Nat → FuncId} {w0 : World} {cl0 : Ini} {S : St} {w : World} {g : Gh} {a : Act} {Γ : Env} {d : Nat}
def Hd (w : World) (g : Gh) (q : Nat) (d : D) (x : Value) : Prop:=OW w g 0 q [] d x ∨ ∃ sz,d = .sl sz [] ∧ x = .slice none 0 0
theorem Hd.one {q : Nat} {d : D} {x : Value} (h : Hd w g q d x) (hd : d ≠ .dead) : x.oneCell' = true:=by
 rcases h with h | ⟨_,_,rfl⟩
 ·cases h <;> first | rfl | exact absurd rfl hd
 ·rfl
theorem toD_ok {q : Nat} {c : C} {d : D} {x : Value} (h : RC w g 0 q c x) (hc : c.toD = some d) : Hd w g q d x:=by
 cases h with
 | ro k d0 _ hr =>
  simp only [C.toD] at hc
  split at hc
  ·rename_i hs
   simp at hc; subst hc
   refine .inl ?_
   cases hr with
   | int => exact .int _ _ _
   | bool => exact .bool _ _
   | str => exact .str _ _
   | _ => simp [D.scal] at hs
  ·cases hc
 | own d0 _ ho => simp [C.toD] at hc; subst hc; exact .inl ho
 | rf => simp [C.toD] at hc
theorem toDs_get : ∀ (cs : List C) {ds : List D},toDs cs = some ds → ds.length = cs.length ∧ ∀ (i : Nat) (c : C) (d : D),cs[i]? = some c → ds[i]? = some d → c.toD = some d:=by
 intro cs
 induction cs with
 | nil => intro ds h; simp [toDs] at h; subst h; exact ⟨rfl,fun i c d h => by simp at h⟩
 | cons c cs ih =>
  intro ds h
  simp only [toDs] at h
  cases h1 : c.toD with
  | none => simp [h1] at h
  | some d1 =>
   simp only [h1] at h
   cases h2 : toDs cs with
   | none => simp [h2] at h
   | some ds2 =>
    simp only [h2] at h
    simp at h; subst h
    obtain ⟨hl,hg⟩:=ih h2
    refine ⟨by simp [hl],fun i c1 d1' hc hd => ?_⟩
    cases i with
    | zero => simp at hc hd; subst hc; subst hd; exact h1
    | succ i => exact hg i c1 d1' (by simpa using hc) (by simpa using hd)
theorem TkR.hd' {N : Nat → Prop} {g g' : Gh} {m m' : Ms} (h : TkR N g m g' m') {q : Nat} (hq : ¬ N q) {d : D} {x : Value} (ha : Hd w g q d x) : Hd w g' q d x:=by
 rcases ha with ha | ha
 ·exact .inl (h.ow hq ha)
 ·exact .inr ha
theorem Hd.place {w' : World} {g' : Gh} {q r j : Nat} {p : Pth} {d : D} {x : Value} (h : Hd w g q d x)
  (hc : ∀ b ρ,g.cl b = .own 0 q ρ → w'.heap[b]? = w.heap[b]? ∧ g'.cl b = .own r j (p ++ ρ))
  (hh : ∀ ρ,ρ ≠ [] → g'.hd r j (p ++ ρ) = g.hd 0 q ρ) (hx : g'.hd r j p = x) : OW w' g' r j p d x:=by
 rcases h with h | ⟨sz,rfl,rfl⟩
 ·cases h with
  | int => exact .int _ _ _
  | bool => exact .bool _ _
  | str => exact .str _ _
  | dead => exact .dead _ _ hx
  | nil => exact .nil _ _ hx
  | sl _ sz es b off cap vals E hhd hcl hl hcap hw hN hk =>
   have h0:=hc b [] hcl
   refine .sl _ _ _ b off cap vals E hx (by simpa using h0.2) hl hcap (by rw [h0.1]; exact hw) hN (fun i c e d x he hd hx => ?_)
   refine (hk i c e d x he hd hx).mono (fun b ρ hb => ?_) (fun ρ => ?_)
   ·have:=hc b ((i,c) :: ρ) (by simpa using hb)
    simpa using this
   ·have:=hh ((i,c) :: ρ) (by simp)
    simpa using this
 ·exact .nil _ _ hx
theorem Hd.scalar {w' : World} {g' : Gh} {q r j : Nat} {p : Pth} {d : D} {x : Value} (h : Hd w g q d x) (hs : d.scal = true) : OW w' g' r j p d x:=by
 rcases h with h | ⟨sz,rfl,rfl⟩
 ·cases h with
  | int => exact .int _ _ _
  | bool => exact .bool _ _
  | str => exact .str _ _
  | _ => simp [D.scal] at hs
 ·simp [D.scal] at hs
theorem chkD_hd {q : Nat} {d : D} {x : Value} (h : chkD d x = true) : Hd w g q d x:=by
 unfold chkD at h
 split at h
 ·simp at h; obtain ⟨rfl,rfl⟩:=h; exact .inl (.int _ _ _)
 ·simp at h; subst h; exact .inl (.bool _ _)
 ·rename_i s s'
  simp at h
  obtain rfl : s = s':=ByteArray.ext h
  exact .inl (.str _ _)
 ·simp at h; obtain ⟨rfl,rfl⟩:=h; exact .inr ⟨_,rfl,rfl⟩
 ·cases h
theorem chkDs_get : ∀ (as : List D) (vs : List Value),chkDs as vs = true → as.length = vs.length ∧ ∀ (i : Nat) (b : D) (v : Value),as[i]? = some b → vs[i]? = some v → chkD b v = true:=by
 intro as
 induction as with
 | nil => intro vs h; cases vs <;> simp [chkDs] at h ⊢
 | cons b bs ih =>
  intro vs h
  cases vs with
  | nil => simp [chkDs] at h
  | cons v vs =>
   simp only [chkDs,Bool.and_eq_true] at h
   obtain ⟨h1,h2⟩:=ih vs h.2
   refine ⟨by simp [h1],fun i c x hc hx => ?_⟩
   cases i with
   | zero => simp at hc hx; subst hc; subst hx; exact h.1
   | succ i => exact h2 i c x (by simpa using hc) (by simpa using hx)
def Gh.newSl (g : Gh) (d b sz : Nat) (hdr : Value) (X : Nat → Value) : Gh where
 cl:=fun k => if k = b then .own (d + 1) 0 [] else match g.cl k with
  | .own 0 q ρ => .own (d + 1) 0 ((q / sz,q % sz) :: ρ)
  | c => c
 hd:=fun r j ρ => if r = d + 1 then (match ρ with
   | [] => hdr
   | (i,c) :: ρ' => if ρ' = [] then X (i * sz + c) else g.hd 0 (i * sz + c) ρ') else g.hd r j ρ
 bk:=g.bk
theorem NewR.newSl {w' : World} (hbd : ∀ b,g.cl b ≠ .no → b < w.heap.size) {d sz : Nat} {hdr : Value} {X : Nat → Value}
    (hp : ∀ b,b < w.heap.size → w'.heap[b]? = w.heap[b]?) (hs : w'.heap.size = w.heap.size + 1) (hsd : Same w w') : NewR d w w' g (g.newSl d w.heap.size sz hdr X):=by
  have hno : g.cl w.heap.size = .no:=by
    by_cases h : g.cl w.heap.size = .no
    · exact h
    · exact absurd (hbd _ h) (Nat.lt_irrefl _)
  have hne : ∀ b c,g.cl b = c → c ≠ .no → b ≠ w.heap.size:=fun b c h hc e => by subst e; rw [hno] at h; exact hc h.symm
  refine { hp:=fun b h _ => hp b h,hs:=by omega,kc:=fun b k => ?_,cl:=fun b n j ρ h hn => ?_,bx:=fun b n h hn => ?_,hd:=fun n j ρ hn => by simp [Gh.newSl,hn],
           bk:=fun n hn => rfl,bd:=fun b h => ?_,mi:=fun b hb h => ?_,sd:=hsd }
  · simp only [Gh.newSl]
    split
    · rename_i e; subst e; rw [hno]; cases k <;> simp [OM.kc]
    · cases h : g.cl b with
      | own r j ρ => cases r <;> cases k <;> simp [OM.kc]
      | _ => exact .rfl
  · simp [Gh.newSl,hne b _ h (by simp),h]
  · simp [Gh.newSl,hne b _ h (by simp),h]
  · by_cases e : b = w.heap.size
    · exact .inr ⟨by omega,by omega⟩
    · left
      intro h0
      simp [Gh.newSl,e,h0] at h
  · have e : b ≠ w.heap.size:=by omega
    simp only [Gh.newSl,if_neg e] at h
    cases h0 : g.cl b <;> rw [h0] at h <;> first | rfl | (simp [Cls.mine] at h)
theorem newSlice (R : Rel w0 cl0 S a.tmps w g) (hn : (S.ms d).1 = none) {w' : World} {sz cap : Nat} {es : List (List D)} {vals : Array Value} {E : TypeId}
  (hp : ∀ b,b < w.heap.size → w'.heap[b]? = w.heap[b]?) (hs : w'.heap.size = w.heap.size + 1) (hsd : Same w w') (hw' : w'.heap[w.heap.size]? = some (.cells vals E))
  (hl : ∀ e ∈ es,e.length = sz) (hcap : es.length ≤ cap) (hN : cap * sz ≤ vals.size)
  (hc : ∀ (i c : Nat) (e : List D) (d : D) (x : Value),es[i]? = some e → e[c]? = some d → vals[i * sz + c]? = some x → Hd w g (i * sz + c) d x) :
  Post w0 cl0 S a.tmps d (.pl d 0 []) (some (.vir [.own (.sl sz es)])) S.ms (.slice (some ⟨w.heap.size,0,none⟩) es.length cap) w':=by
 have H:=NewR.newSl (w:=w) (w':=w') (g:=g) R.bd (d:=d) (sz:=sz) (hdr:=.slice (some ⟨w.heap.size,0,none⟩) es.length cap) (X:=fun k => vals.getD k undef) hp hs hsd
 refine ⟨_,R.fresh hn H ?_ ?_,?_,?_⟩
 ·intro j c hj
  cases j with
  | succ j => simp at hj
  | zero =>
   simp at hj; subst hj
   refine .own _ _ ?_
   have hhd : (g.newSl d w.heap.size sz (.slice (some ⟨w.heap.size,0,none⟩) es.length cap) fun k => vals.getD k undef).hd (d + 1) 0 [] =
    .slice (some ⟨w.heap.size,0,none⟩) es.length cap:=by simp [Gh.newSl]
   rw [hhd]
   refine .sl _ _ _ w.heap.size 0 cap vals E hhd (by simp [Gh.newSl]) hl hcap hw' (by omega) (fun i c e dd x he hd hx => ?_)
   simp only [Nat.zero_add,List.nil_append] at hx ⊢
   have hcs : c < sz:=by have:=get_len hl he; have:=lt_of_get hd; omega
   have hdiv : (i * sz + c) / sz = i:=by
    rw [Nat.mul_comm,Nat.mul_add_div (by omega),Nat.div_eq_of_lt hcs]; rfl
   have hmod : (i * sz + c) % sz = c:=by
    rw [Nat.mul_comm,Nat.mul_add_mod,Nat.mod_eq_of_lt hcs]
   refine (hc i c e dd x he hd hx).place (fun b ρ hb => ?_) (fun ρ hρ => ?_) ?_
   ·have hlt:=R.bd b (by rw [hb]; simp)
    refine ⟨hp b hlt,?_⟩
    have : b ≠ w.heap.size:=by omega
    simp [Gh.newSl,this,hb,hdiv,hmod]
   ·simp [Gh.newSl,hρ]
   ·simp only [Gh.newSl,if_true,Array.getD_eq_getD_getElem?,hx,Option.getD_some]
 ·intro j r1 j1 hj
  cases j <;> simp [Rt.cells] at hj
 ·exact .pl _ _ _ _ _ _ fun _ => by simp [Gh.newSl]
 ·intro r hr; simp [AV.refs] at hr; subst hr; simp [upd]
end
end Go.Proofs.YtmlinnkaccgcgaaGreat.OM
