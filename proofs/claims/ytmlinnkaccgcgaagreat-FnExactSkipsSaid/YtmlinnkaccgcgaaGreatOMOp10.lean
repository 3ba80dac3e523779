/- The own machine: append. -/
import Derived.Test.YtmlinnkaccgcgaaGreatOMOp9
set_option linter.all false
namespace Go.Proofs.YtmlinnkaccgcgaaGreat.OM
section
variable {P : Program} {κ : Nat → FuncId} {w0 : World} {cl0 : Ini} {S : St} {w : World} {g : Gh} {a : Act} {Γ : Env} {d : Nat}
def Gh.ap (g : Gh) (d b n : Nat) (hdr : Value) : Gh where
 cl:=fun k => if k = b then .own (d + 1) 0 [] else match g.cl k with
  | .own 0 0 ρ => .own (d + 1) 0 ρ
  | .own 0 1 ((i,c) :: ρ) => .own (d + 1) 0 ((n + i,c) :: ρ)
  | c => c
 hd:=fun r j ρ => if r = d + 1 then (match ρ with
   | [] => hdr
   | (i,c) :: ρ' => if i < n then g.hd 0 0 ((i,c) :: ρ') else g.hd 0 1 ((i - n,c) :: ρ')) else g.hd r j ρ
 bk:=g.bk
theorem ap_cases (c : Cls) : (∃ ρ,c = .own 0 0 ρ) ∨ (∃ i j ρ,c = .own 0 1 ((i,j) :: ρ)) ∨ ((∀ ρ,c ≠ .own 0 0 ρ) ∧ ∀ i j ρ,c ≠ .own 0 1 ((i,j) :: ρ)):=by
 cases c with
 | own r j ρ =>
  by_cases h : r = 0 ∧ j = 0
  ·obtain ⟨rfl,rfl⟩:=h; exact .inl ⟨ρ,rfl⟩
  ·by_cases h2 : r = 0 ∧ j = 1 ∧ ρ ≠ []
   ·obtain ⟨rfl,rfl,h3⟩:=h2
    cases ρ with
    | nil => exact absurd rfl h3
    | cons s ρ => exact .inr (.inl ⟨s.1,s.2,ρ,rfl⟩)
   ·refine .inr (.inr ⟨fun ρ' e => ?_,fun i j' ρ' e => ?_⟩)
    ·simp at e; exact h ⟨e.1,e.2.1⟩
    ·simp at e; exact h2 ⟨e.1,e.2.1,by rw [e.2.2]; simp⟩
 | _ => exact .inr (.inr ⟨by simp,by simp⟩)
theorem Gh.ap_other {d b n k : Nat} {hdr : Value} (hk : k ≠ b) (h1 : ∀ ρ,g.cl k ≠ .own 0 0 ρ) (h2 : ∀ i j ρ,g.cl k ≠ .own 0 1 ((i,j) :: ρ)) : (g.ap d b n hdr).cl k = g.cl k:=by
 simp only [Gh.ap,if_neg hk]
theorem NewR.ap {w' : World} (hbd : ∀ b,g.cl b ≠ .no → b < w.heap.size) {d b n : Nat} {hdr : Value} (hb : (g.cl b = .own 0 0 []) ∨ (w.heap.size ≤ b ∧ b < w'.heap.size))
    (hp : ∀ k,k < w.heap.size → k ≠ b → w'.heap[k]? = w.heap[k]?) (hs : w.heap.size ≤ w'.heap.size) (hsd : Same w w') : NewR d w w' g (g.ap d b n hdr):=by
  have hbk : ∀ k c,g.cl k = c → (c ≠ .no ∧ c ≠ .own 0 0 []) → k ≠ b:=by
    intro k c h hc e
    subst e
    rcases hb with hb | hb
    · rw [hb] at h; exact hc.2 h.symm
    · have:=hbd k (by rw [h]; exact hc.1); omega
  refine { hp:=fun k hk h0 => hp k hk (fun e => ?_),hs:=hs,kc:=fun k kk => ?_,cl:=fun k n' j ρ h hn => ?_,bx:=fun k n' h hn => ?_,hd:=fun n' j ρ hn => by simp [Gh.ap,hn],
           bk:=fun n' hn => rfl,bd:=fun k h => ?_,mi:=fun k hk h => ?_,sd:=hsd }
  · subst e
    rcases hb with hb | hb
    · exact h0 _ _ hb
    · omega
  · by_cases e : k = b
    · subst e
      have h1 : (g.ap d k n hdr).cl k = .own (d + 1) 0 []:=by simp [Gh.ap]
      rw [h1]
      rcases hb with hb | hb
      · rw [hb]; cases kk <;> simp [OM.kc]
      · have : g.cl k = .no:=by
          by_cases h : g.cl k = .no
          · exact h
          · have:=hbd k h; omega
        rw [this]; cases kk <;> simp [OM.kc]
    · rcases ap_cases (g.cl k) with ⟨ρ,h⟩ | ⟨i,j,ρ,h⟩ | ⟨h1,h2⟩
      · simp only [Gh.ap,if_neg e,h]; cases kk <;> simp [OM.kc]
      · simp only [Gh.ap,if_neg e,h]; cases kk <;> simp [OM.kc]
      · rw [Gh.ap_other e h1 h2]
  · rw [Gh.ap_other (hbk k _ h ⟨by simp,by simp⟩) (by rw [h]; simp) (by rw [h]; simp),h]
  · rw [Gh.ap_other (hbk k _ h ⟨by simp,by simp⟩) (by rw [h]; simp) (by rw [h]; simp),h]
  · by_cases e : k = b
    · subst e
      rcases hb with hb | hb
      · left; rw [hb]; simp
      · exact .inr hb
    · left
      intro h0
      rw [Gh.ap_other e (by rw [h0]; simp) (by rw [h0]; simp)] at h
      exact h h0
  · by_cases e : k = b
    · subst e
      rcases hb with hb | hb
      · rw [hb]; rfl
      · omega
    · rcases ap_cases (g.cl k) with ⟨ρ,h1⟩ | ⟨i,j,ρ,h1⟩ | ⟨h1,h2⟩
      · rw [h1]; rfl
      · rw [h1]; rfl
      · rwa [Gh.ap_other e h1 h2] at h
theorem appRoot (R : Rel w0 cl0 S a.tmps w g) (hn : (S.ms d).1 = none) {w' : World} {sz b off cap : Nat} {es ys : List (List D)} {vals : Array Value} {E : TypeId}
  (hb : (g.cl b = .own 0 0 []) ∨ (w.heap.size ≤ b ∧ b < w'.heap.size)) (hp : ∀ k,k < w.heap.size → k ≠ b → w'.heap[k]? = w.heap[k]?) (hs : w.heap.size ≤ w'.heap.size) (hsd : Same w w')
  (hw' : w'.heap[b]? = some (.cells vals E)) (hl : ∀ e ∈ es ++ ys,e.length = sz) (hcap : (es ++ ys).length ≤ cap) (hN : off + cap * sz ≤ vals.size)
  (hce : ∀ (i c : Nat) (e : List D) (d : D) (x : Value),es[i]? = some e → e[c]? = some d → vals[off + i * sz + c]? = some x → OW w g 0 0 [(i,c)] d x)
  (hcy : ∀ (i c : Nat) (e : List D) (d : D) (x : Value),ys[i]? = some e → e[c]? = some d → vals[off + (es.length + i) * sz + c]? = some x → d.scal = true ∧ OW w g 0 1 [(i,c)] d x ∨ OW w g 0 1 [(i,c)] d x) :
  Post w0 cl0 S a.tmps d (.pl d 0 []) (some (.vir [.own (.sl sz (es ++ ys))])) S.ms (.slice (some ⟨b,off,none⟩) (es ++ ys).length cap) w':=by
 have H:=NewR.ap (w:=w) (w':=w') (g:=g) R.bd (d:=d) (b:=b) (n:=es.length) (hdr:=.slice (some ⟨b,off,none⟩) (es ++ ys).length cap) hb hp hs hsd
 have hbk : ∀ k c,g.cl k = c → (c ≠ .no ∧ c ≠ .own 0 0 []) → k ≠ b:=by
  intro k c h hc e
  subst e
  rcases hb with hb | hb
  ·rw [hb] at h; exact hc.2 h.symm
  ·have:=R.bd k (by rw [h]; exact hc.1); omega
 refine ⟨_,R.fresh hn H ?_ ?_,?_,?_⟩
 ·intro j c hj
  cases j with
  | succ j => simp at hj
  | zero =>
   simp at hj; subst hj
   refine .own _ _ ?_
   have hhd : (g.ap d b es.length (.slice (some ⟨b,off,none⟩) (es ++ ys).length cap)).hd (d + 1) 0 [] = .slice (some ⟨b,off,none⟩) (es ++ ys).length cap:=by simp [Gh.ap]
   rw [hhd]
   refine .sl _ _ _ b off cap vals E hhd (by simp [Gh.ap]) hl hcap hw' hN (fun i c e dd x he hd hx => ?_)
   simp only [List.nil_append]
   by_cases hi : i < es.length
   ·rw [List.getElem?_append_left hi] at he
    refine (hce i c e dd x he hd hx).mono (fun k ρ hk => ?_) (fun ρ => ?_)
    ·have hkb:=hbk k _ hk ⟨by simp,by simp⟩
     have hlt:=R.bd k (by rw [hk]; simp)
     exact ⟨hp k hlt hkb,by simp [Gh.ap,hkb,hk]⟩
    ·simp [Gh.ap,hi]
   ·rw [List.getElem?_append_right (by omega)] at he
    have:=hcy (i - es.length) c e dd x he hd (by rwa [show es.length + (i - es.length) = i from by omega])
    have how : OW w g 0 1 [(i - es.length,c)] dd x:=by rcases this with h | h; exact h.2; exact h
    refine how.mono (fun k ρ hk => ?_) (fun ρ => ?_)
    ·have hkb:=hbk k _ hk ⟨by simp,by simp⟩
     have hlt:=R.bd k (by rw [hk]; simp)
     refine ⟨hp k hlt hkb,?_⟩
     have : g.cl k = .own 0 1 ((i - es.length,c) :: ρ):=by simpa using hk
     simp only [Gh.ap,if_neg hkb,this]
     simp; omega
    ·simp [Gh.ap,hi]
 ·intro j r1 j1 hj
  cases j <;> simp [Rt.cells] at hj
 ·exact .pl _ _ _ _ _ _ fun _ => by simp [Gh.ap]
 ·intro r hr; simp [AV.refs] at hr; subst hr; simp [upd]
theorem els_news (R : Rel w0 cl0 S a.tmps w g) {y : AV} {v : Value} (ha : RA w g S.ms y v) {sz : Nat} {ys : List (List D)} (h : S.ms.els y = some (sz,ys)) (hf : flatD ys = true) (hsz : 0 < sz) (g2 : Gh) :
  ∃ (b : Option Addr) (cap : Nat) (news : List Value),v = .slice b ys.length cap ∧ (∀ e ∈ ys,e.length = sz) ∧ news.length = ys.length * sz ∧
   (∀ w1 : World,w1.heap = w.heap → (Builtin.firstCells sz ys.length v).run P w1 = .ok news.toArray w1) ∧ (∀ x ∈ news,x.oneCell' = true) ∧
   ∀ (i c : Nat) (e : List D) (d : D) (x : Value),ys[i]? = some e → e[c]? = some d → news[i * sz + c]? = some x → OW w g2 0 1 [(i,c)] d x:=by
 obtain ⟨b,cap,hv,_,hcells⟩:=els_ok R ha h
 by_cases hne : ys = []
 ·subst hne
  refine ⟨b,cap,[],hv,by simp,by simp,fun w1 _ => ?_,by simp,by simp⟩
  subst hv
  cases b with
  | none => simp [Builtin.firstCells]
  | some a => simp [Builtin.firstCells,loadCells,loadCellsFrom]
 ·obtain ⟨b',o,rfl,hcap,hl,hcell⟩:=hcells hne
  have hscal : ∀ (i c : Nat) (e : List D) (d : D),ys[i]? = some e → e[c]? = some d → d.scal = true:=by
   intro i c e d he hd
   have:=List.all_eq_true.1 hf e (List.mem_of_getElem? he)
   exact List.all_eq_true.1 this d (List.mem_of_getElem? hd)
  have hval : ∀ k,k < ys.length * sz → ∃ x,w.cell? ⟨b',o + k,none⟩ = some x ∧ ∀ (e : List D) (d : D),ys[k / sz]? = some e → e[k % sz]? = some d → ((∃ kk,RO w g.cl kk d x) ∨ ∃ r j p,OW w g r j p d x):=by
   intro k hk
   have hi : k / sz < ys.length:=Nat.div_lt_of_lt_mul (by rw [Nat.mul_comm]; exact hk)
   have hc : k % sz < sz:=Nat.mod_lt _ hsz
   have he : ys[k / sz]? = some ys[k / sz]:=by simp [hi]
   have hel:=hl _ (List.mem_of_getElem? he)
   have hd : (ys[k / sz])[k % sz]? = some (ys[k / sz])[k % sz]:=by simp [hel,hc]
   obtain ⟨x,hx,hx2⟩:=hcell _ _ _ _ he hd
   have hk2 : o + k / sz * sz + k % sz = o + k:=by have:=Nat.div_add_mod k sz; rw [Nat.mul_comm] at this; omega
   rw [hk2] at hx
   refine ⟨x,hx,fun e d he' hd' => ?_⟩
   rw [he] at he'; cases he'
   rw [hd] at hd'; cases hd'
   exact hx2
  have hsc : ∀ (d : D) (x : Value),d.scal = true → ((∃ kk,RO w g.cl kk d x) ∨ ∃ r j p,OW w g r j p d x) → x.oneCell' = true ∧ ∀ p,OW w g2 0 1 p d x:=by
   intro d x hs hx
   rcases hx with ⟨kk,hx⟩ | ⟨_,_,_,hx⟩
   ·cases hx with
    | int => exact ⟨rfl,fun p => .int _ _ _⟩
    | bool => exact ⟨rfl,fun p => .bool _ _⟩
    | str => exact ⟨rfl,fun p => .str _ _⟩
    | _ => simp [D.scal] at hs
   ·cases hx with
    | int => exact ⟨rfl,fun p => .int _ _ _⟩
    | bool => exact ⟨rfl,fun p => .bool _ _⟩
    | str => exact ⟨rfl,fun p => .str _ _⟩
    | _ => simp [D.scal] at hs
  have hnews : ∀ (k : Nat) (x : Value),((List.range (ys.length * sz)).map fun k => (w.cell? ⟨b',o + k,none⟩).getD undef)[k]? = some x → k < ys.length * sz ∧ w.cell? ⟨b',o + k,none⟩ = some x:=by
   intro k x hx
   simp only [List.getElem?_map,Option.map_eq_some_iff] at hx
   obtain ⟨k',hk',rfl⟩:=hx
   have hlt:=lt_of_get hk'
   simp at hlt
   rw [List.getElem?_range hlt] at hk'
   cases hk'
   obtain ⟨x,hx,_⟩:=hval k hlt
   exact ⟨hlt,by rw [hx]; rfl⟩
  refine ⟨_,cap,(List.range (ys.length * sz)).map fun k => (w.cell? ⟨b',o + k,none⟩).getD undef,hv,hl,by simp,fun w1 hw1 => ?_,fun x hx => ?_,fun i c e d x he hd hx => ?_⟩
  ·subst hv
   simp only [Builtin.firstCells]
   refine loadCells_run P (by simp) (fun k x hx => ?_)
   have:=(hnews k x hx).2
   simpa [World.cell?,hw1] using this
  ·obtain ⟨k,hk⟩:=List.mem_iff_getElem?.1 hx
   obtain ⟨hlt,hc⟩:=hnews k x hk
   obtain ⟨x',hx',hx2⟩:=hval k hlt
   rw [hc] at hx'; cases hx'
   have hi : k / sz < ys.length:=Nat.div_lt_of_lt_mul (by rw [Nat.mul_comm]; exact hlt)
   have hcc : k % sz < sz:=Nat.mod_lt _ hsz
   have he : ys[k / sz]? = some ys[k / sz]:=by simp [hi]
   have hel:=hl _ (List.mem_of_getElem? he)
   have hd : (ys[k / sz])[k % sz]? = some (ys[k / sz])[k % sz]:=by simp [hel,hcc]
   exact (hsc _ x (hscal _ _ _ _ he hd) (hx2 _ _ he hd)).1
  ·obtain ⟨hlt,hc⟩:=hnews _ x hx
   obtain ⟨x',hx',hx2⟩:=hcell i c e d he hd
   rw [Nat.add_assoc,hc] at hx'; cases hx'
   exact (hsc d x (hscal i c e d he hd) hx2).2 _
theorem own_news {w : World} {g : Gh} {sz : Nat} {ys : List (List D)} {v : Value} (h : OW w g 0 1 [] (.sl sz ys) v) (hlive : ys.all (fun e => e.all D.live) = true) :
  ∃ (b : Option Addr) (cap : Nat) (news : List Value),v = .slice b ys.length cap ∧ (∀ e ∈ ys,e.length = sz) ∧ news.length = ys.length * sz ∧
   (∀ w1 : World,w1.heap = w.heap → (Builtin.firstCells sz ys.length v).run P w1 = .ok news.toArray w1) ∧ (∀ x ∈ news,x.oneCell' = true ∨ sz = 0) ∧
   ∀ (i c : Nat) (e : List D) (d : D) (x : Value),ys[i]? = some e → e[c]? = some d → news[i * sz + c]? = some x → OW w g 0 1 [(i,c)] d x:=by
 cases h with
 | nil => exact ⟨none,0,[],rfl,by simp,by simp,fun w1 _ => by simp [Builtin.firstCells],by simp,by simp⟩
 | sl _ _ _ b off cap vals E hh hcl hl hcap hw hN hk =>
  have hle : ys.length * sz ≤ cap * sz:=Nat.mul_le_mul_right _ hcap
  have hget : ∀ (k : Nat) (x : Value),((vals.toList.drop off).take (ys.length * sz))[k]? = some x → k < ys.length * sz ∧ vals[off + k]? = some x:=by
   intro k x hx
   rw [List.getElem?_take] at hx
   split at hx
   ·rename_i hlt; exact ⟨hlt,by simpa using hx⟩
   ·cases hx
  refine ⟨_,cap,(vals.toList.drop off).take (ys.length * sz),rfl,hl,by simp; omega,fun w1 hw1 => ?_,fun x hx => ?_,fun i c e d x he hd hx => ?_⟩
  ·simp only [Builtin.firstCells]
   refine loadCells_run P (by simp; omega) (fun k x hx => ?_)
   rw [cell_cells (vals:=vals) (E:=E) (fz:=(0,0)) (by rw [hw1]; exact hw)]
   exact (hget k x hx).2
  ·by_cases hsz : sz = 0
   ·exact .inr hsz
   ·left
    obtain ⟨k,hkk⟩:=List.mem_iff_getElem?.1 hx
    obtain ⟨hlt,hc⟩:=hget k x hkk
    have hi : k / sz < ys.length:=Nat.div_lt_of_lt_mul (by rw [Nat.mul_comm]; exact hlt)
    have hcc : k % sz < sz:=Nat.mod_lt _ (Nat.pos_of_ne_zero hsz)
    have he : ys[k / sz]? = some ys[k / sz]:=by simp [hi]
    have hel:=hl _ (List.mem_of_getElem? he)
    have hd : (ys[k / sz])[k % sz]? = some (ys[k / sz])[k % sz]:=by simp [hel,hcc]
    have hk2 : off + k / sz * sz + k % sz = off + k:=by have:=Nat.div_add_mod k sz; rw [Nat.mul_comm] at this; omega
    have ho:=hk _ _ _ _ x he hd (by rw [hk2]; exact hc)
    have hlv : ((ys[k / sz])[k % sz]).live = true:=by
     have:=List.all_eq_true.1 hlive _ (List.mem_of_getElem? he)
     exact List.all_eq_true.1 this _ (List.mem_of_getElem? hd)
    generalize (ys[k / sz])[k % sz] = dd at ho hlv
    cases ho <;> first | rfl | simp [D.live] at hlv
  ·obtain ⟨_,hc⟩:=hget _ x hx
   exact hk i c e d x he hd (by rw [Nat.add_assoc]; exact hc)
end
end Go.Proofs.YtmlinnkaccgcgaaGreat.OM
