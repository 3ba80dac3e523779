/- The own machine: the relation of states, and taking owned data out of its place. -/
import Derived.Test.YtmlinnkaccgcgaaGreatOMLem
set_option linter.all false
namespace Go.Proofs.YtmlinnkaccgcgaaGreat.OM
structure Ini where
 g : Gh
 io : List Nat
instance : CoeFun Ini (fun _ => Nat → Cls):=⟨fun I => I.g.cl⟩
def Pin (I : Ini) (i : Nat) (rt : Option Rt) (g : Gh) : Prop :=
 match rt with
 | some (.vir _) => ∀ j,g.hd (i + 1) j [] = I.g.hd (i + 1) j []
 | some (.bx _) => g.bk i = I.g.bk i
 | none => False
structure Rel (w0 : World) (cl0 : Ini) (S : St) (ts : Array Value) (w : World) (g : Gh) : Prop where
 av : ∀ n,RA w g S.ms (S.av n) (ts.getD n undef)
 rt : ∀ n rt,(S.ms n).1 = some rt → RtOk w g n rt
 rfs : ∀ n r,r ∈ (S.av n).refs → ((S.ms r).1).isSome
 rfc : ∀ (n : Nat) (rt : Rt) (j r j' : Nat),(S.ms n).1 = some rt → rt.cells[j]? = some (C.rf r j') → ∃ cs,(S.ms r).1 = some (.vir cs)
 bd : ∀ b,g.cl b ≠ .no → b < w.heap.size
 sz : w0.heap.size ≤ w.heap.size
 fr : ∀ b,b < w0.heap.size → (cl0 b).mine = false → w.heap[b]? = w0.heap[b]?
 im : ∀ b k,g.cl b = kc k ↔ cl0 b = kc k
 mi : ∀ b,b < w0.heap.size → (g.cl b).mine = true → (cl0 b).mine = true
 sd : Same w0 w
 pin : ∀ i ∈ cl0.io,Pin cl0 i (S.ms i).1 g
theorem mem_refsL {as : List AV} {i : Nat} {a : AV} {r : Nat} (h : as[i]? = some a) (hr : r ∈ a.refs) : r ∈ AV.refsL as:=by
 induction as generalizing i with
 | nil => simp at h
 | cons b as ih =>
  simp only [AV.refsL,List.mem_append]
  cases i with
  | zero => simp at h; subst h; exact .inl hr
  | succ i => simp at h; exact .inr (ih h)
theorem RA.mono {w w' : World} {g g' : Gh} {m m' : Ms} {a : AV} {x : Value} (h : RA w g m a x)
  (hb : ∀ b k,g.cl b = kc k → w'.heap[b]? = w.heap[b]? ∧ g'.cl b = kc k) :
  (∀ r ∈ a.refs,g'.bk r = g.bk r ∧ ∀ j p,m'.killed r j p = false → m.killed r j p = false ∧ g'.hd (r + 1) j p = g.hd (r + 1) j p) →
  RA w' g' m' a x:=by
 induction h with
 | un => exact fun _ => .un _
 | v k d x h => exact fun _ => .v k d x (h.mono fun b hc => hb b k hc)
 | nl => exact fun _ => .nl _
 | agg cs vs hl _ ih => exact fun hr => .agg cs vs hl fun i a x ha hx => ih i a x ha hx fun r h => hr r (by simpa [AV.refs] using mem_refsL ha h)
 | tup cs vs hl _ ih => exact fun hr => .tup cs vs hl fun i a x ha hx => ih i a x ha hx fun r h => hr r (by simpa [AV.refs] using mem_refsL ha h)
 | pl r j p b n c h => exact fun hr => .pl r j p b n c fun hk => (by
   have:=(hr r (by simp [AV.refs])).2 j p hk; rw [this.2]; exact h this.1)
 | rg r j p sz lo hi b n c h => exact fun hr => .rg r j p sz lo hi b n c fun hk => (by
   have:=(hr r (by simp [AV.refs])).2 j p hk; rw [this.2]; exact h this.1)
 | bx r j => exact fun hr => (by
   have:=(hr r (by simp [AV.refs])).1; rw [← this]; exact .bx r j)
 | ad r j p sz i c b o h => exact fun hr => .ad r j p sz i c b o fun hk => (by
   have:=(hr r (by simp [AV.refs])).2 j p hk; rw [this.2]; exact h this.1)
 | ra k sz es i c b off cap h hi => exact fun _ => .ra k sz es i c b off cap (h.mono fun b hc => hb b k hc) hi
 | fv f r => exact fun hr => (by
   have:=(hr r (by simp [AV.refs])).1; rw [← this]; exact .fv f r)
theorem RC.mono {w w' : World} {g g' : Gh} {r j r' j' : Nat} {c : C} {x : Value} (h : RC w g r j c x)
  (hb : ∀ b k,g.cl b = kc k → w'.heap[b]? = w.heap[b]? ∧ g'.cl b = kc k)
  (h1 : ∀ b ρ,g.cl b = .own r j ρ → w'.heap[b]? = w.heap[b]? ∧ g'.cl b = .own r' j' ρ)
  (h2 : ∀ ρ,g'.hd r' j' ρ = g.hd r j ρ) (h3 : ∀ r1 j1,c = C.rf r1 j1 → g'.hd (r1 + 1) j1 [] = g.hd (r1 + 1) j1 []) :
  RC w' g' r' j' c x:=by
 cases h with
 | ro k d _ h => exact .ro k d _ (h.mono fun b hc => hb b k hc)
 | own d _ h => exact .own d _ (h.mono (q':=[]) (by simpa using h1) (by simpa using h2))
 | rf r1 j1 b n c hh => exact .rf r1 j1 b n c (by rw [h3 r1 j1 rfl]; exact hh)
theorem RtOk.mono {w w' : World} {g g' : Gh} {n : Nat} {rt : Rt} (h : RtOk w g n rt)
  (hb : ∀ b k,g.cl b = kc k → w'.heap[b]? = w.heap[b]? ∧ g'.cl b = kc k)
  (h1 : ∀ b j ρ,g.cl b = .own (n + 1) j ρ → w'.heap[b]? = w.heap[b]? ∧ g'.cl b = .own (n + 1) j ρ)
  (hx : ∀ cs,rt = .bx cs → g'.bk n = g.bk n ∧ w'.heap[g.bk n]? = w.heap[g.bk n]? ∧ g'.cl (g.bk n) = g.cl (g.bk n))
  (h2 : ∀ j ρ,g'.hd (n + 1) j ρ = g.hd (n + 1) j ρ)
  (h3 : ∀ (j r1 j1 : Nat),rt.cells[j]? = some (C.rf r1 j1) → g'.hd (r1 + 1) j1 [] = g.hd (r1 + 1) j1 []) : RtOk w' g' n rt:=by
 cases rt with
 | vir cs =>
  intro j c hc
  rw [h2]
  exact (h j c hc).mono hb (fun b ρ => h1 b j ρ) (fun ρ => h2 j ρ) (fun r1 j1 e => h3 j r1 j1 (by subst e; exact hc))
 | bx cs =>
  obtain ⟨hk,hw,hc⟩:=hx cs rfl
  obtain ⟨h4,vals,E,h5,h6,h7⟩:=h
  refine ⟨by rw [hk,hc]; exact h4,vals,E,by rw [hk,hw]; exact h5,h6,fun j c x h8 h9 => ?_⟩
  exact (h7 j c x h8 h9).mono hb (fun b ρ => h1 b j ρ) (fun ρ => h2 j ρ) (fun r1 j1 e => h3 j r1 j1 (by subst e; exact h8))
def Gh.tk (g : Gh) (r j : Nat) (p : Pth) (q : Nat) (v : Value) : Gh where
 cl:=fun b => match g.cl b with
  | .own r1 j1 ρ => if r1 = r + 1 ∧ j1 = j ∧ p <+: ρ then .own 0 q (ρ.drop p.length) else .own r1 j1 ρ
  | c => c
 hd:=fun r1 j1 ρ => if r1 = 0 ∧ j1 = q then (if ρ = [] then v else g.hd (r + 1) j (p ++ ρ)) else g.hd r1 j1 ρ
 bk:=g.bk
theorem Gh.tk_kc {g : Gh} {r j : Nat} {p : Pth} {q : Nat} {v : Value} {b : Nat} {k : Bool} : (g.tk r j p q v).cl b = kc k ↔ g.cl b = kc k:=by
 simp only [Gh.tk,kc]
 cases h : g.cl b <;> simp
 split <;> cases k <;> simp
theorem kc_own {k : Bool} {r j : Nat} {p : Pth} : kc k ≠ .own r j p:=by cases k <;> simp [kc]
theorem Gh.tk_mine {g : Gh} {r j : Nat} {p : Pth} {q : Nat} {v : Value} {b : Nat} : ((g.tk r j p q v).cl b).mine = (g.cl b).mine:=by
 simp only [Gh.tk]
 cases h : g.cl b <;> simp only []
 split <;> rfl
theorem Gh.tk_no {g : Gh} {r j : Nat} {p : Pth} {q : Nat} {v : Value} {b : Nat} : (g.tk r j p q v).cl b = .no ↔ g.cl b = .no:=by
 simp only [Gh.tk]
 cases h : g.cl b <;> simp
 split <;> simp
theorem Gh.tk_other {g : Gh} {r j : Nat} {p : Pth} {q : Nat} {v : Value} {b r1 j1 : Nat} {ρ : Pth} (h : g.cl b = .own r1 j1 ρ)
  (hn : ¬ (r1 = r + 1 ∧ j1 = j ∧ p <+: ρ)) : (g.tk r j p q v).cl b = .own r1 j1 ρ:=by
 simp only [Gh.tk,h,if_neg hn]
theorem killed_upd {m : Ms} {r : Nat} {c : Option Rt} {kl : List (Nat × Pth)} {r1 j : Nat} {p : Pth}
  (h : Ms.killed (upd m r (c,kl ++ (m r).2)) r1 j p = false) : m.killed r1 j p = false:=by
 simp only [Ms.killed,upd] at h ⊢
 split at h
 ·rename_i e; subst e; simp [List.any_append] at h; simp; exact fun a b hab => h.2 a b hab
 ·exact h
theorem cells_setc {rt : Rt} {j : Nat} {c : C} : (rt.setc j c).cells = rt.cells.set j c:=by cases rt <;> rfl
theorem RtOk.put {w w' : World} {g g' : Gh} {n : Nat} {rt : Rt} {j : Nat} {p : Pth} {d0 old y : D} (h : RtOk w g n rt)
  (hc : rt.cells[j]? = some (.own d0)) (hd : d0.dig p = some old)
  (hb : ∀ b k,g.cl b = kc k → w'.heap[b]? = w.heap[b]? ∧ g'.cl b = kc k)
  (h1 : ∀ b j1 ρ,g.cl b = .own (n + 1) j1 ρ → ¬ (j1 = j ∧ p <+: ρ) → w'.heap[b]? = w.heap[b]? ∧ g'.cl b = .own (n + 1) j1 ρ)
  (hx : ∀ cs,rt = .bx cs → g'.bk n = g.bk n ∧ w'.heap[g.bk n]? = w.heap[g.bk n]? ∧ g'.cl (g.bk n) = g.cl (g.bk n))
  (h2 : ∀ j1 ρ,¬ (j1 = j ∧ p <+: ρ) → g'.hd (n + 1) j1 ρ = g.hd (n + 1) j1 ρ)
  (h2v : ∀ cs,rt = .vir cs → g'.hd (n + 1) j [] = g.hd (n + 1) j [])
  (h3 : ∀ (j r1 j1 : Nat),rt.cells[j]? = some (C.rf r1 j1) → g'.hd (r1 + 1) j1 [] = g.hd (r1 + 1) j1 [])
  (hn : ∀ x,OW w g (n + 1) j p old x → OW w' g' (n + 1) j p y x) : RtOk w' g' n (rt.setc j (.own (d0.put p y))):=by
 have key : ∀ x,RC w g (n + 1) j (.own d0) x → RC w' g' (n + 1) j (.own (d0.put p y)) x:=by
  intro x hx
  cases hx with
  | own d v ho =>
   refine .own _ _ (OW.put p ho hd (fun b ρ h4 h5 => h1 b j ρ h4 (by simpa using h5)) (fun ρ h5 => h2 j ρ (by simpa using h5)) (by simpa using hn))
 cases rt with
 | vir cs =>
  intro j1 c hc1
  simp only [Rt.cells] at hc h3
  by_cases e : j1 = j
  ·subst e
   rw [List.getElem?_set_self (lt_of_get hc)] at hc1
   cases hc1
   rw [h2v cs rfl]
   exact key _ (h j1 _ hc)
  ·rw [List.getElem?_set_ne (by omega)] at hc1
   rw [h2 j1 [] (by simp [e])]
   exact (h j1 c hc1).mono hb (fun b ρ h4 => h1 b j1 ρ h4 (by simp [e])) (fun ρ => h2 j1 ρ (by simp [e])) (fun r1 j2 e2 => h3 j1 r1 j2 (by subst e2; exact hc1))
 | bx cs =>
  obtain ⟨hk,hw,hcb⟩:=hx cs rfl
  obtain ⟨h4,vals,E,h5,h6,h7⟩:=h
  simp only [Rt.cells] at hc h3
  refine ⟨by rw [hk,hcb]; exact h4,vals,E,by rw [hk,hw]; exact h5,by simpa using h6,fun j1 c x h8 h9 => ?_⟩
  by_cases e : j1 = j
  ·subst e
   rw [List.getElem?_set_self (lt_of_get hc)] at h8
   cases h8
   exact key _ (h7 j1 _ x hc h9)
  ·rw [List.getElem?_set_ne (by omega)] at h8
   exact (h7 j1 c x h8 h9).mono hb (fun b ρ h4 => h1 b j1 ρ h4 (by simp [e])) (fun ρ => h2 j1 ρ (by simp [e])) (fun r1 j2 e2 => h3 j1 r1 j2 (by subst e2; exact h8))
theorem at_some {m : Ms} {r j : Nat} {p : Pth} {d : D} (h : m.at r j p = some d) :
  m.killed r j p = false ∧ ∃ rt d0,(m r).1 = some rt ∧ rt.cells[j]? = some (.own d0) ∧ d0.dig p = some d:=by
 simp only [Ms.at,Ms.cell] at h
 split at h
 ·simp at h
 ·rename_i hk
  refine ⟨by simpa using hk,?_⟩
  cases hm : (m r).1 with
  | none => simp [hm] at h
  | some rt =>
   simp only [hm] at h
   cases hc : rt.cells[j]? with
   | none => simp [hc] at h
   | some c =>
    cases c with
    | own d0 => simp only [hc] at h; exact ⟨rt,d0,rfl,hc,h⟩
    | _ => simp [hc] at h
theorem Rel.at {w0 : World} {cl0 : Ini} {S : St} {ts : Array Value} {w : World} {g : Gh} (R : Rel w0 cl0 S ts w g)
  {r j : Nat} {p : Pth} {d : D} (h : S.ms.at r j p = some d) : ∃ x,OW w g (r + 1) j p d x:=by
 obtain ⟨_,rt,d0,h1,h2,h3⟩:=at_some h
 have h4:=R.rt r rt h1
 cases rt with
 | vir cs =>
  have:=h4 j _ h2
  generalize g.hd (r + 1) j [] = v at this
  cases this with
  | own _ _ ho => simpa using ho.dig p h3
 | bx cs =>
  obtain ⟨_,vals,E,_,h6,h7⟩:=h4
  have hlt : j < vals.size:=by rw [h6]; exact lt_of_get h2
  have:=h7 j _ vals[j] h2 (by simp [hlt])
  cases this with
  | own _ _ ho => simpa using ho.dig p h3
end Go.Proofs.YtmlinnkaccgcgaaGreat.OM
