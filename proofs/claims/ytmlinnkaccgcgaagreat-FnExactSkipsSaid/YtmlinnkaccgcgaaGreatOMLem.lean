/- The own machine: carrying readings from world to world, taking, putting. -/
import Derived.Test.YtmlinnkaccgcgaaGreatOMRel
set_option linter.all false
namespace Go.Proofs.YtmlinnkaccgcgaaGreat.OM
theorem cell_of {w w' : World} {b : Nat} (h : w'.heap[b]? = w.heap[b]?) (o : Nat) (s : Option Nat) : w'.cell? ⟨b,o,s⟩ = w.cell? ⟨b,o,s⟩:=by
 simp [World.cell?,h]
theorem cell_cells {w : World} {b o : Nat} {vals : Array Value} {E : TypeId} {fz : Nat × Nat} (h : w.heap[b]? = some (.cells vals E fz)) :
  w.cell? ⟨b,o,none⟩ = vals[o]?:=by simp [World.cell?,h]
theorem idx_lt {i n sz j off cap N : Nat} (hi : i < n) (hj : j < sz) (hc : n ≤ cap) (hN : off + cap * sz ≤ N) : off + i * sz + j < N:=by
 have h1 : (i + 1) * sz ≤ cap * sz:=Nat.mul_le_mul_right sz (by omega)
 rw [Nat.succ_mul] at h1
 omega
theorem get_len {es : List (List D)} {i sz : Nat} {e : List D} (h : ∀ e ∈ es,e.length = sz) (he : es[i]? = some e) : e.length = sz :=
 h e (List.mem_of_getElem? he)
theorem lt_of_get {α : Type} {l : List α} {i : Nat} {x : α} (h : l[i]? = some x) : i < l.length:=by
 rcases Nat.lt_or_ge i l.length with hl | hl
 ·exact hl
 ·simp [List.getElem?_eq_none hl] at h
theorem RO.mono {w w' : World} {cl cl' : Nat → Cls} {k k' : Bool} {d : D} {v : Value} (h : RO w cl k d v)
  (hb : ∀ b,cl b = kc k → w'.heap[b]? = w.heap[b]? ∧ cl' b = kc k') : RO w' cl' k' d v:=by
 induction h with
 | int => exact .int _ _
 | bool => exact .bool _
 | str => exact .str _
 | dead => exact .dead _
 | emp => exact .emp _ _ _
 | sl sz es b off cap hc hl hcap hs _ ih =>
  have hb':=hb b hc
  refine .sl sz es b off cap hb'.2 hl hcap (fun i j hi hj => ?_) (fun i j e d x he hd hx => ?_)
  ·rw [cell_of hb'.1]; exact hs i j hi hj
  ·rw [cell_of hb'.1] at hx; exact ih i j e d x he hd hx
 | fn => exact .fn _
 | fnc g ds b hne hc hs _ ih =>
  have hb':=hb b hc
  refine .fnc g ds b hne hb'.2 (fun i hi => ?_) (fun i d x hd hx => ?_)
  ·rw [cell_of hb'.1]; exact hs i hi
  ·rw [cell_of hb'.1] at hx; exact ih i d x hd hx
 | rp ds b hne hc hs _ ih =>
  have hb':=hb b hc
  refine .rp ds b hne hb'.2 (fun i hi => ?_) (fun i d x hd hx => ?_)
  ·rw [cell_of hb'.1]; exact hs i hi
  ·rw [cell_of hb'.1] at hx; exact ih i d x hd hx
theorem OW.mono {w w' : World} {g g' : Gh} {r j r' j' : Nat} {q : Pth} {d : D} {v : Value} (h : OW w g r j q d v) :
  ∀ {q' : Pth},(∀ b ρ,g.cl b = .own r j (q ++ ρ) → w'.heap[b]? = w.heap[b]? ∧ g'.cl b = .own r' j' (q' ++ ρ)) →
   (∀ ρ,g'.hd r' j' (q' ++ ρ) = g.hd r j (q ++ ρ)) → OW w' g' r' j' q' d v:=by
 induction h with
 | int => exact fun _ _ => .int _ _ _
 | bool => exact fun _ _ => .bool _ _
 | str => exact fun _ _ => .str _ _
 | dead p v hh => exact fun _ h2 => .dead _ _ (by have:=h2 []; simp only [List.append_nil] at this; rw [this,hh])
 | nil p sz hh => exact fun _ h2 => .nil _ _ (by have:=h2 []; simp only [List.append_nil] at this; rw [this,hh])
 | sl p sz es b off cap vals E hh hc hl hcap hv hN _ ih =>
  intro q' h1 h2
  have hb:=h1 b [] (by simpa using hc)
  have hh':=h2 []
  simp only [List.append_nil] at hb hh'
  refine .sl q' sz es b off cap vals E (by rw [hh',hh]) hb.2 hl hcap (by rw [hb.1]; exact hv) hN (fun i c e d x he hd hx => ?_)
  refine ih i c e d x he hd hx (fun b ρ hb => ?_) (fun ρ => ?_)
  ·have:=h1 b ((i,c) :: ρ) (by simpa using hb)
   simpa using this
  ·have:=h2 ((i,c) :: ρ)
   simpa using this
theorem OW.borrow {w w' : World} {g : Gh} {cl' : Nat → Cls} {r j : Nat} {q : Pth} {d : D} {v : Value} (h : OW w g r j q d v)
  (h1 : ∀ b ρ,g.cl b = .own r j (q ++ ρ) → w'.heap[b]? = w.heap[b]? ∧ cl' b = .bor) : RO w' cl' true d v:=by
 induction h with
 | int => exact .int _ _
 | bool => exact .bool _
 | str => exact .str _
 | dead => exact .dead _
 | nil => exact .emp _ _ _
 | sl p sz es b off cap vals E hh hc hl hcap hv hN _ ih =>
  have hb:=h1 b [] (by simpa using hc)
  have hv' : w'.heap[b]? = some (.cells vals E):=by rw [hb.1]; exact hv
  refine .sl sz es b off cap hb.2 hl hcap (fun i c hi hc => ?_) (fun i c e d x he hd hx => ?_)
  ·rw [cell_cells hv']
   have:=idx_lt (off:=off) hi hc hcap hN
   simp [this]
  ·rw [cell_cells hv'] at hx
   refine ih i c e d x he hd hx (fun b ρ hb => ?_)
   exact h1 b ((i,c) :: ρ) (by simpa using hb)
theorem OW.hd_eq {w : World} {g : Gh} {r j : Nat} {p : Pth} {sz : Nat} {es : List (List D)} {v : Value} (h : OW w g r j p (.sl sz es) v) :
  v = g.hd r j p:=by
 cases h with
 | nil _ _ h => exact h.symm
 | sl _ _ _ _ _ _ _ _ h => exact h.symm
theorem OW.slice {w : World} {g : Gh} {r j : Nat} {p : Pth} {sz : Nat} {es : List (List D)} {v : Value} (h : OW w g r j p (.sl sz es) v) :
  ∃ b n c,v = .slice b n c:=by
 cases h with
 | nil => exact ⟨_,_,_,rfl⟩
 | sl => exact ⟨_,_,_,rfl⟩
theorem OW.dig {w : World} {g : Gh} {r j : Nat} : ∀ (p : Pth) {q : Pth} {d0 d : D} {v : Value},OW w g r j q d0 v → d0.dig p = some d →
  ∃ x,OW w g r j (q ++ p) d x:=by
 intro p
 induction p with
 | nil => intro q d0 d v h hd; simp [D.dig] at hd; subst hd; exact ⟨v,by simpa using h⟩
 | cons s p ih =>
  intro q d0 d v h hd
  obtain ⟨i,c⟩:=s
  cases d0 with
  | sl sz es =>
   simp only [D.dig] at hd
   cases he : es[i]? with
   | none => simp [he] at hd
   | some e =>
    cases hdd : e[c]? with
    | none => simp [he,hdd] at hd
    | some d1 =>
     simp [he,hdd] at hd
     cases h with
     | nil => simp at he
     | sl _ _ _ b off cap vals E hh hc hl hcap hv hN hk =>
      have h1:=get_len hl he
      have h2:=lt_of_get hdd
      have h3:=idx_lt (off:=off) (lt_of_get he) (h1 ▸ h2) hcap hN
      obtain ⟨x,hx⟩:=ih (hk i c e d1 _ he hdd (by simp [h3]; rfl)) hd
      exact ⟨x,by simpa using hx⟩
  | _ => simp [D.dig] at hd
theorem OW.put {w w' : World} {g g' : Gh} {r j : Nat} : ∀ (p : Pth) {q : Pth} {d0 old y : D} {v : Value},OW w g r j q d0 v → d0.dig p = some old →
  (∀ b ρ,g.cl b = .own r j ρ → ¬ (q ++ p <+: ρ) → w'.heap[b]? = w.heap[b]? ∧ g'.cl b = .own r j ρ) →
  (∀ ρ,¬ (q ++ p <+: ρ) → g'.hd r j ρ = g.hd r j ρ) →
  (∀ x,OW w g r j (q ++ p) old x → OW w' g' r j (q ++ p) y x) → OW w' g' r j q (d0.put p y) v:=by
 intro p
 induction p with
 | nil => intro q d0 old y v h hd _ _ hn; simp [D.dig] at hd; subst hd; simpa [D.put] using hn v (by simpa using h)
 | cons s p ih =>
  intro q d0 old y v h hd hb hh hn
  obtain ⟨i,c⟩:=s
  cases d0 with
  | sl sz es =>
   simp only [D.dig] at hd
   cases he : es[i]? with
   | none => simp [he] at hd
   | some e =>
    cases hdd : e[c]? with
    | none => simp [he,hdd] at hd
    | some d1 =>
     simp [he,hdd] at hd
     simp only [D.put,he,hdd]
     have hnp : ¬ (q ++ (i,c) :: p <+: q):=by
      intro hp; have:=hp.length_le; simp at this; omega
     cases h with
     | nil => simp at he
     | sl _ _ _ b off cap vals E hhd hc hl hcap hv hN hk =>
      have hb0:=hb b q hc hnp
      have hh0:=hh q hnp
      have hlen : (es.set i (e.set c (d1.put p y))).length = es.length:=by simp
      rw [← hlen]
      refine .sl q sz _ b off cap vals E (by rw [hh0,hhd,hlen]) hb0.2 ?_ (by rw [hlen]; exact hcap) (by rw [hb0.1]; exact hv) hN ?_
      ·intro e' he'
       rcases List.mem_or_eq_of_mem_set he' with h | h
       ·exact hl _ h
       ·subst h; simp; exact get_len hl he
      ·intro i' c' e' d' x he' hd' hx
       by_cases hi : i' = i
       ·subst hi
        have hlt:=lt_of_get he
        rw [List.getElem?_set_self hlt] at he'
        cases he'
        by_cases hcc : c' = c
        ·subst hcc
         have hlt2:=lt_of_get hdd
         rw [List.getElem?_set_self hlt2] at hd'
         cases hd'
         refine ih (hk i' c' e d1 x he hdd hx) hd ?_ ?_ ?_
         ·intro b ρ h1 h2; exact hb b ρ h1 (by simpa using h2)
         ·intro ρ h2; exact hh ρ (by simpa using h2)
         ·intro x hx; have:=hn x (by simpa using hx); simpa using this
        ·rw [List.getElem?_set_ne (by omega)] at hd'
         refine (hk i' c' e d' x he hd' hx).mono (fun b ρ h1 => hb b _ h1 ?_) (fun ρ => hh _ ?_)
         all_goals
          intro hp
          rw [List.append_assoc,List.prefix_append_right_inj] at hp
          simp at hp; exact hcc hp.1.symm
       ·rw [List.getElem?_set_ne (by omega)] at he'
        refine (hk i' c' e' d' x he' hd' hx).mono (fun b ρ h1 => hb b _ h1 ?_) (fun ρ => hh _ ?_)
        all_goals
         intro hp
         rw [List.append_assoc,List.prefix_append_right_inj] at hp
         simp at hp; exact hi hp.1.1.symm
  | _ => simp [D.dig] at hd
end Go.Proofs.YtmlinnkaccgcgaaGreat.OM
