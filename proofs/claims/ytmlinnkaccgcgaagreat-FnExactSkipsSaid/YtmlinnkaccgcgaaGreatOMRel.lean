/- The own machine: how its states stand for frames and worlds of the model. -/
import Derived.Test.YtmlinnkaccgcgaaGreatOMDef
import Derived.Test.YtmlinnkaccgcgaaGreatOMKap
set_option linter.all false
namespace Go.Proofs.YtmlinnkaccgcgaaGreat.OM
inductive Cls where
 | no | imm | bor
 | own (r j : Nat) (p : Pth)
 | box (r : Nat)
def Cls.mine : Cls → Bool
 | .own .. | .box _ => true
 | _ => false
def kc (k : Bool) : Cls:=if k then .bor else .imm
structure Gh where
 cl : Nat → Cls
 hd : Nat → Nat → Pth → Value
 bk : Nat → Nat
inductive RO (w : World) (cl : Nat → Cls) (k : Bool) : D → Value → Prop
 | int (kd : IntKind) (n : Int) : RO w cl k (.int kd n) (.int kd n)
 | bool (b : Bool) : RO w cl k (.bool b) (.bool b)
 | str (s : ByteArray) : RO w cl k (.str s) (.string s)
 | dead (v : Value) : RO w cl k .dead v
 | emp (sz : Nat) (a : Option Addr) (cap : Nat) : RO w cl k (.sl sz []) (.slice a 0 cap)
 | sl (sz : Nat) (es : List (List D)) (b off cap : Nat) :
   cl b = kc k → (∀ e ∈ es,e.length = sz) → es.length ≤ cap →
   (∀ i j,i < es.length → j < sz → (w.cell? ⟨b,off + i * sz + j,none⟩).isSome) →
   (∀ i j e d x,es[i]? = some e → e[j]? = some d → w.cell? ⟨b,off + i * sz + j,none⟩ = some x → RO w cl k d x) →
   RO w cl k (.sl sz es) (.slice (some ⟨b,off,none⟩) es.length cap)
 | fn (g : Nat) : RO w cl k (.fn g []) (.func (.func (kap g)) #[] #[])
 | fnc (g : Nat) (ds : List D) (b : Nat) : ds ≠ [] → cl b = kc k →
   (∀ i,i < ds.length → (w.cell? ⟨b,i,none⟩).isSome) →
   (∀ i d x,ds[i]? = some d → w.cell? ⟨b,i,none⟩ = some x → RO w cl k d x) →
   RO w cl k (.fn g ds) (.func (.func (kap g)) #[] #[.pointer (some ⟨b,0,none⟩)])
 | rp (ds : List D) (b : Nat) : ds ≠ [] → cl b = kc k →
   (∀ i,i < ds.length → (w.cell? ⟨b,i,none⟩).isSome) →
   (∀ i d x,ds[i]? = some d → w.cell? ⟨b,i,none⟩ = some x → RO w cl k d x) →
   RO w cl k (.rp ds) (.pointer (some ⟨b,0,none⟩))
inductive OW (w : World) (g : Gh) (r j : Nat) : Pth → D → Value → Prop
 | int (p : Pth) (kd : IntKind) (n : Int) : OW w g r j p (.int kd n) (.int kd n)
 | bool (p : Pth) (b : Bool) : OW w g r j p (.bool b) (.bool b)
 | str (p : Pth) (s : ByteArray) : OW w g r j p (.str s) (.string s)
 | dead (p : Pth) (v : Value) : g.hd r j p = v → OW w g r j p .dead v
 | nil (p : Pth) (sz : Nat) : g.hd r j p = .slice none 0 0 → OW w g r j p (.sl sz []) (.slice none 0 0)
 | sl (p : Pth) (sz : Nat) (es : List (List D)) (b off cap : Nat) (vals : Array Value) (E : TypeId) :
   g.hd r j p = .slice (some ⟨b,off,none⟩) es.length cap →
   g.cl b = .own r j p → (∀ e ∈ es,e.length = sz) → es.length ≤ cap →
   w.heap[b]? = some (.cells vals E) → off + cap * sz ≤ vals.size →
   (∀ i c e d x,es[i]? = some e → e[c]? = some d → vals[off + i * sz + c]? = some x → OW w g r j (p ++ [(i,c)]) d x) →
   OW w g r j p (.sl sz es) (.slice (some ⟨b,off,none⟩) es.length cap)
inductive RC (w : World) (g : Gh) (r j : Nat) : C → Value → Prop
 | ro (k : Bool) (d : D) (v : Value) : RO w g.cl k d v → RC w g r j (.ro k d) v
 | own (d : D) (v : Value) : OW w g r j [] d v → RC w g r j (.own d) v
 | rf (r' j' : Nat) (b : Option Addr) (n c : Nat) : g.hd (r' + 1) j' [] = .slice b n c → RC w g r j (.rf r' j') (.slice b n c)
def RtOk (w : World) (g : Gh) (n : Nat) : Rt → Prop
 | .vir cs => ∀ j c,cs[j]? = some c → RC w g (n + 1) j c (g.hd (n + 1) j [])
 | .bx cs => g.cl (g.bk n) = .box n ∧ ∃ vals E,w.heap[g.bk n]? = some (.cells vals E) ∧ vals.size = cs.length ∧
   ∀ j c x,cs[j]? = some c → vals[j]? = some x → RC w g (n + 1) j c x
def slcv (v : Value) (sz lo hi : Nat) : Value :=
 match v with
 | .slice a _ cap => .slice (if cap = lo then a else a.map (·.add (lo * sz))) (hi - lo) (cap - lo)
 | v => v
def adv (v : Value) (o : Nat) : Value :=
 match v with
 | .slice (some a) _ _ => .pointer (some ⟨a.block,a.off + o,none⟩)
 | _ => .nilIface
inductive RA (w : World) (g : Gh) (m : Ms) : AV → Value → Prop
 | un (v : Value) : RA w g m .un v
 | v (k : Bool) (d : D) (x : Value) : RO w g.cl k d x → RA w g m (.v k d) x
 | nl (sz : Nat) : RA w g m (.nl sz) (.slice none 0 0)
 | agg (cs : List AV) (vs : Array Value) : cs.length = vs.size →
   (∀ (i : Nat) (a : AV) (x : Value),cs[i]? = some a → vs[i]? = some x → RA w g m a x) → RA w g m (.agg cs) (.agg vs)
 | tup (cs : List AV) (vs : Array Value) : cs.length = vs.size →
   (∀ (i : Nat) (a : AV) (x : Value),cs[i]? = some a → vs[i]? = some x → RA w g m a x) → RA w g m (.tup cs) (.tuple vs)
 | pl (r j : Nat) (p : Pth) (b : Option Addr) (n c : Nat) : (m.killed r j p = false → Value.slice b n c = g.hd (r + 1) j p) → RA w g m (.pl r j p) (.slice b n c)
 | rg (r j : Nat) (p : Pth) (sz lo hi : Nat) (b : Option Addr) (n c : Nat) : (m.killed r j p = false → Value.slice b n c = slcv (g.hd (r + 1) j p) sz lo hi) →
   RA w g m (.rg r j p sz lo hi) (.slice b n c)
 | bx (r j : Nat) : RA w g m (.bx r j) (.pointer (some ⟨g.bk r,j,none⟩))
 | ad (r j : Nat) (p : Pth) (sz i c b o : Nat) : (m.killed r j p = false → Value.pointer (some ⟨b,o,none⟩) = adv (g.hd (r + 1) j p) (i * sz + c)) →
   RA w g m (.ad r j p sz i c) (.pointer (some ⟨b,o,none⟩))
 | ra (k : Bool) (sz : Nat) (es : List (List D)) (i c b off cap : Nat) :
   RO w g.cl k (.sl sz es) (.slice (some ⟨b,off,none⟩) es.length cap) → i < es.length →
   RA w g m (.ra k sz es i c) (.pointer (some ⟨b,off + i * sz + c,none⟩))
 | fv (f r : Nat) : RA w g m (.fv f r) (.func (.func (kap f)) #[] #[.pointer (some ⟨g.bk r,0,none⟩)])
structure Same (w w' : World) : Prop where
 os : w'.os = w.os
 out : w'.output = w.output
 fz : ∀ a,(w.heap[a.block]?).isSome = true → (w'.heap[a.block]?).isSome = true ∧ w'.frozen? a = w.frozen? a
 tp : w'.tape = w.tape
 dr : w.drawn ≤ w'.drawn
theorem Same.refl (w : World) : Same w w:=⟨rfl,rfl,fun _ h => ⟨h,rfl⟩,rfl,Nat.le_refl _⟩
theorem Same.trans {w w' w'' : World} (h : Same w w') (h' : Same w' w'') : Same w w'':=⟨h'.os.trans h.os,h'.out.trans h.out,fun a i => ⟨(h'.fz a (h.fz a i).1).1,(h'.fz a (h.fz a i).1).2.trans (h.fz a i).2⟩,h'.tp.trans h.tp,Nat.le_trans h.dr h'.dr⟩
theorem Same.of {w w' : World} {b : Nat} (os : w'.os = w.os) (out : w'.output = w.output) (tp : w'.tape = w.tape) (dr : w.drawn ≤ w'.drawn) (h : ∀ b',b' ≠ b → w'.heap[b']? = w.heap[b']?)
  (h1 : w.heap[b]? = none ∨ ∃ v E,w.heap[b]? = some (.cells v E)) (h2 : ∃ v E,w'.heap[b]? = some (.cells v E)) : Same w w':=by
 refine ⟨os,out,fun a i => ?_,tp,dr⟩
 by_cases e : a.block = b
 ·obtain ⟨v,E,h2⟩:=h2
  refine ⟨by rw [e,h2]; rfl,?_⟩
  rcases h1 with h1 | ⟨v',E',h1⟩ <;> simp [World.frozen?,e,h1,h2]
 ·refine ⟨by rw [h _ e]; exact i,?_⟩
  simp [World.frozen?,h _ e]
end Go.Proofs.YtmlinnkaccgcgaaGreat.OM
