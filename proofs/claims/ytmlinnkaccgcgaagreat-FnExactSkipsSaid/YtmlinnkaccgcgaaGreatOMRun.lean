/- The own machine: the model's memory operations, as run. -/
import Derived.Test.YtmlinnkaccgcgaaGreatOMPut
import Derived.Laws.Sem
import Derived.Laws.Cells
import Derived.Laws.Append
import Derived.Laws.AppendOwn
import Derived.Laws.MakeOwn
import Derived.Laws.CopyRow
import Derived.Laws.Entries
set_option linter.all false
namespace Go.Proofs.YtmlinnkaccgcgaaGreat.OM
theorem row_get {l vs : List Value} {o k : Nat} (h : o + vs.length ≤ l.length) :
  (l.take o ++ vs ++ l.drop (o + vs.length)).toArray[k]? = if o ≤ k ∧ k < o + vs.length then vs[k - o]? else l[k]?:=by
 simp only [List.getElem?_toArray]
 by_cases h1 : k < o
 ·rw [if_neg (by omega),List.append_assoc,List.getElem?_append_left (by simp; omega),List.getElem?_take_of_lt h1]
 ·by_cases h2 : k < o + vs.length
  ·rw [if_pos ⟨by omega,h2⟩,List.append_assoc,List.getElem?_append_right (by simp; omega)]
   simp only [List.length_take]
   rw [show min o l.length = o from by omega,List.getElem?_append_left (by omega)]
  ·rw [if_neg (by omega),List.getElem?_append_right (by simp; omega)]
   simp only [List.length_append,List.length_take,List.getElem?_drop]
   rw [show min o l.length = o from by omega]
   congr 1
   omega
theorem Same.alloc {w : World} (vals : Array Value) (E : TypeId) : Same w (w.alloc (.cells vals E)) :=
 .of (b:=w.heap.size) rfl rfl rfl (Nat.le_refl _) (fun b' hb => by
  rcases Nat.lt_or_ge b' w.heap.size with h | h
  ·exact heap_alloc_old w _ b' h
  ·rw [Array.getElem?_eq_none (by simp; omega),Array.getElem?_eq_none (by omega)]) (.inl (by simp)) ⟨_,_,heap_alloc_new w _⟩
theorem store_run (P : Program) {w : World} {b o : Nat} {vals : Array Value} {E : TypeId} (hw : w.heap[b]? = some (.cells vals E)) (xs : List Value)
  (h : o + xs.length ≤ vals.size) (h1 : ∀ x ∈ xs,x.oneCell' = true) :
  ∃ w' vals',(storeCells ⟨b,o,none⟩ xs 0).run P w = .ok () w' ∧ w'.heap[b]? = some (.cells vals' E) ∧ vals'.size = vals.size ∧
   (∀ k : Nat,vals'[k]? = if o ≤ k ∧ k < o + xs.length then xs[k - o]? else vals[k]?) ∧ (∀ b',b' ≠ b → w'.heap[b']? = w.heap[b']?) ∧ w'.heap.size = w.heap.size ∧ Same w w':=by
 have hr:=run_storeCells_at (P:=P) b o E xs 0 vals w hw (by simpa using h) h1
 simp only [Nat.add_zero] at hr
 refine ⟨_,_,hr,setRow_heap w b vals _ E _ hw,?_,fun k => ?_,fun b' hb => setRow_other w b b' _ hb,setRow_size _ _ _,
  .of rfl rfl rfl (Nat.le_refl _) (fun b' hb => setRow_other w b b' _ hb) (.inr ⟨_,_,hw⟩) ⟨_,_,setRow_heap w b vals _ E _ hw⟩⟩
 ·simp only [List.size_toArray,List.length_append,List.length_take,List.length_drop,Array.length_toList]; omega
 ·rw [row_get (by simpa using h)]; simp
theorem loadCells_run (P : Program) {w : World} {b o n : Nat} {xs : List Value} (hl : xs.length = n)
  (h : ∀ (k : Nat) (x : Value),xs[k]? = some x → w.cell? ⟨b,o + k,none⟩ = some x) : (loadCells ⟨b,o,none⟩ n).run P w = .ok xs.toArray w:=by
 rw [← hl]
 refine run_loadCells_list w ⟨b,o,none⟩ xs (fun j v hv => ?_)
 rw [Addr.add_lit]; exact h j v hv
theorem append_run (P : Program) {w : World} {t u ty e E0 : TypeId} {i : TypeInfo} {z x : Value} {n : Nat} {news : List Value}
  (ht : P.underlying t = some (.slice e)) (hi : P.info? e = some i) (hz : i.zero = some z)
  (hx : (P.underlying u = some (.slice e) ∧ ∃ a c,x = .slice a n c) ∨ (P.underlying u = some .string ∧ ∃ s : ByteArray,x = .string s ∧ s.size = n)) (hf : ∀ w1 : World,w1.heap = w.heap → (Builtin.firstCells i.size n x).run P w1 = .ok news.toArray w1)
  (hl : news.length = n * i.size) (h1 : ∀ y ∈ news,y.oneCell' = true)
  (base : Option Addr) (sLen sCap : Nat) (hb : (base = none ∧ sLen = 0 ∧ sCap = 0) ∨ ∃ b off vals,base = some ⟨b,off,none⟩ ∧ sLen ≤ sCap ∧
   w.heap[b]? = some (.cells vals E0) ∧ off + sCap * i.size ≤ vals.size) (hfit : (sLen + n) * i.bytes ≤ 2 ^ 46) (h63 : sLen + n ≤ 2 ^ 62) :
  (∃ (b off : Nat) (vals : Array Value) (w' : World) (vals' : Array Value),base = some ⟨b,off,none⟩ ∧ sLen + n ≤ sCap ∧ w.heap[b]? = some (.cells vals E0) ∧ off + sCap * i.size ≤ vals.size ∧
   (Builtin.append_ #[t,u] ty #[.slice base sLen sCap,x]).run P w = .ok (.slice (some ⟨b,off,none⟩) (sLen + n) sCap) w' ∧
   w'.heap[b]? = some (.cells vals' E0) ∧ vals'.size = vals.size ∧
   (∀ k : Nat,vals'[k]? = if off + sLen * i.size ≤ k ∧ k < off + sLen * i.size + n * i.size then news[k - (off + sLen * i.size)]? else vals[k]?) ∧
   (∀ b',b' ≠ b → w'.heap[b']? = w.heap[b']?) ∧ w'.heap.size = w.heap.size ∧ Same w w') ∨
  (base = none ∧ n = 0 ∧ (Builtin.append_ #[t,u] ty #[.slice base sLen sCap,x]).run P w = .ok (.slice none 0 0) w) ∨
  (∃ (cap : Nat) (vals' : Array Value) (w' : World) (olds : List Value),sLen + n ≤ cap ∧ (Builtin.append_ #[t,u] ty #[.slice base sLen sCap,x]).run P w = .ok (.slice (some ⟨w.heap.size,0,none⟩) (sLen + n) cap) w' ∧
   w'.heap[w.heap.size]? = some (.cells vals' e) ∧ w'.heap.size = w.heap.size + 1 ∧ Same w w' ∧ (∀ b',b' < w.heap.size → w'.heap[b']? = w.heap[b']?) ∧
   (∀ k : Nat,k < sLen * i.size → vals'[k]? = olds[k]?) ∧ olds.length = sLen * i.size ∧
   (∀ k : Nat,k < n * i.size → vals'[sLen * i.size + k]? = news[k]?) ∧ (z.cells.size = i.size → cap * i.size = vals'.size) ∧
   (∀ b off vals,base = some ⟨b,off,none⟩ → w.heap[b]? = some (.cells vals E0) → ∀ k : Nat,k < sLen * i.size → olds[k]? = vals[off + k]?)):=by
 have hmul : ∀ k,sLen + n ≤ k → sLen * i.size + n * i.size ≤ k * i.size:=fun k hk => by rw [← Nat.add_mul]; exact Nat.mul_le_mul_right _ hk
 by_cases hroom : sLen + n ≤ sCap
 ·rcases hb with ⟨rfl,rfl,rfl⟩ | ⟨b,off,vals,rfl,hsc,hw,hN⟩
  ·right; left
   have hn0 : n = 0:=by omega
   subst hn0
   refine ⟨rfl,rfl,?_⟩
   have hfw:=hf w rfl
   rcases hx with ⟨hu,a,c,rfl⟩ | ⟨hu,s,rfl,hs⟩
   ·simp [Builtin.append_,run_underlying ht,run_underlying hu,sizeOf,typeInfo,hi,Builtin.lenOf,hfw]
   ·rw [← hs] at hfw
    simp [Builtin.append_,run_underlying ht,run_underlying hu,sizeOf,typeInfo,hi,Builtin.lenOf,hs,hfw]
    try (rw [hs] at hfw; simp [hfw])
  ·left
   obtain ⟨w',vals',hr,h2,h3,h4,h5,h6⟩:=store_run P hw (o:=off + sLen * i.size) news (by rw [hl]; have:=hmul sCap hroom; omega) h1
   refine ⟨b,off,vals,w',vals',rfl,hroom,hw,hN,?_,h2,h3,fun k => by rw [h4,hl],h5,h6⟩
   have hfw:=hf w rfl
   rcases hx with ⟨hu,a,c,rfl⟩ | ⟨hu,s,rfl,hs⟩
   ·simp [Builtin.append_,run_underlying ht,run_underlying hu,sizeOf,typeInfo,hi,Builtin.lenOf,hroom,hfw,Addr.add_lit,hr]
   ·simp [Builtin.append_,run_underlying ht,run_underlying hu,sizeOf,typeInfo,hi,Builtin.lenOf,hs,hroom,hfw,Addr.add_lit,hr]
 ·right; right
  have h63' : ¬ (9223372036854775807 < ((sLen : Int) + (n : Int))):=by omega
  have h48' : ¬ (281474976710656 < Builtin.nextslicecap (sLen + n) sCap * i.bytes):=by
   have:=growslice_fits (need:=sLen + n) (old:=sCap) (bytes:=i.bytes) (by omega) (by omega); omega
  have hge:=grownCap_ge w (sLen + n) sCap e
  -- the old cells
  have hold : ∃ olds : List Value,olds.length = sLen * i.size ∧ (∀ w1 : World,w1.heap = w.heap → (Builtin.firstCells i.size sLen (.slice base sLen sCap)).run P w1 = .ok olds.toArray w1) ∧
    (∀ b off vals,base = some ⟨b,off,none⟩ → w.heap[b]? = some (.cells vals E0) → ∀ k : Nat,k < sLen * i.size → olds[k]? = vals[off + k]?):=by
   rcases hb with ⟨rfl,rfl,rfl⟩ | ⟨b,off,vals,rfl,hsc,hw,hN⟩
   ·exact ⟨[],by simp,fun w1 _ => by simp [Builtin.firstCells],fun _ _ _ h => by cases h⟩
   ·have hle : sLen * i.size ≤ sCap * i.size:=Nat.mul_le_mul_right _ hsc
    refine ⟨(vals.toList.drop off).take (sLen * i.size),by simp; omega,fun w1 hw1 => ?_,fun b1 off1 vals1 hb1 hw1 k hk => ?_⟩
    ·simp only [Builtin.firstCells]
     refine loadCells_run P (by simp; omega) (fun k x hx => ?_)
     rw [cell_cells (vals:=vals) (E:=E0) (fz:=(0,0)) (by rw [hw1]; exact hw)]
     rw [List.getElem?_take] at hx
     split at hx
     ·simpa using hx
     ·cases hx
    ·cases hb1
     rw [hw] at hw1; cases hw1
     rw [List.getElem?_take_of_lt hk]; simp
  obtain ⟨olds,ho1,ho2,ho3⟩:=hold
  refine ⟨grownCap w (sLen + n) sCap e,olds.toArray ++ news.toArray ++ Builtin.zeroCells z.cells (grownCap w (sLen + n) sCap e - (sLen + n)),
   w.drew.alloc (.cells (olds.toArray ++ news.toArray ++ Builtin.zeroCells z.cells (grownCap w (sLen + n) sCap e - (sLen + n))) e),olds,hge,?_,?_,?_,?_,?_,?_,ho1,?_,?_,ho3⟩
  ·have hfw:=hf w.drew rfl
   have how:=ho2 w.drew rfl
   rcases hx with ⟨hu,a,c,rfl⟩ | ⟨hu,s,rfl,hs⟩
   ·simp [Builtin.append_,run_underlying ht,run_underlying hu,sizeOf,typeInfo,zeroValue,hi,hz,Builtin.lenOf,hroom,h63',h48',Question.forced,hfw,how,newRow,grownCap]
    congr 2
    apply Array.ext'
    simp [List.append_assoc]
   ·simp [Builtin.append_,run_underlying ht,run_underlying hu,sizeOf,typeInfo,zeroValue,hi,hz,Builtin.lenOf,hs,hroom,h63',h48',Question.forced,hfw,how,newRow,grownCap]
    congr 2
    apply Array.ext'
    simp [List.append_assoc]
  ·exact heap_alloc_new w.drew _
  ·simp
  ·exact ⟨rfl,rfl,(Same.alloc (w:=w.drew) _ _).fz,rfl,Nat.le_succ _⟩
  ·exact fun b' hb' => heap_alloc_old w.drew _ b' hb'
  ·intro k hk
   rw [Array.append_assoc,Array.getElem?_append_left (by simp; omega)]; simp
  ·intro k hk
   rw [Array.append_assoc,Array.getElem?_append_right (by simp; omega),Array.getElem?_append_left (by simp; omega)]
   simp [ho1]
  ·intro hzs
   simp only [Array.size_append,List.size_toArray,size_zeroCells,hzs,ho1,hl,← Nat.add_mul]
   congr 1
   omega
end Go.Proofs.YtmlinnkaccgcgaaGreat.OM
