/- The own machine: arguments of plain data are opened, and read the same in a world that keeps them. -/
import Derived.Test.YtmlinnkaccgcgaaGreatOMPure
import Derived.ChangeSame
import Derived.RowKit
import Derived.RowKit3
import Derived.OpenShut
import Derived.ChangeArms
import Derived.WideKeyArgs
set_option linter.all false
namespace Go.Proofs.YtmlinnkaccgcgaaGreat.OM
section
variable {P : Program} {H : Type} {enc : TypeId × Value → H} {w w' : World}
inductive HasT (P : Program) : TypeId → List D → Prop
 | int {t : TypeId} {k : IntKind} {n : Int} : P.underlying t = some (.int k) → (Lit.int k n).wf = true → HasT P t [.int k n]
 | bool {t : TypeId} {b : Bool} : P.underlying t = some .bool → HasT P t [.bool b]
 | str {t : TypeId} {s : ByteArray} : P.underlying t = some .string → s.size ≤ maxLen → HasT P t [.str s]
 | sl {t e : TypeId} {es : List (List D)} : P.underlying t = some (.slice e) → es.length ≤ maxLen → (∀ x ∈ es,HasT P e x) → HasT P t [.sl (P.cellsOf e) es]
 | struct {t : TypeId} {fs : Array Field} {ds : List D} : P.underlying t = some (.struct fs) → ds.length = P.cellsOf t →
   (∀ f ∈ fs.toList,HasT P f.type ((ds.drop f.offset).take (P.cellsOf f.type))) → HasT P t ds
def tiles (P : Program) (n : Nat) : Nat → List Field → Bool
 | o,[] => o == n
 | o,f :: fs => f.offset == o && tiles P n (o + P.cellsOf f.type) fs
def plainAt (P : Program) (S : List TypeId) (t : TypeId) : Bool :=
 match P.underlying t with
 | some .bool | some (.int _) | some .string => P.cellsOf t == 1
 | some (.slice e) => S.contains e && decide (0 < P.cellsOf e) && P.cellsOf t == 1
 | some (.struct fs) => (fs.toList.all fun f => S.contains f.type) && tiles P (P.cellsOf t) 0 fs.toList
 | _ => false
def closedT (P : Program) (S : List TypeId) : Bool:=S.all (plainAt P S)
def ROs (w : World) (cl : Nat → Cls) (ds : List D) (vs : List Value) : Prop:=∀ (i : Nat) (d : D) (v : Value),ds[i]? = some d → vs[i]? = some v → RO w cl false d v
theorem list_ex {α : Type} {R : Nat → α → Prop} : ∀ (n : Nat),(∀ i,i < n → ∃ x,R i x) → ∃ l : List α,l.length = n ∧ ∀ (i : Nat) (x : α),l[i]? = some x → R i x:=by
 intro n
 induction n with
 | zero => intro _; exact ⟨[],rfl,fun i x h => by simp at h⟩
 | succ n ih =>
  intro h
  obtain ⟨l,h1,h2⟩:=ih fun i hi => h i (by omega)
  obtain ⟨x,hx⟩:=h n (by omega)
  refine ⟨l ++ [x],by simp [h1],fun i y hy => ?_⟩
  by_cases hi : i < l.length
  ·rw [List.getElem?_append_left hi] at hy; exact h2 i y hy
  ·rw [List.getElem?_append_right (by omega)] at hy
   have : i - l.length = 0:=by
    cases hk : i - l.length with
    | zero => rfl
    | succ k => rw [hk] at hy; simp at hy
   rw [this] at hy
   simp at hy; subst hy
   have : i = n:=by omega
   subst this; exact hx
theorem tile_ex {cl : Nat → Cls} {cs : List Value} {n : Nat} : ∀ (fs : List Field) (o : Nat),tiles P n o fs = true →
  (∀ f ∈ fs,∃ df,HasT P f.type df ∧ df.length = P.cellsOf f.type ∧ ROs w cl df ((cs.drop f.offset).take (P.cellsOf f.type))) →
  ∃ ds,o + ds.length = n ∧ (∀ f ∈ fs,o ≤ f.offset ∧ HasT P f.type ((ds.drop (f.offset - o)).take (P.cellsOf f.type))) ∧ ROs w cl ds (cs.drop o):=by
 intro fs
 induction fs with
 | nil =>
  intro o h _
  simp only [tiles,beq_iff_eq] at h
  exact ⟨[],by simpa using h,fun f hf => by simp at hf,fun i d v hd => by simp at hd⟩
 | cons f fs ih =>
  intro o h hf
  simp only [tiles,Bool.and_eq_true,beq_iff_eq] at h
  obtain ⟨rfl,h⟩:=h
  obtain ⟨ds,h1,h2,h3⟩:=ih _ h fun g hg => hf g (by simp [hg])
  obtain ⟨df,h4,h5,h6⟩:=hf f (by simp)
  refine ⟨df ++ ds,by simp; omega,fun g hg => ?_,fun i d v hd hv => ?_⟩
  ·rcases List.mem_cons.1 hg with rfl | hg
   ·refine ⟨Nat.le_refl _,?_⟩
    rw [Nat.sub_self,List.drop_zero,← h5,List.take_append_of_le_length (Nat.le_refl _),List.take_length]
    exact h4
   ·obtain ⟨q1,q2⟩:=h2 g hg
    refine ⟨by omega,?_⟩
    rw [List.drop_append,List.drop_eq_nil_of_le (by omega),List.nil_append,show g.offset - f.offset - df.length = g.offset - (f.offset + P.cellsOf f.type) from by omega]
    exact q2
  ·by_cases hi : i < df.length
   ·rw [List.getElem?_append_left hi] at hd
    refine h6 i d v hd ?_
    rw [List.getElem?_take,if_pos (by omega)]
    exact hv
   ·rw [List.getElem?_append_right (by omega)] at hd
    refine h3 (i - df.length) d v hd ?_
    rw [List.getElem?_drop] at hv ⊢
    rw [show f.offset + P.cellsOf f.type + (i - df.length) = f.offset + i from by omega]
    exact hv
theorem cells?_some {base : Nat} {a : Addr} {n : Nat} {cs : List Value} (h : w.cells? base a n = some cs) : cs.length = n ∧ ∀ i,i < n → ∃ v,cs[i]? = some v ∧ w.cell? (a.add i) = some v:=by
 unfold World.cells? at h
 split at h
 ·have h1:=mapM_some_length h
  refine ⟨by simpa using h1,fun i hi => ?_⟩
  have h2:=mapM_some_get h i i (by simp [hi])
  rw [List.length_range] at h1
  have h4 : i < cs.length:=by omega
  have h3 : cs[i]? = some cs[i]:=by simp [h4]
  exact ⟨_,h3,h2.trans h3⟩
 ·cases h
theorem one_cell {cl : Nat → Cls} {d : D} {v : Value} (h : RO w cl false d v) : ROs w cl [d] [v]:=by
 intro i d' v' hd hv
 cases i <;> simp at hd hv
 subst hd; subst hv; exact h
theorem trod_open {S : List TypeId} (hS : closedT P S = true) {cl : Nat → Cls} (hcl : ∀ b,b < w.heap.size → cl b = .imm) : ∀ (fuel : Nat) (t : TypeId) (cs : List Value) (held : Bool) (x : DataW H × List MemPlace),t ∈ S →
  DataW.trod enc P w 0 (fun _ => true) held fuel t cs = some x → ∃ ds,HasT P t ds ∧ ds.length = cs.length ∧ cs.length = P.cellsOf t ∧ ROs w cl ds cs:=by
 intro fuel
 induction fuel with
 | zero => intro t cs held x _ h; simp [DataW.trod] at h
 | succ fuel ih =>
  intro t cs held x ht h
  have hp:=List.all_eq_true.1 hS t ht
  unfold plainAt at hp
  split at hp
  ·rename_i hu
   obtain ⟨b,rfl,_⟩:=DataW.trod_bool hu h
   exact ⟨[.bool b],.bool hu,rfl,by simpa using (beq_iff_eq.1 hp).symm,one_cell (.bool _)⟩
  ·rename_i k hu
   obtain ⟨n,rfl,_,hw⟩:=DataW.trod_int hu h
   exact ⟨[.int k n],.int hu hw,rfl,by simpa using (beq_iff_eq.1 hp).symm,one_cell (.int _ _)⟩
  ·rename_i hu
   obtain ⟨s,rfl,_,hs⟩:=DataW.trod_string hu h
   exact ⟨[.str s],.str hu hs,rfl,by simpa using (beq_iff_eq.1 hp).symm,one_cell (.str _)⟩
  ·rename_i e hu
   simp only [Bool.and_eq_true,beq_iff_eq,decide_eq_true_eq,List.contains_iff_mem] at hp
   obtain ⟨⟨he,hsz⟩,hp⟩:=hp
   rcases DataW.trod_slice hu h with ⟨rfl,_⟩ | ⟨a,len,cap,elems,rest,n,hn,rfl,_,hb0,hle,hcap,hlen,hel,_,_⟩
   ·exact ⟨[.sl (P.cellsOf e) []],.sl hu (by simp) (by simp),rfl,by simpa using hp.symm,one_cell (.emp _ _ _)⟩
   ·cases hn
    have hone : ∀ i,i < len → ∃ ds,HasT P e ds ∧ ds.length = P.cellsOf e ∧ ∀ j,j < P.cellsOf e → ∃ v d,w.cell? ((a.add (i * P.cellsOf e)).add j) = some v ∧ ds[j]? = some d ∧ RO w cl false d v:=by
     intro i hi
     have h2:=hel i hi
     have h2' : elems[i]? = some elems[i]:=by simp [show i < elems.length from by omega]
     rw [h2'] at h2
     simp only [Option.bind_eq_some_iff] at h2
     obtain ⟨csi,h3,h4⟩:=h2
     obtain ⟨h5,h6⟩:=cells?_some h3
     obtain ⟨ds,h7,h8,h9,h10⟩:=ih e csi held _ he h4
     refine ⟨ds,h7,h8.trans h5,fun j hj => ?_⟩
     obtain ⟨v,h11,h12⟩:=h6 j hj
     have hd : ds[j]? = some ds[j]:=by simp [show j < ds.length from by omega]
     exact ⟨v,_,h12,hd,h10 j _ v hd h11⟩
    obtain ⟨es,hes,hR⟩:=list_ex len hone
    have hmem : ∀ y ∈ es,HasT P e y ∧ y.length = P.cellsOf e:=fun y hy => by
     obtain ⟨i,hi,rfl⟩:=List.mem_iff_getElem.1 hy
     obtain ⟨h1,h2,_⟩:=hR i es[i] (by simp [hi])
     exact ⟨h1,h2⟩
    refine ⟨[.sl (P.cellsOf e) es],.sl hu (by omega) (fun y hy => (hmem y hy).1),rfl,by simpa using hp.symm,one_cell ?_⟩
    rcases Nat.eq_zero_or_pos len with h0 | h0
    ·have h00 : es = []:=List.length_eq_zero_iff.1 (hes.trans h0)
     subst h00
     subst h0
     exact .emp _ _ _
    ·obtain ⟨b,off,spot⟩:=a
     have hfirst : spot = none ∧ b < w.heap.size:=by
      obtain ⟨_,_,h3⟩:=hR 0 es[0] (by simp)
      obtain ⟨v,d,h4,_⟩:=h3 0 hsz
      simp only [World.cell?,Addr.add,Nat.zero_mul,if_true] at h4
      split at h4
      ·rename_i c1 t1 f1 hb
       split at h4
       ·cases h4
       ·rename_i hsp
        exact ⟨by simpa using hsp,(Array.getElem?_eq_some_iff.1 hb).1⟩
      ·cases h4
     obtain ⟨rfl,hb⟩:=hfirst
     rw [← hes]
     have hadd : ∀ i j,((⟨b,off,none⟩ : Addr).add (i * P.cellsOf e)).add j = ⟨b,off + i * P.cellsOf e + j,none⟩:=fun i j => by
      simp only [Addr.add]
      split <;> split <;> simp_all
     refine .sl _ _ _ _ _ (hcl b hb) (fun y hy => (hmem y hy).2) (by omega) (fun i j hi hj => ?_) (fun i j y d v hy hd hv => ?_)
     ·obtain ⟨_,_,h3⟩:=hR i es[i] (by simp [hi])
      obtain ⟨v,d,h4,_⟩:=h3 j hj
      rw [hadd] at h4
      simp [h4]
     ·obtain ⟨_,h2,h3⟩:=hR i y hy
      have hj:=(List.getElem?_eq_some_iff.1 hd).1
      obtain ⟨v',d',h4,h5,h6⟩:=h3 j (by omega)
      rw [hadd,hv] at h4
      rw [hd] at h5
      cases h4; cases h5
      exact h6
  ·rename_i fs hu
   simp only [Bool.and_eq_true] at hp
   obtain ⟨hall,htile⟩:=hp
   obtain ⟨xs,n,hn,_,hlen,hxl,hx⟩:=DataW.trod_struct hu h
   cases hn
   obtain ⟨ds,h1,h2,h3⟩:=tile_ex (w:=w) (cl:=cl) (cs:=cs) fs.toList 0 htile (fun f hf => by
    obtain ⟨i,hi,rfl⟩:=List.mem_iff_getElem.1 hf
    have hi' : i < fs.size:=by simpa using hi
    have h4:=hx i fs.toList[i] (by simp [hi'])
    have h5 : xs[i]? = some xs[i]:=by simp [show i < xs.length from by omega]
    rw [h5] at h4
    have h6:=List.all_eq_true.1 hall _ hf
    obtain ⟨df,h7,h8,h9,h10⟩:=ih _ _ held _ (by simpa using h6) h4
    exact ⟨df,h7,h8.trans h9,h10⟩)
   refine ⟨ds,.struct hu (by omega) (fun f hf => by have:=(h2 f hf).2; rwa [Nat.sub_zero] at this),by omega,hlen,by simpa using h3⟩
  ·cases hp
end
end Go.Proofs.YtmlinnkaccgcgaaGreat.OM
