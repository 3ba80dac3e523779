/- The own machine: reading operations are sound. -/
import Derived.Test.YtmlinnkaccgcgaaGreatOMRun
set_option linter.all false
namespace Go.Proofs.YtmlinnkaccgcgaaGreat.OM
def Live (m : Ms) (a : AV) : Prop:=∀ r ∈ a.refs,((m r).1).isSome
section
variable {w0 : World} {cl0 : Ini} {S : St} {ts : Array Value} {w : World} {g : Gh} {m : Ms}
theorem RO.scalar {k : Bool} {d : D} {x : Value} {cl : Nat → Cls} (h : RO w cl k d x) (hs : ∀ sz es,d ≠ .sl sz es) (hf : ∀ g ds,d ≠ .fn g ds) (hr : ∀ ds,d ≠ .rp ds) : RO w cl false d x:=by
 cases h with
 | int => exact .int _ _
 | bool => exact .bool _
 | str => exact .str _
 | dead => exact .dead _
 | emp => exact absurd rfl (hs _ _)
 | sl => exact absurd rfl (hs _ _)
 | fn => exact absurd rfl (hf _ _)
 | fnc => exact absurd rfl (hf _ _)
 | rp => exact absurd rfl (hr _)
theorem mkv_ok {k : Bool} {d : D} {x : Value} (h : RO w g.cl k d x) : RA w g m (mkv k d) x:=by
 unfold mkv
 split
 ·exact .v _ _ _ h
 ·exact .v _ _ _ h
 ·exact .v _ _ _ h
 ·rename_i h1 h2 h3; exact .v _ _ _ (h.scalar h1 h2 h3)
theorem mkv_refs (k : Bool) (d : D) : (mkv k d).refs = []:=by unfold mkv; split <;> simp [AV.refs]
theorem OW.scalar {r j : Nat} {p : Pth} {d : D} {x : Value} (h : OW w g r j p d x) (hs : ∀ sz es,d ≠ .sl sz es) (hd : d ≠ .dead) (k : Bool) : RO w g.cl k d x:=by
 cases h with
 | int => exact .int _ _
 | bool => exact .bool _
 | str => exact .str _
 | dead => exact absurd rfl hd
 | nil => exact absurd rfl (hs _ _)
 | sl => exact absurd rfl (hs _ _)
theorem cellAV_ok {r j : Nat} {p : Pth} {d : D} {x : Value} (h : OW w g (r + 1) j p d x) : RA w g m (cellAV r j p d) x:=by
 unfold cellAV
 split
 ·obtain ⟨b,n,c,rfl⟩:=h.slice; exact .pl _ _ _ _ _ _ fun _ => h.hd_eq
 ·exact .un _
 ·rename_i h1 h2; exact .v _ _ _ (h.scalar h1 h2 _)
theorem cellAV_live {r j : Nat} {p : Pth} {d : D} (h : ((m r).1).isSome) : Live m (cellAV r j p d):=by
 unfold cellAV Live
 split <;> simp [AV.refs,h]
theorem rcell_ok {r j : Nat} {c : C} {x : Value} (h : RC w g (r + 1) j c x) : RA w g m (rcell r j c) x:=by
 cases h with
 | ro k d _ h => exact mkv_ok h
 | own d _ h => exact cellAV_ok h
 | rf r' j' b n c hh => exact .pl _ _ _ _ _ _ fun _ => hh.symm
theorem rcell_live {r j : Nat} {c : C} (h : ((m r).1).isSome) (hf : ∀ r' j',c = .rf r' j' → ((m r').1).isSome) : Live m (rcell r j c):=by
 cases c with
 | ro k d => simp [rcell,Live,mkv_refs]
 | own d => exact cellAV_live h
 | rf r' j' => simp [rcell,Live,AV.refs,hf r' j' rfl]
theorem zip_get {α : Type} {l : List α} {j k : Nat} {x : α × Nat} (h : (l.zipIdx)[k]? = some x) : l[k]? = some x.1 ∧ x.2 = k:=by
 rw [List.getElem?_zipIdx] at h
 simp only [Option.map_eq_some_iff] at h
 obtain ⟨a,h1,rfl⟩:=h
 simpa using h1
theorem isSome_of {o : Option Rt} {rt : Rt} (h : o = some rt) : o.isSome:=by rw [h]; rfl
theorem loadC_ok (R : Rel w0 cl0 S ts w g) {a : AV} {v : Value} (ha : RA w g S.ms a v) {n : Nat} {avs : List AV} (h : loadC S.ms n a = some avs) :
  ∃ (b o : Nat) (xs : List Value),v = .pointer (some ⟨b,o,none⟩) ∧ xs.length = n ∧ avs.length = n ∧
   (∀ (k : Nat) (x : Value),xs[k]? = some x → w.cell? ⟨b,o + k,none⟩ = some x) ∧
   ∀ (k : Nat) (av : AV) (x : Value),avs[k]? = some av → xs[k]? = some x → RA w g S.ms av x ∧ Live S.ms av:=by
 cases ha with
 | bx r j =>
  simp only [loadC] at h
  cases hr : (S.ms r).1 with
  | none => simp [hr] at h
  | some rt =>
   cases rt with
   | vir => simp [hr] at h
   | bx cs =>
    simp only [hr] at h
    split at h
    ·rename_i hle
     simp at h; subst h
     obtain ⟨hcl,vals,E,hh,hs,hc⟩:=R.rt r _ hr
     refine ⟨g.bk r,j,(vals.toList.drop j).take n,rfl,by simp; omega,by simp; omega,fun k x hx => ?_,fun k av x hav hx => ?_⟩
     ·rw [cell_cells hh]
      rw [List.getElem?_take] at hx
      split at hx
      ·simpa using hx
      ·cases hx
     ·simp only [List.getElem?_map,Option.map_eq_some_iff] at hav
      obtain ⟨y,hy,rfl⟩:=hav
      obtain ⟨hy1,hy2⟩:=zip_get (j:=0) hy
      rw [List.getElem?_take] at hy1 hx
      split at hx
      ·rename_i hk
       simp only [hk,if_true] at hy1
       simp only [List.getElem?_drop,Array.getElem?_toList] at hx hy1
       subst hy2
       exact ⟨rcell_ok (hc _ _ x hy1 hx),rcell_live (isSome_of hr) fun r' j' e => by
        obtain ⟨cs',h5⟩:=R.rfc r _ (j + y.2) r' j' hr (by simpa [Rt.cells,e] using hy1)
        exact isSome_of h5⟩
      ·cases hx
    ·cases h
 | ad r j p sz i c b1 o1 hx =>
  simp only [loadC] at h
  cases hat : S.ms.at r j p with
  | none => simp [hat] at h
  | some d =>
   cases d with
   | sl sz' es =>
    simp only [hat] at h
    cases he : es[i]? with
    | none => simp [he] at h
    | some e =>
     simp only [he] at h
     split at h
     ·rename_i hle
      obtain ⟨hle,rfl⟩:=hle
      simp at h; subst h
      obtain ⟨x0,ho⟩:=R.at hat
      have hv:=hx (at_some hat).1
      have:=ho.hd_eq
      subst this
      obtain ⟨hk,rt,d0,hrt,_,_⟩:=at_some hat
      generalize hg : g.hd (r + 1) j p = v0 at ho hv
      cases ho with
      | nil => simp at he
      | sl _ _ _ b off cap vals E hh hc hl hcap hw hN hkids =>
       rw [hv]
       have hel:=get_len hl he
       have hilt:=lt_of_get he
       refine ⟨b,off + (i * sz' + c),(vals.toList.drop (off + (i * sz' + c))).take n,rfl,?_,by simp; omega,fun k x hx => ?_,fun k av x hav hx => ?_⟩
       ·have h1 : (i + 1) * sz' ≤ cap * sz':=Nat.mul_le_mul_right _ (by omega)
        rw [Nat.succ_mul] at h1
        simp; omega
       ·rw [cell_cells hw]
        rw [List.getElem?_take] at hx
        split at hx
        ·simpa using hx
        ·cases hx
       ·simp only [List.getElem?_map,Option.map_eq_some_iff] at hav
        obtain ⟨y,hy,rfl⟩:=hav
        obtain ⟨hy1,hy2⟩:=zip_get (j:=0) hy
        rw [List.getElem?_take] at hy1 hx
        split at hx
        ·rename_i hk
         simp only [hk,if_true] at hy1
         simp only [List.getElem?_drop,Array.getElem?_toList] at hx hy1
         subst hy2
         have:=hkids i (c + y.2) e y.1 x he hy1 (by rw [← hx]; congr 1; omega)
         exact ⟨cellAV_ok this,cellAV_live (isSome_of hrt)⟩
        ·cases hx
     ·cases h
   | _ => simp [hat] at h
 | ra k sz es i c b off cap hro hi =>
  simp only [loadC] at h
  cases he : es[i]? with
  | none => simp [he] at h
  | some e =>
   simp only [he] at h
   split at h
   ·rename_i hle
    have h:=Option.some.inj h
    subst h
    generalize hvv : Value.slice (some ⟨b,off,none⟩) es.length cap = v0 at hro
    cases hro with
    | emp => simp at he
    | sl _ _ b' off' cap' hc hl hcap hs hkids =>
     cases hvv
     have hel:=get_len hl he
     have hilt:=lt_of_get he
     have hcell : ∀ q,q < n → ∃ x,w.cell? ⟨b,off + i * sz + (c + q),none⟩ = some x:=fun q hq => Option.isSome_iff_exists.1 (hs i (c + q) hilt (by omega))
     refine ⟨b,off + i * sz + c,(List.range n).map fun q => (w.cell? ⟨b,off + i * sz + (c + q),none⟩).getD undef,rfl,by simp,by simp; omega,fun k x hx => ?_,fun k av x hav hx => ?_⟩
     ·simp only [List.getElem?_map,Option.map_eq_some_iff] at hx
      obtain ⟨y,hy,rfl⟩:=hx
      have hyn:=lt_of_get hy
      simp at hyn
      rw [List.getElem?_range hyn] at hy
      cases hy
      obtain ⟨z,hz⟩:=hcell k hyn
      rw [hz]; simpa [Nat.add_assoc] using hz
     ·simp only [List.getElem?_map,Option.map_eq_some_iff] at hx hav
      obtain ⟨y,hy,rfl⟩:=hx
      obtain ⟨u,hu,rfl⟩:=hav
      have hyn:=lt_of_get hy
      simp at hyn
      rw [List.getElem?_range hyn] at hy
      cases hy
      obtain ⟨z,hz⟩:=hcell k hyn
      rw [List.getElem?_take_of_lt hyn] at hu
      simp only [List.getElem?_drop] at hu
      rw [hz]
      exact ⟨mkv_ok (hkids i (c + k) e u z he hu hz),by simp [Live,mkv_refs]⟩
   ·cases h
 | v k d x hro =>
  cases hro with
  | rp ds b hne hc hs hkids =>
   simp only [loadC] at h
   split at h
   ·rename_i hle
    have h:=Option.some.inj h
    subst h
    have hcell : ∀ q,q < n → ∃ x,w.cell? ⟨b,0 + q,none⟩ = some x:=fun q hq => Option.isSome_iff_exists.1 (by rw [Nat.zero_add]; exact hs q (by omega))
    refine ⟨b,0,(List.range n).map fun q => (w.cell? ⟨b,0 + q,none⟩).getD undef,rfl,by simp,by simp; omega,fun k x hx => ?_,fun k1 av x hav hx => ?_⟩
    ·simp only [List.getElem?_map,Option.map_eq_some_iff] at hx
     obtain ⟨y,hy,rfl⟩:=hx
     have hyn:=lt_of_get hy
     simp at hyn
     rw [List.getElem?_range hyn] at hy
     cases hy
     obtain ⟨z,hz⟩:=hcell k hyn
     rw [hz]; rfl
    ·simp only [List.getElem?_map,Option.map_eq_some_iff] at hx hav
     obtain ⟨y,hy,rfl⟩:=hx
     obtain ⟨u,hu,rfl⟩:=hav
     have hyn:=lt_of_get hy
     simp at hyn
     rw [List.getElem?_range hyn] at hy
     cases hy
     obtain ⟨z,hz⟩:=hcell k1 hyn
     rw [List.getElem?_take_of_lt hyn] at hu
     rw [hz]
     exact ⟨mkv_ok (hkids k1 u z hu (by simpa using hz)),by simp [Live,mkv_refs]⟩
   ·cases h
  | _ => simp [loadC] at h
 | _ => simp [loadC] at h
theorem els_ok (R : Rel w0 cl0 S ts w g) {a : AV} {v : Value} (ha : RA w g S.ms a v) {sz : Nat} {es : List (List D)} (h : S.ms.els a = some (sz,es)) :
  ∃ (b : Option Addr) (cap : Nat),v = .slice b es.length cap ∧ (∀ e ∈ es,e.length = sz ∨ es = []) ∧
   (es ≠ [] → ∃ b' o,b = some ⟨b',o,none⟩ ∧ es.length ≤ cap ∧ (∀ e ∈ es,e.length = sz) ∧
    ∀ (i c : Nat) (e : List D) (d : D),es[i]? = some e → e[c]? = some d → ∃ x,w.cell? ⟨b',o + i * sz + c,none⟩ = some x ∧
     ((∃ k,RO w g.cl k d x) ∨ ∃ r j p,OW w g r j p d x)):=by
 cases ha with
 | v k d x hro =>
  cases hro with
  | emp s b cap => simp [Ms.els] at h; obtain ⟨rfl,rfl⟩:=h; exact ⟨b,cap,rfl,by simp,fun h => absurd rfl h⟩
  | sl s es' b off cap hc hl hcap hs hkids =>
   simp [Ms.els] at h; obtain ⟨rfl,rfl⟩:=h
   refine ⟨_,cap,rfl,fun e he => .inl (hl e he),fun _ => ⟨b,off,rfl,hcap,hl,fun i c e d he hd => ?_⟩⟩
   obtain ⟨x,hx⟩:=Option.isSome_iff_exists.1 (hs i c (lt_of_get he) (by have:=get_len hl he; have:=lt_of_get hd; omega))
   exact ⟨x,hx,.inl ⟨k,hkids i c e d x he hd hx⟩⟩
  | _ => simp [Ms.els] at h
 | nl s => simp [Ms.els] at h; obtain ⟨rfl,rfl⟩:=h; exact ⟨none,0,rfl,by simp,fun h => absurd rfl h⟩
 | pl r j p b0 n0 c0 hx =>
  simp only [Ms.els] at h
  split at h
  ·rename_i s es' hat
   simp at h; obtain ⟨rfl,rfl⟩:=h
   obtain ⟨x0,ho⟩:=R.at hat
   have hv:=hx (at_some hat).1
   have:=ho.hd_eq
   subst this
   generalize hg : g.hd (r + 1) j p = v0 at ho hv
   rw [hv]
   cases ho with
   | nil => exact ⟨none,0,rfl,by simp,fun h => absurd rfl h⟩
   | sl _ _ _ b off cap vals E hh hc hl hcap hw hN hkids =>
    refine ⟨_,cap,rfl,fun e he => .inl (hl e he),fun _ => ⟨b,off,rfl,hcap,hl,fun i c e d he hd => ?_⟩⟩
    have hlt:=idx_lt (off:=off) (lt_of_get he) (by have:=get_len hl he; have:=lt_of_get hd; omega : c < s) hcap hN
    exact ⟨vals[off + i * s + c],by rw [cell_cells hw]; simp [hlt],.inr ⟨_,_,_,hkids i c e d _ he hd (by simp [hlt])⟩⟩
  ·cases h
 | rg r j p sz' lo hi b0 n0 c0 hx =>
  simp only [Ms.els] at h
  split at h
  ·rename_i es' hcut
   simp at h; obtain ⟨rfl,rfl⟩:=h
   obtain ⟨es0,hat,hlo,hhi,rfl⟩:=cutD_some hcut
   obtain ⟨x0,ho⟩:=R.at hat
   have hv:=hx (at_some hat).1
   have:=ho.hd_eq
   subst this
   generalize hg : g.hd (r + 1) j p = v0 at ho hv
   rw [hv]
   have hlen : ((es0.take hi).drop lo).length = hi - lo:=by simp; omega
   cases ho with
   | nil =>
    have : hi = 0:=by simpa using hhi
    subst this
    obtain rfl : lo = 0:=by omega
    exact ⟨none,0,by simp [slcv],by simp,fun h => by simp at h⟩
   | sl _ _ _ b off cap vals E hh hc hl hcap hw hN hkids =>
    refine ⟨_,cap - lo,by rw [hlen]; rfl,fun e he => .inl (hl e (List.mem_of_mem_take (List.mem_of_mem_drop he))),fun hne => ?_⟩
    have hpos : lo < hi:=by
     rcases Nat.lt_or_ge lo hi with h | h
     ·exact h
     ·exact absurd (List.eq_nil_of_length_eq_zero (by omega)) hne
    have hne : cap ≠ lo:=by omega
    simp only [if_neg hne,Option.map_some,Addr.add_lit]
    refine ⟨b,off + lo * sz',rfl,by omega,fun e he => hl e (List.mem_of_mem_take (List.mem_of_mem_drop he)),fun i c e d he hd => ?_⟩
    have hi2:=lt_of_get he
    rw [hlen] at hi2
    have he0 : es0[lo + i]? = some e:=by
     simp only [List.getElem?_drop] at he
     rw [List.getElem?_take_of_lt (by omega)] at he
     exact he
    have hlt:=idx_lt (off:=off) (lt_of_get he0) (by have:=get_len hl he0; have:=lt_of_get hd; omega : c < sz') hcap hN
    have heq : off + (lo + i) * sz' + c = off + lo * sz' + i * sz' + c:=by rw [Nat.add_mul]; omega
    rw [heq] at hlt
    exact ⟨vals[off + lo * sz' + i * sz' + c],by rw [cell_cells hw]; simp [hlt],.inr ⟨_,_,_,hkids (lo + i) c e d _ he0 hd (by rw [heq]; simp [hlt])⟩⟩
  ·cases h
 | _ => simp [Ms.els] at h
end
end Go.Proofs.YtmlinnkaccgcgaaGreat.OM
