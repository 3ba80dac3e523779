/- The own machine: from a function's answer to what a law's statement asks. -/
import Derived.Test.YtmlinnkaccgcgaaGreatOMOpen
set_option linter.all false
namespace Go.Proofs.YtmlinnkaccgcgaaGreat.OM
open Go.ChangeShapes Go.RowKit
section
variable {P : Program} {H : Type} {enc : TypeId × Value → H} {W : World}
def ArgT (P : Program) (t : TypeId) (x : V) : Prop:=∃ ds,HasT P t ds ∧ match P.underlying t with
 | some (.struct _) => x = .st (ds.map (.ro false))
 | _ => ∃ d,ds = [d] ∧ x = .one (.ro false d)
inductive ArgsT (P : Program) : List TypeId → List V → Prop
 | nil : ArgsT P [] []
 | cons {t ts x xs} : ArgT P t x → ArgsT P ts xs → ArgsT P (t :: ts) (x :: xs)
def inGh (W : World) : Gh:={ cl:=fun b => if b < W.heap.size then .imm else .no,hd:=fun _ _ _ => .nilIface,bk:=fun _ => 0 }
theorem ro_any (ds : List D) : (ds.map (C.ro false)).any C.isOwn = false:=by simp [C.isOwn]
theorem arg_open {S : List TypeId} (hS : closedT P S = true) {t : TypeId} (ht : t ∈ S) {v : Value} {d : DataW H} {ps : List MemPlace} {r : Reach} {base : Nat} (i : Nat) (hv : Value.okWide P W r base t v)
  (h : DataW.Trod enc P W 0 (fun _ => true) true t v d ps) : ∃ x,ArgT P t x ∧ RVa W (inGh W) i x v:=by
 obtain ⟨fuel,h⟩:=h
 obtain ⟨ds,h1,h2,h3,h4⟩:=trod_open (cl:=(inGh W).cl) hS (fun b hb => by simp [inGh,hb]) fuel t v.cells.toList true _ ht h
 have hp:=List.all_eq_true.1 hS t ht
 unfold plainAt at hp
 unfold Value.okWide at hv
 have one : (∀ fs,P.underlying t ≠ some (.struct fs)) → v.cells = #[v] → P.cellsOf t = 1 → ∃ x,ArgT P t x ∧ RVa W (inGh W) i x v:=by
  intro hn hc h5
  rw [h3,h5] at h2
  match ds,h2 with
  | [dd],_ =>
   refine ⟨.one (.ro false dd),⟨[dd],h1,?_⟩,⟨.ro _ _ _ (h4 0 dd v rfl (by rw [hc]; rfl)),hc⟩,fun h => by simp [V.flat,C.isOwn] at h⟩
   split
   ·rename_i fs hu; exact absurd hu (hn fs)
   ·exact ⟨dd,rfl,rfl⟩
 split at hp
 ·rename_i hu
  refine one (fun fs e => by rw [hu] at e; cases e) ?_ (by simpa using hp)
  rw [hu] at hv
  simp only [Cell.okWide,hu] at hv
  cases v <;> simp [Cell.ok,hu] at hv <;> rfl
 ·rename_i k hu
  refine one (fun fs e => by rw [hu] at e; cases e) ?_ (by simpa using hp)
  rw [hu] at hv
  simp only [Cell.okWide,hu] at hv
  cases v <;> simp [Cell.ok,hu] at hv <;> rfl
 ·rename_i hu
  refine one (fun fs e => by rw [hu] at e; cases e) ?_ (by simpa using hp)
  rw [hu] at hv
  simp only [Cell.okWide,hu] at hv
  cases v <;> simp [Cell.ok,hu] at hv <;> rfl
 ·rename_i e hu
  simp only [Bool.and_eq_true,beq_iff_eq] at hp
  refine one (fun fs e => by rw [hu] at e; cases e) ?_ hp.2
  rw [hu] at hv
  simp only [Cell.okWide,hu] at hv
  cases v <;> simp [Cell.ok,hu] at hv <;> rfl
 ·rename_i fs hu
  rw [hu] at hv
  obtain ⟨cs,rfl,_⟩:=hv
  refine ⟨.st (ds.map (.ro false)),⟨ds,h1,by rw [hu]⟩,⟨cs,rfl,by rw [List.length_map]; exact h2,fun k c x hc hx => ?_⟩,fun h => by simp only [V.flat] at h; rw [ro_any] at h; cases h⟩
  rw [List.getElem?_map] at hc
  cases hd : ds[k]? with
  | none => rw [hd] at hc; cases hc
  | some dd =>
   rw [hd] at hc; simp at hc; subst hc
   exact .ro _ _ _ (h4 k dd x hd hx)
 ·cases hp
theorem args_open {S : List TypeId} (hS : closedT P S = true) : ∀ (ts : List TypeId) (vs : List Value) (ds : List (DataW H)) (ps : List MemPlace) (n : Nat),(∀ t ∈ ts,t ∈ S) →
  (∀ (j : Nat) (t : TypeId) (v : Value),ts[j]? = some t → vs[j]? = some v → ∃ r base,Value.okWide P W r base t v) →
  DataW.TrodAll enc P W 0 (fun _ => true) true ts vs ds ps → ∃ xs,ArgsT P ts xs ∧ vs.length = xs.length ∧ ∀ (i : Nat) (x : V) (v : Value),xs[i]? = some x → vs[i]? = some v → RVa W (inGh W) (n + i) x v:=by
 intro ts
 induction ts with
 | nil =>
  intro vs ds ps n _ _ h
  obtain ⟨rfl,_,_⟩:=trodAll_nil h
  exact ⟨[],.nil,rfl,fun i x v hx => by simp at hx⟩
 | cons t ts ih =>
  intro vs ds ps n hts hv h
  obtain ⟨v,vs',d,ds',p,q,rfl,rfl,rfl,h1,h2⟩:=trodAll_cons h
  obtain ⟨r,base,hv0⟩:=hv 0 t v rfl rfl
  obtain ⟨x,h3,h4⟩:=arg_open hS (hts t (by simp)) n hv0 h1
  obtain ⟨xs,h5,h6,h7⟩:=ih vs' ds' q (n + 1) (fun t ht => hts t (by simp [ht])) (fun j t v h1 h2 => hv (j + 1) t v (by simpa using h1) (by simpa using h2)) h2
  refine ⟨x :: xs,.cons h3 h5,by simp [h6],fun i y u hy hu => ?_⟩
  cases i with
  | zero => simp at hy hu; subst hy; subst hu; exact h4
  | succ i =>
   have:=h7 i y u (by simpa using hy) (by simpa using hu)
   rwa [show n + (i + 1) = n + 1 + i from by omega]
theorem args_stay (hl : laidOutB P = true) : ∀ (ts : List TypeId) (vs : List Value) (ds : List (DataW H)) (ps : List MemPlace) {W' : World} {sp : Nat → Bool},
  (∀ t ∈ ts,P.readableRec t = true ∧ t < P.types.size) → (∀ p ∈ ps,W.sameAt W' p) → (∀ p ∈ ps,sp p.block = true) →
  DataW.TrodAll enc P W 0 (fun _ => true) true ts vs ds ps → DataW.TrodAll enc P W' 0 sp true ts vs ds ps:=by
 intro ts
 induction ts with
 | nil =>
  intro vs ds ps W' sp _ _ _ h
  obtain ⟨rfl,rfl,rfl⟩:=trodAll_nil h
  exact trodAll_mk0
 | cons t ts ih =>
  intro vs ds ps W' sp hts hs hsp h
  obtain ⟨v,vs',d,ds',p,q,rfl,rfl,rfl,h1,h2⟩:=trodAll_cons h
  exact trodAll_cons_mk (WideElems.Trod_stays hl (hts t (by simp)).1 (hts t (by simp)).2 h1 (fun p hp => hs p (by simp [hp])) (fun p hp => hsp p (by simp [hp])))
   (ih vs' ds' q (fun t ht => hts t (by simp [ht])) (fun p hp => hs p (by simp [hp])) (fun p hp => hsp p (by simp [hp])) h2)
theorem same_place {W' : World} (h : ∀ b,b < W.heap.size → W'.heap[b]? = W.heap[b]?) {p : MemPlace} (hp : p.block < W.heap.size) : W.sameAt W' p:=by
 cases p with
 | cell b o => simp only [World.sameAt,World.cell?]; rw [h b hp]
 | map b => exact h b hp
theorem law_contract {S : List TypeId} (hS : closedT P S = true) (hl : laidOutB P = true) {f : FuncId} {fn : Func} {s : ChangeSpec} {args : Array Value} {ds gs : List (DataW H)} {before : List MemPlace} {tb : TypeId}
  (hpar : (fn.params.toList.all fun t => S.contains t && P.readableRec t && decide (t < P.types.size)) = true)
  (hok : ∀ xs,ArgsT P fn.params.toList xs → OK P f xs (.one (.ro false (.bool true))) [])
  (hval : ∀ (j : Nat) t v,fn.params[j]? = some t → args[j]? = some v → ∃ r base,Value.okWide P W r base t v)
  (hW : DataW.Whole enc P fn.params.toList s.vars false W args.toList ds gs before) (hvars : s.vars = []) (hres : fn.resultTypes = #[tb]) (htb : P.underlying tb = some .bool)
  (hs : ds.length = fn.params.toList.length → (s.fn H ds).results = [.lit (.bool true)] ∧ (s.fn H ds).args = ds ∧ (s.fn H ds).vars = []) :
  Calls P f args W fun e W' => ∃ v,e = .returned v ∧ s.post enc P fn false true false false W args v W':=by
 have hW':=hW
 obtain ⟨p,q,hA,hV,rfl,hfz,hnd⟩:=hW
 rw [hvars] at hV
 obtain ⟨rfl,rfl⟩:=trodVars_none hV
 rw [List.append_nil] at hW'
 have hpar' : ∀ t ∈ fn.params.toList,t ∈ S ∧ P.readableRec t = true ∧ t < P.types.size:=fun t ht => by
  have:=List.all_eq_true.1 hpar t ht
  simp only [Bool.and_eq_true,List.contains_iff_mem,decide_eq_true_eq] at this
  exact ⟨this.1.1,this.1.2,this.2⟩
 obtain ⟨xs,h1,h2,h3⟩:=args_open hS fn.params.toList args.toList ds p 0 (fun t ht => (hpar' t ht).1)
  (fun j t v h1 h2 => hval j t v (by simpa using h1) (by simpa using h2)) hA
 have hlen : ds.length = fn.params.toList.length:=by
  have : ∀ (ts : List TypeId) (vs : List Value) (ds : List (DataW H)) (ps : List MemPlace),DataW.TrodAll enc P W 0 (fun _ => true) true ts vs ds ps → ds.length = ts.length:=by
   intro ts
   induction ts with
   | nil => intro vs ds ps h; obtain ⟨_,rfl,_⟩:=trodAll_nil h; rfl
   | cons t ts ih => intro vs ds ps h; obtain ⟨v,vs',d,ds',p,q,_,rfl,_,_,h2⟩:=trodAll_cons h; simp [ih _ _ _ h2]
  exact this _ _ _ _ hA
 obtain ⟨e1,e2,e3⟩:=hs hlen
 refine (hok xs h1 W args (inGh W) (by simpa using h2) (fun b hb => ?_) (fun i x v hx hv => ?_)).mono fun e W' he => ?_
 ·simp only [inGh,ne_eq] at hb
  by_cases h : b < W.heap.size
  ·exact h
  ·simp [h] at hb
 ·have:=h3 i x v hx (by simpa using hv)
  rwa [Nat.zero_add] at this
 ·obtain ⟨v,g',rfl,hr,hL⟩:=he
  have hv : v = .bool true:=by
   obtain ⟨h5,_⟩:=hr
   cases h5 with
   | ro _ _ _ h6 => cases h6; rfl
  subst hv
  have hb : ∀ b,b < W.heap.size → W'.heap[b]? = W.heap[b]?:=fun b hb => hL.fr b hb (by simp [inGh,hb,Cls.mine])
  have hbefore : ∀ pp ∈ p,pp.block < W.heap.size:=fun pp hp => hW'.lt pp hp
  refine ⟨_,rfl,ds,[],p,[],p,[],hW',?_,?_,?_,?_,fun h => by cases h⟩
  ·rw [hres,List.append_nil,e1]
   exact trodAll_cons_mk (shut_bool htb _) trodAll_mk0
  ·rw [List.append_nil,e2]
   exact args_stay hl _ _ _ _ (fun t ht => (hpar' t ht).2) (fun pp hp => same_place hb (hbefore pp hp)) (fun pp hp => by simpa using hbefore pp hp) hA
  ·rw [hvars,List.append_nil,e3]; rfl
  ·refine ⟨hL.sd.os,hL.sd.out,fun i hi => ?_⟩
   rw [hb i hi]
   split <;> simp_all
def fieldsOf (P : Program) (t : TypeId) : Option (List (Nat × Nat × Nat)):=match P.underlying t with
 | some (.struct fs) => some (fs.toList.map fun f => (f.type,f.offset,P.cellsOf f.type))
 | _ => none
theorem list_dec {α : Type} {f : α → List D} {ok : α → Prop} : ∀ {es : List (List D)},(∀ x ∈ es,∃ y,x = f y ∧ ok y) → ∃ l : List α,es = l.map f ∧ l.length = es.length ∧ ∀ y ∈ l,ok y:=by
 intro es
 induction es with
 | nil => intro _; exact ⟨[],rfl,rfl,fun y hy => by simp at hy⟩
 | cons x es ih =>
  intro h
  obtain ⟨y,rfl,hy⟩:=h x (by simp)
  obtain ⟨l,rfl,h2,h3⟩:=ih fun z hz => h z (by simp [hz])
  refine ⟨y :: l,rfl,by simp,fun z hz => ?_⟩
  rcases List.mem_cons.1 hz with rfl | hz
  ·exact hy
  ·exact h3 z hz
theorem wf_i64 {n : Int} (h : (Lit.int .i64 n).wf = true) : -9223372036854775808 ≤ n ∧ n ≤ 9223372036854775807:=by
 simpa [Lit.wf,IntKind.min,IntKind.max,IntKind.signed,IntKind.bits] using h
theorem wf_u8 {n : Int} (h : (Lit.int .u8 n).wf = true) : 0 ≤ n ∧ n ≤ 255:=by
 simpa [Lit.wf,IntKind.min,IntKind.max,IntKind.signed,IntKind.bits] using h
end
end Go.Proofs.YtmlinnkaccgcgaaGreat.OM
