/- The own machine: operations that make nothing are sound. -/
import Derived.Test.YtmlinnkaccgcgaaGreatOMChk
import Derived.Laws.StructEq
set_option linter.all false
namespace Go.Proofs.YtmlinnkaccgcgaaGreat.OM
section
variable {P : Program} {κ : Nat → FuncId} {w0 : World} {cl0 : Ini} {S : St} {w : World} {g : Gh} {a : Act} {Γ : Env} {d : Nat}
theorem chkC_ok {v : AV} {x : Value} {m : Ms} (h : chkC v x = true) : RA w g m v x ∧ v.refs = []:=by
 unfold chkC at h
 split at h
 ·simp at h; obtain ⟨rfl,rfl⟩:=h; exact ⟨.v _ _ _ (.int _ _),rfl⟩
 ·simp at h; subst h; exact ⟨.v _ _ _ (.bool _),rfl⟩
 ·rename_i s s'
  simp at h
  obtain rfl : s = s':=ByteArray.ext h
  exact ⟨.v _ _ _ (.str _),rfl⟩
 ·simp at h; obtain ⟨rfl,rfl⟩:=h; exact ⟨.nl _,rfl⟩
 ·exact ⟨.un _,rfl⟩
 ·simp at h; subst h; exact ⟨.tup _ _ (by simp) (fun i a x h => by simp at h),by simp [AV.refs,AV.refsL]⟩
 ·cases h
theorem chkX_ok (R : Rel w0 cl0 S a.tmps w g) {x : PX} {o : Operand} (h : chkX x o = true) : RA w g S.ms (S.ev x) (a.eval o) ∧ Live S.ms (S.ev x):=by
 unfold chkX at h
 split at h
 ·simp at h; subst h; exact ⟨R.av _,fun r hr => R.rfs _ r hr⟩
 ·have:=chkC_ok (w:=w) (g:=g) (m:=S.ms) h
  exact ⟨this.1,fun r hr => by simp [St.ev,this.2] at hr⟩
 ·simp at h; subst h
  exact ⟨.v _ _ _ (.fn _),fun r hr => by simp [St.ev,AV.refs] at hr⟩
 ·cases h
theorem ra_int {m : Ms} {k : Bool} {kd : IntKind} {n : Int} {x : Value} (h : RA w g m (.v k (.int kd n)) x) : x = .int kd n:=by
 cases h with | v _ _ _ h => cases h; rfl
theorem ra_bool {m : Ms} {k b : Bool} {x : Value} (h : RA w g m (.v k (.bool b)) x) : x = .bool b:=by
 cases h with | v _ _ _ h => cases h; rfl
theorem ra_str {m : Ms} {k : Bool} {s : ByteArray} {x : Value} (h : RA w g m (.v k (.str s)) x) : x = .string s:=by
 cases h with | v _ _ _ h => cases h; rfl
theorem asInt_ok {m : Ms} {v : AV} {n : Int} {x : Value} (ha : RA w g m v x) (h : v.asInt = some n) : ∃ k,x = .int k n:=by
 unfold AV.asInt at h
 split at h
 ·simp at h; subst h; exact ⟨_,ra_int ha⟩
 ·cases h
theorem asBool_ok {m : Ms} {v : AV} {b : Bool} {x : Value} (ha : RA w g m v x) (h : v.asBool = some b) : x = .bool b:=by
 unfold AV.asBool at h
 split at h
 ·simp at h; subst h; exact ra_bool ha
 ·cases h
def Gives (P : Program) (w : World) (g : Gh) (m : Ms) (av : AV) (s : Sem Next) : Prop :=
 ∃ v,s.run P w = .ok (.value v) w ∧ RA w g m av v ∧ Live m av
theorem live_v {m : Ms} {k : Bool} {x : D} : Live m (.v k x):=fun r hr => by simp [AV.refs] at hr
theorem intOp_ok {op : BinOp} {k k' : IntKind} {x y : Int} {r : D} (h : binD op (.int k x) (.int k' y) = some r) (t : TypeId) :
  ∃ v,(Go.binOp op t (.int k x) (.int k' y)).run P w = .ok v w ∧ RO w g.cl false r v:=by
 simp only [binD] at h
 cases op
 case shl | shr =>
  simp at h
  obtain ⟨h0,rfl⟩:=h
  simp only [Go.binOp,Op.shift]
  rw [if_neg (by omega)]
  exact ⟨_,rfl,.int _ _⟩
 case andNot => simp at h
 case quo | rem =>
  by_cases hk : k = k'
  ·subst hk
   simp at h
   obtain ⟨h0,rfl⟩:=h
   simp only [Go.binOp,Op.intDiv,ne_eq,not_true,if_false,if_neg h0]
   exact ⟨_,rfl,.int _ _⟩
  ·simp [hk] at h
 case add | sub | mul =>
  by_cases hk : k = k'
  ·subst hk
   simp at h
   subst h
   simp only [Go.binOp,Op.intArith,ne_eq,not_true,if_false]
   exact ⟨_,rfl,.int _ _⟩
  ·simp [hk] at h
 case and | or | xor =>
  by_cases hk : k = k'
  ·subst hk
   simp only [if_true,Option.some.injEq] at h
   subst h
   simp only [Go.binOp,Op.intBits,ne_eq,not_true,if_false]
   exact ⟨_,rfl,.int _ _⟩
  ·simp [hk] at h
 all_goals
  by_cases hk : k = k'
  ·subst hk
   simp only [if_true,Option.some.injEq] at h
   subst h
   simp only [Go.binOp,Op.intCmp,ne_eq,not_true,if_false]
   exact ⟨_,rfl,.bool _⟩
  ·simp [hk] at h
theorem strOp_ok {op : BinOp} {x y : ByteArray} {r : D} (h : binD op (.str x) (.str y) = some r) (t : TypeId) :
  ∃ v,(Go.binOp op t (.string x) (.string y)).run P w = .ok v w ∧ RO w g.cl false r v:=by
 simp only [binD] at h
 cases op
 case add =>
  by_cases hc : ((x.size + y.size : Nat) : Int) > IntKind.i64.max
  ·rw [if_pos hc] at h; cases h
  ·rw [if_neg hc] at h
   cases h
   simp only [Go.binOp,Op.stringOp]
   rw [if_neg hc]
   exact ⟨_,rfl,.str _⟩
 case eql | neq | lss | leq | gtr | geq =>
  simp only [Option.some.injEq] at h
  subst h
  simp only [Go.binOp,Op.stringOp]
  exact ⟨_,rfl,.bool _⟩
 all_goals cases h
theorem run_eqlBool {x y : Bool} {t : TypeId} (ht : P.underlying t = some .bool) (n : Nat) : (Op.equalIn (n + 1) t (.bool x) (.bool y)).run P w = .ok (x == y) w:=by
 simp [Op.equalIn,run_underlying ht]
theorem run_eqFields {m : Ms} : ∀ (ks : List Nat) (fs : List Field) (i d : Nat) (xs ys : List AV) (vx vy : Array Value) (r : Bool),
  plainFs P i fs ks = true → eqCells ks xs ys = some r →
  (∀ (q : Nat) (a : AV) ,xs[q]? = some a → ∃ x,vx[i + q]? = some x ∧ RA w g m a x) → (∀ (q : Nat) (a : AV),ys[q]? = some a → ∃ x,vy[i + q]? = some x ∧ RA w g m a x) →
  (Op.eqFields (d + 1) vx vy fs).run P w = .ok r w:=by
 intro ks
 induction ks with
 | nil =>
  intro fs i d xs ys vx vy r hp he hx hy
  cases fs with
  | nil =>
   cases xs <;> cases ys <;> simp [eqCells] at he
   subst he; simp [Op.eqFields]
  | cons => simp [plainFs] at hp
 | cons k ks ih =>
  intro fs i d xs ys vx vy r hp he hx hy
  cases fs with
  | nil => simp [plainFs] at hp
  | cons f fs =>
   simp only [plainFs,Bool.and_eq_true,bne_iff_ne,ne_eq,beq_iff_eq] at hp
   obtain ⟨⟨⟨hn,ho⟩,hk⟩,hrest⟩:=hp
   have hx' : ∀ a xs',xs = a :: xs' → ∀ (q : Nat) (a : AV),xs'[q]? = some a → ∃ x,vx[i + 1 + q]? = some x ∧ RA w g m a x:=by
    intro a xs' e q b hb; subst e
    have:=hx (q + 1) b (by simpa using hb)
    rwa [show i + (q + 1) = i + 1 + q from by omega] at this
   have hy' : ∀ a xs',ys = a :: xs' → ∀ (q : Nat) (a : AV),xs'[q]? = some a → ∃ x,vy[i + 1 + q]? = some x ∧ RA w g m a x:=by
    intro a xs' e q b hb; subst e
    have:=hy (q + 1) b (by simpa using hb)
    rwa [show i + (q + 1) = i + 1 + q from by omega] at this
   have key : ∀ (u v : Value) (b r' : Bool),vx[i]? = some u → vy[i]? = some v → (isAgg f.type).run P w = .ok false w →
     (Op.equalIn (d + 1) f.type u v).run P w = .ok b w → (Op.eqFields (d + 1) vx vy fs).run P w = .ok r' w →
     (Op.eqFields (d + 1) vx vy (f :: fs)).run P w = .ok (b && r') w:=by
    intro u v b r' h1 h2 h3 h4 h5
    simp only [Op.eqFields,hn,ne_eq,not_false_eq_true,if_true,Sem.run_bind,part,h3,Result.andThen_ok,Bool.false_eq_true,if_false,ho,h1,h2,Sem.run_pure,h4]
    cases b <;> simp [h5]
   unfold eqCells at he
   split at he
   ·rename_i h; cases h
   ·rename_i h; cases h
    split at he
    ·rename_i hkk
     split at he
     ·rename_i r' hr'
      cases he
      subst hkk
      obtain ⟨u,hu1,hu2⟩:=hx 0 _ rfl
      obtain ⟨v,hv1,hv2⟩:=hy 0 _ rfl
      rw [ra_int hu2] at hu1; rw [ra_int hv2] at hv1
      cases hut : P.underlying f.type with
      | none => simp [hut] at hk
      | some t =>
       cases t <;> simp [hut] at hk
       exact key _ _ _ _ hu1 hv1 (by simp [isAgg,run_underlying hut]) (run_equalIn_int w d f.type _ _ _ _ hut) (ih fs (i + 1) d _ _ vx vy r' hrest hr' (hx' _ _ rfl) (hy' _ _ rfl))
     ·cases he
    ·cases he
   ·rename_i h; cases h
    split at he
    ·rename_i r' hr'
     cases he
     obtain ⟨u,hu1,hu2⟩:=hx 0 _ rfl
     obtain ⟨v,hv1,hv2⟩:=hy 0 _ rfl
     rw [ra_bool hu2] at hu1; rw [ra_bool hv2] at hv1
     cases hut : P.underlying f.type with
     | none => simp [hut] at hk
     | some t =>
      cases t <;> simp [hut] at hk
      exact key _ _ _ _ hu1 hv1 (by simp [isAgg,run_underlying hut]) (run_equalIn_bool' w d f.type _ _ hut) (ih fs (i + 1) d _ _ vx vy r' hrest hr' (hx' _ _ rfl) (hy' _ _ rfl))
    ·cases he
   ·rename_i h; cases h
    split at he
    ·rename_i r' hr'
     cases he
     obtain ⟨u,hu1,hu2⟩:=hx 0 _ rfl
     obtain ⟨v,hv1,hv2⟩:=hy 0 _ rfl
     rw [ra_str hu2] at hu1; rw [ra_str hv2] at hv1
     cases hut : P.underlying f.type with
     | none => simp [hut] at hk
     | some t =>
      cases t <;> simp [hut] at hk
      exact key _ _ _ _ hu1 hv1 (by simp [isAgg,run_underlying hut]) (run_equalIn_string w d f.type _ _ hut) (ih fs (i + 1) d _ _ vx vy r' hrest hr' (hx' _ _ rfl) (hy' _ _ rfl))
    ·cases he
   ·cases he
theorem run_eqs {t : TypeId} {ks : List Nat} (ht : plainStruct P t ks = true) {xs ys : List AV} {u v : Value} {m : Ms} {r : Bool}
  (h : eqCells ks xs ys = some r) (hx : RA w g m (.agg xs) u) (hy : RA w g m (.agg ys) v) {op : BinOp} {neg : Bool} (hop : op = if neg then .neq else .eql) (x y : Operand) :
  (do eqGuard op t x y u v; Go.binOp op t u v : Sem Value).run P w = .ok (.bool (if neg then !r else r)) w:=by
 simp only [plainStruct,Bool.and_eq_true,Bool.not_eq_true'] at ht
 obtain ⟨⟨h1,h2⟩,h3⟩:=ht
 cases hu : P.underlying t with
 | none => simp [hu] at h3
 | some d =>
  cases d with
  | struct fs =>
   simp only [hu] at h3
   have hf : P.underlying t = some (.struct (P.fieldsOf t)):=by simp [Program.fieldsOf,hu]
   have hff : P.fieldsOf t = fs:=by simp [Program.fieldsOf,hu]
   cases hx with
   | agg _ vx hlx hxx =>
    cases hy with
    | agg _ vy hly hyy =>
     have he : (Op.equalIn 10000 t (.agg vx) (.agg vy)).run P w = .ok r w:=by
      rw [run_equalIn_agg w 9999 t vx vy hf h1,hff]
      refine run_eqFields (g:=g) (m:=m) ks fs.toList 0 9998 xs ys vx vy r h3 h (fun q a ha => ?_) (fun q a ha => ?_)
      ·have hq:=lt_of_get ha
       refine ⟨vx[q],by simp [show q < vx.size from by omega],hxx q a _ ha (by simp [show q < vx.size from by omega])⟩
      ·have hq:=lt_of_get ha
       refine ⟨vy[q],by simp [show q < vy.size from by omega],hyy q a _ ha (by simp [show q < vy.size from by omega])⟩
     subst hop
     simp only [Sem.run_bind,run_eqGuard_agg w _ t x y vx vy h2,Result.andThen_ok]
     cases neg
     ·simp only [Bool.false_eq_true,if_false,run_eql_struct w t vx vy,he,Result.andThen_ok]
     ·simp only [if_true,run_neq_struct w t vx vy,he,Result.andThen_ok]
  | _ => simp [hu] at h3
theorem len_slice {t e : TypeId} {ty : TypeId} {b : Option Addr} {n c : Nat} (ht : P.underlying t = some (.slice e)) :
  (Builtin.len_ #[t] ty #[.slice b n c]).run P w = .ok (.int .i64 n) w:=by
 simp [Builtin.len_,run_underlying ht,goInt]
theorem len_string {t : TypeId} {ty : TypeId} {s : ByteArray} (ht : P.underlying t = some .string) :
  (Builtin.len_ #[t] ty #[.string s]).run P w = .ok (.int .i64 s.size) w:=by
 simp [Builtin.len_,run_underlying ht,goInt]
end
end Go.Proofs.YtmlinnkaccgcgaaGreat.OM
