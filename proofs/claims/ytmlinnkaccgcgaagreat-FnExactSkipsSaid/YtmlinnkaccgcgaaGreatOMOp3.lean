/- The own machine: operations that make nothing, one by one. -/
import Derived.Test.YtmlinnkaccgcgaaGreatOMOp2
set_option linter.all false
namespace Go.Proofs.YtmlinnkaccgcgaaGreat.OM
section
variable {P : Program} {κ : Nat → FuncId} {w0 : World} {cl0 : Ini} {S : St} {w : World} {g : Gh} {a : Act} {Γ : Env} {d : Nat}
def PureOk (P : Program) (S : St) (w : World) (g : Gh) (a : Act) (av : AV) (rt : Option Rt) (m' : Ms) (op : Op) : Prop :=
 rt = none ∧ m' = S.ms ∧ ∀ o : Oper,o.op = op → Gives P w g S.ms av (execOp a.eval o)
theorem ok_mv (R : Rel w0 cl0 S a.tmps w g) {x : PX} {op : Op} {av : AV} {rt : Option Rt} {m' : Ms} (hc : chkOp P κ (.mv x) op = true)
  (h : opf Γ S.ev d S.ms (.mv x) = some (av,rt,m')) : PureOk P S w g a av rt m' op:=by
 simp [opf] at h; obtain ⟨rfl,rfl,rfl⟩:=h
 refine ⟨rfl,rfl,fun o ho => ?_⟩
 cases op <;> simp [chkOp] at hc
 all_goals
  have:=chkX_ok R hc
  exact ⟨_,by simp [execOp,ho],this.1,this.2⟩
theorem ok_pick (R : Rel w0 cl0 S a.tmps w g) {c x y : PX} {op : Op} {av : AV} {rt : Option Rt} {m' : Ms} (hc : chkOp P κ (.pick c x y) op = true)
  (h : opf Γ S.ev d S.ms (.pick c x y) = some (av,rt,m')) : PureOk P S w g a av rt m' op:=by
 simp only [opf] at h
 split at h
 ·rename_i t ht
  simp at h; obtain ⟨rfl,rfl,rfl⟩:=h
  refine ⟨rfl,rfl,fun o ho => ?_⟩
  cases op <;> simp [chkOp] at hc
  obtain ⟨⟨h1,h2⟩,h3⟩:=hc
  have e1:=asBool_ok (chkX_ok R h1).1 ht
  have e2:=chkX_ok R h2
  have e3:=chkX_ok R h3
  cases t
  ·exact ⟨_,by simp [execOp,ho,e1,asBool],e3.1,e3.2⟩
  ·exact ⟨_,by simp [execOp,ho,e1,asBool],e2.1,e2.2⟩
 ·cases h
theorem ok_bin (R : Rel w0 cl0 S a.tmps w g) {bop : BinOp} {x y : PX} {op : Op} {av : AV} {rt : Option Rt} {m' : Ms} (hc : chkOp P κ (.bin bop x y) op = true)
  (h : opf Γ S.ev d S.ms (.bin bop x y) = some (av,rt,m')) : PureOk P S w g a av rt m' op:=by
 simp only [opf] at h
 split at h
 ·rename_i k1 d1 k2 d2 hx hy
  split at h
  ·rename_i r hr
   simp at h; obtain ⟨rfl,rfl,rfl⟩:=h
   refine ⟨rfl,rfl,fun o ho => ?_⟩
   cases op with
   | binOp bop' t ox oy ty => ?_
   | _ => simp [chkOp] at hc
   simp [chkOp] at hc
   obtain ⟨⟨rfl,h2⟩,h3⟩:=hc
   have e2:=(chkX_ok R h2).1
   have e3:=(chkX_ok R h3).1
   rw [hx] at e2; rw [hy] at e3
   cases d1 with
   | int =>
    cases d2 with
    | int =>
     obtain ⟨v,h5,h6⟩:=intOp_ok (P:=P) (w:=w) (g:=g) hr t
     exact ⟨v,by simp [execOp,ho,ra_int e2,ra_int e3,eqGuard_at_int,h5],.v _ _ _ h6,live_v⟩
    | _ => simp [binD] at hr
   | str =>
    cases d2 with
    | str =>
     obtain ⟨v,h5,h6⟩:=strOp_ok (P:=P) (w:=w) (g:=g) hr t
     exact ⟨v,by simp [execOp,ho,ra_str e2,ra_str e3,eqGuard_at_string,h5],.v _ _ _ h6,live_v⟩
    | _ => simp [binD] at hr
   | _ => simp [binD] at hr
  ·cases h
 ·cases h
theorem ok_eqs (R : Rel w0 cl0 S a.tmps w g) {neg : Bool} {ks : List Nat} {x y : PX} {op : Op} {av : AV} {rt : Option Rt} {m' : Ms}
  (hc : chkOp P κ (.eqs neg ks x y) op = true) (h : opf Γ S.ev d S.ms (.eqs neg ks x y) = some (av,rt,m')) : PureOk P S w g a av rt m' op:=by
 simp only [opf] at h
 split at h
 ·rename_i xs ys hx hy
  split at h
  ·rename_i r hr
   simp at h; obtain ⟨rfl,rfl,rfl⟩:=h
   refine ⟨rfl,rfl,fun o ho => ?_⟩
   cases op <;> simp [chkOp] at hc
   obtain ⟨⟨⟨h1,h2⟩,h3⟩,h4⟩:=hc
   have e2:=(chkX_ok R h2).1
   have e3:=(chkX_ok R h3).1
   rw [hx] at e2; rw [hy] at e3
   rename_i bop t ox oy ty
   have:=run_eqs h4 hr e2 e3 (by simpa using h1) ox oy
   simp only [Sem.run_bind] at this
   exact ⟨_,by simp only [execOp,ho,Sem.run_bind,this,Result.andThen_ok,Sem.run_pure],.v _ _ _ (.bool _),live_v⟩
  ·cases h
 ·cases h
theorem ok_eqb (R : Rel w0 cl0 S a.tmps w g) {neg : Bool} {x y : PX} {op : Op} {av : AV} {rt : Option Rt} {m' : Ms}
  (hc : chkOp P κ (.eqb neg x y) op = true) (h : opf Γ S.ev d S.ms (.eqb neg x y) = some (av,rt,m')) : PureOk P S w g a av rt m' op:=by
 simp only [opf] at h
 split at h
 ·rename_i b1 b2 hx hy
  simp at h; obtain ⟨rfl,rfl,rfl⟩:=h
  refine ⟨rfl,rfl,fun o ho => ?_⟩
  cases op <;> simp [chkOp] at hc
  obtain ⟨⟨⟨h1,h2⟩,h3⟩,h4⟩:=hc
  have e2:=asBool_ok (chkX_ok R h2).1 hx
  have e3:=asBool_ok (chkX_ok R h3).1 hy
  rename_i bop t ox oy ty
  have hu : P.underlying t = some .bool:=by
   cases hu : P.underlying t with
   | none => simp [hu] at h4
   | some u => cases u <;> simp [hu] at h4 ⊢
  have he : (Op.equal t (.bool b1) (.bool b2)).run P w = .ok (b1 == b2) w:=run_eqlBool hu 9999
  subst h1
  cases neg
  ·exact ⟨_,by simp [execOp,ho,e2,e3,eqGuard_at_bool,Go.binOp,he],.v _ _ _ (.bool _),live_v⟩
  ·exact ⟨_,by simp [execOp,ho,e2,e3,eqGuard_at_bool,Go.binOp,he],.v _ _ _ (.bool _),live_v⟩
 ·cases h
theorem ok_un (R : Rel w0 cl0 S a.tmps w g) {uop : UnOp} {x : PX} {op : Op} {av : AV} {rt : Option Rt} {m' : Ms}
  (hc : chkOp P κ (.un uop x) op = true) (h : opf Γ S.ev d S.ms (.un uop x) = some (av,rt,m')) : PureOk P S w g a av rt m' op:=by
 simp only [opf] at h
 split at h
 ·rename_i k d1 hx
  split at h
  ·rename_i r hr
   simp at h; obtain ⟨rfl,rfl,rfl⟩:=h
   refine ⟨rfl,rfl,fun o ho => ?_⟩
   cases op <;> simp [chkOp] at hc
   obtain ⟨rfl,h2⟩:=hc
   have e2:=(chkX_ok R h2).1
   rw [hx] at e2
   cases d1 with
   | int =>
    cases uop <;> simp [unD] at hr
    subst hr
    exact ⟨_,by simp [execOp,ho,ra_int e2,Op.unary,Op.intArith],.v _ _ _ (.int _ _),live_v⟩
   | bool =>
    cases uop <;> simp [unD] at hr
    subst hr
    exact ⟨_,by simp [execOp,ho,ra_bool e2,Op.unary],.v _ _ _ (.bool _),live_v⟩
   | _ => simp [unD] at hr
  ·cases h
 ·cases h
theorem call_builtin {b : Builtin} {args : List Operand} {tys : List TypeId} {c : Call} (h1 : c.callee = .builtin b) (h2 : c.args.toList = args) (h3 : c.argTypes.toList = tys)
  {o : Oper} (ho : o.op = .call c) : ∃ cs,execOp a.eval o = builtin b tys.toArray o.type cs (args.map a.eval).toArray:=by
 obtain ⟨cal,ar,at'⟩:=c
 obtain ⟨ar⟩:=ar
 obtain ⟨at'⟩:=at'
 simp only at h1 h2 h3
 subst h1 h2 h3
 refine ⟨(ar.toArray.map fun | .const _ => true | _ => false),?_⟩
 simp only [execOp,ho,resolve,pure_bind,invoke,List.map_toArray]
 rfl
theorem ok_len (R : Rel w0 cl0 S a.tmps w g) {x : PX} {op : Op} {av : AV} {rt : Option Rt} {m' : Ms}
  (hc : chkOp P κ (.len x) op = true) (h : opf Γ S.ev d S.ms (.len x) = some (av,rt,m')) : PureOk P S w g a av rt m' op:=by
 cases op with
 | call c => ?_
 | _ => simp [chkOp] at hc
 simp only [chkOp] at hc
 split at hc
 ·rename_i a1 t1 hcal hargs htys
  simp only [Bool.and_eq_true] at hc
  obtain ⟨h1,h2⟩:=hc
  have e1:=(chkX_ok R h1).1
  simp only [opf] at h
  split at h
  ·rename_i sz es hes
   simp at h; obtain ⟨rfl,rfl,rfl⟩:=h
   refine ⟨rfl,rfl,fun o ho => ?_⟩
   obtain ⟨cs,hx⟩:=call_builtin hcal hargs htys ho
   obtain ⟨b,cap,hv,_⟩:=els_ok R e1 hes
   cases hu : P.underlying t1 with
   | none => simp [hu] at h2
   | some u =>
    cases u <;> simp [hu] at h2
    rw [hx]
    refine ⟨_,?_,.v _ _ _ (.int _ _),live_v⟩
    simp [builtin,hv,len_slice hu]
  ·cases h
 ·cases hc
theorem ok_lens (R : Rel w0 cl0 S a.tmps w g) {x : PX} {op : Op} {av : AV} {rt : Option Rt} {m' : Ms}
  (hc : chkOp P κ (.lens x) op = true) (h : opf Γ S.ev d S.ms (.lens x) = some (av,rt,m')) : PureOk P S w g a av rt m' op:=by
 cases op with
 | call c => ?_
 | _ => simp [chkOp] at hc
 simp only [chkOp] at hc
 split at hc
 ·rename_i a1 t1 hcal hargs htys
  simp only [Bool.and_eq_true] at hc
  obtain ⟨h1,h2⟩:=hc
  have e1:=(chkX_ok R h1).1
  simp only [opf] at h
  split at h
  ·rename_i k s hes
   simp at h; obtain ⟨rfl,rfl,rfl⟩:=h
   refine ⟨rfl,rfl,fun o ho => ?_⟩
   obtain ⟨cs,hx⟩:=call_builtin hcal hargs htys ho
   rw [hes] at e1
   cases hu : P.underlying t1 with
   | none => simp [hu] at h2
   | some u =>
    cases u <;> simp [hu] at h2
    rw [hx]
    refine ⟨_,?_,.v _ _ _ (.int _ _),live_v⟩
    simp [builtin,ra_str e1,len_string hu]
  ·cases h
 ·cases hc
theorem ok_ld (R : Rel w0 cl0 S a.tmps w g) {agg : Bool} {n : Nat} {x : PX} {op : Op} {av : AV} {rt : Option Rt} {m' : Ms}
  (hc : chkOp P κ (.ld agg n x) op = true) (h : opf Γ S.ev d S.ms (.ld agg n x) = some (av,rt,m')) : PureOk P S w g a av rt m' op:=by
 cases op with
 | load t ox => ?_
 | _ => simp [chkOp] at hc
 simp only [chkOp] at hc
 split at hc
 ·rename_i agg' n' by' ha hs
  simp only [Bool.and_eq_true,beq_iff_eq] at hc
  obtain ⟨⟨rfl,rfl⟩,h1⟩:=hc
  have e1:=(chkX_ok R h1).1
  simp only [opf] at h
  split at h
  ·rename_i l hl
   obtain ⟨b,off,xs,hv,hxl,havl,hcell,hra⟩:=loadC_ok R e1 hl
   have hsz : ∀ w1,(sizeOf t).run P w1 = .ok n w1:=by
    intro w1
    unfold sizeT at hs
    split at hs
    ·rename_i i hi; simp at hs; simp [sizeOf,typeInfo,hi,hs.1]
    ·cases hs
   unfold aggT at ha
   cases agg
   ·have hag : (isAgg t).run P w = .ok false w:=by
     cases hu : P.underlying t with
     | none => simp [hu] at ha
     | some u => cases u <;> simp [hu] at ha <;> simp [isAgg,run_underlying hu]
    simp only [Bool.false_eq_true,if_false] at h
    split at h
    ·rename_i a1
     simp at h; obtain ⟨rfl,rfl,rfl⟩:=h
     refine ⟨rfl,rfl,fun o ho => ?_⟩
     simp at havl; subst havl
     obtain ⟨x1,rfl⟩ : ∃ x1,xs = [x1]:=by
      match xs,hxl with
      | [x1],_ => exact ⟨x1,rfl⟩
     have h3:=hra 0 a1 x1 rfl rfl
     have h4:=hcell 0 x1 rfl
     exact ⟨x1,by simp [execOp,ho,Instr.loadAt,hv,Instr.sureAddr,loadVar,hag,show w.cell? ⟨b,off,none⟩ = some x1 from h4],h3.1,h3.2⟩
    ·cases h
   ·have hag : (isAgg t).run P w = .ok true w:=by
     cases hu : P.underlying t with
     | none => simp [hu] at ha
     | some u => cases u <;> simp [hu] at ha <;> simp [isAgg,run_underlying hu]
    simp at h; obtain ⟨rfl,rfl,rfl⟩:=h
    refine ⟨rfl,rfl,fun o ho => ?_⟩
    have hld:=loadCells_run P hxl hcell
    refine ⟨.agg xs.toArray,by simp [execOp,ho,Instr.loadAt,hv,Instr.sureAddr,loadVar,hag,hsz w,hld],.agg _ _ (by simp; omega) (fun i av x h1 h2 => (hra i av x h1 (by simpa using h2)).1),?_⟩
    intro r hr
    simp only [AV.refs] at hr
    have : ∀ (l : List AV),(∀ (k : Nat) av,l[k]? = some av → Live S.ms av) → r ∈ AV.refsL l → ((S.ms r).1).isSome:=by
     intro l
     induction l with
     | nil => intro _ h; simp [AV.refsL] at h
     | cons b bs ih =>
      intro h1 h2
      simp only [AV.refsL,List.mem_append] at h2
      rcases h2 with h2 | h2
      ·exact h1 0 b rfl r h2
      ·exact ih (fun k av hk => h1 (k + 1) av hk) h2
    refine this l (fun k av hk => ?_) hr
    have hlt:=lt_of_get hk
    exact (hra k av xs[k] hk (by simp [show k < xs.length from by omega])).2
  ·cases h
 ·cases hc
end
end Go.Proofs.YtmlinnkaccgcgaaGreat.OM
