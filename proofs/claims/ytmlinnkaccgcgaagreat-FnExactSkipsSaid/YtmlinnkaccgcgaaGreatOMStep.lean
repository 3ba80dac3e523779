/- The own machine: one step of a region. -/
import Derived.Test.YtmlinnkaccgcgaaGreatOMMv
set_option linter.all false
namespace Go.Proofs.YtmlinnkaccgcgaaGreat.OM
section
variable {P : Program} {κ : Nat → FuncId} {w0 : World} {cl0 : Ini} {S : St} {w : World} {g : Gh} {a : Act} {Γ : Env} {d : Nat}
def UponR (P : Program) (K : Value → World → Prop) : Result Next → Prop
 | .ok (.value v) w' => K v w'
 | .ok .skip w' => K undef w'
 | .ok (.enter f args) w' => Calls P f args w' fun e w'' => ∃ v,e = .returned v ∧ K v w''
 | _ => False
structure GOk (P : Program) (κ : Nat → FuncId) (Γ : Env) : Prop where
 kap : κ = OM.kap
 ok : ∀ f xs r us,Γ f xs = some (r,us) → OK P (κ f) xs r us
 body : ∀ f xs y,Γ f xs = some y → bodyOk P (κ f) = true
theorem argVs_ok (R : Rel w0 cl0 S a.tmps w g) {lent bl : Bool} {ex : Nat → Bool} : ∀ (as : List AV) (vs : List Value) (xs : List V) (i : Nat),as.length = vs.length →
  (∀ (k : Nat) (av : AV) (x : Value),as[k]? = some av → vs[k]? = some x → RA w g S.ms av x) → argVs S.ms [] i as = some xs → (lentAny [] i as = true → lent = true) → (as.any AV.hasFv = true → bl = true) → (∀ av ∈ as,∀ r ∈ av.refs,ex r = false) →
  xs.length = vs.length ∧ ∀ (k : Nat) (x : V) (v : Value),xs[k]? = some x → vs[k]? = some v → RVa w (g.lend lent bl ex) (i + k) x v:=by
 intro as
 induction as with
 | nil => intro vs xs i hl hra h hlent hfv hex; simp [argVs] at h; subst h; cases vs <;> simp at hl ⊢
 | cons av as ih =>
  intro vs xs i hl hra h hlent hfv hex
  cases vs with
  | nil => simp at hl
  | cons v vs =>
   simp only [argVs,List.contains_nil] at h
   cases h1 : argV S.ms false av with
   | none => simp [h1] at h
   | some x =>
    simp only [h1] at h
    cases h2 : argVs S.ms [] (i + 1) as with
    | none => simp [h2] at h
    | some xs2 =>
     simp only [h2] at h
     simp at h; subst h
     have hl1 : av.lent = true → lent = true:=fun hh => hlent (by simp [lentAny,hh])
     have hl2 : lentAny [] (i + 1) as = true → lent = true:=fun hh => hlent (by simp [lentAny,hh])
     have hf1 : av.hasFv = true → bl = true:=fun hh => hfv (by simp [hh])
     have hf2 : as.any AV.hasFv = true → bl = true:=fun hh => hfv (by rw [List.any_cons,hh,Bool.or_true])
     obtain ⟨q1,q2⟩:=ih vs xs2 (i + 1) (by simpa using hl) (fun k av x hk hx => hra (k + 1) av x hk hx) h2 hl2 hf2 (fun av hv => hex av (List.mem_cons_of_mem _ hv))
     refine ⟨by simp [q1],fun k y z hy hz => ?_⟩
     cases k with
     | zero => simp at hy hz; subst hy; subst hz; exact argV_ok R (hra 0 av v rfl rfl) h1 hl1 hf1 (hex _ (List.mem_cons_self ..)) i
     | succ k =>
      have:=q2 k y z hy hz
      rwa [show i + (k + 1) = i + 1 + k from by omega]
theorem ok_call (R : Rel w0 cl0 S a.tmps w g) {f : Nat} {io : List Nat} {args : List PX} {op : Op} {av : AV} {rt : Option Rt} {m' : Ms} (hn' : rt.isSome → (m' d).1 = none)
  (hΓ : GOk P κ Γ)
  (hc : chkOp P κ (.call f io args) op = true) (h : opf Γ S.ev d S.ms (.call f io args) = some (av,rt,m')) (o : Oper) (ho : o.op = op) :
  UponR P (fun v w' => Post w0 cl0 S a.tmps d av rt m' v w') ((execOp a.eval o).run P w):=by
 cases op with
 | call c => ?_
 | _ => simp [chkOp] at hc
 obtain ⟨callee,cargs,ctys⟩:=c
 obtain ⟨cargs⟩:=cargs
 simp only [chkOp] at hc
 split at hc
 ·rename_i f'
  simp only [Bool.and_eq_true,beq_iff_eq] at hc
  obtain ⟨⟨hk,hxs⟩,hfn⟩:=hc
  subst hk
  split at hfn
  ·rename_i fn hfun
   simp only [Bool.and_eq_true,bne_iff_ne,ne_eq] at hfn
   obtain ⟨hbody,hname⟩:=hfn
   have hrun : (execOp a.eval o).run P w = .ok (.enter (κ f) (cargs.map a.eval).toArray) w:=by
    have hbn : fn.body.isNone = false:=by cases hb : fn.body <;> simp_all
    have hnm : (fn.name == "runtime.NumGoroutine") = false:=by simpa using hname
    simp only [execOp,ho,resolve,Act.eval,Deferred.ofValue,pure_bind,invoke,callFunc,Sem.run_bind,run_program,Result.andThen_ok,hfun]
    simp [hnm,hbn]
   rw [hrun]
   obtain ⟨hlx,hgx⟩:=chkXs_get args cargs hxs
   simp only [opf] at h
   split at h
   ·split at h
    ·rename_i xs hargs
     split at h
     ·rename_i r us hg
      split at h
      ·rename_i hcond
       simp only [Bool.and_eq_true] at hcond
       obtain ⟨hpl,hok⟩:=hcond
       split at h
       ·simp at h; obtain ⟨rfl,rfl,rfl⟩:=h
        have hra : ∀ (k : Nat) (av : AV) (x : Value),(args.map S.ev)[k]? = some av → (cargs.map a.eval)[k]? = some x → RA w g S.ms av x:=by
         intro k av x h1 h2
         simp only [List.getElem?_map,Option.map_eq_some_iff] at h1 h2
         obtain ⟨px,h1,rfl⟩:=h1
         obtain ⟨ox,h2,rfl⟩:=h2
         exact (chkX_ok R (hgx k px ox h1 h2)).1
        obtain ⟨q1,q2⟩:=argVs_ok (lent:=lentAny [] 0 (args.map S.ev)) (bl:=true) (ex:=fun _ => false) R (args.map S.ev) (cargs.map a.eval) xs 0 (by simpa using hlx) hra hargs (fun h => h) (fun _ => rfl) (fun _ _ _ _ => rfl)
        have:=hΓ.ok f xs r [] hg w (cargs.map a.eval).toArray (g.lend (lentAny [] 0 (args.map S.ev)) true fun _ => false) (by simpa using q1.symm)
         (fun b hb => R.bd b (fun e => hb (Gh.lend_no e))) (fun i x v hx hv => by
          have:=q2 i x v hx (by simpa using hv)
          rwa [Nat.zero_add] at this)
        refine this.mono (fun e w' he => ?_)
        obtain ⟨v,g',rfl,hr,hL⟩:=he
        exact ⟨v,rfl,callPost R hpl hok hr hL hn'⟩
       ·cases h
      ·cases h
     ·cases h
    ·cases h
   ·split at h
    ·cases h
    ·rename_i a0 rest hargs0
     split at h
     ·cases h
     rename_i hptr0
     split at h
     ·rename_i x0 m1 hout
      split at h
      ·rename_i xs hargs
       ·split at h
        ·rename_i r us hg
         split at h
         ·rename_i hpl
          simp only [Bool.and_eq_true] at hpl
          obtain ⟨hpl,hok3⟩:=hpl
          split at h
          ·rename_i m2 hu
           simp at h; obtain ⟨rfl,rfl,rfl⟩:=h
           cases args with
           | nil => simp at hargs0
           | cons px args =>
            simp only [List.map_cons,List.cons.injEq] at hargs0
            obtain ⟨rfl,rfl⟩:=hargs0
            cases cargs with
            | nil => simp at hlx
            | cons o0 cargs =>
             have hx0 : chkX px o0 = true:=hgx 0 px o0 rfl rfl
             have hgx' : ∀ (k : Nat) (x : PX) (o : Operand),args[k]? = some x → cargs[k]? = some o → chkX x o = true:=fun k x o h1 h2 => hgx (k + 1) x o h1 h2
             have hlx' : args.length = cargs.length:=by simpa using hlx
             obtain ⟨hon,hop,hot⟩:=outV_own hout
             obtain ⟨g1,R1,T1,hv0⟩:=outV_ok R (chkX_ok R hx0).1 hout 0
             have hra0 : ∀ {w : World} {g : Gh},Rel w0 cl0 { S with ms:=m1 } a.tmps w g → RA w g m1 (S.ev px) (a.eval o0):=fun R2 => (chkX_ok R2 hx0).1
             have hra : ∀ (k : Nat) (av : AV) (x : Value),(args.map S.ev)[k]? = some av → (cargs.map a.eval)[k]? = some x → RA w g1 m1 av x:=by
              intro k av x h1 h2
              simp only [List.getElem?_map,Option.map_eq_some_iff] at h1 h2
              obtain ⟨px,h1,rfl⟩:=h1
              obtain ⟨ox,h2,rfl⟩:=h2
              exact (chkX_ok R1 (hgx' k px ox h1 h2)).1
             obtain ⟨q1,q2⟩:=argVs_ok (lent:=lentAny [] 1 (args.map S.ev)) (bl:=true) (ex:=fun _ => false) R1 (args.map S.ev) (cargs.map a.eval) xs 1 (by simpa using hlx') hra hargs (fun h => h) (fun _ => rfl) (fun _ _ _ _ => rfl)
             have hX : ∀ (j : Nat) (y : Value),(a.eval o0).cells[j]? = some y → (fun j : Nat => ((a.eval o0).cells[j]?).getD undef) j = y:=fun j y hy => by simp [hy]
             have hA:=held_arg (X:=fun j : Nat => ((a.eval o0).cells[j]?).getD undef) (lent:=lentAny [] 1 (args.map S.ev)) hon hX hv0
             have hK : ∀ b k,(g1.lend (lentAny [] 1 (args.map S.ev)) true fun _ => false).cl b = kc k → (g1.gi (fun j : Nat => ((a.eval o0).cells[j]?).getD undef) (lentAny [] 1 (args.map S.ev))).cl b = kc k:=fun b k hb => Gh.gi_lend hb
             have:=hΓ.ok f (x0 :: xs) r us hg w (((o0 :: cargs).map a.eval).toArray) (g1.gi (fun j : Nat => ((a.eval o0).cells[j]?).getD undef) (lentAny [] 1 (args.map S.ev))) (by simpa using q1.symm)
              (fun b hb => R1.bd b (fun e => hb (Gh.gi_no e))) (fun i x v hx hv => by
               cases i with
               | zero =>
                simp at hx hv; subst hx; subst hv; exact hA
               | succ i =>
                have hx' : xs[i]? = some x:=by simpa using hx
                have h1:=q2 i x v hx' (by simpa using hv)
                rw [Nat.add_comm 1 i] at h1
                obtain ⟨b,hb⟩:=argVs_each _ _ _ hargs i x hx'
                exact h1.keep hK (argV_isRo hb) (argV_ptr hb))
             refine this.mono (fun e w' he => ?_)
             obtain ⟨v,g',rfl,hr,hL⟩:=he
             refine ⟨v,rfl,callPostIo R1 hok3 hra0 (fun hn => ?_) hop (by simp) hpl hr hL hu hn'⟩
             cases x0 with
             | one c => exact hv0.2
             | st cs =>
              exfalso
              have h2:=hout
              unfold outV at h2
              split at h2
              ·rename_i cs' h3
               exact hn _ h3
              ·split at h2 <;> simp at h2
             | ptr cs => exact absurd rfl (hop cs)
             | tup => exact absurd rfl (hot _)
          ·cases h
         ·cases h
        ·cases h
      ·cases h
     ·cases h
  ·cases hfn
 ·cases hc
theorem ok_callm (R : Rel w0 cl0 S a.tmps w g) {f i : Nat} {args : List PX} {op : Op} {av : AV} {rt : Option Rt} {m' : Ms} (hn' : rt.isSome → (m' d).1 = none)
  (hΓ : GOk P κ Γ) (hc : chkOp P κ (.callm f i args) op = true) (h : opf Γ S.ev d S.ms (.callm f i args) = some (av,rt,m')) (o : Oper) (ho : o.op = op) :
  UponR P (fun v w' => Post w0 cl0 S a.tmps d av rt m' v w') ((execOp a.eval o).run P w):=by
 cases op with
 | call c => ?_
 | _ => simp [chkOp] at hc
 obtain ⟨callee,cargs,ctys⟩:=c
 obtain ⟨cargs⟩:=cargs
 simp only [chkOp] at hc
 split at hc
 ·rename_i f'
  simp only [Bool.and_eq_true,beq_iff_eq,decide_eq_true_eq] at hc
  obtain ⟨⟨⟨hk,hxs⟩,hil⟩,hfn⟩:=hc
  subst hk
  split at hfn
  ·rename_i fn hfun
   simp only [Bool.and_eq_true,bne_iff_ne,ne_eq] at hfn
   obtain ⟨hbody,hname⟩:=hfn
   have hrun : (execOp a.eval o).run P w = .ok (.enter (κ f) (cargs.map a.eval).toArray) w:=by
    have hbn : fn.body.isNone = false:=by cases hb : fn.body <;> simp_all
    have hnm : (fn.name == "runtime.NumGoroutine") = false:=by simpa using hname
    simp only [execOp,ho,resolve,Act.eval,Deferred.ofValue,pure_bind,invoke,callFunc,Sem.run_bind,run_program,Result.andThen_ok,hfun]
    simp [hnm,hbn]
   rw [hrun]
   obtain ⟨hlx,hgx⟩:=chkXs_get args cargs hxs
   simp only [opf] at h
   split at h
   ·rename_i a0 ha0
    split at h
    ·rename_i x0 m1 hout
     split at h
     ·rename_i xs hargs
      split at h
      ·rename_i r us hg
       split at h
       ·rename_i hcond
        simp only [Bool.and_eq_true] at hcond
        obtain ⟨hpl,hok⟩:=hcond
        simp at h; obtain ⟨rfl,rfl,rfl⟩:=h
        simp only [List.getElem?_map,Option.map_eq_some_iff] at ha0
        obtain ⟨px,hpx,rfl⟩:=ha0
        have hio : i < cargs.length:=by omega
        obtain ⟨o0,ho0⟩ : ∃ o0,cargs[i]? = some o0:=⟨_,List.getElem?_eq_getElem hio⟩
        have hx0 : chkX px o0 = true:=hgx i px o0 hpx ho0
        obtain ⟨hon,hop,hot⟩:=outV_own hout
        obtain ⟨g1,R1,T1,hv0⟩:=outV_ok R (chkX_ok R hx0).1 hout 0
        generalize hlent : lentAny [] 0 ((args.map S.ev).set i (.v false (.bool true))) = lent at hok
        have hra : ∀ (k : Nat) (av : AV) (x : Value),((args.map S.ev).set i (.v false (.bool true)))[k]? = some av → ((cargs.map a.eval).set i (.bool true))[k]? = some x → RA w g1 m1 av x:=by
         intro k av x h1 h2
         by_cases e : i = k
         ·subst e
          rw [List.getElem?_set_self (by simpa using hil)] at h1
          rw [List.getElem?_set_self (by simpa using hio)] at h2
          cases h1; cases h2
          exact .v _ _ _ (.bool _)
         ·rw [List.getElem?_set_ne e] at h1 h2
          simp only [List.getElem?_map,Option.map_eq_some_iff] at h1 h2
          obtain ⟨px,h1,rfl⟩:=h1
          obtain ⟨ox,h2,rfl⟩:=h2
          exact (chkX_ok R1 (hgx k px ox h1 h2)).1
        obtain ⟨q1,q2⟩:=argVs_ok (lent:=lent) (bl:=true) (ex:=fun _ => false) R1 ((args.map S.ev).set i (.v false (.bool true))) ((cargs.map a.eval).set i (.bool true)) xs 0 (by simpa using hlx) hra hargs (fun h => hlent ▸ h) (fun _ => rfl) (fun _ _ _ _ => rfl)
        have hX : ∀ (j : Nat) (y : Value),(a.eval o0).cells[j]? = some y → (fun j : Nat => ((a.eval o0).cells[j]?).getD undef) j = y:=fun j y hy => by simp [hy]
        have hA:=held_argM (I:=i) (X:=fun j : Nat => ((a.eval o0).cells[j]?).getD undef) (lent:=lent) hon hX hv0
        have hK : ∀ b k,(g1.lend lent true fun _ => false).cl b = kc k → (g1.gm i (fun j : Nat => ((a.eval o0).cells[j]?).getD undef) lent).cl b = kc k:=fun b k hb => Gh.gm_lend hb
        have hq1 : xs.length = cargs.length:=by simpa using q1
        have:=hΓ.ok f (xs.set i x0) r us hg w (cargs.map a.eval).toArray (g1.gm i (fun j : Nat => ((a.eval o0).cells[j]?).getD undef) lent) (by simpa using hq1.symm)
         (fun b hb => R1.bd b (fun e => hb (Gh.gm_no e))) (fun k x v hx hv => by
          by_cases e : i = k
          ·subst e
           rw [List.getElem?_set_self (by omega)] at hx
           cases hx
           simp [ho0] at hv
           subst hv
           exact hA
          ·rw [List.getElem?_set_ne e] at hx
           have h1:=q2 k x v hx (by rw [List.getElem?_set_ne e]; simpa using hv)
           rw [Nat.zero_add] at h1
           obtain ⟨b,hb⟩:=argVs_each _ _ _ hargs k x hx
           exact h1.keep hK (argV_isRo hb) (argV_ptr hb))
        refine this.mono (fun e w' he => ?_)
        obtain ⟨v,g',rfl,hr,hL⟩:=he
        exact ⟨v,rfl,callPostM R1 hok hpl hr hL hn'⟩
       ·cases h
      ·cases h
     ·cases h
    ·cases h
   ·cases h
  ·cases hfn
 ·cases hc
theorem post_of_pure (R : Rel w0 cl0 S a.tmps w g) {av : AV} {rt : Option Rt} {m' : Ms} {op : Op} {o : Oper} (ho : o.op = op) (h : PureOk P S w g a av rt m' op) :
  UponR P (fun v w' => Post w0 cl0 S a.tmps d av rt m' v w') ((execOp a.eval o).run P w):=by
 obtain ⟨rfl,rfl,h⟩:=h
 obtain ⟨v,h1,h2,h3⟩:=h o ho
 rw [h1]
 exact ⟨g,R,h2,h3⟩
theorem upon_of_ex {av : AV} {rt : Option Rt} {m' : Ms} {o : Oper} (h : ∃ v w',(execOp a.eval o).run P w = .ok (.value v) w' ∧ Post w0 cl0 S a.tmps d av rt m' v w') :
  UponR P (fun v w' => Post w0 cl0 S a.tmps d av rt m' v w') ((execOp a.eval o).run P w):=by
 obtain ⟨v,w',h1,h2⟩:=h
 rw [h1]; exact h2
theorem appf_app {sz by' : Nat} {x y : PX} {av : AV} {rt : Option Rt} {m' : Ms} (h : opf Γ S.ev d S.ms (.appf sz by' x y) = some (av,rt,m')) : opf Γ S.ev d S.ms (.app sz by' x y) = some (av,rt,m'):=by
 simp only [opf] at h ⊢
 split at h
 ·rename_i s1 ys he
  split at h
  ·rename_i hf
   simp only [he,hf,if_true]
   exact h
  ·cases h
 ·cases h
theorem ok_op (R : Rel w0 cl0 S a.tmps w g) {pop : POp} {op : Op} {av : AV} {rt : Option Rt} {m' : Ms} (hn' : rt.isSome → (m' d).1 = none)
  (hΓ : GOk P κ Γ)
  (hc : chkOp P κ pop op = true) (h : opf Γ S.ev d S.ms pop = some (av,rt,m')) (o : Oper) (ho : o.op = op) :
  UponR P (fun v w' => Post w0 cl0 S a.tmps d av rt m' v w') ((execOp a.eval o).run P w):=by
 cases pop with
 | mv x => exact post_of_pure R ho (ok_mv R hc h)
 | pick c x y => exact post_of_pure R ho (ok_pick R hc h)
 | bin b x y => exact post_of_pure R ho (ok_bin R hc h)
 | eqs n ks x y => exact post_of_pure R ho (ok_eqs R hc h)
 | eqb n x y => exact post_of_pure R ho (ok_eqb R hc h)
 | un u x => exact post_of_pure R ho (ok_un R hc h)
 | len x => exact post_of_pure R ho (ok_len R hc h)
 | lens x => exact post_of_pure R ho (ok_lens R hc h)
 | box n x =>
  have hh : rt.isSome ∧ m' = S.ms:=by
   simp only [opf] at h
   split at h
   ·split at h
    ·simp at h; exact ⟨by rw [← h.2.1]; rfl,h.2.2.symm⟩
    ·cases h
   ·cases h
  obtain ⟨hrt,hm⟩:=hh
  exact upon_of_ex (ok_box R (by rw [← hm]; exact hn' hrt) hc h o ho)
 | alloc zs =>
  have hrt : rt.isSome:=by simp only [opf] at h; split at h <;> simp at h; rw [← h.2.1]; rfl
  have hm : m' = S.ms:=by simp only [opf] at h; split at h <;> simp at h; exact h.2.2.symm
  exact upon_of_ex (ok_alloc R (by rw [← hm]; exact hn' hrt) hc h o ho)
 | build z ps => exact post_of_pure R ho (ok_build R hc h)
 | bsl sz z n ps =>
  have hrt : rt.isSome:=by simp only [opf] at h; split at h <;> simp at h; rw [← h.2.1]; rfl
  exact upon_of_ex (ok_bsl R (hn' hrt) hc h o ho)
 | mks sz by' z x =>
  have hh : rt.isSome ∧ m' = S.ms:=by
   simp only [opf] at h
   split at h
   ·split at h
    ·simp at h; exact ⟨by rw [← h.2.1]; rfl,h.2.2.symm⟩
    ·cases h
   ·cases h
  obtain ⟨hrt,hm⟩:=hh
  exact upon_of_ex (ok_mks R (by rw [← hm]; exact hn' hrt) hc h o ho)
 | ld ag n x => exact post_of_pure R ho (ok_ld R hc h)
 | st n x y =>
  obtain ⟨rfl,w',g',h1,h2⟩:=ok_st R hc h o ho
  have hav : av = .un:=by
   simp only [opf] at h
   split at h
   ·split at h
    ·split at h
     ·simp at h; exact h.1.symm
     ·cases h
    ·cases h
   ·cases h
  subst hav
  rw [h1]
  exact ⟨g',h2,.un _,fun r hr => by simp [AV.refs] at hr⟩
 | std => simp [opf] at h
 | fldv => simp [opf] at h
 | nck => simp [opf] at h
 | fad x off => exact post_of_pure R ho (ok_fad R hc h)
 | iad sz x i => exact post_of_pure R ho (ok_iad R hc h)
 | slc sz x lo hi => exact post_of_pure R ho (ok_slc R hc h)
 | slcs => simp [opf] at h
 | ext x k => exact post_of_pure R ho (ok_ext R hc h)
 | call f io args => exact ok_call R hn' hΓ hc h o ho
 | app sz by' x y =>
  have hrt : rt.isSome:=by
   simp only [opf] at h
   split at h
   ·split at h
    ·split at h
     ·simp at h; rw [← h.2.1]; rfl
     ·cases h
    ·cases h
   ·cases h
  exact upon_of_ex (ok_app R (hn' hrt) hc h o ho)
 | apps x y =>
  have hrt : rt.isSome:=by
   simp only [opf] at h
   split at h
   ·split at h
    ·split at h
     ·simp at h; rw [← h.2.1]; rfl
     ·cases h
    ·cases h
   ·cases h
  exact upon_of_ex (ok_apps R (hn' hrt) hc h o ho)
 | appf sz by' x y =>
  have h:=appf_app h
  have hc : chkOp P κ (.app sz by' x y) op = true:=by cases op <;> first | exact hc | (simp [chkOp] at hc)
  have hrt : rt.isSome:=by
   simp only [opf] at h
   split at h
   ·split at h
    ·split at h
     ·simp at h; rw [← h.2.1]; rfl
     ·cases h
    ·cases h
   ·cases h
  exact upon_of_ex (ok_app R (hn' hrt) hc h o ho)
 | cvi k x => exact post_of_pure R ho (ok_cvi R hc h)
 | cvs x => exact post_of_pure R ho (ok_cvs R hc h)
 | cvb x => simp [opf] at h
 | idx x i => exact post_of_pure R ho (ok_idx R hc h)
 | mn x y => exact post_of_pure R ho (ok_mn R hc h)
 | mx x y => exact post_of_pure R ho (ok_mx R hc h)
 | mkf => simp [opf] at h
 | callv => simp [opf] at h
 | callm f i args => exact ok_callm R hn' hΓ hc h o ho
 | clr sz z x => exact upon_of_ex (ok_clr R hc h o ho)
end
end Go.Proofs.YtmlinnkaccgcgaaGreat.OM
