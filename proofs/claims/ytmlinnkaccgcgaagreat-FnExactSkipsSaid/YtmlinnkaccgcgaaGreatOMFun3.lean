/- The own machine: functions keep their contracts. -/
import Derived.Test.YtmlinnkaccgcgaaGreatOMFun2
set_option linter.all false
namespace Go.Proofs.YtmlinnkaccgcgaaGreat.OM
def chkF (P : Program) (κ : Nat → FuncId) (f : FuncId) (F : PF) : Bool :=
 match P.funcs[f]? with
 | some fn => match fn.body with
  | some c => (fn.name != "runtime.NumGoroutine") && (chk P κ fn.ntmps F.io F.body c && chkRes P F.res fn.results.toList)
  | none => false
 | none => false
section
variable {P : Program} {κ : Nat → FuncId} {Γ : Env} {w : World} {g : Gh}
theorem initAL_get : ∀ (xs : List V) (i n : Nat),(initAL i xs).get n = if i ≤ n then (match xs[n - i]? with | some x => ((imp n x).1,(imp n x).2) | none => (.un,none)) else (.un,none):=by
 intro xs
 induction xs with
 | nil => intro i n; simp [initAL,AL.get]
 | cons x xs ih =>
  intro i n
  simp only [initAL,AL.get]
  by_cases e : n = i
  ·subst e; simp
  ·rw [if_neg e,ih]
   by_cases h : i ≤ n
   ·rw [if_pos (by omega),if_pos h,show n - i = (n - (i + 1)) + 1 from by omega,List.getElem?_cons_succ]
   ·rw [if_neg (by omega),if_neg h]
def Gh.start (g : Gh) (args : Array Value) : Gh where
 cl:=g.cl
 hd:=g.hd
 bk:=fun i => match args[i]? with
  | some (.pointer (some a)) => a.block
  | _ => 0
theorem start_rc {args : Array Value} {r j : Nat} {c : C} {x : Value} (h : RC w g r j c x) : RC w (g.start args) r j c x :=
 h.mono (fun _ _ h => ⟨rfl,h⟩) (fun _ _ h => ⟨rfl,h⟩) (fun _ => rfl) (fun _ _ _ => rfl)
theorem argOk_plain {x : V} (h : x.argOk = true) : x.plain = true:=by
 cases x <;> first | exact h | (simp [V.argOk] at h)
theorem start_rel {args : Array Value} {xs : List V} {io : List Nat} (k : Nat) (hsz : args.size = xs.length) (hbd : ∀ b,g.cl b ≠ .no → b < w.heap.size)
    (hra : ∀ (i : Nat) (x : V) (v : Value),xs[i]? = some x → args[i]? = some v → RVa w g i x v) (hok : xs.all V.argOk = true) (hio : io.all (fun i => ((initAL 0 xs).get i).2.isSome) = true) :
    Rel w ⟨g.start args,io⟩ (initAL 0 xs).st (args ++ Array.replicate k undef) w (g.start args):=by
  have hget : ∀ n,(initAL 0 xs).get n = match xs[n]? with | some x => ((imp n x).1,(imp n x).2) | none => (.un,none):=fun n => by rw [initAL_get]; simp
  have hav : ∀ n,(initAL 0 xs).st.av n = match xs[n]? with | some x => (imp n x).1 | none => .un:=fun n => by
    simp only [AL.st,hget]; cases xs[n]? <;> rfl
  have hms : ∀ n,(initAL 0 xs).st.ms n = (match xs[n]? with | some x => (imp n x).2 | none => none,[]):=fun n => by
    simp only [AL.st,hget]; cases xs[n]? <;> rfl
  have hv : ∀ (n : Nat) (x : V),xs[n]? = some x → ∃ v,args[n]? = some v ∧ (args ++ Array.replicate k undef).getD n undef = v ∧ RVa w g n x v ∧ x.argOk = true:=by
    intro n x hx
    have hlt:=lt_of_get hx
    have h1 : args[n]? = some args[n]:=by simp [show n < args.size from by omega]
    refine ⟨args[n],h1,?_,hra n x _ hx h1,List.all_eq_true.1 hok x (List.mem_of_getElem? hx)⟩
    rw [Array.getD_eq_getD_getElem?,Array.getElem?_append_left (by omega),h1]; rfl
  have hkill : ∀ r j p,(initAL 0 xs).st.ms.killed r j p = false:=fun r j p => by simp [Ms.killed,hms]
  have hrv1 : ∀ {r j : Nat} {x : V} {v : Value},RV1 w g r j x v → RV1 w (g.start args) r j x v:=by
    intro r j x v h
    cases x with
    | one c => exact ⟨start_rc h.1,h.2⟩
    | st cs => obtain ⟨vs,h1,h2,h3⟩:=h; exact ⟨vs,h1,h2,fun i c y h4 h5 => start_rc (h3 i c y h4 h5)⟩
    | ptr => exact h
    | tup => exact h
  have hrt : ∀ n rt,((initAL 0 xs).st.ms n).1 = some rt → RtOk w (g.start args) n rt ∧ rt.cells.all C.noRf = true:=by
    intro n rt h
    rw [hms] at h
    simp only at h
    cases hx : xs[n]? with
    | none => rw [hx] at h; cases h
    | some x =>
      rw [hx] at h
      simp only at h
      obtain ⟨v,hv1,hv2,hv3,hv4⟩:=hv n x hx
      by_cases hp : ∃ cs,x = .ptr cs
      · obtain ⟨cs,rfl⟩:=hp
        simp [imp] at h; subst h
        obtain ⟨b,vals,E,rfl,h2,h3,h4,h5⟩:=hv3
        have hb : (g.start args).bk n = b:=by simp [Gh.start,hv1]
        refine ⟨⟨by rw [hb]; exact h2,vals,E,by rw [hb]; exact h3,by simpa using h4.symm,fun j c y h6 h7 => ?_⟩,hv4⟩
        have:=h5 j c y h6 (by simpa using h7)
        rw [Nat.zero_add] at this
        exact start_rc this
      · have hn : ∀ cs,x ≠ .ptr cs:=fun cs e => hp ⟨cs,e⟩
        rw [imp_rt hn] at h
        split at h
        · rename_i hany
          simp at h; subst h
          have hfl : x.flats = x.flat:=by cases x <;> first | rfl | (simp [V.argOk] at hv4)
          rw [hfl] at hany
          have h3 : RV1 w g (n + 1) 0 x v ∧ (x.flat.any C.isOwn = true → ∀ (j : Nat) (y : Value),v.cells[j]? = some y → g.hd (n + 1) j [] = y):=by
            cases x with
            | ptr cs => exact absurd rfl (hn cs)
            | tup => exact hv3.elim
            | one => exact hv3
            | st => exact hv3
          obtain ⟨h4,h5⟩:=RV1_cells h3.1
          refine ⟨fun j c hj => ?_,plain_flats (argOk_plain hv4) hn⟩
          rw [hfl] at hj
          have hlt:=lt_of_get hj
          have hy : v.cells[j]? = some v.cells[j]:=by
            have : j < v.cells.size:=by rw [h4] at hlt; simpa using hlt
            simp [this]
          have h6:=h5 j c _ hj (by rw [Array.getElem?_toList]; exact hy)
          rw [Nat.zero_add] at h6
          have h7:=h3.2 hany j _ hy
          show RC w (g.start args) (n + 1) j c (g.hd (n + 1) j [])
          rw [h7]
          exact start_rc h6
        · cases h
  refine { av:=fun n => ?_,rt:=fun n rt h => (hrt n rt h).1,rfs:=fun n r h => ?_,rfc:=fun n rt j r j' h h1 => ?_,bd:=hbd,sz:=Nat.le_refl _,fr:=fun _ _ _ => rfl,
           im:=fun _ _ => .rfl,mi:=fun _ _ h => h,sd:=.refl _,pin:=fun i hi => ?_ }
  · rw [hav]
    cases hx : xs[n]? with
    | none => exact .un _
    | some x =>
      obtain ⟨v,hv1,hv2,hv3,hv4⟩:=hv n x hx
      rw [hv2]
      simp only
      by_cases hp : ∃ cs,x = .ptr cs
      · obtain ⟨cs,rfl⟩:=hp
        obtain ⟨b,vals,E,rfl,_⟩:=hv3
        have hb : (g.start args).bk n = b:=by simp [Gh.start,hv1]
        have:=RA.bx (w:=w) (g:=g.start args) (m:=(initAL 0 xs).st.ms) n 0
        rw [hb] at this
        exact this
      · have hn : ∀ cs,x ≠ .ptr cs:=fun cs e => hp ⟨cs,e⟩
        have h3 : RV1 w g (n + 1) 0 x v:=by
          cases x with
          | ptr cs => exact absurd rfl (hn cs)
          | tup => exact hv3.elim
          | one => exact hv3.1
          | st => exact hv3.1
        obtain ⟨h4,h5⟩:=RV1_cells h3
        have himp : (imp n x).1 = impV n 0 x:=by cases x <;> first | rfl | exact absurd rfl (hn _) | exact hv3.elim
        rw [himp]
        refine impV_ok (hrv1 h3) (fun i c y h6 h7 => ?_)
        have:=h5 i c y h6 (by simpa using h7)
        rw [Nat.zero_add] at this ⊢
        exact rcell_ok (start_rc this)
  · rw [hav] at h
    cases hx : xs[n]? with
    | none => rw [hx] at h; simp [AV.refs] at h
    | some x =>
      rw [hx] at h
      simp only at h
      obtain ⟨v,hv1,hv2,hv3,hv4⟩:=hv n x hx
      by_cases hp : ∃ cs,x = .ptr cs
      · obtain ⟨cs,rfl⟩:=hp
        simp [imp,AV.refs] at h; subst h
        rw [hms,hx]; rfl
      · have hn : ∀ cs,x ≠ .ptr cs:=fun cs e => hp ⟨cs,e⟩
        obtain ⟨rfl,h2⟩:=imp_refs (argOk_plain hv4) hn h
        rw [hms,hx]
        simp only [imp_rt hn,if_pos h2]
        rfl
  · have:=List.all_eq_true.1 (hrt n rt h).2 _ (List.mem_of_getElem? h1)
    simp [C.noRf] at this
  · have h:=List.all_eq_true.1 hio i hi
    have h2 : ((initAL 0 xs).st.ms i).1 = ((initAL 0 xs).get i).2:=rfl
    rw [h2]
    cases h3 : ((initAL 0 xs).get i).2 with
    | none => rw [h3] at h; cases h
    | some rt => cases rt with
      | vir => exact fun _ => rfl
      | bx => rfl
def resV : List Value → Value
 | [v] => v
 | vs => .tuple vs.toArray
theorem run_results {fn : Func} {tmps : Array Value} {vs : List Value} (h : (fn.results.toList.mapM (readRes tmps)).run P w = .ok vs w) :
  (results fn tmps).run P w = .ok (resV vs) w:=by
 have h1 : (fn.results.mapM (readRes tmps)).run P w = .ok vs.toArray w:=by
  rw [Array.mapM_eq_mapM_toList]; simp [h]
 have h2 : results fn tmps = (do
  let vs ← fn.results.mapM (readRes tmps)
  pure (if h : vs.size = 1 then vs[0] else .tuple vs)):=by
  unfold results
  congr 1
 rw [h2]
 simp only [Sem.run_bind,h1,Result.andThen_ok,Sem.run_pure]
 congr 1
 match vs with
 | [] => rfl
 | [v] => rfl
 | v :: v2 :: vs => simp [resV]
theorem chkF_body {f : FuncId} {F : PF} (hc : chkF P κ f F = true) : bodyOk P f = true:=by
 unfold chkF at hc
 unfold bodyOk
 split at hc
 ·rename_i fn hfn
  split at hc
  ·rename_i code hbody
   simp only [Bool.and_eq_true] at hc
   simp [hfn,hbody,hc.1] 
  ·cases hc
 ·cases hc
theorem fun_ok (hm : P.follows .mixedOrders = true) {f : FuncId} {F : PF} (hc : chkF P κ f F = true) (hk : CallsOk P κ Γ F.body.keys) {fuel : Nat} {xs : List V} {r : V} {us : List (Nat × Nat × C)}
  (h : prun Γ fuel F xs = some (r,us)) : OK P f xs r us:=by
 intro w args g hsz hbd hra
 unfold chkF at hc
 split at hc
 ·rename_i fn hfn
  split at hc
  ·rename_i code hbody
   simp only [Bool.and_eq_true] at hc
   replace hc:=hc.2
   unfold prun at h
   split at h
   ·rename_i hcond
    simp only [Bool.and_eq_true] at hcond
    have R:=start_rel (io:=F.io) (fn.ntmps - args.size) hsz hbd hra hcond.1 hcond.2
    refine calls_of_wp hfn hbody (pexec_ok (w0:=w) (cl0:=⟨g.start args,F.io⟩) (N:=fn.ntmps) hm fuel F.body code hc.1 hk _ (initAL 0 xs) _ w ?_ ⟨_,R,rfl,by simp; omega⟩)
    have key : ∀ L,finish F xs L = some (r,us) → ∀ a w',Sim w ⟨g.start args,F.io⟩ fn.ntmps L.st a w' → a.defers = [] ∧ ∃ v,(results fn a.tmps).run P w' = .ok v w' ∧
      ∃ v1 g',(Ending.returned v) = .returned v1 ∧ RVr w' g' r v1 ∧ Left w g xs args us w' g':=by
     intro L hf a w' hs
     obtain ⟨g1,R1,hdef,_⟩:=hs
     refine ⟨hdef,?_⟩
     unfold finish at hf
     have hres : ∃ x m,out? F L = some (x,m) ∧ outUps xs m F.io = some us ∧ x = r:=by
      split at hf
      ·rename_i x m h1
       split at hf
       ·rename_i us1 h2
        simp at hf; obtain ⟨rfl,rfl⟩:=hf
        exact ⟨x,m,h1,h2,rfl⟩
       ·cases hf
      ·cases hf
     obtain ⟨x,m,h1,h2,rfl⟩:=hres
     have hmain : ∃ vs g',(fn.results.toList.mapM (readRes a.tmps)).run P w' = .ok vs w' ∧ RVr w' g' x (resV vs) ∧ UpOk ⟨g.start args,F.io⟩ m w' g' ∧ Base ⟨g.start args,F.io⟩ w w' g':=by
      have hcr:=hc.2
      unfold out? at h1
      split at h1
      ·rename_i pr hpr
       rw [hpr] at hcr
       split at h1
       ·rename_i av hav
        cases hrl : fn.results.toList with
        | nil => rw [hrl] at hcr; cases pr <;> simp [chkRes] at hcr
        | cons rv rvs =>
         rw [hrl] at hcr
         obtain ⟨v,q1,q2,q3⟩:=resAV_ok R1 hcr hav
         have : rvs = []:=by
          cases rvs with
          | nil => rfl
          | cons rv2 rvs => cases rv2 <;> simp [chkRes] at q3
         subst this
         obtain ⟨g',q4,q5,q6⟩:=out1_ok R1 q2 h1
         exact ⟨[v],g',mapM_cons_run _ _ _ _ _ q1 (by simp [List.mapM_nil]),q4,q5,q6⟩
       ·cases h1
      ·rename_i hne
       split at h1
       ·rename_i ys m1 hys
        simp at h1; obtain ⟨rfl,rfl⟩:=h1
        obtain ⟨vs,g',q1,q2,q3,q4,q5⟩:=outVs_ok R1 F.res fn.results.toList L.st.ms m1 g1 ys 0 R1 (.refl _ _ _) hcr hys
        have hlen : ∀ v,vs ≠ [v]:=by
         intro v e
         subst e
         simp at q5
         match hF : F.res,q5 with
         | [pr],_ => exact hne pr hF
        refine ⟨vs,g',q1,?_,q2.upOk,q2.base⟩
        have : resV vs = .tuple vs.toArray:=by
         match vs,hlen with
         | [],_ => rfl
         | [v],h => exact absurd rfl (h v)
         | _ :: _ :: _,_ => rfl
        rw [this]
        exact ⟨vs.toArray,rfl,by simpa using q3⟩
       ·cases h1
     obtain ⟨vs,g',q1,q2,q3,q4⟩:=hmain
     refine ⟨_,run_results q1,_,g',rfl,q2,?_⟩
     refine { sd:=q4.sd,sz:=q4.sz,fr:=q4.fr,im:=q4.im,bd:=q4.bd,mi:=q4.mi,up:=fun i j c hu => ?_ }
     obtain ⟨hi,h3⟩:=outUps_mem F.io h2 hu
     rcases h3 with ⟨cs,x1,e1,e2,e3,e4⟩ | ⟨cs,cs0,e1,e2,e3⟩
     ·obtain ⟨p1,p2⟩:=q3 i hi _ e1
      have hlt:=lt_of_get e2
      have ha1 : args[i]? = some args[i]:=by simp [show i < args.size from by omega]
      have hva:=hra i x1 _ e2 ha1
      have hrv : RV1 w g (i + 1) 0 x1 args[i] ∧ (x1.flat.any C.isOwn = true → ∀ (j : Nat) (y : Value),(args[i]).cells[j]? = some y → g.hd (i + 1) j [] = y):=by
       cases x1 with
       | ptr cs => simp [V.flat] at e4
       | tup => exact hva.elim
       | one => exact hva
       | st => exact hva
      have hany : x1.flat.any C.isOwn = true:=by
       have h5:=List.all_eq_true.1 hcond.2 i hi
       rw [initAL_get] at h5
       simp only [Nat.zero_le,if_true,Nat.sub_zero,e2] at h5
       have hn : ∀ cs,x1 ≠ .ptr cs:=fun cs e => by subst e; simp [V.flat] at e4
       rw [imp_rt hn] at h5
       have hfl : x1.flats = x1.flat:=by cases x1 <;> first | rfl | exact hva.elim
       rw [hfl] at h5
       cases h6 : x1.flat.any C.isOwn with
       | true => rfl
       | false => rw [h6] at h5; simp at h5
      obtain ⟨h4,h5⟩:=RV1_cells hrv.1
      have hy : (args[i]).cells[j]? = some (args[i]).cells[j]:=by
       have : j < (args[i]).cells.size:=by rw [h4] at e4; simpa using e4
       simp [this]
      have hx:=p1 j c e3
      have hh : g'.hd (i + 1) j [] = (args[i]).cells[j]:=(p2 j).trans (hrv.2 hany j _ hy)
      rw [hh] at hx
      have hgoal : ∃ v x,args[i]? = some v ∧ v.cells[j]? = some x ∧ RC w' g' (i + 1) j c x:=⟨_,_,ha1,hy,hx⟩
      rw [e2]
      cases x1 with
      | ptr cs => simp [V.flat] at e4
      | _ => exact hgoal
     ·obtain ⟨p1,p2⟩:=q3 i hi _ e1
      have hlt:=lt_of_get e2
      have ha1 : args[i]? = some args[i]:=by simp [show i < args.size from by omega]
      obtain ⟨b,vals,E,hb,_⟩:=hra i _ _ e2 ha1
      rw [hb] at ha1
      obtain ⟨p3,vals',E',p4,p5,p6⟩:=p1
      have hbk : g'.bk i = b:=by
       have : g'.bk i = (g.start args).bk i:=p2
       rw [this]; simp [Gh.start,ha1]
      rw [hbk] at p3 p4
      have hj:=lt_of_get e3
      have hy : vals'[j]? = some vals'[j]:=by simp [show j < vals'.size from by omega]
      rw [e2]
      exact ⟨b,vals',E',_,ha1,p3,p4,(by rw [p5]; exact outUps_len e1 e2 F.io h2 hi),hy,p6 j c _ e3 hy⟩
    cases hp : pexec Γ fuel F.body (initAL 0 xs) with
    | fail => rw [hp] at h; cases h
    | exit => rw [hp] at h; cases h
    | norm L => rw [hp] at h; exact fun a w' hs => key L h a w' hs
    | ret L => rw [hp] at h; exact fun a w' hs => key L h a w' hs
   ·cases h
  ·cases hc
 ·cases hc
end
end Go.Proofs.YtmlinnkaccgcgaaGreat.OM
