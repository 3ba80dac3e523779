/- The own machine: the environment of all functions, as the limit of runs with bounded depth. -/
import Derived.Test.YtmlinnkaccgcgaaGreatOMFun3
set_option linter.all false
namespace Go.Proofs.YtmlinnkaccgcgaaGreat.OM
def Env.le (Γ Γ' : Env) : Prop:=∀ f xs y,Γ f xs = some y → Γ' f xs = some y
theorem opf_mono {Γ Γ' : Env} (hle : Env.le Γ Γ') {ev : PX → AV} {d : Nat} {m : Ms} {op : POp} {z : AV × Option Rt × Ms} (h : opf Γ ev d m op = some z) : opf Γ' ev d m op = some z:=by
 cases op with
 | call f io args =>
  simp only [opf] at h ⊢
  cases io with
  | nil =>
   dsimp only at h ⊢
   cases h1 : argVs m [] 0 (args.map ev) with
   | none => rw [h1] at h; cases h
   | some xs =>
    rw [h1] at h
    dsimp only at h ⊢
    cases hg : Γ f xs with
    | none => rw [hg] at h; cases h
    | some y => rw [hg] at h; rw [hle _ _ _ hg]; exact h
  | cons i io =>
   dsimp only at h ⊢
   cases h1 : args.map ev with
   | nil => rw [h1] at h; cases h
   | cons a0 rest =>
    rw [h1] at h
    dsimp only at h ⊢
    cases hp : a0.ptr? m with
    | some y => rw [hp] at h; cases h
    | none =>
    rw [hp] at h
    dsimp only at h ⊢
    cases h2 : outV m a0 with
    | none => rw [h2] at h; cases h
    | some y0 =>
     obtain ⟨x0,m1⟩:=y0
     rw [h2] at h
     dsimp only at h ⊢
     cases h3 : argVs m1 [] 1 rest with
     | none => rw [h3] at h; cases h
     | some xs =>
      rw [h3] at h
      dsimp only at h ⊢
      cases hg : Γ f (x0 :: xs) with
      | none => rw [hg] at h; cases h
      | some y => rw [hg] at h; rw [hle _ _ _ hg]; exact h
 | callm f i args =>
  simp only [opf] at h ⊢
  split at h
  ·split at h
   ·split at h
    ·split at h
     ·rename_i hg
      rw [hle _ _ _ hg]; exact h
     ·cases h
    ·cases h
   ·cases h
  ·cases h
 | callv => simp [opf] at h
 | _ => exact h
theorem stepO_mono {Γ Γ' : Env} (hle : Env.le Γ Γ') {o : PO} {S S' : St} (h : stepO Γ o S = some S') : stepO Γ' o S = some S':=by
 unfold stepO at h ⊢
 split at h
 ·split at h
  ·split at h
   ·rename_i a m hop; rw [opf_mono hle hop]; exact h
   ·rename_i a r m hop; rw [opf_mono hle hop]; exact h
   ·cases h
  ·split at h
   ·rename_i x m hop; rw [opf_mono hle hop]; exact h
   ·cases h
 ·exact h
 ·cases h
theorem runOps_mono {Γ Γ' : Env} (hle : Env.le Γ Γ') : ∀ {ops : List PO} {S S' : St},runOps Γ ops S = some S' → runOps Γ' ops S = some S' ∧ foots Γ' ops S = foots Γ ops S:=by
 intro ops
 induction ops with
 | nil => intro S S' h; exact ⟨h,rfl⟩
 | cons o os ih =>
  intro S S' h
  simp only [runOps,foots] at h ⊢
  split at h
  ·rename_i S1 h1
   rw [stepO_mono hle h1]
   obtain ⟨h2,h3⟩:=ih h
   exact ⟨h2,by simp only [h3]⟩
  ·cases h
theorem runReg_mono {Γ Γ' : Env} (hle : Env.le Γ Γ') {live ren ops draw} {L : AL} {o : Out} (h : runReg Γ live ren ops draw L = o) (ho : o ≠ .fail) : runReg Γ' live ren ops draw L = o:=by
 rcases runReg_cases Γ live ren ops draw L with h1 | ⟨S,h1,h2,h3⟩
 ·rw [h1] at h; exact absurd h.symm ho
 ·obtain ⟨h4,h5⟩:=runOps_mono hle h1
  rw [← h]
  unfold runReg at h3 ⊢
  rw [h5,h4,h1]
theorem iter_mono {f f' : AL → Out} (hf : ∀ L o,f L = o → o ≠ .fail → f' L = o) : ∀ (n n' : Nat),n ≤ n' → ∀ L o,iter f n L = o → o ≠ .fail → iter f' n' L = o:=by
 intro n
 induction n with
 | zero => intro n' _ L o h ho; exact absurd h.symm ho
 | succ n ih =>
  intro n' hn L o h ho
  cases n' with
  | zero => omega
  | succ n' =>
   simp only [iter] at h ⊢
   cases h1 : f L with
   | fail => rw [h1] at h; exact absurd h.symm ho
   | norm L' =>
    rw [h1] at h
    rw [hf L _ h1 (by simp)]
    exact ih n' (by omega) L' o h ho
   | exit i L' => rw [h1] at h; rw [hf L _ h1 (by simp)]; exact h
   | ret L' => rw [h1] at h; rw [hf L _ h1 (by simp)]; exact h
theorem pexec_mono {Γ Γ' : Env} (hle : Env.le Γ Γ') {n n' : Nat} (hn : n ≤ n') : ∀ (c : PC) (L : AL) (o : Out),pexec Γ n c L = o → o ≠ .fail → pexec Γ' n' c L = o:=by
 intro c
 induction c with
 | ext calls f =>
  intro L o h ho
  simp only [pexec] at h ⊢
  split at h
  ·rename_i hc
   have hc' : CallsOf Γ' (calls L):=by
    unfold CallsOf at hc ⊢
    split at hc
    ·exact fun c hm => hle _ _ _ (hc c hm)
    ·exact hc.elim
   rw [if_pos hc']; exact h
  ·exact absurd h.symm ho
 | skip => intro L o h _; exact h
 | reg live ren ops draw => intro L o h ho; exact runReg_mono hle h ho
 | seq a b iha ihb =>
  intro L o h ho
  simp only [pexec] at h ⊢
  cases h1 : pexec Γ n a L with
  | fail => rw [h1] at h; exact absurd h.symm ho
  | norm L' => rw [h1] at h; rw [iha L _ h1 (by simp)]; exact ihb L' o h ho
  | exit i L' => rw [h1] at h; rw [iha L _ h1 (by simp)]; exact h
  | ret L' => rw [h1] at h; rw [iha L _ h1 (by simp)]; exact h
 | cond x a b iha ihb =>
  intro L o h ho
  simp only [pexec] at h ⊢
  cases h1 : (L.st.ev x).asBool with
  | none => rw [h1] at h; exact absurd h.symm ho
  | some t =>
   rw [h1] at h
   cases t with
   | true => exact iha L o h ho
   | false => exact ihb L o h ho
 | blk id c ih =>
  intro L o h ho
  simp only [pexec] at h ⊢
  cases h1 : pexec Γ n c L with
  | fail => rw [h1] at h; exact absurd h.symm ho
  | norm L' => rw [h1] at h; rw [ih L _ h1 (by simp)]; exact h
  | exit i L' => rw [h1] at h; rw [ih L _ h1 (by simp)]; exact h
  | ret L' => rw [h1] at h; rw [ih L _ h1 (by simp)]; exact h
 | loop c ih =>
  intro L o h ho
  simp only [pexec] at h ⊢
  exact iter_mono ih n n' hn L o h ho
 | exit id => intro L o h _; exact h
 | ret => intro L o h _; exact h
theorem prun_mono {Γ Γ' : Env} (hle : Env.le Γ Γ') {n n' : Nat} (hn : n ≤ n') {F : PF} {xs : List V} {y} (h : prun Γ n F xs = some y) : prun Γ' n' F xs = some y:=by
 unfold prun at h ⊢
 split at h
 ·rename_i hc
  rw [if_pos hc]
  cases h1 : pexec Γ n F.body (initAL 0 xs) with
  | fail => rw [h1] at h; cases h
  | norm L' => rw [h1] at h; rw [pexec_mono hle hn _ _ _ h1 (by simp)]; exact h
  | exit i L' => rw [h1] at h; cases h
  | ret L' => rw [h1] at h; rw [pexec_mono hle hn _ _ _ h1 (by simp)]; exact h
 ·cases h
noncomputable def Gn (T : Nat → Option PF) : Nat → Env
 | 0 => fun _ _ => none
 | n + 1 => fun f xs => match T f with
  | some F => prun (Gn T n) n F xs
  | none => none
theorem Gn_succ (T : Nat → Option PF) : ∀ n,Env.le (Gn T n) (Gn T (n + 1)):=by
 intro n
 induction n with
 | zero => intro f xs y h; cases h
 | succ n ih =>
  intro f xs y h
  simp only [Gn] at h ⊢
  split at h
  ·rename_i F hF
   exact prun_mono ih (by omega) h
  ·cases h
theorem Gn_le (T : Nat → Option PF) {n m : Nat} (h : n ≤ m) : Env.le (Gn T n) (Gn T m):=by
 induction h with
 | refl => intro f xs y h; exact h
 | step _ ih => intro f xs y h; exact Gn_succ T _ f xs y (ih f xs y h)
open Classical in
noncomputable def Gw (T : Nat → Option PF) : Env:=fun f xs =>
 if h : ∃ n y,Gn T n f xs = some y then some (Classical.choose (Classical.choose_spec h)) else none
theorem Gw_iff (T : Nat → Option PF) {f : Nat} {xs : List V} {y} : Gw T f xs = some y ↔ ∃ n,Gn T n f xs = some y:=by
 unfold Gw
 constructor
 ·intro h
  split at h
  ·rename_i hh
   simp only [Option.some.injEq] at h
   exact ⟨_,by rw [← h]; exact Classical.choose_spec (Classical.choose_spec hh)⟩
  ·cases h
 ·intro ⟨n,h⟩
  have hh : ∃ n y,Gn T n f xs = some y:=⟨n,y,h⟩
  rw [dif_pos hh]
  have h1:=Classical.choose_spec (Classical.choose_spec hh)
  have h2:=Gn_le T (Nat.le_max_left (Classical.choose hh) n) _ _ _ h1
  have h3:=Gn_le T (Nat.le_max_right (Classical.choose hh) n) _ _ _ h
  rw [h2] at h3
  exact h3
theorem Gn_Gw (T : Nat → Option PF) (n : Nat) : Env.le (Gn T n) (Gw T):=fun f xs y h => (Gw_iff T).2 ⟨n,h⟩
section
variable {T : Nat → Option PF}
theorem opf_lim {ev : PX → AV} {d : Nat} {m : Ms} {op : POp} {z : AV × Option Rt × Ms} (h : opf (Gw T) ev d m op = some z) : ∃ n,opf (Gn T n) ev d m op = some z:=by
 cases op with
 | call f io args =>
  simp only [opf] at h ⊢
  cases io with
  | nil =>
   dsimp only at h ⊢
   cases h1 : argVs m [] 0 (args.map ev) with
   | none => rw [h1] at h; cases h
   | some xs =>
    rw [h1] at h
    dsimp only at h ⊢
    cases hg : Gw T f xs with
    | none => rw [hg] at h; cases h
    | some y =>
     rw [hg] at h
     obtain ⟨n,hg⟩:=(Gw_iff T).1 hg
     exact ⟨n,by rw [hg]; exact h⟩
  | cons i io =>
   dsimp only at h ⊢
   cases h1 : args.map ev with
   | nil => rw [h1] at h; cases h
   | cons a0 rest =>
    rw [h1] at h
    dsimp only at h ⊢
    cases hp : a0.ptr? m with
    | some y => rw [hp] at h; cases h
    | none =>
    rw [hp] at h
    dsimp only at h ⊢
    cases h2 : outV m a0 with
    | none => rw [h2] at h; cases h
    | some y0 =>
     obtain ⟨x0,m1⟩:=y0
     rw [h2] at h
     dsimp only at h ⊢
     cases h3 : argVs m1 [] 1 rest with
     | none => rw [h3] at h; cases h
     | some xs =>
      rw [h3] at h
      dsimp only at h ⊢
      cases hg : Gw T f (x0 :: xs) with
      | none => rw [hg] at h; cases h
      | some y =>
       rw [hg] at h
       obtain ⟨n,hg⟩:=(Gw_iff T).1 hg
       exact ⟨n,by rw [hg]; exact h⟩
 | callm f i args =>
  simp only [opf] at h ⊢
  split at h
  ·split at h
   ·split at h
    ·split at h
     ·rename_i hg
      obtain ⟨n,hg⟩:=(Gw_iff T).1 hg
      exact ⟨n,by rw [hg]; exact h⟩
     ·cases h
    ·cases h
   ·cases h
  ·cases h
 | callv => simp [opf] at h
 | _ => exact ⟨0,h⟩
theorem stepO_lim {o : PO} {S S' : St} (h : stepO (Gw T) o S = some S') : ∃ n,stepO (Gn T n) o S = some S':=by
 unfold stepO at h ⊢
 split at h
 ·split at h
  ·split at h
   ·rename_i a m hop; obtain ⟨n,hop⟩:=opf_lim hop; exact ⟨n,by rw [hop]; exact h⟩
   ·rename_i a r m hop; obtain ⟨n,hop⟩:=opf_lim hop; exact ⟨n,by rw [hop]; exact h⟩
   ·cases h
  ·split at h
   ·rename_i x m hop; obtain ⟨n,hop⟩:=opf_lim hop; exact ⟨n,by rw [hop]; exact h⟩
   ·cases h
 ·exact ⟨0,h⟩
 ·cases h
theorem runOps_lim : ∀ {ops : List PO} {S S' : St},runOps (Gw T) ops S = some S' → ∃ n,runOps (Gn T n) ops S = some S':=by
 intro ops
 induction ops with
 | nil => intro S S' h; exact ⟨0,h⟩
 | cons o os ih =>
  intro S S' h
  simp only [runOps] at h ⊢
  split at h
  ·rename_i S1 h1
   obtain ⟨n1,h1⟩:=stepO_lim h1
   obtain ⟨n2,h2⟩:=ih h
   refine ⟨max n1 n2,?_⟩
   rw [stepO_mono (Gn_le T (Nat.le_max_left n1 n2)) h1]
   exact (runOps_mono (Gn_le T (Nat.le_max_right n1 n2)) h2).1
  ·cases h
theorem runReg_lim {live ren ops draw} {L : AL} {o : Out} (h : runReg (Gw T) live ren ops draw L = o) (ho : o ≠ .fail) : ∃ n,runReg (Gn T n) live ren ops draw L = o:=by
 rcases runReg_cases (Gw T) live ren ops draw L with h1 | ⟨S,h1,h2,h3⟩
 ·rw [h1] at h; exact absurd h.symm ho
 ·obtain ⟨n,h4⟩:=runOps_lim h1
  refine ⟨n,?_⟩
  obtain ⟨h5,h6⟩:=runOps_mono (Gn_Gw T n) h4
  rw [← h]
  unfold runReg at h3 ⊢
  rw [← h6,h4,h1]
theorem iter_lim {c : PC} {fuel : Nat} (hf : ∀ L o,pexec (Gw T) fuel c L = o → o ≠ .fail → ∃ n,pexec (Gn T n) fuel c L = o) : ∀ (k : Nat) L o,iter (pexec (Gw T) fuel c) k L = o → o ≠ .fail → ∃ n,iter (pexec (Gn T n) fuel c) k L = o:=by
 intro k
 induction k with
 | zero => intro L o h ho; exact absurd h.symm ho
 | succ k ih =>
  intro L o h ho
  simp only [iter] at h ⊢
  cases h1 : pexec (Gw T) fuel c L with
  | fail => rw [h1] at h; exact absurd h.symm ho
  | norm L' =>
   rw [h1] at h
   obtain ⟨n1,h1⟩:=hf L _ h1 (by simp)
   obtain ⟨n2,h2⟩:=ih L' o h ho
   refine ⟨max n1 n2,?_⟩
   rw [pexec_mono (Gn_le T (Nat.le_max_left n1 n2)) (Nat.le_refl _) _ _ _ h1 (by simp)]
   exact iter_mono (fun L o => pexec_mono (Gn_le T (Nat.le_max_right n1 n2)) (Nat.le_refl _) c L o) k k (Nat.le_refl _) L' o h2 ho
  | exit i L' => rw [h1] at h; obtain ⟨n1,h1⟩:=hf L _ h1 (by simp); exact ⟨n1,by rw [h1]; exact h⟩
  | ret L' => rw [h1] at h; obtain ⟨n1,h1⟩:=hf L _ h1 (by simp); exact ⟨n1,by rw [h1]; exact h⟩
theorem callsOf_lim {l : Option (List (Nat × List V × V))} (h : CallsOf (Gw T) l) : ∃ n,CallsOf (Gn T n) l:=by
 cases l with
 | none => exact h.elim
 | some cs =>
  simp only [CallsOf] at h ⊢
  induction cs with
  | nil => exact ⟨0,fun c hc => by simp at hc⟩
  | cons c cs ih =>
   obtain ⟨n1,h1⟩:=ih fun c hc => h c (List.mem_cons_of_mem _ hc)
   obtain ⟨n2,h2⟩:=(Gw_iff T).1 (h c (by simp))
   refine ⟨max n1 n2,fun d hd => ?_⟩
   rcases List.mem_cons.1 hd with rfl | hd
   ·exact Gn_le T (Nat.le_max_right n1 n2) _ _ _ h2
   ·exact Gn_le T (Nat.le_max_left n1 n2) _ _ _ (h1 d hd)
theorem pexec_lim {fuel : Nat} : ∀ (c : PC) (L : AL) (o : Out),pexec (Gw T) fuel c L = o → o ≠ .fail → ∃ n,pexec (Gn T n) fuel c L = o:=by
 intro c
 induction c with
 | ext calls f =>
  intro L o h ho
  simp only [pexec] at h ⊢
  split at h
  ·rename_i hc
   obtain ⟨n,hn⟩:=callsOf_lim hc
   exact ⟨n,by rw [if_pos hn]; exact h⟩
  ·exact absurd h.symm ho
 | skip => intro L o h _; exact ⟨0,h⟩
 | reg live ren ops draw => intro L o h ho; exact runReg_lim h ho
 | seq a b iha ihb =>
  intro L o h ho
  simp only [pexec] at h ⊢
  cases h1 : pexec (Gw T) fuel a L with
  | fail => rw [h1] at h; exact absurd h.symm ho
  | norm L' =>
   rw [h1] at h
   obtain ⟨n1,h1⟩:=iha L _ h1 (by simp)
   obtain ⟨n2,h2⟩:=ihb L' o h ho
   refine ⟨max n1 n2,?_⟩
   rw [pexec_mono (Gn_le T (Nat.le_max_left n1 n2)) (Nat.le_refl _) _ _ _ h1 (by simp)]
   exact pexec_mono (Gn_le T (Nat.le_max_right n1 n2)) (Nat.le_refl _) _ _ _ h2 ho
  | exit i L' => rw [h1] at h; obtain ⟨n1,h1⟩:=iha L _ h1 (by simp); exact ⟨n1,by rw [h1]; exact h⟩
  | ret L' => rw [h1] at h; obtain ⟨n1,h1⟩:=iha L _ h1 (by simp); exact ⟨n1,by rw [h1]; exact h⟩
 | cond x a b iha ihb =>
  intro L o h ho
  simp only [pexec] at h ⊢
  cases h1 : (L.st.ev x).asBool with
  | none => rw [h1] at h; exact absurd h.symm ho
  | some t =>
   rw [h1] at h
   cases t with
   | true => exact iha L o h ho
   | false => exact ihb L o h ho
 | blk id c ih =>
  intro L o h ho
  simp only [pexec] at h ⊢
  cases h1 : pexec (Gw T) fuel c L with
  | fail => rw [h1] at h; exact absurd h.symm ho
  | norm L' => rw [h1] at h; obtain ⟨n1,h1⟩:=ih L _ h1 (by simp); exact ⟨n1,by rw [h1]; exact h⟩
  | exit i L' => rw [h1] at h; obtain ⟨n1,h1⟩:=ih L _ h1 (by simp); exact ⟨n1,by rw [h1]; exact h⟩
  | ret L' => rw [h1] at h; obtain ⟨n1,h1⟩:=ih L _ h1 (by simp); exact ⟨n1,by rw [h1]; exact h⟩
 | loop c ih =>
  intro L o h ho
  simp only [pexec] at h ⊢
  exact iter_lim ih fuel L o h ho
 | exit id => intro L o h _; exact ⟨0,h⟩
 | ret => intro L o h _; exact ⟨0,h⟩
theorem Gw_intro {f : Nat} {F : PF} {fuel : Nat} {xs : List V} {y} (hT : T f = some F) (h : prun (Gw T) fuel F xs = some y) : Gw T f xs = some y:=by
 refine (Gw_iff T).2 ?_
 have h' : ∃ n,prun (Gn T n) fuel F xs = some y:=by
  unfold prun at h ⊢
  split at h
  ·rename_i hc
   cases h1 : pexec (Gw T) fuel F.body (initAL 0 xs) with
   | fail => rw [h1] at h; cases h
   | norm L' => rw [h1] at h; obtain ⟨n,h1⟩:=pexec_lim _ _ _ h1 (by simp); exact ⟨n,by rw [if_pos hc,h1]; exact h⟩
   | exit i L' => rw [h1] at h; cases h
   | ret L' => rw [h1] at h; obtain ⟨n,h1⟩:=pexec_lim _ _ _ h1 (by simp); exact ⟨n,by rw [if_pos hc,h1]; exact h⟩
  ·cases h
 obtain ⟨n,h'⟩:=h'
 refine ⟨max n fuel + 1,?_⟩
 simp only [Gn,hT]
 exact prun_mono (Gn_le T (Nat.le_max_left n fuel)) (Nat.le_max_right n fuel) h'
theorem Gw_okX {P : Program} {κ : Nat → FuncId} (hκ : κ = kap) (hm : P.follows .mixedOrders = true)
  (hc : ∀ f F,T f = some F → chkF P κ (κ f) F = true ∨ (bodyOk P (κ f) = true ∧ ∀ Γ fuel xs r us,GOk P κ Γ → prun Γ fuel F xs = some (r,us) → OK P (κ f) xs r us)) :
  ∀ f xs r us,Gw T f xs = some (r,us) → OK P (κ f) xs r us:=by
 have key : ∀ n,GOk P κ (Gn T n):=by
  intro n
  induction n with
  | zero => exact ⟨hκ,fun f xs r us h => (by cases h),fun f xs y h => (by cases h)⟩
  | succ n ih =>
   refine ⟨hκ,fun f xs r us h => ?_,fun f xs y h => ?_⟩
   ·simp only [Gn] at h
    split at h
    ·rename_i F hF
     rcases hc f F hF with hc | hc
     ·exact fun_ok hm hc ih h
     ·exact hc.2 _ _ _ _ _ ih h
    ·cases h
   ·simp only [Gn] at h
    split at h
    ·rename_i F hF
     rcases hc f F hF with hc | hc
     ·exact chkF_body hc
     ·exact hc.1
    ·cases h
 intro f xs r us h
 obtain ⟨n,h⟩:=(Gw_iff T).1 h
 exact (key n).ok f xs r us h
end
end Go.Proofs.YtmlinnkaccgcgaaGreat.OM
