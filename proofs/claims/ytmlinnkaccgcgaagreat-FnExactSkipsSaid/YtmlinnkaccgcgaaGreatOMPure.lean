/- The own machine: rules to run its texts in proofs. -/
import Derived.Test.YtmlinnkaccgcgaaGreatOMMach
set_option linter.all false
namespace Go.Proofs.YtmlinnkaccgcgaaGreat.OM
section
variable {Γ : Env} {Q : Out → Prop} {L : AL}
def Wp (Γ : Env) (c : PC) (Q : Out → Prop) (L : AL) : Prop:=∃ fuel o,pexec Γ fuel c L = o ∧ o ≠ .fail ∧ Q o
theorem Env.le_refl (Γ : Env) : Env.le Γ Γ:=fun _ _ _ h => h
theorem Wp.mono {c : PC} {Q' : Out → Prop} (h : Wp Γ c Q L) (hq : ∀ o,o ≠ .fail → Q o → Q' o) : Wp Γ c Q' L:=by
 obtain ⟨n,o,h1,h2,h3⟩:=h
 exact ⟨n,o,h1,h2,hq o h2 h3⟩
def seqQ (Γ : Env) (b : PC) (Q : Out → Prop) : Out → Prop
 | .norm L' => Wp Γ b Q L'
 | o => Q o
def blkQ (id : Nat) (Q : Out → Prop) : Out → Prop
 | .exit i L' => if i = id then Q (.norm L') else Q (.exit i L')
 | o => Q o
def regQ (Q : Out → Prop) : Out → Prop
 | .fail => False
 | o => Q o
theorem wp_ext {calls : AL → Option (List (Nat × List V × V))} {f : AL → Option AL} {L' : AL} (hc : CallsOf Γ (calls L)) (hf : f L = some L') (h : Q (.norm L')) : Wp Γ (.ext calls f) Q L :=
 ⟨0,.norm L',by simp only [pexec]; rw [if_pos hc,hf],by simp,h⟩
theorem wp_skip (h : Q (.norm L)) : Wp Γ .skip Q L:=⟨0,_,rfl,by simp [pexec],h⟩
theorem wp_exit {id : Nat} (h : Q (.exit id L)) : Wp Γ (.exit id) Q L:=⟨0,_,rfl,by simp [pexec],h⟩
theorem wp_ret (h : Q (.ret L)) : Wp Γ .ret Q L:=⟨0,_,rfl,by simp [pexec],h⟩
theorem wp_seq {a b : PC} (h : Wp Γ a (seqQ Γ b Q) L) : Wp Γ (.seq a b) Q L:=by
 obtain ⟨n,o,h1,h2,h3⟩:=h
 cases o with
 | fail => exact absurd rfl h2
 | norm L' =>
  obtain ⟨m,o',h4,h5,h6⟩:=h3
  refine ⟨max n m,o',?_,h5,h6⟩
  simp only [pexec]
  rw [pexec_mono (Env.le_refl Γ) (Nat.le_max_left n m) _ _ _ h1 h2]
  exact pexec_mono (Env.le_refl Γ) (Nat.le_max_right n m) _ _ _ h4 h5
 | exit i L' => exact ⟨n,_,by simp only [pexec]; rw [h1],h2,h3⟩
 | ret L' => exact ⟨n,_,by simp only [pexec]; rw [h1],h2,h3⟩
theorem wp_blk {id : Nat} {c : PC} (h : Wp Γ c (blkQ id Q) L) : Wp Γ (.blk id c) Q L:=by
 obtain ⟨n,o,h1,h2,h3⟩:=h
 cases o with
 | fail => exact absurd rfl h2
 | norm L' => exact ⟨n,_,by simp only [pexec]; rw [h1],h2,h3⟩
 | exit i L' =>
  simp only [blkQ] at h3
  by_cases e : i = id
  ·rw [if_pos e] at h3
   exact ⟨n,_,by simp only [pexec]; rw [h1]; simp only [if_pos e],by simp,h3⟩
  ·rw [if_neg e] at h3
   exact ⟨n,_,by simp only [pexec]; rw [h1]; simp only [if_neg e],by simp,h3⟩
 | ret L' => exact ⟨n,_,by simp only [pexec]; rw [h1],h2,h3⟩
theorem wp_cond {x : PX} {a b : PC} {t : Bool} (ht : (L.st.ev x).asBool = some t) (h1 : t = true → Wp Γ a Q L) (h2 : t = false → Wp Γ b Q L) : Wp Γ (.cond x a b) Q L:=by
 cases t with
 | true =>
  obtain ⟨n,o,h1,h2,h3⟩:=h1 rfl
  exact ⟨n,o,by simp only [pexec]; rw [ht]; exact h1,h2,h3⟩
 | false =>
  obtain ⟨n,o,h1,h2,h3⟩:=h2 rfl
  exact ⟨n,o,by simp only [pexec]; rw [ht]; exact h1,h2,h3⟩
theorem wp_reg {live ren ops draw} (h : regQ Q (runReg Γ live ren ops draw L)) : Wp Γ (.reg live ren ops draw) Q L:=by
 cases ho : runReg Γ live ren ops draw L with
 | fail => rw [ho] at h; exact h.elim
 | _ => rw [ho] at h; exact ⟨0,_,by simp only [pexec]; exact ho,by simp,h⟩
theorem wp_loop {c : PC} (h : Wp Γ c (seqQ Γ (.loop c) Q) L) : Wp Γ (.loop c) Q L:=by
 obtain ⟨n,o,h1,h2,h3⟩:=h
 cases o with
 | fail => exact absurd rfl h2
 | norm L' =>
  obtain ⟨m,o',h4,h5,h6⟩:=h3
  refine ⟨max n m + 1,o',?_,h5,h6⟩
  simp only [pexec,iter]
  rw [pexec_mono (Env.le_refl Γ) (show n ≤ max n m + 1 by omega) _ _ _ h1 h2]
  simp only [pexec] at h4
  exact iter_mono (pexec_mono (Env.le_refl Γ) (by omega) c) _ _ (Nat.le_max_right n m) _ _ h4 h5
 | exit i L' => exact ⟨n + 1,_,by simp only [pexec,iter]; rw [pexec_mono (Env.le_refl Γ) (show n ≤ n + 1 by omega) _ _ _ h1 h2],h2,h3⟩
 | ret L' => exact ⟨n + 1,_,by simp only [pexec,iter]; rw [pexec_mono (Env.le_refl Γ) (show n ≤ n + 1 by omega) _ _ _ h1 h2],h2,h3⟩
def endQ (F : PF) (xs : List V) (y : V × List (Nat × Nat × C)) : Out → Prop
 | .ret L | .norm L => finish F xs L = some y
 | _ => False
end
theorem Gw_of {T : Nat → Option PF} {f : Nat} {F : PF} {xs : List V} {y} (hT : T f = some F)
  (hc : (xs.all V.argOk && F.io.all (fun i => ((initAL 0 xs).get i).2.isSome)) = true)
  (h : Wp (Gw T) F.body (endQ F xs y) (initAL 0 xs)) : Gw T f xs = some y:=by
 obtain ⟨n,o,h1,h2,h3⟩:=h
 refine Gw_intro (fuel:=n) hT ?_
 unfold prun
 rw [if_pos hc,h1]
 cases o with
 | fail => exact absurd rfl h2
 | norm L => exact h3
 | ret L => exact h3
 | exit i L => exact h3.elim
end Go.Proofs.YtmlinnkaccgcgaaGreat.OM
