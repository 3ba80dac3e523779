/- The own machine: code. -/
import Derived.Test.YtmlinnkaccgcgaaGreatOMSettle
set_option linter.all false
namespace Go.Proofs.YtmlinnkaccgcgaaGreat.OM
def chk (P : Program) (κ : Nat → FuncId) (N : Nat) (io : List Nat) : PC → Code → Bool
 | .skip,.skip => true
 | .reg live ren pos draw,.region _ ops dr => (io.all fun i => okR live ren i && lookR ren i == i) && chkOps P κ N ops pos ops.toList && (match draw,dr with
  | none,false => true
  | some ps,true => chkDraw pos ops.toList ps
  | _,_ => false)
 | .seq a b,.seq a' b' => chk P κ N io a a' && chk P κ N io b b'
 | .cond x a b,.cond y a' b' => chkX x y && chk P κ N io a a' && chk P κ N io b b'
 | .blk id c,.block id' c' => id == id' && chk P κ N io c c'
 | .loop c,.loop c' => chk P κ N io c c'
 | .exit id,.exit id' => id == id'
 | .ret,.ret => true
 | _,_ => false
def PC.keys : PC → List Nat
 | .reg _ _ pos _ => keysOps pos
 | .seq a b => a.keys ++ b.keys
 | .cond _ a b => a.keys ++ b.keys
 | .blk _ c => c.keys
 | .loop c => c.keys
 | _ => []
section
variable {P : Program} {κ : Nat → FuncId} {w0 : World} {cl0 : Ini} {Γ : Env} {N : Nat}
def OutOk (w0 : World) (cl0 : Ini) (N : Nat) (Q : Exit → Act → World → Prop) : Out → Prop
 | .fail => False
 | .norm L => ∀ a w,Sim w0 cl0 N L.st a w → Q .normal a w
 | .exit id L => ∀ a w,Sim w0 cl0 N L.st a w → Q (.exit id) a w
 | .ret L => ∀ a w,Sim w0 cl0 N L.st a w → Q .ret a w
theorem Sim.settle {S : St} {a : Act} {w : World} {live : List Nat} {ren : List (Nat × Nat)} (h : Sim w0 cl0 N S a w) (hio : ∀ i ∈ cl0.io,okR live ren i = true ∧ lookR ren i = i) : Sim w0 cl0 N (settle live ren S).st a w:=by
 obtain ⟨g,R,h⟩:=h
 exact ⟨_,settle_ok R hio,h⟩
theorem CallsOk.mono {k k' : List Nat} (h : CallsOk P κ Γ k) (hk : ∀ f ∈ k',f ∈ k) : CallsOk P κ Γ k':=h
theorem runReg_cases (Γ : Env) (live : List Nat) (ren : List (Nat × Nat)) (ops : List PO) (draw : Option (List (Nat × Nat))) (L : AL) :
  runReg Γ live ren ops draw L = .fail ∨ ∃ S,runOps Γ ops L.st = some S ∧ (∀ ps,draw = some ps → parOk (foots Γ ops L.st) ps = true) ∧ runReg Γ live ren ops draw L = .norm (settle live ren S):=by
 unfold runReg
 cases hr : runOps Γ ops L.st with
 | none => left; cases draw <;> simp
 | some S =>
  cases draw with
  | none => right; exact ⟨S,rfl,fun ps h => (by cases h),by simp⟩
  | some ps =>
   by_cases h : (ps.isEmpty || parOk (foots Γ ops L.st) ps) = true
   ·right
    refine ⟨S,rfl,fun ps' h' => ?_,by simp [h]⟩
    cases h'
    simp only [Bool.or_eq_true,List.isEmpty_iff] at h
    rcases h with h | h
    ·subst h; rfl
    ·exact h
   ·left; simp only [h]; rfl
theorem pexec_ok (hm : P.follows .mixedOrders = true) (fuel : Nat) : ∀ (c : PC) (code : Code),chk P κ N cl0.io c code = true → CallsOk P κ Γ c.keys →
  ∀ (Q : Exit → Act → World → Prop) (L : AL) (a : Act) (w : World),OutOk w0 cl0 N Q (pexec Γ fuel c L) → Sim w0 cl0 N L.st a w → code.wp P Q a w:=by
 intro c
 induction c with
 | ext calls f =>
  intro code hc _ Q L a w hQ hs
  simp [chk] at hc
 | skip =>
  intro code hc _ Q L a w hQ hs
  cases code <;> simp [chk] at hc
  exact wp_skip (hQ a w hs)
 | reg live ren pos draw =>
  intro code hc hk Q L a w hQ hs
  cases code with
  | region id ops dr =>
   simp only [chk,Bool.and_eq_true] at hc
   obtain ⟨⟨hio,hc⟩,hd⟩:=hc
   have hio' : ∀ i ∈ cl0.io,okR live ren i = true ∧ lookR ren i = i:=fun i hi => by
    have:=List.all_eq_true.1 hio i hi
    simpa using this
   simp only [pexec] at hQ
   rcases runReg_cases Γ live ren pos draw L with h | ⟨S',hrun,hp,h⟩
   ·rw [h] at hQ; exact hQ.elim
   ·rw [h] at hQ
    have hQ' : ∀ a w,Sim w0 cl0 N S' a w → Q .normal a w:=fun a w h => hQ a w (h.settle hio')
    split at hd
    ·exact wp_seqReg hk hc hQ' hrun hs
    ·rename_i ps
     exact wp_drawReg hm hk hc hd hQ' hrun (hp ps rfl) hs
    ·cases hd
  | _ => simp [chk] at hc
 | seq x y ihx ihy =>
  intro code hc hk Q L a w hQ hs
  cases code with
  | seq x' y' =>
   simp only [chk,Bool.and_eq_true] at hc
   refine wp_seq (ihx x' hc.1 (hk.mono fun f hf => by simp [PC.keys,hf]) _ L a w ?_ hs)
   simp only [pexec] at hQ
   cases h : pexec Γ fuel x L with
   | fail => rw [h] at hQ; exact hQ.elim
   | norm L' =>
    rw [h] at hQ
    exact fun a w hs => ihy y' hc.2 (hk.mono fun f hf => by simp [PC.keys,hf]) Q L' a w hQ hs
   | exit id L' => rw [h] at hQ; exact fun a w hs => hQ a w hs
   | ret L' => rw [h] at hQ; exact fun a w hs => hQ a w hs
  | _ => simp [chk] at hc
 | cond x a1 b1 iha ihb =>
  intro code hc hk Q L a w hQ hs
  cases code with
  | cond y a' b' =>
   simp only [chk,Bool.and_eq_true] at hc
   simp only [pexec] at hQ
   cases ht : (L.st.ev x).asBool with
   | some t =>
    rw [ht] at hQ
    have hv : a.eval y = .bool t:=by
     obtain ⟨g,R,_⟩:=hs
     exact asBool_ok (chkX_ok R hc.1.1).1 ht
    refine wp_cond hv ?_
    cases t with
    | true => exact iha a' hc.1.2 (hk.mono fun f hf => by simp [PC.keys,hf]) Q L a w (by simpa using hQ) hs
    | false => exact ihb b' hc.2 (hk.mono fun f hf => by simp [PC.keys,hf]) Q L a w (by simpa using hQ) hs
   | none => rw [ht] at hQ; exact hQ.elim
  | _ => simp [chk] at hc
 | blk id c ih =>
  intro code hc hk Q L a w hQ hs
  cases code with
  | block id' c' =>
   simp only [chk,Bool.and_eq_true,beq_iff_eq] at hc
   obtain ⟨rfl,hc⟩:=hc
   refine wp_block (ih c' hc hk _ L a w ?_ hs)
   simp only [pexec] at hQ
   cases h : pexec Γ fuel c L with
   | fail => rw [h] at hQ; exact hQ.elim
   | norm L' => rw [h] at hQ; exact fun a w hs => hQ a w hs
   | exit i L' =>
    rw [h] at hQ
    intro a w hs
    simp only [Exit.inBlock]
    by_cases e : i = id
    ·simp only [e,if_true] at hQ ⊢; exact hQ a w hs
    ·simp only [e,if_false] at hQ ⊢; exact hQ a w hs
   | ret L' => rw [h] at hQ; exact fun a w hs => hQ a w hs
  | _ => simp [chk] at hc
 | loop c ih =>
  intro code hc hk Q L a w hQ hs
  cases code with
  | loop c' =>
   simp only [chk] at hc
   refine wp_loop_rounds fuel ?_
   simp only [pexec] at hQ
   have key : ∀ (n : Nat) (L : AL) (a : Act) (w : World),OutOk w0 cl0 N Q (iter (pexec Γ fuel c) n L) → Sim w0 cl0 N L.st a w → Code.rounds P c' Q n a w:=by
    intro n
    induction n with
    | zero => intro L a w hQ _; exact hQ.elim
    | succ n ihn =>
     intro L a w hQ hs
     rw [rounds_succ]
     refine ih c' hc hk _ L a w ?_ hs
     simp only [iter] at hQ
     cases h : pexec Γ fuel c L with
     | fail => rw [h] at hQ; exact hQ.elim
     | norm L' => rw [h] at hQ; exact fun a w hs => ihn L' a w hQ hs
     | exit i L' => rw [h] at hQ; exact fun a w hs => hQ a w hs
     | ret L' => rw [h] at hQ; exact fun a w hs => hQ a w hs
   exact key fuel L a w hQ hs
  | _ => simp [chk] at hc
 | exit id =>
  intro code hc _ Q L a w hQ hs
  cases code with
  | exit id' =>
   simp only [chk,beq_iff_eq] at hc
   subst hc
   exact wp_exit (hQ a w hs)
  | _ => simp [chk] at hc
 | ret =>
  intro code hc _ Q L a w hQ hs
  cases code <;> simp [chk] at hc
  exact wp_ret (hQ a w hs)
end
end Go.Proofs.YtmlinnkaccgcgaaGreat.OM
