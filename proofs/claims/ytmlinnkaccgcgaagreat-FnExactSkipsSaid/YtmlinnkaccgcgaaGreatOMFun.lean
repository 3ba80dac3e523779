/- The own machine: functions. -/
import Derived.Test.YtmlinnkaccgcgaaGreatOMExec
set_option linter.all false
namespace Go.Proofs.YtmlinnkaccgcgaaGreat.OM
def chkRes (P : Program) : List PR → List ResultVar → Bool
 | [],[] => true
 | .s n :: l,.tmp t :: l' => n == t && chkRes P l l'
 | .b n size agg :: l,.cell a t :: l' => n == a && (match sizeT P t with | some (s,_) => s == size | none => false) && decide (aggT P t = some agg) && chkRes P l l'
 | _,_ => false
section
variable {P : Program} {κ : Nat → FuncId} {w0 : World} {cl0 : Ini} {Γ : Env} {w : World} {g : Gh}
def readRes (tmps : Array Value) : ResultVar → Sem Value
 | .tmp t => pure (tmps.getD t undef)
 | .cell a t => do loadVar t (← asAddr (tmps.getD a undef))
theorem resAV_ok {L : AL} {tmps : Array Value} (R : Rel w0 cl0 L.st tmps w g) {r : PR} {rv : ResultVar} {rs : List PR} {rvs : List ResultVar} (hc : chkRes P (r :: rs) (rv :: rvs) = true) {a : AV} (h : resAV L r = some a) :
  ∃ v,(readRes tmps rv).run P w = .ok v w ∧ RA w g L.st.ms a v ∧ chkRes P rs rvs = true:=by
 cases r with
 | s n =>
  cases rv with
  | cell => simp [chkRes] at hc
  | tmp t =>
   simp only [chkRes,Bool.and_eq_true,beq_iff_eq] at hc
   obtain ⟨rfl,hc⟩:=hc
   simp only [resAV,Option.some.injEq] at h
   subst h
   exact ⟨_,by simp [readRes],R.av n,hc⟩
 | b n size agg =>
  cases rv with
  | tmp => simp [chkRes] at hc
  | cell ad t =>
   simp only [chkRes,Bool.and_eq_true,beq_iff_eq,decide_eq_true_eq] at hc
   obtain ⟨⟨⟨rfl,hs⟩,ha⟩,hc⟩:=hc
   simp only [resAV] at h
   split at h
   ·rename_i l hl
    obtain ⟨b,off,xs,hv,hxl,havl,hcell,hra⟩:=loadC_ok R (R.av n) hl
    have hsz : ∀ w1,(sizeOf t).run P w1 = .ok size w1:=by
     intro w1
     unfold sizeT at hs
     split at hs
     ·rename_i hi; split at hi
      ·rename_i i hi'; simp at hi hs; simp [sizeOf,typeInfo,hi',hi.1,hs]
      ·cases hi
     ·cases hs
    have hadr : (asAddr (.pointer (some ⟨b,off,none⟩))).run P w = .ok ⟨b,off,none⟩ w:=rfl
    unfold aggT at ha
    cases agg
    ·have hag : (isAgg t).run P w = .ok false w:=by
      cases hu : P.underlying t with
      | none => simp [hu] at ha
      | some u => cases u <;> simp [hu] at ha <;> simp [isAgg,run_underlying hu]
     simp only [Bool.false_eq_true,if_false] at h
     split at h
     ·rename_i a1
      simp at h; subst h
      simp at havl; subst havl
      obtain ⟨x1,rfl⟩ : ∃ x1,xs = [x1]:=by
       match xs,hxl with
       | [x1],_ => exact ⟨x1,rfl⟩
      have h3:=hra 0 a1 x1 rfl rfl
      have h4:=hcell 0 x1 rfl
      refine ⟨x1,?_,h3.1,hc⟩
      simp only [readRes]; rw [hv]
      simp [hadr,loadVar,hag,show w.cell? ⟨b,off,none⟩ = some x1 from h4]
     ·cases h
    ·have hag : (isAgg t).run P w = .ok true w:=by
      cases hu : P.underlying t with
      | none => simp [hu] at ha
      | some u => cases u <;> simp [hu] at ha <;> simp [isAgg,run_underlying hu]
     simp at h; subst h
     refine ⟨.agg xs.toArray,?_,.agg _ _ (by simp [havl,hxl]) (fun i b y h5 h6 => (hra i b y h5 (by simpa using h6)).1),hc⟩
     have hlc:=loadCells_run P (w:=w) (b:=b) (o:=off) hxl hcell
     simp only [readRes]; rw [hv]
     simp [hadr,loadVar,hag,hsz,hlc]
   ·cases h
end
end Go.Proofs.YtmlinnkaccgcgaaGreat.OM
