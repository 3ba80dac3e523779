/- The own machine: new roots, changed roots, slots. -/
import Derived.Test.YtmlinnkaccgcgaaGreatOMTake2
set_option linter.all false
namespace Go.Proofs.YtmlinnkaccgcgaaGreat.OM
section
variable {w0 : World} {cl0 : Ini} {S : St} {ts : Array Value} {w : World} {g : Gh}
theorem Rel.slot (R : Rel w0 cl0 S ts w g) {d : Nat} {a : AV} {v : Value} (hd : d < ts.size) (ha : RA w g S.ms a v)
  (hr : ∀ r ∈ a.refs,((S.ms r).1).isSome) : Rel w0 cl0 { S with av:=upd S.av d a } (ts.setIfInBounds d v) w g:=by
 refine { av:=fun n => ?_,rt:=R.rt,rfs:=fun n r h => ?_,rfc:=R.rfc,bd:=R.bd,sz:=R.sz,fr:=R.fr,im:=R.im,mi:=R.mi,sd:=R.sd,pin:=R.pin }
 ·by_cases e : n = d
  ·subst e
   simp [upd,Array.getD_eq_getD_getElem?,hd]
   exact ha
  ·simp only [upd_ne e]
   have : (ts.setIfInBounds d v).getD n undef = ts.getD n undef:=by
    simp [Array.getD_eq_getD_getElem?,Array.getElem?_setIfInBounds,Ne.symm e]
   rw [this]; exact R.av n
 ·by_cases e : n = d
  ·subst e; simp [upd] at h; exact hr r h
  ·simp only [upd_ne e] at h; exact R.rfs n r h
structure NewR (d : Nat) (w w' : World) (g g' : Gh) : Prop where
 hp : ∀ b,b < w.heap.size → (∀ j ρ,g.cl b ≠ .own 0 j ρ) → w'.heap[b]? = w.heap[b]?
 hs : w.heap.size ≤ w'.heap.size
 kc : ∀ b k,g'.cl b = kc k ↔ g.cl b = kc k
 cl : ∀ b n j ρ,g.cl b = .own (n + 1) j ρ → n ≠ d → g'.cl b = .own (n + 1) j ρ
 bx : ∀ b n,g.cl b = .box n → n ≠ d → g'.cl b = .box n
 hd : ∀ n j ρ,n ≠ d → g'.hd (n + 1) j ρ = g.hd (n + 1) j ρ
 bk : ∀ n,n ≠ d → g'.bk n = g.bk n
 bd : ∀ b,g'.cl b ≠ .no → g.cl b ≠ .no ∨ (w.heap.size ≤ b ∧ b < w'.heap.size)
 mi : ∀ b,b < w.heap.size → (g'.cl b).mine = true → (g.cl b).mine = true
 sd : Same w w'
theorem NewR.refl (d : Nat) (w : World) (g : Gh) : NewR d w w g g :=
 ⟨fun _ _ _ => rfl,Nat.le_refl _,fun _ _ => .rfl,fun _ _ _ _ h _ => h,fun _ _ h _ => h,fun _ _ _ _ => rfl,fun _ _ => rfl,fun _ h => .inl h,fun _ _ h => h,.refl _⟩
theorem Rel.fresh (R : Rel w0 cl0 S ts w g) {d : Nat} {rt : Rt} {w' : World} {g' : Gh} (hn : (S.ms d).1 = none) (H : NewR d w w' g g')
    (hrt : RtOk w' g' d rt) (hrf : ∀ (j r j' : Nat),rt.cells[j]? = some (C.rf r j') → ∃ cs,(S.ms r).1 = some (.vir cs)) :
    Rel w0 cl0 { S with ms:=upd S.ms d (some rt,[]) } ts w' g':=by
  have hlt : ∀ b,g.cl b ≠ .no → (∀ j ρ,g.cl b ≠ .own 0 j ρ) → w'.heap[b]? = w.heap[b]?:=fun b hb => H.hp b (R.bd b hb)
  have hkc : ∀ b k,g.cl b = OM.kc k → w'.heap[b]? = w.heap[b]? ∧ g'.cl b = OM.kc k :=
    fun b k h => ⟨hlt b (by rw [h]; cases k <;> simp [OM.kc]) (by rw [h]; cases k <;> simp [OM.kc]),(H.kc b k).2 h⟩
  have hne : ∀ r,((S.ms r).1).isSome → r ≠ d:=fun r h e => by subst e; simp [hn] at h
  refine { av:=fun n => ?_,rt:=fun n rt1 h => ?_,rfs:=fun n r h => rfs_upd (R.rfs n r h),rfc:=fun n rt1 j r j' h h1 => ?_,
           bd:=fun b h => ?_,sz:=Nat.le_trans R.sz H.hs,fr:=fun b hb hm => ?_,im:=fun b k => (H.kc b k).trans (R.im b k),
           mi:=fun b hb hm => R.mi b hb (H.mi b (Nat.lt_of_lt_of_le hb R.sz) hm),sd:=R.sd.trans H.sd,
           pin:=fun i hi => (by
             have h:=R.pin i hi
             have hne : i ≠ d:=fun e => by subst e; rw [hn] at h; exact h
             simp only [upd_ne hne]
             revert h
             cases (S.ms i).1 with
             | none => exact id
             | some rt1 =>
               cases rt1 with
               | vir cs => exact fun h j1 => (H.hd i j1 [] hne).trans (h j1)
               | bx cs => exact fun h => (H.bk i hne).trans h) }
  · refine (R.av n).mono hkc (fun r hr => ?_)
    have:=hne r (R.rfs n r hr)
    exact ⟨H.bk r this,fun j p hk => ⟨by simpa only [Ms.killed,upd_ne this] using hk,H.hd r j p this⟩⟩
  · by_cases e : n = d
    · subst e; simp [upd] at h; subst h; exact hrt
    · simp only [upd_ne e] at h
      have h0:=R.rt n rt1 h
      refine h0.mono hkc (fun b j ρ hb => ⟨hlt b (by rw [hb]; simp) (by rw [hb]; simp),H.cl b n j ρ hb e⟩) (fun cs hcs => ?_) (fun j ρ => H.hd n j ρ e) (fun j r1 j1 hc => ?_)
      · subst hcs
        exact ⟨H.bk n e,hlt _ (by rw [h0.1]; simp) (by rw [h0.1]; simp),by rw [h0.1]; exact H.bx _ _ h0.1 e⟩
      · obtain ⟨cs,h2⟩:=R.rfc n rt1 j r1 j1 h hc
        exact H.hd r1 j1 [] (hne r1 (by simp [h2]))
  · have : ∃ cs,(S.ms r).1 = some (.vir cs):=by
      by_cases e : n = d
      · subst e; simp [upd] at h; subst h; exact hrf j r j' h1
      · simp only [upd_ne e] at h; exact R.rfc n rt1 j r j' h h1
    obtain ⟨cs,h2⟩:=this
    exact ⟨cs,by simp only [upd_ne (hne r (by simp [h2]))]; exact h2⟩
  · rcases H.bd b h with h1 | h1
    · exact Nat.lt_of_lt_of_le (R.bd b h1) H.hs
    · exact h1.2
  · rw [H.hp b (Nat.lt_of_lt_of_le hb R.sz) (fun j ρ h => by
      have:=R.mi b hb (by rw [h]; rfl)
      rw [this] at hm; cases hm)]
    exact R.fr b hb hm
structure ChgR (r b0 : Nat) (vir : Bool) (m' : Ms) (w w' : World) (g g' : Gh) : Prop where
 hp : ∀ b,b ≠ b0 → w'.heap[b]? = w.heap[b]?
 hs : w'.heap.size = w.heap.size
 ow : g.cl b0 = .box r ∨ ∃ j ρ,g.cl b0 = .own (r + 1) j ρ
 kc : ∀ b k,g'.cl b = kc k ↔ g.cl b = kc k
 cl : ∀ b n j ρ,g.cl b = .own (n + 1) j ρ → g'.cl b = .own (n + 1) j ρ
 bx : ∀ b n,g.cl b = .box n → g'.cl b = .box n
 hd : ∀ n j ρ,n ≠ r → g'.hd (n + 1) j ρ = g.hd (n + 1) j ρ
 hr : ∀ j ρ,m'.killed r j ρ = false → g'.hd (r + 1) j ρ = g.hd (r + 1) j ρ
 hv : ∀ j,vir = true → g'.hd (r + 1) j [] = g.hd (r + 1) j []
 bk : g'.bk = g.bk
 bd : ∀ b,g'.cl b ≠ .no → g.cl b ≠ .no
 mi : ∀ b,(g'.cl b).mine = true → (g.cl b).mine = true
 sd : Same w w'
theorem Rel.chg (R : Rel w0 cl0 S ts w g) {r b0 : Nat} {rt rt' : Rt} {kl : List (Nat × Pth)} {w' : World} {g' : Gh} (h0 : (S.ms r).1 = some rt)
    (hvir : rt.isVir = rt'.isVir)
    (H : ChgR r b0 rt.isVir (upd S.ms r (some rt',kl ++ (S.ms r).2)) w w' g g') (hrt : RtOk w' g' r rt')
    (hrf : ∀ (j r1 j' : Nat),rt'.cells[j]? = some (C.rf r1 j') → ∃ cs,(S.ms r1).1 = some (.vir cs)) :
    Rel w0 cl0 { S with ms:=upd S.ms r (some rt',kl ++ (S.ms r).2) } ts w' g':=by
  have hb0m : (g.cl b0).mine = true:=by rcases H.ow with h | ⟨j,ρ,h⟩ <;> rw [h] <;> rfl
  have hkc : ∀ b k,g.cl b = OM.kc k → w'.heap[b]? = w.heap[b]? ∧ g'.cl b = OM.kc k:=fun b k h =>
    ⟨H.hp b (fun e => by subst e; rw [h] at hb0m; cases k <;> simp [OM.kc,Cls.mine] at hb0m),(H.kc b k).2 h⟩
  have hvirr : ∀ r1 cs,(S.ms r1).1 = some (.vir cs) → ∃ cs',(upd S.ms r (some rt',kl ++ (S.ms r).2) r1).1 = some (.vir cs'):=by
    intro r1 cs h
    by_cases e : r1 = r
    · subst e
      rw [h0] at h; cases h
      cases rt' with
      | vir cs' => exact ⟨cs',by simp [upd]⟩
      | bx => simp [Rt.isVir] at hvir
    · exact ⟨cs,by simpa [upd,e] using h⟩
  refine { av:=fun n => ?_,rt:=fun n rt1 h => ?_,rfs:=fun n r1 h => rfs_upd (R.rfs n r1 h),rfc:=fun n rt1 j r1 j' h h1 => ?_,
           bd:=fun b h => ?_,sz:=by show _ ≤ w'.heap.size; rw [H.hs]; exact R.sz,fr:=fun b hb hm => ?_,im:=fun b k => (H.kc b k).trans (R.im b k),
           mi:=fun b hb hm => R.mi b hb (H.mi b hm),sd:=R.sd.trans H.sd,
           pin:=fun i hi => (by
             have h:=R.pin i hi
             by_cases e : i = r
             · subst e
               rw [h0] at h
               simp only [upd,if_true]
               cases rt with
               | vir cs =>
                 cases rt' with
                 | vir cs' => exact fun j1 => (H.hv j1 rfl).trans (h j1)
                 | bx cs' => simp [Rt.isVir] at hvir
               | bx cs =>
                 cases rt' with
                 | vir cs' => simp [Rt.isVir] at hvir
                 | bx cs' => exact (congrFun H.bk i).trans h
             · simp only [upd_ne e]
               revert h
               cases (S.ms i).1 with
               | none => exact id
               | some rt1 =>
                 cases rt1 with
                 | vir cs => exact fun h j1 => (H.hd i j1 [] e).trans (h j1)
                 | bx cs => exact fun h => (congrFun H.bk i).trans h) }
  · refine (R.av n).mono hkc (fun r1 hr => ⟨by rw [H.bk],fun j p hk => ⟨killed_upd hk,?_⟩⟩)
    by_cases e : r1 = r
    · subst e; exact H.hr j p hk
    · exact H.hd r1 j p e
  · by_cases e : n = r
    · subst e; simp [upd] at h; subst h; exact hrt
    · simp only [upd_ne e] at h
      have h2:=R.rt n rt1 h
      refine h2.mono hkc (fun b j ρ hb => ⟨H.hp b (fun e1 => ?_),H.cl b n j ρ hb⟩) (fun cs hcs => ?_) (fun j ρ => H.hd n j ρ e) (fun j r1 j1 hc => ?_)
      · subst e1
        rcases H.ow with h3 | ⟨j3,ρ3,h3⟩ <;> rw [h3] at hb
        · cases hb
        · simp at hb; exact e hb.1.symm
      · subst hcs
        refine ⟨by rw [H.bk],H.hp _ (fun e1 => ?_),by rw [h2.1]; exact H.bx _ _ h2.1⟩
        have h4:=h2.1
        rw [e1] at h4
        rcases H.ow with h3 | ⟨j3,ρ3,h3⟩ <;> rw [h3] at h4
        · cases h4; exact e rfl
        · cases h4
      · obtain ⟨cs,h3⟩:=R.rfc n rt1 j r1 j1 h hc
        by_cases e1 : r1 = r
        · subst e1
          rw [h0] at h3; cases h3
          exact H.hv j1 rfl
        · exact H.hd r1 j1 [] e1
  · have : ∃ cs,(S.ms r1).1 = some (.vir cs):=by
      by_cases e : n = r
      · subst e; simp [upd] at h; subst h; exact hrf j r1 j' h1
      · simp only [upd_ne e] at h; exact R.rfc n rt1 j r1 j' h h1
    obtain ⟨cs,h2⟩:=this
    exact hvirr r1 cs h2
  · show b < w'.heap.size; rw [H.hs]; exact R.bd b (H.bd b h)
  · by_cases e : b = b0
    · subst e
      have:=R.mi b hb hb0m
      rw [this] at hm; cases hm
    · rw [H.hp b e]; exact R.fr b hb hm
end
end Go.Proofs.YtmlinnkaccgcgaaGreat.OM
