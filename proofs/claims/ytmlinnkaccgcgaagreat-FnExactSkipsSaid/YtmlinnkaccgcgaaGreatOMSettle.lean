/- The own machine: a region's end. -/
import Derived.Test.YtmlinnkaccgcgaaGreatOMDraw
set_option linter.all false
namespace Go.Proofs.YtmlinnkaccgcgaaGreat.OM
section
variable {w0 : World} {cl0 : Ini} {S : St} {ts : Array Value} {w : World} {g : Gh} {live : List Nat} {ren : List (Nat × Nat)}
theorem okR_spec {r : Nat} (h : okR live ren r = true) : lookR ren r ∈ live ∧ srcR ren (lookR ren r) = r:=by
 simp only [okR,Bool.and_eq_true,beq_iff_eq,List.contains_iff_mem] at h
 exact h
theorem get_map (f : Nat → AV × Option Rt) : ∀ (l : List Nat) (n : Nat),AL.get (l.map fun n => (n,f n)) n = if n ∈ l then f n else (.un,none):=by
 intro l n
 induction l with
 | nil => rfl
 | cons k l ih =>
  simp only [List.map_cons,AL.get]
  by_cases e : n = k
  ·subst e; simp
  ·simp [e,ih]
theorem settle_get (n : Nat) : (settle live ren S).get n = if n ∈ live then (fixAV S.ms live ren (S.av n),keepRt S live ren n) else (.un,none) :=
 get_map (fun n => (fixAV S.ms live ren (S.av n),keepRt S live ren n)) live n
def Gh.set (g : Gh) (live : List Nat) (ren : List (Nat × Nat)) : Gh where
 cl:=fun b => match g.cl b with
  | .own (n + 1) j ρ => if okR live ren n then .own (lookR ren n + 1) j ρ else .no
  | .own 0 _ _ => .no
  | .box n => if okR live ren n then .box (lookR ren n) else .no
  | c => c
 hd:=fun r j ρ => match r with
  | 0 => g.hd 0 j ρ
  | n + 1 => g.hd (srcR ren n + 1) j ρ
 bk:=fun n => g.bk (srcR ren n)
theorem Gh.set_kc {b : Nat} {k : Bool} : (g.set live ren).cl b = kc k ↔ g.cl b = kc k:=by
 simp only [Gh.set]
 cases h : g.cl b with
 | own r j ρ =>
  cases r with
  | zero => cases k <;> simp [kc]
  | succ n => simp only; split <;> cases k <;> simp [kc]
 | box n => simp only; split <;> cases k <;> simp [kc]
 | _ => exact .rfl
theorem Gh.set_own {b n j : Nat} {ρ : Pth} (h : g.cl b = .own (n + 1) j ρ) (ho : okR live ren n = true) : (g.set live ren).cl b = .own (lookR ren n + 1) j ρ:=by
 simp [Gh.set,h,ho]
theorem Gh.set_box {b n : Nat} (h : g.cl b = .box n) (ho : okR live ren n = true) : (g.set live ren).cl b = .box (lookR ren n):=by
 simp [Gh.set,h,ho]
theorem Gh.set_hd {n j : Nat} {ρ : Pth} (ho : okR live ren n = true) : (g.set live ren).hd (lookR ren n + 1) j ρ = g.hd (n + 1) j ρ:=by
 simp only [Gh.set,(okR_spec ho).2]
theorem Gh.set_bk {n : Nat} (ho : okR live ren n = true) : (g.set live ren).bk (lookR ren n) = g.bk n:=by
 simp only [Gh.set,(okR_spec ho).2]
mutual
theorem fixAV_ok {m' : Ms} (hm : ∀ r j p,m'.killed r j p = false) : ∀ (a : AV) (x : Value),RA w g S.ms a x → RA w (g.set live ren) m' (fixAV S.ms live ren a) x
 | .un,x,_ => .un x
 | .v k d,x,h => by
  cases h with
  | v _ _ _ h => exact .v _ _ _ (h.mono fun b hb => ⟨rfl,Gh.set_kc.2 hb⟩)
 | .nl sz,x,h => by cases h; exact .nl sz
 | .agg cs,x,h => by
  cases h with
  | agg _ vs hl hc =>
   simp only [fixAV]
   have hf:=fixAVs_get live ren S.ms cs
   refine .agg _ vs (by rw [hf.1]; exact hl) fun i a y ha hy => ?_
   obtain ⟨b,hb,rfl⟩:=hf.2 i a ha
   exact fixAVs_ok hm cs i b y hb (hc i b y hb hy)
 | .tup cs,x,h => by
  cases h with
  | tup _ vs hl hc =>
   simp only [fixAV]
   have hf:=fixAVs_get live ren S.ms cs
   refine .tup _ vs (by rw [hf.1]; exact hl) fun i a y ha hy => ?_
   obtain ⟨b,hb,rfl⟩:=hf.2 i a ha
   exact fixAVs_ok hm cs i b y hb (hc i b y hb hy)
 | .pl r j p,x,h => by
  cases h with
  | pl _ _ _ b n c h =>
   simp only [fixAV]
   split
   ·exact .un _
   ·rename_i hk
    simp only [Bool.or_eq_true,Bool.not_eq_true',not_or,Bool.not_eq_true,Bool.not_eq_false] at hk
    exact .pl _ _ _ _ _ _ fun _ => by rw [Gh.set_hd hk.2]; exact h hk.1
 | .rg r j p sz lo hi,x,h => by
  cases h with
  | rg _ _ _ _ _ _ b n c h =>
   simp only [fixAV]
   split
   ·exact .un _
   ·rename_i hk
    simp only [Bool.or_eq_true,Bool.not_eq_true',not_or,Bool.not_eq_true,Bool.not_eq_false] at hk
    exact .rg _ _ _ _ _ _ _ _ _ fun _ => by rw [Gh.set_hd hk.2]; exact h hk.1
 | .bx r j,x,h => by
  cases h
  simp only [fixAV]
  split
  ·exact .un _
  ·rename_i hk
   simp only [Bool.not_eq_true',Bool.not_eq_false] at hk
   rw [← Gh.set_bk (g:=g) hk]
   exact .bx _ _
 | .fv f r,x,h => by
  cases h
  simp only [fixAV]
  split
  ·exact .un _
  ·rename_i hk
   simp only [Bool.not_eq_true',Bool.not_eq_false] at hk
   rw [← Gh.set_bk (g:=g) hk]
   exact .fv _ _
 | .ad r j p sz i c,x,h => by
  cases h with
  | ad _ _ _ _ _ _ b o h =>
   simp only [fixAV]
   split
   ·exact .un _
   ·rename_i hk
    simp only [Bool.or_eq_true,Bool.not_eq_true',not_or,Bool.not_eq_true,Bool.not_eq_false] at hk
    exact .ad _ _ _ _ _ _ _ _ fun _ => by rw [Gh.set_hd hk.2]; exact h hk.1
 | .ra k sz es i c,x,h => by
  cases h with
  | ra _ _ _ _ _ b off cap h hi => exact .ra _ _ _ _ _ _ _ _ (h.mono fun b hb => ⟨rfl,Gh.set_kc.2 hb⟩) hi
theorem fixAVs_ok {m' : Ms} (hm : ∀ r j p,m'.killed r j p = false) : ∀ (cs : List AV) (i : Nat) (b : AV) (y : Value),cs[i]? = some b → RA w g S.ms b y → RA w (g.set live ren) m' (fixAV S.ms live ren b) y
 | [],i,b,y,hb,_ => by simp at hb
 | c :: cs,i,b,y,hb,h => by
  cases i with
  | zero => simp at hb; subst hb; exact fixAV_ok hm c y h
  | succ i => exact fixAVs_ok hm cs i b y (by simpa using hb) h
theorem fixAVs_get (live : List Nat) (ren : List (Nat × Nat)) (m : Ms) : ∀ (cs : List AV),(fixAVs m live ren cs).length = cs.length ∧ ∀ (i : Nat) (a : AV),(fixAVs m live ren cs)[i]? = some a → ∃ b,cs[i]? = some b ∧ a = fixAV m live ren b
 | [] => ⟨rfl,fun i a h => by simp [fixAVs] at h⟩
 | c :: cs => by
  obtain ⟨h1,h2⟩:=fixAVs_get live ren m cs
  refine ⟨by simp [fixAVs,h1],fun i a h => ?_⟩
  cases i with
  | zero => simp [fixAVs] at h; exact ⟨c,rfl,h.symm⟩
  | succ i => simp only [fixAVs,List.getElem?_cons_succ] at h; exact h2 i a h
end
mutual
theorem fixAV_refs {m : Ms} : ∀ (a : AV) (r : Nat),r ∈ (fixAV m live ren a).refs → ∃ r0,r0 ∈ a.refs ∧ okR live ren r0 = true ∧ r = lookR ren r0
 | .un,r,h => by simp [fixAV,AV.refs] at h
 | .v k d,r,h => by simp [fixAV,AV.refs] at h
 | .nl sz,r,h => by simp [fixAV,AV.refs] at h
 | .agg cs,r,h => fixAVs_refs cs r h
 | .tup cs,r,h => fixAVs_refs cs r h
 | .pl r0 j p,r,h => by
  simp only [fixAV] at h
  split at h
  ·simp [AV.refs] at h
  ·rename_i hk
   simp only [Bool.or_eq_true,Bool.not_eq_true',not_or,Bool.not_eq_true,Bool.not_eq_false] at hk
   simp [AV.refs] at h
   exact ⟨r0,by simp [AV.refs],hk.2,h⟩
 | .rg r0 j p sz lo hi,r,h => by
  simp only [fixAV] at h
  split at h
  ·simp [AV.refs] at h
  ·rename_i hk
   simp only [Bool.or_eq_true,Bool.not_eq_true',not_or,Bool.not_eq_true,Bool.not_eq_false] at hk
   simp [AV.refs] at h
   exact ⟨r0,by simp [AV.refs],hk.2,h⟩
 | .bx r0 j,r,h => by
  simp only [fixAV] at h
  split at h
  ·simp [AV.refs] at h
  ·rename_i hk
   simp only [Bool.not_eq_true',Bool.not_eq_false] at hk
   simp [AV.refs] at h
   exact ⟨r0,by simp [AV.refs],hk,h⟩
 | .fv f r0,r,h => by
  simp only [fixAV] at h
  split at h
  ·simp [AV.refs] at h
  ·rename_i hk
   simp only [Bool.not_eq_true',Bool.not_eq_false] at hk
   simp [AV.refs] at h
   exact ⟨r0,by simp [AV.refs],hk,h⟩
 | .ad r0 j p sz i c,r,h => by
  simp only [fixAV] at h
  split at h
  ·simp [AV.refs] at h
  ·rename_i hk
   simp only [Bool.or_eq_true,Bool.not_eq_true',not_or,Bool.not_eq_true,Bool.not_eq_false] at hk
   simp [AV.refs] at h
   exact ⟨r0,by simp [AV.refs],hk.2,h⟩
 | .ra k sz es i c,r,h => by simp [fixAV,AV.refs] at h
theorem fixAVs_refs {m : Ms} : ∀ (cs : List AV) (r : Nat),r ∈ AV.refsL (fixAVs m live ren cs) → ∃ r0,r0 ∈ AV.refsL cs ∧ okR live ren r0 = true ∧ r = lookR ren r0
 | [],r,h => by simp [fixAVs,AV.refsL] at h
 | c :: cs,r,h => by
  simp only [fixAVs,AV.refsL,List.mem_append] at h ⊢
  rcases h with h | h
  ·obtain ⟨r0,h1,h2⟩:=fixAV_refs c r h; exact ⟨r0,.inl h1,h2⟩
  ·obtain ⟨r0,h1,h2⟩:=fixAVs_refs cs r h; exact ⟨r0,.inr h1,h2⟩
end
theorem keepRt_spec {n : Nat} {rt : Rt} (hn : n ∈ live) (h : keepRt S live ren n = some rt) : ∃ a rt0,okR live ren a = true ∧ lookR ren a = n ∧ (S.ms a).1 = some rt0 ∧ rt = fixRt live ren rt0:=by
 simp only [keepRt] at h
 split at h
 ·rename_i hl
  split at h
  ·rename_i rt0 h0
   simp at h
   exact ⟨srcR ren n,rt0,by simp [okR,hl,hn],hl,h0,h.symm⟩
  ·cases h
 ·cases h
theorem keepRt_of {r : Nat} {rt : Rt} (ho : okR live ren r = true) (h : (S.ms r).1 = some rt) : keepRt S live ren (lookR ren r) = some (fixRt live ren rt):=by
 simp only [keepRt,(okR_spec ho).2,if_true,h]
theorem fixRt_get {rt : Rt} {j : Nat} {c : C} (h : (fixRt live ren rt).cells[j]? = some c) : ∃ c0,rt.cells[j]? = some c0 ∧ c = fixC live ren c0:=by
 cases rt <;> simp only [fixRt,Rt.cells,List.getElem?_map,Option.map_eq_some_iff] at h <;> obtain ⟨c0,h1,h2⟩:=h <;> exact ⟨c0,h1,h2.symm⟩
theorem fixC_ok {n j : Nat} {c : C} {x : Value} (ho : okR live ren n = true) (h : RC w g (n + 1) j c x) : RC w (g.set live ren) (lookR ren n + 1) j (fixC live ren c) x:=by
 cases h with
 | ro k d _ h => exact .ro _ _ _ (h.mono fun b hb => ⟨rfl,Gh.set_kc.2 hb⟩)
 | own d _ h => exact .own _ _ (h.mono (q':=[]) (fun b ρ hb => ⟨rfl,by simpa using Gh.set_own hb ho⟩) (fun ρ => by simpa using Gh.set_hd ho))
 | rf r1 j1 b k c hh =>
  simp only [fixC]
  split
  ·rename_i hr; exact .rf _ _ _ _ _ (by rw [Gh.set_hd hr]; exact hh)
  ·exact .ro _ _ _ (.dead _)
theorem settle_ok (R : Rel w0 cl0 S ts w g) (hio : ∀ i ∈ cl0.io,okR live ren i = true ∧ lookR ren i = i) : Rel w0 cl0 (settle live ren S).st ts w (g.set live ren):=by
  have hav : ∀ n,(settle live ren S).st.av n = if n ∈ live then fixAV S.ms live ren (S.av n) else .un:=fun n => by
    simp only [AL.st,settle_get]; split <;> rfl
  have hms : ∀ n,(settle live ren S).st.ms n = (if n ∈ live then keepRt S live ren n else none,[]):=fun n => by
    simp only [AL.st,settle_get]; split <;> rfl
  have hk : ∀ r j p,(settle live ren S).st.ms.killed r j p = false:=fun r j p => by simp [Ms.killed,hms]
  have hroot : ∀ n rt,((settle live ren S).st.ms n).1 = some rt → ∃ a rt0,okR live ren a = true ∧ lookR ren a = n ∧ (S.ms a).1 = some rt0 ∧ rt = fixRt live ren rt0:=by
    intro n rt h
    rw [hms] at h
    simp only at h
    split at h
    · rename_i hn; exact keepRt_spec hn h
    · cases h
  have hkeep : ∀ r rt,okR live ren r = true → (S.ms r).1 = some rt → ((settle live ren S).st.ms (lookR ren r)).1 = some (fixRt live ren rt):=by
    intro r rt ho h
    rw [hms]
    simp only [if_pos (okR_spec ho).1,keepRt_of ho h]
  refine { av:=fun n => ?_,rt:=fun n rt h => ?_,rfs:=fun n r h => ?_,rfc:=fun n rt j r j' h h1 => ?_,bd:=fun b h => R.bd b fun e => h (by simp [Gh.set,e]),sz:=R.sz,fr:=R.fr,
           im:=fun b k => Gh.set_kc.trans (R.im b k),mi:=fun b hb h => R.mi b hb ?_,sd:=R.sd,pin:=fun i hi => ?_ }
  · rw [hav]
    split
    · exact fixAV_ok hk _ _ (R.av n)
    · exact .un _
  · obtain ⟨a,rt0,ho,rfl,h0,rfl⟩:=hroot n rt h
    have hr:=R.rt a rt0 h0
    cases rt0 with
    | vir cs =>
      intro j c hj
      obtain ⟨c0,hc0,rfl⟩:=fixRt_get (rt:=.vir cs) hj
      rw [Gh.set_hd ho]
      exact fixC_ok ho (hr j c0 hc0)
    | bx cs =>
      obtain ⟨h1,vals,E,h2,h3,h4⟩:=hr
      refine ⟨by rw [Gh.set_bk ho]; exact Gh.set_box h1 ho,vals,E,by rw [Gh.set_bk ho]; exact h2,by simpa using h3,fun j c x hj hx => ?_⟩
      obtain ⟨c0,hc0,rfl⟩:=fixRt_get (rt:=.bx cs) hj
      exact fixC_ok ho (h4 j c0 x hc0 hx)
  · rw [hav] at h
    split at h
    · obtain ⟨r0,h1,h2,rfl⟩:=fixAV_refs _ _ h
      have h3:=R.rfs n r0 h1
      cases h4 : (S.ms r0).1 with
      | none => rw [h4] at h3; cases h3
      | some rt => rw [hkeep r0 rt h2 h4]; rfl
    · simp [AV.refs] at h
  · obtain ⟨a,rt0,ho,rfl,h0,rfl⟩:=hroot n rt h
    obtain ⟨c0,hc0,hc⟩:=fixRt_get h1
    cases c0 with
    | rf r0 j0 =>
      simp only [fixC] at hc
      split at hc
      · rename_i hr
        simp at hc; obtain ⟨rfl,rfl⟩:=hc
        obtain ⟨cs,h2⟩:=R.rfc a rt0 j r0 j' h0 hc0
        exact ⟨_,hkeep r0 _ hr h2⟩
      · cases hc
    | _ => simp [fixC] at hc
  · simp only [Gh.set] at h
    split at h
    · rename_i e; rw [e]; rfl
    · cases h
    · rename_i e; rw [e]; rfl
    · exact h
  · obtain ⟨h1,h2⟩:=hio i hi
    have h:=R.pin i hi
    have h3:=okR_spec h1
    rw [h2] at h3
    cases h4 : (S.ms i).1 with
    | none => rw [h4] at h; exact h.elim
    | some rt =>
      have h5:=hkeep i rt h1 h4
      rw [h2] at h5
      rw [h5]
      rw [h4] at h
      cases rt with
      | vir cs => intro j; rw [← h j]; simp only [Gh.set,h3.2]
      | bx cs => show g.bk (srcR ren i) = _; rw [h3.2]; exact h
end
end Go.Proofs.YtmlinnkaccgcgaaGreat.OM
