/- The own machine: stores into owned elements; the store operation. -/
import Derived.Test.YtmlinnkaccgcgaaGreatOMOp8
set_option linter.all false
namespace Go.Proofs.YtmlinnkaccgcgaaGreat.OM
section
variable {P : Program} {κ : Nat → FuncId} {w0 : World} {cl0 : Ini} {S : St} {w : World} {g : Gh} {a : Act} {Γ : Env} {d : Nat}
def Gh.so (g : Gh) (r j : Nat) (p : Pth) (i c n : Nat) (K : Nat → Bool) (X : Nat → Value) : Gh where
 cl:=fun k => match g.cl k with
  | .own 0 q ρ => if q < n ∧ K q = true then .own (r + 1) j (p ++ (i,c + q) :: ρ) else .own 0 q ρ
  | c => c
 hd:=fun r1 j1 ρ1 => match ρ1.drop p.length with
  | (i',c') :: ρ => if r1 = r + 1 ∧ j1 = j ∧ p <+: ρ1 ∧ i' = i ∧ c ≤ c' ∧ c' < c + n ∧ K (c' - c) = true then (if ρ = [] then X (c' - c) else g.hd 0 (c' - c) ρ) else g.hd r1 j1 ρ1
  | [] => g.hd r1 j1 ρ1
 bk:=g.bk
section
variable {r j i c n : Nat} {p : Pth} {K : Nat → Bool} {X : Nat → Value}
theorem Gh.so_kc {b : Nat} {k : Bool} : (g.so r j p i c n K X).cl b = kc k ↔ g.cl b = kc k:=by
 simp only [Gh.so]
 cases h : g.cl b with
 | own r1 j1 ρ =>
  cases r1 with
  | zero => simp only []; split <;> cases k <;> simp [kc]
  | succ r1 => exact .rfl
 | _ => exact .rfl
theorem Gh.so_mine {b : Nat} : ((g.so r j p i c n K X).cl b).mine = (g.cl b).mine:=by
 simp only [Gh.so]
 cases h : g.cl b with
 | own r1 j1 ρ =>
  cases r1 with
  | zero => simp only []; split <;> rfl
  | succ r1 => rfl
 | _ => rfl
theorem Gh.so_no {b : Nat} : (g.so r j p i c n K X).cl b = .no ↔ g.cl b = .no:=by
 simp only [Gh.so]
 cases h : g.cl b with
 | own r1 j1 ρ =>
  cases r1 with
  | zero => simp only []; split <;> simp
  | succ r1 => simp
 | _ => simp
theorem Gh.so_hd {r1 j1 : Nat} {ρ1 : Pth} (h : ¬ (r1 = r + 1 ∧ j1 = j ∧ ∃ q ρ,ρ1 = p ++ (i,c + q) :: ρ ∧ q < n ∧ K q = true)) : (g.so r j p i c n K X).hd r1 j1 ρ1 = g.hd r1 j1 ρ1:=by
 simp only [Gh.so]
 split
 ·rename_i i' c' ρ hd
  split
  ·rename_i hc
   obtain ⟨h1,h2,h3,h4,h5,h6,h7⟩:=hc
   exfalso
   refine h ⟨h1,h2,c' - c,ρ,?_,by omega,h7⟩
   obtain ⟨t,rfl⟩:=h3
   simp at hd
   rw [hd,h4,show c + (c' - c) = c' from by omega]
  ·rfl
 ·rfl
theorem Gh.so_hd' {q : Nat} {ρ : Pth} (hq : q < n) (hK : K q = true) : (g.so r j p i c n K X).hd (r + 1) j (p ++ (i,c + q) :: ρ) = if ρ = [] then X q else g.hd 0 q ρ:=by
 simp only [Gh.so,List.drop_left]
 rw [if_pos ⟨trivial,trivial,List.prefix_append _ _,trivial,by omega,by omega,by rw [show c + q - c = q from by omega]; exact hK⟩,show c + q - c = q from by omega]
end
theorem thr_app : ∀ (p k q : Pth),thr (p ++ k) (p ++ q) = thr k q:=by
 intro p
 induction p with
 | nil => intros; rfl
 | cons s p ih => intro k q; obtain ⟨i,c⟩:=s; simp [thr,ih]
theorem mem_killsD : ∀ (q j : Nat) (p : Pth) (i c : Nat) (os ns : List D) (o n : D),os[q]? = some o → ns[q]? = some n → (o.scal && n.scal) = false → (j,p ++ [(i,c + q)]) ∈ killsD j p i c os ns:=by
 intro q
 induction q with
 | zero =>
  intro j p i c os ns o n ho hn hk
  cases os with
  | nil => simp at ho
  | cons o' os =>
   cases ns with
   | nil => simp at hn
   | cons n' ns =>
    simp at ho hn; subst ho; subst hn
    simp only [killsD]
    rw [if_neg (by rw [hk]; simp)]
    simp
 | succ q ih =>
  intro j p i c os ns o n ho hn hk
  cases os with
  | nil => simp at ho
  | cons o' os =>
   cases ns with
   | nil => simp at hn
   | cons n' ns =>
    simp at ho hn
    have:=ih j p i (c + 1) os ns o n ho hn hk
    rw [show c + (q + 1) = c + 1 + q from by omega]
    simp only [killsD]
    split
    ·exact this
    ·exact List.mem_cons_of_mem _ this
theorem idx_ne {i i' c' c n sz : Nat} (h : i' ≠ i) (hc' : c' < sz) (hc : c + n ≤ sz) : ¬ (i * sz + c ≤ i' * sz + c' ∧ i' * sz + c' < i * sz + c + n):=by
 rcases Nat.lt_or_ge i' i with h1 | h1
 ·have : (i' + 1) * sz ≤ i * sz:=Nat.mul_le_mul_right _ h1
  rw [Nat.succ_mul] at this
  omega
 ·have : (i + 1) * sz ≤ i' * sz:=Nat.mul_le_mul_right _ (by omega)
  rw [Nat.succ_mul] at this
  omega
theorem putAt_some {m m' : Ms} {r j : Nat} {p : Pth} {x : D} {kl : List (Nat × Pth)} (h : m.putAt r j p x kl = some m') :
  ∃ rt d0,(m r).1 = some rt ∧ rt.cells[j]? = some (.own d0) ∧ m' = upd m r (some (rt.setc j (.own (d0.put p x))),kl ++ (m r).2):=by
 unfold Ms.putAt at h
 split at h
 ·rename_i rt hrt
  split at h
  ·rename_i d0 hd0
   simp at h
   exact ⟨rt,d0,hrt,hd0,h.symm⟩
  ·cases h
 ·cases h
theorem storeOwn (R : Rel w0 cl0 S a.tmps w g) {r j sz i c b1 o1 : Nat} {p : Pth} {es : List (List D)} {e : List D} {ds : List D} {vals : List Value} {m' : Ms}
    (hptr : Value.pointer (some ⟨b1,o1,none⟩) = adv (g.hd (r + 1) j p) (i * sz + c)) (hat : S.ms.at r j p = some (.sl sz es)) (he : es[i]? = some e) (hb : c + ds.length ≤ e.length)
    (hm : S.ms.putAt r j p (.sl sz (es.set i (setRange e c ds))) (killsD j p i c (e.drop c) ds) = some m')
    (hlv : vals.length = ds.length) (hone : ∀ x ∈ vals,x.oneCell' = true) (hh : ∀ (q : Nat) (d : D) (x : Value),ds[q]? = some d → vals[q]? = some x → Hd w g q d x) :
    ∃ w' g',(storeCells ⟨b1,o1,none⟩ vals 0).run P w = .ok () w' ∧ Rel w0 cl0 { S with ms:=m' } a.tmps w' g':=by
  obtain ⟨rt,d0,hrt,hd0,rfl⟩:=putAt_some hm
  have hdig : d0.dig p = some (.sl sz es):=by
    obtain ⟨_,rt2,d2,h1,h2,h3⟩:=at_some hat
    rw [hrt] at h1; cases h1
    rw [hd0] at h2; cases h2
    exact h3
  obtain ⟨x0,ho⟩:=R.at hat
  have hx0:=ho.hd_eq
  subst hx0
  generalize hgv : g.hd (r + 1) j p = v0 at ho hptr
  cases ho with
  | nil => simp at he
  | sl _ _ _ b off cap vals0 E hhd hcl hl hcap hw hN hkids =>
    simp only [adv,Value.pointer.injEq,Option.some.injEq,Addr.mk.injEq] at hptr
    obtain ⟨rfl,rfl,_⟩:=hptr
    have hel:=get_len hl he
    have hilt:=lt_of_get he
    have hi1 : (i + 1) * sz ≤ cap * sz:=Nat.mul_le_mul_right _ (by omega)
    rw [Nat.succ_mul] at hi1
    obtain ⟨w',vals',hrun,hw',hs',hget,hother,hsize,hsd⟩:=store_run P hw vals (o:=off + (i * sz + c)) (by omega) hone
    let K : Nat → Bool:=fun q => !(((e.drop c).getD q .dead).scal && (ds.getD q .dead).scal)
    let X : Nat → Value:=fun q => vals.getD q undef
    have hkilled : ∀ q,q < ds.length → K q = true → ∀ ρ,Ms.killed (upd S.ms r (some (rt.setc j (.own (d0.put p (.sl sz (es.set i (setRange e c ds)))))),killsD j p i c (e.drop c) ds ++ (S.ms r).2)) r j (p ++ (i,c + q) :: ρ) = true:=by
      intro q hq hK ρ
      refine killed_of_mem (k:=p ++ [(i,c + q)]) ?_ (by rw [thr_app]; simp [thr])
      simp only [upd_same]
      refine List.mem_append.2 (.inl ?_)
      have h1 : (e.drop c)[q]? = some ((e.drop c).getD q .dead):=by
        have : q < (e.drop c).length:=by simp; omega
        simp only [List.getD,List.getElem?_eq_getElem this]; rfl
      have h2 : ds[q]? = some (ds.getD q .dead):=by
        simp only [List.getD,List.getElem?_eq_getElem hq]; rfl
      refine mem_killsD q j p i c _ _ _ _ h1 h2 ?_
      simp only [K] at hK
      revert hK
      generalize (((e.drop c).getD q .dead).scal && (ds.getD q .dead).scal) = b
      cases b <;> simp
    have hne : ∀ b',g.cl b' ≠ .own (r + 1) j p → w'.heap[b']? = w.heap[b']?:=fun b' h => hother b' (fun e => by subst e; exact h hcl)
    have hkc : ∀ b k,g.cl b = kc k → w'.heap[b]? = w.heap[b]? ∧ (g.so r j p i c ds.length K X).cl b = kc k:=fun b k h =>
      ⟨hne b (by rw [h]; exact kc_own),Gh.so_kc.2 h⟩
    have hclS : ∀ b n j1 ρ,g.cl b = .own (n + 1) j1 ρ → (g.so r j p i c ds.length K X).cl b = .own (n + 1) j1 ρ:=fun b n j1 ρ h => by simp [Gh.so,h]
    have hnil : ∀ n j1,(g.so r j p i c ds.length K X).hd n j1 [] = g.hd n j1 []:=fun n j1 => Gh.so_hd (by simp)
    refine ⟨w',g.so r j p i c ds.length K X,hrun,?_⟩
    refine R.chg (b0:=b1) (rt:=rt) hrt (by cases rt <;> rfl) ?_ ?_ (fun k r1 j1 hc => ?_)
    · refine { hp:=hother,hs:=hsize,ow:=.inr ⟨j,p,hcl⟩,kc:=fun b k => Gh.so_kc,cl:=hclS,bx:=fun b n h => by simp [Gh.so,h],
               hd:=fun n j1 ρ hn => Gh.so_hd (by simp [hn]),hr:=fun j1 ρ hk => ?_,hv:=fun j1 _ => hnil _ _,bk:=rfl,bd:=fun b h => by rwa [ne_eq,Gh.so_no] at h,
               mi:=fun b h => by rwa [Gh.so_mine] at h,sd:=hsd }
      refine Gh.so_hd (fun hc => ?_)
      obtain ⟨_,rfl,q,ρ',rfl,hq,hK⟩:=hc
      rw [hkilled q hq hK ρ'] at hk; cases hk
    · refine (R.rt r rt hrt).put hd0 hdig hkc (fun b' j1 ρ h1 h2 => ⟨hne b' (fun e => ?_),hclS _ _ _ _ h1⟩) (fun cs hcs => ⟨rfl,hne _ (fun e => ?_),?_⟩)
        (fun j1 ρ h1 => Gh.so_hd (fun hc => ?_)) (fun _ _ => hnil _ _) (fun _ _ _ _ => hnil _ _) (fun x hx => ?_)
      · rw [h1] at e; cases e; exact h2 ⟨rfl,List.prefix_refl _⟩
      · have h5:=R.rt r rt hrt
        subst hcs
        rw [h5.1] at e; cases e
      · have h5:=R.rt r rt hrt
        subst hcs
        simp [Gh.so,h5.1]
      · obtain ⟨_,rfl,q,ρ',rfl,_⟩:=hc
        exact h1 ⟨rfl,List.prefix_append _ _⟩
      · -- the node itself
        have hxe:=hx.hd_eq
        rw [hgv] at hxe
        subst hxe
        have hlen : (es.set i (setRange e c ds)).length = es.length:=by simp
        have hsl:=setRange_length (l:=e) (xs:=ds) (o:=c) hb
        rw [← hlen]
        refine .sl p sz _ b1 off cap vals' E ?_ (hclS _ _ _ _ hcl) ?_ (by rw [hlen]; exact hcap) hw' (by omega) ?_
        · rw [hlen,← hgv]
          exact Gh.so_hd (fun hc => by
            obtain ⟨_,_,q,ρ',h,_⟩:=hc
            have:=congrArg List.length h
            simp at this)
        · intro e' he'
          rcases List.mem_or_eq_of_mem_set he' with h | h
          · exact hl _ h
          · subst h; omega
        · intro i' c' e' d' x he' hd' hx
          rw [hget] at hx
          by_cases hi : i' = i
          · subst hi
            rw [List.getElem?_set_self hilt] at he'
            cases he'
            rw [setRange_get hb] at hd'
            split at hd'
            · rename_i hcc
              rw [if_pos (by omega)] at hx
              have hx' : vals[c' - c]? = some x:=by
                rw [← hx]; congr 1; omega
              have hHd:=hh (c' - c) d' x hd' hx'
              by_cases hK : K (c' - c) = true
              · refine hHd.place (fun b' ρ hb' => ⟨hne b' (by rw [hb']; simp),?_⟩) (fun ρ hρ => ?_) ?_
                · simp only [Gh.so,hb']
                  rw [if_pos ⟨by omega,hK⟩,show c + (c' - c) = c' from by omega]
                  simp
                · have:=Gh.so_hd' (g:=g) (r:=r) (j:=j) (p:=p) (i:=i') (c:=c) (X:=X) (ρ:=ρ) (show c' - c < ds.length by omega) hK
                  rw [show c + (c' - c) = c' from by omega] at this
                  simp only [List.append_assoc,List.singleton_append]
                  rw [this,if_neg hρ]
                · have:=Gh.so_hd' (g:=g) (r:=r) (j:=j) (p:=p) (i:=i') (c:=c) (X:=X) (ρ:=[]) (show c' - c < ds.length by omega) hK
                  rw [show c + (c' - c) = c' from by omega] at this
                  rw [this,if_pos rfl]
                  simp [X,List.getD,hx']
              · refine hHd.scalar ?_
                have : (ds.getD (c' - c) .dead) = d':=by simp [List.getD,hd']
                simp only [K,this] at hK
                cases hds : d'.scal
                · simp [hds] at hK
                · rfl
            · rename_i hcc
              rw [if_neg (by omega)] at hx
              refine (hkids i' c' e d' x he hd' hx).mono (fun b' ρ hb' => ⟨hne b' (fun e => ?_),hclS _ _ _ _ hb'⟩) (fun ρ => Gh.so_hd (fun hc => ?_))
              · rw [hb'] at e; simp at e
              · obtain ⟨_,_,q,ρ',h,hq,_⟩:=hc
                simp at h; omega
          · rw [List.getElem?_set_ne (by omega)] at he'
            have hcs : c' < sz:=by have:=get_len hl he'; have:=lt_of_get hd'; omega
            have hnr:=idx_ne (n:=ds.length) (c:=c) hi hcs (by omega)
            rw [if_neg (by omega)] at hx
            refine (hkids i' c' e' d' x he' hd' hx).mono (fun b' ρ hb' => ⟨hne b' (fun e => ?_),hclS _ _ _ _ hb'⟩) (fun ρ => Gh.so_hd (fun hc => ?_))
            · rw [hb'] at e; simp at e
            · obtain ⟨_,_,q,ρ',h,hq,_⟩:=hc
              simp at h; omega
    · rw [cells_setc] at hc
      by_cases e : k = j
      · subst e
        rw [List.getElem?_set_self (lt_of_get hd0)] at hc
        cases hc
      · rw [List.getElem?_set_ne (by omega)] at hc
        exact R.rfc r rt k r1 j1 hrt hc
theorem run_storeAt {t : TypeId} {n b o : Nat} {v : Value} {w' : World} (hs : ∃ by',sizeT P t = some (n,by')) (hv : v.cells.size = n)
  (h : (storeCells ⟨b,o,none⟩ v.cells.toList 0).run P w = .ok () w') : (Instr.storeAt t (.pointer (some ⟨b,o,none⟩)) v).run P w = .ok () w':=by
 obtain ⟨by',hs⟩:=hs
 unfold sizeT at hs
 split at hs
 ·rename_i i hi
  simp at hs
  have hsz : (sizeOf t).run P w = .ok v.cells.size w:=by simp [sizeOf,typeInfo,hi,hs.1,hv]
  simp only [Instr.storeAt,Sem.run_bind,Instr.sureAddr,Sem.run_pure,Result.andThen_ok,storeVar,hsz,ne_eq,not_true,if_false]
  exact h
 ·cases hs
theorem ok_st (R : Rel w0 cl0 S a.tmps w g) {n : Nat} {x y : PX} {op : Op} {av : AV} {rt : Option Rt} {m' : Ms}
  (hc : chkOp P κ (.st n x y) op = true) (h : opf Γ S.ev d S.ms (.st n x y) = some (av,rt,m')) (o : Oper) (ho : o.op = op) :
  rt = none ∧ ∃ w' g',(execOp a.eval o).run P w = .ok .skip w' ∧ Rel w0 cl0 { S with ms:=m' } a.tmps w' g':=by
 cases op with
 | store t oa ob => ?_
 | _ => simp [chkOp] at hc
 simp only [chkOp] at hc
 split at hc
 ·rename_i n' by' hs
  simp only [Bool.and_eq_true,beq_iff_eq] at hc
  obtain ⟨⟨rfl,h1⟩,h2⟩:=hc
  have e2:=(chkX_ok R h2).1
  simp only [opf] at h
  split at h
  ·rename_i cs m1 habs
   split at h
   ·rename_i hn
    split at h
    ·rename_i m2 hst
     simp at h; obtain ⟨rfl,rfl,rfl⟩:=h
     refine ⟨rfl,?_⟩
     obtain ⟨hcl,hcr⟩:=cells_ok e2 (isVal_of_abs habs)
     obtain ⟨g1,R1,T1,hl1,hh1⟩:=absCs_ok (S.ev y).cells R (vals:=(a.eval ob).cells.toList) 0 (by simpa using hcl)
      (fun k b z hb hz => hcr k b z hb (by simpa using hz)) habs
     have hgood:=absCs_good _ habs
     have e1:=(chkX_ok R1 h1).1
     have hsz : (a.eval ob).cells.size = n:=by omega
     generalize hv : a.eval oa = v at e1
     have hev : ({ S with ms:=m1 } : St).ev x = S.ev x:=by cases x <;> rfl
     rw [hev] at e1
     cases hx : S.ev x with
     | bx r j =>
      rw [hx] at e1 hst
      cases e1 with
      | bx =>
       simp only [storeC] at hst
       cases hm : m1 r with
       | mk rt0 kl =>
        cases rt0 with
        | none => simp [hm] at hst
        | some rt1 =>
         cases rt1 with
         | vir => simp [hm] at hst
         | bx cs0 =>
          simp only [hm] at hst
          split at hst
          ·rename_i hb
           simp at hst; subst hst
           obtain ⟨w',g',hrun,R2⟩:=storeBox (P:=P) (a:=a) R1 (r:=r) (j:=j) (cs0:=cs0) (cs:=cs) (vals:=(a.eval ob).cells.toList) (kl:=kl) hm hb (by simp; omega) hgood
            (fun i c z hc hz => by simpa using hh1 i c z hc hz)
           refine ⟨w',g',?_,R2⟩
           have:=run_storeAt (P:=P) (t:=t) (v:=a.eval ob) ⟨_,hs⟩ hsz hrun
           simp only [execOp,ho,hv,Sem.run_bind,this,Result.andThen_ok,Sem.run_pure]
          ·cases hst
     | ad r j p sz i c =>
      rw [hx] at e1 hst
      simp only [storeC] at hst
      split at hst
      ·rename_i ds hds
       split at hst
       ·rename_i sz' es hat
        split at hst
        ·rename_i e he
         split at hst
         ·rename_i hb
          obtain ⟨hb,rfl⟩:=hb
          obtain ⟨hdl,hdg⟩:=toDs_get cs hds
          cases e1 with
          | ad _ _ _ _ _ _ b1 o1 hptr =>
           have hk : m1.killed r j p = false:=(at_some hat).1
           obtain ⟨w',g',hrun,R2⟩:=storeOwn (P:=P) (a:=a) R1 (vals:=(a.eval ob).cells.toList) (hptr hk) hat he hb hst (by simp; omega)
            (fun z hz => by
             obtain ⟨q,hq⟩:=List.mem_iff_getElem?.1 hz
             have hlt:=lt_of_get hq
             simp at hlt
             have hcq : cs[q]? = some cs[q]:=by simp [show q < cs.length from by omega]
             exact good_one (by simpa using hh1 q _ z hcq hq) (hgood _ (List.mem_of_getElem? hcq)))
            (fun q d z hd hz => by
             have hlt:=lt_of_get hd
             have hcq : cs[q]? = some cs[q]:=by simp [show q < cs.length from by omega]
             exact toD_ok (by simpa using hh1 q _ z hcq hz) (hdg q _ d hcq hd))
           refine ⟨w',g',?_,R2⟩
           have:=run_storeAt (P:=P) (t:=t) (v:=a.eval ob) ⟨_,hs⟩ hsz hrun
           simp only [execOp,ho,hv,Sem.run_bind,this,Result.andThen_ok,Sem.run_pure]
         ·cases hst
        ·cases hst
       ·cases hst
      ·cases hst
     | _ => rw [hx] at hst; simp [storeC] at hst
    ·cases h
   ·cases h
  ·cases h
 ·cases hc
end
end Go.Proofs.YtmlinnkaccgcgaaGreat.OM
