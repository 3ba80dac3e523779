/- The own machine: slice literals, stores. -/
import Derived.Test.YtmlinnkaccgcgaaGreatOMOp7
set_option linter.all false
namespace Go.Proofs.YtmlinnkaccgcgaaGreat.OM
section
variable {P : Program} {κ : Nat → FuncId} {w0 : World} {cl0 : Ini} {S : St} {w : World} {g : Gh} {a : Act} {Γ : Env} {d : Nat}
theorem fillD_ok {sz : Nat} : ∀ (ps : List (Nat × PX)) (parts : List (Nat × Operand)) {S : St} {g : Gh} (R : Rel w0 cl0 S a.tmps w g) (l l' : List D) (cells : Array Value) (m' : Ms),
  chkParts (fun i => some (i * sz,sz)) ps parts = true → fillD S.ms sz l (ps.map fun x => (x.1,S.ev x.2)) = some (l',m') → l.length = cells.size →
  (∀ (k : Nat) (b : D) (x : Value),l[k]? = some b → cells[k]? = some x → Hd w g k b x) →
  ∃ g' cells',Rel w0 cl0 { S with ms:=m' } a.tmps w g' ∧ Instr.fill (fun i => some (i * sz,sz)) cells (parts.map fun x => (x.1,a.eval x.2)) = some cells' ∧ l'.length = cells'.size ∧
   (∀ (k : Nat) (b : D) (x : Value),l'[k]? = some b → cells'[k]? = some x → Hd w g' k b x) ∧ (∀ r,(S.ms r).1 = none → (m' r).1 = none) ∧ l'.length = l.length:=by
 intro ps
 induction ps with
 | nil =>
  intro parts S g R l l' cells m' hc h hz hg
  cases parts with
  | nil => simp [fillD] at h; obtain ⟨rfl,rfl⟩:=h; exact ⟨g,cells,R,by simp [Instr.fill],hz,hg,fun _ h => h,rfl⟩
  | cons => simp [chkParts] at hc
 | cons p ps ih =>
  intro parts S g R l l' cells m' hc h hz hg
  obtain ⟨off,x⟩:=p
  cases parts with
  | nil => simp [chkParts] at hc
  | cons pt parts =>
   obtain ⟨i,ox⟩:=pt
   simp only [chkParts,Bool.and_eq_true,beq_iff_eq] at hc
   obtain ⟨⟨rfl,h2⟩,h3⟩:=hc
   simp only [List.map_cons,fillD] at h
   cases h4 : absCs S.ms (S.ev x).cells with
   | none => simp [h4] at h
   | some cm =>
    obtain ⟨cs,m1⟩:=cm
    simp only [h4] at h
    cases h5 : toDs cs with
    | none => simp [h5] at h
    | some ds =>
     simp only [h5] at h
     split at h
     ·rename_i hcond
      obtain ⟨hn,hb⟩:=hcond
      have e:=(chkX_ok R h2).1
      obtain ⟨hcl,hcr⟩:=cells_ok e (isVal_of_abs h4)
      obtain ⟨g1,R1,T1,hl1,hc1⟩:=absCs_ok (S.ev x).cells R (vals:=(a.eval ox).cells.toList) (i * sz) (by simpa using hcl)
       (fun k b y hb hy => hcr k b y hb (by simpa using hy)) h4
      obtain ⟨hdl,hdg⟩:=toDs_get cs h5
      obtain ⟨cells1,hf,hs,hget⟩:=fill_step (place:=fun i => some (i * sz,sz)) (cells:=cells) (v:=a.eval ox) (rest:=parts.map fun x => (x.1,a.eval x.2)) (i:=i) rfl
       (by omega) (by omega)
      have hlen:=setRange_length (l:=l) (xs:=ds) (o:=i * sz) (by omega)
      obtain ⟨g2,c2,R2,hf2,hl2,hg2,hno,hll⟩:=ih parts (S:={ S with ms:=m1 }) R1 (setRange l (i * sz) ds) l' cells1 m' h3 h (by omega) (fun k b y hb' hy => by
       rw [setRange_get (by omega)] at hb'
       rw [hget k] at hy
       rw [hn] at hb'
       split at hb'
       ·rename_i hk
        rw [if_pos hk] at hy
        have hlt:=lt_of_get hb'
        have hcc : cs[k - i * sz]? = some cs[k - i * sz]:=by simp [show k - i * sz < cs.length from by omega]
        have:=toD_ok (hc1 (k - i * sz) _ y hcc (by simpa using hy)) (hdg _ _ _ hcc hb')
        rwa [show i * sz + (k - i * sz) = k from by omega] at this
       ·rename_i hk
        rw [if_neg hk] at hy
        exact T1.hd' (by omega) (hg k b y hb' hy))
      exact ⟨g2,c2,R2,by simp only [List.map_cons]; rw [hf]; exact hf2,hl2,hg2,fun r hr => hno r (T1.no r hr),by omega⟩
     ·cases h
theorem chunks_get : ∀ (n sz : Nat) (l : List D) (i c : Nat) (e : List D),(chunks sz n l)[i]? = some e → i < n ∧ e = (l.drop (i * sz)).take sz:=by
 intro n
 induction n with
 | zero => intro sz l i c e h; simp [chunks] at h
 | succ n ih =>
  intro sz l i c e h
  simp only [chunks] at h
  cases i with
  | zero => simp at h; exact ⟨by omega,by simp [h]⟩
  | succ i =>
   simp only [List.getElem?_cons_succ] at h
   obtain ⟨h1,h2⟩:=ih sz _ i c e h
   refine ⟨by omega,?_⟩
   rw [h2,List.drop_drop]
   congr 2
   rw [Nat.succ_mul]; omega
theorem chunks_length : ∀ (n sz : Nat) (l : List D),(chunks sz n l).length = n:=by
 intro n
 induction n with
 | zero => intros; rfl
 | succ n ih => intro sz l; simp [chunks,ih]
theorem ok_bsl (R : Rel w0 cl0 S a.tmps w g) {sz n : Nat} {z : List D} {ps : List (Nat × PX)} {op : Op} {av : AV} {rt : Option Rt} {m' : Ms} (hn' : (m' d).1 = none)
  (hc : chkOp P κ (.bsl sz z n ps) op = true) (h : opf Γ S.ev d S.ms (.bsl sz z n ps) = some (av,rt,m')) (o : Oper) (ho : o.op = op) :
  ∃ v w',(execOp a.eval o).run P w = .ok (.value v) w' ∧ Post w0 cl0 S a.tmps d av rt m' v w':=by
 cases op with
 | buildSlice t n' parts => ?_
 | _ => simp [chkOp] at hc
 simp only [chkOp] at hc
 split at hc
 ·rename_i e he
  split at hc
  ·rename_i zl hzl
   obtain ⟨i,zv,hi,hzv,hzc,hzs⟩:=zeroT_some hzl
   simp only [Bool.and_eq_true,decide_eq_true_eq] at hc
   obtain ⟨⟨⟨⟨rfl,h2⟩,h3⟩,h4⟩,h5⟩:=hc
   obtain ⟨hl,hg⟩:=chkDs_get z _ h4
   have hu : P.underlying t = some (.slice e):=by
    unfold elemT at he; split at he <;> simp_all
   have hsz : i.size = sz:=by rw [← hzs,← h2,← hzc]; simp
   have hrl : (rep n zl).length = n * sz:=by rw [← h2]; clear hl hg h4; induction n with
    | zero => simp [rep]
    | succ n ih => simp [rep,Nat.succ_mul] at *
   simp only [opf] at h
   split at h
   ·rename_i l m1 hfd
    simp at h; obtain ⟨rfl,rfl,rfl⟩:=h
    -- the zero cells
    have hz0 : ∃ zc : Array Value,((n * sz = 0 ∧ zc = #[]) ∨ (n * sz ≠ 0 ∧ zc = zv.cells)) ∧
      ∀ k : Nat,k < n * sz → ((Array.range (n * sz)).map (zc[· % zc.size]!))[k]? = (rep n zl)[k]?:=by
     by_cases hz : n * sz = 0
     ·exact ⟨#[],.inl ⟨hz,rfl⟩,fun k hk => by omega⟩
     ·refine ⟨zv.cells,.inr ⟨hz,rfl⟩,fun k hk => ?_⟩
      have hpos : 0 < sz:=Nat.pos_of_ne_zero (fun e => hz (by rw [e,Nat.mul_zero]))
      rw [rep_get zl n k (by rw [h2]; exact hk)]
      have hm : k % zl.length < zl.length:=Nat.mod_lt _ (by omega)
      simp only [Array.getElem?_map,Array.getElem?_range,if_pos hk,Option.map_some]
      have hzc2 : zv.cells[k % zv.cells.size]? = zl[k % zl.length]?:=by
       rw [hzs,hsz,← h2,← hzc]; simp
      rw [List.getElem?_eq_getElem hm] at hzc2 ⊢
      rw [getElem!_def,hzc2]
    obtain ⟨zc,hz1,hz2⟩:=hz0
    obtain ⟨g1,cells',R1,hfill,hl1,hh1,hno,hll⟩:=fillD_ok ps parts.toList R z l ((Array.range (n * sz)).map (zc[· % zc.size]!)) m1 h5 hfd (by simp; omega) (fun k b x hb hx => by
     have hk:=lt_of_get hb
     rw [hz2 k (by omega)] at hx
     exact chkD_hd (hg k b x hb hx))
    have hparts : (parts.map fun x => (x.1,a.eval x.2)).toList = parts.toList.map fun x => (x.1,a.eval x.2):=by simp
    have hrun : (execOp a.eval o).run P w = .ok (.value (.slice (some ⟨w.heap.size,0,none⟩) n n)) (w.alloc (.cells cells' e)):=by
     have h24 : ¬ (n * sz > 2 ^ 24):=by omega
     have hsize : (sizeOf e).run P w = .ok sz w:=by simp [sizeOf,typeInfo,hi,hsz]
     have hzv' : (zeroValue e).run P w = .ok zv w:=by simp [zeroValue,typeInfo,hi,hzv]
     rcases hz1 with ⟨h8,rfl⟩ | ⟨h8,rfl⟩
     ·simp only [execOp,ho,Instr.buildSlice,Sem.run_bind,run_underlying hu,Result.andThen_ok,hsize,h24,if_false,if_pos h8,Sem.run_pure]
      rw [hparts,hfill]
      simp [newRow]
     ·simp only [execOp,ho,Instr.buildSlice,Sem.run_bind,run_underlying hu,Result.andThen_ok,hsize,h24,if_false,if_neg h8,Sem.run_pure,hzv']
      rw [hparts,hfill]
      simp [newRow]
    refine ⟨_,_,hrun,?_⟩
    have hpost:=newSlice (S:={ S with ms:=m1 }) (d:=d) (a:=a) R1 hn' (w':=w.alloc (.cells cells' e)) (sz:=sz) (cap:=n) (es:=chunks sz n l)
     (vals:=cells') (E:=e) (fun b hb => heap_alloc_old w _ b hb) (by simp) (.alloc _ _) (heap_alloc_new w _) (fun el hel => by
      obtain ⟨q,hq⟩:=List.mem_iff_getElem?.1 hel
      obtain ⟨h6,rfl⟩:=chunks_get n sz l q 0 el hq
      have : (q + 1) * sz ≤ n * sz:=Nat.mul_le_mul_right _ h6
      rw [Nat.succ_mul] at this
      simp; omega) (by rw [chunks_length]; exact Nat.le_refl _) (by omega) (fun q c el dd y hq hd hy => by
      obtain ⟨h6,rfl⟩:=chunks_get n sz l q c el hq
      rw [List.getElem?_take] at hd
      split at hd
      ·rw [List.getElem?_drop] at hd
       exact hh1 _ dd y hd hy
      ·cases hd)
    rw [chunks_length] at hpost
    exact hpost
   ·cases h
  ·cases hc
 ·cases hc
def goodC : C → Prop
 | .ro _ d => d ≠ .dead
 | .own d => ∃ sz es,d = .sl sz es
 | .rf .. => False
theorem absC_good {m m' : Ms} {av : AV} {c : C} (h : absC m av = some (c,m')) : goodC c:=by
 unfold absC at h
 split at h
 ·cases h
 ·rename_i hd; simp at h; obtain ⟨rfl,rfl⟩:=h; exact fun e => hd e
 ·simp at h; obtain ⟨rfl,rfl⟩:=h; exact ⟨_,_,rfl⟩
 ·split at h
  ·rename_i ht
   simp at h; obtain ⟨rfl,rfl⟩:=h
   obtain ⟨sz,es,_,_,rfl,_⟩:=take_some ht
   exact ⟨_,_,rfl⟩
  ·cases h
 ·split at h
  ·simp at h; obtain ⟨rfl,rfl⟩:=h; exact ⟨_,_,rfl⟩
  ·cases h
 ·cases h
theorem absCs_good : ∀ (as : List AV) {m m' : Ms} {cs : List C},absCs m as = some (cs,m') → ∀ c ∈ cs,goodC c:=by
 intro as
 induction as with
 | nil => intro m m' cs h; simp [absCs] at h; obtain ⟨rfl,rfl⟩:=h; intro c hc; cases hc
 | cons a as ih =>
  intro m m' cs h
  simp only [absCs] at h
  cases h1 : absC m a with
  | none => simp [h1] at h
  | some cm =>
   obtain ⟨c,m1⟩:=cm
   simp only [h1] at h
   cases h2 : absCs m1 as with
   | none => simp [h2] at h
   | some cm2 =>
    simp only [h2] at h
    simp at h; obtain ⟨rfl,rfl⟩:=h
    intro c' hc'
    rcases List.mem_cons.1 hc' with rfl | hc'
    ·exact absC_good h1
    ·exact ih h2 c' hc'
theorem good_one {r j : Nat} {c : C} {x : Value} (h : RC w g r j c x) (hg : goodC c) : x.oneCell' = true:=by
 cases h with
 | ro k d _ hr =>
  cases hr with
  | dead => exact absurd rfl hg
  | _ => rfl
 | own d _ ho =>
  obtain ⟨sz,es,rfl⟩:=hg
  obtain ⟨b,n,c,rfl⟩:=ho.slice
  rfl
 | rf => exact hg.elim
def Gh.sb (g : Gh) (r j n : Nat) (K : Nat → Bool) (X : Nat → Value) : Gh where
 cl:=fun k => match g.cl k with
  | .own 0 q ρ => if q < n ∧ K q = true then .own (r + 1) (j + q) ρ else .own 0 q ρ
  | c => c
 hd:=fun r1 j1 ρ => if r1 = r + 1 ∧ j ≤ j1 ∧ j1 < j + n ∧ K (j1 - j) = true then (if ρ = [] then X (j1 - j) else g.hd 0 (j1 - j) ρ) else g.hd r1 j1 ρ
 bk:=g.bk
theorem Gh.sb_kc {r j n : Nat} {K : Nat → Bool} {X : Nat → Value} {b : Nat} {k : Bool} : (g.sb r j n K X).cl b = kc k ↔ g.cl b = kc k:=by
 simp only [Gh.sb]
 cases h : g.cl b with
 | own r1 j1 ρ =>
  cases r1 with
  | zero => simp only []; split <;> cases k <;> simp [kc]
  | succ r1 => exact .rfl
 | _ => exact .rfl
theorem Gh.sb_mine {r j n : Nat} {K : Nat → Bool} {X : Nat → Value} {b : Nat} : ((g.sb r j n K X).cl b).mine = (g.cl b).mine:=by
 simp only [Gh.sb]
 cases h : g.cl b with
 | own r1 j1 ρ =>
  cases r1 with
  | zero => simp only []; split <;> rfl
  | succ r1 => rfl
 | _ => rfl
theorem Gh.sb_no {r j n : Nat} {K : Nat → Bool} {X : Nat → Value} {b : Nat} : (g.sb r j n K X).cl b = .no ↔ g.cl b = .no:=by
 simp only [Gh.sb]
 cases h : g.cl b with
 | own r1 j1 ρ =>
  cases r1 with
  | zero => simp only []; split <;> simp
  | succ r1 => simp
 | _ => simp
theorem mem_killsC : ∀ (q j : Nat) (os ns : List C) (o n : C),os[q]? = some o → ns[q]? = some n → (o.scal && n.scal) = false → (j + q,[]) ∈ killsC j os ns:=by
 intro q
 induction q with
 | zero =>
  intro j os ns o n ho hn hk
  cases os with
  | nil => simp at ho
  | cons o' os =>
   cases ns with
   | nil => simp at hn
   | cons n' ns =>
    simp at ho hn; subst ho; subst hn
    simp only [killsC]
    rw [if_neg (by rw [hk]; simp)]
    simp
 | succ q ih =>
  intro j os ns o n ho hn hk
  cases os with
  | nil => simp at ho
  | cons o' os =>
   cases ns with
   | nil => simp at hn
   | cons n' ns =>
    simp at ho hn
    have:=ih (j + 1) os ns o n ho hn hk
    rw [show j + (q + 1) = j + 1 + q from by omega]
    simp only [killsC]
    split
    ·exact this
    ·exact List.mem_cons_of_mem _ this
theorem killed_of_mem {m : Ms} {r j : Nat} {k p : Pth} (h : (j,k) ∈ (m r).2) (ht : thr k p = true) : m.killed r j p = true:=by
 simp only [Ms.killed,List.any_eq_true]
 exact ⟨(j,k),h,by simp [ht]⟩
theorem thr_nil (p : Pth) : thr [] p = true:=by cases p <;> rfl
def goodW : C → Prop
 | .ro _ _ => True
 | .own d => ∃ sz es,d = .sl sz es
 | .rf .. => False
theorem storeBoxG (R : Rel w0 cl0 S a.tmps w g) {r j : Nat} {cs0 cs : List C} {vals : List Value} {kl : List (Nat × Pth)} (hm : S.ms r = (some (.bx cs0),kl)) (hb : j + cs.length ≤ cs0.length)
    (hlv : vals.length = cs.length) (hgood : ∀ c ∈ cs,goodW c) (hone : ∀ x ∈ vals,x.oneCell' = true) (hh : ∀ (i : Nat) (c : C) (x : Value),cs[i]? = some c → vals[i]? = some x → RC w g 0 i c x) :
    ∃ w' g',(storeCells ⟨g.bk r,j,none⟩ vals 0).run P w = .ok () w' ∧
      Rel w0 cl0 { S with ms:=upd S.ms r (some (.bx (setRange cs0 j cs)),killsC j (cs0.drop j) cs ++ kl) } a.tmps w' g':=by
  have hrt:=R.rt r (.bx cs0) (by rw [hm])
  obtain ⟨hcl,vals0,E,hw,hs,hc0⟩:=hrt
  obtain ⟨w',vals',hrun,hw',hs',hget,hother,hsize,hsd⟩:=store_run P hw vals (o:=j) (by omega) hone
  let K : Nat → Bool:=fun q => !(((cs0.drop j).getD q (.own .dead)).scal && (cs.getD q (.own .dead)).scal)
  have hkey : ∀ q,q < cs.length → K q = true → ∀ ρ,Ms.killed (upd S.ms r (some (.bx (setRange cs0 j cs)),killsC j (cs0.drop j) cs ++ (S.ms r).2)) r (j + q) ρ = true:=by
    intro q hq hK ρ
    refine killed_of_mem (k:=[]) ?_ (thr_nil _)
    simp only [upd_same]
    refine List.mem_append.2 (.inl ?_)
    have h1 : (cs0.drop j)[q]? = some ((cs0.drop j).getD q (.own .dead)):=by
      have : q < (cs0.drop j).length:=by simp; omega
      simp only [List.getD,List.getElem?_eq_getElem this]; rfl
    have h2 : cs[q]? = some (cs.getD q (.own .dead)):=by
      simp only [List.getD,List.getElem?_eq_getElem hq]; rfl
    refine mem_killsC q j _ _ _ _ h1 h2 ?_
    simp only [K] at hK
    revert hK
    generalize (((cs0.drop j).getD q (.own .dead)).scal && (cs.getD q (.own .dead)).scal) = b
    cases b <;> simp
  have hkc : ∀ b k,g.cl b = kc k → w'.heap[b]? = w.heap[b]? ∧ (g.sb r j cs.length K (fun q => vals.getD q undef)).cl b = kc k:=fun b k h =>
    ⟨hother b (fun e => by subst e; rw [hcl] at h; cases k <;> simp [kc] at h),Gh.sb_kc.2 h⟩
  have hown : ∀ b n j1 ρ,g.cl b = .own n j1 ρ → w'.heap[b]? = w.heap[b]?:=fun b n j1 ρ h => hother b (fun e => by subst e; rw [hcl] at h; cases h)
  have hlen:=setRange_length (l:=cs0) (xs:=cs) (o:=j) hb
  refine ⟨w',g.sb r j cs.length K (fun q => vals.getD q undef),hrun,?_⟩
  have hkl : (killsC j (cs0.drop j) cs ++ kl) = killsC j (cs0.drop j) cs ++ (S.ms r).2:=by rw [hm]
  rw [hkl]
  refine R.chg (b0:=g.bk r) (rt:=.bx cs0) (rt':=.bx (setRange cs0 j cs)) (by rw [hm]) rfl ?_ ?_ ?_
  · refine { hp:=hother,hs:=hsize,ow:=.inl hcl,kc:=fun b k => Gh.sb_kc,cl:=fun b n j1 ρ h => by simp [Gh.sb,h],bx:=fun b n h => by simp [Gh.sb,h],
             hd:=fun n j1 ρ hn => by simp [Gh.sb,hn],hr:=fun j1 ρ hk => ?_,hv:=fun _ h => by simp [Rt.isVir] at h,bk:=rfl,bd:=fun b h => by rwa [ne_eq,Gh.sb_no] at h,
             mi:=fun b h => by rwa [Gh.sb_mine] at h,sd:=hsd }
    simp only [Gh.sb]
    split
    · rename_i hc
      obtain ⟨_,h1,h2,h3⟩:=hc
      have:=hkey (j1 - j) (by omega) h3 ρ
      rw [show j + (j1 - j) = j1 from by omega] at this
      rw [this] at hk; cases hk
    · rfl
  · refine ⟨by simp [Gh.sb,hcl],vals',E,hw',by omega,fun k c x hc hx => ?_⟩
    rw [setRange_get hb] at hc
    rw [hget k,hlv] at hx
    split at hc
    · rename_i hk
      rw [if_pos hk] at hx
      have hrc:=hh (k - j) c x hc hx
      have hg:=hgood c (List.mem_of_getElem? hc)
      cases hrc with
      | ro kk dd _ hr => exact .ro _ _ _ (hr.mono fun b hb => hkc b kk hb)
      | own dd _ ho =>
        obtain ⟨sz,es,rfl⟩:=hg
        have hK : K (k - j) = true:=by
          simp only [K,List.getD,hc]
          simp [C.scal]
        refine .own _ _ (ho.mono (fun b ρ hb => ⟨hown b _ _ _ hb,?_⟩) (fun ρ => ?_))
        · simp only [Gh.sb,hb,List.nil_append]
          rw [if_pos ⟨by omega,hK⟩,show j + (k - j) = k from by omega]
        · simp only [Gh.sb,List.nil_append]
          rw [if_pos ⟨trivial,hk.1,hk.2,hK⟩]
          split
          · rename_i e; subst e
            rw [← ho.hd_eq]
            simp [List.getD,hx]
          · rfl
      | rf => exact hg.elim
    · rename_i hk
      rw [if_neg hk] at hx
      refine (hc0 k c x hc hx).mono hkc (fun b ρ hb => ⟨hown b _ _ _ hb,by simp [Gh.sb,hb]⟩) (fun ρ => ?_) (fun r1 j1 e => ?_)
      · simp only [Gh.sb]
        rw [if_neg (by omega)]
      · subst e
        obtain ⟨csv,hv⟩:=R.rfc r (.bx cs0) k r1 j1 (by rw [hm]) hc
        have : r1 ≠ r:=fun e => by subst e; rw [hm] at hv; cases hv
        simp [Gh.sb,this]
  · intro k r1 j1 hc
    simp only [Rt.cells] at hc
    rw [setRange_get hb] at hc
    split at hc
    · exact (hgood _ (List.mem_of_getElem? hc)).elim
    · exact R.rfc r (.bx cs0) k r1 j1 (by rw [hm]) hc
theorem goodW_of_good {c : C} (h : goodC c) : goodW c:=by
 cases c with
 | ro k d => trivial
 | own d => exact h
 | rf => exact h.elim
theorem storeBox (R : Rel w0 cl0 S a.tmps w g) {r j : Nat} {cs0 cs : List C} {vals : List Value} {kl : List (Nat × Pth)} (hm : S.ms r = (some (.bx cs0),kl)) (hb : j + cs.length ≤ cs0.length)
  (hlv : vals.length = cs.length) (hgood : ∀ c ∈ cs,goodC c) (hh : ∀ (i : Nat) (c : C) (x : Value),cs[i]? = some c → vals[i]? = some x → RC w g 0 i c x) :
  ∃ w' g',(storeCells ⟨g.bk r,j,none⟩ vals 0).run P w = .ok () w' ∧
   Rel w0 cl0 { S with ms:=upd S.ms r (some (.bx (setRange cs0 j cs)),killsC j (cs0.drop j) cs ++ kl) } a.tmps w' g':=by
 refine storeBoxG R hm hb hlv (fun c hc => goodW_of_good (hgood c hc)) (fun x hx => ?_) hh
 obtain ⟨i,hi⟩:=List.mem_iff_getElem?.1 hx
 have hlt:=lt_of_get hi
 have hci : cs[i]? = some cs[i]:=by simp [show i < cs.length from by omega]
 exact good_one (hh i _ x hci hi) (hgood _ (List.mem_of_getElem? hci))
end
end Go.Proofs.YtmlinnkaccgcgaaGreat.OM
