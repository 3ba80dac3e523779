/- The own machine: calls that write a box of the caller's that holds owned data. -/
import Derived.Test.YtcgekefbkccelaaGreatOMBx
set_option linter.all false
namespace Go.Proofs.YtcgekefbkccelaaGreat.OM
def Cls.ofR (r0 : Nat) : Cls → Bool
 | .own (n + 1) _ _ => n == r0
 | _ => false
theorem Cls.ofR_own {r0 : Nat} {c : Cls} (h : c.ofR r0 = true) : ∃ j ρ,c = .own (r0 + 1) j ρ:=by
 cases c with
 | own n j ρ =>
  cases n with
  | zero => simp [Cls.ofR] at h
  | succ n => simp [Cls.ofR] at h; subst h; exact ⟨_,_,rfl⟩
 | _ => simp [Cls.ofR] at h
def Gh.lendO (g : Gh) (b0 r0 : Nat) (lent : Bool) : Gh where
 cl:=fun b => if b = b0 then .box 0 else if (g.cl b).ofR r0 then (match g.cl b with
  | .own _ j ρ => .own 1 j ρ
  | c => c) else (g.lend lent false fun r => r == r0).cl b
 hd:=fun r j ρ => if r = 1 then g.hd (r0 + 1) j ρ else g.hd r j ρ
 bk:=g.bk
section
variable {P : Program} {κ : Nat → FuncId} {w0 : World} {cl0 : Ini} {S : St} {w : World} {g : Gh} {a : Act} {Γ : Env} {d : Nat}
theorem Gh.lendO_own {b0 r0 b j : Nat} {ρ : Pth} {lent : Bool} (h0 : g.cl b0 = .box r0) (h : g.cl b = .own (r0 + 1) j ρ) : (g.lendO b0 r0 lent).cl b = .own 1 j ρ:=by
 simp only [Gh.lendO]
 rw [if_neg (fun e => by subst e; rw [h0] at h; cases h),if_pos (by rw [h]; simp [Cls.ofR]),h]
theorem Gh.lendO_lend {b0 r0 b : Nat} {k lent : Bool} (h0 : g.cl b0 = .box r0) (h : (g.lend lent false fun r => r == r0).cl b = kc k) : (g.lendO b0 r0 lent).cl b = kc k:=by
 simp only [Gh.lendO]
 rw [if_neg (fun e => ?_),if_neg (fun e => ?_)]
 ·exact h
 ·obtain ⟨j,ρ,e⟩:=Cls.ofR_own e
  simp [Gh.lend,e] at h
  cases k <;> simp [kc] at h
 ·subst e
  simp [Gh.lend,h0] at h
  cases k <;> simp [kc] at h
theorem Gh.lendO_up {b0 r0 b : Nat} {k lent : Bool} (h0 : g.cl b0 = .box r0) (h : g.cl b = kc k) : (g.lendO b0 r0 lent).cl b = kc k:=Gh.lendO_lend h0 (Gh.lend_kc h)
theorem Gh.lendO_down {b0 r0 b : Nat} {k lent : Bool} (hk : k = false ∨ lent = false) (h : (g.lendO b0 r0 lent).cl b = kc k) : g.cl b = kc k:=by
 simp only [Gh.lendO] at h
 split at h
 ·cases k <;> simp [kc] at h
 ·split at h
  ·rename_i hr
   obtain ⟨j,ρ,e⟩:=Cls.ofR_own hr
   rw [e] at h
   cases k <;> simp [kc] at h
  ·exact Gh.lend_down hk h
theorem Gh.lendO_mine {b0 r0 b : Nat} {lent : Bool} (h : ((g.lendO b0 r0 lent).cl b).mine = true) : b = b0 ∨ (g.cl b).ofR r0 = true:=by
 simp only [Gh.lendO] at h
 split at h
 ·exact .inl (by assumption)
 ·split at h
  ·exact .inr (by assumption)
  ·rw [Gh.lend_mine] at h; cases h
theorem Gh.lendO_no {b0 r0 b : Nat} {lent : Bool} (h0 : g.cl b0 = .box r0) (h : g.cl b = .no) : (g.lendO b0 r0 lent).cl b = .no:=by
 simp only [Gh.lendO]
 rw [if_neg (fun e => by subst e; rw [h0] at h; cases h),if_neg (by rw [h]; simp [Cls.ofR])]
 exact Gh.lend_no h
theorem box_argO {r : Nat} {cs : List C} {lent : Bool} (h : RtOk w g r (.bx cs)) (hnr : cs.all C.noRf = true) : RVa w (g.lendO (g.bk r) r lent) 0 (.ptr cs) (.pointer (some ⟨g.bk r,0,none⟩)):=by
 obtain ⟨vals,E,h2,h3,h4⟩:=h.2
 refine ⟨g.bk r,vals,E,rfl,by simp [Gh.lendO],h2,by simpa using h3.symm,fun j c x hc hx => ?_⟩
 rw [Nat.zero_add]
 have h5:=h4 j c x hc (by simpa using hx)
 have h6:=List.all_eq_true.1 hnr c (List.mem_of_getElem? hc)
 cases h5 with
 | ro k dd _ h7 => exact .ro _ _ _ (h7.mono fun b hb => ⟨rfl,Gh.lendO_up h.1 hb⟩)
 | own dd _ h7 => exact .own _ _ (h7.mono (q':=[]) (fun b ρ hb => ⟨rfl,by simpa using Gh.lendO_own h.1 (by simpa using hb)⟩) (fun ρ => by simp [Gh.lendO]))
 | rf => simp [C.noRf] at h6
def Gh.backO (g g' : Gh) (size r0 n0 d : Nat) (cr : Bool) (X : Nat → Value) : Gh where
 cl:=fun b => if b < size ∧ (g.cl b).ofR r0 = false then g.cl b else match g'.cl b with
  | .own 1 j ρ => .own (r0 + 1) j ρ
  | .own 0 n ρ => if cr then .own (d + 1) n ρ else .no
  | _ => .no
 hd:=fun r j ρ => if r = r0 + 1 ∧ j < n0 then g'.hd 1 j ρ else if r = d + 1 ∧ cr = true then (if ρ = [] then X j else g'.hd 0 j ρ) else g.hd r j ρ
 bk:=g.bk
theorem killB_mem {r : Nat} : ∀ {n j : Nat},j < n → (j,([] : Pth)) ∈ killB r n:=by
 intro n
 induction n with
 | zero => intro j h; omega
 | succ n ih =>
  intro j h
  simp only [killB]
  by_cases e : j = n
  ·subst e; simp
  ·exact List.mem_cons_of_mem _ (ih (by omega))
theorem callO (R : Rel w0 cl0 S a.tmps w g) {r0 : Nat} {cs cs1 : List C} {xs : List V} {args : Array Value} {us : List (Nat × Nat × C)} {w' : World} {g' : Gh} {X : Nat → Value} {cr lent : Bool}
    (hb : (S.ms r0).1 = some (.bx cs)) (h0 : args[0]? = some (.pointer (some ⟨g.bk r0,0,none⟩)))
    (hL : Left w (g.lendO (g.bk r0) r0 lent) (.ptr cs :: xs) args us w' g') (hu : usCells 0 us = some cs1) (hlen : cs1.length = cs.length) (hpos : 0 < cs.length)
    (hn : cr = true → (S.ms d).1 = none) (hokc : ∀ c ∈ cs1,c.okRes = true ∨ lent = false) :
    ∃ g3,Rel w0 cl0 { S with ms:=upd S.ms r0 (some (.bx cs1),killB r0 cs.length ++ (S.ms r0).2) } a.tmps w' g3 ∧
      (∀ {c : C} {j : Nat} {x : Value},(c.okRes = true ∨ lent = false) → c.isOwn = false → c.noRf = true → RC w' g' 0 j c x → RC w' g3 (d + 1) j c x) ∧
      (cr = true → ∀ {c : C} {j : Nat} {x : Value},(c.okRes = true ∨ lent = false) → c.noRf = true → X j = x → RC w' g' 0 j c x → RC w' g3 (d + 1) j c x) ∧
      (cr = true → ∀ j,g3.hd (d + 1) j [] = X j):=by
  have hrt:=R.rt r0 _ hb
  have hk0:=box_kc hrt
  have hcl0 : g.cl (g.bk r0) = .box r0:=hrt.1
  obtain ⟨hul,hug⟩:=usCells_get us hu
  have hdr : cr = true → d ≠ r0:=fun h e => by have:=hn h; rw [e,hb] at this; cases this
  have hup : ∀ (j : Nat) (c : C),cs1[j]? = some c → c.noRf = true ∧ ∃ vals E x,g'.cl (g.bk r0) = .box 0 ∧ w'.heap[g.bk r0]? = some (.cells vals E) ∧ vals.size ≤ us.length ∧ vals[j]? = some x ∧ RC w' g' 1 j c x:=by
    intro j c hc
    obtain ⟨h1,h2⟩:=hug j c hc
    rw [Nat.zero_add] at h1
    have h3:=hL.up 0 j c h1
    simp only [List.getElem?_cons_zero] at h3
    obtain ⟨b,vals,E,x,e1,e2,e3,e4,e5,e6⟩:=h3
    rw [h0] at e1
    simp only [Option.some.injEq,Value.pointer.injEq,Addr.mk.injEq] at e1
    obtain ⟨rfl,_⟩:=e1
    exact ⟨h2,vals,E,x,e2,e3,e4,e5,e6⟩
  obtain ⟨hbox,vals,E,hheap,hvs,hvc⟩ : g'.cl (g.bk r0) = .box 0 ∧ ∃ vals E,w'.heap[g.bk r0]? = some (.cells vals E) ∧ vals.size = cs1.length ∧
      ∀ (j : Nat) (c : C) (x : Value),cs1[j]? = some c → vals[j]? = some x → c.noRf = true ∧ RC w' g' 1 j c x:=by
    have hne : cs1[0]? = some cs1[0]:=by simp [show 0 < cs1.length from by omega]
    obtain ⟨_,vals,E,x,e1,e2,e3,e4,e5⟩:=hup 0 _ hne
    refine ⟨e1,vals,E,e2,?_,fun j c y hc hy => ?_⟩
    · have hlast : cs1[cs1.length - 1]? = some cs1[cs1.length - 1]:=by simp [show cs1.length - 1 < cs1.length from by omega]
      obtain ⟨_,vals2,E2,x2,q1,q2,q3,q4,q5⟩:=hup _ _ hlast
      rw [e2] at q2
      simp only [Option.some.injEq,Obj.cells.injEq] at q2
      obtain ⟨rfl,_⟩:=q2
      have : cs1.length - 1 < vals.size:=by
        rcases Nat.lt_or_ge (cs1.length - 1) vals.size with h | h
        · exact h
        · rw [Array.getElem?_eq_none h] at q4; cases q4
      omega
    · obtain ⟨p0,vals2,E2,x2,q1,q2,q3,q4,q5⟩:=hup j c hc
      rw [e2] at q2
      simp only [Option.some.injEq,Obj.cells.injEq] at q2
      obtain ⟨rfl,_⟩:=q2
      rw [hy] at q4
      simp only [Option.some.injEq] at q4
      subst q4
      exact ⟨p0,q5⟩
  have hlt : ∀ b,g.cl b ≠ .no → b < w.heap.size:=R.bd
  have hsame : ∀ b,b < w.heap.size → b ≠ g.bk r0 → (g.cl b).ofR r0 = false → w'.heap[b]? = w.heap[b]?:=fun b h1 h2 h3 => by
    refine hL.fr b h1 ?_
    cases h : ((g.lendO (g.bk r0) r0 lent).cl b).mine with
    | false => rfl
    | true =>
      rcases Gh.lendO_mine h with h | h
      · exact absurd h h2
      · rw [h3] at h; cases h
  have hcl3 : ∀ b,b < w.heap.size → (g.cl b).ofR r0 = false → (g.backO g' w.heap.size r0 cs.length d cr X).cl b = g.cl b:=fun b h h2 => by simp only [Gh.backO]; rw [if_pos ⟨h,h2⟩]
  -- a block of the callee's own
  have hnew : ∀ b,(g'.cl b).mine = true → g'.cl b ≠ .box 0 → ¬ (b < w.heap.size ∧ (g.cl b).ofR r0 = false):=fun b h1 h2 h3 => by
    rcases Gh.lendO_mine (hL.mi b h3.1 h1) with e | e
    · subst e; exact h2 hbox
    · rw [h3.2] at e; cases e
  have hbk1 : ∀ b j ρ,g'.cl b = .own 1 j ρ → (g.backO g' w.heap.size r0 cs.length d cr X).cl b = .own (r0 + 1) j ρ:=fun b j ρ h => by
    simp only [Gh.backO]
    rw [if_neg (hnew b (by rw [h]; rfl) (by rw [h]; simp))]
    simp only [h]
  have hofk : ∀ b k,g.cl b = kc k → (g.cl b).ofR r0 = false:=fun b k h => by rw [h]; cases k <;> rfl
  have hkc : ∀ b k,g.cl b = kc k → w'.heap[b]? = w.heap[b]? ∧ (g.backO g' w.heap.size r0 cs.length d cr X).cl b = kc k:=fun b k h => by
    have h1:=hlt b (by rw [h]; cases k <;> simp [kc])
    exact ⟨hsame b h1 (fun e => by subst e; exact hk0 k h) (hofk b k h),by rw [hcl3 b h1 (hofk b k h),h]⟩
  have hkc' : ∀ b k,(k = false ∨ lent = false) → g'.cl b = kc k → (g.backO g' w.heap.size r0 cs.length d cr X).cl b = kc k:=fun b k hk h => (hkc b k (Gh.lendO_down hk ((hL.im b k).1 h))).2
  have hhd : ∀ n,n ≠ r0 → ((S.ms n).1).isSome → ∀ j ρ,(g.backO g' w.heap.size r0 cs.length d cr X).hd (n + 1) j ρ = g.hd (n + 1) j ρ:=fun n hne hs j ρ => by
    simp only [Gh.backO]
    rw [if_neg (fun e => hne (by omega)),if_neg]
    rintro ⟨h1,h2⟩
    have : n = d:=by omega
    subst this
    rw [hn h2] at hs; cases hs
  have hkill : ∀ r j p,r ≠ r0 → Ms.killed (upd S.ms r0 (some (.bx cs1),killB r0 cs.length ++ (S.ms r0).2)) r j p = S.ms.killed r j p:=fun r j p e => by
    simp [Ms.killed,upd,e]
  have hkill0 : ∀ j p,Ms.killed (upd S.ms r0 (some (.bx cs1),killB r0 cs.length ++ (S.ms r0).2)) r0 j p = false → ¬ j < cs.length ∧ S.ms.killed r0 j p = false:=fun j p h => by
    simp only [Ms.killed,upd_same,List.any_append,Bool.or_eq_false_iff] at h
    refine ⟨fun hj => ?_,h.2⟩
    have:=List.any_eq_false.1 h.1 (j,[]) (killB_mem hj)
    simp [thr] at this
  have hro : ∀ {k : Bool} {dd : D} {x : Value},((C.ro k dd).okRes = true ∨ lent = false) → RO w' g'.cl k dd x → RO w' (g.backO g' w.heap.size r0 cs.length d cr X).cl k dd x:=fun {k dd x} hk h => by
    by_cases hs : dd.scal = true
    · exact h.scal hs
    · have hk2 : k = false ∨ lent = false:=by
        rcases hk with hk | hk
        · left; simpa [C.okRes,hs] using hk
        · exact .inr hk
      exact h.mono fun b hb => ⟨rfl,hkc' b _ hk2 hb⟩
  have hsome : ∀ n,((upd S.ms r0 (some (.bx cs1),killB r0 cs.length ++ (S.ms r0).2) n).1).isSome = ((S.ms n).1).isSome:=fun n => by
    by_cases e : n = r0
    · subst e; simp [upd,hb]
    · simp [upd,e]
  have hown : ∀ {j : Nat} {dd : D} {x : Value},cr = true → X j = x → OW w' g' 0 j [] dd x → RC w' (g.backO g' w.heap.size r0 cs.length d cr X) (d + 1) j (.own dd) x:=by
    intro j dd x hcr hx h
    have hd0:=hdr hcr
    subst hcr
    refine .own _ _ (Hd.place (w:=w') (g:=g') (.inl h) (fun b ρ hb => ⟨rfl,?_⟩) (fun ρ hρ => ?_) ?_)
    · simp only [Gh.backO]
      rw [if_neg (hnew b (by rw [hb]; rfl) (by rw [hb]; simp)),hb]
      simp
    · simp only [Gh.backO]
      rw [if_neg (fun e => hd0 (by omega))]
      simp [hρ]
    · simp only [Gh.backO]
      rw [if_neg (fun e => hd0 (by omega))]
      simp [hx]
  refine ⟨g.backO g' w.heap.size r0 cs.length d cr X,?_,fun {c j x} ho h1 h2 h => ?_,fun hcr {c j x} ho h1 hx h => ?_,fun hcr j => ?_⟩
  · refine { av:=fun n => ?_,rt:=fun n rt1 h => ?_,rfs:=fun n r h => (by rw [hsome]; exact R.rfs n r h),rfc:=fun n rt1 j r1 j1 h hj => ?_,
             bd:=fun b h => ?_,sz:=Nat.le_trans R.sz hL.sz,fr:=fun b h hm => ?_,im:=fun b k => ?_,mi:=fun b h hm => ?_,sd:=R.sd.trans hL.sd,pin:=fun i hi => ?_ }
    · refine (R.av n).mono hkc (fun r hr => ⟨rfl,fun j p hk => ?_⟩)
      by_cases e : r = r0
      · subst e
        obtain ⟨q1,q2⟩:=hkill0 j p hk
        refine ⟨q2,?_⟩
        simp only [Gh.backO]
        rw [if_neg (fun e => q1 e.2),if_neg]
        rintro ⟨e1,e2⟩
        exact hdr e2 (by omega)
      · exact ⟨by rw [← hkill r j p e]; exact hk,hhd r e (R.rfs n r hr) j p⟩
    · by_cases e : n = r0
      · subst e
        simp only [upd_same,Option.some.injEq] at h
        subst h
        refine ⟨?_,vals,E,hheap,hvs,fun j c x hc hx => ?_⟩
        · show (g.backO g' w.heap.size n cs.length d cr X).cl (g.bk n) = .box n
          rw [hcl3 _ (hlt _ (by rw [hcl0]; simp)) (by rw [hcl0]; rfl),hcl0]
        · obtain ⟨h1,h2⟩:=hvc j c x hc hx
          have hjl : j < cs.length:=by have:=lt_of_get hc; omega
          cases h2 with
          | ro k dd _ h3 => exact .ro _ _ _ (hro (hokc _ (List.mem_of_getElem? hc)) h3)
          | own dd _ h3 => exact .own _ _ (h3.mono (q':=[]) (fun b ρ hb => ⟨rfl,by simpa using hbk1 b j _ hb⟩) (fun ρ => by simp [Gh.backO,hjl]))
          | rf => simp [C.noRf] at h1
      · simp only [upd_ne e] at h
        have h1:=R.rt n rt1 h
        have hs : ((S.ms n).1).isSome:=by rw [h]; rfl
        refine h1.mono hkc (fun b j ρ hb => ?_) (fun cs2 hcs => ?_) (fun j ρ => hhd n e hs j ρ) (fun j r1 j1 hj => ?_)
        · have h2:=hlt b (by rw [hb]; simp)
          have h3 : (g.cl b).ofR r0 = false:=by rw [hb]; simp [Cls.ofR,e]
          exact ⟨hsame b h2 (fun e2 => by subst e2; rw [hcl0] at hb; cases hb) h3,by rw [hcl3 b h2 h3,hb]⟩
        · subst hcs
          have h2:=h1.1
          have h3:=hlt (g.bk n) (by rw [h2]; simp)
          have h4 : (g.cl (g.bk n)).ofR r0 = false:=by rw [h2]; rfl
          refine ⟨rfl,hsame _ h3 (fun e2 => ?_) h4,by rw [hcl3 _ h3 h4]⟩
          rw [e2,hcl0] at h2
          simp only [Cls.box.injEq] at h2
          exact e h2.symm
        · obtain ⟨cs2,h2⟩:=R.rfc n rt1 j r1 j1 h hj
          have hne1 : r1 ≠ r0:=fun e2 => by subst e2; rw [hb] at h2; cases h2
          exact hhd r1 hne1 (by rw [h2]; rfl) j1 []
    · by_cases e : n = r0
      · subst e
        simp only [upd_same,Option.some.injEq] at h
        subst h
        have:=(hug j _ hj).2
        simp [C.noRf] at this
      · simp only [upd_ne e] at h
        obtain ⟨cs2,h2⟩:=R.rfc n rt1 j r1 j1 h hj
        have : r1 ≠ r0:=fun e2 => by subst e2; rw [hb] at h2; cases h2
        exact ⟨cs2,by simp only [upd_ne this]; exact h2⟩
    · by_cases h1 : b < w.heap.size
      · exact Nat.lt_of_lt_of_le h1 hL.sz
      · refine hL.bd b (fun e => ?_)
        simp only [Gh.backO] at h
        rw [if_neg (fun e2 => h1 e2.1),e] at h
        exact h rfl
    · have h1:=Nat.lt_of_lt_of_le h R.sz
      have hnm : (g.cl b).mine = false:=by
        cases h2 : (g.cl b).mine with
        | false => rfl
        | true => have:=R.mi b h h2; rw [this] at hm; cases hm
      rw [hsame b h1 (fun e => by subst e; rw [hcl0] at hnm; cases hnm) (by
        cases h3 : (g.cl b).ofR r0 with
        | false => rfl
        | true => obtain ⟨j,ρ,e⟩:=Cls.ofR_own h3; rw [e] at hnm; cases hnm),R.fr b h hm]
    · refine Iff.trans ?_ (R.im b k)
      constructor
      · intro h
        by_cases h1 : b < w.heap.size ∧ (g.cl b).ofR r0 = false
        · rwa [hcl3 b h1.1 h1.2] at h
        · exfalso
          simp only [Gh.backO,if_neg h1] at h
          split at h <;> first | (cases k <;> simp [kc] at h; done) | (split at h <;> cases k <;> simp [kc] at h)
      · exact fun h => (hkc b k h).2
    · have h1:=Nat.lt_of_lt_of_le h R.sz
      by_cases h2 : (g.cl b).ofR r0 = false
      · rw [hcl3 b h1 h2] at hm
        exact R.mi b h hm
      · obtain ⟨j,ρ,e⟩:=Cls.ofR_own (c:=g.cl b) (r0:=r0) (by simpa using h2)
        exact R.mi b h (by rw [e]; rfl)
    · have h4:=R.pin i hi
      by_cases e : i = r0
      · subst e
        simp only [upd_same]
        rw [hb] at h4
        exact h4
      · simp only [upd_ne e]
        have hs : ((S.ms i).1).isSome:=by
          revert h4
          cases (S.ms i).1 with
          | none => exact fun h => h.elim
          | some _ => exact fun _ => rfl
        have h5:=hhd i e hs
        revert h4
        cases (S.ms i).1 with
        | none => exact id
        | some rt1 =>
          cases rt1 with
          | vir cs => exact fun h j1 => (h5 j1 []).trans (h j1)
          | bx cs => exact id
  · cases h with
    | ro k dd _ h => exact .ro _ _ _ (hro ho h)
    | own dd _ h =>
      simp only [C.isOwn,Bool.not_eq_false'] at h1
      refine .own _ _ ?_
      cases h <;> first | exact .int _ _ _ | exact .bool _ _ | exact .str _ _ | simp [D.scal] at h1
    | rf => simp [C.noRf] at h2
  · cases h with
    | ro k dd _ h => exact .ro _ _ _ (hro ho h)
    | own dd _ h => exact hown hcr hx h
    | rf => simp [C.noRf] at h1
  · have hd0:=hdr hcr
    subst hcr
    simp only [Gh.backO]
    rw [if_neg (fun e => hd0 (by omega))]
    simp
theorem callPostO (R : Rel w0 cl0 S a.tmps w g) {r0 : Nat} {cs cs1 : List C} {xs : List V} {args : Array Value} {us : List (Nat × Nat × C)} {w' : World} {g' : Gh} {r : V} {v : Value} {lent : Bool}
  (hb : (S.ms r0).1 = some (.bx cs)) (h0 : args[0]? = some (.pointer (some ⟨g.bk r0,0,none⟩)))
  (hok : ((r.okRes && us.all fun u => u.2.2.okRes) || !lent) = true) (hpl : r.plain = true) (hnp : r.noPtr = true) (hr : RVr w' g' r v)
  (hL : Left w (g.lendO (g.bk r0) r0 lent) (.ptr cs :: xs) args us w' g') (hu : usCells 0 us = some cs1) (hlen : cs1.length = cs.length) (hpos : 0 < cs.length)
  (hn : ((imp d r).2).isSome → (upd S.ms r0 (some (.bx cs1),killB r0 cs.length ++ (S.ms r0).2) d).1 = none) :
  Post w0 cl0 S a.tmps d (imp d r).1 (imp d r).2 (upd S.ms r0 (some (.bx cs1),killB r0 cs.length ++ (S.ms r0).2)) v w':=by
 have hok1 : (r.okRes || !lent) = true:=by
  revert hok; cases r.okRes <;> simp
 have hokc : ∀ c ∈ cs1,c.okRes = true ∨ lent = false:=by
  intro c hc
  obtain ⟨j,hj⟩:=List.mem_iff_getElem?.1 hc
  have h1:=((usCells_get us hu).2 j c hj).1
  rcases Bool.or_eq_true _ _ ▸ hok with h | h
  ·simp only [Bool.and_eq_true] at h
   exact .inl (List.all_eq_true.1 h.2 _ h1)
  ·right; simpa using h
 refine post_np hok1 hpl (noPtr_ne hnp) hr (fun cr X h => callO R hb h0 hL hu hlen hpos (fun hc => ?_) hokc) hn
 have:=h hc
 by_cases e : d = r0
 ·subst e; simp [upd] at this
 ·simpa [upd,e] using this
end
end Go.Proofs.YtcgekefbkccelaaGreat.OM
