/- The own machine: calls that write a box of the caller's. -/
import Derived.Test.YtkgibccknlbiaaaOMIo3
set_option linter.all false
namespace Go.Proofs.Ytkgibccknlbiaaa.OM

section
variable {P : Program} {κ : Nat → FuncId} {w0 : World} {cl0 : Ini} {S : St} {w : World} {g : Gh} {a : Act} {Γ : Env} {d : Nat}

theorem ptr_some {m : Ms} {a : AV} {r : Nat} {cs : List C} (h : a.ptr? m = some (r, cs)) : a = .bx r 0 ∧ (m r).1 = some (.bx cs) ∧ cs.all C.isRo = true := by
  unfold AV.ptr? at h
  split at h
  · split at h
    · rename_i hm
      split at h
      · rename_i hc
        simp at h; obtain ⟨rfl, rfl⟩ := h
        exact ⟨rfl, hm, hc⟩
      · cases h
    · cases h
  · cases h

theorem usCells_get : ∀ (us : List (Nat × Nat × C)) {n : Nat} {cs : List C}, usCells n us = some cs →
    cs.length = us.length ∧ ∀ (j : Nat) (c : C), cs[j]? = some c → (0, n + j, c) ∈ us ∧ c.isRo = true := by
  intro us
  induction us with
  | nil => intro n cs h; simp [usCells] at h; subst h; exact ⟨rfl, fun j c h => by simp at h⟩
  | cons u us ih =>
    intro n cs h
    obtain ⟨i, j, c⟩ := u
    simp only [usCells] at h
    split at h
    · rename_i hc
      obtain ⟨rfl, rfl, h3⟩ := hc
      split at h
      · rename_i cs2 h2
        simp at h; subst h
        obtain ⟨h4, h5⟩ := ih h2
        refine ⟨by simp [h4], fun k c' hk => ?_⟩
        cases k with
        | zero => simp at hk; subst hk; exact ⟨by simp, h3⟩
        | succ k =>
          obtain ⟨h6, h7⟩ := h5 k c' (by simpa using hk)
          exact ⟨List.mem_cons_of_mem _ (by rwa [show j + (k + 1) = j + 1 + k from by omega]), h7⟩
      · cases h
    · cases h

/-- The callee's ghost: the box is its first argument's. -/
def Gh.lendB (g : Gh) (b0 : Nat) (lent : Bool) : Gh where
  cl := fun b => if b = b0 then .box 0 else (g.lend lent false).cl b
  hd := g.hd
  bk := g.bk

theorem Gh.lendB_up {b0 b : Nat} {k lent : Bool} (h0 : ∀ k, g.cl b0 ≠ kc k) (h : g.cl b = kc k) : (g.lendB b0 lent).cl b = kc k := by
  simp only [Gh.lendB]
  rw [if_neg (fun e => by subst e; exact h0 k h)]
  exact Gh.lend_kc h

theorem Gh.lendB_down {b0 b : Nat} {k lent : Bool} (hk : k = false ∨ lent = false) (h : (g.lendB b0 lent).cl b = kc k) : g.cl b = kc k := by
  simp only [Gh.lendB] at h
  split at h
  · cases k <;> simp [kc] at h
  · exact Gh.lend_down hk h

theorem Gh.lendB_mine {b0 b : Nat} {lent : Bool} : ((g.lendB b0 lent).cl b).mine = true → b = b0 := by
  simp only [Gh.lendB]
  by_cases e : b = b0
  · exact fun _ => e
  · rw [if_neg e]
    intro h
    have : ((g.lend lent false).cl b).mine = false := Gh.lend_mine
    rw [this] at h; cases h

theorem box_kc {r : Nat} {cs : List C} (h : RtOk w g r (.bx cs)) : ∀ k, g.cl (g.bk r) ≠ kc k := fun k e => by
  rw [h.1] at e; cases k <;> simp [kc] at e

/-- The box as an argument. -/
theorem box_arg {r : Nat} {cs : List C} {lent : Bool} (h : RtOk w g r (.bx cs)) (hro : cs.all C.isRo = true) : RVa w (g.lendB (g.bk r) lent) 0 (.ptr cs) (.pointer (some ⟨g.bk r, 0, none⟩)) := by
  obtain ⟨vals, E, h2, h3, h4⟩ := h.2
  refine ⟨g.bk r, vals, E, rfl, by simp [Gh.lendB], h2, by simpa using h3.symm, fun j c x hc hx => ?_⟩
  rw [Nat.zero_add]
  have h5 := h4 j c x hc (by simpa using hx)
  have h6 := List.all_eq_true.1 hro c (List.mem_of_getElem? hc)
  cases h5 with
  | ro k dd _ h7 => exact .ro _ _ _ (h7.mono fun b hb => ⟨rfl, Gh.lendB_up (box_kc h) hb⟩)
  | own => simp [C.isRo] at h6
  | rf => simp [C.isRo] at h6

/-- The caller's ghost behind it. -/
def Gh.backB (g g' : Gh) (size d : Nat) (cr : Bool) (X : Nat → Value) : Gh where
  cl := fun b => if b < size then g.cl b else match g'.cl b with
    | .own 0 n ρ => if cr then .own (d + 1) n ρ else .no
    | _ => .no
  hd := fun r j ρ => if r = d + 1 ∧ cr = true then (if ρ = [] then X j else g'.hd 0 j ρ) else g.hd r j ρ
  bk := g.bk

theorem callB (R : Rel w0 cl0 S a.tmps w g) {r0 : Nat} {cs cs1 : List C} {xs : List V} {args : Array Value} {us : List (Nat × Nat × C)} {w' : World} {g' : Gh} {X : Nat → Value} {cr lent : Bool}
    (hb : (S.ms r0).1 = some (.bx cs)) (h0 : args[0]? = some (.pointer (some ⟨g.bk r0, 0, none⟩)))
    (hL : Left w (g.lendB (g.bk r0) lent) (.ptr cs :: xs) args us w' g') (hu : usCells 0 us = some cs1) (hlen : cs1.length = cs.length) (hpos : 0 < cs.length)
    (hn : cr = true → (S.ms d).1 = none) (hokc : ∀ c ∈ cs1, c.okRes = true ∨ lent = false) :
    ∃ g3, Rel w0 cl0 { S with ms := upd S.ms r0 (some (.bx cs1), (S.ms r0).2) } a.tmps w' g3 ∧
      (∀ {c : C} {j : Nat} {x : Value}, (c.okRes = true ∨ lent = false) → c.isOwn = false → c.noRf = true → RC w' g' 0 j c x → RC w' g3 (d + 1) j c x) ∧
      (cr = true → ∀ {c : C} {j : Nat} {x : Value}, (c.okRes = true ∨ lent = false) → c.noRf = true → X j = x → RC w' g' 0 j c x → RC w' g3 (d + 1) j c x) ∧
      (cr = true → ∀ j, g3.hd (d + 1) j [] = X j) := by
  have hrt := R.rt r0 _ hb
  have hk0 := box_kc hrt
  have hcl0 : g.cl (g.bk r0) = .box r0 := hrt.1
  obtain ⟨hul, hug⟩ := usCells_get us hu
  have hup : ∀ (j : Nat) (c : C), cs1[j]? = some c → c.isRo = true ∧ ∃ vals E x, g'.cl (g.bk r0) = .box 0 ∧ w'.heap[g.bk r0]? = some (.cells vals E) ∧ vals.size ≤ us.length ∧ vals[j]? = some x ∧ RC w' g' 1 j c x := by
    intro j c hc
    obtain ⟨h1, h2⟩ := hug j c hc
    rw [Nat.zero_add] at h1
    have h3 := hL.up 0 j c h1
    simp only [List.getElem?_cons_zero] at h3
    obtain ⟨b, vals, E, x, e1, e2, e3, e4, e5, e6⟩ := h3
    rw [h0] at e1
    simp only [Option.some.injEq, Value.pointer.injEq, Addr.mk.injEq] at e1
    obtain ⟨rfl, _⟩ := e1
    exact ⟨h2, vals, E, x, e2, e3, e4, e5, e6⟩
  obtain ⟨hbox, vals, E, hheap, hvs, hvc⟩ : g'.cl (g.bk r0) = .box 0 ∧ ∃ vals E, w'.heap[g.bk r0]? = some (.cells vals E) ∧ vals.size = cs1.length ∧
      ∀ (j : Nat) (c : C) (x : Value), cs1[j]? = some c → vals[j]? = some x → c.isRo = true ∧ RC w' g' 1 j c x := by
    have hne : cs1[0]? = some cs1[0] := by simp [show 0 < cs1.length from by omega]
    obtain ⟨_, vals, E, x, e1, e2, e3, e4, e5⟩ := hup 0 _ hne
    refine ⟨e1, vals, E, e2, ?_, fun j c y hc hy => ?_⟩
    · have hlast : cs1[cs1.length - 1]? = some cs1[cs1.length - 1] := by simp [show cs1.length - 1 < cs1.length from by omega]
      obtain ⟨_, vals2, E2, x2, q1, q2, q3, q4, q5⟩ := hup _ _ hlast
      rw [e2] at q2
      simp only [Option.some.injEq, Obj.cells.injEq] at q2
      obtain ⟨rfl, _⟩ := q2
      have : cs1.length - 1 < vals.size := by
        rcases Nat.lt_or_ge (cs1.length - 1) vals.size with h | h
        · exact h
        · rw [Array.getElem?_eq_none h] at q4; cases q4
      omega
    · obtain ⟨p0, vals2, E2, x2, q1, q2, q3, q4, q5⟩ := hup j c hc
      rw [e2] at q2
      simp only [Option.some.injEq, Obj.cells.injEq] at q2
      obtain ⟨rfl, _⟩ := q2
      rw [hy] at q4
      simp only [Option.some.injEq] at q4
      subst q4
      exact ⟨p0, q5⟩
  have hlt : ∀ b, g.cl b ≠ .no → b < w.heap.size := R.bd
  have hsame : ∀ b, b < w.heap.size → b ≠ g.bk r0 → w'.heap[b]? = w.heap[b]? := fun b h1 h2 => by
    refine hL.fr b h1 ?_
    cases h : ((g.lendB (g.bk r0) lent).cl b).mine with
    | false => rfl
    | true => exact absurd (Gh.lendB_mine h) h2
  have hcl3 : ∀ b, b < w.heap.size → (g.backB g' w.heap.size d cr X).cl b = g.cl b := fun b h => by simp [Gh.backB, h]
  have hkc : ∀ b k, g.cl b = kc k → w'.heap[b]? = w.heap[b]? ∧ (g.backB g' w.heap.size d cr X).cl b = kc k := fun b k h => by
    have h1 := hlt b (by rw [h]; cases k <;> simp [kc])
    exact ⟨hsame b h1 (fun e => by subst e; exact hk0 k h), by rw [hcl3 b h1, h]⟩
  have hkc' : ∀ b k, (k = false ∨ lent = false) → g'.cl b = kc k → (g.backB g' w.heap.size d cr X).cl b = kc k := fun b k hk h => (hkc b k (Gh.lendB_down hk ((hL.im b k).1 h))).2
  have hhd : ∀ n, ((S.ms n).1).isSome → ∀ j ρ, (g.backB g' w.heap.size d cr X).hd (n + 1) j ρ = g.hd (n + 1) j ρ := fun n hs j ρ => by
    simp only [Gh.backB]
    rw [if_neg]
    rintro ⟨h1, h2⟩
    have : n = d := by omega
    subst this
    rw [hn h2] at hs; cases hs
  have hkill : ∀ r j p, Ms.killed (upd S.ms r0 (some (.bx cs1), (S.ms r0).2)) r j p = S.ms.killed r j p := fun r j p => by
    by_cases e : r = r0
    · subst e; simp [Ms.killed, upd]
    · simp [Ms.killed, upd, e]
  have hro : ∀ {k : Bool} {dd : D} {x : Value}, ((C.ro k dd).okRes = true ∨ lent = false) → RO w' g'.cl k dd x → RO w' (g.backB g' w.heap.size d cr X).cl k dd x := fun {k dd x} hk h => by
    by_cases hs : dd.scal = true
    · cases h <;> first | exact .int _ _ | exact .bool _ | exact .str _ | (simp [D.scal] at hs)
    · have hk2 : k = false ∨ lent = false := by
        rcases hk with hk | hk
        · left; simpa [C.okRes, hs] using hk
        · exact .inr hk
      exact h.mono fun b hb => ⟨rfl, hkc' b _ hk2 hb⟩
  have hsome : ∀ n, ((upd S.ms r0 (some (.bx cs1), (S.ms r0).2) n).1).isSome = ((S.ms n).1).isSome := fun n => by
    by_cases e : n = r0
    · subst e; simp [upd, hb]
    · simp [upd, e]
  have hown : ∀ {j : Nat} {dd : D} {x : Value}, cr = true → X j = x → OW w' g' 0 j [] dd x → RC w' (g.backB g' w.heap.size d cr X) (d + 1) j (.own dd) x := by
    intro j dd x hcr hx h
    subst hcr
    refine .own _ _ (Hd.place (w := w') (g := g') (.inl h) (fun b ρ hb => ⟨rfl, ?_⟩) (fun ρ hρ => ?_) ?_)
    · have hge : ¬ b < w.heap.size := fun hlt => by
        have h1 := hL.mi b hlt (by rw [hb]; rfl)
        have h2 := Gh.lendB_mine h1
        subst h2
        rw [hbox] at hb; cases hb
      simp [Gh.backB, hge, hb]
    · simp [Gh.backB, hρ]
    · simp [Gh.backB, hx]
  refine ⟨g.backB g' w.heap.size d cr X, ?_, fun {c j x} ho h1 h2 h => ?_, fun hcr {c j x} ho h1 hx h => ?_, fun hcr j => ?_⟩
  · refine { av := fun n => ?_, rt := fun n rt1 h => ?_, rfs := fun n r h => (by rw [hsome]; exact R.rfs n r h), rfc := fun n rt1 j r1 j1 h hj => ?_,
             bd := fun b h => ?_, sz := Nat.le_trans R.sz hL.sz, fr := fun b h hm => ?_, im := fun b k => ?_, mi := fun b h hm => ?_, sd := R.sd.trans hL.sd, pin := fun i hi => ?_ }
    · exact (R.av n).mono hkc (fun r hr => ⟨rfl, fun j p hk => ⟨by rw [← hkill]; exact hk, hhd r (R.rfs n r hr) j p⟩⟩)
    · by_cases e : n = r0
      · subst e
        simp only [upd_same, Option.some.injEq] at h
        subst h
        refine ⟨?_, vals, E, hheap, hvs, fun j c x hc hx => ?_⟩
        · show (g.backB g' w.heap.size d cr X).cl (g.bk n) = .box n
          rw [hcl3 _ (hlt _ (by rw [hcl0]; simp)), hcl0]
        · obtain ⟨h1, h2⟩ := hvc j c x hc hx
          cases h2 with
          | ro k dd _ h3 => exact .ro _ _ _ (hro (hokc _ (List.mem_of_getElem? hc)) h3)
          | own => simp [C.isRo] at h1
          | rf => simp [C.isRo] at h1
      · simp only [upd_ne e] at h
        have h1 := R.rt n rt1 h
        have hs : ((S.ms n).1).isSome := by rw [h]; rfl
        refine h1.mono hkc (fun b j ρ hb => ?_) (fun cs2 hcs => ?_) (fun j ρ => hhd n hs j ρ) (fun j r1 j1 hj => ?_)
        · have h2 := hlt b (by rw [hb]; simp)
          exact ⟨hsame b h2 (fun e2 => by subst e2; rw [hcl0] at hb; cases hb), by rw [hcl3 b h2, hb]⟩
        · subst hcs
          have h2 := h1.1
          have h3 := hlt (g.bk n) (by rw [h2]; simp)
          refine ⟨rfl, hsame _ h3 (fun e2 => ?_), by rw [hcl3 _ h3]⟩
          rw [e2, hcl0] at h2
          simp only [Cls.box.injEq] at h2
          exact e h2.symm
        · obtain ⟨cs2, h2⟩ := R.rfc n rt1 j r1 j1 h hj
          exact hhd r1 (by rw [h2]; rfl) j1 []
    · by_cases e : n = r0
      · subst e
        simp only [upd_same, Option.some.injEq] at h
        subst h
        have := (hug j _ hj).2
        simp [C.isRo] at this
      · simp only [upd_ne e] at h
        obtain ⟨cs2, h2⟩ := R.rfc n rt1 j r1 j1 h hj
        have : r1 ≠ r0 := fun e2 => by subst e2; rw [hb] at h2; cases h2
        exact ⟨cs2, by simp only [upd_ne this]; exact h2⟩
    · by_cases h1 : b < w.heap.size
      · exact Nat.lt_of_lt_of_le h1 hL.sz
      · refine hL.bd b (fun e => ?_)
        simp [Gh.backB, h1, e] at h
    · have h1 := Nat.lt_of_lt_of_le h R.sz
      rw [hsame b h1 (fun e => ?_), R.fr b h hm]
      subst e
      have := R.mi _ h (by rw [hcl0]; rfl)
      rw [this] at hm; cases hm
    · refine Iff.trans ?_ (R.im b k)
      constructor
      · intro h
        by_cases h1 : b < w.heap.size
        · rwa [hcl3 b h1] at h
        · exfalso
          simp only [Gh.backB, if_neg h1] at h
          split at h <;> first | (cases k <;> simp [kc] at h; done) | (split at h <;> cases k <;> simp [kc] at h)
      · exact fun h => (hkc b k h).2
    · have h1 := Nat.lt_of_lt_of_le h R.sz
      rw [hcl3 b h1] at hm
      exact R.mi b h hm
    · have h4 := R.pin i hi
      by_cases e : i = r0
      · subst e
        simp only [upd_same]
        rw [hb] at h4
        exact h4
      · simp only [upd_ne e]
        have hs : ((S.ms i).1).isSome := by
          revert h4
          cases (S.ms i).1 with
          | none => exact fun h => h.elim
          | some _ => exact fun _ => rfl
        have h5 := hhd i hs
        revert h4
        cases (S.ms i).1 with
        | none => exact id
        | some rt1 =>
          cases rt1 with
          | vir cs => exact fun h j1 => (h5 j1 []).trans (h j1)
          | bx cs => exact id
  · cases h with
    | ro k dd _ h => exact .ro _ _ _ (hro ho h)
    | own dd _ h =>
      simp only [C.isOwn, Bool.not_eq_false'] at h1
      refine .own _ _ ?_
      cases h <;> first | exact .int _ _ _ | exact .bool _ _ | exact .str _ _ | simp [D.scal] at h1
    | rf => simp [C.noRf] at h2
  · cases h with
    | ro k dd _ h => exact .ro _ _ _ (hro ho h)
    | own dd _ h => exact hown hcr hx h
    | rf => simp [C.noRf] at h1
  · subst hcr
    simp [Gh.backB]

theorem noPtr_ne {r : V} (h : r.noPtr = true) : ∀ cs, r ≠ .ptr cs := fun cs e => by subst e; simp [V.noPtr] at h

/-- A result that is no pointer, in the caller's eyes. -/
theorem post_np {m2 : Ms} {r : V} {v : Value} {w' : World} {g' : Gh} {lent : Bool} (hok : (r.okRes || !lent) = true) (hpl : r.plain = true) (hnp : ∀ cs, r ≠ .ptr cs) (hr : RVr w' g' r v)
    (H : ∀ (cr : Bool) (X : Nat → Value), (cr = true → (m2 d).1 = none) → ∃ g3, Rel w0 cl0 { S with ms := m2 } a.tmps w' g3 ∧
      (∀ {c : C} {j : Nat} {x : Value}, (c.okRes = true ∨ lent = false) → c.isOwn = false → c.noRf = true → RC w' g' 0 j c x → RC w' g3 (d + 1) j c x) ∧
      (cr = true → ∀ {c : C} {j : Nat} {x : Value}, (c.okRes = true ∨ lent = false) → c.noRf = true → X j = x → RC w' g' 0 j c x → RC w' g3 (d + 1) j c x) ∧
      (cr = true → ∀ j, g3.hd (d + 1) j [] = X j))
    (hn : ((imp d r).2).isSome → (m2 d).1 = none) : Post w0 cl0 S a.tmps d (imp d r).1 (imp d r).2 m2 v w' := by
  obtain ⟨hfl, hfc⟩ := RVr_cells hr hnp
  have hplf := plain_flats hpl hnp
  have hokf : ∀ c ∈ r.flats, c.okRes = true ∨ lent = false := by
    intro c hc
    rcases Bool.or_eq_true _ _ ▸ hok with h | h
    · exact .inl (List.all_eq_true.1 (okRes_flats h hnp) c hc)
    · right; simpa using h
  rw [imp_rt hnp] at hn ⊢
  by_cases hany : r.flats.any C.isOwn = true
  · rw [if_pos hany] at hn ⊢
    have hn0 := hn rfl
    obtain ⟨g3, R3, p1, p2, p3⟩ := H true (fun j => (r.vals v).getD j undef) (fun _ => hn0)
    have hcell : ∀ (j : Nat) (c : C) (x : Value), r.flats[j]? = some c → (r.vals v)[j]? = some x → RC w' g3 (d + 1) j c x := by
      intro j c x hc hx
      have h5 := hfc j c x hc hx
      rw [Nat.zero_add] at h5
      exact p2 rfl (hokf c (List.mem_of_getElem? hc)) (List.all_eq_true.1 hplf c (List.mem_of_getElem? hc)) (by simp [List.getD, hx]) h5
    refine ⟨_, R3.fresh (rt := .vir r.flats) hn0 (NewR.refl d w' g3) (fun j c hc => ?_) (fun j r1 j1 hj => ?_), ?_, fun q hq => ?_⟩
    · have hlt := lt_of_get hc
      have hx : (r.vals v)[j]? = some (r.vals v)[j] := by simp [show j < (r.vals v).length from by omega]
      have := hcell j c _ hc hx
      rw [p3 rfl j]
      simpa [List.getD, hx] using this
    · have := List.all_eq_true.1 hplf _ (List.mem_of_getElem? hj)
      simp [C.noRf] at this
    · exact imp_ok hr hnp (fun i c y hc hy => rcell_ok (hcell i c y hc hy))
    · obtain ⟨rfl, _⟩ := imp_refs hpl hnp hq
      simp [upd]
  · rw [if_neg hany] at hn ⊢
    obtain ⟨g3, R3, p1, p2, p3⟩ := H false (fun _ => undef) (fun e => by cases e)
    refine ⟨g3, R3, ?_, fun q hq => ?_⟩
    · refine imp_ok hr hnp (fun i c y hc hy => ?_)
      have h5 := hfc i c y hc hy
      have hno := List.all_eq_true.1 hplf c (List.mem_of_getElem? hc)
      rw [Nat.zero_add] at h5
      refine rcell_ok (p1 (hokf c (List.mem_of_getElem? hc)) ?_ hno h5)
      cases h8 : c.isOwn
      · rfl
      · exact absurd (List.any_eq_true.2 ⟨_, List.mem_of_getElem? hc, h8⟩) hany
    · exact absurd (imp_refs hpl hnp hq).2 hany

theorem callPostB (R : Rel w0 cl0 S a.tmps w g) {r0 : Nat} {cs cs1 : List C} {xs : List V} {args : Array Value} {us : List (Nat × Nat × C)} {w' : World} {g' : Gh} {r : V} {v : Value} {lent : Bool}
    (hb : (S.ms r0).1 = some (.bx cs)) (h0 : args[0]? = some (.pointer (some ⟨g.bk r0, 0, none⟩)))
    (hok : ((r.okRes && us.all fun u => u.2.2.okRes) || !lent) = true) (hpl : r.plain = true) (hnp : r.noPtr = true) (hr : RVr w' g' r v)
    (hL : Left w (g.lendB (g.bk r0) lent) (.ptr cs :: xs) args us w' g') (hu : usCells 0 us = some cs1) (hlen : cs1.length = cs.length) (hpos : 0 < cs.length)
    (hn : ((imp d r).2).isSome → (upd S.ms r0 (some (.bx cs1), (S.ms r0).2) d).1 = none) :
    Post w0 cl0 S a.tmps d (imp d r).1 (imp d r).2 (upd S.ms r0 (some (.bx cs1), (S.ms r0).2)) v w' := by
  have hok1 : (r.okRes || !lent) = true := by
    revert hok; cases r.okRes <;> simp
  have hokc : ∀ c ∈ cs1, c.okRes = true ∨ lent = false := by
    intro c hc
    obtain ⟨j, hj⟩ := List.mem_iff_getElem?.1 hc
    have h1 := ((usCells_get us hu).2 j c hj).1
    rcases Bool.or_eq_true _ _ ▸ hok with h | h
    · simp only [Bool.and_eq_true] at h
      exact .inl (List.all_eq_true.1 h.2 _ h1)
    · right; simpa using h
  refine post_np hok1 hpl (noPtr_ne hnp) hr (fun cr X h => callB R hb h0 hL hu hlen hpos (fun hc => ?_) hokc) hn
  have := h hc
  by_cases e : d = r0
  · subst e; simp [upd] at this
  · simpa [upd, e] using this

end
end Go.Proofs.Ytkgibccknlbiaaa.OM
