/- What the functions answer. -/
import Derived.Test.YtkgibccknlbiaaaXFDeedsLm1
set_option linter.all false
namespace Go.Proofs.Ytkgibccknlbiaaa.OM
set_option maxHeartbeats 4000000
set_option maxRecDepth 100000

theorem t203z (k0 k1 : Bool) (z : List (Int × Int)) (h : z.length ≤ 1048576)  : Gw TT 203 [.one (.ro k0 (.sl 1 (z.map (ei ∘ Prod.fst)))), .one (.ro k1 (.sl 1 (z.map (ei ∘ Prod.snd))))] = some (vb (intsZ z), []) := by
  refine Gw_of (F := pf203) rfl rfl ?_
  show Wp _ pb203 _ _
  unfold pb203
  repeat' (first
    | with_reducible (first | refine wp_seq ?_ | refine wp_blk ?_ | refine wp_skip ?_ | refine wp_exit ?_ | refine wp_ret ?_ | refine seqQ_norm ?_ | refine seqQ_ret ?_ | refine seqQ_exit ?_ | refine blkQ_norm ?_ | refine blkQ_ret ?_ | refine blkQ_exit ?_ | refine loopQ_norm ?_ | refine loopQ_exit ?_ | refine loopQ_ret ?_ | refine endQ_ret ?_ | refine endQ_norm ?_ | refine endE_ret ?_ | refine endE_norm ?_ | refine endI_ret ?_ | refine endI_norm ?_)
    | (with_reducible refine wp_regK fun K hK => ?_
       simp
       repeat' (with_reducible first | refine hK _ ?_ | (refine psel ?_ ?_ <;> (intro hc; (try rw [Decidable.not_not] at hc); first | (exfalso; omega) | (try simp [hc]))))
       all_goals (clear hK; clear K))
    | (with_reducible refine wp_condE ?_
       refine ⟨_, rfl, ?_, ?_⟩ <;> (intro hc; (try simp at hc); (all_goals first | (exfalso; omega) | skip))))
  refine wp_loopI (σ := List (Int × Int) × List (Int × Int)) (fun s => [(0, AV.v k0 (D.sl 1 (z.map (ei ∘ Prod.fst))), none), (1, AV.v k1 (D.sl 1 (z.map (ei ∘ Prod.snd))), none), (5, AV.v false (di ((s.1.length : Nat) : Int)), none)]) (fun s => z = s.1 ++ s.2 ∧ intsZ s.2 = intsZ z) (fun s => s.2.length) ([], z) (by simp) ⟨rfl, rfl⟩ ?_
  rintro ⟨pre, rest⟩ ⟨h1, h2⟩
  simp only at h1 h2
  subst h1
  simp only [List.length_append, List.length_cons] at h
  rcases rest with _ | ⟨d, rest⟩
  · unfold pl203_0
    simp only [intsZ, intEq, Bool.and_eq_true, beq_iff_eq] at h2
    repeat' (first
      | with_reducible (first | refine wp_seq ?_ | refine wp_blk ?_ | refine wp_skip ?_ | refine wp_exit ?_ | refine wp_ret ?_ | refine seqQ_norm ?_ | refine seqQ_ret ?_ | refine seqQ_exit ?_ | refine blkQ_norm ?_ | refine blkQ_ret ?_ | refine blkQ_exit ?_ | refine loopQ_norm ?_ | refine loopQ_exit ?_ | refine loopQ_ret ?_ | refine endQ_ret ?_ | refine endQ_norm ?_ | refine endE_ret ?_ | refine endE_norm ?_ | refine endI_ret ?_ | refine endI_norm ?_)
      | (with_reducible refine wp_regK fun K hK => ?_
         simp
         repeat' (with_reducible first | refine hK _ ?_ | (refine psel ?_ ?_ <;> (intro hc; (try rw [Decidable.not_not] at hc); first | (exfalso; omega) | (try simp [hc]))))
         all_goals (clear hK; clear K))
      | (with_reducible refine wp_condE ?_
         refine ⟨_, rfl, ?_, ?_⟩ <;> (intro hc; (try simp at hc); (all_goals first | (exfalso; omega) | skip))))
    all_goals first | (simp_all [pf203]; done) | (simp_all [pf203]; omega)
  · unfold pl203_0
    simp only [List.length_cons] at h
    simp only [intsZ, intEq, Bool.and_eq_true, beq_iff_eq] at h2
    have hw : IntKind.wrap .i64 ((pre.length : Int) + 1) = (pre.length : Int) + 1 := wrap_i64 (by omega) (by omega)
    repeat' (first
      | with_reducible (first | refine wp_seq ?_ | refine wp_blk ?_ | refine wp_skip ?_ | refine wp_exit ?_ | refine wp_ret ?_ | refine seqQ_norm ?_ | refine seqQ_ret ?_ | refine seqQ_exit ?_ | refine blkQ_norm ?_ | refine blkQ_ret ?_ | refine blkQ_exit ?_ | refine loopQ_norm ?_ | refine loopQ_exit ?_ | refine loopQ_ret ?_ | refine endQ_ret ?_ | refine endQ_norm ?_ | refine endE_ret ?_ | refine endE_norm ?_ | refine endI_ret ?_ | refine endI_norm ?_)
      | (with_reducible refine wp_regK fun K hK => ?_
         simp[hw]
         repeat' (with_reducible first | refine hK _ ?_ | (refine psel ?_ ?_ <;> (intro hc; (try rw [Decidable.not_not] at hc); first | (exfalso; omega) | (try simp [hc, hw]))))
         all_goals (clear hK; clear K))
      | (with_reducible refine wp_condE ?_
         refine ⟨_, rfl, ?_, ?_⟩ <;> (intro hc; (try simp at hc); (all_goals first | (exfalso; omega) | skip))))
    all_goals first | (refine ⟨(pre ++ [d], rest), ?_, ⟨?_, ?_⟩, ?_⟩; (focus (first | (simp; done) | (simp_all; done))); (focus (simp; done)); (focus (refine Eq.trans ?_ h2; clear h2; first | (simp [*]; done) | (simp_all; done) | (split <;> simp_all <;> omega) | (split <;> first | (exfalso; omega) | (simp_all; done)))); (focus (simp; done))) | (simp_all [pf203]; done) | (simp_all [pf203]; omega) | (split at h2 <;> first | (exfalso; omega) | (simp_all [pf203]; done))

@[simp] theorem t203 (k0 k1 : Bool) (l m : List Int) (h : l.length ≤ 1048576) (h1 : m.length ≤ 1048576)  : Gw TT 203 [.one (.ro k0 (.sl 1 (l.map ei))), .one (.ro k1 (.sl 1 (m.map ei)))] = some (vb (sameIntsF l m), []) := by
  by_cases hl : l.length = m.length
  · obtain ⟨z, rfl, rfl⟩ := zip_ex l m hl
    have := t203z k0 k1 z (by simpa using h) 
    simp only [sameIntsF, hl, if_true, zip_map, List.map_map]
    exact this
  · refine Gw_of (F := pf203) rfl rfl ?_
    show Wp _ pb203 _ _
    unfold pb203
    repeat' (first
      | with_reducible (first | refine wp_seq ?_ | refine wp_blk ?_ | refine wp_skip ?_ | refine wp_exit ?_ | refine wp_ret ?_ | refine seqQ_norm ?_ | refine seqQ_ret ?_ | refine seqQ_exit ?_ | refine blkQ_norm ?_ | refine blkQ_ret ?_ | refine blkQ_exit ?_ | refine loopQ_norm ?_ | refine loopQ_exit ?_ | refine loopQ_ret ?_ | refine endQ_ret ?_ | refine endQ_norm ?_ | refine endE_ret ?_ | refine endE_norm ?_ | refine endI_ret ?_ | refine endI_norm ?_)
      | (with_reducible refine wp_regK fun K hK => ?_
         simp
         repeat' (with_reducible first | refine hK _ ?_ | (refine psel ?_ ?_ <;> (intro hc; (try rw [Decidable.not_not] at hc); first | (exfalso; omega) | (try simp [hc]))))
         all_goals (clear hK; clear K))
      | (with_reducible refine wp_condE ?_
         refine ⟨_, rfl, ?_, ?_⟩ <;> (intro hc; (try simp at hc); (all_goals first | (exfalso; omega) | skip))))
    all_goals first | (simp_all [pf203, sameIntsF]; done) | (exfalso; omega)

theorem t209z (k0 k1 : Bool) (z : List (XVal × XVal)) (h : z.length ≤ 1048576)  : Gw TT 209 [.one (.ro k0 (.sl 3 (z.map (XVal.e ∘ Prod.fst)))), .one (.ro k1 (.sl 3 (z.map (XVal.e ∘ Prod.snd))))] = some (vb (valsZ z), []) := by
  refine Gw_of (F := pf209) rfl rfl ?_
  show Wp _ pb209 _ _
  unfold pb209
  repeat' (first
    | with_reducible (first | refine wp_seq ?_ | refine wp_blk ?_ | refine wp_skip ?_ | refine wp_exit ?_ | refine wp_ret ?_ | refine seqQ_norm ?_ | refine seqQ_ret ?_ | refine seqQ_exit ?_ | refine blkQ_norm ?_ | refine blkQ_ret ?_ | refine blkQ_exit ?_ | refine loopQ_norm ?_ | refine loopQ_exit ?_ | refine loopQ_ret ?_ | refine endQ_ret ?_ | refine endQ_norm ?_ | refine endE_ret ?_ | refine endE_norm ?_ | refine endI_ret ?_ | refine endI_norm ?_)
    | (with_reducible refine wp_regK fun K hK => ?_
       simp
       repeat' (with_reducible first | refine hK _ ?_ | (refine psel ?_ ?_ <;> (intro hc; (try rw [Decidable.not_not] at hc); first | (exfalso; omega) | (try simp [hc]))))
       all_goals (clear hK; clear K))
    | (with_reducible refine wp_condE ?_
       refine ⟨_, rfl, ?_, ?_⟩ <;> (intro hc; (try simp at hc); (all_goals first | (exfalso; omega) | skip))))
  refine wp_loopI (σ := List (XVal × XVal) × List (XVal × XVal)) (fun s => [(0, AV.v k0 (D.sl 3 (z.map (XVal.e ∘ Prod.fst))), none), (1, AV.v k1 (D.sl 3 (z.map (XVal.e ∘ Prod.snd))), none), (5, AV.v false (di ((s.1.length : Nat) : Int)), none)]) (fun s => z = s.1 ++ s.2 ∧ valsZ s.2 = valsZ z) (fun s => s.2.length) ([], z) (by simp) ⟨rfl, rfl⟩ ?_
  rintro ⟨pre, rest⟩ ⟨h1, h2⟩
  simp only at h1 h2
  subst h1
  simp only [List.length_append, List.length_cons] at h
  rcases rest with _ | ⟨d, rest⟩
  · unfold pl209_0
    simp only [valsZ, valEq, Bool.and_eq_true, beq_iff_eq] at h2
    repeat' (first
      | with_reducible (first | refine wp_seq ?_ | refine wp_blk ?_ | refine wp_skip ?_ | refine wp_exit ?_ | refine wp_ret ?_ | refine seqQ_norm ?_ | refine seqQ_ret ?_ | refine seqQ_exit ?_ | refine blkQ_norm ?_ | refine blkQ_ret ?_ | refine blkQ_exit ?_ | refine loopQ_norm ?_ | refine loopQ_exit ?_ | refine loopQ_ret ?_ | refine endQ_ret ?_ | refine endQ_norm ?_ | refine endE_ret ?_ | refine endE_norm ?_ | refine endI_ret ?_ | refine endI_norm ?_)
      | (with_reducible refine wp_regK fun K hK => ?_
         simp
         repeat' (with_reducible first | refine hK _ ?_ | (refine psel ?_ ?_ <;> (intro hc; (try rw [Decidable.not_not] at hc); first | (exfalso; omega) | (try simp [hc]))))
         all_goals (clear hK; clear K))
      | (with_reducible refine wp_condE ?_
         refine ⟨_, rfl, ?_, ?_⟩ <;> (intro hc; (try simp at hc); (all_goals first | (exfalso; omega) | skip))))
    all_goals first | (simp_all [pf209]; done) | (simp_all [pf209]; omega)
  · unfold pl209_0
    simp only [List.length_cons] at h
    simp only [valsZ, valEq, Bool.and_eq_true, beq_iff_eq] at h2
    have hw : IntKind.wrap .i64 ((pre.length : Int) + 1) = (pre.length : Int) + 1 := wrap_i64 (by omega) (by omega)
    repeat' (first
      | with_reducible (first | refine wp_seq ?_ | refine wp_blk ?_ | refine wp_skip ?_ | refine wp_exit ?_ | refine wp_ret ?_ | refine seqQ_norm ?_ | refine seqQ_ret ?_ | refine seqQ_exit ?_ | refine blkQ_norm ?_ | refine blkQ_ret ?_ | refine blkQ_exit ?_ | refine loopQ_norm ?_ | refine loopQ_exit ?_ | refine loopQ_ret ?_ | refine endQ_ret ?_ | refine endQ_norm ?_ | refine endE_ret ?_ | refine endE_norm ?_ | refine endI_ret ?_ | refine endI_norm ?_)
      | (with_reducible refine wp_regK fun K hK => ?_
         simp[hw]
         repeat' (with_reducible first | refine hK _ ?_ | (refine psel ?_ ?_ <;> (intro hc; (try rw [Decidable.not_not] at hc); first | (exfalso; omega) | (try simp [hc, hw]))))
         all_goals (clear hK; clear K))
      | (with_reducible refine wp_condE ?_
         refine ⟨_, rfl, ?_, ?_⟩ <;> (intro hc; (try simp at hc); (all_goals first | (exfalso; omega) | skip))))
    all_goals first | (refine ⟨(pre ++ [d], rest), ?_, ⟨?_, ?_⟩, ?_⟩; (focus (first | (simp; done) | (simp_all; done))); (focus (simp; done)); (focus (refine Eq.trans ?_ h2; clear h2; first | (simp [*]; done) | (simp_all; done) | (split <;> simp_all <;> omega) | (split <;> first | (exfalso; omega) | (simp_all; done)))); (focus (simp; done))) | (simp_all [pf209]; done) | (simp_all [pf209]; omega) | (split at h2 <;> first | (exfalso; omega) | (simp_all [pf209]; done))

@[simp] theorem u209 (k0 k1 : Bool) (l m : List XVal) (h : l.length ≤ 1048576) (h1 : m.length ≤ 1048576)  : Gw TT 209 [.one (.ro k0 (.sl 3 (l.map XVal.e))), .one (.ro k1 (.sl 3 (m.map XVal.e)))] = some (vb (sameValsF l m), []) := by
  by_cases hl : l.length = m.length
  · obtain ⟨z, rfl, rfl⟩ := zip_ex l m hl
    have := t209z k0 k1 z (by simpa using h) 
    simp only [sameValsF, hl, if_true, zip_map, List.map_map]
    exact this
  · refine Gw_of (F := pf209) rfl rfl ?_
    show Wp _ pb209 _ _
    unfold pb209
    repeat' (first
      | with_reducible (first | refine wp_seq ?_ | refine wp_blk ?_ | refine wp_skip ?_ | refine wp_exit ?_ | refine wp_ret ?_ | refine seqQ_norm ?_ | refine seqQ_ret ?_ | refine seqQ_exit ?_ | refine blkQ_norm ?_ | refine blkQ_ret ?_ | refine blkQ_exit ?_ | refine loopQ_norm ?_ | refine loopQ_exit ?_ | refine loopQ_ret ?_ | refine endQ_ret ?_ | refine endQ_norm ?_ | refine endE_ret ?_ | refine endE_norm ?_ | refine endI_ret ?_ | refine endI_norm ?_)
      | (with_reducible refine wp_regK fun K hK => ?_
         simp
         repeat' (with_reducible first | refine hK _ ?_ | (refine psel ?_ ?_ <;> (intro hc; (try rw [Decidable.not_not] at hc); first | (exfalso; omega) | (try simp [hc]))))
         all_goals (clear hK; clear K))
      | (with_reducible refine wp_condE ?_
         refine ⟨_, rfl, ?_, ?_⟩ <;> (intro hc; (try simp at hc); (all_goals first | (exfalso; omega) | skip))))
    all_goals first | (simp_all [pf209, sameValsF]; done) | (exfalso; omega)

def SamePredC (x y : XPred) : Prop := ∀ k0 k1 : Bool, x.sm → y.sm → Gw TT 204 [.st [.ro false (di x.Kind), .ro false (di x.Col), .ro false (di x.Op), .ro false (di x.V.Ty), .ro false (di x.V.N), .ro false (.str x.V.S), .ro k0 (.sl 7 (x.L.map XPred.e))], .st [.ro false (di y.Kind), .ro false (di y.Col), .ro false (di y.Op), .ro false (di y.V.Ty), .ro false (di y.V.N), .ro false (.str y.V.S), .ro k1 (.sl 7 (y.L.map XPred.e))]] = some (vb (predEq x y), [])

theorem SamePredC_of (x y : XPred) (IH : ∀ a ∈ x.L, ∀ b ∈ y.L, SamePredC a b) : SamePredC x y := by
  intro k0 k1 hx hy
  obtain ⟨x_Kind, x_Col, x_Op, ⟨x_V_Ty, x_V_N, x_V_S⟩, x_L⟩ := x
  obtain ⟨y_Kind, y_Col, y_Op, ⟨y_V_Ty, y_V_N, y_V_S⟩, y_L⟩ := y
  simp only [XPred.sm_eq, XVal.sm, and_assoc] at hx hy
  obtain ⟨_, hxl, hxs⟩ := hx
  obtain ⟨_, hyl, hys⟩ := hy
  refine Gw_of (F := pf204) rfl rfl ?_
  show Wp _ pb204 _ _
  unfold pb204
  by_cases hh : x_Kind = y_Kind ∧ x_Col = y_Col ∧ x_Op = y_Op ∧ x_V_Ty = y_V_Ty ∧ x_V_N = y_V_N ∧ x_V_S.toList = y_V_S.toList ∧ x_L.length = y_L.length
  · obtain ⟨rfl, rfl, rfl, rfl, rfl, hs, hl⟩ := hh
    obtain ⟨z, rfl, rfl⟩ := zip_ex x_L y_L hl
    simp only at IH
    simp only [List.length_map] at hxl hl
    clear hyl hl
    repeat' (first
      | with_reducible (first | refine wp_seq ?_ | refine wp_blk ?_ | refine wp_skip ?_ | refine wp_exit ?_ | refine wp_ret ?_ | refine seqQ_norm ?_ | refine seqQ_ret ?_ | refine seqQ_exit ?_ | refine blkQ_norm ?_ | refine blkQ_ret ?_ | refine blkQ_exit ?_ | refine loopQ_norm ?_ | refine loopQ_exit ?_ | refine loopQ_ret ?_ | refine endQ_ret ?_ | refine endQ_norm ?_ | refine endE_ret ?_ | refine endE_norm ?_ | refine endI_ret ?_ | refine endI_norm ?_)
      | (with_reducible refine wp_regK fun K hK => ?_
         simp[hs]
         repeat' (with_reducible first | refine hK _ ?_ | (refine psel ?_ ?_ <;> (intro hc; (try rw [Decidable.not_not] at hc); first | (exfalso; omega) | (try simp [hc, hs]))))
         all_goals (clear hK; clear K))
      | (with_reducible refine wp_condE ?_
         refine ⟨_, rfl, ?_, ?_⟩ <;> (intro hc; (try simp at hc); (all_goals first | (exfalso; omega) | skip))))
    refine wp_loopI (σ := List (XPred × XPred) × List (XPred × XPred)) (fun s => [(2, AV.bx 2 0, some (Rt.bx [.ro false (di x_Kind), .ro false (di x_Col), .ro false (di x_Op), .ro false (di x_V_Ty), .ro false (di x_V_N), .ro false (.str x_V_S), .ro k0 (.sl 7 (z.map (XPred.e ∘ Prod.fst)))])), (3, AV.bx 3 0, some (Rt.bx [.ro false (di x_Kind), .ro false (di x_Col), .ro false (di x_Op), .ro false (di x_V_Ty), .ro false (di x_V_N), .ro false (.str y_V_S), .ro k1 (.sl 7 (z.map (XPred.e ∘ Prod.snd)))])), (5, AV.v false (di ((s.1.length : Nat) : Int)), none)]) (fun s => z = s.1 ++ s.2 ∧ predsEq (s.2.map Prod.fst) (s.2.map Prod.snd) = predsEq (z.map Prod.fst) (z.map Prod.snd)) (fun s => s.2.length) ([], z) (by simp) ⟨rfl, rfl⟩ ?_
    rintro ⟨pre, rest⟩ ⟨h1, h2⟩
    simp only at h1 h2
    subst h1
    simp only [List.length_append, List.length_cons] at hxl
    rcases rest with _ | ⟨d, rest⟩
    · unfold pl204_0
      simp only [predsEq, List.map_nil] at h2
      repeat' (first
        | with_reducible (first | refine wp_seq ?_ | refine wp_blk ?_ | refine wp_skip ?_ | refine wp_exit ?_ | refine wp_ret ?_ | refine seqQ_norm ?_ | refine seqQ_ret ?_ | refine seqQ_exit ?_ | refine blkQ_norm ?_ | refine blkQ_ret ?_ | refine blkQ_exit ?_ | refine loopQ_norm ?_ | refine loopQ_exit ?_ | refine loopQ_ret ?_ | refine endQ_ret ?_ | refine endQ_norm ?_ | refine endE_ret ?_ | refine endE_norm ?_ | refine endI_ret ?_ | refine endI_norm ?_)
        | (with_reducible refine wp_regK fun K hK => ?_
           simp
           repeat' (with_reducible first | refine hK _ ?_ | (refine psel ?_ ?_ <;> (intro hc; (try rw [Decidable.not_not] at hc); first | (exfalso; omega) | (try simp [hc]))))
           all_goals (clear hK; clear K))
        | (with_reducible refine wp_condE ?_
           refine ⟨_, rfl, ?_, ?_⟩ <;> (intro hc; (try simp at hc); (all_goals first | (exfalso; omega) | skip))))
      all_goals simp_all [pf204, predEq, valEq]
    · unfold pl204_0
      simp only [List.length_cons] at hxl
      simp only [predsEq, List.map_cons] at h2
      have hw : IntKind.wrap .i64 ((pre.length : Int) + 1) = (pre.length : Int) + 1 := wrap_i64 (by omega) (by omega)
      have ih := IH d.1 (by simp) d.2 (by simp) k0 k1 (XPred.sms_mem hxs d.1 (by simp)) (XPred.sms_mem hys d.2 (by simp))
      repeat' (first
        | with_reducible (first | refine wp_seq ?_ | refine wp_blk ?_ | refine wp_skip ?_ | refine wp_exit ?_ | refine wp_ret ?_ | refine seqQ_norm ?_ | refine seqQ_ret ?_ | refine seqQ_exit ?_ | refine blkQ_norm ?_ | refine blkQ_ret ?_ | refine blkQ_exit ?_ | refine loopQ_norm ?_ | refine loopQ_exit ?_ | refine loopQ_ret ?_ | refine endQ_ret ?_ | refine endQ_norm ?_ | refine endE_ret ?_ | refine endE_norm ?_ | refine endI_ret ?_ | refine endI_norm ?_)
        | (with_reducible refine wp_regK fun K hK => ?_
           simp[hw, ih]
           repeat' (with_reducible first | refine hK _ ?_ | (refine psel ?_ ?_ <;> (intro hc; (try rw [Decidable.not_not] at hc); first | (exfalso; omega) | (try simp [hc, hw, ih]))))
           all_goals (clear hK; clear K))
        | (with_reducible refine wp_condE ?_
           refine ⟨_, rfl, ?_, ?_⟩ <;> (intro hc; (try simp at hc); (all_goals first | (exfalso; omega) | skip))))
      all_goals first | (refine ⟨(pre ++ [d], rest), ?_, ⟨?_, ?_⟩, ?_⟩; (focus (first | (simp; done) | (simp_all; done))); (focus (simp; done)); (focus (refine Eq.trans ?_ h2; clear h2; simp_all; done)); (focus (simp; done))) | (simp_all [pf204, predEq, valEq]; done)
  · have hf : predEq ⟨x_Kind, x_Col, x_Op, ⟨x_V_Ty, x_V_N, x_V_S⟩, x_L⟩ ⟨y_Kind, y_Col, y_Op, ⟨y_V_Ty, y_V_N, y_V_S⟩, y_L⟩ = false := by
      by_cases hl : x_L.length = y_L.length
      · simp only [predEq, valEq]
        rw [Bool.eq_false_iff]
        intro hq
        simp only [Bool.and_eq_true, beq_iff_eq] at hq
        exact hh ⟨hq.1, hq.2.1, hq.2.2.1, hq.2.2.2.1.1, hq.2.2.2.1.2.1, hq.2.2.2.1.2.2, hl⟩
      · simp [predEq, predsEq_len _ _ hl]
    repeat' (first
      | with_reducible (first | refine wp_seq ?_ | refine wp_blk ?_ | refine wp_skip ?_ | refine wp_exit ?_ | refine wp_ret ?_ | refine seqQ_norm ?_ | refine seqQ_ret ?_ | refine seqQ_exit ?_ | refine blkQ_norm ?_ | refine blkQ_ret ?_ | refine blkQ_exit ?_ | refine loopQ_norm ?_ | refine loopQ_exit ?_ | refine loopQ_ret ?_ | refine endQ_ret ?_ | refine endQ_norm ?_ | refine endE_ret ?_ | refine endE_norm ?_ | refine endI_ret ?_ | refine endI_norm ?_)
      | (with_reducible refine wp_regK fun K hK => ?_
         simp
         repeat' (with_reducible first | refine hK _ ?_ | (refine psel ?_ ?_ <;> (intro hc; (try rw [Decidable.not_not] at hc); first | (exfalso; omega) | (try simp [hc]))))
         all_goals (clear hK; clear K))
      | (with_reducible refine wp_condE ?_
         refine ⟨_, rfl, ?_, ?_⟩ <;> (intro hc; (try simp at hc); (all_goals first | (exfalso; omega) | skip))))
    all_goals first | (simp [pf204, hf]; done) | (exfalso; have q : ¬(¬x_V_Ty = y_V_Ty ∨ ¬x_V_N = y_V_N ∨ ¬x_V_S.toList = y_V_S.toList) := (by assumption); exact hh ⟨by assumption, by assumption, by assumption, Classical.byContradiction fun e => q (.inl e), Classical.byContradiction fun e => q (.inr (.inl e)), Classical.byContradiction fun e => q (.inr (.inr e)), by omega⟩)

theorem SamePredC_all (x y : XPred) : SamePredC x y :=
  SamePredC_of x y fun a ha b _ => SamePredC_all a b
termination_by SizeOf.sizeOf x
decreasing_by
  have h1 := List.sizeOf_lt_of_mem ha
  have h2 : SizeOf.sizeOf x.L < SizeOf.sizeOf x := by cases x; simp; omega
  omega

@[simp] theorem t204 (k0 k1 : Bool) (x_Kind : Int) (x_Col : Int) (x_Op : Int) (x_V_Ty : Int) (x_V_N : Int) (x_V_S : ByteArray) (x_L : List XPred) (y_Kind : Int) (y_Col : Int) (y_Op : Int) (y_V_Ty : Int) (y_V_N : Int) (y_V_S : ByteArray) (y_L : List XPred) (hv : x_V_S.size ≤ 1048576) (hxl : x_L.length ≤ 1048576) (hxs : XPred.sms x_L) (hw : y_V_S.size ≤ 1048576) (hyl : y_L.length ≤ 1048576) (hys : XPred.sms y_L) :
    Gw TT 204 [.st [.ro false (di x_Kind), .ro false (di x_Col), .ro false (di x_Op), .ro false (di x_V_Ty), .ro false (di x_V_N), .ro false (.str x_V_S), .ro k0 (.sl 7 (x_L.map XPred.e))], .st [.ro false (di y_Kind), .ro false (di y_Col), .ro false (di y_Op), .ro false (di y_V_Ty), .ro false (di y_V_N), .ro false (.str y_V_S), .ro k1 (.sl 7 (y_L.map XPred.e))]] = some (vb (predEq ⟨x_Kind, x_Col, x_Op, ⟨x_V_Ty, x_V_N, x_V_S⟩, x_L⟩ ⟨y_Kind, y_Col, y_Op, ⟨y_V_Ty, y_V_N, y_V_S⟩, y_L⟩), []) :=
  SamePredC_all ⟨x_Kind, x_Col, x_Op, ⟨x_V_Ty, x_V_N, x_V_S⟩, x_L⟩ ⟨y_Kind, y_Col, y_Op, ⟨y_V_Ty, y_V_N, y_V_S⟩, y_L⟩ k0 k1 (by simp only [XPred.sm_eq, XVal.sm]; exact ⟨hv, hxl, hxs⟩) (by simp only [XPred.sm_eq, XVal.sm]; exact ⟨hw, hyl, hys⟩)

@[simp] theorem t205 (k0 k1 : Bool) (x_Kind : Int) (x_P_Kind : Int) (x_P_Col : Int) (x_P_Op : Int) (x_P_V_Ty : Int) (x_P_V_N : Int) (x_P_V_S : ByteArray) (x_P_L : List XPred) (x_Col : Int) (x_Out : List Int) (y_Kind : Int) (y_P_Kind : Int) (y_P_Col : Int) (y_P_Op : Int) (y_P_V_Ty : Int) (y_P_V_N : Int) (y_P_V_S : ByteArray) (y_P_L : List XPred) (y_Col : Int) (y_Out : List Int) (hsm_x_P_V_S : x_P_V_S.size ≤ 1048576) (hsm_x_P_L : x_P_L.length ≤ 1048576) (hsms_x_P_L : XPred.sms x_P_L) (hsm_x_Out : x_Out.length ≤ 1048576) (hsm_y_P_V_S : y_P_V_S.size ≤ 1048576) (hsm_y_P_L : y_P_L.length ≤ 1048576) (hsms_y_P_L : XPred.sms y_P_L) (hsm_y_Out : y_Out.length ≤ 1048576) : Gw TT 205 [.st [.ro false (di x_Kind), .ro false (di x_P_Kind), .ro false (di x_P_Col), .ro false (di x_P_Op), .ro false (di x_P_V_Ty), .ro false (di x_P_V_N), .ro false (.str x_P_V_S), .ro k0 (.sl 7 (x_P_L.map XPred.e)), .ro false (di x_Col), .ro k0 (.sl 1 (x_Out.map ei))], .st [.ro false (di y_Kind), .ro false (di y_P_Kind), .ro false (di y_P_Col), .ro false (di y_P_Op), .ro false (di y_P_V_Ty), .ro false (di y_P_V_N), .ro false (.str y_P_V_S), .ro k1 (.sl 7 (y_P_L.map XPred.e)), .ro false (di y_Col), .ro k1 (.sl 1 (y_Out.map ei))]] = some (vb (queryEq ⟨x_Kind, ⟨x_P_Kind, x_P_Col, x_P_Op, ⟨x_P_V_Ty, x_P_V_N, x_P_V_S⟩, x_P_L⟩, x_Col, x_Out⟩ ⟨y_Kind, ⟨y_P_Kind, y_P_Col, y_P_Op, ⟨y_P_V_Ty, y_P_V_N, y_P_V_S⟩, y_P_L⟩, y_Col, y_Out⟩), []) := by
  refine Gw_of (F := pf205) rfl rfl ?_
  show Wp _ pb205 _ _
  unfold pb205
  repeat' (first
    | with_reducible (first | refine wp_seq ?_ | refine wp_blk ?_ | refine wp_skip ?_ | refine wp_exit ?_ | refine wp_ret ?_ | refine seqQ_norm ?_ | refine seqQ_ret ?_ | refine seqQ_exit ?_ | refine blkQ_norm ?_ | refine blkQ_ret ?_ | refine blkQ_exit ?_ | refine loopQ_norm ?_ | refine loopQ_exit ?_ | refine loopQ_ret ?_ | refine endQ_ret ?_ | refine endQ_norm ?_ | refine endE_ret ?_ | refine endE_norm ?_ | refine endI_ret ?_ | refine endI_norm ?_)
    | (with_reducible refine wp_regK fun K hK => ?_
       simp[hsm_x_P_V_S, hsm_x_P_L, hsms_x_P_L, hsm_x_Out, hsm_y_P_V_S, hsm_y_P_L, hsms_y_P_L, hsm_y_Out]
       repeat' (with_reducible first | refine hK _ ?_ | (refine psel ?_ ?_ <;> (intro hc; (try rw [Decidable.not_not] at hc); first | (exfalso; omega) | (try simp [hc, hsm_x_P_V_S, hsm_x_P_L, hsms_x_P_L, hsm_x_Out, hsm_y_P_V_S, hsm_y_P_L, hsms_y_P_L, hsm_y_Out]))))
       all_goals (clear hK; clear K))
    | (with_reducible refine wp_condE ?_
       refine ⟨_, rfl, ?_, ?_⟩ <;> (intro hc; (try simp at hc); (all_goals first | (exfalso; omega) | skip))))
  all_goals first | (simp_all [pf205, queryEq]; done) | (simp [pf205, queryEq, *]; done)

theorem sameRows_nil (k0 k1 : Bool) : Gw TT 208 [.one (.ro k0 (.sl 2 [])), .one (.ro k1 (.sl 2 []))] = some (vb true, []) := by
  have := t208 k0 k1 [] (by simp) (fun y hy => by simp at hy)
  simpa using this

@[simp] theorem t207 (k0 k1 : Bool) (x_Rows : List XRow) (x_N : Int) (x_Has : Bool) (x_V_Ty : Int) (x_V_N : Int) (x_V_S : ByteArray) (y_Rows : List XRow) (y_N : Int) (y_Has : Bool) (y_V_Ty : Int) (y_V_N : Int) (y_V_S : ByteArray) (hx0 : x_Rows = []) (hy0 : y_Rows = []) (hsm_x_Rows : x_Rows.length ≤ 1048576) (hsms_x_Rows : XRow.sms x_Rows) (hsm_x_V_S : x_V_S.size ≤ 1048576) (hsm_y_Rows : y_Rows.length ≤ 1048576) (hsms_y_Rows : XRow.sms y_Rows) (hsm_y_V_S : y_V_S.size ≤ 1048576) : Gw TT 207 [.st [.ro k0 (.sl 2 (x_Rows.map XRow.e)), .ro false (di x_N), .ro false (.bool x_Has), .ro false (di x_V_Ty), .ro false (di x_V_N), .ro false (.str x_V_S)], .st [.ro k1 (.sl 2 (y_Rows.map XRow.e)), .ro false (di y_N), .ro false (.bool y_Has), .ro false (di y_V_Ty), .ro false (di y_V_N), .ro false (.str y_V_S)]] = some (vb (resultEq ⟨x_Rows, x_N, x_Has, ⟨x_V_Ty, x_V_N, x_V_S⟩⟩ ⟨y_Rows, y_N, y_Has, ⟨y_V_Ty, y_V_N, y_V_S⟩⟩), []) := by
  refine Gw_of (F := pf207) rfl rfl ?_
  show Wp _ pb207 _ _
  unfold pb207
  subst hx0 hy0
  repeat' (first
    | with_reducible (first | refine wp_seq ?_ | refine wp_blk ?_ | refine wp_skip ?_ | refine wp_exit ?_ | refine wp_ret ?_ | refine seqQ_norm ?_ | refine seqQ_ret ?_ | refine seqQ_exit ?_ | refine blkQ_norm ?_ | refine blkQ_ret ?_ | refine blkQ_exit ?_ | refine loopQ_norm ?_ | refine loopQ_exit ?_ | refine loopQ_ret ?_ | refine endQ_ret ?_ | refine endQ_norm ?_ | refine endE_ret ?_ | refine endE_norm ?_ | refine endI_ret ?_ | refine endI_norm ?_)
    | (with_reducible refine wp_regK fun K hK => ?_
       simp[sameRows_nil, hsm_x_Rows, hsms_x_Rows, hsm_x_V_S, hsm_y_Rows, hsms_y_Rows, hsm_y_V_S]
       repeat' (with_reducible first | refine hK _ ?_ | (refine psel ?_ ?_ <;> (intro hc; (try rw [Decidable.not_not] at hc); first | (exfalso; omega) | (try simp [hc, sameRows_nil, hsm_x_Rows, hsms_x_Rows, hsm_x_V_S, hsm_y_Rows, hsms_y_Rows, hsm_y_V_S]))))
       all_goals (clear hK; clear K))
    | (with_reducible refine wp_condE ?_
       refine ⟨_, rfl, ?_, ?_⟩ <;> (intro hc; (try simp at hc); (all_goals first | (exfalso; omega) | skip))))
  all_goals first | (simp_all [pf207, resultEq, valEq, sameRowsF, rowsZ]; done) | (simp [pf207, resultEq, valEq, sameRowsF, rowsZ, *]; done)

theorem sameResult_nil (k0 k1 : Bool) (x_N y_N : Int) (x_Has y_Has : Bool) (x_V_Ty y_V_Ty : Int) (x_V_N y_V_N : Int) (x_V_S y_V_S : ByteArray) (hv : x_V_S.size ≤ 1048576) (hw : y_V_S.size ≤ 1048576) : Gw TT 207 [.st [.ro k0 (.sl 2 []), .ro false (di x_N), .ro false (.bool x_Has), .ro false (di x_V_Ty), .ro false (di x_V_N), .ro false (.str x_V_S)], .st [.ro k1 (.sl 2 []), .ro false (di y_N), .ro false (.bool y_Has), .ro false (di y_V_Ty), .ro false (di y_V_N), .ro false (.str y_V_S)]] = some (vb (resultEq ⟨[], x_N, x_Has, ⟨x_V_Ty, x_V_N, x_V_S⟩⟩ ⟨[], y_N, y_Has, ⟨y_V_Ty, y_V_N, y_V_S⟩⟩), []) := by
  have := t207 k0 k1 [] x_N x_Has x_V_Ty x_V_N x_V_S [] y_N y_Has y_V_Ty y_V_N y_V_S rfl rfl (by simp) (fun y hy => by simp at hy) hv (by simp) (fun y hy => by simp at hy) hw
  simpa using this

@[simp] theorem t201 (k0 k1 : Bool) (x_Op : Int) (x_Task : Int) (x_R : List XVal) (x_Id : Int) (x_Q_Kind : Int) (x_Q_P_Kind : Int) (x_Q_P_Col : Int) (x_Q_P_Op : Int) (x_Q_P_V_Ty : Int) (x_Q_P_V_N : Int) (x_Q_P_V_S : ByteArray) (x_Q_P_L : List XPred) (x_Q_Col : Int) (x_Q_Out : List Int) (x_Res_Rows : List XRow) (x_Res_N : Int) (x_Res_Has : Bool) (x_Res_V_Ty : Int) (x_Res_V_N : Int) (x_Res_V_S : ByteArray) (x_Code : Int) (x_Stamp : Int) (x_Inv : Int) (x_Lin : Int) (x_Ret : Int) (y_Op : Int) (y_Task : Int) (y_R : List XVal) (y_Id : Int) (y_Q_Kind : Int) (y_Q_P_Kind : Int) (y_Q_P_Col : Int) (y_Q_P_Op : Int) (y_Q_P_V_Ty : Int) (y_Q_P_V_N : Int) (y_Q_P_V_S : ByteArray) (y_Q_P_L : List XPred) (y_Q_Col : Int) (y_Q_Out : List Int) (y_Res_Rows : List XRow) (y_Res_N : Int) (y_Res_Has : Bool) (y_Res_V_Ty : Int) (y_Res_V_N : Int) (y_Res_V_S : ByteArray) (y_Code : Int) (y_Stamp : Int) (y_Inv : Int) (y_Lin : Int) (y_Ret : Int) (hx0 : x_Res_Rows = []) (hy0 : y_Res_Rows = []) (hsm_x_R : x_R.length ≤ 1048576) (hsms_x_R : XVal.sms x_R) (hsm_x_Q_P_V_S : x_Q_P_V_S.size ≤ 1048576) (hsm_x_Q_P_L : x_Q_P_L.length ≤ 1048576) (hsms_x_Q_P_L : XPred.sms x_Q_P_L) (hsm_x_Q_Out : x_Q_Out.length ≤ 1048576) (hsm_x_Res_Rows : x_Res_Rows.length ≤ 1048576) (hsms_x_Res_Rows : XRow.sms x_Res_Rows) (hsm_x_Res_V_S : x_Res_V_S.size ≤ 1048576) (hsm_y_R : y_R.length ≤ 1048576) (hsms_y_R : XVal.sms y_R) (hsm_y_Q_P_V_S : y_Q_P_V_S.size ≤ 1048576) (hsm_y_Q_P_L : y_Q_P_L.length ≤ 1048576) (hsms_y_Q_P_L : XPred.sms y_Q_P_L) (hsm_y_Q_Out : y_Q_Out.length ≤ 1048576) (hsm_y_Res_Rows : y_Res_Rows.length ≤ 1048576) (hsms_y_Res_Rows : XRow.sms y_Res_Rows) (hsm_y_Res_V_S : y_Res_V_S.size ≤ 1048576) : Gw TT 201 [.st [.ro false (di x_Op), .ro false (di x_Task), .ro k0 (.sl 3 (x_R.map XVal.e)), .ro false (di x_Id), .ro false (di x_Q_Kind), .ro false (di x_Q_P_Kind), .ro false (di x_Q_P_Col), .ro false (di x_Q_P_Op), .ro false (di x_Q_P_V_Ty), .ro false (di x_Q_P_V_N), .ro false (.str x_Q_P_V_S), .ro k0 (.sl 7 (x_Q_P_L.map XPred.e)), .ro false (di x_Q_Col), .ro k0 (.sl 1 (x_Q_Out.map ei)), .ro k0 (.sl 2 (x_Res_Rows.map XRow.e)), .ro false (di x_Res_N), .ro false (.bool x_Res_Has), .ro false (di x_Res_V_Ty), .ro false (di x_Res_V_N), .ro false (.str x_Res_V_S), .ro false (di x_Code), .ro false (di x_Stamp), .ro false (di x_Inv), .ro false (di x_Lin), .ro false (di x_Ret)], .st [.ro false (di y_Op), .ro false (di y_Task), .ro k1 (.sl 3 (y_R.map XVal.e)), .ro false (di y_Id), .ro false (di y_Q_Kind), .ro false (di y_Q_P_Kind), .ro false (di y_Q_P_Col), .ro false (di y_Q_P_Op), .ro false (di y_Q_P_V_Ty), .ro false (di y_Q_P_V_N), .ro false (.str y_Q_P_V_S), .ro k1 (.sl 7 (y_Q_P_L.map XPred.e)), .ro false (di y_Q_Col), .ro k1 (.sl 1 (y_Q_Out.map ei)), .ro k1 (.sl 2 (y_Res_Rows.map XRow.e)), .ro false (di y_Res_N), .ro false (.bool y_Res_Has), .ro false (di y_Res_V_Ty), .ro false (di y_Res_V_N), .ro false (.str y_Res_V_S), .ro false (di y_Code), .ro false (di y_Stamp), .ro false (di y_Inv), .ro false (di y_Lin), .ro false (di y_Ret)]] = some (vb (deedEq ⟨x_Op, x_Task, x_R, x_Id, ⟨x_Q_Kind, ⟨x_Q_P_Kind, x_Q_P_Col, x_Q_P_Op, ⟨x_Q_P_V_Ty, x_Q_P_V_N, x_Q_P_V_S⟩, x_Q_P_L⟩, x_Q_Col, x_Q_Out⟩, ⟨x_Res_Rows, x_Res_N, x_Res_Has, ⟨x_Res_V_Ty, x_Res_V_N, x_Res_V_S⟩⟩, x_Code, x_Stamp, x_Inv, x_Lin, x_Ret⟩ ⟨y_Op, y_Task, y_R, y_Id, ⟨y_Q_Kind, ⟨y_Q_P_Kind, y_Q_P_Col, y_Q_P_Op, ⟨y_Q_P_V_Ty, y_Q_P_V_N, y_Q_P_V_S⟩, y_Q_P_L⟩, y_Q_Col, y_Q_Out⟩, ⟨y_Res_Rows, y_Res_N, y_Res_Has, ⟨y_Res_V_Ty, y_Res_V_N, y_Res_V_S⟩⟩, y_Code, y_Stamp, y_Inv, y_Lin, y_Ret⟩), []) := by
  refine Gw_of (F := pf201) rfl rfl ?_
  show Wp _ pb201 _ _
  unfold pb201
  subst hx0 hy0
  repeat' (first
    | with_reducible (first | refine wp_seq ?_ | refine wp_blk ?_ | refine wp_skip ?_ | refine wp_exit ?_ | refine wp_ret ?_ | refine seqQ_norm ?_ | refine seqQ_ret ?_ | refine seqQ_exit ?_ | refine blkQ_norm ?_ | refine blkQ_ret ?_ | refine blkQ_exit ?_ | refine loopQ_norm ?_ | refine loopQ_exit ?_ | refine loopQ_ret ?_ | refine endQ_ret ?_ | refine endQ_norm ?_ | refine endE_ret ?_ | refine endE_norm ?_ | refine endI_ret ?_ | refine endI_norm ?_)
    | (with_reducible refine wp_regK fun K hK => ?_
       simp[sameResult_nil, u209, hsm_x_R, hsms_x_R, hsm_x_Q_P_V_S, hsm_x_Q_P_L, hsms_x_Q_P_L, hsm_x_Q_Out, hsm_x_Res_Rows, hsms_x_Res_Rows, hsm_x_Res_V_S, hsm_y_R, hsms_y_R, hsm_y_Q_P_V_S, hsm_y_Q_P_L, hsms_y_Q_P_L, hsm_y_Q_Out, hsm_y_Res_Rows, hsms_y_Res_Rows, hsm_y_Res_V_S]
       repeat' (with_reducible first | refine hK _ ?_ | (refine psel ?_ ?_ <;> (intro hc; (try rw [Decidable.not_not] at hc); first | (exfalso; omega) | (try simp [hc, sameResult_nil, u209, hsm_x_R, hsms_x_R, hsm_x_Q_P_V_S, hsm_x_Q_P_L, hsms_x_Q_P_L, hsm_x_Q_Out, hsm_x_Res_Rows, hsms_x_Res_Rows, hsm_x_Res_V_S, hsm_y_R, hsms_y_R, hsm_y_Q_P_V_S, hsm_y_Q_P_L, hsms_y_Q_P_L, hsm_y_Q_Out, hsm_y_Res_Rows, hsms_y_Res_Rows, hsm_y_Res_V_S]))))
       all_goals (clear hK; clear K))
    | (with_reducible refine wp_condE ?_
       refine ⟨_, rfl, ?_, ?_⟩ <;> (intro hc; (try simp at hc); (all_goals first | (exfalso; omega) | skip))))
  all_goals first | (simp_all [pf201, deedEq]; done) | (simp [pf201, deedEq, *]; done)

theorem intsZ_self : ∀ l : List Int, intsZ (l.zip l) = true
  | [] => rfl
  | x :: l => by simp [intsZ, intEq, intsZ_self l]

theorem sameIntsF_self (l : List Int) : sameIntsF l l = true := by
  simp [sameIntsF, intsZ_self]

theorem ordIx_lin : ∀ (l : List XDeed) (n x : Int), x ∈ ordIx n l → ∀ d, l[(x - n).toNat]? = some d → d.Lin ≠ -1
  | [], _, _, h, _, _ => by simp [ordIx] at h
  | e :: l, n, x, h, d, hd => by
    simp only [ordIx] at h
    have key : x ∈ ordIx (n + 1) l → d.Lin ≠ -1 := fun h => by
      have hm := ordIx_mem l (n + 1) x h
      refine ordIx_lin l (n + 1) x h d ?_
      rw [show (x - n).toNat = (x - (n + 1)).toNat + 1 by omega] at hd
      simpa using hd
    split at h
    · exact key h
    · rename_i hl
      rcases List.mem_cons.1 h with rfl | h
      · simp at hd; subst hd; exact hl
      · exact key h

theorem t89 (code : List Int) (hok_code : code.length ≤ 9223372036854775807) : Gw TT 89 [.one (.ro false (.sl 1 (code.map eb)))] = some (vb true, []) := by
  refine Gw_of (F := pf89) rfl rfl ?_
  show Wp _ pb89 _ _
  unfold pb89
  by_cases hb : code.length ≤ 1048576
  · have hbg : ¬ (1048576 < (code.length : Int)) := by omega
    obtain ⟨l, g1, l1, l2⟩ := e282_ex code hb
    obtain ⟨⟨u, w⟩, g2, u0, u1, u3, u4, w0, w1, w3, w4⟩ := e273_ex code hb
    obtain ⟨⟨x, y⟩, g3, x0, x1, x3, x4, y0, y1, y3, y4⟩ := e289_ex code hb
    obtain ⟨⟨m, id⟩, g4, ml, _⟩ := e284_ex code hb
    obtain ⟨nm, g5, _⟩ := e276_ex code hb
    simp only at g1 l1 l2 g2 u0 u1 u3 u4 w0 w1 w3 w4 g3 x0 x1 x3 x4 y0 y1 y3 y4 g4 ml g5
    have fu0 : u.R.length ≤ 1048576 := by omega
    have fux := u3.1
    rw [XPred.sm_eq] at fux
    have fu2 : u.Q.P.V.S.size ≤ 1048576 := fux.1
    have fu3 : u.Q.P.L.length ≤ 1048576 := fux.2.1
    have fu4 : XPred.sms u.Q.P.L := fux.2.2
    have fu5 : u.Q.Out.length ≤ 1048576 := u3.2
    have fu6 : u.Res.Rows = [] := by rw [u4]
    have fu7 : u.Res.Rows.length ≤ 1048576 := by rw [fu6]; simp
    have fu8 : XRow.sms u.Res.Rows := by rw [fu6]; intro z hz; simp at hz
    have fu9 : u.Res.V.S.size ≤ 1048576 := by rw [u4]; simp [bnil_size]
    have fw0 : w.R.length ≤ 1048576 := by omega
    have fwx := w3.1
    rw [XPred.sm_eq] at fwx
    have fw2 : w.Q.P.V.S.size ≤ 1048576 := fwx.1
    have fw3 : w.Q.P.L.length ≤ 1048576 := fwx.2.1
    have fw4 : XPred.sms w.Q.P.L := fwx.2.2
    have fw5 : w.Q.Out.length ≤ 1048576 := w3.2
    have fw6 : w.Res.Rows = [] := by rw [w4]
    have fw7 : w.Res.Rows.length ≤ 1048576 := by rw [fw6]; simp
    have fw8 : XRow.sms w.Res.Rows := by rw [fw6]; intro z hz; simp at hz
    have fw9 : w.Res.V.S.size ≤ 1048576 := by rw [w4]; simp [bnil_size]
    have fx0 : x.R.length ≤ 1048576 := by omega
    have fxx := x3.1
    rw [XPred.sm_eq] at fxx
    have fx2 : x.Q.P.V.S.size ≤ 1048576 := fxx.1
    have fx3 : x.Q.P.L.length ≤ 1048576 := fxx.2.1
    have fx4 : XPred.sms x.Q.P.L := fxx.2.2
    have fx5 : x.Q.Out.length ≤ 1048576 := x3.2
    have fx6 : x.Res.Rows = [] := by rw [x4]
    have fx7 : x.Res.Rows.length ≤ 1048576 := by rw [fx6]; simp
    have fx8 : XRow.sms x.Res.Rows := by rw [fx6]; intro z hz; simp at hz
    have fx9 : x.Res.V.S.size ≤ 1048576 := by rw [x4]; simp [bnil_size]
    have fy0 : y.R.length ≤ 1048576 := by omega
    have fyx := y3.1
    rw [XPred.sm_eq] at fyx
    have fy2 : y.Q.P.V.S.size ≤ 1048576 := fyx.1
    have fy3 : y.Q.P.L.length ≤ 1048576 := fyx.2.1
    have fy4 : XPred.sms y.Q.P.L := fyx.2.2
    have fy5 : y.Q.Out.length ≤ 1048576 := y3.2
    have fy6 : y.Res.Rows = [] := by rw [y4]
    have fy7 : y.Res.Rows.length ≤ 1048576 := by rw [fy6]; simp
    have fy8 : XRow.sms y.Res.Rows := by rw [fy6]; intro z hz; simp at hz
    have fy9 : y.Res.V.S.size ≤ 1048576 := by rw [y4]; simp [bnil_size]
    have hll : l.length ≤ 1048576 := by omega
    have hml : m.length ≤ 1048576 := by omega
    have hol := orderF_len l
    have hoo : (orderF l).length ≤ 1048576 := by omega
    have hself := sameIntsF_self (orderF l)
    have hmem : ∀ q ∈ orderF l, 0 ≤ q ∧ q < (l.length : Int) := fun q hq => by have := ordIx_mem l 0 q ((orderF_perm l).subset hq); omega
    have hlin : ∀ q ∈ orderF l, ∀ d, l[q.toNat]? = some d → d.Lin ≠ -1 := fun q hq d hd => ordIx_lin l 0 q ((orderF_perm l).subset hq) d (by simpa using hd)
    have hsrt := orderF_srt l
    have q201 := t201 true true x.Op x.Task x.R x.Id x.Q.Kind x.Q.P.Kind x.Q.P.Col x.Q.P.Op x.Q.P.V.Ty x.Q.P.V.N x.Q.P.V.S x.Q.P.L x.Q.Col x.Q.Out x.Res.Rows x.Res.N x.Res.Has x.Res.V.Ty x.Res.V.N x.Res.V.S x.Code x.Stamp x.Inv x.Lin x.Ret y.Op y.Task y.R y.Id y.Q.Kind y.Q.P.Kind y.Q.P.Col y.Q.P.Op y.Q.P.V.Ty y.Q.P.V.N y.Q.P.V.S y.Q.P.L y.Q.Col y.Q.Out y.Res.Rows y.Res.N y.Res.Has y.Res.V.Ty y.Res.V.N y.Res.V.S y.Code y.Stamp y.Inv y.Lin y.Ret fx6 fy6 fx0 x1 fx2 fx3 fx4 fx5 fx7 fx8 fx9 fy0 y1 fy2 fy3 fy4 fy5 fy7 fy8 fy9
    repeat' (first
      | with_reducible (first | refine wp_seq ?_ | refine wp_blk ?_ | refine wp_skip ?_ | refine wp_exit ?_ | refine wp_ret ?_ | refine seqQ_norm ?_ | refine seqQ_ret ?_ | refine seqQ_exit ?_ | refine blkQ_norm ?_ | refine blkQ_ret ?_ | refine blkQ_exit ?_ | refine loopQ_norm ?_ | refine loopQ_exit ?_ | refine loopQ_ret ?_ | refine endQ_ret ?_ | refine endQ_norm ?_ | refine endE_ret ?_ | refine endE_norm ?_ | refine endI_ret ?_ | refine endI_norm ?_)
      | (with_reducible refine wp_regK fun K hK => ?_
         simp[hok_code, hbg, g1, g2, g3, g4, g5, hll, hml, hoo, hself, q201, fx0, x1, fx2, fx3, fx4, fx5, fx7, fx8, fx9, fy0, y1, fy2, fy3, fy4, fy5, fy7, fy8, fy9]
         repeat' (with_reducible first | refine hK _ ?_ | (refine psel ?_ ?_ <;> (intro hc; (try rw [Decidable.not_not] at hc); first | (exfalso; omega) | (try simp [hc, hok_code, hbg, g1, g2, g3, g4, g5, hll, hml, hoo, hself, q201, fx0, x1, fx2, fx3, fx4, fx5, fx7, fx8, fx9, fy0, y1, fy2, fy3, fy4, fy5, fy7, fy8, fy9]))))
         all_goals (clear hK; clear K))
      | (with_reducible refine wp_condE ?_
         refine ⟨_, rfl, ?_, ?_⟩ <;> (intro hc; (try simp at hc); (all_goals first | (exfalso; omega) | skip))))
    clear hself q201 hoo
    refine wp_loopI (σ := Nat) (fun s => [(3, AV.pl 3 0 [], some (Rt.vir [C.own (D.sl 25 (l.map XDeed.e))])), (4, AV.bx 4 0, some (Rt.bx [.ro false (di u.Op), .ro false (di u.Task), .own (.sl 3 (u.R.map XVal.e)), .ro false (di u.Id), .ro false (di u.Q.Kind), .ro false (di u.Q.P.Kind), .ro false (di u.Q.P.Col), .ro false (di u.Q.P.Op), .ro false (di u.Q.P.V.Ty), .ro false (di u.Q.P.V.N), .ro false (.str u.Q.P.V.S), .own (.sl 7 (u.Q.P.L.map XPred.e)), .ro false (di u.Q.Col), .own (.sl 1 (u.Q.Out.map ei)), .own (.sl 2 (u.Res.Rows.map XRow.e)), .ro false (di u.Res.N), .ro false (.bool u.Res.Has), .ro false (di u.Res.V.Ty), .ro false (di u.Res.V.N), .ro false (.str u.Res.V.S), .ro false (di u.Code), .ro false (di u.Stamp), .ro false (di u.Inv), .ro false (di u.Lin), .ro false (di u.Ret)])), (5, AV.bx 5 0, some (Rt.bx [.ro false (di w.Op), .ro false (di w.Task), .own (.sl 3 (w.R.map XVal.e)), .ro false (di w.Id), .ro false (di w.Q.Kind), .ro false (di w.Q.P.Kind), .ro false (di w.Q.P.Col), .ro false (di w.Q.P.Op), .ro false (di w.Q.P.V.Ty), .ro false (di w.Q.P.V.N), .ro false (.str w.Q.P.V.S), .own (.sl 7 (w.Q.P.L.map XPred.e)), .ro false (di w.Q.Col), .own (.sl 1 (w.Q.Out.map ei)), .own (.sl 2 (w.Res.Rows.map XRow.e)), .ro false (di w.Res.N), .ro false (.bool w.Res.Has), .ro false (di w.Res.V.Ty), .ro false (di w.Res.V.N), .ro false (.str w.Res.V.S), .ro false (di w.Code), .ro false (di w.Stamp), .ro false (di w.Inv), .ro false (di w.Lin), .ro false (di w.Ret)])), (10, AV.pl 10 0 [], some (Rt.vir [C.own (D.sl 1 ((orderF l).map ei))])), (12, AV.v false (di (s : Nat)), none)]) (fun s => s ≤ (orderF l).length) (fun s => (orderF l).length - s) 0 (by simp) (Nat.zero_le _) ?_
    intro i hi
    try simp only at hi
    unfold pl89_0
    by_cases hlt : i < (orderF l).length
    · obtain ⟨q, hq⟩ : ∃ q, (orderF l)[i]? = some q := ⟨_, List.getElem?_eq_getElem hlt⟩
      have hqm := List.mem_of_getElem? hq
      have hqe := (List.getElem?_eq_some_iff.1 hq).2
      obtain ⟨hq0, hq1⟩ := hmem q hqm
      obtain ⟨d, hd⟩ : ∃ d, l[q.toNat]? = some d := ⟨_, List.getElem?_eq_getElem (by omega)⟩
      have hde := (List.getElem?_eq_some_iff.1 hd).2
      have hdl := hlin q hqm d hd
      have hkq : linOf l q = d.Lin := linOf_of hd
      have hil : (i : Int) < ((orderF l).length : Int) := by omega
      have hw : IntKind.wrap .i64 ((i : Int) + 1) = (i : Int) + 1 := wrap_i64 (by omega) (by omega)
      rcases i with _ | j
      · repeat' (first
          | with_reducible (first | refine wp_seq ?_ | refine wp_blk ?_ | refine wp_skip ?_ | refine wp_exit ?_ | refine wp_ret ?_ | refine seqQ_norm ?_ | refine seqQ_ret ?_ | refine seqQ_exit ?_ | refine blkQ_norm ?_ | refine blkQ_ret ?_ | refine blkQ_exit ?_ | refine loopQ_norm ?_ | refine loopQ_exit ?_ | refine loopQ_ret ?_ | refine endQ_ret ?_ | refine endQ_norm ?_ | refine endE_ret ?_ | refine endE_norm ?_ | refine endI_ret ?_ | refine endI_norm ?_)
          | (with_reducible refine wp_regK fun K hK => ?_
             simp[hil, hlt, hq, hqe, hq0, hq1, hd, hde, hdl]
             repeat' (with_reducible first | refine hK _ ?_ | (refine psel ?_ ?_ <;> (intro hc; (try rw [Decidable.not_not] at hc); first | (exfalso; omega) | (try simp [hc, hil, hlt, hq, hqe, hq0, hq1, hd, hde, hdl]))))
             all_goals (clear hK; clear K))
          | (with_reducible refine wp_condE ?_
             refine ⟨_, rfl, ?_, ?_⟩ <;> (intro hc; (try simp at hc); (all_goals first | (exfalso; omega) | skip))))
        all_goals first | exact ⟨1, by simp, by omega, by omega⟩ | (exfalso; omega) | skip
      · obtain ⟨v, hv⟩ : ∃ v, (orderF l)[j]? = some v := ⟨_, List.getElem?_eq_getElem (by omega)⟩
        have hve := (List.getElem?_eq_some_iff.1 hv).2
        obtain ⟨hv0, hv1⟩ := hmem v (List.mem_of_getElem? hv)
        obtain ⟨e, he⟩ : ∃ e, l[v.toNat]? = some e := ⟨_, List.getElem?_eq_getElem (by omega)⟩
        have hee := (List.getElem?_eq_some_iff.1 he).2
        have hkv : linOf l v = e.Lin := linOf_of he
        have hs : slt (linOf l) v q := by
          have := (List.pairwise_iff_getElem.1 hsrt) j (j + 1) (by omega) hlt (by omega)
          rwa [hve, hqe] at this
        unfold slt at hs
        rw [hkv, hkq] at hs
        have hjl : (j : Int) < ((orderF l).length : Int) := by omega
        have hil2 : (j : Int) + 1 < ((orderF l).length : Int) := by omega
        have hj0 : (0 : Int) < (j : Int) + 1 := by omega
        have hwj : IntKind.wrap .i64 ((j : Int) + 1 - 1) = (j : Int) := by rw [Int.add_sub_cancel]; exact wrap_i64 (by omega) (by omega)
        have hwj2 : IntKind.wrap .i64 (j : Int) = (j : Int) := wrap_i64 (by omega) (by omega)
        have hw2 : IntKind.wrap .i64 ((j : Int) + 1 + 1) = (j : Int) + 1 + 1 := wrap_i64 (by omega) (by omega)
        have h1 : ¬ d.Lin < e.Lin := by omega
        by_cases hz : e.Lin = d.Lin
        · have h2 : ¬ q ≤ v := by omega
          repeat' (first
            | with_reducible (first | refine wp_seq ?_ | refine wp_blk ?_ | refine wp_skip ?_ | refine wp_exit ?_ | refine wp_ret ?_ | refine seqQ_norm ?_ | refine seqQ_ret ?_ | refine seqQ_exit ?_ | refine blkQ_norm ?_ | refine blkQ_ret ?_ | refine blkQ_exit ?_ | refine loopQ_norm ?_ | refine loopQ_exit ?_ | refine loopQ_ret ?_ | refine endQ_ret ?_ | refine endQ_norm ?_ | refine endE_ret ?_ | refine endE_norm ?_ | refine endI_ret ?_ | refine endI_norm ?_)
            | (with_reducible refine wp_regK fun K hK => ?_
               simp[hil2, hj0, hjl, hwj, hwj2, hw2, hlt, hq, hqe, hq0, hq1, hd, hde, hdl, hv, hve, hv0, hv1, he, hee, h1, hz, h2]
               repeat' (with_reducible first | refine hK _ ?_ | (refine psel ?_ ?_ <;> (intro hc; (try rw [Decidable.not_not] at hc); first | (exfalso; omega) | (try simp [hc, hil2, hj0, hjl, hwj, hwj2, hw2, hlt, hq, hqe, hq0, hq1, hd, hde, hdl, hv, hve, hv0, hv1, he, hee, h1, hz, h2]))))
               all_goals (clear hK; clear K))
            | (with_reducible refine wp_condE ?_
               refine ⟨_, rfl, ?_, ?_⟩ <;> (intro hc; (try simp at hc); (all_goals first | (exfalso; omega) | skip))))
          all_goals first | exact ⟨j + 1 + 1, by simp, by omega, by omega⟩ | (exfalso; omega) | skip
        · repeat' (first
            | with_reducible (first | refine wp_seq ?_ | refine wp_blk ?_ | refine wp_skip ?_ | refine wp_exit ?_ | refine wp_ret ?_ | refine seqQ_norm ?_ | refine seqQ_ret ?_ | refine seqQ_exit ?_ | refine blkQ_norm ?_ | refine blkQ_ret ?_ | refine blkQ_exit ?_ | refine loopQ_norm ?_ | refine loopQ_exit ?_ | refine loopQ_ret ?_ | refine endQ_ret ?_ | refine endQ_norm ?_ | refine endE_ret ?_ | refine endE_norm ?_ | refine endI_ret ?_ | refine endI_norm ?_)
            | (with_reducible refine wp_regK fun K hK => ?_
               simp[hil2, hj0, hjl, hwj, hwj2, hw2, hlt, hq, hqe, hq0, hq1, hd, hde, hdl, hv, hve, hv0, hv1, he, hee, h1, hz]
               repeat' (with_reducible first | refine hK _ ?_ | (refine psel ?_ ?_ <;> (intro hc; (try rw [Decidable.not_not] at hc); first | (exfalso; omega) | (try simp [hc, hil2, hj0, hjl, hwj, hwj2, hw2, hlt, hq, hqe, hq0, hq1, hd, hde, hdl, hv, hve, hv0, hv1, he, hee, h1, hz]))))
               all_goals (clear hK; clear K))
            | (with_reducible refine wp_condE ?_
               refine ⟨_, rfl, ?_, ?_⟩ <;> (intro hc; (try simp at hc); (all_goals first | (exfalso; omega) | skip))))
          all_goals first | exact ⟨j + 1 + 1, by simp, by omega, by omega⟩ | (exfalso; omega) | skip
    · have hil : ¬ ((i : Int) < ((orderF l).length : Int)) := by omega
      have hfin : (deedOkB u.Op u.Task u.Code u.Stamp u.Inv u.Id u.Lin u.Ret = true → deedOkB w.Op w.Task w.Code w.Stamp w.Inv w.Id w.Lin w.Ret = true → ((u.Ret != -1) && decide (u.Ret < w.Inv)) = true → ((w.Ret != -1) && decide (w.Ret < u.Inv)) = false) := by
        simp only [deedOkB, decide_eq_true_eq, Bool.and_eq_true, bne_iff_ne, ne_eq, Bool.and_eq_false_iff, bne_eq_false_iff_eq, decide_eq_false_iff_not]
        omega
      generalize hA : deedOkB u.Op u.Task u.Code u.Stamp u.Inv u.Id u.Lin u.Ret = A at hfin
      generalize hB : deedOkB w.Op w.Task w.Code w.Stamp w.Inv w.Id w.Lin w.Ret = B at hfin
      generalize hC : ((u.Ret != -1) && decide (u.Ret < w.Inv)) = Cc at hfin
      generalize hD : ((w.Ret != -1) && decide (w.Ret < u.Inv)) = Dd at hfin
      cases A with
      | false =>
        repeat' (first
          | with_reducible (first | refine wp_seq ?_ | refine wp_blk ?_ | refine wp_skip ?_ | refine wp_exit ?_ | refine wp_ret ?_ | refine seqQ_norm ?_ | refine seqQ_ret ?_ | refine seqQ_exit ?_ | refine blkQ_norm ?_ | refine blkQ_ret ?_ | refine blkQ_exit ?_ | refine loopQ_norm ?_ | refine loopQ_exit ?_ | refine loopQ_ret ?_ | refine endQ_ret ?_ | refine endQ_norm ?_ | refine endE_ret ?_ | refine endE_norm ?_ | refine endI_ret ?_ | refine endI_norm ?_)
          | (with_reducible refine wp_regK fun K hK => ?_
             simp[hil, hA]
             repeat' (with_reducible first | refine hK _ ?_ | (refine psel ?_ ?_ <;> (intro hc; (try rw [Decidable.not_not] at hc); first | (exfalso; omega) | (try simp [hc, hil, hA]))))
             all_goals (clear hK; clear K))
          | (with_reducible refine wp_condE ?_
             refine ⟨_, rfl, ?_, ?_⟩ <;> (intro hc; (try simp at hc); (all_goals first | (exfalso; omega) | skip))))
        all_goals first | (simp [pf89]; done) | (exfalso; omega) | skip
      | true =>
        cases B with
        | false =>
          repeat' (first
            | with_reducible (first | refine wp_seq ?_ | refine wp_blk ?_ | refine wp_skip ?_ | refine wp_exit ?_ | refine wp_ret ?_ | refine seqQ_norm ?_ | refine seqQ_ret ?_ | refine seqQ_exit ?_ | refine blkQ_norm ?_ | refine blkQ_ret ?_ | refine blkQ_exit ?_ | refine loopQ_norm ?_ | refine loopQ_exit ?_ | refine loopQ_ret ?_ | refine endQ_ret ?_ | refine endQ_norm ?_ | refine endE_ret ?_ | refine endE_norm ?_ | refine endI_ret ?_ | refine endI_norm ?_)
            | (with_reducible refine wp_regK fun K hK => ?_
               simp[hil, hA, hB]
               repeat' (with_reducible first | refine hK _ ?_ | (refine psel ?_ ?_ <;> (intro hc; (try rw [Decidable.not_not] at hc); first | (exfalso; omega) | (try simp [hc, hil, hA, hB]))))
               all_goals (clear hK; clear K))
            | (with_reducible refine wp_condE ?_
               refine ⟨_, rfl, ?_, ?_⟩ <;> (intro hc; (try simp at hc); (all_goals first | (exfalso; omega) | skip))))
          all_goals first | (simp [pf89]; done) | (exfalso; omega) | skip
        | true =>
          cases Cc with
          | false =>
            repeat' (first
              | with_reducible (first | refine wp_seq ?_ | refine wp_blk ?_ | refine wp_skip ?_ | refine wp_exit ?_ | refine wp_ret ?_ | refine seqQ_norm ?_ | refine seqQ_ret ?_ | refine seqQ_exit ?_ | refine blkQ_norm ?_ | refine blkQ_ret ?_ | refine blkQ_exit ?_ | refine loopQ_norm ?_ | refine loopQ_exit ?_ | refine loopQ_ret ?_ | refine endQ_ret ?_ | refine endQ_norm ?_ | refine endE_ret ?_ | refine endE_norm ?_ | refine endI_ret ?_ | refine endI_norm ?_)
              | (with_reducible refine wp_regK fun K hK => ?_
                 simp[hil, hA, hB, hC]
                 repeat' (with_reducible first | refine hK _ ?_ | (refine psel ?_ ?_ <;> (intro hc; (try rw [Decidable.not_not] at hc); first | (exfalso; omega) | (try simp [hc, hil, hA, hB, hC]))))
                 all_goals (clear hK; clear K))
              | (with_reducible refine wp_condE ?_
                 refine ⟨_, rfl, ?_, ?_⟩ <;> (intro hc; (try simp at hc); (all_goals first | (exfalso; omega) | skip))))
            all_goals first | (simp [pf89]; done) | (exfalso; omega) | skip
          | true =>
            have hD2 := hfin rfl rfl rfl
            subst hD2
            repeat' (first
              | with_reducible (first | refine wp_seq ?_ | refine wp_blk ?_ | refine wp_skip ?_ | refine wp_exit ?_ | refine wp_ret ?_ | refine seqQ_norm ?_ | refine seqQ_ret ?_ | refine seqQ_exit ?_ | refine blkQ_norm ?_ | refine blkQ_ret ?_ | refine blkQ_exit ?_ | refine loopQ_norm ?_ | refine loopQ_exit ?_ | refine loopQ_ret ?_ | refine endQ_ret ?_ | refine endQ_norm ?_ | refine endE_ret ?_ | refine endE_norm ?_ | refine endI_ret ?_ | refine endI_norm ?_)
              | (with_reducible refine wp_regK fun K hK => ?_
                 simp[hil, hA, hB, hC, hD]
                 repeat' (with_reducible first | refine hK _ ?_ | (refine psel ?_ ?_ <;> (intro hc; (try rw [Decidable.not_not] at hc); first | (exfalso; omega) | (try simp [hc, hil, hA, hB, hC, hD]))))
                 all_goals (clear hK; clear K))
              | (with_reducible refine wp_condE ?_
                 refine ⟨_, rfl, ?_, ?_⟩ <;> (intro hc; (try simp at hc); (all_goals first | (exfalso; omega) | skip))))
            all_goals first | (simp [pf89]; done) | (exfalso; omega) | skip
  · have hbg : 1048576 < (code.length : Int) := by omega
    repeat' (first
      | with_reducible (first | refine wp_seq ?_ | refine wp_blk ?_ | refine wp_skip ?_ | refine wp_exit ?_ | refine wp_ret ?_ | refine seqQ_norm ?_ | refine seqQ_ret ?_ | refine seqQ_exit ?_ | refine blkQ_norm ?_ | refine blkQ_ret ?_ | refine blkQ_exit ?_ | refine loopQ_norm ?_ | refine loopQ_exit ?_ | refine loopQ_ret ?_ | refine endQ_ret ?_ | refine endQ_norm ?_ | refine endE_ret ?_ | refine endE_norm ?_ | refine endI_ret ?_ | refine endI_norm ?_)
      | (with_reducible refine wp_regK fun K hK => ?_
         simp[hok_code, hbg]
         repeat' (with_reducible first | refine hK _ ?_ | (refine psel ?_ ?_ <;> (intro hc; (try rw [Decidable.not_not] at hc); first | (exfalso; omega) | (try simp [hc, hok_code, hbg]))))
         all_goals (clear hK; clear K))
      | (with_reducible refine wp_condE ?_
         refine ⟨_, rfl, ?_, ?_⟩ <;> (intro hc; (try simp at hc); (all_goals first | (exfalso; omega) | skip))))
    all_goals first | (simp [pf89]; done) | (exfalso; omega)

end Go.Proofs.Ytkgibccknlbiaaa.OM
