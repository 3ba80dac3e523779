/- What the functions answer. -/
import Derived.Test.YtkgibccknlbiaaaXFDeedsLm0
set_option linter.all false
namespace Go.Proofs.Ytkgibccknlbiaaa.OM
set_option maxHeartbeats 4000000
set_option maxRecDepth 100000

theorem sw_get1 (U V Z : List Int) (x y : Int) {k1 : Nat} (h1 : k1 = U.length) : ((U ++ x :: (V ++ y :: Z)).map ei)[k1]? = some [di x] := by subst h1; simp
theorem sw_get2 (U V Z : List Int) (x y : Int) {k2 : Nat} (h2 : k2 = U.length + 1 + V.length) : ((U ++ x :: (V ++ y :: Z)).map ei)[k2]? = some [di y] := by
  rw [show U ++ x :: (V ++ y :: Z) = (U ++ x :: V) ++ y :: Z by simp, List.map_append, List.map_cons]
  exact get_mid _ _ _ (by simp; omega)

theorem s409 {g : Nat} {c : D} (P A M B S : List Int) (hAB : A.length = B.length) (hlen : (P ++ A ++ M ++ B ++ S).length ≤ 1099511627776) (a b n : Int) (ha : a = P.length) (hb : b = P.length + A.length + M.length) (hn : n = A.length) :
    Gw TT 409 [dat (P ++ A ++ M ++ B ++ S), vi a, vi b, vi n, fv g c] = some (lft (P ++ B ++ M ++ A ++ S)) := by
  refine Gw_of (F := pf409) rfl rfl ?_
  show Wp _ pb409 _ _
  unfold pb409
  simp only [List.length_append] at hlen
  repeat' (first
    | with_reducible (first | refine wp_seq ?_ | refine wp_blk ?_ | refine wp_skip ?_ | refine wp_exit ?_ | refine wp_ret ?_ | refine seqQ_norm ?_ | refine seqQ_ret ?_ | refine seqQ_exit ?_ | refine blkQ_norm ?_ | refine blkQ_ret ?_ | refine blkQ_exit ?_ | refine loopQ_norm ?_ | refine loopQ_exit ?_ | refine loopQ_ret ?_ | refine endQ_ret ?_ | refine endQ_norm ?_ | refine endE_ret ?_ | refine endE_norm ?_ | refine endI_ret ?_ | refine endI_norm ?_)
    | (with_reducible refine wp_regK fun K hK => ?_
       simp
       repeat' (with_reducible first | refine hK _ ?_ | (refine psel ?_ ?_ <;> (intro hc; (try rw [Decidable.not_not] at hc); first | (exfalso; omega) | (try simp [hc]))))
       all_goals (clear hK; clear K))
    | (with_reducible refine wp_condE ?_
       refine ⟨_, rfl, ?_, ?_⟩ <;> (intro hc; (try simp at hc); (all_goals first | (exfalso; omega) | skip))))
  refine wp_loopI (σ := (List Int × List Int) × (List Int × List Int)) (fun s => [(0, AV.pl 0 0 [], some (Rt.vir [C.own (D.sl 1 ((P ++ s.2.1 ++ s.1.2 ++ M ++ s.1.1 ++ s.2.2 ++ S).map ei))])), (1, AV.v false (di a), none), (2, AV.v false (di b), none), (3, AV.v false (di n), none), (10, AV.v false (di (s.1.1.length : Nat)), none)])
    (fun s => A = s.1.1 ++ s.1.2 ∧ B = s.2.1 ++ s.2.2 ∧ s.1.1.length = s.2.1.length) (fun s => s.1.2.length) (([], A), ([], B)) (by simp) ⟨rfl, rfl, rfl⟩ ?_
  rintro ⟨⟨A1, A2⟩, ⟨B1, B2⟩⟩ ⟨h1, h2, h3⟩
  simp only at h1 h2 h3
  have hl2 : A2.length = B2.length := by rw [h1, h2] at hAB; simp at hAB; omega
  have hA : A.length = A1.length + A2.length := by rw [h1]; simp
  unfold pl409_0
  rcases A2 with _ | ⟨x, A2⟩
  · have : B2 = [] := List.eq_nil_of_length_eq_zero (by simpa using hl2.symm)
    subst this
    have hnl : ¬ ((A1.length : Int) < n) := by simp at hA; omega
    repeat' (first
      | with_reducible (first | refine wp_seq ?_ | refine wp_blk ?_ | refine wp_skip ?_ | refine wp_exit ?_ | refine wp_ret ?_ | refine seqQ_norm ?_ | refine seqQ_ret ?_ | refine seqQ_exit ?_ | refine blkQ_norm ?_ | refine blkQ_ret ?_ | refine blkQ_exit ?_ | refine loopQ_norm ?_ | refine loopQ_exit ?_ | refine loopQ_ret ?_ | refine endQ_ret ?_ | refine endQ_norm ?_ | refine endE_ret ?_ | refine endE_norm ?_ | refine endI_ret ?_ | refine endI_norm ?_)
      | (with_reducible refine wp_regK fun K hK => ?_
         simp[hnl]
         repeat' (with_reducible first | refine hK _ ?_ | (refine psel ?_ ?_ <;> (intro hc; (try rw [Decidable.not_not] at hc); first | (exfalso; omega) | (try simp [hc, hnl]))))
         all_goals (clear hK; clear K))
      | (with_reducible refine wp_condE ?_
         refine ⟨_, rfl, ?_, ?_⟩ <;> (intro hc; (try simp at hc); (all_goals first | (exfalso; omega) | skip))))
    all_goals simp [pf409, h1, h2]
  · obtain ⟨y, B2, rfl⟩ : ∃ y B3, B2 = y :: B3 := by
      cases B2 with
      | nil => simp at hl2
      | cons y B3 => exact ⟨y, B3, rfl⟩
    simp only [List.length_cons] at hA hl2
    have hlt : ((A1.length : Int) < n) := by omega
    have e1 : P ++ B1 ++ x :: A2 ++ M ++ A1 ++ y :: B2 ++ S = (P ++ B1) ++ x :: ((A2 ++ M ++ A1) ++ y :: (B2 ++ S)) := by simp
    obtain ⟨k1, hk1⟩ : ∃ k : Nat, k = (P ++ B1).length := ⟨_, rfl⟩
    obtain ⟨k2, hk2⟩ : ∃ k : Nat, k = (P ++ B1).length + 1 + (A2 ++ M ++ A1).length := ⟨_, rfl⟩
    have hg1 := sw_get1 (P ++ B1) (A2 ++ M ++ A1) (B2 ++ S) x y hk1
    have hg2 := sw_get2 (P ++ B1) (A2 ++ M ++ A1) (B2 ++ S) x y hk2
    have hs := sw_map (P ++ B1) (A2 ++ M ++ A1) (B2 ++ S) x y hk1 hk2
    have hL : (((P ++ B1) ++ x :: ((A2 ++ M ++ A1) ++ y :: (B2 ++ S))).map ei).length = k2 + 1 + (B2 ++ S).length := by simp at hk2 ⊢; omega
    simp only [e1]
    generalize ((P ++ B1) ++ x :: ((A2 ++ M ++ A1) ++ y :: (B2 ++ S))).map ei = L at *
    simp only [List.length_append] at hk1 hk2 hL
    have hw1 : IntKind.wrap .i64 (a + (A1.length : Int)) = (k1 : Int) := by rw [wrap_i64 (by omega) (by omega)]; omega
    have hw2 : IntKind.wrap .i64 (b + (A1.length : Int)) = (k2 : Int) := by rw [wrap_i64 (by omega) (by omega)]; omega
    have hw3 : IntKind.wrap .i64 ((A1.length : Int) + 1) = (A1.length : Int) + 1 := wrap_i64 (by omega) (by omega)
    have hb1 : (k1 : Int) < (L.length : Int) := by omega
    have hb2 : (k2 : Int) < (L.length : Int) := by omega
    have hne : ¬ k1 = k2 := by omega
    repeat' (first
      | with_reducible (first | refine wp_seq ?_ | refine wp_blk ?_ | refine wp_skip ?_ | refine wp_exit ?_ | refine wp_ret ?_ | refine seqQ_norm ?_ | refine seqQ_ret ?_ | refine seqQ_exit ?_ | refine blkQ_norm ?_ | refine blkQ_ret ?_ | refine blkQ_exit ?_ | refine loopQ_norm ?_ | refine loopQ_exit ?_ | refine loopQ_ret ?_ | refine endQ_ret ?_ | refine endQ_norm ?_ | refine endE_ret ?_ | refine endE_norm ?_ | refine endI_ret ?_ | refine endI_norm ?_)
      | (with_reducible refine wp_regK fun K hK => ?_
         simp[hlt, hw1, hw2, hw3, hg1, hg2, hb1, hb2, hne]
         repeat' (with_reducible first | refine hK _ ?_ | (refine psel ?_ ?_ <;> (intro hc; (try rw [Decidable.not_not] at hc); first | (exfalso; omega) | (try simp [hc, hlt, hw1, hw2, hw3, hg1, hg2, hb1, hb2, hne]))))
         all_goals (clear hK; clear K))
      | (with_reducible refine wp_condE ?_
         refine ⟨_, rfl, ?_, ?_⟩ <;> (intro hc; (try simp at hc); (all_goals first | (exfalso; omega) | skip))))
    all_goals exact ⟨((A1 ++ [x], A2), (B1 ++ [y], B2)), by rw [hs]; simp, ⟨by simp [h1], by simp [h2], by simp [h3]⟩, by simp⟩

theorem s407 {g : Nat} {c : D} (P L R S : List Int) (hlen : (P ++ L ++ R ++ S).length ≤ 1099511627776) (hL0 : L ≠ []) (hR0 : R ≠ []) (a m b : Int) (ha : a = P.length) (hm : m = P.length + L.length) (hb : b = P.length + L.length + R.length) :
    Gw TT 407 [dat (P ++ L ++ R ++ S), vi a, vi m, vi b, fv g c] = some (lft (P ++ R ++ L ++ S)) := by
  refine Gw_of (F := pf407) rfl rfl ?_
  show Wp _ pb407 _ _
  unfold pb407
  simp only [List.length_append] at hlen
  have hw1 : IntKind.wrap .i64 (m - a) = (L.length : Int) := by rw [wrap_i64 (by omega) (by omega)]; omega
  have hw2 : IntKind.wrap .i64 (b - m) = (R.length : Int) := by rw [wrap_i64 (by omega) (by omega)]; omega
  repeat' (first
    | with_reducible (first | refine wp_seq ?_ | refine wp_blk ?_ | refine wp_skip ?_ | refine wp_exit ?_ | refine wp_ret ?_ | refine seqQ_norm ?_ | refine seqQ_ret ?_ | refine seqQ_exit ?_ | refine blkQ_norm ?_ | refine blkQ_ret ?_ | refine blkQ_exit ?_ | refine loopQ_norm ?_ | refine loopQ_exit ?_ | refine loopQ_ret ?_ | refine endQ_ret ?_ | refine endQ_norm ?_ | refine endE_ret ?_ | refine endE_norm ?_ | refine endI_ret ?_ | refine endI_norm ?_)
    | (with_reducible refine wp_regK fun K hK => ?_
       simp[hw1, hw2]
       repeat' (with_reducible first | refine hK _ ?_ | (refine psel ?_ ?_ <;> (intro hc; (try rw [Decidable.not_not] at hc); first | (exfalso; omega) | (try simp [hc, hw1, hw2]))))
       all_goals (clear hK; clear K))
    | (with_reducible refine wp_condE ?_
       refine ⟨_, rfl, ?_, ?_⟩ <;> (intro hc; (try simp at hc); (all_goals first | (exfalso; omega) | skip))))
  refine wp_loopI (σ := (List Int × List Int) × (List Int × List Int)) (fun s => [(0, AV.pl 0 0 [], some (Rt.vir [C.own (D.sl 1 ((s.1.1 ++ s.2.1 ++ s.2.2 ++ s.1.2).map ei))])), (2, AV.v false (di m), none), (4, AV.v true (.fn g [c]), none), (10, AV.v false (di (s.2.1.length : Nat)), none), (11, AV.v false (di (s.2.2.length : Nat)), none)])
    (fun s => s.1.1 ++ s.2.2 ++ s.2.1 ++ s.1.2 = P ++ R ++ L ++ S ∧ s.2.1 ≠ [] ∧ s.2.2 ≠ [] ∧ (s.1.1.length : Int) = m - s.2.1.length) (fun s => s.2.1.length + s.2.2.length) ((P, S), (L, R)) (by simp) ⟨rfl, hL0, hR0, by simp only; omega⟩ ?_
  rintro ⟨⟨P1, S1⟩, ⟨X, Y⟩⟩ ⟨h1, h2, h3, h4⟩
  simp only at h1 h2 h3 h4
  have h5 : P1.length + Y.length + X.length + S1.length = P.length + R.length + L.length + S.length := by
    have := congrArg List.length h1; simp at this; omega
  have h6 : 0 < X.length := by cases X with | nil => exact absurd rfl h2 | cons => simp
  have h7 : 0 < Y.length := by cases Y with | nil => exact absurd rfl h3 | cons => simp
  have hv1 : IntKind.wrap .i64 (m - (X.length : Int)) = (P1.length : Int) := by rw [wrap_i64 (by omega) (by omega)]; omega
  unfold pl407_0
  rcases Nat.lt_trichotomy X.length Y.length with hc1 | hc1 | hc1
  · have hn1 : ¬ ((X.length : Int) = (Y.length : Int)) := by omega
    have hn2 : ¬ ((Y.length : Int) < (X.length : Int)) := by omega
    obtain ⟨Y1, Y2, rfl, hy2⟩ : ∃ Y1 Y2, Y = Y1 ++ Y2 ∧ Y2.length = X.length := ⟨Y.take (Y.length - X.length), Y.drop (Y.length - X.length), by simp, by simp; omega⟩
    simp only [List.length_append] at h5 h7 hc1 hn1 hn2
    have hcall := s409 (g := g) (c := c) P1 X Y1 Y2 S1 hy2.symm (by simp; omega) (P1.length) (m + ((Y1.length + Y2.length : Nat) : Int) - (X.length : Int)) (X.length) rfl (by omega) rfl
    have hv2 : IntKind.wrap .i64 (m + ((Y1.length + Y2.length : Nat) : Int)) = m + ((Y1.length + Y2.length : Nat) : Int) := wrap_i64 (by omega) (by omega)
    have hv3 : IntKind.wrap .i64 (m + ((Y1.length + Y2.length : Nat) : Int) - (X.length : Int)) = m + ((Y1.length + Y2.length : Nat) : Int) - (X.length : Int) := wrap_i64 (by omega) (by omega)
    have hv4 : IntKind.wrap .i64 (((Y1.length + Y2.length : Nat) : Int) - (X.length : Int)) = (Y1.length : Int) := by rw [wrap_i64 (by omega) (by omega)]; omega
    simp only [show P1 ++ X ++ (Y1 ++ Y2) ++ S1 = P1 ++ X ++ Y1 ++ Y2 ++ S1 by simp, List.length_append]
    simp only [dat, lft] at hcall
    generalize (P1 ++ X ++ Y1 ++ Y2 ++ S1).map ei = Q at hcall ⊢
    generalize hQ2 : (P1 ++ Y2 ++ Y1 ++ X ++ S1).map ei = Q2 at hcall
    generalize hny : Y1.length + Y2.length = ny at *
    repeat' (first
      | with_reducible (first | refine wp_seq ?_ | refine wp_blk ?_ | refine wp_skip ?_ | refine wp_exit ?_ | refine wp_ret ?_ | refine seqQ_norm ?_ | refine seqQ_ret ?_ | refine seqQ_exit ?_ | refine blkQ_norm ?_ | refine blkQ_ret ?_ | refine blkQ_exit ?_ | refine loopQ_norm ?_ | refine loopQ_exit ?_ | refine loopQ_ret ?_ | refine endQ_ret ?_ | refine endQ_norm ?_ | refine endE_ret ?_ | refine endE_norm ?_ | refine endI_ret ?_ | refine endI_norm ?_)
      | (with_reducible refine wp_regK fun K hK => ?_
         simp[hn1, hn2, hv1, hv2, hv3, hv4, hcall]
         repeat' (with_reducible first | refine hK _ ?_ | (refine psel ?_ ?_ <;> (intro hc; (try rw [Decidable.not_not] at hc); first | (exfalso; omega) | (try simp [hc, hn1, hn2, hv1, hv2, hv3, hv4, hcall]))))
         all_goals (clear hK; clear K))
      | (with_reducible refine wp_condE ?_
         refine ⟨_, rfl, ?_, ?_⟩ <;> (intro hc; (try simp at hc); (all_goals first | (exfalso; omega) | skip))))
    have hX2 : Y2 ≠ [] := fun e => by subst e; simp at hy2; omega
    have hY1 : Y1 ≠ [] := fun e => by subst e; simp at hny; omega
    all_goals exact ⟨((P1, X ++ S1), (Y2, Y1)), by simp only [← hQ2, hy2]; simp, ⟨by simpa using h1, hX2, hY1, by simp only [hy2]; exact h4⟩, by simp only; omega⟩
  · have hn1 : ((X.length : Int) = (Y.length : Int)) := by omega
    have hcall := s409 (g := g) (c := c) P1 X [] Y S1 hc1 (by simp; omega) (P1.length) m (X.length) rfl (by simp; omega) rfl
    simp only [List.append_nil] at hcall
    simp only [dat, lft] at hcall
    generalize (P1 ++ X ++ Y ++ S1).map ei = Q at hcall ⊢
    generalize hQ2 : (P1 ++ Y ++ X ++ S1).map ei = Q2 at hcall
    rw [h1] at hQ2
    rw [hn1] at hv1 hcall
    repeat' (first
      | with_reducible (first | refine wp_seq ?_ | refine wp_blk ?_ | refine wp_skip ?_ | refine wp_exit ?_ | refine wp_ret ?_ | refine seqQ_norm ?_ | refine seqQ_ret ?_ | refine seqQ_exit ?_ | refine blkQ_norm ?_ | refine blkQ_ret ?_ | refine blkQ_exit ?_ | refine loopQ_norm ?_ | refine loopQ_exit ?_ | refine loopQ_ret ?_ | refine endQ_ret ?_ | refine endQ_norm ?_ | refine endE_ret ?_ | refine endE_norm ?_ | refine endI_ret ?_ | refine endI_norm ?_)
      | (with_reducible refine wp_regK fun K hK => ?_
         simp[hn1, hv1, hcall]
         repeat' (with_reducible first | refine hK _ ?_ | (refine psel ?_ ?_ <;> (intro hc; (try rw [Decidable.not_not] at hc); first | (exfalso; omega) | (try simp [hc, hn1, hv1, hcall]))))
         all_goals (clear hK; clear K))
      | (with_reducible refine wp_condE ?_
         refine ⟨_, rfl, ?_, ?_⟩ <;> (intro hc; (try simp at hc); (all_goals first | (exfalso; omega) | skip))))
    all_goals simp [pf407, ← hQ2]
  · have hn1 : ¬ ((X.length : Int) = (Y.length : Int)) := by omega
    have hn2 : ((Y.length : Int) < (X.length : Int)) := by omega
    obtain ⟨X1, X2, rfl, hx2⟩ : ∃ X1 X2, X = X1 ++ X2 ∧ X1.length = Y.length := ⟨X.take Y.length, X.drop Y.length, by simp, by simp; omega⟩
    simp only [List.length_append] at h5 h6 hc1 hn1 hn2 hv1 h4
    have hcall := s409 (g := g) (c := c) P1 X1 X2 Y S1 hx2 (by simp; omega) (P1.length) m (Y.length) rfl (by omega) (by omega)
    have hv4 : IntKind.wrap .i64 (((X1.length + X2.length : Nat) : Int) - (Y.length : Int)) = (X2.length : Int) := by rw [wrap_i64 (by omega) (by omega)]; omega
    simp only [show P1 ++ (X1 ++ X2) ++ Y ++ S1 = P1 ++ X1 ++ X2 ++ Y ++ S1 by simp, List.length_append]
    simp only [dat, lft] at hcall
    generalize (P1 ++ X1 ++ X2 ++ Y ++ S1).map ei = Q at hcall ⊢
    generalize hQ2 : (P1 ++ Y ++ X2 ++ X1 ++ S1).map ei = Q2 at hcall
    generalize hny : X1.length + X2.length = nx at *
    repeat' (first
      | with_reducible (first | refine wp_seq ?_ | refine wp_blk ?_ | refine wp_skip ?_ | refine wp_exit ?_ | refine wp_ret ?_ | refine seqQ_norm ?_ | refine seqQ_ret ?_ | refine seqQ_exit ?_ | refine blkQ_norm ?_ | refine blkQ_ret ?_ | refine blkQ_exit ?_ | refine loopQ_norm ?_ | refine loopQ_exit ?_ | refine loopQ_ret ?_ | refine endQ_ret ?_ | refine endQ_norm ?_ | refine endE_ret ?_ | refine endE_norm ?_ | refine endI_ret ?_ | refine endI_norm ?_)
      | (with_reducible refine wp_regK fun K hK => ?_
         simp[hn1, hn2, hv1, hv4, hcall]
         repeat' (with_reducible first | refine hK _ ?_ | (refine psel ?_ ?_ <;> (intro hc; (try rw [Decidable.not_not] at hc); first | (exfalso; omega) | (try simp [hc, hn1, hn2, hv1, hv4, hcall]))))
         all_goals (clear hK; clear K))
      | (with_reducible refine wp_condE ?_
         refine ⟨_, rfl, ?_, ?_⟩ <;> (intro hc; (try simp at hc); (all_goals first | (exfalso; omega) | skip))))
    have hX2 : X1 ≠ [] := fun e => by subst e; simp at hx2; omega
    have hY1 : X2 ≠ [] := fun e => by subst e; simp at hny; omega
    all_goals exact ⟨((P1 ++ Y, S1), (X2, X1)), by simp only [← hQ2, hx2], ⟨by simpa using h1, hY1, hX2, by simp only [List.length_append]; omega⟩, by simp only; omega⟩

theorem srt_get {ky : Int → Int} {A : List Int} (h : Srt ky A) {t u : Nat} {x y : Int} (hx : A[t]? = some x) (hy : A[u]? = some y) (htu : t ≤ u) : ky x ≤ ky y := by
  obtain ⟨h1, rfl⟩ := List.getElem?_eq_some_iff.1 hx
  obtain ⟨h2, rfl⟩ := List.getElem?_eq_some_iff.1 hy
  rcases Nat.lt_or_ge t u with h3 | h3
  · exact ((List.pairwise_iff_getElem.1 h) t u h1 h2 h3).le
  · have : t = u := by omega
    subst this; exact Int.le_refl _

theorem mem_take_get {A : List Int} {n : Nat} {x : Int} (h : x ∈ A.take n) : ∃ t : Nat, t < n ∧ A[t]? = some x := by
  obtain ⟨t, ht⟩ := List.mem_iff_getElem?.1 h
  rw [List.getElem?_take] at ht
  split at ht
  · exact ⟨t, by assumption, ht⟩
  · cases ht

theorem mem_drop_get {A : List Int} {n : Nat} {x : Int} (h : x ∈ A.drop n) : ∃ t : Nat, n ≤ t ∧ A[t]? = some x := by
  obtain ⟨t, ht⟩ := List.mem_iff_getElem?.1 h
  rw [List.getElem?_drop] at ht
  exact ⟨n + t, by omega, ht⟩

theorem mid_eq {x : Int} {h : Nat} (h0 : 0 ≤ x) (hx : x ≤ 4611686018427387904) (hh : (h : Int) = x / 2) : IntKind.wrap .i64 ((IntKind.wrap .u64 x).fdiv (2 ^ min 1 IntKind.u64.bits)) = (h : Int) := by
  have h1 : IntKind.wrap .u64 x = x := by simp [IntKind.wrap, IntKind.signed, IntKind.bits]; omega
  rw [h1, show (2 : Int) ^ min 1 IntKind.u64.bits = 2 from rfl, Int.fdiv_eq_ediv_of_nonneg _ (by omega), ← hh]
  exact wrap_i64 (by omega) (by omega)

/-- The left run is one element. -/
theorem s410a {g : Nat} {c : D} {ky : Int → Int} {p : Int → Prop} (hcmp : CmpOk g c ky p) (P R S : List Int) (x : Int) (hp : ∀ y ∈ x :: R, p y) (hlen : (P ++ x :: R ++ S).length ≤ 1099511627776) (hR : Srt ky R) (hx : ∀ y ∈ R, x < y) (a m b : Int)
    (ha : a = P.length) (hm : m = P.length + 1) (hb : b = P.length + 1 + R.length) :
    ∃ W, W.Perm (x :: R) ∧ Srt ky W ∧ Gw TT 410 [dat (P ++ x :: R ++ S), vi a, vi m, vi b, fv g c] = some (lft (P ++ W ++ S)) := by
  suffices h : ∃ y, Gw TT 410 [dat (P ++ x :: R ++ S), vi a, vi m, vi b, fv g c] = some y ∧ ∃ W, W.Perm (x :: R) ∧ Srt ky W ∧ y = lft (P ++ W ++ S) by
    obtain ⟨y, h1, W, h2, h3, rfl⟩ := h
    exact ⟨W, h2, h3, h1⟩
  refine Gw_ofE (F := pf410) rfl rfl ?_
  show Wp _ pb410 _ _
  unfold pb410
  simp only [List.length_append, List.length_cons] at hlen
  have hw1 : IntKind.wrap .i64 (m - a) = 1 := by rw [wrap_i64 (by omega) (by omega)]; omega
  have hLl : ((P ++ x :: R ++ S).map ei).length = P.length + 1 + R.length + S.length := by simp; omega
  have hgx : ((P ++ x :: R ++ S).map ei)[P.length]? = some [di x] := by simp
  have hgr : ∀ t y, R[t]? = some y → ((P ++ x :: R ++ S).map ei)[P.length + 1 + t]? = some [di y] := fun t y h => by
    have := lt_of_get h
    rw [show P ++ x :: R ++ S = (P ++ [x]) ++ (R ++ S) by simp, List.map_append, List.getElem?_append_right (by simp), List.map_append, List.getElem?_append_left (by simp; omega)]
    simp [h]
  simp only [dat]
  generalize hL : (P ++ x :: R ++ S).map ei = Lx at hLl hgx hgr ⊢
  repeat' (first
    | with_reducible (first | refine wp_seq ?_ | refine wp_blk ?_ | refine wp_skip ?_ | refine wp_exit ?_ | refine wp_ret ?_ | refine seqQ_norm ?_ | refine seqQ_ret ?_ | refine seqQ_exit ?_ | refine blkQ_norm ?_ | refine blkQ_ret ?_ | refine blkQ_exit ?_ | refine loopQ_norm ?_ | refine loopQ_exit ?_ | refine loopQ_ret ?_ | refine endQ_ret ?_ | refine endQ_norm ?_ | refine endE_ret ?_ | refine endE_norm ?_ | refine endI_ret ?_ | refine endI_norm ?_)
    | (with_reducible refine wp_regK fun K hK => ?_
       simp[hw1]
       repeat' (with_reducible first | refine hK _ ?_ | (refine psel ?_ ?_ <;> (intro hc; (try rw [Decidable.not_not] at hc); first | (exfalso; omega) | (try simp [hc, hw1]))))
       all_goals (clear hK; clear K))
    | (with_reducible refine wp_condE ?_
       refine ⟨_, rfl, ?_, ?_⟩ <;> (intro hc; (try simp at hc); (all_goals first | (exfalso; omega) | skip))))
  refine wp_loopI (σ := (Nat × Nat) × (AL × AV)) (fun s => (0, AV.pl 0 0 [], some (Rt.vir [C.own (D.sl 1 Lx)])) :: (1, AV.v false (di a), none) :: (4, AV.v true (.fn g [c]), none) :: (10, AV.v false (di (m + s.1.1)), none) :: (11, AV.v false (di (m + s.1.2)), none) :: s.2.1)
    (fun s => s.1.1 ≤ s.1.2 ∧ s.1.2 ≤ R.length ∧ (∀ t y, R[t]? = some y → t < s.1.1 → ky y < ky x) ∧ (∀ t y, R[t]? = some y → s.1.2 ≤ t → ky x ≤ ky y) ∧ AL.get s.2.1 12 = (s.2.2, none)) (fun s => s.1.2 - s.1.1) ((0, R.length), ([], .un)) ?_ ?_ ?_
  · simp [hm, hb]
  · exact ⟨by simp, Nat.le_refl _, fun t y h1 h2 => absurd h2 (by simp), fun t y h1 h2 => absurd (lt_of_get h1) (by simp only at h2; omega), rfl⟩
  · rintro ⟨⟨i, j⟩, ⟨tl, z⟩⟩ ⟨h1, h2, h3, h4, h5⟩
    simp only at h1 h2 h3 h4 h5 ⊢
    unfold pl410_4
    by_cases hij : i < j
    · have hc1 : m + (i : Int) < m + (j : Int) := by omega
      obtain ⟨h, hh⟩ : ∃ h : Nat, h = (i + j) / 2 := ⟨_, rfl⟩
      obtain ⟨y, hy⟩ : ∃ y, R[h]? = some y := ⟨R[h]'(by omega), by simp⟩
      obtain ⟨k, hk⟩ : ∃ k : Nat, k = P.length + 1 + h := ⟨_, rfl⟩
      have hg1 := hgr h y hy
      rw [← hk] at hg1
      have hw2 : IntKind.wrap .i64 (m + (i : Int) + (m + (j : Int))) = m + (i : Int) + (m + (j : Int)) := wrap_i64 (by omega) (by omega)
      have hmid := mid_eq (x := m + (i : Int) + (m + (j : Int))) (h := k) (by omega) (by omega) (by omega)
      have hb1 : (k : Int) < (Lx.length : Int) := by omega
      have hb2 : ((P.length : Nat) : Int) < (Lx.length : Int) := by omega
      have hcx := hcmp y x (hp y (List.mem_cons_of_mem _ (List.mem_of_getElem? hy))) (hp x (by simp))
      have hw3 : IntKind.wrap .i64 ((k : Int) + 1) = (k : Int) + 1 := wrap_i64 (by omega) (by omega)
      subst ha
      by_cases hlt : icmp (ky y) (ky x) < 0
      · repeat' (first
          | with_reducible (first | refine wp_seq ?_ | refine wp_blk ?_ | refine wp_skip ?_ | refine wp_exit ?_ | refine wp_ret ?_ | refine seqQ_norm ?_ | refine seqQ_ret ?_ | refine seqQ_exit ?_ | refine blkQ_norm ?_ | refine blkQ_ret ?_ | refine blkQ_exit ?_ | refine loopQ_norm ?_ | refine loopQ_exit ?_ | refine loopQ_ret ?_ | refine endQ_ret ?_ | refine endQ_norm ?_ | refine endE_ret ?_ | refine endE_norm ?_ | refine endI_ret ?_ | refine endI_norm ?_)
          | (with_reducible refine wp_regK fun K hK => ?_
             simp[h5, hc1, hw2, hw3, hmid, hg1, hgx, hb1, hb2, hcx, hlt]
             repeat' (with_reducible first | refine hK _ ?_ | (refine psel ?_ ?_ <;> (intro hc; (try rw [Decidable.not_not] at hc); first | (exfalso; omega) | (try simp [hc, h5, hc1, hw2, hw3, hmid, hg1, hgx, hb1, hb2, hcx, hlt]))))
             all_goals (clear hK; clear K))
          | (with_reducible refine wp_condE ?_
             refine ⟨_, rfl, ?_, ?_⟩ <;> (intro hc; (try simp at hc); (all_goals first | (exfalso; omega) | skip))))
        all_goals exact ⟨((h + 1, j), ([(12, AV.v false (D.int IntKind.i64 ↑k), none)], AV.v false (D.int IntKind.i64 ↑k))), by simp; omega, ⟨by simp only; omega, h2, fun t u h6 h7 => by
          have h8 := srt_get hR h6 hy (by simp only at h7; omega)
          have h9 := (icmp_neg _ _).1 hlt
          omega, h4, rfl⟩, by simp only; omega⟩
      · repeat' (first
          | with_reducible (first | refine wp_seq ?_ | refine wp_blk ?_ | refine wp_skip ?_ | refine wp_exit ?_ | refine wp_ret ?_ | refine seqQ_norm ?_ | refine seqQ_ret ?_ | refine seqQ_exit ?_ | refine blkQ_norm ?_ | refine blkQ_ret ?_ | refine blkQ_exit ?_ | refine loopQ_norm ?_ | refine loopQ_exit ?_ | refine loopQ_ret ?_ | refine endQ_ret ?_ | refine endQ_norm ?_ | refine endE_ret ?_ | refine endE_norm ?_ | refine endI_ret ?_ | refine endI_norm ?_)
          | (with_reducible refine wp_regK fun K hK => ?_
             simp[h5, hc1, hw2, hw3, hmid, hg1, hgx, hb1, hb2, hcx, hlt]
             repeat' (with_reducible first | refine hK _ ?_ | (refine psel ?_ ?_ <;> (intro hc; (try rw [Decidable.not_not] at hc); first | (exfalso; omega) | (try simp [hc, h5, hc1, hw2, hw3, hmid, hg1, hgx, hb1, hb2, hcx, hlt]))))
             all_goals (clear hK; clear K))
          | (with_reducible refine wp_condE ?_
             refine ⟨_, rfl, ?_, ?_⟩ <;> (intro hc; (try simp at hc); (all_goals first | (exfalso; omega) | skip))))
        all_goals exact ⟨((i, h), ([(12, AV.v false (D.int IntKind.i64 ↑k), none)], AV.v false (D.int IntKind.i64 ↑k))), by simp; omega, ⟨by simp only; omega, by simp only; omega, h3, fun t u h6 h7 => by
          have h8 := srt_get hR hy h6 (by simp only at h7; omega)
          have h9 : ¬ ky y < ky x := fun h => hlt ((icmp_neg _ _).2 h)
          omega, rfl⟩, by simp only; omega⟩
    · have : i = j := by omega
      subst this
      have hc1 : ¬ (m + (i : Int) < m + (i : Int)) := by omega
      repeat' (first
        | with_reducible (first | refine wp_seq ?_ | refine wp_blk ?_ | refine wp_skip ?_ | refine wp_exit ?_ | refine wp_ret ?_ | refine seqQ_norm ?_ | refine seqQ_ret ?_ | refine seqQ_exit ?_ | refine blkQ_norm ?_ | refine blkQ_ret ?_ | refine blkQ_exit ?_ | refine loopQ_norm ?_ | refine loopQ_exit ?_ | refine loopQ_ret ?_ | refine endQ_ret ?_ | refine endQ_norm ?_ | refine endE_ret ?_ | refine endE_norm ?_ | refine endI_ret ?_ | refine endI_norm ?_)
        | (with_reducible refine wp_regK fun K hK => ?_
           simp[h5, hc1]
           repeat' (with_reducible first | refine hK _ ?_ | (refine psel ?_ ?_ <;> (intro hc; (try rw [Decidable.not_not] at hc); first | (exfalso; omega) | (try simp [hc, h5, hc1]))))
           all_goals (clear hK; clear K))
        | (with_reducible refine wp_condE ?_
           refine ⟨_, rfl, ?_, ?_⟩ <;> (intro hc; (try simp at hc); (all_goals first | (exfalso; omega) | skip))))
      clear hc1 hij
      have hR12 : R = R.take i ++ R.drop i := (List.take_append_drop i R).symm
      have ht1 : (R.take i).length = i := by simp; omega
      have hW : (R.take i ++ x :: R.drop i).Perm (x :: R) := by
        refine List.perm_middle.trans ?_
        rw [List.take_append_drop]
      have hWs : Srt ky (R.take i ++ x :: R.drop i) := srt_ins (by rw [← hR12]; exact hR) (fun v hv => by
        obtain ⟨t, e1, e2⟩ := mem_drop_get hv
        exact slt_of_le (h4 t v e2 e1) (hx v (List.mem_of_getElem? e2))) (fun v hv => by
        obtain ⟨t, e1, e2⟩ := mem_take_get hv
        exact .inl (h3 t v e2 e1))
      generalize R.take i = T1 at *
      generalize R.drop i = T2 at *
      have hv0 : IntKind.wrap .i64 (m + (i : Int) - 1) = m + (i : Int) - 1 := wrap_i64 (by omega) (by omega)
      refine wp_loopI (σ := Nat × (List Int × List Int)) (fun s => [(0, AV.pl 0 0 [], some (Rt.vir [C.own (D.sl 1 ((P ++ s.2.1 ++ x :: s.2.2 ++ T2 ++ S).map ei))])), (10, AV.v false (di (m + (i : Int))), none), (13, AV.v false (di (s.1 : Nat)), none)])
        (fun s => s.1 = P.length + s.2.1.length ∧ T1 = s.2.1 ++ s.2.2) (fun s => s.2.2.length) (P.length, ([], T1)) (by simp [← hL, ha, hR12]) ⟨by simp, by simp⟩ ?_
      rintro ⟨k, ⟨U, V⟩⟩ ⟨q1, q2⟩
      simp only at q1 q2 ⊢
      unfold pl410_3
      have hlT : U.length + V.length = i := by rw [← ht1, q2]; simp
      rcases V with _ | ⟨y, V⟩
      · have hn : ¬ ((k : Int) < m + (i : Int) - 1) := by simp at hlT; omega
        repeat' (first
          | with_reducible (first | refine wp_seq ?_ | refine wp_blk ?_ | refine wp_skip ?_ | refine wp_exit ?_ | refine wp_ret ?_ | refine seqQ_norm ?_ | refine seqQ_ret ?_ | refine seqQ_exit ?_ | refine blkQ_norm ?_ | refine blkQ_ret ?_ | refine blkQ_exit ?_ | refine loopQ_norm ?_ | refine loopQ_exit ?_ | refine loopQ_ret ?_ | refine endQ_ret ?_ | refine endQ_norm ?_ | refine endE_ret ?_ | refine endE_norm ?_ | refine endI_ret ?_ | refine endI_norm ?_)
          | (with_reducible refine wp_regK fun K hK => ?_
             simp[hv0, hn]
             repeat' (with_reducible first | refine hK _ ?_ | (refine psel ?_ ?_ <;> (intro hc; (try rw [Decidable.not_not] at hc); first | (exfalso; omega) | (try simp [hc, hv0, hn]))))
             all_goals (clear hK; clear K))
          | (with_reducible refine wp_condE ?_
             refine ⟨_, rfl, ?_, ?_⟩ <;> (intro hc; (try simp at hc); (all_goals first | (exfalso; omega) | skip))))
        all_goals exact ⟨_, rfl, T1 ++ x :: T2, hW, hWs, by simp [q2]⟩
      · have hn : ((k : Int) < m + (i : Int) - 1) := by simp at hlT; omega
        have e1 : P ++ U ++ x :: (y :: V) ++ T2 ++ S = (P ++ U) ++ x :: ([] ++ y :: (V ++ T2 ++ S)) := by simp
        obtain ⟨k2, hk2⟩ : ∃ k2 : Nat, k2 = k + 1 := ⟨_, rfl⟩
        have hg1 := sw_get1 (P ++ U) [] (V ++ T2 ++ S) x y (k1 := k) (by simp [q1])
        have hg2 := sw_get2 (P ++ U) [] (V ++ T2 ++ S) x y (k2 := k2) (by simp [hk2, q1])
        have hs := sw_map (P ++ U) [] (V ++ T2 ++ S) x y (k1 := k) (k2 := k2) (by simp [q1]) (by simp [hk2, q1])
        have hL2 : k2 < (((P ++ U) ++ x :: ([] ++ y :: (V ++ T2 ++ S))).map ei).length := by simp; omega
        simp only [e1]
        generalize ((P ++ U) ++ x :: ([] ++ y :: (V ++ T2 ++ S))).map ei = Q at *
        have hv1 : IntKind.wrap .i64 ((k : Int) + 1) = (k2 : Int) := by rw [wrap_i64 (by omega) (by omega)]; omega
        have hb1 : (k : Int) < (Q.length : Int) := by omega
        have hb2 : (k2 : Int) < (Q.length : Int) := by omega
        have hne : ¬ k = k2 := by omega
        repeat' (first
          | with_reducible (first | refine wp_seq ?_ | refine wp_blk ?_ | refine wp_skip ?_ | refine wp_exit ?_ | refine wp_ret ?_ | refine seqQ_norm ?_ | refine seqQ_ret ?_ | refine seqQ_exit ?_ | refine blkQ_norm ?_ | refine blkQ_ret ?_ | refine blkQ_exit ?_ | refine loopQ_norm ?_ | refine loopQ_exit ?_ | refine loopQ_ret ?_ | refine endQ_ret ?_ | refine endQ_norm ?_ | refine endE_ret ?_ | refine endE_norm ?_ | refine endI_ret ?_ | refine endI_norm ?_)
          | (with_reducible refine wp_regK fun K hK => ?_
             simp[hv0, hn, hv1, hg1, hg2, hb1, hb2, hne]
             repeat' (with_reducible first | refine hK _ ?_ | (refine psel ?_ ?_ <;> (intro hc; (try rw [Decidable.not_not] at hc); first | (exfalso; omega) | (try simp [hc, hv0, hn, hv1, hg1, hg2, hb1, hb2, hne]))))
             all_goals (clear hK; clear K))
          | (with_reducible refine wp_condE ?_
             refine ⟨_, rfl, ?_, ?_⟩ <;> (intro hc; (try simp at hc); (all_goals first | (exfalso; omega) | skip))))
        all_goals exact ⟨(k2, (U ++ [y], V)), by rw [hs]; simp, ⟨by simp only [List.length_append, List.length_cons, List.length_nil]; omega, by simp [q2]⟩, by simp⟩

/-- The right run is one element. -/
theorem s410b {g : Nat} {c : D} {ky : Int → Int} {p : Int → Prop} (hcmp : CmpOk g c ky p) (P L S : List Int) (x : Int) (hp : ∀ y ∈ L ++ [x], p y) (hlen : (P ++ L ++ x :: S).length ≤ 1099511627776) (hR : Srt ky L) (hx : ∀ y ∈ L, y < x) (a m b : Int)
    (hl2 : 2 ≤ L.length) (ha : a = P.length) (hm : m = P.length + L.length) (hb : b = P.length + L.length + 1) :
    ∃ W, W.Perm (L ++ [x]) ∧ Srt ky W ∧ Gw TT 410 [dat (P ++ L ++ x :: S), vi a, vi m, vi b, fv g c] = some (lft (P ++ W ++ S)) := by
  suffices h : ∃ y, Gw TT 410 [dat (P ++ L ++ x :: S), vi a, vi m, vi b, fv g c] = some y ∧ ∃ W, W.Perm (L ++ [x]) ∧ Srt ky W ∧ y = lft (P ++ W ++ S) by
    obtain ⟨y, h1, W, h2, h3, rfl⟩ := h
    exact ⟨W, h2, h3, h1⟩
  refine Gw_ofE (F := pf410) rfl rfl ?_
  show Wp _ pb410 _ _
  unfold pb410
  simp only [List.length_append, List.length_cons] at hlen
  have hw0 : IntKind.wrap .i64 (m - a) = (L.length : Int) := by rw [wrap_i64 (by omega) (by omega)]; omega
  have hw0' : ¬ (L.length : Int) = 1 := by omega
  have hw1 : IntKind.wrap .i64 (b - m) = 1 := by rw [wrap_i64 (by omega) (by omega)]; omega
  have hLl : ((P ++ L ++ x :: S).map ei).length = P.length + L.length + 1 + S.length := by simp; omega
  obtain ⟨km, hkm⟩ : ∃ k : Nat, k = P.length + L.length := ⟨_, rfl⟩
  have hgx : ((P ++ L ++ x :: S).map ei)[km]? = some [di x] := by
    rw [List.map_append, List.map_cons]; exact get_mid _ _ _ (by simp [hkm])
  have hgr : ∀ t y, L[t]? = some y → ((P ++ L ++ x :: S).map ei)[P.length + t]? = some [di y] := fun t y h => by
    have := lt_of_get h
    rw [show P ++ L ++ x :: S = P ++ (L ++ x :: S) by simp, List.map_append, List.getElem?_append_right (by simp), List.map_append, List.getElem?_append_left (by simp; omega)]
    simp [h]
  simp only [dat]
  generalize hL : (P ++ L ++ x :: S).map ei = Lx at hLl hgx hgr ⊢
  have hmk : m = (km : Int) := by omega
  subst hmk
  repeat' (first
    | with_reducible (first | refine wp_seq ?_ | refine wp_blk ?_ | refine wp_skip ?_ | refine wp_exit ?_ | refine wp_ret ?_ | refine seqQ_norm ?_ | refine seqQ_ret ?_ | refine seqQ_exit ?_ | refine blkQ_norm ?_ | refine blkQ_ret ?_ | refine blkQ_exit ?_ | refine loopQ_norm ?_ | refine loopQ_exit ?_ | refine loopQ_ret ?_ | refine endQ_ret ?_ | refine endQ_norm ?_ | refine endE_ret ?_ | refine endE_norm ?_ | refine endI_ret ?_ | refine endI_norm ?_)
    | (with_reducible refine wp_regK fun K hK => ?_
       simp[hw0, hw0', hw1]
       repeat' (with_reducible first | refine hK _ ?_ | (refine psel ?_ ?_ <;> (intro hc; (try rw [Decidable.not_not] at hc); first | (exfalso; omega) | (try simp [hc, hw0, hw0', hw1]))))
       all_goals (clear hK; clear K))
    | (with_reducible refine wp_condE ?_
       refine ⟨_, rfl, ?_, ?_⟩ <;> (intro hc; (try simp at hc); (all_goals first | (exfalso; omega) | skip))))
  refine wp_loopI (σ := (Nat × Nat) × (AL × AV)) (fun s => (0, AV.pl 0 0 [], some (Rt.vir [C.own (D.sl 1 Lx)])) :: (2, AV.v false (di km), none) :: (4, AV.v true (.fn g [c]), none) :: (14, AV.v false (di (a + s.1.1)), none) :: (15, AV.v false (di (a + s.1.2)), none) :: s.2.1)
    (fun s => s.1.1 ≤ s.1.2 ∧ s.1.2 ≤ L.length ∧ (∀ t y, L[t]? = some y → t < s.1.1 → ky y ≤ ky x) ∧ (∀ t y, L[t]? = some y → s.1.2 ≤ t → ky x < ky y) ∧ AL.get s.2.1 16 = (s.2.2, none)) (fun s => s.1.2 - s.1.1) ((0, L.length), ([], .un)) ?_ ?_ ?_
  · simp [ha, hkm]
  · exact ⟨by simp, Nat.le_refl _, fun t y h1 h2 => absurd h2 (by simp), fun t y h1 h2 => absurd (lt_of_get h1) (by simp only at h2; omega), rfl⟩
  · rintro ⟨⟨i, j⟩, ⟨tl, z⟩⟩ ⟨h1, h2, h3, h4, h5⟩
    simp only at h1 h2 h3 h4 h5 ⊢
    unfold pl410_2
    by_cases hij : i < j
    · have hc1 : a + (i : Int) < a + (j : Int) := by omega
      obtain ⟨h, hh⟩ : ∃ h : Nat, h = (i + j) / 2 := ⟨_, rfl⟩
      obtain ⟨y, hy⟩ : ∃ y, L[h]? = some y := ⟨L[h]'(by omega), by simp⟩
      obtain ⟨k, hk⟩ : ∃ k : Nat, k = P.length + h := ⟨_, rfl⟩
      have hg1 := hgr h y hy
      rw [← hk] at hg1
      have hw2 : IntKind.wrap .i64 (a + (i : Int) + (a + (j : Int))) = a + (i : Int) + (a + (j : Int)) := wrap_i64 (by omega) (by omega)
      have hmid := mid_eq (x := a + (i : Int) + (a + (j : Int))) (h := k) (by omega) (by omega) (by omega)
      have hb1 : (k : Int) < (Lx.length : Int) := by omega
      have hb2 : (km : Int) < (Lx.length : Int) := by omega
      have hcx := hcmp x y (hp x (by simp)) (hp y (List.mem_append_left _ (List.mem_of_getElem? hy)))
      have hw3 : IntKind.wrap .i64 ((k : Int) + 1) = (k : Int) + 1 := wrap_i64 (by omega) (by omega)
      by_cases hlt : icmp (ky x) (ky y) < 0
      · repeat' (first
          | with_reducible (first | refine wp_seq ?_ | refine wp_blk ?_ | refine wp_skip ?_ | refine wp_exit ?_ | refine wp_ret ?_ | refine seqQ_norm ?_ | refine seqQ_ret ?_ | refine seqQ_exit ?_ | refine blkQ_norm ?_ | refine blkQ_ret ?_ | refine blkQ_exit ?_ | refine loopQ_norm ?_ | refine loopQ_exit ?_ | refine loopQ_ret ?_ | refine endQ_ret ?_ | refine endQ_norm ?_ | refine endE_ret ?_ | refine endE_norm ?_ | refine endI_ret ?_ | refine endI_norm ?_)
          | (with_reducible refine wp_regK fun K hK => ?_
             simp[h5, hc1, hw2, hw3, hmid, hg1, hgx, hb1, hb2, hcx, hlt]
             repeat' (with_reducible first | refine hK _ ?_ | (refine psel ?_ ?_ <;> (intro hc; (try rw [Decidable.not_not] at hc); first | (exfalso; omega) | (try simp [hc, h5, hc1, hw2, hw3, hmid, hg1, hgx, hb1, hb2, hcx, hlt]))))
             all_goals (clear hK; clear K))
          | (with_reducible refine wp_condE ?_
             refine ⟨_, rfl, ?_, ?_⟩ <;> (intro hc; (try simp at hc); (all_goals first | (exfalso; omega) | skip))))
        all_goals exact ⟨((i, h), ([(16, AV.v false (D.int IntKind.i64 ↑k), none)], AV.v false (D.int IntKind.i64 ↑k))), by simp; omega, ⟨by simp only; omega, by simp only; omega, h3, fun t u h6 h7 => by
          have h8 := srt_get hR hy h6 (by simp only at h7; omega)
          have h9 := (icmp_neg _ _).1 hlt
          omega, rfl⟩, by simp only; omega⟩
      · repeat' (first
          | with_reducible (first | refine wp_seq ?_ | refine wp_blk ?_ | refine wp_skip ?_ | refine wp_exit ?_ | refine wp_ret ?_ | refine seqQ_norm ?_ | refine seqQ_ret ?_ | refine seqQ_exit ?_ | refine blkQ_norm ?_ | refine blkQ_ret ?_ | refine blkQ_exit ?_ | refine loopQ_norm ?_ | refine loopQ_exit ?_ | refine loopQ_ret ?_ | refine endQ_ret ?_ | refine endQ_norm ?_ | refine endE_ret ?_ | refine endE_norm ?_ | refine endI_ret ?_ | refine endI_norm ?_)
          | (with_reducible refine wp_regK fun K hK => ?_
             simp[h5, hc1, hw2, hw3, hmid, hg1, hgx, hb1, hb2, hcx, hlt]
             repeat' (with_reducible first | refine hK _ ?_ | (refine psel ?_ ?_ <;> (intro hc; (try rw [Decidable.not_not] at hc); first | (exfalso; omega) | (try simp [hc, h5, hc1, hw2, hw3, hmid, hg1, hgx, hb1, hb2, hcx, hlt]))))
             all_goals (clear hK; clear K))
          | (with_reducible refine wp_condE ?_
             refine ⟨_, rfl, ?_, ?_⟩ <;> (intro hc; (try simp at hc); (all_goals first | (exfalso; omega) | skip))))
        all_goals exact ⟨((h + 1, j), ([(16, AV.v false (D.int IntKind.i64 ↑k), none)], AV.v false (D.int IntKind.i64 ↑k))), by simp; omega, ⟨by simp only; omega, h2, fun t u h6 h7 => by
          have h8 := srt_get hR h6 hy (by simp only at h7; omega)
          have h9 : ¬ ky x < ky y := fun h => hlt ((icmp_neg _ _).2 h)
          omega, h4, rfl⟩, by simp only; omega⟩
    · have : i = j := by omega
      subst this
      have hc1 : ¬ (a + (i : Int) < a + (i : Int)) := by omega
      repeat' (first
        | with_reducible (first | refine wp_seq ?_ | refine wp_blk ?_ | refine wp_skip ?_ | refine wp_exit ?_ | refine wp_ret ?_ | refine seqQ_norm ?_ | refine seqQ_ret ?_ | refine seqQ_exit ?_ | refine blkQ_norm ?_ | refine blkQ_ret ?_ | refine blkQ_exit ?_ | refine loopQ_norm ?_ | refine loopQ_exit ?_ | refine loopQ_ret ?_ | refine endQ_ret ?_ | refine endQ_norm ?_ | refine endE_ret ?_ | refine endE_norm ?_ | refine endI_ret ?_ | refine endI_norm ?_)
        | (with_reducible refine wp_regK fun K hK => ?_
           simp[h5, hc1]
           repeat' (with_reducible first | refine hK _ ?_ | (refine psel ?_ ?_ <;> (intro hc; (try rw [Decidable.not_not] at hc); first | (exfalso; omega) | (try simp [hc, h5, hc1]))))
           all_goals (clear hK; clear K))
        | (with_reducible refine wp_condE ?_
           refine ⟨_, rfl, ?_, ?_⟩ <;> (intro hc; (try simp at hc); (all_goals first | (exfalso; omega) | skip))))
      clear hc1 hij
      have hR12 : L = L.take i ++ L.drop i := (List.take_append_drop i L).symm
      have ht1 : (L.take i).length = i := by simp; omega
      have ht2 : (L.drop i).length = L.length - i := by simp
      have hW : (L.take i ++ x :: L.drop i).Perm (L ++ [x]) := by
        refine List.perm_middle.trans ?_
        rw [List.take_append_drop]
        exact (List.perm_append_singleton x L).symm
      have hWs : Srt ky (L.take i ++ x :: L.drop i) := srt_ins (by rw [← hR12]; exact hR) (fun v hv => by
        obtain ⟨t, e1, e2⟩ := mem_drop_get hv
        exact .inl (h4 t v e2 e1)) (fun v hv => by
        obtain ⟨t, e1, e2⟩ := mem_take_get hv
        exact slt_of_le (h3 t v e2 e1) (hx v (List.mem_of_getElem? e2)))
      generalize L.take i = T1 at *
      generalize L.drop i = T2 at *
      refine wp_loopI (σ := Nat × (List Int × List Int)) (fun s => [(0, AV.pl 0 0 [], some (Rt.vir [C.own (D.sl 1 ((P ++ T1 ++ s.2.1 ++ x :: s.2.2 ++ S).map ei))])), (14, AV.v false (di (a + (i : Int))), none), (17, AV.v false (di (s.1 : Nat)), none)])
        (fun s => s.1 = P.length + T1.length + s.2.1.length ∧ T2 = s.2.1 ++ s.2.2) (fun s => s.2.1.length) (km, (T2, [])) (by simp [← hL, hR12]) ⟨by simp only; omega, by simp⟩ ?_
      rintro ⟨k, ⟨U, V⟩⟩ ⟨q1, q2⟩
      simp only at q1 q2 ⊢
      unfold pl410_1
      have hlT : U.length + V.length = L.length - i := by rw [← ht2, q2]; simp
      rcases List.eq_nil_or_concat U with rfl | ⟨U, y, rfl⟩
      · have hn : ¬ (a + (i : Int) < (k : Int)) := by simp at hlT q1; omega
        repeat' (first
          | with_reducible (first | refine wp_seq ?_ | refine wp_blk ?_ | refine wp_skip ?_ | refine wp_exit ?_ | refine wp_ret ?_ | refine seqQ_norm ?_ | refine seqQ_ret ?_ | refine seqQ_exit ?_ | refine blkQ_norm ?_ | refine blkQ_ret ?_ | refine blkQ_exit ?_ | refine loopQ_norm ?_ | refine loopQ_exit ?_ | refine loopQ_ret ?_ | refine endQ_ret ?_ | refine endQ_norm ?_ | refine endE_ret ?_ | refine endE_norm ?_ | refine endI_ret ?_ | refine endI_norm ?_)
          | (with_reducible refine wp_regK fun K hK => ?_
             simp[hn]
             repeat' (with_reducible first | refine hK _ ?_ | (refine psel ?_ ?_ <;> (intro hc; (try rw [Decidable.not_not] at hc); first | (exfalso; omega) | (try simp [hc, hn]))))
             all_goals (clear hK; clear K))
          | (with_reducible refine wp_condE ?_
             refine ⟨_, rfl, ?_, ?_⟩ <;> (intro hc; (try simp at hc); (all_goals first | (exfalso; omega) | skip))))
        all_goals exact ⟨_, rfl, T1 ++ x :: T2, hW, hWs, by simp [q2]⟩
      · simp only [List.concat_eq_append] at *
        simp only [List.length_append, List.length_cons, List.length_nil] at q1 hlT
        have hn : (a + (i : Int) < (k : Int)) := by omega
        have e1 : P ++ T1 ++ (U ++ [y]) ++ x :: V ++ S = (P ++ T1 ++ U) ++ y :: ([] ++ x :: (V ++ S)) := by simp
        obtain ⟨k2, hk2⟩ : ∃ k2 : Nat, k = k2 + 1 := ⟨P.length + T1.length + U.length, by omega⟩
        have hk3 : k2 = P.length + T1.length + U.length := by omega
        have hg1 := sw_get1 (P ++ T1 ++ U) [] (V ++ S) y x (k1 := k2) (by simp [hk3]; omega)
        have hg2 := sw_get2 (P ++ T1 ++ U) [] (V ++ S) y x (k2 := k) (by simp [hk2, hk3]; omega)
        have hs := sw_map' (P ++ T1 ++ U) [] (V ++ S) y x (k1 := k2) (k2 := k) (by simp [hk3]; omega) (by simp [hk2, hk3]; omega)
        have hL2 : k < (((P ++ T1 ++ U) ++ y :: ([] ++ x :: (V ++ S))).map ei).length := by simp; omega
        simp only [e1]
        generalize ((P ++ T1 ++ U) ++ y :: ([] ++ x :: (V ++ S))).map ei = Q at *
        have hv1 : IntKind.wrap .i64 ((k : Int) - 1) = (k2 : Int) := by rw [wrap_i64 (by omega) (by omega)]; omega
        have hb1 : (k : Int) < (Q.length : Int) := by omega
        have hb2 : (k2 : Int) < (Q.length : Int) := by omega
        have hne : ¬ k = k2 := by omega
        repeat' (first
          | with_reducible (first | refine wp_seq ?_ | refine wp_blk ?_ | refine wp_skip ?_ | refine wp_exit ?_ | refine wp_ret ?_ | refine seqQ_norm ?_ | refine seqQ_ret ?_ | refine seqQ_exit ?_ | refine blkQ_norm ?_ | refine blkQ_ret ?_ | refine blkQ_exit ?_ | refine loopQ_norm ?_ | refine loopQ_exit ?_ | refine loopQ_ret ?_ | refine endQ_ret ?_ | refine endQ_norm ?_ | refine endE_ret ?_ | refine endE_norm ?_ | refine endI_ret ?_ | refine endI_norm ?_)
          | (with_reducible refine wp_regK fun K hK => ?_
             simp[hn, hv1, hg1, hg2, hb1, hb2, hne]
             repeat' (with_reducible first | refine hK _ ?_ | (refine psel ?_ ?_ <;> (intro hc; (try rw [Decidable.not_not] at hc); first | (exfalso; omega) | (try simp [hc, hn, hv1, hg1, hg2, hb1, hb2, hne]))))
             all_goals (clear hK; clear K))
          | (with_reducible refine wp_condE ?_
             refine ⟨_, rfl, ?_, ?_⟩ <;> (intro hc; (try simp at hc); (all_goals first | (exfalso; omega) | skip))))
        all_goals exact ⟨(k2, (U, y :: V)), by rw [hs]; simp, ⟨by simp only; omega, by simp [q2]⟩, by simp⟩

def PC.snd : PC → PC
  | .seq _ b => b
  | c => c

theorem s410t {g : Nat} {c : D} {A M B md nn i e : Nat} {D0 D1 D2 D3 : List (List D)} {xs : List V} {Φ : V × List (Nat × Nat × C) → Prop} (tl : AL) (hw5 : IntKind.wrap .i64 ((nn : Int) - (i : Int)) = (e : Int))
    (c1 : (i < M ∧ M < e ∧ Gw TT 407 [.one (.own (.sl 1 D0)), vi i, vi M, vi e, fv g c] = some (.tup [], [(0, 0, .own (.sl 1 D1))])) ∨ (¬ (i < M ∧ M < e) ∧ D0 = D1))
    (c2 : (A < i ∧ i < md ∧ Gw TT 410 [.one (.own (.sl 1 D1)), vi A, vi i, vi md, fv g c] = some (.tup [], [(0, 0, .own (.sl 1 D2))])) ∨ (¬ (A < i ∧ i < md) ∧ D1 = D2))
    (c3 : (md < e ∧ e < B ∧ Gw TT 410 [.one (.own (.sl 1 D2)), vi md, vi e, vi B, fv g c] = some (.tup [], [(0, 0, .own (.sl 1 D3))])) ∨ (¬ (md < e ∧ e < B) ∧ D2 = D3))
    (hx : xs[0]? = some (.one (.own (.sl 1 D0))))
    (hΦ : Φ (.tup [], [(0, 0, .own (.sl 1 D3))])) :
    Wp (Gw TT) pb410.snd.snd.snd.snd.snd.snd.snd.snd (endE pf410 xs Φ)
      ((0, AV.pl 0 0 [], some (Rt.vir [C.own (D.sl 1 D0)])) :: (1, AV.v false (di A), none) :: (2, AV.v false (di M), none) :: (3, AV.v false (di B), none) :: (4, AV.v true (.fn g [c]), none) ::
        (18, AV.v false (di md), none) :: (19, AV.v false (di nn), none) :: (20, AV.v false (di i), none) :: tl) := by
  unfold pb410
  simp only [PC.snd]
  rcases c1 with ⟨u1, u1', u3⟩ | ⟨u1, rfl⟩
  · have va1 : ((i : Nat) : Int) < (M : Int) := by omega
    have va2 : ((M : Nat) : Int) < (e : Int) := by omega
    rcases c2 with ⟨u4, u4', u6⟩ | ⟨u4, rfl⟩
    · have vb1 : ((A : Nat) : Int) < (i : Int) := by omega
      have vb2 : ((i : Nat) : Int) < (md : Int) := by omega
      rcases c3 with ⟨u7, u7', u9⟩ | ⟨u7, rfl⟩
      · have vc1 : ((md : Nat) : Int) < (e : Int) := by omega
        have vc2 : ((e : Nat) : Int) < (B : Int) := by omega
        repeat' (first
          | with_reducible (first | refine wp_seq ?_ | refine wp_blk ?_ | refine wp_skip ?_ | refine wp_exit ?_ | refine wp_ret ?_ | refine seqQ_norm ?_ | refine seqQ_ret ?_ | refine seqQ_exit ?_ | refine blkQ_norm ?_ | refine blkQ_ret ?_ | refine blkQ_exit ?_ | refine loopQ_norm ?_ | refine loopQ_exit ?_ | refine loopQ_ret ?_ | refine endQ_ret ?_ | refine endQ_norm ?_ | refine endE_ret ?_ | refine endE_norm ?_ | refine endI_ret ?_ | refine endI_norm ?_)
          | (with_reducible refine wp_regK fun K hK => ?_
             simp[hw5, va1, va2, u3, vb1, vb2, u6, vc1, vc2, u9]
             repeat' (with_reducible first | refine hK _ ?_ | (refine psel ?_ ?_ <;> (intro hc; (try rw [Decidable.not_not] at hc); first | (exfalso; omega) | (try simp [hc, hw5, va1, va2, u3, vb1, vb2, u6, vc1, vc2, u9]))))
             all_goals (clear hK; clear K))
          | (with_reducible refine wp_condE ?_
             refine ⟨_, rfl, ?_, ?_⟩ <;> (intro hc; (try simp at hc); (all_goals first | (exfalso; omega) | skip))))
        all_goals exact ⟨_, by first | (simp [pf410, hx]; done) | (simp [pf410, hx]; rfl), hΦ⟩
      · by_cases vc : md < e
        · have vc1 : ((md : Nat) : Int) < (e : Int) := by omega
          have vc2 : ¬ ((e : Nat) : Int) < (B : Int) := by omega
          repeat' (first
            | with_reducible (first | refine wp_seq ?_ | refine wp_blk ?_ | refine wp_skip ?_ | refine wp_exit ?_ | refine wp_ret ?_ | refine seqQ_norm ?_ | refine seqQ_ret ?_ | refine seqQ_exit ?_ | refine blkQ_norm ?_ | refine blkQ_ret ?_ | refine blkQ_exit ?_ | refine loopQ_norm ?_ | refine loopQ_exit ?_ | refine loopQ_ret ?_ | refine endQ_ret ?_ | refine endQ_norm ?_ | refine endE_ret ?_ | refine endE_norm ?_ | refine endI_ret ?_ | refine endI_norm ?_)
            | (with_reducible refine wp_regK fun K hK => ?_
               simp[hw5, va1, va2, u3, vb1, vb2, u6, vc1, vc2]
               repeat' (with_reducible first | refine hK _ ?_ | (refine psel ?_ ?_ <;> (intro hc; (try rw [Decidable.not_not] at hc); first | (exfalso; omega) | (try simp [hc, hw5, va1, va2, u3, vb1, vb2, u6, vc1, vc2]))))
               all_goals (clear hK; clear K))
            | (with_reducible refine wp_condE ?_
               refine ⟨_, rfl, ?_, ?_⟩ <;> (intro hc; (try simp at hc); (all_goals first | (exfalso; omega) | skip))))
          all_goals exact ⟨_, by first | (simp [pf410, hx]; done) | (simp [pf410, hx]; rfl), hΦ⟩
        · have vc1 : ¬ ((md : Nat) : Int) < (e : Int) := by omega
          repeat' (first
            | with_reducible (first | refine wp_seq ?_ | refine wp_blk ?_ | refine wp_skip ?_ | refine wp_exit ?_ | refine wp_ret ?_ | refine seqQ_norm ?_ | refine seqQ_ret ?_ | refine seqQ_exit ?_ | refine blkQ_norm ?_ | refine blkQ_ret ?_ | refine blkQ_exit ?_ | refine loopQ_norm ?_ | refine loopQ_exit ?_ | refine loopQ_ret ?_ | refine endQ_ret ?_ | refine endQ_norm ?_ | refine endE_ret ?_ | refine endE_norm ?_ | refine endI_ret ?_ | refine endI_norm ?_)
            | (with_reducible refine wp_regK fun K hK => ?_
               simp[hw5, va1, va2, u3, vb1, vb2, u6, vc1]
               repeat' (with_reducible first | refine hK _ ?_ | (refine psel ?_ ?_ <;> (intro hc; (try rw [Decidable.not_not] at hc); first | (exfalso; omega) | (try simp [hc, hw5, va1, va2, u3, vb1, vb2, u6, vc1]))))
               all_goals (clear hK; clear K))
            | (with_reducible refine wp_condE ?_
               refine ⟨_, rfl, ?_, ?_⟩ <;> (intro hc; (try simp at hc); (all_goals first | (exfalso; omega) | skip))))
          all_goals exact ⟨_, by first | (simp [pf410, hx]; done) | (simp [pf410, hx]; rfl), hΦ⟩
    · by_cases vb : A < i
      · have vb1 : ((A : Nat) : Int) < (i : Int) := by omega
        have vb2 : ¬ ((i : Nat) : Int) < (md : Int) := by omega
        rcases c3 with ⟨u7, u7', u9⟩ | ⟨u7, rfl⟩
        · have vc1 : ((md : Nat) : Int) < (e : Int) := by omega
          have vc2 : ((e : Nat) : Int) < (B : Int) := by omega
          repeat' (first
            | with_reducible (first | refine wp_seq ?_ | refine wp_blk ?_ | refine wp_skip ?_ | refine wp_exit ?_ | refine wp_ret ?_ | refine seqQ_norm ?_ | refine seqQ_ret ?_ | refine seqQ_exit ?_ | refine blkQ_norm ?_ | refine blkQ_ret ?_ | refine blkQ_exit ?_ | refine loopQ_norm ?_ | refine loopQ_exit ?_ | refine loopQ_ret ?_ | refine endQ_ret ?_ | refine endQ_norm ?_ | refine endE_ret ?_ | refine endE_norm ?_ | refine endI_ret ?_ | refine endI_norm ?_)
            | (with_reducible refine wp_regK fun K hK => ?_
               simp[hw5, va1, va2, u3, vb1, vb2, vc1, vc2, u9]
               repeat' (with_reducible first | refine hK _ ?_ | (refine psel ?_ ?_ <;> (intro hc; (try rw [Decidable.not_not] at hc); first | (exfalso; omega) | (try simp [hc, hw5, va1, va2, u3, vb1, vb2, vc1, vc2, u9]))))
               all_goals (clear hK; clear K))
            | (with_reducible refine wp_condE ?_
               refine ⟨_, rfl, ?_, ?_⟩ <;> (intro hc; (try simp at hc); (all_goals first | (exfalso; omega) | skip))))
          all_goals exact ⟨_, by first | (simp [pf410, hx]; done) | (simp [pf410, hx]; rfl), hΦ⟩
        · by_cases vc : md < e
          · have vc1 : ((md : Nat) : Int) < (e : Int) := by omega
            have vc2 : ¬ ((e : Nat) : Int) < (B : Int) := by omega
            repeat' (first
              | with_reducible (first | refine wp_seq ?_ | refine wp_blk ?_ | refine wp_skip ?_ | refine wp_exit ?_ | refine wp_ret ?_ | refine seqQ_norm ?_ | refine seqQ_ret ?_ | refine seqQ_exit ?_ | refine blkQ_norm ?_ | refine blkQ_ret ?_ | refine blkQ_exit ?_ | refine loopQ_norm ?_ | refine loopQ_exit ?_ | refine loopQ_ret ?_ | refine endQ_ret ?_ | refine endQ_norm ?_ | refine endE_ret ?_ | refine endE_norm ?_ | refine endI_ret ?_ | refine endI_norm ?_)
              | (with_reducible refine wp_regK fun K hK => ?_
                 simp[hw5, va1, va2, u3, vb1, vb2, vc1, vc2]
                 repeat' (with_reducible first | refine hK _ ?_ | (refine psel ?_ ?_ <;> (intro hc; (try rw [Decidable.not_not] at hc); first | (exfalso; omega) | (try simp [hc, hw5, va1, va2, u3, vb1, vb2, vc1, vc2]))))
                 all_goals (clear hK; clear K))
              | (with_reducible refine wp_condE ?_
                 refine ⟨_, rfl, ?_, ?_⟩ <;> (intro hc; (try simp at hc); (all_goals first | (exfalso; omega) | skip))))
            all_goals exact ⟨_, by first | (simp [pf410, hx]; done) | (simp [pf410, hx]; rfl), hΦ⟩
          · have vc1 : ¬ ((md : Nat) : Int) < (e : Int) := by omega
            repeat' (first
              | with_reducible (first | refine wp_seq ?_ | refine wp_blk ?_ | refine wp_skip ?_ | refine wp_exit ?_ | refine wp_ret ?_ | refine seqQ_norm ?_ | refine seqQ_ret ?_ | refine seqQ_exit ?_ | refine blkQ_norm ?_ | refine blkQ_ret ?_ | refine blkQ_exit ?_ | refine loopQ_norm ?_ | refine loopQ_exit ?_ | refine loopQ_ret ?_ | refine endQ_ret ?_ | refine endQ_norm ?_ | refine endE_ret ?_ | refine endE_norm ?_ | refine endI_ret ?_ | refine endI_norm ?_)
              | (with_reducible refine wp_regK fun K hK => ?_
                 simp[hw5, va1, va2, u3, vb1, vb2, vc1]
                 repeat' (with_reducible first | refine hK _ ?_ | (refine psel ?_ ?_ <;> (intro hc; (try rw [Decidable.not_not] at hc); first | (exfalso; omega) | (try simp [hc, hw5, va1, va2, u3, vb1, vb2, vc1]))))
                 all_goals (clear hK; clear K))
              | (with_reducible refine wp_condE ?_
                 refine ⟨_, rfl, ?_, ?_⟩ <;> (intro hc; (try simp at hc); (all_goals first | (exfalso; omega) | skip))))
            all_goals exact ⟨_, by first | (simp [pf410, hx]; done) | (simp [pf410, hx]; rfl), hΦ⟩
      · have vb1 : ¬ ((A : Nat) : Int) < (i : Int) := by omega
        rcases c3 with ⟨u7, u7', u9⟩ | ⟨u7, rfl⟩
        · have vc1 : ((md : Nat) : Int) < (e : Int) := by omega
          have vc2 : ((e : Nat) : Int) < (B : Int) := by omega
          repeat' (first
            | with_reducible (first | refine wp_seq ?_ | refine wp_blk ?_ | refine wp_skip ?_ | refine wp_exit ?_ | refine wp_ret ?_ | refine seqQ_norm ?_ | refine seqQ_ret ?_ | refine seqQ_exit ?_ | refine blkQ_norm ?_ | refine blkQ_ret ?_ | refine blkQ_exit ?_ | refine loopQ_norm ?_ | refine loopQ_exit ?_ | refine loopQ_ret ?_ | refine endQ_ret ?_ | refine endQ_norm ?_ | refine endE_ret ?_ | refine endE_norm ?_ | refine endI_ret ?_ | refine endI_norm ?_)
            | (with_reducible refine wp_regK fun K hK => ?_
               simp[hw5, va1, va2, u3, vb1, vc1, vc2, u9]
               repeat' (with_reducible first | refine hK _ ?_ | (refine psel ?_ ?_ <;> (intro hc; (try rw [Decidable.not_not] at hc); first | (exfalso; omega) | (try simp [hc, hw5, va1, va2, u3, vb1, vc1, vc2, u9]))))
               all_goals (clear hK; clear K))
            | (with_reducible refine wp_condE ?_
               refine ⟨_, rfl, ?_, ?_⟩ <;> (intro hc; (try simp at hc); (all_goals first | (exfalso; omega) | skip))))
          all_goals exact ⟨_, by first | (simp [pf410, hx]; done) | (simp [pf410, hx]; rfl), hΦ⟩
        · by_cases vc : md < e
          · have vc1 : ((md : Nat) : Int) < (e : Int) := by omega
            have vc2 : ¬ ((e : Nat) : Int) < (B : Int) := by omega
            repeat' (first
              | with_reducible (first | refine wp_seq ?_ | refine wp_blk ?_ | refine wp_skip ?_ | refine wp_exit ?_ | refine wp_ret ?_ | refine seqQ_norm ?_ | refine seqQ_ret ?_ | refine seqQ_exit ?_ | refine blkQ_norm ?_ | refine blkQ_ret ?_ | refine blkQ_exit ?_ | refine loopQ_norm ?_ | refine loopQ_exit ?_ | refine loopQ_ret ?_ | refine endQ_ret ?_ | refine endQ_norm ?_ | refine endE_ret ?_ | refine endE_norm ?_ | refine endI_ret ?_ | refine endI_norm ?_)
              | (with_reducible refine wp_regK fun K hK => ?_
                 simp[hw5, va1, va2, u3, vb1, vc1, vc2]
                 repeat' (with_reducible first | refine hK _ ?_ | (refine psel ?_ ?_ <;> (intro hc; (try rw [Decidable.not_not] at hc); first | (exfalso; omega) | (try simp [hc, hw5, va1, va2, u3, vb1, vc1, vc2]))))
                 all_goals (clear hK; clear K))
              | (with_reducible refine wp_condE ?_
                 refine ⟨_, rfl, ?_, ?_⟩ <;> (intro hc; (try simp at hc); (all_goals first | (exfalso; omega) | skip))))
            all_goals exact ⟨_, by first | (simp [pf410, hx]; done) | (simp [pf410, hx]; rfl), hΦ⟩
          · have vc1 : ¬ ((md : Nat) : Int) < (e : Int) := by omega
            repeat' (first
              | with_reducible (first | refine wp_seq ?_ | refine wp_blk ?_ | refine wp_skip ?_ | refine wp_exit ?_ | refine wp_ret ?_ | refine seqQ_norm ?_ | refine seqQ_ret ?_ | refine seqQ_exit ?_ | refine blkQ_norm ?_ | refine blkQ_ret ?_ | refine blkQ_exit ?_ | refine loopQ_norm ?_ | refine loopQ_exit ?_ | refine loopQ_ret ?_ | refine endQ_ret ?_ | refine endQ_norm ?_ | refine endE_ret ?_ | refine endE_norm ?_ | refine endI_ret ?_ | refine endI_norm ?_)
              | (with_reducible refine wp_regK fun K hK => ?_
                 simp[hw5, va1, va2, u3, vb1, vc1]
                 repeat' (with_reducible first | refine hK _ ?_ | (refine psel ?_ ?_ <;> (intro hc; (try rw [Decidable.not_not] at hc); first | (exfalso; omega) | (try simp [hc, hw5, va1, va2, u3, vb1, vc1]))))
                 all_goals (clear hK; clear K))
              | (with_reducible refine wp_condE ?_
                 refine ⟨_, rfl, ?_, ?_⟩ <;> (intro hc; (try simp at hc); (all_goals first | (exfalso; omega) | skip))))
            all_goals exact ⟨_, by first | (simp [pf410, hx]; done) | (simp [pf410, hx]; rfl), hΦ⟩
  · by_cases va : i < M
    · have va1 : ((i : Nat) : Int) < (M : Int) := by omega
      have va2 : ¬ ((M : Nat) : Int) < (e : Int) := by omega
      rcases c2 with ⟨u4, u4', u6⟩ | ⟨u4, rfl⟩
      · have vb1 : ((A : Nat) : Int) < (i : Int) := by omega
        have vb2 : ((i : Nat) : Int) < (md : Int) := by omega
        rcases c3 with ⟨u7, u7', u9⟩ | ⟨u7, rfl⟩
        · have vc1 : ((md : Nat) : Int) < (e : Int) := by omega
          have vc2 : ((e : Nat) : Int) < (B : Int) := by omega
          repeat' (first
            | with_reducible (first | refine wp_seq ?_ | refine wp_blk ?_ | refine wp_skip ?_ | refine wp_exit ?_ | refine wp_ret ?_ | refine seqQ_norm ?_ | refine seqQ_ret ?_ | refine seqQ_exit ?_ | refine blkQ_norm ?_ | refine blkQ_ret ?_ | refine blkQ_exit ?_ | refine loopQ_norm ?_ | refine loopQ_exit ?_ | refine loopQ_ret ?_ | refine endQ_ret ?_ | refine endQ_norm ?_ | refine endE_ret ?_ | refine endE_norm ?_ | refine endI_ret ?_ | refine endI_norm ?_)
            | (with_reducible refine wp_regK fun K hK => ?_
               simp[hw5, va1, va2, vb1, vb2, u6, vc1, vc2, u9]
               repeat' (with_reducible first | refine hK _ ?_ | (refine psel ?_ ?_ <;> (intro hc; (try rw [Decidable.not_not] at hc); first | (exfalso; omega) | (try simp [hc, hw5, va1, va2, vb1, vb2, u6, vc1, vc2, u9]))))
               all_goals (clear hK; clear K))
            | (with_reducible refine wp_condE ?_
               refine ⟨_, rfl, ?_, ?_⟩ <;> (intro hc; (try simp at hc); (all_goals first | (exfalso; omega) | skip))))
          all_goals exact ⟨_, by first | (simp [pf410, hx]; done) | (simp [pf410, hx]; rfl), hΦ⟩
        · by_cases vc : md < e
          · have vc1 : ((md : Nat) : Int) < (e : Int) := by omega
            have vc2 : ¬ ((e : Nat) : Int) < (B : Int) := by omega
            repeat' (first
              | with_reducible (first | refine wp_seq ?_ | refine wp_blk ?_ | refine wp_skip ?_ | refine wp_exit ?_ | refine wp_ret ?_ | refine seqQ_norm ?_ | refine seqQ_ret ?_ | refine seqQ_exit ?_ | refine blkQ_norm ?_ | refine blkQ_ret ?_ | refine blkQ_exit ?_ | refine loopQ_norm ?_ | refine loopQ_exit ?_ | refine loopQ_ret ?_ | refine endQ_ret ?_ | refine endQ_norm ?_ | refine endE_ret ?_ | refine endE_norm ?_ | refine endI_ret ?_ | refine endI_norm ?_)
              | (with_reducible refine wp_regK fun K hK => ?_
                 simp[hw5, va1, va2, vb1, vb2, u6, vc1, vc2]
                 repeat' (with_reducible first | refine hK _ ?_ | (refine psel ?_ ?_ <;> (intro hc; (try rw [Decidable.not_not] at hc); first | (exfalso; omega) | (try simp [hc, hw5, va1, va2, vb1, vb2, u6, vc1, vc2]))))
                 all_goals (clear hK; clear K))
              | (with_reducible refine wp_condE ?_
                 refine ⟨_, rfl, ?_, ?_⟩ <;> (intro hc; (try simp at hc); (all_goals first | (exfalso; omega) | skip))))
            all_goals exact ⟨_, by first | (simp [pf410, hx]; done) | (simp [pf410, hx]; rfl), hΦ⟩
          · have vc1 : ¬ ((md : Nat) : Int) < (e : Int) := by omega
            repeat' (first
              | with_reducible (first | refine wp_seq ?_ | refine wp_blk ?_ | refine wp_skip ?_ | refine wp_exit ?_ | refine wp_ret ?_ | refine seqQ_norm ?_ | refine seqQ_ret ?_ | refine seqQ_exit ?_ | refine blkQ_norm ?_ | refine blkQ_ret ?_ | refine blkQ_exit ?_ | refine loopQ_norm ?_ | refine loopQ_exit ?_ | refine loopQ_ret ?_ | refine endQ_ret ?_ | refine endQ_norm ?_ | refine endE_ret ?_ | refine endE_norm ?_ | refine endI_ret ?_ | refine endI_norm ?_)
              | (with_reducible refine wp_regK fun K hK => ?_
                 simp[hw5, va1, va2, vb1, vb2, u6, vc1]
                 repeat' (with_reducible first | refine hK _ ?_ | (refine psel ?_ ?_ <;> (intro hc; (try rw [Decidable.not_not] at hc); first | (exfalso; omega) | (try simp [hc, hw5, va1, va2, vb1, vb2, u6, vc1]))))
                 all_goals (clear hK; clear K))
              | (with_reducible refine wp_condE ?_
                 refine ⟨_, rfl, ?_, ?_⟩ <;> (intro hc; (try simp at hc); (all_goals first | (exfalso; omega) | skip))))
            all_goals exact ⟨_, by first | (simp [pf410, hx]; done) | (simp [pf410, hx]; rfl), hΦ⟩
      · by_cases vb : A < i
        · have vb1 : ((A : Nat) : Int) < (i : Int) := by omega
          have vb2 : ¬ ((i : Nat) : Int) < (md : Int) := by omega
          rcases c3 with ⟨u7, u7', u9⟩ | ⟨u7, rfl⟩
          · have vc1 : ((md : Nat) : Int) < (e : Int) := by omega
            have vc2 : ((e : Nat) : Int) < (B : Int) := by omega
            repeat' (first
              | with_reducible (first | refine wp_seq ?_ | refine wp_blk ?_ | refine wp_skip ?_ | refine wp_exit ?_ | refine wp_ret ?_ | refine seqQ_norm ?_ | refine seqQ_ret ?_ | refine seqQ_exit ?_ | refine blkQ_norm ?_ | refine blkQ_ret ?_ | refine blkQ_exit ?_ | refine loopQ_norm ?_ | refine loopQ_exit ?_ | refine loopQ_ret ?_ | refine endQ_ret ?_ | refine endQ_norm ?_ | refine endE_ret ?_ | refine endE_norm ?_ | refine endI_ret ?_ | refine endI_norm ?_)
              | (with_reducible refine wp_regK fun K hK => ?_
                 simp[hw5, va1, va2, vb1, vb2, vc1, vc2, u9]
                 repeat' (with_reducible first | refine hK _ ?_ | (refine psel ?_ ?_ <;> (intro hc; (try rw [Decidable.not_not] at hc); first | (exfalso; omega) | (try simp [hc, hw5, va1, va2, vb1, vb2, vc1, vc2, u9]))))
                 all_goals (clear hK; clear K))
              | (with_reducible refine wp_condE ?_
                 refine ⟨_, rfl, ?_, ?_⟩ <;> (intro hc; (try simp at hc); (all_goals first | (exfalso; omega) | skip))))
            all_goals exact ⟨_, by first | (simp [pf410, hx]; done) | (simp [pf410, hx]; rfl), hΦ⟩
          · by_cases vc : md < e
            · have vc1 : ((md : Nat) : Int) < (e : Int) := by omega
              have vc2 : ¬ ((e : Nat) : Int) < (B : Int) := by omega
              repeat' (first
                | with_reducible (first | refine wp_seq ?_ | refine wp_blk ?_ | refine wp_skip ?_ | refine wp_exit ?_ | refine wp_ret ?_ | refine seqQ_norm ?_ | refine seqQ_ret ?_ | refine seqQ_exit ?_ | refine blkQ_norm ?_ | refine blkQ_ret ?_ | refine blkQ_exit ?_ | refine loopQ_norm ?_ | refine loopQ_exit ?_ | refine loopQ_ret ?_ | refine endQ_ret ?_ | refine endQ_norm ?_ | refine endE_ret ?_ | refine endE_norm ?_ | refine endI_ret ?_ | refine endI_norm ?_)
                | (with_reducible refine wp_regK fun K hK => ?_
                   simp[hw5, va1, va2, vb1, vb2, vc1, vc2]
                   repeat' (with_reducible first | refine hK _ ?_ | (refine psel ?_ ?_ <;> (intro hc; (try rw [Decidable.not_not] at hc); first | (exfalso; omega) | (try simp [hc, hw5, va1, va2, vb1, vb2, vc1, vc2]))))
                   all_goals (clear hK; clear K))
                | (with_reducible refine wp_condE ?_
                   refine ⟨_, rfl, ?_, ?_⟩ <;> (intro hc; (try simp at hc); (all_goals first | (exfalso; omega) | skip))))
              all_goals exact ⟨_, by first | (simp [pf410, hx]; done) | (simp [pf410, hx]; rfl), hΦ⟩
            · have vc1 : ¬ ((md : Nat) : Int) < (e : Int) := by omega
              repeat' (first
                | with_reducible (first | refine wp_seq ?_ | refine wp_blk ?_ | refine wp_skip ?_ | refine wp_exit ?_ | refine wp_ret ?_ | refine seqQ_norm ?_ | refine seqQ_ret ?_ | refine seqQ_exit ?_ | refine blkQ_norm ?_ | refine blkQ_ret ?_ | refine blkQ_exit ?_ | refine loopQ_norm ?_ | refine loopQ_exit ?_ | refine loopQ_ret ?_ | refine endQ_ret ?_ | refine endQ_norm ?_ | refine endE_ret ?_ | refine endE_norm ?_ | refine endI_ret ?_ | refine endI_norm ?_)
                | (with_reducible refine wp_regK fun K hK => ?_
                   simp[hw5, va1, va2, vb1, vb2, vc1]
                   repeat' (with_reducible first | refine hK _ ?_ | (refine psel ?_ ?_ <;> (intro hc; (try rw [Decidable.not_not] at hc); first | (exfalso; omega) | (try simp [hc, hw5, va1, va2, vb1, vb2, vc1]))))
                   all_goals (clear hK; clear K))
                | (with_reducible refine wp_condE ?_
                   refine ⟨_, rfl, ?_, ?_⟩ <;> (intro hc; (try simp at hc); (all_goals first | (exfalso; omega) | skip))))
              all_goals exact ⟨_, by first | (simp [pf410, hx]; done) | (simp [pf410, hx]; rfl), hΦ⟩
        · have vb1 : ¬ ((A : Nat) : Int) < (i : Int) := by omega
          rcases c3 with ⟨u7, u7', u9⟩ | ⟨u7, rfl⟩
          · have vc1 : ((md : Nat) : Int) < (e : Int) := by omega
            have vc2 : ((e : Nat) : Int) < (B : Int) := by omega
            repeat' (first
              | with_reducible (first | refine wp_seq ?_ | refine wp_blk ?_ | refine wp_skip ?_ | refine wp_exit ?_ | refine wp_ret ?_ | refine seqQ_norm ?_ | refine seqQ_ret ?_ | refine seqQ_exit ?_ | refine blkQ_norm ?_ | refine blkQ_ret ?_ | refine blkQ_exit ?_ | refine loopQ_norm ?_ | refine loopQ_exit ?_ | refine loopQ_ret ?_ | refine endQ_ret ?_ | refine endQ_norm ?_ | refine endE_ret ?_ | refine endE_norm ?_ | refine endI_ret ?_ | refine endI_norm ?_)
              | (with_reducible refine wp_regK fun K hK => ?_
                 simp[hw5, va1, va2, vb1, vc1, vc2, u9]
                 repeat' (with_reducible first | refine hK _ ?_ | (refine psel ?_ ?_ <;> (intro hc; (try rw [Decidable.not_not] at hc); first | (exfalso; omega) | (try simp [hc, hw5, va1, va2, vb1, vc1, vc2, u9]))))
                 all_goals (clear hK; clear K))
              | (with_reducible refine wp_condE ?_
                 refine ⟨_, rfl, ?_, ?_⟩ <;> (intro hc; (try simp at hc); (all_goals first | (exfalso; omega) | skip))))
            all_goals exact ⟨_, by first | (simp [pf410, hx]; done) | (simp [pf410, hx]; rfl), hΦ⟩
          · by_cases vc : md < e
            · have vc1 : ((md : Nat) : Int) < (e : Int) := by omega
              have vc2 : ¬ ((e : Nat) : Int) < (B : Int) := by omega
              repeat' (first
                | with_reducible (first | refine wp_seq ?_ | refine wp_blk ?_ | refine wp_skip ?_ | refine wp_exit ?_ | refine wp_ret ?_ | refine seqQ_norm ?_ | refine seqQ_ret ?_ | refine seqQ_exit ?_ | refine blkQ_norm ?_ | refine blkQ_ret ?_ | refine blkQ_exit ?_ | refine loopQ_norm ?_ | refine loopQ_exit ?_ | refine loopQ_ret ?_ | refine endQ_ret ?_ | refine endQ_norm ?_ | refine endE_ret ?_ | refine endE_norm ?_ | refine endI_ret ?_ | refine endI_norm ?_)
                | (with_reducible refine wp_regK fun K hK => ?_
                   simp[hw5, va1, va2, vb1, vc1, vc2]
                   repeat' (with_reducible first | refine hK _ ?_ | (refine psel ?_ ?_ <;> (intro hc; (try rw [Decidable.not_not] at hc); first | (exfalso; omega) | (try simp [hc, hw5, va1, va2, vb1, vc1, vc2]))))
                   all_goals (clear hK; clear K))
                | (with_reducible refine wp_condE ?_
                   refine ⟨_, rfl, ?_, ?_⟩ <;> (intro hc; (try simp at hc); (all_goals first | (exfalso; omega) | skip))))
              all_goals exact ⟨_, by first | (simp [pf410, hx]; done) | (simp [pf410, hx]; rfl), hΦ⟩
            · have vc1 : ¬ ((md : Nat) : Int) < (e : Int) := by omega
              repeat' (first
                | with_reducible (first | refine wp_seq ?_ | refine wp_blk ?_ | refine wp_skip ?_ | refine wp_exit ?_ | refine wp_ret ?_ | refine seqQ_norm ?_ | refine seqQ_ret ?_ | refine seqQ_exit ?_ | refine blkQ_norm ?_ | refine blkQ_ret ?_ | refine blkQ_exit ?_ | refine loopQ_norm ?_ | refine loopQ_exit ?_ | refine loopQ_ret ?_ | refine endQ_ret ?_ | refine endQ_norm ?_ | refine endE_ret ?_ | refine endE_norm ?_ | refine endI_ret ?_ | refine endI_norm ?_)
                | (with_reducible refine wp_regK fun K hK => ?_
                   simp[hw5, va1, va2, vb1, vc1]
                   repeat' (with_reducible first | refine hK _ ?_ | (refine psel ?_ ?_ <;> (intro hc; (try rw [Decidable.not_not] at hc); first | (exfalso; omega) | (try simp [hc, hw5, va1, va2, vb1, vc1]))))
                   all_goals (clear hK; clear K))
                | (with_reducible refine wp_condE ?_
                   refine ⟨_, rfl, ?_, ?_⟩ <;> (intro hc; (try simp at hc); (all_goals first | (exfalso; omega) | skip))))
              all_goals exact ⟨_, by first | (simp [pf410, hx]; done) | (simp [pf410, hx]; rfl), hΦ⟩
    · have va1 : ¬ ((i : Nat) : Int) < (M : Int) := by omega
      rcases c2 with ⟨u4, u4', u6⟩ | ⟨u4, rfl⟩
      · have vb1 : ((A : Nat) : Int) < (i : Int) := by omega
        have vb2 : ((i : Nat) : Int) < (md : Int) := by omega
        rcases c3 with ⟨u7, u7', u9⟩ | ⟨u7, rfl⟩
        · have vc1 : ((md : Nat) : Int) < (e : Int) := by omega
          have vc2 : ((e : Nat) : Int) < (B : Int) := by omega
          repeat' (first
            | with_reducible (first | refine wp_seq ?_ | refine wp_blk ?_ | refine wp_skip ?_ | refine wp_exit ?_ | refine wp_ret ?_ | refine seqQ_norm ?_ | refine seqQ_ret ?_ | refine seqQ_exit ?_ | refine blkQ_norm ?_ | refine blkQ_ret ?_ | refine blkQ_exit ?_ | refine loopQ_norm ?_ | refine loopQ_exit ?_ | refine loopQ_ret ?_ | refine endQ_ret ?_ | refine endQ_norm ?_ | refine endE_ret ?_ | refine endE_norm ?_ | refine endI_ret ?_ | refine endI_norm ?_)
            | (with_reducible refine wp_regK fun K hK => ?_
               simp[hw5, va1, vb1, vb2, u6, vc1, vc2, u9]
               repeat' (with_reducible first | refine hK _ ?_ | (refine psel ?_ ?_ <;> (intro hc; (try rw [Decidable.not_not] at hc); first | (exfalso; omega) | (try simp [hc, hw5, va1, vb1, vb2, u6, vc1, vc2, u9]))))
               all_goals (clear hK; clear K))
            | (with_reducible refine wp_condE ?_
               refine ⟨_, rfl, ?_, ?_⟩ <;> (intro hc; (try simp at hc); (all_goals first | (exfalso; omega) | skip))))
          all_goals exact ⟨_, by first | (simp [pf410, hx]; done) | (simp [pf410, hx]; rfl), hΦ⟩
        · by_cases vc : md < e
          · have vc1 : ((md : Nat) : Int) < (e : Int) := by omega
            have vc2 : ¬ ((e : Nat) : Int) < (B : Int) := by omega
            repeat' (first
              | with_reducible (first | refine wp_seq ?_ | refine wp_blk ?_ | refine wp_skip ?_ | refine wp_exit ?_ | refine wp_ret ?_ | refine seqQ_norm ?_ | refine seqQ_ret ?_ | refine seqQ_exit ?_ | refine blkQ_norm ?_ | refine blkQ_ret ?_ | refine blkQ_exit ?_ | refine loopQ_norm ?_ | refine loopQ_exit ?_ | refine loopQ_ret ?_ | refine endQ_ret ?_ | refine endQ_norm ?_ | refine endE_ret ?_ | refine endE_norm ?_ | refine endI_ret ?_ | refine endI_norm ?_)
              | (with_reducible refine wp_regK fun K hK => ?_
                 simp[hw5, va1, vb1, vb2, u6, vc1, vc2]
                 repeat' (with_reducible first | refine hK _ ?_ | (refine psel ?_ ?_ <;> (intro hc; (try rw [Decidable.not_not] at hc); first | (exfalso; omega) | (try simp [hc, hw5, va1, vb1, vb2, u6, vc1, vc2]))))
                 all_goals (clear hK; clear K))
              | (with_reducible refine wp_condE ?_
                 refine ⟨_, rfl, ?_, ?_⟩ <;> (intro hc; (try simp at hc); (all_goals first | (exfalso; omega) | skip))))
            all_goals exact ⟨_, by first | (simp [pf410, hx]; done) | (simp [pf410, hx]; rfl), hΦ⟩
          · have vc1 : ¬ ((md : Nat) : Int) < (e : Int) := by omega
            repeat' (first
              | with_reducible (first | refine wp_seq ?_ | refine wp_blk ?_ | refine wp_skip ?_ | refine wp_exit ?_ | refine wp_ret ?_ | refine seqQ_norm ?_ | refine seqQ_ret ?_ | refine seqQ_exit ?_ | refine blkQ_norm ?_ | refine blkQ_ret ?_ | refine blkQ_exit ?_ | refine loopQ_norm ?_ | refine loopQ_exit ?_ | refine loopQ_ret ?_ | refine endQ_ret ?_ | refine endQ_norm ?_ | refine endE_ret ?_ | refine endE_norm ?_ | refine endI_ret ?_ | refine endI_norm ?_)
              | (with_reducible refine wp_regK fun K hK => ?_
                 simp[hw5, va1, vb1, vb2, u6, vc1]
                 repeat' (with_reducible first | refine hK _ ?_ | (refine psel ?_ ?_ <;> (intro hc; (try rw [Decidable.not_not] at hc); first | (exfalso; omega) | (try simp [hc, hw5, va1, vb1, vb2, u6, vc1]))))
                 all_goals (clear hK; clear K))
              | (with_reducible refine wp_condE ?_
                 refine ⟨_, rfl, ?_, ?_⟩ <;> (intro hc; (try simp at hc); (all_goals first | (exfalso; omega) | skip))))
            all_goals exact ⟨_, by first | (simp [pf410, hx]; done) | (simp [pf410, hx]; rfl), hΦ⟩
      · by_cases vb : A < i
        · have vb1 : ((A : Nat) : Int) < (i : Int) := by omega
          have vb2 : ¬ ((i : Nat) : Int) < (md : Int) := by omega
          rcases c3 with ⟨u7, u7', u9⟩ | ⟨u7, rfl⟩
          · have vc1 : ((md : Nat) : Int) < (e : Int) := by omega
            have vc2 : ((e : Nat) : Int) < (B : Int) := by omega
            repeat' (first
              | with_reducible (first | refine wp_seq ?_ | refine wp_blk ?_ | refine wp_skip ?_ | refine wp_exit ?_ | refine wp_ret ?_ | refine seqQ_norm ?_ | refine seqQ_ret ?_ | refine seqQ_exit ?_ | refine blkQ_norm ?_ | refine blkQ_ret ?_ | refine blkQ_exit ?_ | refine loopQ_norm ?_ | refine loopQ_exit ?_ | refine loopQ_ret ?_ | refine endQ_ret ?_ | refine endQ_norm ?_ | refine endE_ret ?_ | refine endE_norm ?_ | refine endI_ret ?_ | refine endI_norm ?_)
              | (with_reducible refine wp_regK fun K hK => ?_
                 simp[hw5, va1, vb1, vb2, vc1, vc2, u9]
                 repeat' (with_reducible first | refine hK _ ?_ | (refine psel ?_ ?_ <;> (intro hc; (try rw [Decidable.not_not] at hc); first | (exfalso; omega) | (try simp [hc, hw5, va1, vb1, vb2, vc1, vc2, u9]))))
                 all_goals (clear hK; clear K))
              | (with_reducible refine wp_condE ?_
                 refine ⟨_, rfl, ?_, ?_⟩ <;> (intro hc; (try simp at hc); (all_goals first | (exfalso; omega) | skip))))
            all_goals exact ⟨_, by first | (simp [pf410, hx]; done) | (simp [pf410, hx]; rfl), hΦ⟩
          · by_cases vc : md < e
            · have vc1 : ((md : Nat) : Int) < (e : Int) := by omega
              have vc2 : ¬ ((e : Nat) : Int) < (B : Int) := by omega
              repeat' (first
                | with_reducible (first | refine wp_seq ?_ | refine wp_blk ?_ | refine wp_skip ?_ | refine wp_exit ?_ | refine wp_ret ?_ | refine seqQ_norm ?_ | refine seqQ_ret ?_ | refine seqQ_exit ?_ | refine blkQ_norm ?_ | refine blkQ_ret ?_ | refine blkQ_exit ?_ | refine loopQ_norm ?_ | refine loopQ_exit ?_ | refine loopQ_ret ?_ | refine endQ_ret ?_ | refine endQ_norm ?_ | refine endE_ret ?_ | refine endE_norm ?_ | refine endI_ret ?_ | refine endI_norm ?_)
                | (with_reducible refine wp_regK fun K hK => ?_
                   simp[hw5, va1, vb1, vb2, vc1, vc2]
                   repeat' (with_reducible first | refine hK _ ?_ | (refine psel ?_ ?_ <;> (intro hc; (try rw [Decidable.not_not] at hc); first | (exfalso; omega) | (try simp [hc, hw5, va1, vb1, vb2, vc1, vc2]))))
                   all_goals (clear hK; clear K))
                | (with_reducible refine wp_condE ?_
                   refine ⟨_, rfl, ?_, ?_⟩ <;> (intro hc; (try simp at hc); (all_goals first | (exfalso; omega) | skip))))
              all_goals exact ⟨_, by first | (simp [pf410, hx]; done) | (simp [pf410, hx]; rfl), hΦ⟩
            · have vc1 : ¬ ((md : Nat) : Int) < (e : Int) := by omega
              repeat' (first
                | with_reducible (first | refine wp_seq ?_ | refine wp_blk ?_ | refine wp_skip ?_ | refine wp_exit ?_ | refine wp_ret ?_ | refine seqQ_norm ?_ | refine seqQ_ret ?_ | refine seqQ_exit ?_ | refine blkQ_norm ?_ | refine blkQ_ret ?_ | refine blkQ_exit ?_ | refine loopQ_norm ?_ | refine loopQ_exit ?_ | refine loopQ_ret ?_ | refine endQ_ret ?_ | refine endQ_norm ?_ | refine endE_ret ?_ | refine endE_norm ?_ | refine endI_ret ?_ | refine endI_norm ?_)
                | (with_reducible refine wp_regK fun K hK => ?_
                   simp[hw5, va1, vb1, vb2, vc1]
                   repeat' (with_reducible first | refine hK _ ?_ | (refine psel ?_ ?_ <;> (intro hc; (try rw [Decidable.not_not] at hc); first | (exfalso; omega) | (try simp [hc, hw5, va1, vb1, vb2, vc1]))))
                   all_goals (clear hK; clear K))
                | (with_reducible refine wp_condE ?_
                   refine ⟨_, rfl, ?_, ?_⟩ <;> (intro hc; (try simp at hc); (all_goals first | (exfalso; omega) | skip))))
              all_goals exact ⟨_, by first | (simp [pf410, hx]; done) | (simp [pf410, hx]; rfl), hΦ⟩
        · have vb1 : ¬ ((A : Nat) : Int) < (i : Int) := by omega
          rcases c3 with ⟨u7, u7', u9⟩ | ⟨u7, rfl⟩
          · have vc1 : ((md : Nat) : Int) < (e : Int) := by omega
            have vc2 : ((e : Nat) : Int) < (B : Int) := by omega
            repeat' (first
              | with_reducible (first | refine wp_seq ?_ | refine wp_blk ?_ | refine wp_skip ?_ | refine wp_exit ?_ | refine wp_ret ?_ | refine seqQ_norm ?_ | refine seqQ_ret ?_ | refine seqQ_exit ?_ | refine blkQ_norm ?_ | refine blkQ_ret ?_ | refine blkQ_exit ?_ | refine loopQ_norm ?_ | refine loopQ_exit ?_ | refine loopQ_ret ?_ | refine endQ_ret ?_ | refine endQ_norm ?_ | refine endE_ret ?_ | refine endE_norm ?_ | refine endI_ret ?_ | refine endI_norm ?_)
              | (with_reducible refine wp_regK fun K hK => ?_
                 simp[hw5, va1, vb1, vc1, vc2, u9]
                 repeat' (with_reducible first | refine hK _ ?_ | (refine psel ?_ ?_ <;> (intro hc; (try rw [Decidable.not_not] at hc); first | (exfalso; omega) | (try simp [hc, hw5, va1, vb1, vc1, vc2, u9]))))
                 all_goals (clear hK; clear K))
              | (with_reducible refine wp_condE ?_
                 refine ⟨_, rfl, ?_, ?_⟩ <;> (intro hc; (try simp at hc); (all_goals first | (exfalso; omega) | skip))))
            all_goals exact ⟨_, by first | (simp [pf410, hx]; done) | (simp [pf410, hx]; rfl), hΦ⟩
          · by_cases vc : md < e
            · have vc1 : ((md : Nat) : Int) < (e : Int) := by omega
              have vc2 : ¬ ((e : Nat) : Int) < (B : Int) := by omega
              repeat' (first
                | with_reducible (first | refine wp_seq ?_ | refine wp_blk ?_ | refine wp_skip ?_ | refine wp_exit ?_ | refine wp_ret ?_ | refine seqQ_norm ?_ | refine seqQ_ret ?_ | refine seqQ_exit ?_ | refine blkQ_norm ?_ | refine blkQ_ret ?_ | refine blkQ_exit ?_ | refine loopQ_norm ?_ | refine loopQ_exit ?_ | refine loopQ_ret ?_ | refine endQ_ret ?_ | refine endQ_norm ?_ | refine endE_ret ?_ | refine endE_norm ?_ | refine endI_ret ?_ | refine endI_norm ?_)
                | (with_reducible refine wp_regK fun K hK => ?_
                   simp[hw5, va1, vb1, vc1, vc2]
                   repeat' (with_reducible first | refine hK _ ?_ | (refine psel ?_ ?_ <;> (intro hc; (try rw [Decidable.not_not] at hc); first | (exfalso; omega) | (try simp [hc, hw5, va1, vb1, vc1, vc2]))))
                   all_goals (clear hK; clear K))
                | (with_reducible refine wp_condE ?_
                   refine ⟨_, rfl, ?_, ?_⟩ <;> (intro hc; (try simp at hc); (all_goals first | (exfalso; omega) | skip))))
              all_goals exact ⟨_, by first | (simp [pf410, hx]; done) | (simp [pf410, hx]; rfl), hΦ⟩
            · have vc1 : ¬ ((md : Nat) : Int) < (e : Int) := by omega
              repeat' (first
                | with_reducible (first | refine wp_seq ?_ | refine wp_blk ?_ | refine wp_skip ?_ | refine wp_exit ?_ | refine wp_ret ?_ | refine seqQ_norm ?_ | refine seqQ_ret ?_ | refine seqQ_exit ?_ | refine blkQ_norm ?_ | refine blkQ_ret ?_ | refine blkQ_exit ?_ | refine loopQ_norm ?_ | refine loopQ_exit ?_ | refine loopQ_ret ?_ | refine endQ_ret ?_ | refine endQ_norm ?_ | refine endE_ret ?_ | refine endE_norm ?_ | refine endI_ret ?_ | refine endI_norm ?_)
                | (with_reducible refine wp_regK fun K hK => ?_
                   simp[hw5, va1, vb1, vc1]
                   repeat' (with_reducible first | refine hK _ ?_ | (refine psel ?_ ?_ <;> (intro hc; (try rw [Decidable.not_not] at hc); first | (exfalso; omega) | (try simp [hc, hw5, va1, vb1, vc1]))))
                   all_goals (clear hK; clear K))
                | (with_reducible refine wp_condE ?_
                   refine ⟨_, rfl, ?_, ?_⟩ <;> (intro hc; (try simp at hc); (all_goals first | (exfalso; omega) | skip))))
              all_goals exact ⟨_, by first | (simp [pf410, hx]; done) | (simp [pf410, hx]; rfl), hΦ⟩

theorem s410l {g : Nat} {c : D} {ky : Int → Int} {p : Int → Prop} (hcmp : CmpOk g c ky p) {A M B md nn pp s0 r0 : Nat} {L R : List Int} {D0 : List (List D)} {Q : Out → Prop} (hp : ∀ y ∈ L ++ R, p y)
    (hD : B ≤ D0.length) (hB : B ≤ 1099511627776) (hM : M = A + L.length) (hB2 : B = M + R.length) (hpp : pp = md + M - 1)
    (hgl : ∀ (t : Nat) (y : Int), L[t]? = some y → D0[A + t]? = some [di y]) (hgr : ∀ (t : Nat) (y : Int), R[t]? = some y → D0[M + t]? = some [di y])
    (c1 : s0 ≤ r0) (c2 : A ≤ s0) (c3 : r0 ≤ M) (c4 : r0 ≤ md) (c5 : pp - s0 < B) (c6 : pp ≤ 2199023255552)
    (hQ : ∀ (i : Nat) (tl : AL), s0 ≤ i → i ≤ r0 → (i = s0 ∨ ∀ u v, L[i - 1 - A]? = some u → R[pp - (i - 1) - M]? = some v → ky u ≤ ky v) → (i = r0 ∨ ∀ u v, L[i - A]? = some u → R[pp - i - M]? = some v → ky v < ky u) →
      Q (.exit 8 ((0, AV.pl 0 0 [], some (Rt.vir [C.own (D.sl 1 D0)])) :: (1, AV.v false (di A), none) :: (2, AV.v false (di M), none) :: (3, AV.v false (di B), none) :: (4, AV.v true (.fn g [c]), none) ::
        (18, AV.v false (di md), none) :: (19, AV.v false (di nn), none) :: (20, AV.v false (di i), none) :: tl))) :
    Wp (Gw TT) (.loop pl410_0) Q
      [(0, AV.pl 0 0 [], some (Rt.vir [C.own (D.sl 1 D0)])), (1, AV.v false (di A), none), (2, AV.v false (di M), none), (3, AV.v false (di B), none), (4, AV.v true (.fn g [c]), none),
          (18, AV.v false (di md), none), (19, AV.v false (di nn), none), (20, AV.v false (di s0), none), (21, AV.v false (di r0), none), (22, AV.v false (di pp), none)] := by
  refine wp_loopI (σ := (Nat × Nat) × (AL × AV)) (fun s => (0, AV.pl 0 0 [], some (Rt.vir [C.own (D.sl 1 D0)])) :: (1, AV.v false (di A), none) :: (2, AV.v false (di M), none) :: (3, AV.v false (di B), none) :: (4, AV.v true (.fn g [c]), none) ::
        (18, AV.v false (di md), none) :: (19, AV.v false (di nn), none) :: (20, AV.v false (di s.1.1), none) :: (21, AV.v false (di s.1.2), none) :: (22, AV.v false (di pp), none) :: s.2.1)
      (fun s => s0 ≤ s.1.1 ∧ s.1.1 ≤ s.1.2 ∧ s.1.2 ≤ r0 ∧ (s.1.1 = s0 ∨ ∀ u v, L[s.1.1 - 1 - A]? = some u → R[pp - (s.1.1 - 1) - M]? = some v → ky u ≤ ky v) ∧
        (s.1.2 = r0 ∨ ∀ u v, L[s.1.2 - A]? = some u → R[pp - s.1.2 - M]? = some v → ky v < ky u) ∧ AL.get s.2.1 23 = (s.2.2, none)) (fun s => s.1.2 - s.1.1) ((s0, r0), ([], .un)) rfl ⟨Nat.le_refl _, c1, Nat.le_refl _, .inl rfl, .inl rfl, rfl⟩ ?_
  rintro ⟨⟨i, j⟩, ⟨tl, z⟩⟩ ⟨h1, h2, h3, h4, h5, h6⟩
  simp only at h1 h2 h3 h4 h5 h6 ⊢
  unfold pl410_0
  by_cases hij : i < j
  · have hc1 : (i : Int) < (j : Int) := by omega
    obtain ⟨k, hk⟩ : ∃ k : Nat, k = (i + j) / 2 := ⟨_, rfl⟩
    obtain ⟨q, hq⟩ : ∃ q : Nat, q = pp - k := ⟨_, rfl⟩
    obtain ⟨u, hu⟩ : ∃ u, L[k - A]? = some u := ⟨L[k - A]'(by omega), by simp⟩
    obtain ⟨v, hv⟩ : ∃ v, R[q - M]? = some v := ⟨R[q - M]'(by omega), by simp⟩
    have hg1 := hgl _ _ hu
    rw [show A + (k - A) = k by omega] at hg1
    have hg2 := hgr _ _ hv
    rw [show M + (q - M) = q by omega] at hg2
    have hw5 : IntKind.wrap .i64 ((i : Int) + (j : Int)) = (i : Int) + (j : Int) := wrap_i64 (by omega) (by omega)
    have hmid2 := mid_eq (x := (i : Int) + (j : Int)) (h := k) (by omega) (by omega) (by omega)
    have hw6 : IntKind.wrap .i64 ((pp : Int) - (k : Int)) = (q : Int) := by rw [wrap_i64 (by omega) (by omega)]; omega
    have hw7 : IntKind.wrap .i64 ((k : Int) + 1) = (k : Int) + 1 := wrap_i64 (by omega) (by omega)
    have hb1 : (k : Int) < (D0.length : Int) := by omega
    have hb2 : (q : Int) < (D0.length : Int) := by omega
    have hcx := hcmp v u (hp v (List.mem_append_right _ (List.mem_of_getElem? hv))) (hp u (List.mem_append_left _ (List.mem_of_getElem? hu)))
    by_cases hlt : icmp (ky v) (ky u) < 0
    · repeat' (first
        | with_reducible (first | refine wp_seq ?_ | refine wp_blk ?_ | refine wp_skip ?_ | refine wp_exit ?_ | refine wp_ret ?_ | refine seqQ_norm ?_ | refine seqQ_ret ?_ | refine seqQ_exit ?_ | refine blkQ_norm ?_ | refine blkQ_ret ?_ | refine blkQ_exit ?_ | refine loopQ_norm ?_ | refine loopQ_exit ?_ | refine loopQ_ret ?_ | refine endQ_ret ?_ | refine endQ_norm ?_ | refine endE_ret ?_ | refine endE_norm ?_ | refine endI_ret ?_ | refine endI_norm ?_)
        | (with_reducible refine wp_regK fun K hK => ?_
           simp[h6, hc1, hw5, hmid2, hw6, hw7, hg1, hg2, hb1, hb2, hcx, hlt]
           repeat' (with_reducible first | refine hK _ ?_ | (refine psel ?_ ?_ <;> (intro hc; (try rw [Decidable.not_not] at hc); first | (exfalso; omega) | (try simp [hc, h6, hc1, hw5, hmid2, hw6, hw7, hg1, hg2, hb1, hb2, hcx, hlt]))))
           all_goals (clear hK; clear K))
        | (with_reducible refine wp_condE ?_
           refine ⟨_, rfl, ?_, ?_⟩ <;> (intro hc; (try simp at hc); (all_goals first | (exfalso; omega) | skip))))
      all_goals exact ⟨((i, k), ([(23, AV.v false (D.int IntKind.i64 ↑k), none)], AV.v false (D.int IntKind.i64 ↑k))), rfl, ⟨h1, by simp only; omega, by simp only; omega, h4, .inr fun u2 v2 e1 e2 => by
        simp only at e1 e2
        rw [← hq] at e2
        rw [hu] at e1; rw [hv] at e2
        cases e1; cases e2
        exact (icmp_neg _ _).1 hlt, rfl⟩, by simp only; omega⟩
    · repeat' (first
        | with_reducible (first | refine wp_seq ?_ | refine wp_blk ?_ | refine wp_skip ?_ | refine wp_exit ?_ | refine wp_ret ?_ | refine seqQ_norm ?_ | refine seqQ_ret ?_ | refine seqQ_exit ?_ | refine blkQ_norm ?_ | refine blkQ_ret ?_ | refine blkQ_exit ?_ | refine loopQ_norm ?_ | refine loopQ_exit ?_ | refine loopQ_ret ?_ | refine endQ_ret ?_ | refine endQ_norm ?_ | refine endE_ret ?_ | refine endE_norm ?_ | refine endI_ret ?_ | refine endI_norm ?_)
        | (with_reducible refine wp_regK fun K hK => ?_
           simp[h6, hc1, hw5, hmid2, hw6, hw7, hg1, hg2, hb1, hb2, hcx, hlt]
           repeat' (with_reducible first | refine hK _ ?_ | (refine psel ?_ ?_ <;> (intro hc; (try rw [Decidable.not_not] at hc); first | (exfalso; omega) | (try simp [hc, h6, hc1, hw5, hmid2, hw6, hw7, hg1, hg2, hb1, hb2, hcx, hlt]))))
           all_goals (clear hK; clear K))
        | (with_reducible refine wp_condE ?_
           refine ⟨_, rfl, ?_, ?_⟩ <;> (intro hc; (try simp at hc); (all_goals first | (exfalso; omega) | skip))))
      all_goals exact ⟨((k + 1, j), ([(23, AV.v false (D.int IntKind.i64 ↑k), none)], AV.v false (D.int IntKind.i64 ↑k))), by simp, ⟨by simp only; omega, by simp only; omega, h3, .inr fun u2 v2 e1 e2 => by
        simp only [Nat.add_sub_cancel] at e1 e2
        rw [← hq] at e2
        rw [hu] at e1; rw [hv] at e2
        cases e1; cases e2
        have h9 : ¬ ky v < ky u := fun h => hlt ((icmp_neg _ _).2 h)
        omega, h5, rfl⟩, by simp only; omega⟩
  · have : i = j := by omega
    subst this
    have hc1 : ¬ ((i : Int) < (i : Int)) := by omega
    repeat' (first
      | with_reducible (first | refine wp_seq ?_ | refine wp_blk ?_ | refine wp_skip ?_ | refine wp_exit ?_ | refine wp_ret ?_ | refine seqQ_norm ?_ | refine seqQ_ret ?_ | refine seqQ_exit ?_ | refine blkQ_norm ?_ | refine blkQ_ret ?_ | refine blkQ_exit ?_ | refine loopQ_norm ?_ | refine loopQ_exit ?_ | refine loopQ_ret ?_ | refine endQ_ret ?_ | refine endQ_norm ?_ | refine endE_ret ?_ | refine endE_norm ?_ | refine endI_ret ?_ | refine endI_norm ?_)
      | (with_reducible refine wp_regK fun K hK => ?_
         simp[h6, hc1]
         repeat' (with_reducible first | refine hK _ ?_ | (refine psel ?_ ?_ <;> (intro hc; (try rw [Decidable.not_not] at hc); first | (exfalso; omega) | (try simp [hc, h6, hc1]))))
         all_goals (clear hK; clear K))
      | (with_reducible refine wp_condE ?_
         refine ⟨_, rfl, ?_, ?_⟩ <;> (intro hc; (try simp at hc); (all_goals first | (exfalso; omega) | skip))))
    exact hQ i _ h1 h3 h4 h5

theorem cut_ok {ky : Int → Int} {A M B md nn pp s0 r0 i e : Nat} {L R L1 L2 R1 R2 : List Int} (hL : Srt ky L) (hR : Srt ky R) (hx : ∀ x ∈ L, ∀ y ∈ R, x < y)
    (hM : M = A + L.length) (hB2 : B = M + R.length) (hpp : pp = md + M - 1) (hnn : nn = md + M) (he : e = nn - i) (hmd : md = (A + B) / 2)
    (c1 : s0 ≤ r0) (c2 : A ≤ s0) (c3 : r0 ≤ M) (c4 : r0 ≤ md) (c5 : pp - s0 < B) (c6 : s0 = A ∨ md + M - s0 = B) (c7 : r0 = M ∨ r0 = md) (h1 : s0 ≤ i) (h3 : i ≤ r0)
    (h4 : i = s0 ∨ ∀ u v, L[i - 1 - A]? = some u → R[pp - (i - 1) - M]? = some v → ky u ≤ ky v) (h5 : i = r0 ∨ ∀ u v, L[i - A]? = some u → R[pp - i - M]? = some v → ky v < ky u)
    (eL : L = L1 ++ L2) (eR : R = R1 ++ R2) (l1 : L1.length = i - A) (r1 : R1.length = e - M) (hr2 : 2 ≤ R.length) (hl2 : 2 ≤ L.length) :
    (∀ x ∈ L1, ∀ y ∈ R2, slt ky x y) ∧ (∀ x ∈ R1, ∀ y ∈ L2, slt ky x y) := by
  have l2 : L.length = L1.length + L2.length := by rw [eL]; simp
  have r2 : R.length = R1.length + R2.length := by rw [eR]; simp
  have g5 : ∀ x ∈ L1, ∀ y ∈ R2, slt ky x y := by
    intro x hxm y hym
    refine slt_of_le ?_ (hx x (by rw [eL]; simp [hxm]) y (by rw [eR]; simp [hym]))
    have n1 : 0 < L1.length := List.length_pos_of_mem hxm
    have n2 : 0 < R2.length := List.length_pos_of_mem hym
    rcases h4 with h4 | h4
    · exfalso; omega
    · obtain ⟨ix1, ht1⟩ := List.mem_iff_getElem?.1 hxm
      obtain ⟨ix2, ht2⟩ := List.mem_iff_getElem?.1 hym
      have q1 := lt_of_get ht1
      have q2 := lt_of_get ht2
      have w1 : L[ix1]? = some x := by rw [eL, List.getElem?_append_left q1]; exact ht1
      have w2 : R[R1.length + ix2]? = some y := by rw [eR, List.getElem?_append_right (by omega)]; simpa using ht2
      obtain ⟨u, hu⟩ : ∃ u, L[i - 1 - A]? = some u := ⟨L[i - 1 - A]'(by omega), by simp⟩
      obtain ⟨v, hv⟩ : ∃ v, R[pp - (i - 1) - M]? = some v := ⟨R[pp - (i - 1) - M]'(by omega), by simp⟩
      have o1 := srt_get hL w1 hu (by omega)
      have o2 := srt_get hR hv w2 (by omega)
      have o3 := h4 u v hu hv
      omega
  have g6 : ∀ x ∈ R1, ∀ y ∈ L2, slt ky x y := by
    intro x hxm y hym
    refine slt_of_lt ?_
    have n1 : 0 < R1.length := List.length_pos_of_mem hxm
    have n2 : 0 < L2.length := List.length_pos_of_mem hym
    rcases h5 with h5 | h5
    · exfalso; omega
    · obtain ⟨ix1, ht1⟩ := List.mem_iff_getElem?.1 hxm
      obtain ⟨ix2, ht2⟩ := List.mem_iff_getElem?.1 hym
      have q1 := lt_of_get ht1
      have q2 := lt_of_get ht2
      have w1 : R[ix1]? = some x := by rw [eR, List.getElem?_append_left q1]; exact ht1
      have w2 : L[L1.length + ix2]? = some y := by rw [eL, List.getElem?_append_right (by omega)]; simpa using ht2
      obtain ⟨u, hu⟩ : ∃ u, L[i - A]? = some u := ⟨L[i - A]'(by omega), by simp⟩
      obtain ⟨v, hv⟩ : ∃ v, R[pp - i - M]? = some v := ⟨R[pp - i - M]'(by omega), by simp⟩
      have o1 := srt_get hR w1 hv (by omega)
      have o2 := srt_get hL hu w2 (by omega)
      have o3 := h5 u v hu hv
      omega
  exact ⟨g5, g6⟩

/-- What a sorting function is to do with two runs. -/
def MergeOk (g : Nat) (c : D) (ky : Int → Int) (L R : List Int) : Prop :=
  ∀ (P S : List Int), (P ++ L ++ R ++ S).length ≤ 1099511627776 → ∀ (a m b : Int), a = P.length → m = P.length + L.length → b = P.length + L.length + R.length →
    ∃ W, W.Perm (L ++ R) ∧ Srt ky W ∧ Gw TT 410 [dat (P ++ L ++ R ++ S), vi a, vi m, vi b, fv g c] = some (lft (P ++ W ++ S))

theorem s410m {g : Nat} {c : D} {ky : Int → Int} {p : Int → Prop} {L R L1 L2 R1 R2 P S : List Int} {A M B md nn i e : Nat} {D0 : List (List D)} {Φ : V × List (Nat × Nat × C) → Prop} (hp : ∀ y ∈ L ++ R, p y) (hL : Srt ky L) (hR : Srt ky R) (hx : ∀ x ∈ L, ∀ y ∈ R, x < y)
    (IH : ∀ L' R', L' ≠ [] → R' ≠ [] → L'.length + R'.length < L.length + R.length → (∀ y ∈ L' ++ R', p y) → Srt ky L' → Srt ky R' → (∀ x ∈ L', ∀ y ∈ R', x < y) → MergeOk g c ky L' R')
    (eL : L = L1 ++ L2) (eR : R = R1 ++ R2) (hlen : P.length + L.length + R.length + S.length ≤ 1099511627776) (hA : A = P.length) (hM : M = A + L1.length + L2.length) (hB : B = A + L1.length + L2.length + R1.length + R2.length)
    (lA : i = A + L1.length) (lmd : md = A + L1.length + R1.length) (le : e = M + R1.length) (he : e = nn - i) (hnn : nn ≤ 4398046511104) (hD0 : (P ++ L ++ R ++ S).map ei = D0) (hΦ : (fun y : V × List (Nat × Nat × C) => ∃ W, W.Perm (L ++ R) ∧ Srt ky W ∧ y = lft (P ++ W ++ S)) = Φ)
    (hlb : L1.length + R1.length < L.length + R.length ∧ L2.length + R2.length < L.length + R.length)
    (g5 : ∀ x ∈ L1, ∀ y ∈ R2, slt ky x y) (g6 : ∀ x ∈ R1, ∀ y ∈ L2, slt ky x y) (tl : AL) :
    Wp (Gw TT) pb410.snd.snd.snd.snd.snd.snd.snd.snd (endE pf410 [.one (.own (.sl 1 D0)), vi A, vi M, vi B, fv g c] Φ)
      ((0, AV.pl 0 0 [], some (Rt.vir [C.own (D.sl 1 D0)])) :: (1, AV.v false (di A), none) :: (2, AV.v false (di M), none) :: (3, AV.v false (di B), none) :: (4, AV.v true (.fn g [c]), none) ::
        (18, AV.v false (di md), none) :: (19, AV.v false (di nn), none) :: (20, AV.v false (di i), none) :: tl) := by
  have l2 : L.length = L1.length + L2.length := by rw [eL]; simp
  have r2 : R.length = R1.length + R2.length := by rw [eR]; simp
  have hw5 : IntKind.wrap .i64 ((nn : Int) - (i : Int)) = (e : Int) := by rw [wrap_i64 (by omega) (by omega)]; omega
  have sL1 : Srt ky L1 := (eL ▸ hL).left
  have sL2 : Srt ky L2 := (eL ▸ hL).right
  have sR1 : Srt ky R1 := (eR ▸ hR).left
  have sR2 : Srt ky R2 := (eR ▸ hR).right
  have le2 : e = md + L2.length := by omega
  have lB : B = md + L2.length + R2.length := by omega
  obtain ⟨W1, w1, w2, w3⟩ : ∃ W1, W1.Perm (L1 ++ R1) ∧ Srt ky W1 ∧ ((A < i ∧ i < md ∧ Gw TT 410 [.one (.own (.sl 1 ((P ++ L1 ++ R1 ++ L2 ++ R2 ++ S).map ei))), vi A, vi i, vi md, fv g c] = some (.tup [], [(0, 0, .own (.sl 1 ((P ++ W1 ++ L2 ++ R2 ++ S).map ei)))])) ∨
      (¬ (A < i ∧ i < md) ∧ (P ++ L1 ++ R1 ++ L2 ++ R2 ++ S).map ei = (P ++ W1 ++ L2 ++ R2 ++ S).map ei)) := by
    by_cases hq : A < i ∧ i < md
    · obtain ⟨W1, w1, w2, w3⟩ := IH L1 R1 (fun h => by subst h; simp at lA; omega) (fun h => by subst h; simp at lmd; omega) (by omega) (fun y hy => hp y (by
        rw [eL, eR]; simp only [List.mem_append] at hy ⊢; rcases hy with h | h <;> simp [h])) sL1 sR1 (fun x hxm y hym => hx x (by rw [eL]; simp [hxm]) y (by rw [eR]; simp [hym])) P (L2 ++ R2 ++ S) (by simp; omega) A i md (by omega) (by omega) (by omega)
      refine ⟨W1, w1, w2, .inl ⟨hq.1, hq.2, ?_⟩⟩
      simpa only [dat, lft, List.append_assoc] using w3
    · refine ⟨L1 ++ R1, .refl _, ?_, .inr ⟨hq, by simp⟩⟩
      by_cases hz : L1.length = 0
      · rw [List.eq_nil_of_length_eq_zero hz]; exact sR1
      · rw [List.eq_nil_of_length_eq_zero (l := R1) (by omega), List.append_nil]; exact sL1
  have lW1 : W1.length = L1.length + R1.length := by rw [w1.length_eq]; simp
  obtain ⟨W2, y1, y2, y3⟩ : ∃ W2, W2.Perm (L2 ++ R2) ∧ Srt ky W2 ∧ ((md < e ∧ e < B ∧ Gw TT 410 [.one (.own (.sl 1 ((P ++ W1 ++ L2 ++ R2 ++ S).map ei))), vi md, vi e, vi B, fv g c] = some (.tup [], [(0, 0, .own (.sl 1 ((P ++ W1 ++ W2 ++ S).map ei)))])) ∨
      (¬ (md < e ∧ e < B) ∧ (P ++ W1 ++ L2 ++ R2 ++ S).map ei = (P ++ W1 ++ W2 ++ S).map ei)) := by
    by_cases hq : md < e ∧ e < B
    · obtain ⟨W2, y1, y2, y3⟩ := IH L2 R2 (fun h => by subst h; simp at le2; omega) (fun h => by subst h; simp at lB; omega) (by omega) (fun y hy => hp y (by
        rw [eL, eR]; simp only [List.mem_append] at hy ⊢; rcases hy with h | h <;> simp [h])) sL2 sR2 (fun x hxm y hym => hx x (by rw [eL]; simp [hxm]) y (by rw [eR]; simp [hym])) (P ++ W1) S (by simp; omega) md e B (by simp; omega) (by simp; omega) (by simp; omega)
      exact ⟨W2, y1, y2, .inl ⟨hq.1, hq.2, y3⟩⟩
    · refine ⟨L2 ++ R2, .refl _, ?_, .inr ⟨hq, by simp⟩⟩
      by_cases hz : L2.length = 0
      · rw [List.eq_nil_of_length_eq_zero hz]; exact sR2
      · rw [List.eq_nil_of_length_eq_zero (l := R2) (by omega), List.append_nil]; exact sL2
  have rot : (i < M ∧ M < e ∧ Gw TT 407 [.one (.own (.sl 1 D0)), vi i, vi M, vi e, fv g c] = some (.tup [], [(0, 0, .own (.sl 1 ((P ++ L1 ++ R1 ++ L2 ++ R2 ++ S).map ei)))])) ∨ (¬ (i < M ∧ M < e) ∧ D0 = (P ++ L1 ++ R1 ++ L2 ++ R2 ++ S).map ei) := by
    by_cases hq : i < M ∧ M < e
    · refine .inl ⟨hq.1, hq.2, ?_⟩
      have := s407 (g := g) (c := c) (P ++ L1) L2 R1 (R2 ++ S) (by simp; omega) (fun h => by subst h; simp at hM; omega) (fun h => by subst h; simp at le; omega) i M e (by simp; omega) (by simp; omega) (by simp; omega)
      rw [← hD0, eL, eR]
      simpa only [dat, lft, List.append_assoc] using this
    · refine .inr ⟨hq, ?_⟩
      rw [← hD0, eL, eR]
      by_cases hz : L2.length = 0
      · rw [List.eq_nil_of_length_eq_zero hz]; simp
      · rw [List.eq_nil_of_length_eq_zero (l := R1) (by omega)]; simp
  obtain ⟨z1, z2⟩ := srt_merge (eL ▸ hL) (eR ▸ hR) w1 w2 y1 y2 g5 g6
  have hfin : Φ (.tup [], [(0, 0, .own (.sl 1 ((P ++ W1 ++ W2 ++ S).map ei)))]) := by
    rw [← hΦ]
    exact ⟨W1 ++ W2, by rw [eL, eR]; exact z2, z1, by simp [lft]⟩
  exact s410t _ hw5 rot w3 y3 rfl hfin

theorem s410c {g : Nat} {c : D} {ky : Int → Int} {p : Int → Prop} (hcmp : CmpOk g c ky p) (L R : List Int) (hp : ∀ y ∈ L ++ R, p y) (hL : Srt ky L) (hR : Srt ky R) (hx : ∀ x ∈ L, ∀ y ∈ R, x < y) (hl2 : 2 ≤ L.length) (hr2 : 2 ≤ R.length)
    (IH : ∀ L' R', L' ≠ [] → R' ≠ [] → L'.length + R'.length < L.length + R.length → (∀ y ∈ L' ++ R', p y) → Srt ky L' → Srt ky R' → (∀ x ∈ L', ∀ y ∈ R', x < y) → MergeOk g c ky L' R') : MergeOk g c ky L R := by
  intro P S hlen a m b ha hm hb
  suffices h : ∃ y, Gw TT 410 [dat (P ++ L ++ R ++ S), vi a, vi m, vi b, fv g c] = some y ∧ ∃ W, W.Perm (L ++ R) ∧ Srt ky W ∧ y = lft (P ++ W ++ S) by
    obtain ⟨y, h1, W, h2, h3, rfl⟩ := h
    exact ⟨W, h2, h3, h1⟩
  refine Gw_ofE (F := pf410) rfl rfl ?_
  show Wp _ pb410 _ _
  simp only [List.length_append] at hlen
  obtain ⟨A, hA⟩ : ∃ A : Nat, A = P.length := ⟨_, rfl⟩
  obtain ⟨M, hM⟩ : ∃ M : Nat, M = P.length + L.length := ⟨_, rfl⟩
  obtain ⟨B, hB⟩ : ∃ B : Nat, B = P.length + L.length + R.length := ⟨_, rfl⟩
  obtain ⟨md, hmd⟩ : ∃ md : Nat, md = (A + B) / 2 := ⟨_, rfl⟩
  obtain ⟨nn, hnn⟩ : ∃ nn : Nat, nn = md + M := ⟨_, rfl⟩
  obtain ⟨pp, hpp⟩ : ∃ pp : Nat, pp = md + M - 1 := ⟨_, rfl⟩
  have e1 : a = (A : Int) := by omega
  have e2 : m = (M : Int) := by omega
  have e3 : b = (B : Int) := by omega
  subst e1 e2 e3
  have hw0 : IntKind.wrap .i64 ((M : Int) - (A : Int)) = (L.length : Int) := by rw [wrap_i64 (by omega) (by omega)]; omega
  have hw0' : ¬ (L.length : Int) = 1 := by omega
  have hw1 : IntKind.wrap .i64 ((B : Int) - (M : Int)) = (R.length : Int) := by rw [wrap_i64 (by omega) (by omega)]; omega
  have hw1' : ¬ (R.length : Int) = 1 := by omega
  have hw2 : IntKind.wrap .i64 ((A : Int) + (B : Int)) = (A : Int) + (B : Int) := wrap_i64 (by omega) (by omega)
  have hmid := mid_eq (x := (A : Int) + (B : Int)) (h := md) (by omega) (by omega) (by omega)
  have hw3 : IntKind.wrap .i64 ((md : Int) + (M : Int)) = (nn : Int) := by rw [wrap_i64 (by omega) (by omega)]; omega
  have hw4 : IntKind.wrap .i64 ((nn : Int) - 1) = (pp : Int) := by rw [wrap_i64 (by omega) (by omega)]; omega
  have hLl : ((P ++ L ++ R ++ S).map ei).length = B + S.length := by simp; omega
  have hgl : ∀ t y, L[t]? = some y → ((P ++ L ++ R ++ S).map ei)[A + t]? = some [di y] := fun t y h => by
    have := lt_of_get h
    rw [show P ++ L ++ R ++ S = P ++ (L ++ (R ++ S)) by simp, List.map_append, List.getElem?_append_right (by simp; omega), List.map_append, List.getElem?_append_left (by simp; omega)]
    simp [h, hA]
  have hgr : ∀ t y, R[t]? = some y → ((P ++ L ++ R ++ S).map ei)[M + t]? = some [di y] := fun t y h => by
    have := lt_of_get h
    rw [show P ++ L ++ R ++ S = (P ++ L) ++ (R ++ S) by simp, List.map_append, List.getElem?_append_right (by simp; omega), List.map_append, List.getElem?_append_left (by simp; omega)]
    simp [h, hM]
  simp only [dat]
  generalize hD0 : (P ++ L ++ R ++ S).map ei = D0 at hLl hgl hgr ⊢
  generalize hΦ : (fun y : V × List (Nat × Nat × C) => ∃ W, W.Perm (L ++ R) ∧ Srt ky W ∧ y = lft (P ++ W ++ S)) = Φ
  -- from the search on
  have key : ∀ s0 r0 : Nat, s0 ≤ r0 → A ≤ s0 → r0 ≤ M → r0 ≤ md → pp - s0 < B → (s0 = A ∨ md + M - s0 = B) → (r0 = M ∨ r0 = md) →
      Wp (Gw TT) (.loop pl410_0) (blkQ 8 (seqQ (Gw TT) pb410.snd.snd.snd.snd.snd.snd.snd.snd (endE pf410 [.one (.own (.sl 1 D0)), vi A, vi M, vi B, fv g c] Φ)))
        [(0, AV.pl 0 0 [], some (Rt.vir [C.own (D.sl 1 D0)])), (1, AV.v false (di A), none), (2, AV.v false (di M), none), (3, AV.v false (di B), none), (4, AV.v true (.fn g [c]), none),
          (18, AV.v false (di md), none), (19, AV.v false (di nn), none), (20, AV.v false (di s0), none), (21, AV.v false (di r0), none), (22, AV.v false (di pp), none)] := by
    intro s0 r0 c1 c2 c3 c4 c5 c6 c7
    refine s410l hcmp hp (by omega) (by omega) (by omega) (by omega) hpp hgl hgr c1 c2 c3 c4 c5 (by omega) fun i tl h1 h3 h4 h5 => ?_
    refine blkQ_exit (seqQ_norm ?_)
    obtain ⟨e, he⟩ : ∃ e : Nat, e = nn - i := ⟨_, rfl⟩
    obtain ⟨L1, L2, eL, l1⟩ : ∃ L1 L2, L = L1 ++ L2 ∧ L1.length = i - A := ⟨L.take (i - A), L.drop (i - A), by simp, by simp; omega⟩
    have hie : M ≤ e ∧ e ≤ B := by omega
    obtain ⟨R1, R2, eR, r1⟩ : ∃ R1 R2, R = R1 ++ R2 ∧ R1.length = e - M := ⟨R.take (e - M), R.drop (e - M), by simp, by simp; omega⟩
    have l2 : L.length = L1.length + L2.length := by rw [eL]; simp
    have r2 : R.length = R1.length + R2.length := by rw [eR]; simp
    obtain ⟨g5, g6⟩ := cut_ok (L1 := L1) (L2 := L2) (R1 := R1) (R2 := R2) (e := e) hL hR hx (by omega) (by omega) hpp hnn he hmd c1 c2 c3 c4 c5 c6 c7 h1 h3 h4 h5 eL eR l1 r1 hr2 hl2
    have lA : i = A + L1.length := by omega
    have lmd : md = A + L1.length + R1.length := by omega
    have le : e = M + R1.length := by omega
    clear h4 h5 hgl hgr c5 c6 c7 hmid hw0 hw0' hw1 hw1' hw2 hw3 hw4
    exact s410m (A := A) (M := M) (B := B) (md := md) (nn := nn) (i := i) (e := e) hp hL hR hx IH eL eR hlen hA (by omega) (by omega) lA lmd le he (by omega) hD0 hΦ ⟨by omega, by omega⟩ g5 g6 tl
  unfold pb410
  by_cases hmm : (md : Int) < (M : Int)
  · obtain ⟨s0, hs0⟩ : ∃ s0 : Nat, s0 = nn - B := ⟨_, rfl⟩
    have hw5 : IntKind.wrap .i64 ((nn : Int) - (B : Int)) = (s0 : Int) := by rw [wrap_i64 (by omega) (by omega)]; omega
    repeat' (first
      | with_reducible (first | refine wp_seq ?_ | refine wp_blk ?_ | refine wp_skip ?_ | refine wp_exit ?_ | refine wp_ret ?_ | refine seqQ_norm ?_ | refine seqQ_ret ?_ | refine seqQ_exit ?_ | refine blkQ_norm ?_ | refine blkQ_ret ?_ | refine blkQ_exit ?_ | refine loopQ_norm ?_ | refine loopQ_exit ?_ | refine loopQ_ret ?_ | refine endQ_ret ?_ | refine endQ_norm ?_ | refine endE_ret ?_ | refine endE_norm ?_ | refine endI_ret ?_ | refine endI_norm ?_)
      | (with_reducible refine wp_regK fun K hK => ?_
         simp[hw0, hw0', hw1, hw1', hw2, hmid, hw3, hw4, hmm, hw5]
         repeat' (with_reducible first | refine hK _ ?_ | (refine psel ?_ ?_ <;> (intro hc; (try rw [Decidable.not_not] at hc); first | (exfalso; omega) | (try simp [hc, hw0, hw0', hw1, hw1', hw2, hmid, hw3, hw4, hmm, hw5]))))
         all_goals (clear hK; clear K))
      | (with_reducible refine wp_condE ?_
         refine ⟨_, rfl, ?_, ?_⟩ <;> (intro hc; (try simp at hc); (all_goals first | (exfalso; omega) | skip))))
    exact key s0 md (by omega) (by omega) (by omega) (by omega) (by omega) (by omega) (by omega)
  · repeat' (first
      | with_reducible (first | refine wp_seq ?_ | refine wp_blk ?_ | refine wp_skip ?_ | refine wp_exit ?_ | refine wp_ret ?_ | refine seqQ_norm ?_ | refine seqQ_ret ?_ | refine seqQ_exit ?_ | refine blkQ_norm ?_ | refine blkQ_ret ?_ | refine blkQ_exit ?_ | refine loopQ_norm ?_ | refine loopQ_exit ?_ | refine loopQ_ret ?_ | refine endQ_ret ?_ | refine endQ_norm ?_ | refine endE_ret ?_ | refine endE_norm ?_ | refine endI_ret ?_ | refine endI_norm ?_)
      | (with_reducible refine wp_regK fun K hK => ?_
         simp[hw0, hw0', hw1, hw1', hw2, hmid, hw3, hw4, hmm]
         repeat' (with_reducible first | refine hK _ ?_ | (refine psel ?_ ?_ <;> (intro hc; (try rw [Decidable.not_not] at hc); first | (exfalso; omega) | (try simp [hc, hw0, hw0', hw1, hw1', hw2, hmid, hw3, hw4, hmm]))))
         all_goals (clear hK; clear K))
      | (with_reducible refine wp_condE ?_
         refine ⟨_, rfl, ?_, ?_⟩ <;> (intro hc; (try simp at hc); (all_goals first | (exfalso; omega) | skip))))
    exact key A M (by omega) (by omega) (by omega) (by omega) (by omega) (by omega) (by omega)

theorem s410 {g : Nat} {c : D} {ky : Int → Int} {p : Int → Prop} (hcmp : CmpOk g c ky p) : ∀ (n : Nat) (L R : List Int), L.length + R.length ≤ n → L ≠ [] → R ≠ [] → (∀ y ∈ L ++ R, p y) → Srt ky L → Srt ky R → (∀ x ∈ L, ∀ y ∈ R, x < y) → MergeOk g c ky L R := by
  intro n
  induction n with
  | zero =>
    intro L R h hL
    exact absurd (List.eq_nil_of_length_eq_zero (by omega)) hL
  | succ n ih =>
    intro L R hn hL0 hR0 hp hL hR hx
    by_cases h1 : L.length = 1
    · obtain ⟨x, rfl⟩ : ∃ x, L = [x] := List.length_eq_one_iff.1 h1
      intro P S hlen a m b ha hm hb
      obtain ⟨W, w1, w2, w3⟩ := s410a hcmp P R S x (by simpa using hp) (by simpa using hlen) hR (fun y hy => hx x (by simp) y hy) a m b ha (by simpa using hm) (by simpa using hb)
      exact ⟨W, by simpa using w1, w2, by simpa only [List.append_assoc, List.cons_append, List.nil_append] using w3⟩
    · have h2 : 2 ≤ L.length := by
        have : L.length ≠ 0 := fun h => hL0 (List.eq_nil_of_length_eq_zero h)
        omega
      by_cases h3 : R.length = 1
      · obtain ⟨x, rfl⟩ : ∃ x, R = [x] := List.length_eq_one_iff.1 h3
        intro P S hlen a m b ha hm hb
        obtain ⟨W, w1, w2, w3⟩ := s410b hcmp P L S x hp (by simpa using hlen) hL (fun y hy => hx y hy x (by simp)) a m b h2 ha hm (by simpa using hb)
        exact ⟨W, w1, w2, by simpa only [List.append_assoc, List.cons_append, List.nil_append] using w3⟩
      · have h4 : 2 ≤ R.length := by
          have : R.length ≠ 0 := fun h => hR0 (List.eq_nil_of_length_eq_zero h)
          omega
        exact s410c hcmp L R hp hL hR hx h2 h4 (fun L' R' a1 a2 a3 a4 a5 a6 a7 => ih L' R' (by omega) a1 a2 a4 a5 a6 a7)

/-- Blocks of the list, each sorted for itself. -/
inductive Good (ky : Int → Int) (bs : Nat) : List Int → List Int → Prop
  | short (xs l : List Int) : xs.length ≤ bs → l.Perm xs → Srt ky l → Good ky bs xs l
  | app (w w' xs l : List Int) : w.length = bs → w'.Perm w → Srt ky w' → Good ky bs xs l → Good ky bs (w ++ xs) (w' ++ l)

theorem Good.perm {ky : Int → Int} {bs : Nat} {xs l : List Int} (h : Good ky bs xs l) : l.Perm xs := by
  induction h with
  | short _ _ _ h => exact h
  | app _ _ _ _ _ h _ _ ih => exact h.append ih

theorem Good.nil {ky : Int → Int} {bs : Nat} : Good ky bs [] [] := .short _ _ (by simp) (.refl _) (by simp [Srt])

theorem Good.split {ky : Int → Int} {bs : Nat} {xs l : List Int} (h : Good ky bs xs l) (hb : bs ≤ xs.length) : ∃ w w' xs' l', xs = w ++ xs' ∧ l = w' ++ l' ∧ w.length = bs ∧ w'.Perm w ∧ Srt ky w' ∧ Good ky bs xs' l' := by
  cases h with
  | short _ _ h1 h2 h3 => exact ⟨xs, l, [], [], by simp, by simp, by omega, h2, h3, .nil⟩
  | app w w' xs l h1 h2 h3 h4 => exact ⟨w, w', xs, l, rfl, rfl, h1, h2, h3, h4⟩

theorem Good.le {ky : Int → Int} {bs : Nat} {xs l : List Int} (h : Good ky bs xs l) (hb : xs.length ≤ bs) (h0 : 0 < bs) : l.Perm xs ∧ Srt ky l := by
  cases h with
  | short _ _ h1 h2 h3 => exact ⟨h2, h3⟩
  | app w w' xs l h1 h2 h3 h4 =>
    have h5 : xs = [] := List.eq_nil_of_length_eq_zero (by simp at hb; omega)
    subst h5
    have h6 : l = [] := List.perm_nil.1 h4.perm
    subst h6
    simpa using ⟨h2, h3⟩

theorem s406' {g : Nat} {c : D} {ky : Int → Int} {p : Int → Prop} (hcmp : CmpOk g c ky p) (P W S : List Int) (hp : ∀ x ∈ W, p x) (hlen : (P ++ W ++ S).length ≤ 1099511627776) (hW : W.Pairwise (· < ·)) (a b : Int) (ha : a = P.length) (hb : b = P.length + W.length) :
    ∃ W', W'.Perm W ∧ Srt ky W' ∧ Gw TT 406 [dat (P ++ W ++ S), vi a, vi b, fv g c] = some (lft (P ++ W' ++ S)) := by
  subst ha hb
  exact s406 hcmp P W S hp hlen hW

theorem s408 {g : Nat} {c : D} {ky : Int → Int} {p : Int → Prop} (hcmp : CmpOk g c ky p) (xs : List Int) (hp : ∀ x ∈ xs, p x) (hlen : xs.length ≤ 1099511627776) (hxs : xs.Pairwise (· < ·)) (n : Int) (hn : n = xs.length) :
    ∃ W, W.Perm xs ∧ Srt ky W ∧ Gw TT 408 [dat xs, vi n, fv g c] = some (lft W) := by
  suffices h : ∃ y, Gw TT 408 [dat xs, vi n, fv g c] = some y ∧ ∃ W, W.Perm xs ∧ Srt ky W ∧ y = lft W by
    obtain ⟨y, h1, W, h2, h3, rfl⟩ := h
    exact ⟨W, h2, h3, h1⟩
  refine Gw_ofE (F := pf408) rfl rfl ?_
  show Wp _ pb408 _ _
  unfold pb408
  repeat' (first
    | with_reducible (first | refine wp_seq ?_ | refine wp_blk ?_ | refine wp_skip ?_ | refine wp_exit ?_ | refine wp_ret ?_ | refine seqQ_norm ?_ | refine seqQ_ret ?_ | refine seqQ_exit ?_ | refine blkQ_norm ?_ | refine blkQ_ret ?_ | refine blkQ_exit ?_ | refine loopQ_norm ?_ | refine loopQ_exit ?_ | refine loopQ_ret ?_ | refine endQ_ret ?_ | refine endQ_norm ?_ | refine endE_ret ?_ | refine endE_norm ?_ | refine endI_ret ?_ | refine endI_norm ?_)
    | (with_reducible refine wp_regK fun K hK => ?_
       simp
       repeat' (with_reducible first | refine hK _ ?_ | (refine psel ?_ ?_ <;> (intro hc; (try rw [Decidable.not_not] at hc); first | (exfalso; omega) | (try simp [hc]))))
       all_goals (clear hK; clear K))
    | (with_reducible refine wp_condE ?_
       refine ⟨_, rfl, ?_, ?_⟩ <;> (intro hc; (try simp at hc); (all_goals first | (exfalso; omega) | skip))))
  refine wp_loopI (σ := (List Int × List Int) × List Int) (fun s => [(0, AV.pl 0 0 [], some (Rt.vir [C.own (D.sl 1 ((s.1.2 ++ s.2).map ei))])), (1, AV.v false (di n), none), (2, AV.v true (.fn g [c]), none), (6, AV.v false (di 20), none), (7, AV.v false (di (s.1.1.length : Nat)), none), (8, AV.v false (di ((s.1.1.length : Nat) + 20)), none)])
    (fun s => xs = s.1.1 ++ s.2 ∧ s.1.2.Perm s.1.1 ∧ ∀ t t', Good ky 20 t t' → Good ky 20 (s.1.1 ++ t) (s.1.2 ++ t')) (fun s => s.2.length) (([], []), xs) (by simp) ⟨rfl, .refl _, fun t t' h => h⟩ ?_
  rintro ⟨⟨dx, dy⟩, rx⟩ ⟨h1, h2, h3⟩
  simp only at h1 h2 h3 ⊢
  unfold pl408_2
  have hl1 : xs.length = dx.length + rx.length := by rw [h1]; simp
  have hl2 := h2.length_eq
  have hrx : rx.Pairwise (· < ·) := (List.pairwise_append.1 (h1 ▸ hxs)).2.1
  have hprx : ∀ x ∈ rx, p x := fun x hx => hp x (by rw [h1]; simp [hx])
  by_cases hb : (dx.length : Int) + 20 ≤ n
  · obtain ⟨w, r2, rfl, hw⟩ : ∃ w r2, rx = w ++ r2 ∧ w.length = 20 := ⟨rx.take 20, rx.drop 20, by simp, by simp; omega⟩
    have hwp := List.pairwise_append.1 hrx
    obtain ⟨W, w1, w2, w3⟩ := s406' hcmp dy w r2 (fun x hx => hprx x (by simp [hx])) (by simp at hl1 ⊢; omega) hwp.1 dx.length ((dx.length : Int) + 20) (by omega) (by omega)
    have hv1 : IntKind.wrap .i64 ((dx.length : Int) + 20 + 20) = (dx.length : Int) + 20 + 20 := wrap_i64 (by omega) (by omega)
    simp only [dat, lft] at w3
    rw [List.append_assoc] at w3
    generalize (dy ++ (w ++ r2)).map ei = Q at w3 ⊢
    generalize hQ2 : (dy ++ W ++ r2).map ei = Q2 at w3
    repeat' (first
      | with_reducible (first | refine wp_seq ?_ | refine wp_blk ?_ | refine wp_skip ?_ | refine wp_exit ?_ | refine wp_ret ?_ | refine seqQ_norm ?_ | refine seqQ_ret ?_ | refine seqQ_exit ?_ | refine blkQ_norm ?_ | refine blkQ_ret ?_ | refine blkQ_exit ?_ | refine loopQ_norm ?_ | refine loopQ_exit ?_ | refine loopQ_ret ?_ | refine endQ_ret ?_ | refine endQ_norm ?_ | refine endE_ret ?_ | refine endE_norm ?_ | refine endI_ret ?_ | refine endI_norm ?_)
      | (with_reducible refine wp_regK fun K hK => ?_
         simp[hb, w3, hv1]
         repeat' (with_reducible first | refine hK _ ?_ | (refine psel ?_ ?_ <;> (intro hc; (try rw [Decidable.not_not] at hc); first | (exfalso; omega) | (try simp [hc, hb, w3, hv1]))))
         all_goals (clear hK; clear K))
      | (with_reducible refine wp_condE ?_
         refine ⟨_, rfl, ?_, ?_⟩ <;> (intro hc; (try simp at hc); (all_goals first | (exfalso; omega) | skip))))
    all_goals exact ⟨((dx ++ w, dy ++ W), r2), by simp [← hQ2, hw]; try omega, ⟨by simp [h1], h2.append w1, fun t t' h => by
      rw [List.append_assoc, List.append_assoc]
      exact h3 _ _ (.app w W t t' hw w1 w2 h)⟩, by simp; omega⟩
  · obtain ⟨W, w1, w2, w3⟩ := s406' hcmp dy rx [] hprx (by simp; omega) hrx dx.length n (by omega) (by omega)
    simp only [List.append_nil, dat, lft] at w3
    generalize (dy ++ rx).map ei = Q at w3 ⊢
    have hgood : Good ky 20 xs (dy ++ W) := by rw [h1]; exact h3 _ _ (.short _ _ (by omega) w1 w2)
    clear h1 h2 h3 hl1 hl2
    generalize dy ++ W = l0 at hgood w3
    generalize hQ2 : l0.map ei = Q2 at w3
    repeat' (first
      | with_reducible (first | refine wp_seq ?_ | refine wp_blk ?_ | refine wp_skip ?_ | refine wp_exit ?_ | refine wp_ret ?_ | refine seqQ_norm ?_ | refine seqQ_ret ?_ | refine seqQ_exit ?_ | refine blkQ_norm ?_ | refine blkQ_ret ?_ | refine blkQ_exit ?_ | refine loopQ_norm ?_ | refine loopQ_exit ?_ | refine loopQ_ret ?_ | refine endQ_ret ?_ | refine endQ_norm ?_ | refine endE_ret ?_ | refine endE_norm ?_ | refine endI_ret ?_ | refine endI_norm ?_)
      | (with_reducible refine wp_regK fun K hK => ?_
         simp[hb, w3]
         repeat' (with_reducible first | refine hK _ ?_ | (refine psel ?_ ?_ <;> (intro hc; (try rw [Decidable.not_not] at hc); first | (exfalso; omega) | (try simp [hc, hb, w3]))))
         all_goals (clear hK; clear K))
      | (with_reducible refine wp_condE ?_
         refine ⟨_, rfl, ?_, ?_⟩ <;> (intro hc; (try simp at hc); (all_goals first | (exfalso; omega) | skip))))
    refine wp_loopI (σ := Nat × List Int) (fun s => [(0, AV.pl 0 0 [], some (Rt.vir [C.own (D.sl 1 (s.2.map ei))])), (1, AV.v false (di n), none), (2, AV.v true (.fn g [c]), none), (6, AV.v false (di (s.1 : Nat)), none)])
      (fun s => 0 < s.1 ∧ Good ky s.1 xs s.2) (fun s => xs.length - s.1) (20, l0) (by simp [hQ2]) ⟨by simp, hgood⟩ ?_
    rintro ⟨bs, l⟩ ⟨h1, h2⟩
    simp only at h1 h2 ⊢
    unfold pl408_1
    have hll := h2.perm.length_eq
    by_cases hbn : (bs : Int) < n
    · have hv0 : IntKind.wrap .i64 (2 * (bs : Int)) = 2 * (bs : Int) := wrap_i64 (by omega) (by omega)
      have hv0' : IntKind.wrap .i64 ((bs : Int) * 2) = (bs : Int) * 2 := wrap_i64 (by omega) (by omega)
      repeat' (first
        | with_reducible (first | refine wp_seq ?_ | refine wp_blk ?_ | refine wp_skip ?_ | refine wp_exit ?_ | refine wp_ret ?_ | refine seqQ_norm ?_ | refine seqQ_ret ?_ | refine seqQ_exit ?_ | refine blkQ_norm ?_ | refine blkQ_ret ?_ | refine blkQ_exit ?_ | refine loopQ_norm ?_ | refine loopQ_exit ?_ | refine loopQ_ret ?_ | refine endQ_ret ?_ | refine endQ_norm ?_ | refine endE_ret ?_ | refine endE_norm ?_ | refine endI_ret ?_ | refine endI_norm ?_)
        | (with_reducible refine wp_regK fun K hK => ?_
           simp[hbn, hv0]
           repeat' (with_reducible first | refine hK _ ?_ | (refine psel ?_ ?_ <;> (intro hc; (try rw [Decidable.not_not] at hc); first | (exfalso; omega) | (try simp [hc, hbn, hv0]))))
           all_goals (clear hK; clear K))
        | (with_reducible refine wp_condE ?_
           refine ⟨_, rfl, ?_, ?_⟩ <;> (intro hc; (try simp at hc); (all_goals first | (exfalso; omega) | skip))))
      refine wp_loopI (σ := (List Int × List Int) × (List Int × List Int)) (fun s => [(0, AV.pl 0 0 [], some (Rt.vir [C.own (D.sl 1 ((s.1.2 ++ s.2.2).map ei))])), (1, AV.v false (di n), none), (2, AV.v true (.fn g [c]), none), (6, AV.v false (di (bs : Nat)), none), (7, AV.v false (di (s.1.1.length : Nat)), none), (8, AV.v false (di ((s.1.1.length : Nat) + 2 * (bs : Int))), none)])
        (fun s => xs = s.1.1 ++ s.2.1 ∧ s.1.2.Perm s.1.1 ∧ Good ky bs s.2.1 s.2.2 ∧ ∀ t t', Good ky (2 * bs) t t' → Good ky (2 * bs) (s.1.1 ++ t) (s.1.2 ++ t')) (fun s => s.2.1.length) (([], []), (xs, l)) (by simp) ⟨rfl, .refl _, h2, fun t t' h => h⟩ ?_
      rintro ⟨⟨dx, dy⟩, ⟨rx, ry⟩⟩ ⟨k1, k2, k3, k4⟩
      simp only at k1 k2 k3 k4 ⊢
      unfold pl408_0
      have hl1 : xs.length = dx.length + rx.length := by rw [k1]; simp
      have hl2 := k2.length_eq
      have hl3 := k3.perm.length_eq
      have hrx : rx.Pairwise (· < ·) := (List.pairwise_append.1 (k1 ▸ hxs)).2.1
      have hprx : ∀ x ∈ rx, p x := fun x hx => hp x (by rw [k1]; simp [hx])
      have hv1 : IntKind.wrap .i64 ((dx.length : Int) + (bs : Int)) = (dx.length : Int) + (bs : Int) := wrap_i64 (by omega) (by omega)
      by_cases hb3 : (dx.length : Int) + 2 * (bs : Int) ≤ n
      · obtain ⟨v, v', rx2, ry2, rfl, rfl, a1, a2, a3, a4⟩ := k3.split (by omega)
        obtain ⟨w, w', rx, ry, rfl, rfl, b1, b2, b3, b4⟩ := a4.split (by simp at hl1; omega)
        have a5 := a2.length_eq
        have b5 := b2.length_eq
        simp only [List.length_append] at hl1 hl3
        have hxy : ∀ x ∈ v', ∀ y ∈ w', x < y := fun x hx y hy => (List.pairwise_append.1 hrx).2.2 x (a2.subset hx) y (by simp [b2.subset hy])
        have hpv : ∀ y ∈ v' ++ w', p y := fun y hy => hprx y (by
          rcases List.mem_append.1 hy with h | h
          · simp [a2.subset h]
          · simp [b2.subset h])
        have hne1 : v' ≠ [] := fun h => by subst h; simp at a5; omega
        have hne2 : w' ≠ [] := fun h => by subst h; simp at b5; omega
        obtain ⟨W, w1, w2, w3⟩ := s410 hcmp _ v' w' (Nat.le_refl _) hne1 hne2 hpv a3 b3 hxy dy ry (by simp only [List.length_append, List.length_nil]; omega) dx.length ((dx.length : Int) + (bs : Int)) ((dx.length : Int) + 2 * (bs : Int)) (by omega) (by omega) (by omega)
        have hv2 : IntKind.wrap .i64 ((dx.length : Int) + 2 * (bs : Int) + 2 * (bs : Int)) = (dx.length : Int) + 2 * (bs : Int) + 2 * (bs : Int) := wrap_i64 (by omega) (by omega)
        simp only [dat, lft] at w3
        rw [show dy ++ v' ++ w' ++ ry = dy ++ (v' ++ (w' ++ ry)) by simp] at w3
        generalize (dy ++ (v' ++ (w' ++ ry))).map ei = Q at w3 ⊢
        generalize hQ3 : (dy ++ W ++ ry).map ei = Q3 at w3
        repeat' (first
          | with_reducible (first | refine wp_seq ?_ | refine wp_blk ?_ | refine wp_skip ?_ | refine wp_exit ?_ | refine wp_ret ?_ | refine seqQ_norm ?_ | refine seqQ_ret ?_ | refine seqQ_exit ?_ | refine blkQ_norm ?_ | refine blkQ_ret ?_ | refine blkQ_exit ?_ | refine loopQ_norm ?_ | refine loopQ_exit ?_ | refine loopQ_ret ?_ | refine endQ_ret ?_ | refine endQ_norm ?_ | refine endE_ret ?_ | refine endE_norm ?_ | refine endI_ret ?_ | refine endI_norm ?_)
          | (with_reducible refine wp_regK fun K hK => ?_
             simp[hb3, hv0, hv1, hv2, w3]
             repeat' (with_reducible first | refine hK _ ?_ | (refine psel ?_ ?_ <;> (intro hc; (try rw [Decidable.not_not] at hc); first | (exfalso; omega) | (try simp [hc, hb3, hv0, hv1, hv2, w3]))))
             all_goals (clear hK; clear K))
          | (with_reducible refine wp_condE ?_
             refine ⟨_, rfl, ?_, ?_⟩ <;> (intro hc; (try simp at hc); (all_goals first | (exfalso; omega) | skip))))
        all_goals exact ⟨((dx ++ (v ++ w), dy ++ W), (rx, ry)), by simp [← hQ3, a1, b1]; try omega, ⟨by simp [k1], k2.append (w1.trans (a2.append b2)), b4, fun t t' h => by
          show Good ky (2 * bs) ((dx ++ (v ++ w)) ++ t) ((dy ++ W) ++ t')
          rw [List.append_assoc dx, List.append_assoc dy]
          exact k4 _ _ (.app (v ++ w) W t t' (by simp; omega) (w1.trans (a2.append b2)) w2 h)⟩, by simp; omega⟩
      · by_cases hm : (dx.length : Int) + (bs : Int) < n
        · obtain ⟨v, v', rx2, ry2, rfl, rfl, a1, a2, a3, a4⟩ := k3.split (by omega)
          obtain ⟨b2, b3⟩ := a4.le (by simp at hl1; omega) h1
          have a5 := a2.length_eq
          have b5 := b2.length_eq
          simp only [List.length_append] at hl1 hl3
          have hxy : ∀ x ∈ v', ∀ y ∈ ry2, x < y := fun x hx y hy => (List.pairwise_append.1 hrx).2.2 x (a2.subset hx) y (b2.subset hy)
          have hpv : ∀ y ∈ v' ++ ry2, p y := fun y hy => hprx y (by
            rcases List.mem_append.1 hy with h | h
            · simp [a2.subset h]
            · simp [b2.subset h])
          have hne1 : v' ≠ [] := fun h => by subst h; simp at a5; omega
          have hne2 : ry2 ≠ [] := fun h => by subst h; simp at b5; omega
          obtain ⟨W, w1, w2, w3⟩ := s410 hcmp _ v' ry2 (Nat.le_refl _) hne1 hne2 hpv a3 b3 hxy dy [] (by simp only [List.length_append, List.length_nil]; omega) dx.length ((dx.length : Int) + (bs : Int)) n (by omega) (by omega) (by omega)
          simp only [dat, lft, List.append_nil] at w3
          rw [show dy ++ v' ++ ry2 = dy ++ (v' ++ ry2) by simp] at w3
          have hfin : Good ky (2 * bs) xs (dy ++ W) := by rw [k1]; exact k4 _ _ (.short _ _ (by simp only [List.length_append]; omega) (w1.trans (a2.append b2)) w2)
          generalize (dy ++ (v' ++ ry2)).map ei = Q at w3 ⊢
          generalize hQ3 : (dy ++ W).map ei = Q3 at w3
          repeat' (first
            | with_reducible (first | refine wp_seq ?_ | refine wp_blk ?_ | refine wp_skip ?_ | refine wp_exit ?_ | refine wp_ret ?_ | refine seqQ_norm ?_ | refine seqQ_ret ?_ | refine seqQ_exit ?_ | refine blkQ_norm ?_ | refine blkQ_ret ?_ | refine blkQ_exit ?_ | refine loopQ_norm ?_ | refine loopQ_exit ?_ | refine loopQ_ret ?_ | refine endQ_ret ?_ | refine endQ_norm ?_ | refine endE_ret ?_ | refine endE_norm ?_ | refine endI_ret ?_ | refine endI_norm ?_)
            | (with_reducible refine wp_regK fun K hK => ?_
               simp[hb3, hv0, hv0', hv1, hm, w3]
               repeat' (with_reducible first | refine hK _ ?_ | (refine psel ?_ ?_ <;> (intro hc; (try rw [Decidable.not_not] at hc); first | (exfalso; omega) | (try simp [hc, hb3, hv0, hv0', hv1, hm, w3]))))
               all_goals (clear hK; clear K))
            | (with_reducible refine wp_condE ?_
               refine ⟨_, rfl, ?_, ?_⟩ <;> (intro hc; (try simp at hc); (all_goals first | (exfalso; omega) | skip))))
          all_goals exact ⟨(2 * bs, dy ++ W), by rw [hQ3]; simp; omega, ⟨by simp only; omega, hfin⟩, by simp only; omega⟩
        · obtain ⟨b2, b3⟩ := k3.le (by omega) h1
          have hfin : Good ky (2 * bs) xs (dy ++ ry) := by rw [k1]; exact k4 _ _ (.short _ _ (by omega) b2 b3)
          generalize hQ3 : (dy ++ ry).map ei = Q3
          repeat' (first
            | with_reducible (first | refine wp_seq ?_ | refine wp_blk ?_ | refine wp_skip ?_ | refine wp_exit ?_ | refine wp_ret ?_ | refine seqQ_norm ?_ | refine seqQ_ret ?_ | refine seqQ_exit ?_ | refine blkQ_norm ?_ | refine blkQ_ret ?_ | refine blkQ_exit ?_ | refine loopQ_norm ?_ | refine loopQ_exit ?_ | refine loopQ_ret ?_ | refine endQ_ret ?_ | refine endQ_norm ?_ | refine endE_ret ?_ | refine endE_norm ?_ | refine endI_ret ?_ | refine endI_norm ?_)
            | (with_reducible refine wp_regK fun K hK => ?_
               simp[hb3, hv0, hv0', hv1, hm]
               repeat' (with_reducible first | refine hK _ ?_ | (refine psel ?_ ?_ <;> (intro hc; (try rw [Decidable.not_not] at hc); first | (exfalso; omega) | (try simp [hc, hb3, hv0, hv0', hv1, hm]))))
               all_goals (clear hK; clear K))
            | (with_reducible refine wp_condE ?_
               refine ⟨_, rfl, ?_, ?_⟩ <;> (intro hc; (try simp at hc); (all_goals first | (exfalso; omega) | skip))))
          all_goals exact ⟨(2 * bs, dy ++ ry), by rw [hQ3]; simp; omega, ⟨by simp only; omega, hfin⟩, by simp only; omega⟩
    · obtain ⟨q1, q2⟩ := h2.le (by omega) h1
      repeat' (first
        | with_reducible (first | refine wp_seq ?_ | refine wp_blk ?_ | refine wp_skip ?_ | refine wp_exit ?_ | refine wp_ret ?_ | refine seqQ_norm ?_ | refine seqQ_ret ?_ | refine seqQ_exit ?_ | refine blkQ_norm ?_ | refine blkQ_ret ?_ | refine blkQ_exit ?_ | refine loopQ_norm ?_ | refine loopQ_exit ?_ | refine loopQ_ret ?_ | refine endQ_ret ?_ | refine endQ_norm ?_ | refine endE_ret ?_ | refine endE_norm ?_ | refine endI_ret ?_ | refine endI_norm ?_)
        | (with_reducible refine wp_regK fun K hK => ?_
           simp[hbn]
           repeat' (with_reducible first | refine hK _ ?_ | (refine psel ?_ ?_ <;> (intro hc; (try rw [Decidable.not_not] at hc); first | (exfalso; omega) | (try simp [hc, hbn]))))
           all_goals (clear hK; clear K))
        | (with_reducible refine wp_condE ?_
           refine ⟨_, rfl, ?_, ?_⟩ <;> (intro hc; (try simp at hc); (all_goals first | (exfalso; omega) | skip))))
      all_goals exact ⟨_, by simp [pf408]; rfl, l, q1, q2, by simp⟩

theorem s405 {g : Nat} {c : D} {ky : Int → Int} {p : Int → Prop} (hcmp : CmpOk g c ky p) (xs : List Int) (hp : ∀ x ∈ xs, p x) (hlen : xs.length ≤ 1099511627776) (hxs : xs.Pairwise (· < ·)) :
    ∃ W, W.Perm xs ∧ Srt ky W ∧ Gw TT 405 [dat xs, fv g c] = some (lft W) := by
  obtain ⟨W, w1, w2, w3⟩ := s408 hcmp xs hp hlen hxs xs.length rfl
  refine ⟨W, w1, w2, ?_⟩
  refine Gw_of (F := pf405) rfl rfl ?_
  show Wp _ pb405 _ _
  unfold pb405
  repeat' (first
    | with_reducible (first | refine wp_seq ?_ | refine wp_blk ?_ | refine wp_skip ?_ | refine wp_exit ?_ | refine wp_ret ?_ | refine seqQ_norm ?_ | refine seqQ_ret ?_ | refine seqQ_exit ?_ | refine blkQ_norm ?_ | refine blkQ_ret ?_ | refine blkQ_exit ?_ | refine loopQ_norm ?_ | refine loopQ_exit ?_ | refine loopQ_ret ?_ | refine endQ_ret ?_ | refine endQ_norm ?_ | refine endE_ret ?_ | refine endE_norm ?_ | refine endI_ret ?_ | refine endI_norm ?_)
    | (with_reducible refine wp_regK fun K hK => ?_
       simp[w3]
       repeat' (with_reducible first | refine hK _ ?_ | (refine psel ?_ ?_ <;> (intro hc; (try rw [Decidable.not_not] at hc); first | (exfalso; omega) | (try simp [hc, w3]))))
       all_goals (clear hK; clear K))
    | (with_reducible refine wp_condE ?_
       refine ⟨_, rfl, ?_, ?_⟩ <;> (intro hc; (try simp at hc); (all_goals first | (exfalso; omega) | skip))))
  all_goals simp [pf405]

@[simp] theorem t3 (x : Int) : Gw TT 3 [vi x] = some (vb false, []) := by
  refine Gw_of (F := pf3) rfl rfl ?_
  show Wp _ pb3 _ _
  unfold pb3
  repeat' (first
    | with_reducible (first | refine wp_seq ?_ | refine wp_blk ?_ | refine wp_skip ?_ | refine wp_exit ?_ | refine wp_ret ?_ | refine seqQ_norm ?_ | refine seqQ_ret ?_ | refine seqQ_exit ?_ | refine blkQ_norm ?_ | refine blkQ_ret ?_ | refine blkQ_exit ?_ | refine loopQ_norm ?_ | refine loopQ_exit ?_ | refine loopQ_ret ?_ | refine endQ_ret ?_ | refine endQ_norm ?_ | refine endE_ret ?_ | refine endE_norm ?_ | refine endI_ret ?_ | refine endI_norm ?_)
    | (with_reducible refine wp_regK fun K hK => ?_
       simp
       repeat' (with_reducible first | refine hK _ ?_ | (refine psel ?_ ?_ <;> (intro hc; (try rw [Decidable.not_not] at hc); first | (exfalso; omega) | (try simp [hc]))))
       all_goals (clear hK; clear K))
    | (with_reducible refine wp_condE ?_
       refine ⟨_, rfl, ?_, ?_⟩ <;> (intro hc; (try simp at hc); (all_goals first | (exfalso; omega) | skip))))
  all_goals simp [pf3]

@[simp] theorem t2 (x y : Int) : Gw TT 2 [vi x, vi y] = some (vi (icmp x y), []) := by
  refine Gw_of (F := pf2) rfl rfl ?_
  show Wp _ pb2 _ _
  unfold pb2
  rcases Int.lt_trichotomy x y with h | h | h
  · have h1 : icmp x y = -1 := by simp [icmp, h]
    rw [h1]
    repeat' (first
      | with_reducible (first | refine wp_seq ?_ | refine wp_blk ?_ | refine wp_skip ?_ | refine wp_exit ?_ | refine wp_ret ?_ | refine seqQ_norm ?_ | refine seqQ_ret ?_ | refine seqQ_exit ?_ | refine blkQ_norm ?_ | refine blkQ_ret ?_ | refine blkQ_exit ?_ | refine loopQ_norm ?_ | refine loopQ_exit ?_ | refine loopQ_ret ?_ | refine endQ_ret ?_ | refine endQ_norm ?_ | refine endE_ret ?_ | refine endE_norm ?_ | refine endI_ret ?_ | refine endI_norm ?_)
      | (with_reducible refine wp_regK fun K hK => ?_
         simp[h]
         repeat' (with_reducible first | refine hK _ ?_ | (refine psel ?_ ?_ <;> (intro hc; (try rw [Decidable.not_not] at hc); first | (exfalso; omega) | (try simp [hc, h]))))
         all_goals (clear hK; clear K))
      | (with_reducible refine wp_condE ?_
         refine ⟨_, rfl, ?_, ?_⟩ <;> (intro hc; (try simp at hc); (all_goals first | (exfalso; omega) | skip))))
    all_goals simp [pf2]
  · subst h
    have h1 : icmp x x = 0 := by simp [icmp]
    rw [h1]
    repeat' (first
      | with_reducible (first | refine wp_seq ?_ | refine wp_blk ?_ | refine wp_skip ?_ | refine wp_exit ?_ | refine wp_ret ?_ | refine seqQ_norm ?_ | refine seqQ_ret ?_ | refine seqQ_exit ?_ | refine blkQ_norm ?_ | refine blkQ_ret ?_ | refine blkQ_exit ?_ | refine loopQ_norm ?_ | refine loopQ_exit ?_ | refine loopQ_ret ?_ | refine endQ_ret ?_ | refine endQ_norm ?_ | refine endE_ret ?_ | refine endE_norm ?_ | refine endI_ret ?_ | refine endI_norm ?_)
      | (with_reducible refine wp_regK fun K hK => ?_
         simp
         repeat' (with_reducible first | refine hK _ ?_ | (refine psel ?_ ?_ <;> (intro hc; (try rw [Decidable.not_not] at hc); first | (exfalso; omega) | (try simp [hc]))))
         all_goals (clear hK; clear K))
      | (with_reducible refine wp_condE ?_
         refine ⟨_, rfl, ?_, ?_⟩ <;> (intro hc; (try simp at hc); (all_goals first | (exfalso; omega) | skip))))
    all_goals simp [pf2]
  · have h0 : ¬ x < y := by omega
    have h1 : icmp x y = 1 := by simp [icmp, h, h0]
    rw [h1]
    repeat' (first
      | with_reducible (first | refine wp_seq ?_ | refine wp_blk ?_ | refine wp_skip ?_ | refine wp_exit ?_ | refine wp_ret ?_ | refine seqQ_norm ?_ | refine seqQ_ret ?_ | refine seqQ_exit ?_ | refine blkQ_norm ?_ | refine blkQ_ret ?_ | refine blkQ_exit ?_ | refine loopQ_norm ?_ | refine loopQ_exit ?_ | refine loopQ_ret ?_ | refine endQ_ret ?_ | refine endQ_norm ?_ | refine endE_ret ?_ | refine endE_norm ?_ | refine endI_ret ?_ | refine endI_norm ?_)
      | (with_reducible refine wp_regK fun K hK => ?_
         simp[h, h0]
         repeat' (with_reducible first | refine hK _ ?_ | (refine psel ?_ ?_ <;> (intro hc; (try rw [Decidable.not_not] at hc); first | (exfalso; omega) | (try simp [hc, h, h0]))))
         all_goals (clear hK; clear K))
      | (with_reducible refine wp_condE ?_
         refine ⟨_, rfl, ?_, ?_⟩ <;> (intro hc; (try simp at hc); (all_goals first | (exfalso; omega) | skip))))
    all_goals simp [pf2]

/-- The key of a number: where its deed was ordered. -/
def linOf (l : List XDeed) (i : Int) : Int := match l[i.toNat]? with
  | some d => d.Lin
  | none => 0

theorem linOf_of {l : List XDeed} {i : Int} {d : XDeed} (h : l[i.toNat]? = some d) : linOf l i = d.Lin := by simp [linOf, h]

abbrev inR (l : List XDeed) (i : Int) : Prop := 0 ≤ i ∧ i < (l.length : Int)

theorem s37 (l : List XDeed) : CmpOk 37 (.sl 25 (l.map XDeed.e)) (linOf l) (inR l) := by
  intro a b ⟨ha, ha2⟩ ⟨hb, hb2⟩
  obtain ⟨d, hd⟩ : ∃ d, l[a.toNat]? = some d := ⟨l[a.toNat]'(by omega), by simp⟩
  obtain ⟨e, he⟩ : ∃ e, l[b.toNat]? = some e := ⟨l[b.toNat]'(by omega), by simp⟩
  rw [linOf_of hd, linOf_of he]
  refine Gw_of (F := pf37) rfl rfl ?_
  show Wp _ pb37 _ _
  unfold pb37
  have q1 := (List.getElem?_eq_some_iff.1 hd).2
  have q2 := (List.getElem?_eq_some_iff.1 he).2
  repeat' (first
    | with_reducible (first | refine wp_seq ?_ | refine wp_blk ?_ | refine wp_skip ?_ | refine wp_exit ?_ | refine wp_ret ?_ | refine seqQ_norm ?_ | refine seqQ_ret ?_ | refine seqQ_exit ?_ | refine blkQ_norm ?_ | refine blkQ_ret ?_ | refine blkQ_exit ?_ | refine loopQ_norm ?_ | refine loopQ_exit ?_ | refine loopQ_ret ?_ | refine endQ_ret ?_ | refine endQ_norm ?_ | refine endE_ret ?_ | refine endE_norm ?_ | refine endI_ret ?_ | refine endI_norm ?_)
    | (with_reducible refine wp_regK fun K hK => ?_
       simp[ha, ha2, hb, hb2, hd, he]
       repeat' (with_reducible first | refine hK _ ?_ | (refine psel ?_ ?_ <;> (intro hc; (try rw [Decidable.not_not] at hc); first | (exfalso; omega) | (try simp [hc, ha, ha2, hb, hb2, hd, he]))))
       all_goals (clear hK; clear K))
    | (with_reducible refine wp_condE ?_
       refine ⟨_, rfl, ?_, ?_⟩ <;> (intro hc; (try simp at hc); (all_goals first | (exfalso; omega) | skip))))
  all_goals simp [pf37, q1, q2]

/-- The numbers of the deeds that were ordered. -/
def ordIx : Int → List XDeed → List Int
  | _, [] => []
  | n, d :: l => if d.Lin = -1 then ordIx (n + 1) l else n :: ordIx (n + 1) l

theorem ordIx_mem : ∀ (l : List XDeed) (n : Int) (x : Int), x ∈ ordIx n l → n ≤ x ∧ x < n + l.length
  | [], _, _, h => by simp [ordIx] at h
  | d :: l, n, x, h => by
    simp only [ordIx] at h
    have ih := ordIx_mem l (n + 1) x
    simp only [List.length_cons]
    split at h
    · have := ih h; omega
    · rcases List.mem_cons.1 h with rfl | h
      · omega
      · have := ih h; omega

theorem ordIx_len : ∀ (l : List XDeed) (n : Int), (ordIx n l).length ≤ l.length
  | [], _ => by simp [ordIx]
  | d :: l, n => by
    have := ordIx_len l (n + 1)
    simp only [ordIx, List.length_cons]
    split <;> simp <;> omega

theorem ordIx_up : ∀ (l : List XDeed) (n : Int), (ordIx n l).Pairwise (· < ·)
  | [], _ => by simp [ordIx]
  | d :: l, n => by
    simp only [ordIx]
    split
    · exact ordIx_up l (n + 1)
    · exact List.pairwise_cons.2 ⟨fun y hy => by have := ordIx_mem l (n + 1) y hy; omega, ordIx_up l (n + 1)⟩

theorem ordIx_snoc : ∀ (l : List XDeed) (n : Int) (d : XDeed), ordIx n (l ++ [d]) = ordIx n l ++ (if d.Lin = -1 then [] else [n + l.length])
  | [], n, d => by simp [ordIx]
  | e :: l, n, d => by
    simp only [List.cons_append, ordIx, ordIx_snoc l (n + 1) d, List.length_cons]
    rw [show n + 1 + (l.length : Int) = n + ((l.length + 1 : Nat) : Int) by omega]
    split <;> simp

theorem srt_ex (ky : Int → Int) : ∀ xs : List Int, xs.Pairwise (· < ·) → ∃ W, W.Perm xs ∧ Srt ky W
  | [], _ => ⟨[], .refl _, by simp [Srt]⟩
  | x :: xs, h => by
    obtain ⟨h1, h2⟩ := List.pairwise_cons.1 h
    obtain ⟨W, w1, w2⟩ := srt_ex ky xs h2
    suffices hh : ∀ W : List Int, Srt ky W → (∀ y ∈ W, x < y) → ∃ W', W'.Perm (x :: W) ∧ Srt ky W' by
      obtain ⟨W', v1, v2⟩ := hh W w2 fun y hy => h1 y (w1.subset hy)
      exact ⟨W', v1.trans (w1.cons x), v2⟩
    intro W
    induction W with
    | nil => intro _ _; exact ⟨[x], .refl _, by simp [Srt]⟩
    | cons u W ih =>
      intro hW hx
      obtain ⟨k1, k2⟩ := List.pairwise_cons.1 hW
      by_cases hu : ky u < ky x
      · obtain ⟨W', v1, v2⟩ := ih k2 fun y hy => hx y (by simp [hy])
        refine ⟨u :: W', (v1.cons u).trans (.swap _ _ _), List.pairwise_cons.2 ⟨fun y hy => ?_, v2⟩⟩
        rcases List.mem_cons.1 (v1.subset hy) with rfl | hy
        · exact .inl hu
        · exact k1 y hy
      · refine ⟨x :: u :: W, .refl _, List.pairwise_cons.2 ⟨fun y hy => ?_, hW⟩⟩
        have hxu := hx u (by simp)
        rcases List.mem_cons.1 hy with rfl | hy
        · exact slt_of_le (by omega) hxu
        · exact slt_of_le (by have := (k1 y hy).le; omega) (hx y (by simp [hy]))

/-- The order of the deeds: by place, then by number. -/
noncomputable def orderF (l : List XDeed) : List Int := Classical.choose (srt_ex (linOf l) (ordIx 0 l) (ordIx_up l 0))
theorem orderF_perm (l : List XDeed) : (orderF l).Perm (ordIx 0 l) := (Classical.choose_spec (srt_ex (linOf l) (ordIx 0 l) (ordIx_up l 0))).1
theorem orderF_srt (l : List XDeed) : Srt (linOf l) (orderF l) := (Classical.choose_spec (srt_ex (linOf l) (ordIx 0 l) (ordIx_up l 0))).2
theorem orderF_eq {l : List XDeed} {W : List Int} (h : W.Perm (ordIx 0 l)) (h2 : Srt (linOf l) W) : W = orderF l :=
  srt_unique (h.trans (orderF_perm l).symm) h2 (orderF_srt l)
theorem orderF_len (l : List XDeed) : (orderF l).length ≤ l.length := by rw [(orderF_perm l).length_eq]; exact ordIx_len l 0

@[simp] theorem t36 (l : List XDeed) (h : l.length ≤ 1048576) : Gw TT 36 [.one (.ro true (.sl 25 (l.map XDeed.e)))] = some (.one (.own (.sl 1 ((orderF l).map ei))), []) := by
  refine Gw_of (F := pf36) rfl rfl ?_
  show Wp _ pb36 _ _
  unfold pb36
  repeat' (first
    | with_reducible (first | refine wp_seq ?_ | refine wp_blk ?_ | refine wp_skip ?_ | refine wp_exit ?_ | refine wp_ret ?_ | refine seqQ_norm ?_ | refine seqQ_ret ?_ | refine seqQ_exit ?_ | refine blkQ_norm ?_ | refine blkQ_ret ?_ | refine blkQ_exit ?_ | refine loopQ_norm ?_ | refine loopQ_exit ?_ | refine loopQ_ret ?_ | refine endQ_ret ?_ | refine endQ_norm ?_ | refine endE_ret ?_ | refine endE_norm ?_ | refine endI_ret ?_ | refine endI_norm ?_)
    | (with_reducible refine wp_regK fun K hK => ?_
       simp
       repeat' (with_reducible first | refine hK _ ?_ | (refine psel ?_ ?_ <;> (intro hc; (try rw [Decidable.not_not] at hc); first | (exfalso; omega) | (try simp [hc]))))
       all_goals (clear hK; clear K))
    | (with_reducible refine wp_condE ?_
       refine ⟨_, rfl, ?_, ?_⟩ <;> (intro hc; (try simp at hc); (all_goals first | (exfalso; omega) | skip))))
  refine wp_loopI (σ := List XDeed × List XDeed) (fun s => [(1, AV.bx 1 0, some (Rt.bx [C.ro true (.sl 25 (l.map XDeed.e))])), (3, AV.pl 3 0 [], some (Rt.vir [C.own (D.sl 1 ((ordIx 0 s.1).map ei))])), (7, AV.v true (.sl 25 (l.map XDeed.e)), none), (8, AV.v false (di (l.length : Nat)), none), (9, AV.v false (di (s.1.length : Nat)), none)])
    (fun s => l = s.1 ++ s.2) (fun s => s.2.length) ([], l) (by simp [ordIx]) rfl ?_
  rintro ⟨pre, rest⟩ h1
  simp only at h1 ⊢
  have hl : l.length = pre.length + rest.length := by rw [h1]; simp
  unfold pl36_0
  have hol := ordIx_len pre 0
  rcases rest with _ | ⟨d, rest⟩
  · have hn : ¬ ((pre.length : Int) < (l.length : Int)) := by simp at hl; omega
    have hpre : pre = l := by rw [h1]; simp
    subst hpre
    obtain ⟨W, w1, w2, w3⟩ := s405 (s37 pre) (ordIx 0 pre) (fun x hx => by have := ordIx_mem pre 0 x hx; exact ⟨by omega, by omega⟩) (by omega) (ordIx_up pre 0)
    have hW := orderF_eq w1 w2
    subst hW
    simp only [dat, lft] at w3
    repeat' (first
      | with_reducible (first | refine wp_seq ?_ | refine wp_blk ?_ | refine wp_skip ?_ | refine wp_exit ?_ | refine wp_ret ?_ | refine seqQ_norm ?_ | refine seqQ_ret ?_ | refine seqQ_exit ?_ | refine blkQ_norm ?_ | refine blkQ_ret ?_ | refine blkQ_exit ?_ | refine loopQ_norm ?_ | refine loopQ_exit ?_ | refine loopQ_ret ?_ | refine endQ_ret ?_ | refine endQ_norm ?_ | refine endE_ret ?_ | refine endE_norm ?_ | refine endI_ret ?_ | refine endI_norm ?_)
      | (with_reducible refine wp_regK fun K hK => ?_
         simp[hn, w3]
         repeat' (with_reducible first | refine hK _ ?_ | (refine psel ?_ ?_ <;> (intro hc; (try rw [Decidable.not_not] at hc); first | (exfalso; omega) | (try simp [hc, hn, w3]))))
         all_goals (clear hK; clear K))
      | (with_reducible refine wp_condE ?_
         refine ⟨_, rfl, ?_, ?_⟩ <;> (intro hc; (try simp at hc); (all_goals first | (exfalso; omega) | skip))))
    all_goals simp [pf36]
  · have hlt : ((pre.length : Int) < (l.length : Int)) := by simp at hl; omega
    have hg : l[pre.length]? = some d := by rw [h1]; simp
    have hge := (List.getElem?_eq_some_iff.1 hg).2
    have hw : IntKind.wrap .i64 ((pre.length : Int) + 1) = (pre.length : Int) + 1 := wrap_i64 (by omega) (by omega)
    have hsn := ordIx_snoc pre 0 d
    by_cases hd : d.Lin = -1
    · rw [if_pos hd, List.append_nil] at hsn
      repeat' (first
        | with_reducible (first | refine wp_seq ?_ | refine wp_blk ?_ | refine wp_skip ?_ | refine wp_exit ?_ | refine wp_ret ?_ | refine seqQ_norm ?_ | refine seqQ_ret ?_ | refine seqQ_exit ?_ | refine blkQ_norm ?_ | refine blkQ_ret ?_ | refine blkQ_exit ?_ | refine loopQ_norm ?_ | refine loopQ_exit ?_ | refine loopQ_ret ?_ | refine endQ_ret ?_ | refine endQ_norm ?_ | refine endE_ret ?_ | refine endE_norm ?_ | refine endI_ret ?_ | refine endI_norm ?_)
        | (with_reducible refine wp_regK fun K hK => ?_
           simp[hlt, hg, hge, hw, hd]
           repeat' (with_reducible first | refine hK _ ?_ | (refine psel ?_ ?_ <;> (intro hc; (try rw [Decidable.not_not] at hc); first | (exfalso; omega) | (try simp [hc, hlt, hg, hge, hw, hd]))))
           all_goals (clear hK; clear K))
        | (with_reducible refine wp_condE ?_
           refine ⟨_, rfl, ?_, ?_⟩ <;> (intro hc; (try simp at hc); (all_goals first | (exfalso; omega) | skip))))
      all_goals exact ⟨(pre ++ [d], rest), by simp [hsn], by simp [h1], by simp⟩
    · rw [if_neg hd] at hsn
      have hb : ((ordIx 0 pre).length + 1) * 8 ≤ 70368744177664 := by omega
      repeat' (first
        | with_reducible (first | refine wp_seq ?_ | refine wp_blk ?_ | refine wp_skip ?_ | refine wp_exit ?_ | refine wp_ret ?_ | refine seqQ_norm ?_ | refine seqQ_ret ?_ | refine seqQ_exit ?_ | refine blkQ_norm ?_ | refine blkQ_ret ?_ | refine blkQ_exit ?_ | refine loopQ_norm ?_ | refine loopQ_exit ?_ | refine loopQ_ret ?_ | refine endQ_ret ?_ | refine endQ_norm ?_ | refine endE_ret ?_ | refine endE_norm ?_ | refine endI_ret ?_ | refine endI_norm ?_)
        | (with_reducible refine wp_regK fun K hK => ?_
           simp[hlt, hg, hge, hw, hd, hb]
           repeat' (with_reducible first | refine hK _ ?_ | (refine psel ?_ ?_ <;> (intro hc; (try rw [Decidable.not_not] at hc); first | (exfalso; omega) | (try simp [hc, hlt, hg, hge, hw, hd, hb]))))
           all_goals (clear hK; clear K))
        | (with_reducible refine wp_condE ?_
           refine ⟨_, rfl, ?_, ?_⟩ <;> (intro hc; (try simp at hc); (all_goals first | (exfalso; omega) | skip))))
      all_goals exact ⟨(pre ++ [d], rest), by simp [hsn], by simp [h1], by simp⟩

@[simp] theorem t317 (k0 : Bool) (l : List XDeed) (h : l.length ≤ 1048576) : Gw TT 317 [.one (.ro k0 (.sl 25 (l.map XDeed.e)))] = some (.one (.own (.sl 1 ((orderF l).map ei))), []) := by
  refine Gw_of (F := pf317) rfl rfl ?_
  show Wp _ pb317 _ _
  unfold pb317
  repeat' (first
    | with_reducible (first | refine wp_seq ?_ | refine wp_blk ?_ | refine wp_skip ?_ | refine wp_exit ?_ | refine wp_ret ?_ | refine seqQ_norm ?_ | refine seqQ_ret ?_ | refine seqQ_exit ?_ | refine blkQ_norm ?_ | refine blkQ_ret ?_ | refine blkQ_exit ?_ | refine loopQ_norm ?_ | refine loopQ_exit ?_ | refine loopQ_ret ?_ | refine endQ_ret ?_ | refine endQ_norm ?_ | refine endE_ret ?_ | refine endE_norm ?_ | refine endI_ret ?_ | refine endI_norm ?_)
    | (with_reducible refine wp_regK fun K hK => ?_
       simp
       repeat' (with_reducible first | refine hK _ ?_ | (refine psel ?_ ?_ <;> (intro hc; (try rw [Decidable.not_not] at hc); first | (exfalso; omega) | (try simp [hc]))))
       all_goals (clear hK; clear K))
    | (with_reducible refine wp_condE ?_
       refine ⟨_, rfl, ?_, ?_⟩ <;> (intro hc; (try simp at hc); (all_goals first | (exfalso; omega) | skip))))
  refine wp_loopI (σ := (List XDeed × List XDeed) × List Int) (fun s => [(0, AV.v k0 (.sl 25 (l.map XDeed.e)), none), (3, AV.pl 3 0 [], some (Rt.vir [C.own (D.sl 1 (s.2.map ei))])), (4, AV.v false (di (s.1.1.length : Nat)), none)])
    (fun s => l = s.1.1 ++ s.1.2 ∧ s.2.Perm (ordIx 0 s.1.1) ∧ Srt (linOf l) s.2) (fun s => s.1.2.length) (([], l), []) (by simp) ⟨rfl, .refl _, by simp [Srt]⟩ ?_
  rintro ⟨⟨pre, rest⟩, out⟩ ⟨h1, h2, h3⟩
  simp only at h1 h2 h3 ⊢
  have hl : l.length = pre.length + rest.length := by rw [h1]; simp
  unfold pl317_1
  have hol := ordIx_len pre 0
  have hol2 := h2.length_eq
  rcases rest with _ | ⟨d, rest⟩
  · have hn : ¬ ((pre.length : Int) < (l.length : Int)) := by simp at hl; omega
    have hpre : pre = l := by rw [h1]; simp
    subst hpre
    have hW := orderF_eq h2 h3
    subst hW
    repeat' (first
      | with_reducible (first | refine wp_seq ?_ | refine wp_blk ?_ | refine wp_skip ?_ | refine wp_exit ?_ | refine wp_ret ?_ | refine seqQ_norm ?_ | refine seqQ_ret ?_ | refine seqQ_exit ?_ | refine blkQ_norm ?_ | refine blkQ_ret ?_ | refine blkQ_exit ?_ | refine loopQ_norm ?_ | refine loopQ_exit ?_ | refine loopQ_ret ?_ | refine endQ_ret ?_ | refine endQ_norm ?_ | refine endE_ret ?_ | refine endE_norm ?_ | refine endI_ret ?_ | refine endI_norm ?_)
      | (with_reducible refine wp_regK fun K hK => ?_
         simp[hn]
         repeat' (with_reducible first | refine hK _ ?_ | (refine psel ?_ ?_ <;> (intro hc; (try rw [Decidable.not_not] at hc); first | (exfalso; omega) | (try simp [hc, hn]))))
         all_goals (clear hK; clear K))
      | (with_reducible refine wp_condE ?_
         refine ⟨_, rfl, ?_, ?_⟩ <;> (intro hc; (try simp at hc); (all_goals first | (exfalso; omega) | skip))))
    all_goals simp [pf317]
  · have hlt : ((pre.length : Int) < (l.length : Int)) := by simp at hl; omega
    have hg : l[pre.length]? = some d := by rw [h1]; simp
    have hge := (List.getElem?_eq_some_iff.1 hg).2
    have hw : IntKind.wrap .i64 ((pre.length : Int) + 1) = (pre.length : Int) + 1 := wrap_i64 (by omega) (by omega)
    have hsn := ordIx_snoc pre 0 d
    have hkx : linOf l (pre.length : Int) = d.Lin := linOf_of (by simpa using hg)
    by_cases hd : d.Lin = -1
    · rw [if_pos hd, List.append_nil] at hsn
      repeat' (first
        | with_reducible (first | refine wp_seq ?_ | refine wp_blk ?_ | refine wp_skip ?_ | refine wp_exit ?_ | refine wp_ret ?_ | refine seqQ_norm ?_ | refine seqQ_ret ?_ | refine seqQ_exit ?_ | refine blkQ_norm ?_ | refine blkQ_ret ?_ | refine blkQ_exit ?_ | refine loopQ_norm ?_ | refine loopQ_exit ?_ | refine loopQ_ret ?_ | refine endQ_ret ?_ | refine endQ_norm ?_ | refine endE_ret ?_ | refine endE_norm ?_ | refine endI_ret ?_ | refine endI_norm ?_)
        | (with_reducible refine wp_regK fun K hK => ?_
           simp[hlt, hg, hge, hw, hd]
           repeat' (with_reducible first | refine hK _ ?_ | (refine psel ?_ ?_ <;> (intro hc; (try rw [Decidable.not_not] at hc); first | (exfalso; omega) | (try simp [hc, hlt, hg, hge, hw, hd]))))
           all_goals (clear hK; clear K))
        | (with_reducible refine wp_condE ?_
           refine ⟨_, rfl, ?_, ?_⟩ <;> (intro hc; (try simp at hc); (all_goals first | (exfalso; omega) | skip))))
      all_goals exact ⟨((pre ++ [d], rest), out), by simp, ⟨by simp [h1], by rw [hsn]; exact h2, h3⟩, by simp⟩
    · rw [if_neg hd, Int.zero_add] at hsn
      repeat' (first
        | with_reducible (first | refine wp_seq ?_ | refine wp_blk ?_ | refine wp_skip ?_ | refine wp_exit ?_ | refine wp_ret ?_ | refine seqQ_norm ?_ | refine seqQ_ret ?_ | refine seqQ_exit ?_ | refine blkQ_norm ?_ | refine blkQ_ret ?_ | refine blkQ_exit ?_ | refine loopQ_norm ?_ | refine loopQ_exit ?_ | refine loopQ_ret ?_ | refine endQ_ret ?_ | refine endQ_norm ?_ | refine endE_ret ?_ | refine endE_norm ?_ | refine endI_ret ?_ | refine endI_norm ?_)
        | (with_reducible refine wp_regK fun K hK => ?_
           simp[hlt, hg, hge, hw, hd]
           repeat' (with_reducible first | refine hK _ ?_ | (refine psel ?_ ?_ <;> (intro hc; (try rw [Decidable.not_not] at hc); first | (exfalso; omega) | (try simp [hc, hlt, hg, hge, hw, hd]))))
           all_goals (clear hK; clear K))
        | (with_reducible refine wp_condE ?_
           refine ⟨_, rfl, ?_, ?_⟩ <;> (intro hc; (try simp at hc); (all_goals first | (exfalso; omega) | skip))))
      refine wp_loopI (σ := List Int × List Int) (fun s => [(0, AV.v k0 (.sl 25 (l.map XDeed.e)), none), (3, AV.pl 3 0 [], some (Rt.vir [C.own (D.sl 1 (out.map ei))])), (4, AV.v false (di (pre.length : Nat)), none), (5, AV.v false (di (s.1.length : Nat)), none)])
        (fun s => out = s.1 ++ s.2 ∧ ∀ v ∈ s.2, linOf l (pre.length : Int) < linOf l v) (fun s => s.1.length) (out, []) (by simp) ⟨by simp, by simp⟩ ?_
      rintro ⟨U, V⟩ ⟨k1, k2⟩
      simp only at k1 k2 ⊢
      unfold pl317_0
      have hlo : out.length = U.length + V.length := by rw [k1]; simp
      have hxU : ∀ u ∈ out, 0 ≤ u ∧ u < (pre.length : Int) := fun u hu => by have := ordIx_mem pre 0 u (h2.subset hu); omega
      have hfin : (∀ u ∈ U, slt (linOf l) u (pre.length : Int)) → (U ++ (pre.length : Int) :: V).Perm (ordIx 0 (pre ++ [d])) ∧ Srt (linOf l) (U ++ (pre.length : Int) :: V) := fun hA =>
        ⟨by
          rw [hsn]
          refine List.perm_middle.trans (.trans ?_ (List.perm_append_singleton _ _).symm)
          rw [← k1]; exact h2.cons _, srt_ins (by rw [← k1]; exact h3) (fun v hv => .inl (k2 v hv)) hA⟩
      rcases List.eq_nil_or_concat U with rfl | ⟨U, y, rfl⟩
      · have hb1 : ((0 : Nat) + 1) * 8 ≤ 70368744177664 := by omega
        have hb2 : (1 + V.length) * 8 ≤ 70368744177664 := by omega
        simp only [List.nil_append] at k1
        subst k1
        repeat' (first
          | with_reducible (first | refine wp_seq ?_ | refine wp_blk ?_ | refine wp_skip ?_ | refine wp_exit ?_ | refine wp_ret ?_ | refine seqQ_norm ?_ | refine seqQ_ret ?_ | refine seqQ_exit ?_ | refine blkQ_norm ?_ | refine blkQ_ret ?_ | refine blkQ_exit ?_ | refine loopQ_norm ?_ | refine loopQ_exit ?_ | refine loopQ_ret ?_ | refine endQ_ret ?_ | refine endQ_norm ?_ | refine endE_ret ?_ | refine endE_norm ?_ | refine endI_ret ?_ | refine endI_norm ?_)
          | (with_reducible refine wp_regK fun K hK => ?_
             simp[hb1, hb2, hw]
             repeat' (with_reducible first | refine hK _ ?_ | (refine psel ?_ ?_ <;> (intro hc; (try rw [Decidable.not_not] at hc); first | (exfalso; omega) | (try simp [hc, hb1, hb2, hw]))))
             all_goals (clear hK; clear K))
          | (with_reducible refine wp_condE ?_
             refine ⟨_, rfl, ?_, ?_⟩ <;> (intro hc; (try simp at hc); (all_goals first | (exfalso; omega) | skip))))
        all_goals exact ⟨((pre ++ [d], rest), (pre.length : Int) :: out), by simp, ⟨by simp [h1], (hfin (by simp)).1, (hfin (by simp)).2⟩, by simp⟩
      · simp only [List.concat_eq_append] at *
        simp only [List.length_append, List.length_cons, List.length_nil] at hlo
        have hyo : y ∈ out := by rw [k1]; simp
        obtain ⟨hy0, hy1⟩ := hxU y hyo
        obtain ⟨e, he⟩ : ∃ e, l[y.toNat]? = some e := ⟨l[y.toNat]'(by omega), by simp⟩
        have hee := (List.getElem?_eq_some_iff.1 he).2
        have hky : linOf l y = e.Lin := linOf_of he
        obtain ⟨kk, hkk⟩ : ∃ kk : Nat, kk = (U ++ [y]).length := ⟨_, rfl⟩
        simp only [← hkk]
        have hkk2 : kk = U.length + 1 := by rw [hkk]; simp
        have hgo : out[U.length]? = some y := by rw [k1]; simp
        have hgoe := (List.getElem?_eq_some_iff.1 hgo).2
        have hw1 : IntKind.wrap .i64 ((kk : Int) - 1) = (U.length : Int) := by rw [wrap_i64 (by omega) (by omega)]; omega
        have f1 : (0 : Int) < (kk : Int) := by omega
        have f2 : (U.length : Int) < (out.length : Int) := by omega
        have f3 : y < (l.length : Int) := by omega
        have f4 : (kk : Int) ≤ (out.length : Int) := by omega
        have f5 : kk ≤ out.length := by omega
        have ht : (out.map ei).take kk = (U ++ [y]).map ei := by rw [← List.map_take, k1, hkk, List.take_left]
        have hdr : (out.map ei).drop kk = V.map ei := by rw [← List.map_drop, k1, hkk, List.drop_left]
        have hb1 : (0 + (U.length + 1)) * 8 ≤ 70368744177664 := by omega
        have hb2 : (U.length + 1) * 8 ≤ 70368744177664 := by omega
        have hb3 : (U.length + 1 + 1) * 8 ≤ 70368744177664 := by omega
        have hb4 : (U.length + 1 + 1 + V.length) * 8 ≤ 70368744177664 := by omega
        by_cases hlt2 : d.Lin < e.Lin
        · repeat' (first
            | with_reducible (first | refine wp_seq ?_ | refine wp_blk ?_ | refine wp_skip ?_ | refine wp_exit ?_ | refine wp_ret ?_ | refine seqQ_norm ?_ | refine seqQ_ret ?_ | refine seqQ_exit ?_ | refine blkQ_norm ?_ | refine blkQ_ret ?_ | refine blkQ_exit ?_ | refine loopQ_norm ?_ | refine loopQ_exit ?_ | refine loopQ_ret ?_ | refine endQ_ret ?_ | refine endQ_norm ?_ | refine endE_ret ?_ | refine endE_norm ?_ | refine endI_ret ?_ | refine endI_norm ?_)
            | (with_reducible refine wp_regK fun K hK => ?_
               simp[f1, f2, f3, hy0, hgo, hgoe, he, hee, hw1, hlt, hg, hge, hlt2]
               repeat' (with_reducible first | refine hK _ ?_ | (refine psel ?_ ?_ <;> (intro hc; (try rw [Decidable.not_not] at hc); first | (exfalso; omega) | (try simp [hc, f1, f2, f3, hy0, hgo, hgoe, he, hee, hw1, hlt, hg, hge, hlt2]))))
               all_goals (clear hK; clear K))
            | (with_reducible refine wp_condE ?_
               refine ⟨_, rfl, ?_, ?_⟩ <;> (intro hc; (try simp at hc); (all_goals first | (exfalso; omega) | skip))))
          all_goals exact ⟨(U, y :: V), by simp [hkk2], ⟨by simp [k1], fun v hv => by
            rcases List.mem_cons.1 hv with rfl | hv
            · rw [hkx, hky]; exact hlt2
            · exact k2 v hv⟩, by simp only; omega⟩
        · repeat' (first
            | with_reducible (first | refine wp_seq ?_ | refine wp_blk ?_ | refine wp_skip ?_ | refine wp_exit ?_ | refine wp_ret ?_ | refine seqQ_norm ?_ | refine seqQ_ret ?_ | refine seqQ_exit ?_ | refine blkQ_norm ?_ | refine blkQ_ret ?_ | refine blkQ_exit ?_ | refine loopQ_norm ?_ | refine loopQ_exit ?_ | refine loopQ_ret ?_ | refine endQ_ret ?_ | refine endQ_norm ?_ | refine endE_ret ?_ | refine endE_norm ?_ | refine endI_ret ?_ | refine endI_norm ?_)
            | (with_reducible refine wp_regK fun K hK => ?_
               simp[f1, f2, f3, f4, f5, hy0, hgo, hgoe, he, hee, hw, hw1, hlt, hg, hge, hlt2, ht, hdr, hb1, hb2, hb3, hb4]
               repeat' (with_reducible first | refine hK _ ?_ | (refine psel ?_ ?_ <;> (intro hc; (try rw [Decidable.not_not] at hc); first | (exfalso; omega) | (try simp [hc, f1, f2, f3, f4, f5, hy0, hgo, hgoe, he, hee, hw, hw1, hlt, hg, hge, hlt2, ht, hdr, hb1, hb2, hb3, hb4]))))
               all_goals (clear hK; clear K))
            | (with_reducible refine wp_condE ?_
               refine ⟨_, rfl, ?_, ?_⟩ <;> (intro hc; (try simp at hc); (all_goals first | (exfalso; omega) | skip))))
          have hq := hfin (fun u hu => by
            have h6 := srt_upto (A := U) (Srt.left (B := V) (by rw [← k1]; exact h3)) hu
            have h7 := hxU u (by rw [k1]; exact List.mem_append_left _ hu)
            exact slt_of_le (by omega) h7.2)
          all_goals exact ⟨((pre ++ [d], rest), U ++ [y] ++ (pre.length : Int) :: V), by simp, ⟨by simp [h1], hq.1, hq.2⟩, by simp⟩

theorem l4All_nil (k0 : Bool) : Gw TT 397 [.one (.ro k0 (.sl 2 []))] = some (.one (.own (.sl 2 [])), []) := by
  refine Gw_of (F := pf397) rfl rfl ?_
  show Wp _ pb397 _ _
  unfold pb397
  repeat' (first
    | with_reducible (first | refine wp_seq ?_ | refine wp_blk ?_ | refine wp_skip ?_ | refine wp_exit ?_ | refine wp_ret ?_ | refine seqQ_norm ?_ | refine seqQ_ret ?_ | refine seqQ_exit ?_ | refine blkQ_norm ?_ | refine blkQ_ret ?_ | refine blkQ_exit ?_ | refine loopQ_norm ?_ | refine loopQ_exit ?_ | refine loopQ_ret ?_ | refine endQ_ret ?_ | refine endQ_norm ?_ | refine endE_ret ?_ | refine endE_norm ?_ | refine endI_ret ?_ | refine endI_norm ?_)
    | (with_reducible refine wp_loop (c := pl397_0) ?_
       conv => arg 2; unfold pl397_0)
    | (with_reducible refine wp_regK fun K hK => ?_
       simp[Int.lt_irrefl]
       repeat' (with_reducible first | refine hK _ ?_ | (refine psel ?_ ?_ <;> (intro hc; (try rw [Decidable.not_not] at hc); first | (exfalso; omega) | (try simp [hc, Int.lt_irrefl]))))
       all_goals (clear hK; clear K))
    | (with_reducible refine wp_condE ?_
       refine ⟨_, rfl, ?_, ?_⟩ <;> (intro hc; (try simp at hc); (all_goals first | (exfalso; omega) | skip))))
  all_goals simp [pf397]

def CpPred (x : XPred) : Prop := ∀ k0 : Bool, x.sm → Gw TT 355 [.st [.ro false (di x.Kind), .ro false (di x.Col), .ro false (di x.Op), .ro false (di x.V.Ty), .ro false (di x.V.N), .ro false (.str x.V.S), .ro k0 (.sl 7 (x.L.map XPred.e))]] = some (.st [.ro false (di x.Kind), .ro false (di x.Col), .ro false (di x.Op), .ro false (di x.V.Ty), .ro false (di x.V.N), .ro false (.str x.V.S), .own (.sl 7 (x.L.map XPred.e))], [])

theorem CpPred_of (x : XPred) (IH : ∀ y ∈ x.L, CpPred y) : CpPred x := by
  intro k0 hx
  rw [XPred.sm_eq] at hx
  obtain ⟨hx1, hx2, hx3⟩ := hx
  obtain ⟨x_Kind, x_Col, x_Op, ⟨x_V_Ty, x_V_N, x_V_S⟩, x_L⟩ := x
  simp only at hx2 hx3 IH
  refine Gw_of (F := pf355) rfl rfl ?_
  show Wp _ pb355 _ _
  unfold pb355
  repeat' (first
    | with_reducible (first | refine wp_seq ?_ | refine wp_blk ?_ | refine wp_skip ?_ | refine wp_exit ?_ | refine wp_ret ?_ | refine seqQ_norm ?_ | refine seqQ_ret ?_ | refine seqQ_exit ?_ | refine blkQ_norm ?_ | refine blkQ_ret ?_ | refine blkQ_exit ?_ | refine loopQ_norm ?_ | refine loopQ_exit ?_ | refine loopQ_ret ?_ | refine endQ_ret ?_ | refine endQ_norm ?_ | refine endE_ret ?_ | refine endE_norm ?_ | refine endI_ret ?_ | refine endI_norm ?_)
    | (with_reducible refine wp_regK fun K hK => ?_
       simp
       repeat' (with_reducible first | refine hK _ ?_ | (refine psel ?_ ?_ <;> (intro hc; (try rw [Decidable.not_not] at hc); first | (exfalso; omega) | (try simp [hc]))))
       all_goals (clear hK; clear K))
    | (with_reducible refine wp_condE ?_
       refine ⟨_, rfl, ?_, ?_⟩ <;> (intro hc; (try simp at hc); (all_goals first | (exfalso; omega) | skip))))
  refine wp_loopI (σ := List XPred × List XPred) (fun s => [(1, AV.bx 1 0, some (Rt.bx [.ro false (di x_Kind), .ro false (di x_Col), .ro false (di x_Op), .ro false (di x_V_Ty), .ro false (di x_V_N), .ro false (.str x_V_S), .ro k0 (.sl 7 (x_L.map XPred.e))])), (2, AV.bx 2 0, some (Rt.bx [.ro false (di 0), .ro false (di 0), .ro false (di 0), .ro false (di 0), .ro false (di 0), .ro false (.str ⟨#[]⟩), .own (.sl 7 [])])), (3, AV.bx 3 0, some (Rt.bx [.ro false (di x_Kind), .ro false (di x_Col), .ro false (di x_Op), .ro false (di x_V_Ty), .ro false (di x_V_N), .ro false (.str x_V_S), .own (.sl 7 (s.1.map XPred.e))])), (4, AV.v false (di (s.1.length : Nat)), none)]) (fun s => x_L = s.1 ++ s.2) (fun s => s.2.length) ([], x_L) (by simp) rfl ?_
  rintro ⟨pre, rest⟩ g1
  simp only at g1
  subst g1
  simp only [List.length_append, List.length_cons] at hx2
  rcases rest with _ | ⟨⟨y_Kind, y_Col, y_Op, ⟨y_V_Ty, y_V_N, y_V_S⟩, y_L⟩, rest⟩
  · unfold pl355_0
    repeat' (first
      | with_reducible (first | refine wp_seq ?_ | refine wp_blk ?_ | refine wp_skip ?_ | refine wp_exit ?_ | refine wp_ret ?_ | refine seqQ_norm ?_ | refine seqQ_ret ?_ | refine seqQ_exit ?_ | refine blkQ_norm ?_ | refine blkQ_ret ?_ | refine blkQ_exit ?_ | refine loopQ_norm ?_ | refine loopQ_exit ?_ | refine loopQ_ret ?_ | refine endQ_ret ?_ | refine endQ_norm ?_ | refine endE_ret ?_ | refine endE_norm ?_ | refine endI_ret ?_ | refine endI_norm ?_)
      | (with_reducible refine wp_regK fun K hK => ?_
         simp
         repeat' (with_reducible first | refine hK _ ?_ | (refine psel ?_ ?_ <;> (intro hc; (try rw [Decidable.not_not] at hc); first | (exfalso; omega) | (try simp [hc]))))
         all_goals (clear hK; clear K))
      | (with_reducible refine wp_condE ?_
         refine ⟨_, rfl, ?_, ?_⟩ <;> (intro hc; (try simp at hc); (all_goals first | (exfalso; omega) | skip))))
    all_goals simp [pf355]
  · unfold pl355_0
    simp only [List.length_cons] at hx2
    have hw : IntKind.wrap .i64 ((pre.length : Int) + 1) = (pre.length : Int) + 1 := wrap_i64 (by omega) (by omega)
    have ih := IH ⟨y_Kind, y_Col, y_Op, ⟨y_V_Ty, y_V_N, y_V_S⟩, y_L⟩ (by simp) k0 (XPred.sms_mem hx3 ⟨y_Kind, y_Col, y_Op, ⟨y_V_Ty, y_V_N, y_V_S⟩, y_L⟩ (by simp))
    simp only at ih
    have hq : (pre.length + 1) * 80 ≤ 70368744177664 := by omega
    repeat' (first
      | with_reducible (first | refine wp_seq ?_ | refine wp_blk ?_ | refine wp_skip ?_ | refine wp_exit ?_ | refine wp_ret ?_ | refine seqQ_norm ?_ | refine seqQ_ret ?_ | refine seqQ_exit ?_ | refine blkQ_norm ?_ | refine blkQ_ret ?_ | refine blkQ_exit ?_ | refine loopQ_norm ?_ | refine loopQ_exit ?_ | refine loopQ_ret ?_ | refine endQ_ret ?_ | refine endQ_norm ?_ | refine endE_ret ?_ | refine endE_norm ?_ | refine endI_ret ?_ | refine endI_norm ?_)
      | (with_reducible refine wp_regK fun K hK => ?_
         simp[hw, ih, hq]
         repeat' (with_reducible first | refine hK _ ?_ | (refine psel ?_ ?_ <;> (intro hc; (try rw [Decidable.not_not] at hc); first | (exfalso; omega) | (try simp [hc, hw, ih, hq]))))
         all_goals (clear hK; clear K))
      | (with_reducible refine wp_condE ?_
         refine ⟨_, rfl, ?_, ?_⟩ <;> (intro hc; (try simp at hc); (all_goals first | (exfalso; omega) | skip))))
    all_goals first | exact ⟨(pre ++ [⟨y_Kind, y_Col, y_Op, ⟨y_V_Ty, y_V_N, y_V_S⟩, y_L⟩], rest), by simp, by simp, by simp⟩ | (exfalso; omega)

theorem CpPred_all (x : XPred) : CpPred x :=
  CpPred_of x fun y hy => CpPred_all y
termination_by SizeOf.sizeOf x
decreasing_by
  have h1 := List.sizeOf_lt_of_mem hy
  have h2 : SizeOf.sizeOf x.L < SizeOf.sizeOf x := by cases x; simp; omega
  omega

@[simp] theorem t355 (k0 : Bool) (x_Kind : Int) (x_Col : Int) (x_Op : Int) (x_V_Ty : Int) (x_V_N : Int) (x_V_S : ByteArray) (x_L : List XPred) (hv : x_V_S.size ≤ 1048576) (hl : x_L.length ≤ 1048576) (hs : XPred.sms x_L) : Gw TT 355 [.st [.ro false (di x_Kind), .ro false (di x_Col), .ro false (di x_Op), .ro false (di x_V_Ty), .ro false (di x_V_N), .ro false (.str x_V_S), .ro k0 (.sl 7 (x_L.map XPred.e))]] = some (.st [.ro false (di x_Kind), .ro false (di x_Col), .ro false (di x_Op), .ro false (di x_V_Ty), .ro false (di x_V_N), .ro false (.str x_V_S), .own (.sl 7 (x_L.map XPred.e))], []) :=
  CpPred_all ⟨x_Kind, x_Col, x_Op, ⟨x_V_Ty, x_V_N, x_V_S⟩, x_L⟩ k0 (by simp only [XPred.sm_eq, XVal.sm, and_assoc]; exact ⟨hv, hl, hs⟩)

@[simp] theorem t353 (k0 : Bool) (x_Kind : Int) (x_P_Kind : Int) (x_P_Col : Int) (x_P_Op : Int) (x_P_V_Ty : Int) (x_P_V_N : Int) (x_P_V_S : ByteArray) (x_P_L : List XPred) (x_Col : Int) (x_Out : List Int) (hsm_x_P_V_S : x_P_V_S.size ≤ 1048576) (hsm_x_P_L : x_P_L.length ≤ 1048576) (hsms_x_P_L : XPred.sms x_P_L) (hsm_x_Out : x_Out.length ≤ 1048576) : Gw TT 353 [.st [.ro false (di x_Kind), .ro false (di x_P_Kind), .ro false (di x_P_Col), .ro false (di x_P_Op), .ro false (di x_P_V_Ty), .ro false (di x_P_V_N), .ro false (.str x_P_V_S), .ro k0 (.sl 7 (x_P_L.map XPred.e)), .ro false (di x_Col), .ro k0 (.sl 1 (x_Out.map ei))]] = some (.st [.ro false (di x_Kind), .ro false (di x_P_Kind), .ro false (di x_P_Col), .ro false (di x_P_Op), .ro false (di x_P_V_Ty), .ro false (di x_P_V_N), .ro false (.str x_P_V_S), .own (.sl 7 (x_P_L.map XPred.e)), .ro false (di x_Col), .own (.sl 1 (x_Out.map ei))], []) := by
  have hq_x_Out : (0 + x_Out.length) * 8 ≤ 70368744177664 := by omega
  have hr_x_Out : x_Out.length * 8 ≤ 70368744177664 := by omega
  refine Gw_of (F := pf353) rfl rfl ?_
  show Wp _ pb353 _ _
  unfold pb353
  repeat' (first
    | with_reducible (first | refine wp_seq ?_ | refine wp_blk ?_ | refine wp_skip ?_ | refine wp_exit ?_ | refine wp_ret ?_ | refine seqQ_norm ?_ | refine seqQ_ret ?_ | refine seqQ_exit ?_ | refine blkQ_norm ?_ | refine blkQ_ret ?_ | refine blkQ_exit ?_ | refine loopQ_norm ?_ | refine loopQ_exit ?_ | refine loopQ_ret ?_ | refine endQ_ret ?_ | refine endQ_norm ?_ | refine endE_ret ?_ | refine endE_norm ?_ | refine endI_ret ?_ | refine endI_norm ?_)
    | (with_reducible refine wp_regK fun K hK => ?_
       simp[hsm_x_P_V_S, hsm_x_P_L, hsms_x_P_L, hsm_x_Out, hq_x_Out, hr_x_Out]
       repeat' (with_reducible first | refine hK _ ?_ | (refine psel ?_ ?_ <;> (intro hc; (try rw [Decidable.not_not] at hc); first | (exfalso; omega) | (try simp [hc, hsm_x_P_V_S, hsm_x_P_L, hsms_x_P_L, hsm_x_Out, hq_x_Out, hr_x_Out]))))
       all_goals (clear hK; clear K))
    | (with_reducible refine wp_condE ?_
       refine ⟨_, rfl, ?_, ?_⟩ <;> (intro hc; (try simp at hc); (all_goals first | (exfalso; omega) | skip))))
  all_goals simp [pf353]

@[simp] theorem t356 (k0 : Bool) (x_N : Int) (x_Has : Bool) (x_V_Ty : Int) (x_V_N : Int) (x_V_S : ByteArray) : Gw TT 356 [.st [.ro k0 (.sl 2 []), .ro false (di x_N), .ro false (.bool x_Has), .ro false (di x_V_Ty), .ro false (di x_V_N), .ro false (.str x_V_S)]] = some (.st [.own (.sl 2 []), .ro false (di x_N), .ro false (.bool x_Has), .ro false (di x_V_Ty), .ro false (di x_V_N), .ro false (.str x_V_S)], []) := by
  refine Gw_of (F := pf356) rfl rfl ?_
  show Wp _ pb356 _ _
  unfold pb356
  repeat' (first
    | with_reducible (first | refine wp_seq ?_ | refine wp_blk ?_ | refine wp_skip ?_ | refine wp_exit ?_ | refine wp_ret ?_ | refine seqQ_norm ?_ | refine seqQ_ret ?_ | refine seqQ_exit ?_ | refine blkQ_norm ?_ | refine blkQ_ret ?_ | refine blkQ_exit ?_ | refine loopQ_norm ?_ | refine loopQ_exit ?_ | refine loopQ_ret ?_ | refine endQ_ret ?_ | refine endQ_norm ?_ | refine endE_ret ?_ | refine endE_norm ?_ | refine endI_ret ?_ | refine endI_norm ?_)
    | (with_reducible refine wp_regK fun K hK => ?_
       simp[l4All_nil]
       repeat' (with_reducible first | refine hK _ ?_ | (refine psel ?_ ?_ <;> (intro hc; (try rw [Decidable.not_not] at hc); first | (exfalso; omega) | (try simp [hc, l4All_nil]))))
       all_goals (clear hK; clear K))
    | (with_reducible refine wp_condE ?_
       refine ⟨_, rfl, ?_, ?_⟩ <;> (intro hc; (try simp at hc); (all_goals first | (exfalso; omega) | skip))))
  all_goals simp [pf356]

@[simp] theorem t387 (k0 : Bool) (x_Op : Int) (x_Task : Int) (x_R : List XVal) (x_Id : Int) (x_Q_Kind : Int) (x_Q_P_Kind : Int) (x_Q_P_Col : Int) (x_Q_P_Op : Int) (x_Q_P_V_Ty : Int) (x_Q_P_V_N : Int) (x_Q_P_V_S : ByteArray) (x_Q_P_L : List XPred) (x_Q_Col : Int) (x_Q_Out : List Int) (x_Res_N : Int) (x_Res_Has : Bool) (x_Res_V_Ty : Int) (x_Res_V_N : Int) (x_Res_V_S : ByteArray) (x_Code : Int) (x_Stamp : Int) (x_Inv : Int) (x_Lin : Int) (x_Ret : Int) (hsm_x_R : x_R.length ≤ 1048576) (hsms_x_R : XVal.sms x_R) (hsm_x_Q_P_V_S : x_Q_P_V_S.size ≤ 1048576) (hsm_x_Q_P_L : x_Q_P_L.length ≤ 1048576) (hsms_x_Q_P_L : XPred.sms x_Q_P_L) (hsm_x_Q_Out : x_Q_Out.length ≤ 1048576) : Gw TT 387 [.st [.ro false (di x_Op), .ro false (di x_Task), .ro k0 (.sl 3 (x_R.map XVal.e)), .ro false (di x_Id), .ro false (di x_Q_Kind), .ro false (di x_Q_P_Kind), .ro false (di x_Q_P_Col), .ro false (di x_Q_P_Op), .ro false (di x_Q_P_V_Ty), .ro false (di x_Q_P_V_N), .ro false (.str x_Q_P_V_S), .ro k0 (.sl 7 (x_Q_P_L.map XPred.e)), .ro false (di x_Q_Col), .ro k0 (.sl 1 (x_Q_Out.map ei)), .ro k0 (.sl 2 []), .ro false (di x_Res_N), .ro false (.bool x_Res_Has), .ro false (di x_Res_V_Ty), .ro false (di x_Res_V_N), .ro false (.str x_Res_V_S), .ro false (di x_Code), .ro false (di x_Stamp), .ro false (di x_Inv), .ro false (di x_Lin), .ro false (di x_Ret)]] = some (.st [.ro false (di x_Op), .ro false (di x_Task), .own (.sl 3 (x_R.map XVal.e)), .ro false (di x_Id), .ro false (di x_Q_Kind), .ro false (di x_Q_P_Kind), .ro false (di x_Q_P_Col), .ro false (di x_Q_P_Op), .ro false (di x_Q_P_V_Ty), .ro false (di x_Q_P_V_N), .ro false (.str x_Q_P_V_S), .own (.sl 7 (x_Q_P_L.map XPred.e)), .ro false (di x_Q_Col), .own (.sl 1 (x_Q_Out.map ei)), .own (.sl 2 []), .ro false (di x_Res_N), .ro false (.bool x_Res_Has), .ro false (di x_Res_V_Ty), .ro false (di x_Res_V_N), .ro false (.str x_Res_V_S), .ro false (di x_Code), .ro false (di x_Stamp), .ro false (di x_Inv), .ro false (di x_Lin), .ro false (di x_Ret)], []) := by
  have hq1 : (0 + x_R.length) * 32 ≤ 70368744177664 := by omega
  have hq2 : x_R.length * 32 ≤ 70368744177664 := by omega
  refine Gw_of (F := pf387) rfl rfl ?_
  show Wp _ pb387 _ _
  unfold pb387
  repeat' (first
    | with_reducible (first | refine wp_seq ?_ | refine wp_blk ?_ | refine wp_skip ?_ | refine wp_exit ?_ | refine wp_ret ?_ | refine seqQ_norm ?_ | refine seqQ_ret ?_ | refine seqQ_exit ?_ | refine blkQ_norm ?_ | refine blkQ_ret ?_ | refine blkQ_exit ?_ | refine loopQ_norm ?_ | refine loopQ_exit ?_ | refine loopQ_ret ?_ | refine endQ_ret ?_ | refine endQ_norm ?_ | refine endE_ret ?_ | refine endE_norm ?_ | refine endI_ret ?_ | refine endI_norm ?_)
    | (with_reducible refine wp_regK fun K hK => ?_
       simp[hsm_x_R, hsms_x_R, hsm_x_Q_P_V_S, hsm_x_Q_P_L, hsms_x_Q_P_L, hsm_x_Q_Out, hq1, hq2]
       repeat' (with_reducible first | refine hK _ ?_ | (refine psel ?_ ?_ <;> (intro hc; (try rw [Decidable.not_not] at hc); first | (exfalso; omega) | (try simp [hc, hsm_x_R, hsms_x_R, hsm_x_Q_P_V_S, hsm_x_Q_P_L, hsms_x_Q_P_L, hsm_x_Q_Out, hq1, hq2]))))
       all_goals (clear hK; clear K))
    | (with_reducible refine wp_condE ?_
       refine ⟨_, rfl, ?_, ?_⟩ <;> (intro hc; (try simp at hc); (all_goals first | (exfalso; omega) | skip))))
  all_goals simp [pf387]

theorem d388_ex (c : XCur)  : ∃ r : (XDeed) × XCur, Gw TT 388 [.ptr [.ro false (.sl 1 (c.b.map eb)), .ro false (di (c.i : Nat)), .ro false (di c.h)]] = some (.st [.ro false (di r.1.Op), .ro false (di r.1.Task), .own (.sl 3 (r.1.R.map XVal.e)), .ro false (di r.1.Id), .ro false (di r.1.Q.Kind), .ro false (di r.1.Q.P.Kind), .ro false (di r.1.Q.P.Col), .ro false (di r.1.Q.P.Op), .ro false (di r.1.Q.P.V.Ty), .ro false (di r.1.Q.P.V.N), .ro false (.str r.1.Q.P.V.S), .own (.sl 7 (r.1.Q.P.L.map XPred.e)), .ro false (di r.1.Q.Col), .own (.sl 1 (r.1.Q.Out.map ei)), .own (.sl 2 []), .ro false (di r.1.Res.N), .ro false (.bool r.1.Res.Has), .ro false (di r.1.Res.V.Ty), .ro false (di r.1.Res.V.N), .ro false (.str r.1.Res.V.S), .ro false (di r.1.Code), .ro false (di r.1.Stamp), .ro false (di r.1.Inv), .ro false (di r.1.Lin), .ro false (di r.1.Ret)], [(0, 0, .ro false (.sl 1 (r.2.b.map eb))), (0, 1, .ro false (di (r.2.i : Nat))), (0, 2, .ro false (di r.2.h))]) ∧ (r.1.R.length ≤ 1000 ∧ XVal.sms r.1.R ∧ XQuery.sm r.1.Q ∧ r.1.Res = (⟨[], 0, false, ⟨0, 0, ⟨#[]⟩⟩⟩ : XResult)) := by
  suffices h0 : ∃ y, Gw TT 388 [.ptr [.ro false (.sl 1 (c.b.map eb)), .ro false (di (c.i : Nat)), .ro false (di c.h)]] = some y ∧ ∃ r : (XDeed) × XCur, y = (.st [.ro false (di r.1.Op), .ro false (di r.1.Task), .own (.sl 3 (r.1.R.map XVal.e)), .ro false (di r.1.Id), .ro false (di r.1.Q.Kind), .ro false (di r.1.Q.P.Kind), .ro false (di r.1.Q.P.Col), .ro false (di r.1.Q.P.Op), .ro false (di r.1.Q.P.V.Ty), .ro false (di r.1.Q.P.V.N), .ro false (.str r.1.Q.P.V.S), .own (.sl 7 (r.1.Q.P.L.map XPred.e)), .ro false (di r.1.Q.Col), .own (.sl 1 (r.1.Q.Out.map ei)), .own (.sl 2 []), .ro false (di r.1.Res.N), .ro false (.bool r.1.Res.Has), .ro false (di r.1.Res.V.Ty), .ro false (di r.1.Res.V.N), .ro false (.str r.1.Res.V.S), .ro false (di r.1.Code), .ro false (di r.1.Stamp), .ro false (di r.1.Inv), .ro false (di r.1.Lin), .ro false (di r.1.Ret)], [(0, 0, .ro false (.sl 1 (r.2.b.map eb))), (0, 1, .ro false (di (r.2.i : Nat))), (0, 2, .ro false (di r.2.h))]) ∧ (r.1.R.length ≤ 1000 ∧ XVal.sms r.1.R ∧ XQuery.sm r.1.Q ∧ r.1.Res = (⟨[], 0, false, ⟨0, 0, ⟨#[]⟩⟩⟩ : XResult)) by
    obtain ⟨y, h1, r, rfl, h2⟩ := h0
    exact ⟨r, h1, h2⟩
  refine Gw_ofE (F := pf388) rfl rfl ?_
  show Wp _ pb388 _ _
  unfold pb388
  have q := p375 c 4
  obtain ⟨⟨n, c1⟩, hn⟩ : ∃ r, d375 c 4 = r := ⟨_, rfl⟩
  rw [hn] at q
  simp only at q
  have q2 := q.2.1 (by omega)
  have hop : IntKind.wrap .i64 (1 + n) = 1 + n := wrap_i64 (by omega) (by omega)
  obtain ⟨⟨task, c2⟩, htask⟩ : ∃ r, d375 c1 5 = r := ⟨_, rfl⟩
  obtain ⟨⟨id, c3⟩, hid⟩ : ∃ r, d375 c2 5 = r := ⟨_, rfl⟩
  obtain ⟨⟨code, c4⟩, hcode⟩ : ∃ r, d375 c3 6 = r := ⟨_, rfl⟩
  obtain ⟨⟨stamp, c5⟩, hstamp⟩ : ∃ r, d375 c4 4 = r := ⟨_, rfl⟩
  obtain ⟨⟨inv, c6⟩, hinv⟩ : ∃ r, d375 c5 9 = r := ⟨_, rfl⟩
  rcases (by omega : n = 0 ∨ n = 1 ∨ n = 2 ∨ n = 3) with rfl | rfl | rfl | rfl
  · have qc := p399 c6
    obtain ⟨⟨cols, c7⟩, hcols⟩ : ∃ r, d399 c6 = r := ⟨_, rfl⟩
    rw [hcols] at qc
    simp only at qc
    have hc1 : 1 ≤ cols.length := by omega
    have hc3 : cols.length ≤ 1000 := by omega
    have mv := p401 c7 true cols hc3
    obtain ⟨⟨v, c8⟩, hv⟩ : ∃ r, d401 c7 true cols hc3 = r := ⟨_, rfl⟩
    rw [hv] at mv
    simp only at mv
    obtain ⟨⟨z1, e1⟩, hz1⟩ : ∃ r, d382 c8 4 = r := ⟨_, rfl⟩
    obtain ⟨⟨z2, e3⟩, hz2⟩ : ∃ r, d382 (d375 e1 4).2 4 = r := ⟨_, rfl⟩
    cases z1 with
    | true =>
      repeat' (first
        | with_reducible (first | refine wp_seq ?_ | refine wp_blk ?_ | refine wp_skip ?_ | refine wp_exit ?_ | refine wp_ret ?_ | refine seqQ_norm ?_ | refine seqQ_ret ?_ | refine seqQ_exit ?_ | refine blkQ_norm ?_ | refine blkQ_ret ?_ | refine blkQ_exit ?_ | refine loopQ_norm ?_ | refine loopQ_exit ?_ | refine loopQ_ret ?_ | refine endQ_ret ?_ | refine endQ_norm ?_ | refine endE_ret ?_ | refine endE_norm ?_ | refine endI_ret ?_ | refine endI_norm ?_)
        | (with_reducible refine wp_regK fun K hK => ?_
           simp[hop, hn, htask, hid, hcode, hstamp, hinv, hcols, hc1, hc3, hv, hz1]
           repeat' (with_reducible first | refine hK _ ?_ | (refine psel ?_ ?_ <;> (intro hc; (try rw [Decidable.not_not] at hc); first | (exfalso; omega) | (try simp [hc, hop, hn, htask, hid, hcode, hstamp, hinv, hcols, hc1, hc3, hv, hz1]))))
           all_goals (clear hK; clear K))
        | (with_reducible refine wp_condE ?_
           refine ⟨_, rfl, ?_, ?_⟩ <;> (intro hc; (try simp at hc); (all_goals first | (exfalso; omega) | skip))))
      all_goals first | (exfalso; omega) | (refine ⟨_, by simp [pf388]; rfl, ?_⟩; refine ⟨((⟨1, task, v, (IntKind.wrap .i64 (id - 1)), ⟨0, ⟨0, 0, 0, ⟨0, 0, ⟨#[]⟩⟩, []⟩, 0, []⟩, ⟨[], 0, false, ⟨0, 0, ⟨#[]⟩⟩⟩, code, stamp, inv, -1, -1⟩ : XDeed), e1), ?_, ?_, ?_, ?_, ?_⟩; (focus (first | (simp; done) | (simp [*]; done))); (focus (exact mv.1)); (focus (exact mv.2)); (focus (simp only [XQuery.sm, XPred.sm_eq, XVal.sm, XPred.sms, bnil_size]; simp)); (focus (rfl))) | skip
    | false =>
      cases z2 with
      | true =>
        repeat' (first
          | with_reducible (first | refine wp_seq ?_ | refine wp_blk ?_ | refine wp_skip ?_ | refine wp_exit ?_ | refine wp_ret ?_ | refine seqQ_norm ?_ | refine seqQ_ret ?_ | refine seqQ_exit ?_ | refine blkQ_norm ?_ | refine blkQ_ret ?_ | refine blkQ_exit ?_ | refine loopQ_norm ?_ | refine loopQ_exit ?_ | refine loopQ_ret ?_ | refine endQ_ret ?_ | refine endQ_norm ?_ | refine endE_ret ?_ | refine endE_norm ?_ | refine endI_ret ?_ | refine endI_norm ?_)
          | (with_reducible refine wp_regK fun K hK => ?_
             simp[hop, hn, htask, hid, hcode, hstamp, hinv, hcols, hc1, hc3, hv, hz1, hz2]
             repeat' (with_reducible first | refine hK _ ?_ | (refine psel ?_ ?_ <;> (intro hc; (try rw [Decidable.not_not] at hc); first | (exfalso; omega) | (try simp [hc, hop, hn, htask, hid, hcode, hstamp, hinv, hcols, hc1, hc3, hv, hz1, hz2]))))
             all_goals (clear hK; clear K))
          | (with_reducible refine wp_condE ?_
             refine ⟨_, rfl, ?_, ?_⟩ <;> (intro hc; (try simp at hc); (all_goals first | (exfalso; omega) | skip))))
        all_goals first | (exfalso; omega) | (refine ⟨_, by simp [pf388]; rfl, ?_⟩; refine ⟨((⟨1, task, v, (IntKind.wrap .i64 (id - 1)), ⟨0, ⟨0, 0, 0, ⟨0, 0, ⟨#[]⟩⟩, []⟩, 0, []⟩, ⟨[], 0, false, ⟨0, 0, ⟨#[]⟩⟩⟩, code, stamp, inv, (IntKind.wrap .i64 (inv + (d375 e1 4).1)), -1⟩ : XDeed), e3), ?_, ?_, ?_, ?_, ?_⟩; (focus (first | (simp; done) | (simp [*]; done))); (focus (exact mv.1)); (focus (exact mv.2)); (focus (simp only [XQuery.sm, XPred.sm_eq, XVal.sm, XPred.sms, bnil_size]; simp)); (focus (rfl))) | skip
      | false =>
        repeat' (first
          | with_reducible (first | refine wp_seq ?_ | refine wp_blk ?_ | refine wp_skip ?_ | refine wp_exit ?_ | refine wp_ret ?_ | refine seqQ_norm ?_ | refine seqQ_ret ?_ | refine seqQ_exit ?_ | refine blkQ_norm ?_ | refine blkQ_ret ?_ | refine blkQ_exit ?_ | refine loopQ_norm ?_ | refine loopQ_exit ?_ | refine loopQ_ret ?_ | refine endQ_ret ?_ | refine endQ_norm ?_ | refine endE_ret ?_ | refine endE_norm ?_ | refine endI_ret ?_ | refine endI_norm ?_)
          | (with_reducible refine wp_regK fun K hK => ?_
             simp[hop, hn, htask, hid, hcode, hstamp, hinv, hcols, hc1, hc3, hv, hz1, hz2]
             repeat' (with_reducible first | refine hK _ ?_ | (refine psel ?_ ?_ <;> (intro hc; (try rw [Decidable.not_not] at hc); first | (exfalso; omega) | (try simp [hc, hop, hn, htask, hid, hcode, hstamp, hinv, hcols, hc1, hc3, hv, hz1, hz2]))))
             all_goals (clear hK; clear K))
          | (with_reducible refine wp_condE ?_
             refine ⟨_, rfl, ?_, ?_⟩ <;> (intro hc; (try simp at hc); (all_goals first | (exfalso; omega) | skip))))
        all_goals first | (exfalso; omega) | (refine ⟨_, by simp [pf388]; rfl, ?_⟩; refine ⟨((⟨1, task, v, (IntKind.wrap .i64 (id - 1)), ⟨0, ⟨0, 0, 0, ⟨0, 0, ⟨#[]⟩⟩, []⟩, 0, []⟩, ⟨[], 0, false, ⟨0, 0, ⟨#[]⟩⟩⟩, code, stamp, inv, (IntKind.wrap .i64 (inv + (d375 e1 4).1)), (IntKind.wrap .i64 ((IntKind.wrap .i64 (inv + (d375 e1 4).1)) + (d375 e3 4).1))⟩ : XDeed), (d375 e3 4).2), ?_, ?_, ?_, ?_, ?_⟩; (focus (first | (simp; done) | (simp [*]; done))); (focus (exact mv.1)); (focus (exact mv.2)); (focus (simp only [XQuery.sm, XPred.sm_eq, XVal.sm, XPred.sms, bnil_size]; simp)); (focus (rfl))) | skip
  · skip
    obtain ⟨⟨z1, e1⟩, hz1⟩ : ∃ r, d382 c6 4 = r := ⟨_, rfl⟩
    obtain ⟨⟨z2, e3⟩, hz2⟩ : ∃ r, d382 (d375 e1 4).2 4 = r := ⟨_, rfl⟩
    cases z1 with
    | true =>
      repeat' (first
        | with_reducible (first | refine wp_seq ?_ | refine wp_blk ?_ | refine wp_skip ?_ | refine wp_exit ?_ | refine wp_ret ?_ | refine seqQ_norm ?_ | refine seqQ_ret ?_ | refine seqQ_exit ?_ | refine blkQ_norm ?_ | refine blkQ_ret ?_ | refine blkQ_exit ?_ | refine loopQ_norm ?_ | refine loopQ_exit ?_ | refine loopQ_ret ?_ | refine endQ_ret ?_ | refine endQ_norm ?_ | refine endE_ret ?_ | refine endE_norm ?_ | refine endI_ret ?_ | refine endI_norm ?_)
        | (with_reducible refine wp_regK fun K hK => ?_
           simp[hop, hn, htask, hid, hcode, hstamp, hinv, hz1]
           repeat' (with_reducible first | refine hK _ ?_ | (refine psel ?_ ?_ <;> (intro hc; (try rw [Decidable.not_not] at hc); first | (exfalso; omega) | (try simp [hc, hop, hn, htask, hid, hcode, hstamp, hinv, hz1]))))
           all_goals (clear hK; clear K))
        | (with_reducible refine wp_condE ?_
           refine ⟨_, rfl, ?_, ?_⟩ <;> (intro hc; (try simp at hc); (all_goals first | (exfalso; omega) | skip))))
      all_goals first | (exfalso; omega) | (refine ⟨_, by simp [pf388]; rfl, ?_⟩; refine ⟨((⟨2, task, [], (IntKind.wrap .i64 (id - 1)), ⟨0, ⟨0, 0, 0, ⟨0, 0, ⟨#[]⟩⟩, []⟩, 0, []⟩, ⟨[], 0, false, ⟨0, 0, ⟨#[]⟩⟩⟩, code, stamp, inv, -1, -1⟩ : XDeed), e1), ?_, ?_, ?_, ?_, ?_⟩; (focus (first | (simp; done) | (simp [*]; done))); (focus (simp)); (focus (intro y hy; simp at hy)); (focus (simp only [XQuery.sm, XPred.sm_eq, XVal.sm, XPred.sms, bnil_size]; simp)); (focus (rfl))) | skip
    | false =>
      cases z2 with
      | true =>
        repeat' (first
          | with_reducible (first | refine wp_seq ?_ | refine wp_blk ?_ | refine wp_skip ?_ | refine wp_exit ?_ | refine wp_ret ?_ | refine seqQ_norm ?_ | refine seqQ_ret ?_ | refine seqQ_exit ?_ | refine blkQ_norm ?_ | refine blkQ_ret ?_ | refine blkQ_exit ?_ | refine loopQ_norm ?_ | refine loopQ_exit ?_ | refine loopQ_ret ?_ | refine endQ_ret ?_ | refine endQ_norm ?_ | refine endE_ret ?_ | refine endE_norm ?_ | refine endI_ret ?_ | refine endI_norm ?_)
          | (with_reducible refine wp_regK fun K hK => ?_
             simp[hop, hn, htask, hid, hcode, hstamp, hinv, hz1, hz2]
             repeat' (with_reducible first | refine hK _ ?_ | (refine psel ?_ ?_ <;> (intro hc; (try rw [Decidable.not_not] at hc); first | (exfalso; omega) | (try simp [hc, hop, hn, htask, hid, hcode, hstamp, hinv, hz1, hz2]))))
             all_goals (clear hK; clear K))
          | (with_reducible refine wp_condE ?_
             refine ⟨_, rfl, ?_, ?_⟩ <;> (intro hc; (try simp at hc); (all_goals first | (exfalso; omega) | skip))))
        all_goals first | (exfalso; omega) | (refine ⟨_, by simp [pf388]; rfl, ?_⟩; refine ⟨((⟨2, task, [], (IntKind.wrap .i64 (id - 1)), ⟨0, ⟨0, 0, 0, ⟨0, 0, ⟨#[]⟩⟩, []⟩, 0, []⟩, ⟨[], 0, false, ⟨0, 0, ⟨#[]⟩⟩⟩, code, stamp, inv, (IntKind.wrap .i64 (inv + (d375 e1 4).1)), -1⟩ : XDeed), e3), ?_, ?_, ?_, ?_, ?_⟩; (focus (first | (simp; done) | (simp [*]; done))); (focus (simp)); (focus (intro y hy; simp at hy)); (focus (simp only [XQuery.sm, XPred.sm_eq, XVal.sm, XPred.sms, bnil_size]; simp)); (focus (rfl))) | skip
      | false =>
        repeat' (first
          | with_reducible (first | refine wp_seq ?_ | refine wp_blk ?_ | refine wp_skip ?_ | refine wp_exit ?_ | refine wp_ret ?_ | refine seqQ_norm ?_ | refine seqQ_ret ?_ | refine seqQ_exit ?_ | refine blkQ_norm ?_ | refine blkQ_ret ?_ | refine blkQ_exit ?_ | refine loopQ_norm ?_ | refine loopQ_exit ?_ | refine loopQ_ret ?_ | refine endQ_ret ?_ | refine endQ_norm ?_ | refine endE_ret ?_ | refine endE_norm ?_ | refine endI_ret ?_ | refine endI_norm ?_)
          | (with_reducible refine wp_regK fun K hK => ?_
             simp[hop, hn, htask, hid, hcode, hstamp, hinv, hz1, hz2]
             repeat' (with_reducible first | refine hK _ ?_ | (refine psel ?_ ?_ <;> (intro hc; (try rw [Decidable.not_not] at hc); first | (exfalso; omega) | (try simp [hc, hop, hn, htask, hid, hcode, hstamp, hinv, hz1, hz2]))))
             all_goals (clear hK; clear K))
          | (with_reducible refine wp_condE ?_
             refine ⟨_, rfl, ?_, ?_⟩ <;> (intro hc; (try simp at hc); (all_goals first | (exfalso; omega) | skip))))
        all_goals first | (exfalso; omega) | (refine ⟨_, by simp [pf388]; rfl, ?_⟩; refine ⟨((⟨2, task, [], (IntKind.wrap .i64 (id - 1)), ⟨0, ⟨0, 0, 0, ⟨0, 0, ⟨#[]⟩⟩, []⟩, 0, []⟩, ⟨[], 0, false, ⟨0, 0, ⟨#[]⟩⟩⟩, code, stamp, inv, (IntKind.wrap .i64 (inv + (d375 e1 4).1)), (IntKind.wrap .i64 ((IntKind.wrap .i64 (inv + (d375 e1 4).1)) + (d375 e3 4).1))⟩ : XDeed), (d375 e3 4).2), ?_, ?_, ?_, ?_, ?_⟩; (focus (first | (simp; done) | (simp [*]; done))); (focus (simp)); (focus (intro y hy; simp at hy)); (focus (simp only [XQuery.sm, XPred.sm_eq, XVal.sm, XPred.sms, bnil_size]; simp)); (focus (rfl))) | skip
  · have qc := p399 c6
    obtain ⟨⟨cols, c7⟩, hcols⟩ : ∃ r, d399 c6 = r := ⟨_, rfl⟩
    rw [hcols] at qc
    simp only at qc
    have hc1 : 1 ≤ cols.length := by omega
    have hc3 : cols.length ≤ 1000 := by omega
    have mq := p354 c7 true cols hc1 hc3
    obtain ⟨⟨qq, c8⟩, hqq⟩ : ∃ r, d354 c7 true cols hc1 hc3 = r := ⟨_, rfl⟩
    rw [hqq] at mq
    simp only at mq
    have mq2 : XQuery.sm qq := ⟨mq.1, by omega⟩
    obtain ⟨⟨z1, e1⟩, hz1⟩ : ∃ r, d382 c8 4 = r := ⟨_, rfl⟩
    obtain ⟨⟨z2, e3⟩, hz2⟩ : ∃ r, d382 (d375 e1 4).2 4 = r := ⟨_, rfl⟩
    cases z1 with
    | true =>
      repeat' (first
        | with_reducible (first | refine wp_seq ?_ | refine wp_blk ?_ | refine wp_skip ?_ | refine wp_exit ?_ | refine wp_ret ?_ | refine seqQ_norm ?_ | refine seqQ_ret ?_ | refine seqQ_exit ?_ | refine blkQ_norm ?_ | refine blkQ_ret ?_ | refine blkQ_exit ?_ | refine loopQ_norm ?_ | refine loopQ_exit ?_ | refine loopQ_ret ?_ | refine endQ_ret ?_ | refine endQ_norm ?_ | refine endE_ret ?_ | refine endE_norm ?_ | refine endI_ret ?_ | refine endI_norm ?_)
        | (with_reducible refine wp_regK fun K hK => ?_
           simp[hop, hn, htask, hid, hcode, hstamp, hinv, hcols, hc1, hc3, hqq, hz1]
           repeat' (with_reducible first | refine hK _ ?_ | (refine psel ?_ ?_ <;> (intro hc; (try rw [Decidable.not_not] at hc); first | (exfalso; omega) | (try simp [hc, hop, hn, htask, hid, hcode, hstamp, hinv, hcols, hc1, hc3, hqq, hz1]))))
           all_goals (clear hK; clear K))
        | (with_reducible refine wp_condE ?_
           refine ⟨_, rfl, ?_, ?_⟩ <;> (intro hc; (try simp at hc); (all_goals first | (exfalso; omega) | skip))))
      all_goals first | (exfalso; omega) | (refine ⟨_, by simp [pf388]; rfl, ?_⟩; refine ⟨((⟨3, task, [], (IntKind.wrap .i64 (id - 1)), qq, ⟨[], 0, false, ⟨0, 0, ⟨#[]⟩⟩⟩, code, stamp, inv, -1, -1⟩ : XDeed), e1), ?_, ?_, ?_, ?_, ?_⟩; (focus (first | (simp; done) | (simp [*]; done))); (focus (simp)); (focus (intro y hy; simp at hy)); (focus (exact mq2)); (focus (rfl))) | skip
    | false =>
      cases z2 with
      | true =>
        repeat' (first
          | with_reducible (first | refine wp_seq ?_ | refine wp_blk ?_ | refine wp_skip ?_ | refine wp_exit ?_ | refine wp_ret ?_ | refine seqQ_norm ?_ | refine seqQ_ret ?_ | refine seqQ_exit ?_ | refine blkQ_norm ?_ | refine blkQ_ret ?_ | refine blkQ_exit ?_ | refine loopQ_norm ?_ | refine loopQ_exit ?_ | refine loopQ_ret ?_ | refine endQ_ret ?_ | refine endQ_norm ?_ | refine endE_ret ?_ | refine endE_norm ?_ | refine endI_ret ?_ | refine endI_norm ?_)
          | (with_reducible refine wp_regK fun K hK => ?_
             simp[hop, hn, htask, hid, hcode, hstamp, hinv, hcols, hc1, hc3, hqq, hz1, hz2]
             repeat' (with_reducible first | refine hK _ ?_ | (refine psel ?_ ?_ <;> (intro hc; (try rw [Decidable.not_not] at hc); first | (exfalso; omega) | (try simp [hc, hop, hn, htask, hid, hcode, hstamp, hinv, hcols, hc1, hc3, hqq, hz1, hz2]))))
             all_goals (clear hK; clear K))
          | (with_reducible refine wp_condE ?_
             refine ⟨_, rfl, ?_, ?_⟩ <;> (intro hc; (try simp at hc); (all_goals first | (exfalso; omega) | skip))))
        all_goals first | (exfalso; omega) | (refine ⟨_, by simp [pf388]; rfl, ?_⟩; refine ⟨((⟨3, task, [], (IntKind.wrap .i64 (id - 1)), qq, ⟨[], 0, false, ⟨0, 0, ⟨#[]⟩⟩⟩, code, stamp, inv, (IntKind.wrap .i64 (inv + (d375 e1 4).1)), -1⟩ : XDeed), e3), ?_, ?_, ?_, ?_, ?_⟩; (focus (first | (simp; done) | (simp [*]; done))); (focus (simp)); (focus (intro y hy; simp at hy)); (focus (exact mq2)); (focus (rfl))) | skip
      | false =>
        repeat' (first
          | with_reducible (first | refine wp_seq ?_ | refine wp_blk ?_ | refine wp_skip ?_ | refine wp_exit ?_ | refine wp_ret ?_ | refine seqQ_norm ?_ | refine seqQ_ret ?_ | refine seqQ_exit ?_ | refine blkQ_norm ?_ | refine blkQ_ret ?_ | refine blkQ_exit ?_ | refine loopQ_norm ?_ | refine loopQ_exit ?_ | refine loopQ_ret ?_ | refine endQ_ret ?_ | refine endQ_norm ?_ | refine endE_ret ?_ | refine endE_norm ?_ | refine endI_ret ?_ | refine endI_norm ?_)
          | (with_reducible refine wp_regK fun K hK => ?_
             simp[hop, hn, htask, hid, hcode, hstamp, hinv, hcols, hc1, hc3, hqq, hz1, hz2]
             repeat' (with_reducible first | refine hK _ ?_ | (refine psel ?_ ?_ <;> (intro hc; (try rw [Decidable.not_not] at hc); first | (exfalso; omega) | (try simp [hc, hop, hn, htask, hid, hcode, hstamp, hinv, hcols, hc1, hc3, hqq, hz1, hz2]))))
             all_goals (clear hK; clear K))
          | (with_reducible refine wp_condE ?_
             refine ⟨_, rfl, ?_, ?_⟩ <;> (intro hc; (try simp at hc); (all_goals first | (exfalso; omega) | skip))))
        all_goals first | (exfalso; omega) | (refine ⟨_, by simp [pf388]; rfl, ?_⟩; refine ⟨((⟨3, task, [], (IntKind.wrap .i64 (id - 1)), qq, ⟨[], 0, false, ⟨0, 0, ⟨#[]⟩⟩⟩, code, stamp, inv, (IntKind.wrap .i64 (inv + (d375 e1 4).1)), (IntKind.wrap .i64 ((IntKind.wrap .i64 (inv + (d375 e1 4).1)) + (d375 e3 4).1))⟩ : XDeed), (d375 e3 4).2), ?_, ?_, ?_, ?_, ?_⟩; (focus (first | (simp; done) | (simp [*]; done))); (focus (simp)); (focus (intro y hy; simp at hy)); (focus (exact mq2)); (focus (rfl))) | skip
  · skip
    obtain ⟨⟨z1, e1⟩, hz1⟩ : ∃ r, d382 c6 4 = r := ⟨_, rfl⟩
    obtain ⟨⟨z2, e3⟩, hz2⟩ : ∃ r, d382 (d375 e1 4).2 4 = r := ⟨_, rfl⟩
    cases z1 with
    | true =>
      repeat' (first
        | with_reducible (first | refine wp_seq ?_ | refine wp_blk ?_ | refine wp_skip ?_ | refine wp_exit ?_ | refine wp_ret ?_ | refine seqQ_norm ?_ | refine seqQ_ret ?_ | refine seqQ_exit ?_ | refine blkQ_norm ?_ | refine blkQ_ret ?_ | refine blkQ_exit ?_ | refine loopQ_norm ?_ | refine loopQ_exit ?_ | refine loopQ_ret ?_ | refine endQ_ret ?_ | refine endQ_norm ?_ | refine endE_ret ?_ | refine endE_norm ?_ | refine endI_ret ?_ | refine endI_norm ?_)
        | (with_reducible refine wp_regK fun K hK => ?_
           simp[hop, hn, htask, hid, hcode, hstamp, hinv, hz1]
           repeat' (with_reducible first | refine hK _ ?_ | (refine psel ?_ ?_ <;> (intro hc; (try rw [Decidable.not_not] at hc); first | (exfalso; omega) | (try simp [hc, hop, hn, htask, hid, hcode, hstamp, hinv, hz1]))))
           all_goals (clear hK; clear K))
        | (with_reducible refine wp_condE ?_
           refine ⟨_, rfl, ?_, ?_⟩ <;> (intro hc; (try simp at hc); (all_goals first | (exfalso; omega) | skip))))
      all_goals first | (exfalso; omega) | (refine ⟨_, by simp [pf388]; rfl, ?_⟩; refine ⟨((⟨4, task, [], (IntKind.wrap .i64 (id - 1)), ⟨0, ⟨0, 0, 0, ⟨0, 0, ⟨#[]⟩⟩, []⟩, 0, []⟩, ⟨[], 0, false, ⟨0, 0, ⟨#[]⟩⟩⟩, code, stamp, inv, -1, -1⟩ : XDeed), e1), ?_, ?_, ?_, ?_, ?_⟩; (focus (first | (simp; done) | (simp [*]; done))); (focus (simp)); (focus (intro y hy; simp at hy)); (focus (simp only [XQuery.sm, XPred.sm_eq, XVal.sm, XPred.sms, bnil_size]; simp)); (focus (rfl))) | skip
    | false =>
      cases z2 with
      | true =>
        repeat' (first
          | with_reducible (first | refine wp_seq ?_ | refine wp_blk ?_ | refine wp_skip ?_ | refine wp_exit ?_ | refine wp_ret ?_ | refine seqQ_norm ?_ | refine seqQ_ret ?_ | refine seqQ_exit ?_ | refine blkQ_norm ?_ | refine blkQ_ret ?_ | refine blkQ_exit ?_ | refine loopQ_norm ?_ | refine loopQ_exit ?_ | refine loopQ_ret ?_ | refine endQ_ret ?_ | refine endQ_norm ?_ | refine endE_ret ?_ | refine endE_norm ?_ | refine endI_ret ?_ | refine endI_norm ?_)
          | (with_reducible refine wp_regK fun K hK => ?_
             simp[hop, hn, htask, hid, hcode, hstamp, hinv, hz1, hz2]
             repeat' (with_reducible first | refine hK _ ?_ | (refine psel ?_ ?_ <;> (intro hc; (try rw [Decidable.not_not] at hc); first | (exfalso; omega) | (try simp [hc, hop, hn, htask, hid, hcode, hstamp, hinv, hz1, hz2]))))
             all_goals (clear hK; clear K))
          | (with_reducible refine wp_condE ?_
             refine ⟨_, rfl, ?_, ?_⟩ <;> (intro hc; (try simp at hc); (all_goals first | (exfalso; omega) | skip))))
        all_goals first | (exfalso; omega) | (refine ⟨_, by simp [pf388]; rfl, ?_⟩; refine ⟨((⟨4, task, [], (IntKind.wrap .i64 (id - 1)), ⟨0, ⟨0, 0, 0, ⟨0, 0, ⟨#[]⟩⟩, []⟩, 0, []⟩, ⟨[], 0, false, ⟨0, 0, ⟨#[]⟩⟩⟩, code, stamp, inv, (IntKind.wrap .i64 (inv + (d375 e1 4).1)), -1⟩ : XDeed), e3), ?_, ?_, ?_, ?_, ?_⟩; (focus (first | (simp; done) | (simp [*]; done))); (focus (simp)); (focus (intro y hy; simp at hy)); (focus (simp only [XQuery.sm, XPred.sm_eq, XVal.sm, XPred.sms, bnil_size]; simp)); (focus (rfl))) | skip
      | false =>
        repeat' (first
          | with_reducible (first | refine wp_seq ?_ | refine wp_blk ?_ | refine wp_skip ?_ | refine wp_exit ?_ | refine wp_ret ?_ | refine seqQ_norm ?_ | refine seqQ_ret ?_ | refine seqQ_exit ?_ | refine blkQ_norm ?_ | refine blkQ_ret ?_ | refine blkQ_exit ?_ | refine loopQ_norm ?_ | refine loopQ_exit ?_ | refine loopQ_ret ?_ | refine endQ_ret ?_ | refine endQ_norm ?_ | refine endE_ret ?_ | refine endE_norm ?_ | refine endI_ret ?_ | refine endI_norm ?_)
          | (with_reducible refine wp_regK fun K hK => ?_
             simp[hop, hn, htask, hid, hcode, hstamp, hinv, hz1, hz2]
             repeat' (with_reducible first | refine hK _ ?_ | (refine psel ?_ ?_ <;> (intro hc; (try rw [Decidable.not_not] at hc); first | (exfalso; omega) | (try simp [hc, hop, hn, htask, hid, hcode, hstamp, hinv, hz1, hz2]))))
             all_goals (clear hK; clear K))
          | (with_reducible refine wp_condE ?_
             refine ⟨_, rfl, ?_, ?_⟩ <;> (intro hc; (try simp at hc); (all_goals first | (exfalso; omega) | skip))))
        all_goals first | (exfalso; omega) | (refine ⟨_, by simp [pf388]; rfl, ?_⟩; refine ⟨((⟨4, task, [], (IntKind.wrap .i64 (id - 1)), ⟨0, ⟨0, 0, 0, ⟨0, 0, ⟨#[]⟩⟩, []⟩, 0, []⟩, ⟨[], 0, false, ⟨0, 0, ⟨#[]⟩⟩⟩, code, stamp, inv, (IntKind.wrap .i64 (inv + (d375 e1 4).1)), (IntKind.wrap .i64 ((IntKind.wrap .i64 (inv + (d375 e1 4).1)) + (d375 e3 4).1))⟩ : XDeed), (d375 e3 4).2), ?_, ?_, ?_, ?_, ?_⟩; (focus (first | (simp; done) | (simp [*]; done))); (focus (simp)); (focus (intro y hy; simp at hy)); (focus (simp only [XQuery.sm, XPred.sm_eq, XVal.sm, XPred.sms, bnil_size]; simp)); (focus (rfl))) | skip

noncomputable def d388 (c : XCur)  : (XDeed) × XCur := Classical.choose (d388_ex c)

@[simp] theorem t388 (c : XCur)  : Gw TT 388 [.ptr [.ro false (.sl 1 (c.b.map eb)), .ro false (di (c.i : Nat)), .ro false (di c.h)]] = some (.st [.ro false (di (d388 c).1.Op), .ro false (di (d388 c).1.Task), .own (.sl 3 ((d388 c).1.R.map XVal.e)), .ro false (di (d388 c).1.Id), .ro false (di (d388 c).1.Q.Kind), .ro false (di (d388 c).1.Q.P.Kind), .ro false (di (d388 c).1.Q.P.Col), .ro false (di (d388 c).1.Q.P.Op), .ro false (di (d388 c).1.Q.P.V.Ty), .ro false (di (d388 c).1.Q.P.V.N), .ro false (.str (d388 c).1.Q.P.V.S), .own (.sl 7 ((d388 c).1.Q.P.L.map XPred.e)), .ro false (di (d388 c).1.Q.Col), .own (.sl 1 ((d388 c).1.Q.Out.map ei)), .own (.sl 2 []), .ro false (di (d388 c).1.Res.N), .ro false (.bool (d388 c).1.Res.Has), .ro false (di (d388 c).1.Res.V.Ty), .ro false (di (d388 c).1.Res.V.N), .ro false (.str (d388 c).1.Res.V.S), .ro false (di (d388 c).1.Code), .ro false (di (d388 c).1.Stamp), .ro false (di (d388 c).1.Inv), .ro false (di (d388 c).1.Lin), .ro false (di (d388 c).1.Ret)], [(0, 0, .ro false (.sl 1 ((d388 c).2.b.map eb))), (0, 1, .ro false (di ((d388 c).2.i : Nat))), (0, 2, .ro false (di (d388 c).2.h))]) := (Classical.choose_spec (d388_ex c)).1

theorem p388 (c : XCur)  : (d388 c).1.R.length ≤ 1000 ∧ XVal.sms (d388 c).1.R ∧ XQuery.sm (d388 c).1.Q ∧ (d388 c).1.Res = (⟨[], 0, false, ⟨0, 0, ⟨#[]⟩⟩⟩ : XResult) := (Classical.choose_spec (d388_ex c)).2

theorem d386_ex (c : XCur)  : ∃ r : (XDeed) × XCur, Gw TT 386 [.ptr [.ro false (.sl 1 (c.b.map eb)), .ro false (di (c.i : Nat)), .ro false (di c.h)]] = some (.st [.ro false (di r.1.Op), .ro false (di r.1.Task), .own (.sl 3 (r.1.R.map XVal.e)), .ro false (di r.1.Id), .ro false (di r.1.Q.Kind), .ro false (di r.1.Q.P.Kind), .ro false (di r.1.Q.P.Col), .ro false (di r.1.Q.P.Op), .ro false (di r.1.Q.P.V.Ty), .ro false (di r.1.Q.P.V.N), .ro false (.str r.1.Q.P.V.S), .own (.sl 7 (r.1.Q.P.L.map XPred.e)), .ro false (di r.1.Q.Col), .own (.sl 1 (r.1.Q.Out.map ei)), .own (.sl 2 []), .ro false (di r.1.Res.N), .ro false (.bool r.1.Res.Has), .ro false (di r.1.Res.V.Ty), .ro false (di r.1.Res.V.N), .ro false (.str r.1.Res.V.S), .ro false (di r.1.Code), .ro false (di r.1.Stamp), .ro false (di r.1.Inv), .ro false (di r.1.Lin), .ro false (di r.1.Ret)], [(0, 0, .ro false (.sl 1 (r.2.b.map eb))), (0, 1, .ro false (di (r.2.i : Nat))), (0, 2, .ro false (di r.2.h))]) ∧ (r.1.R.length ≤ 1000 ∧ XVal.sms r.1.R ∧ XQuery.sm r.1.Q ∧ r.1.Res = (⟨[], 0, false, ⟨0, 0, ⟨#[]⟩⟩⟩ : XResult)) := by
  suffices h0 : ∃ y, Gw TT 386 [.ptr [.ro false (.sl 1 (c.b.map eb)), .ro false (di (c.i : Nat)), .ro false (di c.h)]] = some y ∧ ∃ r : (XDeed) × XCur, y = (.st [.ro false (di r.1.Op), .ro false (di r.1.Task), .own (.sl 3 (r.1.R.map XVal.e)), .ro false (di r.1.Id), .ro false (di r.1.Q.Kind), .ro false (di r.1.Q.P.Kind), .ro false (di r.1.Q.P.Col), .ro false (di r.1.Q.P.Op), .ro false (di r.1.Q.P.V.Ty), .ro false (di r.1.Q.P.V.N), .ro false (.str r.1.Q.P.V.S), .own (.sl 7 (r.1.Q.P.L.map XPred.e)), .ro false (di r.1.Q.Col), .own (.sl 1 (r.1.Q.Out.map ei)), .own (.sl 2 []), .ro false (di r.1.Res.N), .ro false (.bool r.1.Res.Has), .ro false (di r.1.Res.V.Ty), .ro false (di r.1.Res.V.N), .ro false (.str r.1.Res.V.S), .ro false (di r.1.Code), .ro false (di r.1.Stamp), .ro false (di r.1.Inv), .ro false (di r.1.Lin), .ro false (di r.1.Ret)], [(0, 0, .ro false (.sl 1 (r.2.b.map eb))), (0, 1, .ro false (di (r.2.i : Nat))), (0, 2, .ro false (di r.2.h))]) ∧ (r.1.R.length ≤ 1000 ∧ XVal.sms r.1.R ∧ XQuery.sm r.1.Q ∧ r.1.Res = (⟨[], 0, false, ⟨0, 0, ⟨#[]⟩⟩⟩ : XResult)) by
    obtain ⟨y, h1, r, rfl, h2⟩ := h0
    exact ⟨r, h1, h2⟩
  refine Gw_ofE (F := pf386) rfl rfl ?_
  show Wp _ pb386 _ _
  unfold pb386
  have mt := p388 c
  obtain ⟨⟨y, c1⟩, hy⟩ : ∃ r, d388 c = r := ⟨_, rfl⟩
  rw [hy] at mt
  simp only at mt
  obtain ⟨m1, m2, m3, m4⟩ := mt
  obtain ⟨⟨n, c2⟩, hn⟩ : ∃ r, d375 c1 14 = r := ⟨_, rfl⟩
  obtain ⟨r, gr⟩ : ∃ r : Int × XCur, Gw TT 378 [.ptr [.ro false (.sl 1 (c2.b.map eb)), .ro false (di (c2.i : Nat)), .ro false (di c2.h)], .one (.ro true (.sl 1 [[di 0], [di 5], [di (-1)]]))] = some (vi r.1, [(0, 0, .ro false (.sl 1 (r.2.b.map eb))), (0, 1, .ro false (di (r.2.i : Nat))), (0, 2, .ro false (di r.2.h))]) := ⟨_, t378 c2 true [[di 0], [di 5], [di (-1)]] (by simp) (by simp) (by simp)⟩
  obtain ⟨s, gs⟩ : ∃ r : Int × XCur, Gw TT 378 [.ptr [.ro false (.sl 1 (c2.b.map eb)), .ro false (di (c2.i : Nat)), .ro false (di c2.h)], .one (.ro true (.sl 1 [[di (-1)], [di 5]]))] = some (vi r.1, [(0, 0, .ro false (.sl 1 (r.2.b.map eb))), (0, 1, .ro false (di (r.2.i : Nat))), (0, 2, .ro false (di r.2.h))]) := ⟨_, t378 c2 true [[di (-1)], [di 5]] (by simp) (by simp) (by simp)⟩
  obtain ⟨u, gu⟩ : ∃ r : Int × XCur, Gw TT 378 [.ptr [.ro false (.sl 1 (c2.b.map eb)), .ro false (di (c2.i : Nat)), .ro false (di c2.h)], .one (.ro true (.sl 1 [[di (-1)], [di 6]]))] = some (vi r.1, [(0, 0, .ro false (.sl 1 (r.2.b.map eb))), (0, 1, .ro false (di (r.2.i : Nat))), (0, 2, .ro false (di r.2.h))]) := ⟨_, t378 c2 true [[di (-1)], [di 6]] (by simp) (by simp) (by simp)⟩
  obtain ⟨v, gv⟩ : ∃ r : Int × XCur, Gw TT 378 [.ptr [.ro false (.sl 1 (c2.b.map eb)), .ro false (di (c2.i : Nat)), .ro false (di c2.h)], .one (.ro true (.sl 1 [[di (-1)], [di 0], [di (-2)]]))] = some (vi r.1, [(0, 0, .ro false (.sl 1 (r.2.b.map eb))), (0, 1, .ro false (di (r.2.i : Nat))), (0, 2, .ro false (di r.2.h))]) := ⟨_, t378 c2 true [[di (-1)], [di 0], [di (-2)]] (by simp) (by simp) (by simp)⟩
  by_cases z0 : n = 0
  · skip
    repeat' (first
      | with_reducible (first | refine wp_seq ?_ | refine wp_blk ?_ | refine wp_skip ?_ | refine wp_exit ?_ | refine wp_ret ?_ | refine seqQ_norm ?_ | refine seqQ_ret ?_ | refine seqQ_exit ?_ | refine blkQ_norm ?_ | refine blkQ_ret ?_ | refine blkQ_exit ?_ | refine loopQ_norm ?_ | refine loopQ_exit ?_ | refine loopQ_ret ?_ | refine endQ_ret ?_ | refine endQ_norm ?_ | refine endE_ret ?_ | refine endE_norm ?_ | refine endI_ret ?_ | refine endI_norm ?_)
      | (with_reducible refine wp_regK fun K hK => ?_
         simp[hy, hn, gr, z0]
         repeat' (with_reducible first | refine hK _ ?_ | (refine psel ?_ ?_ <;> (intro hc; (try rw [Decidable.not_not] at hc); first | (exfalso; omega) | (try simp [hc, hy, hn, gr, z0]))))
         all_goals (clear hK; clear K))
      | (with_reducible refine wp_condE ?_
         refine ⟨_, rfl, ?_, ?_⟩ <;> (intro hc; (try simp at hc); (all_goals first | (exfalso; omega) | skip))))
    all_goals first | (exfalso; omega) | (refine ⟨_, by simp [pf386]; rfl, ?_⟩; refine ⟨((⟨r.1, y.Task, y.R, y.Id, y.Q, y.Res, y.Code, y.Stamp, y.Inv, y.Lin, y.Ret⟩ : XDeed), r.2), ?_, ?_, ?_, ?_, ?_⟩; (focus (first | (simp; done) | (simp [*]; done))); (focus (exact m1)); (focus (exact m2)); (focus (exact m3)); (focus (exact m4))) | skip
  by_cases z1 : n = 1
  · skip
    repeat' (first
      | with_reducible (first | refine wp_seq ?_ | refine wp_blk ?_ | refine wp_skip ?_ | refine wp_exit ?_ | refine wp_ret ?_ | refine seqQ_norm ?_ | refine seqQ_ret ?_ | refine seqQ_exit ?_ | refine blkQ_norm ?_ | refine blkQ_ret ?_ | refine blkQ_exit ?_ | refine loopQ_norm ?_ | refine loopQ_exit ?_ | refine loopQ_ret ?_ | refine endQ_ret ?_ | refine endQ_norm ?_ | refine endE_ret ?_ | refine endE_norm ?_ | refine endI_ret ?_ | refine endI_norm ?_)
      | (with_reducible refine wp_regK fun K hK => ?_
         simp[hy, hn, gs, z1]
         repeat' (with_reducible first | refine hK _ ?_ | (refine psel ?_ ?_ <;> (intro hc; (try rw [Decidable.not_not] at hc); first | (exfalso; omega) | (try simp [hc, hy, hn, gs, z1]))))
         all_goals (clear hK; clear K))
      | (with_reducible refine wp_condE ?_
         refine ⟨_, rfl, ?_, ?_⟩ <;> (intro hc; (try simp at hc); (all_goals first | (exfalso; omega) | skip))))
    all_goals first | (exfalso; omega) | (refine ⟨_, by simp [pf386]; rfl, ?_⟩; refine ⟨((⟨y.Op, s.1, y.R, y.Id, y.Q, y.Res, y.Code, y.Stamp, y.Inv, y.Lin, y.Ret⟩ : XDeed), s.2), ?_, ?_, ?_, ?_, ?_⟩; (focus (first | (simp; done) | (simp [*]; done))); (focus (exact m1)); (focus (exact m2)); (focus (exact m3)); (focus (exact m4))) | skip
  by_cases z2 : n = 2
  · skip
    repeat' (first
      | with_reducible (first | refine wp_seq ?_ | refine wp_blk ?_ | refine wp_skip ?_ | refine wp_exit ?_ | refine wp_ret ?_ | refine seqQ_norm ?_ | refine seqQ_ret ?_ | refine seqQ_exit ?_ | refine blkQ_norm ?_ | refine blkQ_ret ?_ | refine blkQ_exit ?_ | refine loopQ_norm ?_ | refine loopQ_exit ?_ | refine loopQ_ret ?_ | refine endQ_ret ?_ | refine endQ_norm ?_ | refine endE_ret ?_ | refine endE_norm ?_ | refine endI_ret ?_ | refine endI_norm ?_)
      | (with_reducible refine wp_regK fun K hK => ?_
         simp[hy, hn, gu, z2]
         repeat' (with_reducible first | refine hK _ ?_ | (refine psel ?_ ?_ <;> (intro hc; (try rw [Decidable.not_not] at hc); first | (exfalso; omega) | (try simp [hc, hy, hn, gu, z2]))))
         all_goals (clear hK; clear K))
      | (with_reducible refine wp_condE ?_
         refine ⟨_, rfl, ?_, ?_⟩ <;> (intro hc; (try simp at hc); (all_goals first | (exfalso; omega) | skip))))
    all_goals first | (exfalso; omega) | (refine ⟨_, by simp [pf386]; rfl, ?_⟩; refine ⟨((⟨y.Op, y.Task, y.R, y.Id, y.Q, y.Res, u.1, y.Stamp, y.Inv, y.Lin, y.Ret⟩ : XDeed), u.2), ?_, ?_, ?_, ?_, ?_⟩; (focus (first | (simp; done) | (simp [*]; done))); (focus (exact m1)); (focus (exact m2)); (focus (exact m3)); (focus (exact m4))) | skip
  by_cases z3 : n = 3
  · skip
    repeat' (first
      | with_reducible (first | refine wp_seq ?_ | refine wp_blk ?_ | refine wp_skip ?_ | refine wp_exit ?_ | refine wp_ret ?_ | refine seqQ_norm ?_ | refine seqQ_ret ?_ | refine seqQ_exit ?_ | refine blkQ_norm ?_ | refine blkQ_ret ?_ | refine blkQ_exit ?_ | refine loopQ_norm ?_ | refine loopQ_exit ?_ | refine loopQ_ret ?_ | refine endQ_ret ?_ | refine endQ_norm ?_ | refine endE_ret ?_ | refine endE_norm ?_ | refine endI_ret ?_ | refine endI_norm ?_)
      | (with_reducible refine wp_regK fun K hK => ?_
         simp[hy, hn, gv, z3]
         repeat' (with_reducible first | refine hK _ ?_ | (refine psel ?_ ?_ <;> (intro hc; (try rw [Decidable.not_not] at hc); first | (exfalso; omega) | (try simp [hc, hy, hn, gv, z3]))))
         all_goals (clear hK; clear K))
      | (with_reducible refine wp_condE ?_
         refine ⟨_, rfl, ?_, ?_⟩ <;> (intro hc; (try simp at hc); (all_goals first | (exfalso; omega) | skip))))
    all_goals first | (exfalso; omega) | (refine ⟨_, by simp [pf386]; rfl, ?_⟩; refine ⟨((⟨y.Op, y.Task, y.R, y.Id, y.Q, y.Res, y.Code, y.Stamp, y.Inv, v.1, y.Ret⟩ : XDeed), v.2), ?_, ?_, ?_, ?_, ?_⟩; (focus (first | (simp; done) | (simp [*]; done))); (focus (exact m1)); (focus (exact m2)); (focus (exact m3)); (focus (exact m4))) | skip
  by_cases z4 : n = 4
  · skip
    repeat' (first
      | with_reducible (first | refine wp_seq ?_ | refine wp_blk ?_ | refine wp_skip ?_ | refine wp_exit ?_ | refine wp_ret ?_ | refine seqQ_norm ?_ | refine seqQ_ret ?_ | refine seqQ_exit ?_ | refine blkQ_norm ?_ | refine blkQ_ret ?_ | refine blkQ_exit ?_ | refine loopQ_norm ?_ | refine loopQ_exit ?_ | refine loopQ_ret ?_ | refine endQ_ret ?_ | refine endQ_norm ?_ | refine endE_ret ?_ | refine endE_norm ?_ | refine endI_ret ?_ | refine endI_norm ?_)
      | (with_reducible refine wp_regK fun K hK => ?_
         simp[hy, hn, gv, z4]
         repeat' (with_reducible first | refine hK _ ?_ | (refine psel ?_ ?_ <;> (intro hc; (try rw [Decidable.not_not] at hc); first | (exfalso; omega) | (try simp [hc, hy, hn, gv, z4]))))
         all_goals (clear hK; clear K))
      | (with_reducible refine wp_condE ?_
         refine ⟨_, rfl, ?_, ?_⟩ <;> (intro hc; (try simp at hc); (all_goals first | (exfalso; omega) | skip))))
    all_goals first | (exfalso; omega) | (refine ⟨_, by simp [pf386]; rfl, ?_⟩; refine ⟨((⟨y.Op, y.Task, y.R, y.Id, y.Q, y.Res, y.Code, y.Stamp, y.Inv, y.Lin, v.1⟩ : XDeed), v.2), ?_, ?_, ?_, ?_, ?_⟩; (focus (first | (simp; done) | (simp [*]; done))); (focus (exact m1)); (focus (exact m2)); (focus (exact m3)); (focus (exact m4))) | skip
  by_cases z5 : n = 5
  · skip
    repeat' (first
      | with_reducible (first | refine wp_seq ?_ | refine wp_blk ?_ | refine wp_skip ?_ | refine wp_exit ?_ | refine wp_ret ?_ | refine seqQ_norm ?_ | refine seqQ_ret ?_ | refine seqQ_exit ?_ | refine blkQ_norm ?_ | refine blkQ_ret ?_ | refine blkQ_exit ?_ | refine loopQ_norm ?_ | refine loopQ_exit ?_ | refine loopQ_ret ?_ | refine endQ_ret ?_ | refine endQ_norm ?_ | refine endE_ret ?_ | refine endE_norm ?_ | refine endI_ret ?_ | refine endI_norm ?_)
      | (with_reducible refine wp_regK fun K hK => ?_
         simp[hy, hn, z5]
         repeat' (with_reducible first | refine hK _ ?_ | (refine psel ?_ ?_ <;> (intro hc; (try rw [Decidable.not_not] at hc); first | (exfalso; omega) | (try simp [hc, hy, hn, z5]))))
         all_goals (clear hK; clear K))
      | (with_reducible refine wp_condE ?_
         refine ⟨_, rfl, ?_, ?_⟩ <;> (intro hc; (try simp at hc); (all_goals first | (exfalso; omega) | skip))))
    all_goals first | (exfalso; omega) | (refine ⟨_, by simp [pf386]; rfl, ?_⟩; refine ⟨((⟨y.Op, y.Task, y.R, -2, y.Q, y.Res, y.Code, y.Stamp, y.Inv, y.Lin, y.Ret⟩ : XDeed), c2), ?_, ?_, ?_, ?_, ?_⟩; (focus (first | (simp; done) | (simp [*]; done))); (focus (exact m1)); (focus (exact m2)); (focus (exact m3)); (focus (exact m4))) | skip
  skip
  repeat' (first
    | with_reducible (first | refine wp_seq ?_ | refine wp_blk ?_ | refine wp_skip ?_ | refine wp_exit ?_ | refine wp_ret ?_ | refine seqQ_norm ?_ | refine seqQ_ret ?_ | refine seqQ_exit ?_ | refine blkQ_norm ?_ | refine blkQ_ret ?_ | refine blkQ_exit ?_ | refine loopQ_norm ?_ | refine loopQ_exit ?_ | refine loopQ_ret ?_ | refine endQ_ret ?_ | refine endQ_norm ?_ | refine endE_ret ?_ | refine endE_norm ?_ | refine endI_ret ?_ | refine endI_norm ?_)
    | (with_reducible refine wp_regK fun K hK => ?_
       simp[hy, hn, z0, z1, z2, z3, z4, z5]
       repeat' (with_reducible first | refine hK _ ?_ | (refine psel ?_ ?_ <;> (intro hc; (try rw [Decidable.not_not] at hc); first | (exfalso; omega) | (try simp [hc, hy, hn, z0, z1, z2, z3, z4, z5]))))
       all_goals (clear hK; clear K))
    | (with_reducible refine wp_condE ?_
       refine ⟨_, rfl, ?_, ?_⟩ <;> (intro hc; (try simp at hc); (all_goals first | (exfalso; omega) | skip))))
  all_goals first | (exfalso; omega) | (refine ⟨_, by simp [pf386]; rfl, ?_⟩; refine ⟨(y, c2), ?_, ?_, ?_, ?_, ?_⟩; (focus (first | (simp; done) | (simp [*]; done))); (focus (exact m1)); (focus (exact m2)); (focus (exact m3)); (focus (exact m4))) | skip

noncomputable def d386 (c : XCur)  : (XDeed) × XCur := Classical.choose (d386_ex c)

@[simp] theorem t386 (c : XCur)  : Gw TT 386 [.ptr [.ro false (.sl 1 (c.b.map eb)), .ro false (di (c.i : Nat)), .ro false (di c.h)]] = some (.st [.ro false (di (d386 c).1.Op), .ro false (di (d386 c).1.Task), .own (.sl 3 ((d386 c).1.R.map XVal.e)), .ro false (di (d386 c).1.Id), .ro false (di (d386 c).1.Q.Kind), .ro false (di (d386 c).1.Q.P.Kind), .ro false (di (d386 c).1.Q.P.Col), .ro false (di (d386 c).1.Q.P.Op), .ro false (di (d386 c).1.Q.P.V.Ty), .ro false (di (d386 c).1.Q.P.V.N), .ro false (.str (d386 c).1.Q.P.V.S), .own (.sl 7 ((d386 c).1.Q.P.L.map XPred.e)), .ro false (di (d386 c).1.Q.Col), .own (.sl 1 ((d386 c).1.Q.Out.map ei)), .own (.sl 2 []), .ro false (di (d386 c).1.Res.N), .ro false (.bool (d386 c).1.Res.Has), .ro false (di (d386 c).1.Res.V.Ty), .ro false (di (d386 c).1.Res.V.N), .ro false (.str (d386 c).1.Res.V.S), .ro false (di (d386 c).1.Code), .ro false (di (d386 c).1.Stamp), .ro false (di (d386 c).1.Inv), .ro false (di (d386 c).1.Lin), .ro false (di (d386 c).1.Ret)], [(0, 0, .ro false (.sl 1 ((d386 c).2.b.map eb))), (0, 1, .ro false (di ((d386 c).2.i : Nat))), (0, 2, .ro false (di (d386 c).2.h))]) := (Classical.choose_spec (d386_ex c)).1

theorem p386 (c : XCur)  : (d386 c).1.R.length ≤ 1000 ∧ XVal.sms (d386 c).1.R ∧ XQuery.sm (d386 c).1.Q ∧ (d386 c).1.Res = (⟨[], 0, false, ⟨0, 0, ⟨#[]⟩⟩⟩ : XResult) := (Classical.choose_spec (d386_ex c)).2

def DrawnD (l : List XDeed) : Prop := ∀ y ∈ l, y.R.length ≤ 1000 ∧ XVal.sms y.R ∧ XQuery.sm y.Q ∧ y.Res = (⟨[], 0, false, ⟨0, 0, ⟨#[]⟩⟩⟩ : XResult)

theorem DrawnD_app {l : List XDeed} {y : XDeed} (h : DrawnD l) (hy : y.R.length ≤ 1000 ∧ XVal.sms y.R ∧ XQuery.sm y.Q ∧ y.Res = (⟨[], 0, false, ⟨0, 0, ⟨#[]⟩⟩⟩ : XResult)) : DrawnD (l ++ [y]) := by
  intro z hz
  rcases List.mem_append.1 hz with hz | hz
  · exact h z hz
  · rw [List.mem_singleton.1 hz]; exact hy

theorem d389_ex (c : XCur)  : ∃ r : (List XDeed) × XCur, Gw TT 389 [.ptr [.ro false (.sl 1 (c.b.map eb)), .ro false (di (c.i : Nat)), .ro false (di c.h)]] = some (.one (.own (.sl 25 (r.1.map XDeed.e))), [(0, 0, .ro false (.sl 1 (r.2.b.map eb))), (0, 1, .ro false (di (r.2.i : Nat))), (0, 2, .ro false (di r.2.h))]) ∧ (r.1.length ≤ 5 ∧ DrawnD r.1) := by
  suffices h0 : ∃ y, Gw TT 389 [.ptr [.ro false (.sl 1 (c.b.map eb)), .ro false (di (c.i : Nat)), .ro false (di c.h)]] = some y ∧ ∃ r : (List XDeed) × XCur, y = (.one (.own (.sl 25 (r.1.map XDeed.e))), [(0, 0, .ro false (.sl 1 (r.2.b.map eb))), (0, 1, .ro false (di (r.2.i : Nat))), (0, 2, .ro false (di r.2.h))]) ∧ (r.1.length ≤ 5 ∧ DrawnD r.1) by
    obtain ⟨y, h1, r, rfl, h2⟩ := h0
    exact ⟨r, h1, h2⟩
  refine Gw_ofE (F := pf389) rfl rfl ?_
  show Wp _ pb389 _ _
  unfold pb389
  have q := p375 c 6
  have q2 := q.2.1 (by omega)
  have qn : ((d375 c 6).1.toNat : Int) = (d375 c 6).1 := Int.toNat_of_nonneg q.1
  repeat' (first
    | with_reducible (first | refine wp_seq ?_ | refine wp_blk ?_ | refine wp_skip ?_ | refine wp_exit ?_ | refine wp_ret ?_ | refine seqQ_norm ?_ | refine seqQ_ret ?_ | refine seqQ_exit ?_ | refine blkQ_norm ?_ | refine blkQ_ret ?_ | refine blkQ_exit ?_ | refine loopQ_norm ?_ | refine loopQ_exit ?_ | refine loopQ_ret ?_ | refine endQ_ret ?_ | refine endQ_norm ?_ | refine endE_ret ?_ | refine endE_norm ?_ | refine endI_ret ?_ | refine endI_norm ?_)
    | (with_reducible refine wp_regK fun K hK => ?_
       simp
       repeat' (with_reducible first | refine hK _ ?_ | (refine psel ?_ ?_ <;> (intro hc; (try rw [Decidable.not_not] at hc); first | (exfalso; omega) | (try simp [hc]))))
       all_goals (clear hK; clear K))
    | (with_reducible refine wp_condE ?_
       refine ⟨_, rfl, ?_, ?_⟩ <;> (intro hc; (try simp at hc); (all_goals first | (exfalso; omega) | skip))))
  refine wp_loopI (σ := Nat × List XDeed × XCur) (fun s => [(0, AV.bx 0 0, some (Rt.bx [.ro false (.sl 1 (s.2.2.b.map eb)), .ro false (di (s.2.2.i : Nat)), .ro false (di s.2.2.h)])), (3, AV.pl 3 0 [], some (Rt.vir [C.own (D.sl 25 ((s.2.1).map XDeed.e))])), (4, AV.v false (di ((s.1 : Nat) : Int)), none)]) (fun s => s.1 + s.2.1.length ≤ 5 ∧ DrawnD s.2.1) (fun s => s.1) ((d375 c 6).1.toNat, [], (d375 c 6).2) (by simp [qn]) ⟨by simp only [List.length_nil]; omega, fun y hy => by simp at hy⟩ ?_
  rintro ⟨i, l, c1⟩ ⟨g1, g2⟩
  simp only at g1 g2
  unfold pl389_0
  rcases i with _ | i
  · repeat' (first
      | with_reducible (first | refine wp_seq ?_ | refine wp_blk ?_ | refine wp_skip ?_ | refine wp_exit ?_ | refine wp_ret ?_ | refine seqQ_norm ?_ | refine seqQ_ret ?_ | refine seqQ_exit ?_ | refine blkQ_norm ?_ | refine blkQ_ret ?_ | refine blkQ_exit ?_ | refine loopQ_norm ?_ | refine loopQ_exit ?_ | refine loopQ_ret ?_ | refine endQ_ret ?_ | refine endQ_norm ?_ | refine endE_ret ?_ | refine endE_norm ?_ | refine endI_ret ?_ | refine endI_norm ?_)
      | (with_reducible refine wp_regK fun K hK => ?_
         simp
         repeat' (with_reducible first | refine hK _ ?_ | (refine psel ?_ ?_ <;> (intro hc; (try rw [Decidable.not_not] at hc); first | (exfalso; omega) | (try simp [hc]))))
         all_goals (clear hK; clear K))
      | (with_reducible refine wp_condE ?_
         refine ⟨_, rfl, ?_, ?_⟩ <;> (intro hc; (try simp at hc); (all_goals first | (exfalso; omega) | skip))))
    all_goals first | (exfalso; omega) | (refine ⟨_, by simp [pf389]; rfl, ?_⟩; refine ⟨(l, c1), ?_, ?_, ?_⟩; (focus (first | (simp; done) | (simp [*]; done))); (focus (simp only; omega)); (focus (exact g2))) | skip
  · have hwi : IntKind.wrap .i64 (i : Int) = (i : Int) := wrap_i64 (by omega) (by omega)
    have hq : (l.length + 1) * 280 ≤ 70368744177664 := by omega
    have mt := p388 c1
    obtain ⟨⟨y, c2⟩, hy⟩ : ∃ r, d388 c1 = r := ⟨_, rfl⟩
    rw [hy] at mt
    simp only at mt
    have m4 := mt.2.2.2
    repeat' (first
      | with_reducible (first | refine wp_seq ?_ | refine wp_blk ?_ | refine wp_skip ?_ | refine wp_exit ?_ | refine wp_ret ?_ | refine seqQ_norm ?_ | refine seqQ_ret ?_ | refine seqQ_exit ?_ | refine blkQ_norm ?_ | refine blkQ_ret ?_ | refine blkQ_exit ?_ | refine loopQ_norm ?_ | refine loopQ_exit ?_ | refine loopQ_ret ?_ | refine endQ_ret ?_ | refine endQ_norm ?_ | refine endE_ret ?_ | refine endE_norm ?_ | refine endI_ret ?_ | refine endI_norm ?_)
      | (with_reducible refine wp_regK fun K hK => ?_
         simp[hwi, hq, hy]
         repeat' (with_reducible first | refine hK _ ?_ | (refine psel ?_ ?_ <;> (intro hc; (try rw [Decidable.not_not] at hc); first | (exfalso; omega) | (try simp [hc, hwi, hq, hy]))))
         all_goals (clear hK; clear K))
      | (with_reducible refine wp_condE ?_
         refine ⟨_, rfl, ?_, ?_⟩ <;> (intro hc; (try simp at hc); (all_goals first | (exfalso; omega) | skip))))
    all_goals first | (exfalso; omega) | (refine ⟨(i, l ++ [y], c2), ?_, ⟨?_, ?_⟩, ?_⟩; (focus (simp [hwi, m4]; done)); (focus (simp only [List.length_append, List.length_cons, List.length_nil]; omega)); (focus (exact DrawnD_app g2 mt)); (focus (simp; done))) | skip

noncomputable def d389 (c : XCur)  : (List XDeed) × XCur := Classical.choose (d389_ex c)

@[simp] theorem t389 (c : XCur)  : Gw TT 389 [.ptr [.ro false (.sl 1 (c.b.map eb)), .ro false (di (c.i : Nat)), .ro false (di c.h)]] = some (.one (.own (.sl 25 ((d389 c).1.map XDeed.e))), [(0, 0, .ro false (.sl 1 ((d389 c).2.b.map eb))), (0, 1, .ro false (di ((d389 c).2.i : Nat))), (0, 2, .ro false (di (d389 c).2.h))]) := (Classical.choose_spec (d389_ex c)).1

theorem p389 (c : XCur)  : (d389 c).1.length ≤ 5 ∧ DrawnD (d389 c).1 := (Classical.choose_spec (d389_ex c)).2

theorem e282_ex (b : List Int) (hb : b.length ≤ 1048576) : ∃ r : List XDeed, Gw TT 282 [.one (.ro false (.sl 1 (b.map eb)))] = some (.one (.own (.sl 25 (r.map XDeed.e))), []) ∧ (r.length ≤ 5 ∧ DrawnD r) := by
  suffices h0 : ∃ y, Gw TT 282 [.one (.ro false (.sl 1 (b.map eb)))] = some y ∧ ∃ r : List XDeed, y = (.one (.own (.sl 25 (r.map XDeed.e))), []) ∧ (r.length ≤ 5 ∧ DrawnD r) by
    obtain ⟨y, h1, r, rfl, h2⟩ := h0
    exact ⟨r, h1, h2⟩
  refine Gw_ofE (F := pf282) rfl rfl ?_
  show Wp _ pb282 _ _
  unfold pb282
  have ma := p389 (newC b hb)
  obtain ⟨⟨l, c1⟩, hl⟩ : ∃ r, d389 (newC b hb) = r := ⟨_, rfl⟩
  rw [hl] at ma
  simp only at ma
  repeat' (first
    | with_reducible (first | refine wp_seq ?_ | refine wp_blk ?_ | refine wp_skip ?_ | refine wp_exit ?_ | refine wp_ret ?_ | refine seqQ_norm ?_ | refine seqQ_ret ?_ | refine seqQ_exit ?_ | refine blkQ_norm ?_ | refine blkQ_ret ?_ | refine blkQ_exit ?_ | refine loopQ_norm ?_ | refine loopQ_exit ?_ | refine loopQ_ret ?_ | refine endQ_ret ?_ | refine endQ_norm ?_ | refine endE_ret ?_ | refine endE_norm ?_ | refine endI_ret ?_ | refine endI_norm ?_)
    | (with_reducible refine wp_regK fun K hK => ?_
       simp[hb, hl]
       repeat' (with_reducible first | refine hK _ ?_ | (refine psel ?_ ?_ <;> (intro hc; (try rw [Decidable.not_not] at hc); first | (exfalso; omega) | (try simp [hc, hb, hl]))))
       all_goals (clear hK; clear K))
    | (with_reducible refine wp_condE ?_
       refine ⟨_, rfl, ?_, ?_⟩ <;> (intro hc; (try simp at hc); (all_goals first | (exfalso; omega) | skip))))
  all_goals first | (exfalso; omega) | (refine ⟨_, by simp [pf282]; rfl, ?_⟩; refine ⟨l, ?_, ?_, ?_⟩; (focus (first | (simp; done) | (simp [*]; done))); (focus (exact ma.1)); (focus (exact ma.2))) | skip

theorem e284_ex (b : List Int) (hb : b.length ≤ 1048576) : ∃ r : List XDeed × Int, Gw TT 284 [.one (.ro false (.sl 1 (b.map eb)))] = some (.tup [.one (.own (.sl 25 (r.1.map XDeed.e))), vi r.2], []) ∧ (r.1.length ≤ 5 ∧ DrawnD r.1) := by
  suffices h0 : ∃ y, Gw TT 284 [.one (.ro false (.sl 1 (b.map eb)))] = some y ∧ ∃ r : List XDeed × Int, y = (.tup [.one (.own (.sl 25 (r.1.map XDeed.e))), vi r.2], []) ∧ (r.1.length ≤ 5 ∧ DrawnD r.1) by
    obtain ⟨y, h1, r, rfl, h2⟩ := h0
    exact ⟨r, h1, h2⟩
  refine Gw_ofE (F := pf284) rfl rfl ?_
  show Wp _ pb284 _ _
  unfold pb284
  have ma := p389 (newC b hb)
  obtain ⟨⟨l, c1⟩, hl⟩ : ∃ r, d389 (newC b hb) = r := ⟨_, rfl⟩
  rw [hl] at ma
  simp only at ma
  repeat' (first
    | with_reducible (first | refine wp_seq ?_ | refine wp_blk ?_ | refine wp_skip ?_ | refine wp_exit ?_ | refine wp_ret ?_ | refine seqQ_norm ?_ | refine seqQ_ret ?_ | refine seqQ_exit ?_ | refine blkQ_norm ?_ | refine blkQ_ret ?_ | refine blkQ_exit ?_ | refine loopQ_norm ?_ | refine loopQ_exit ?_ | refine loopQ_ret ?_ | refine endQ_ret ?_ | refine endQ_norm ?_ | refine endE_ret ?_ | refine endE_norm ?_ | refine endI_ret ?_ | refine endI_norm ?_)
    | (with_reducible refine wp_regK fun K hK => ?_
       simp[hb, hl]
       repeat' (with_reducible first | refine hK _ ?_ | (refine psel ?_ ?_ <;> (intro hc; (try rw [Decidable.not_not] at hc); first | (exfalso; omega) | (try simp [hc, hb, hl]))))
       all_goals (clear hK; clear K))
    | (with_reducible refine wp_condE ?_
       refine ⟨_, rfl, ?_, ?_⟩ <;> (intro hc; (try simp at hc); (all_goals first | (exfalso; omega) | skip))))
  all_goals first | (exfalso; omega) | (refine ⟨_, by simp [pf284]; rfl, ?_⟩; refine ⟨(l, IntKind.wrap .i64 ((d375 c1 5).1 - 1)), ?_, ?_, ?_⟩; (focus (first | (simp; done) | (simp [*]; done))); (focus (exact ma.1)); (focus (exact ma.2))) | skip

theorem e276_ex (b : List Int) (hb : b.length ≤ 1048576) : ∃ r : Int, Gw TT 276 [.one (.ro false (.sl 1 (b.map eb)))] = some (vi r, []) ∧ (True) := by
  suffices h0 : ∃ y, Gw TT 276 [.one (.ro false (.sl 1 (b.map eb)))] = some y ∧ ∃ r : Int, y = (vi r, []) ∧ (True) by
    obtain ⟨y, h1, r, rfl, h2⟩ := h0
    exact ⟨r, h1, h2⟩
  refine Gw_ofE (F := pf276) rfl rfl ?_
  show Wp _ pb276 _ _
  unfold pb276
  repeat' (first
    | with_reducible (first | refine wp_seq ?_ | refine wp_blk ?_ | refine wp_skip ?_ | refine wp_exit ?_ | refine wp_ret ?_ | refine seqQ_norm ?_ | refine seqQ_ret ?_ | refine seqQ_exit ?_ | refine blkQ_norm ?_ | refine blkQ_ret ?_ | refine blkQ_exit ?_ | refine loopQ_norm ?_ | refine loopQ_exit ?_ | refine loopQ_ret ?_ | refine endQ_ret ?_ | refine endQ_norm ?_ | refine endE_ret ?_ | refine endE_norm ?_ | refine endI_ret ?_ | refine endI_norm ?_)
    | (with_reducible refine wp_regK fun K hK => ?_
       simp[hb]
       repeat' (with_reducible first | refine hK _ ?_ | (refine psel ?_ ?_ <;> (intro hc; (try rw [Decidable.not_not] at hc); first | (exfalso; omega) | (try simp [hc, hb]))))
       all_goals (clear hK; clear K))
    | (with_reducible refine wp_condE ?_
       refine ⟨_, rfl, ?_, ?_⟩ <;> (intro hc; (try simp at hc); (all_goals first | (exfalso; omega) | skip))))
  all_goals first | (exfalso; omega) | (refine ⟨_, by simp [pf276]; rfl, ?_⟩; exact ⟨_, rfl, trivial⟩) | skip

theorem e273_ex (b : List Int) (hb : b.length ≤ 1048576) : ∃ r : XDeed × XDeed, Gw TT 273 [.one (.ro false (.sl 1 (b.map eb)))] = some (.tup [.st [.ro false (di r.1.Op), .ro false (di r.1.Task), .own (.sl 3 (r.1.R.map XVal.e)), .ro false (di r.1.Id), .ro false (di r.1.Q.Kind), .ro false (di r.1.Q.P.Kind), .ro false (di r.1.Q.P.Col), .ro false (di r.1.Q.P.Op), .ro false (di r.1.Q.P.V.Ty), .ro false (di r.1.Q.P.V.N), .ro false (.str r.1.Q.P.V.S), .own (.sl 7 (r.1.Q.P.L.map XPred.e)), .ro false (di r.1.Q.Col), .own (.sl 1 (r.1.Q.Out.map ei)), .own (.sl 2 (r.1.Res.Rows.map XRow.e)), .ro false (di r.1.Res.N), .ro false (.bool r.1.Res.Has), .ro false (di r.1.Res.V.Ty), .ro false (di r.1.Res.V.N), .ro false (.str r.1.Res.V.S), .ro false (di r.1.Code), .ro false (di r.1.Stamp), .ro false (di r.1.Inv), .ro false (di r.1.Lin), .ro false (di r.1.Ret)], .st [.ro false (di r.2.Op), .ro false (di r.2.Task), .own (.sl 3 (r.2.R.map XVal.e)), .ro false (di r.2.Id), .ro false (di r.2.Q.Kind), .ro false (di r.2.Q.P.Kind), .ro false (di r.2.Q.P.Col), .ro false (di r.2.Q.P.Op), .ro false (di r.2.Q.P.V.Ty), .ro false (di r.2.Q.P.V.N), .ro false (.str r.2.Q.P.V.S), .own (.sl 7 (r.2.Q.P.L.map XPred.e)), .ro false (di r.2.Q.Col), .own (.sl 1 (r.2.Q.Out.map ei)), .own (.sl 2 (r.2.Res.Rows.map XRow.e)), .ro false (di r.2.Res.N), .ro false (.bool r.2.Res.Has), .ro false (di r.2.Res.V.Ty), .ro false (di r.2.Res.V.N), .ro false (.str r.2.Res.V.S), .ro false (di r.2.Code), .ro false (di r.2.Stamp), .ro false (di r.2.Inv), .ro false (di r.2.Lin), .ro false (di r.2.Ret)]], []) ∧ (r.1.R.length ≤ 1000 ∧ XVal.sms r.1.R ∧ XQuery.sm r.1.Q ∧ r.1.Res = (⟨[], 0, false, ⟨0, 0, ⟨#[]⟩⟩⟩ : XResult) ∧ r.2.R.length ≤ 1000 ∧ XVal.sms r.2.R ∧ XQuery.sm r.2.Q ∧ r.2.Res = (⟨[], 0, false, ⟨0, 0, ⟨#[]⟩⟩⟩ : XResult)) := by
  suffices h0 : ∃ y, Gw TT 273 [.one (.ro false (.sl 1 (b.map eb)))] = some y ∧ ∃ r : XDeed × XDeed, y = (.tup [.st [.ro false (di r.1.Op), .ro false (di r.1.Task), .own (.sl 3 (r.1.R.map XVal.e)), .ro false (di r.1.Id), .ro false (di r.1.Q.Kind), .ro false (di r.1.Q.P.Kind), .ro false (di r.1.Q.P.Col), .ro false (di r.1.Q.P.Op), .ro false (di r.1.Q.P.V.Ty), .ro false (di r.1.Q.P.V.N), .ro false (.str r.1.Q.P.V.S), .own (.sl 7 (r.1.Q.P.L.map XPred.e)), .ro false (di r.1.Q.Col), .own (.sl 1 (r.1.Q.Out.map ei)), .own (.sl 2 (r.1.Res.Rows.map XRow.e)), .ro false (di r.1.Res.N), .ro false (.bool r.1.Res.Has), .ro false (di r.1.Res.V.Ty), .ro false (di r.1.Res.V.N), .ro false (.str r.1.Res.V.S), .ro false (di r.1.Code), .ro false (di r.1.Stamp), .ro false (di r.1.Inv), .ro false (di r.1.Lin), .ro false (di r.1.Ret)], .st [.ro false (di r.2.Op), .ro false (di r.2.Task), .own (.sl 3 (r.2.R.map XVal.e)), .ro false (di r.2.Id), .ro false (di r.2.Q.Kind), .ro false (di r.2.Q.P.Kind), .ro false (di r.2.Q.P.Col), .ro false (di r.2.Q.P.Op), .ro false (di r.2.Q.P.V.Ty), .ro false (di r.2.Q.P.V.N), .ro false (.str r.2.Q.P.V.S), .own (.sl 7 (r.2.Q.P.L.map XPred.e)), .ro false (di r.2.Q.Col), .own (.sl 1 (r.2.Q.Out.map ei)), .own (.sl 2 (r.2.Res.Rows.map XRow.e)), .ro false (di r.2.Res.N), .ro false (.bool r.2.Res.Has), .ro false (di r.2.Res.V.Ty), .ro false (di r.2.Res.V.N), .ro false (.str r.2.Res.V.S), .ro false (di r.2.Code), .ro false (di r.2.Stamp), .ro false (di r.2.Inv), .ro false (di r.2.Lin), .ro false (di r.2.Ret)]], []) ∧ (r.1.R.length ≤ 1000 ∧ XVal.sms r.1.R ∧ XQuery.sm r.1.Q ∧ r.1.Res = (⟨[], 0, false, ⟨0, 0, ⟨#[]⟩⟩⟩ : XResult) ∧ r.2.R.length ≤ 1000 ∧ XVal.sms r.2.R ∧ XQuery.sm r.2.Q ∧ r.2.Res = (⟨[], 0, false, ⟨0, 0, ⟨#[]⟩⟩⟩ : XResult)) by
    obtain ⟨y, h1, r, rfl, h2⟩ := h0
    exact ⟨r, h1, h2⟩
  refine Gw_ofE (F := pf273) rfl rfl ?_
  show Wp _ pb273 _ _
  unfold pb273
  have ma := p388 (newC b hb)
  obtain ⟨⟨y, c1⟩, hy⟩ : ∃ r, d388 (newC b hb) = r := ⟨_, rfl⟩
  rw [hy] at ma
  simp only at ma
  have mb := p388 c1
  obtain ⟨⟨x, c2⟩, hx⟩ : ∃ r, d388 c1 = r := ⟨_, rfl⟩
  rw [hx] at mb
  simp only at mb
  have r7 : y.Res.Rows = [] := by rw [ma.2.2.2]
  have r8 : x.Res.Rows = [] := by rw [mb.2.2.2]
  repeat' (first
    | with_reducible (first | refine wp_seq ?_ | refine wp_blk ?_ | refine wp_skip ?_ | refine wp_exit ?_ | refine wp_ret ?_ | refine seqQ_norm ?_ | refine seqQ_ret ?_ | refine seqQ_exit ?_ | refine blkQ_norm ?_ | refine blkQ_ret ?_ | refine blkQ_exit ?_ | refine loopQ_norm ?_ | refine loopQ_exit ?_ | refine loopQ_ret ?_ | refine endQ_ret ?_ | refine endQ_norm ?_ | refine endE_ret ?_ | refine endE_norm ?_ | refine endI_ret ?_ | refine endI_norm ?_)
    | (with_reducible refine wp_regK fun K hK => ?_
       simp[hb, hy, hx]
       repeat' (with_reducible first | refine hK _ ?_ | (refine psel ?_ ?_ <;> (intro hc; (try rw [Decidable.not_not] at hc); first | (exfalso; omega) | (try simp [hc, hb, hy, hx]))))
       all_goals (clear hK; clear K))
    | (with_reducible refine wp_condE ?_
       refine ⟨_, rfl, ?_, ?_⟩ <;> (intro hc; (try simp at hc); (all_goals first | (exfalso; omega) | skip))))
  all_goals first | (exfalso; omega) | (refine ⟨_, by simp [pf273]; rfl, ?_⟩; refine ⟨(y, x), ?_, ?_, ?_, ?_, ?_, ?_, ?_, ?_, ?_⟩; (focus (first | (simp; done) | (simp [*]; done))); (focus (exact ma.1)); (focus (exact ma.2.1)); (focus (exact ma.2.2.1)); (focus (exact ma.2.2.2)); (focus (exact mb.1)); (focus (exact mb.2.1)); (focus (exact mb.2.2.1)); (focus (exact mb.2.2.2))) | skip

theorem e289_ex (b : List Int) (hb : b.length ≤ 1048576) : ∃ r : XDeed × XDeed, Gw TT 289 [.one (.ro false (.sl 1 (b.map eb)))] = some (.tup [.st [.ro false (di r.1.Op), .ro false (di r.1.Task), .own (.sl 3 (r.1.R.map XVal.e)), .ro false (di r.1.Id), .ro false (di r.1.Q.Kind), .ro false (di r.1.Q.P.Kind), .ro false (di r.1.Q.P.Col), .ro false (di r.1.Q.P.Op), .ro false (di r.1.Q.P.V.Ty), .ro false (di r.1.Q.P.V.N), .ro false (.str r.1.Q.P.V.S), .own (.sl 7 (r.1.Q.P.L.map XPred.e)), .ro false (di r.1.Q.Col), .own (.sl 1 (r.1.Q.Out.map ei)), .own (.sl 2 (r.1.Res.Rows.map XRow.e)), .ro false (di r.1.Res.N), .ro false (.bool r.1.Res.Has), .ro false (di r.1.Res.V.Ty), .ro false (di r.1.Res.V.N), .ro false (.str r.1.Res.V.S), .ro false (di r.1.Code), .ro false (di r.1.Stamp), .ro false (di r.1.Inv), .ro false (di r.1.Lin), .ro false (di r.1.Ret)], .st [.ro false (di r.2.Op), .ro false (di r.2.Task), .own (.sl 3 (r.2.R.map XVal.e)), .ro false (di r.2.Id), .ro false (di r.2.Q.Kind), .ro false (di r.2.Q.P.Kind), .ro false (di r.2.Q.P.Col), .ro false (di r.2.Q.P.Op), .ro false (di r.2.Q.P.V.Ty), .ro false (di r.2.Q.P.V.N), .ro false (.str r.2.Q.P.V.S), .own (.sl 7 (r.2.Q.P.L.map XPred.e)), .ro false (di r.2.Q.Col), .own (.sl 1 (r.2.Q.Out.map ei)), .own (.sl 2 (r.2.Res.Rows.map XRow.e)), .ro false (di r.2.Res.N), .ro false (.bool r.2.Res.Has), .ro false (di r.2.Res.V.Ty), .ro false (di r.2.Res.V.N), .ro false (.str r.2.Res.V.S), .ro false (di r.2.Code), .ro false (di r.2.Stamp), .ro false (di r.2.Inv), .ro false (di r.2.Lin), .ro false (di r.2.Ret)]], []) ∧ (r.1.R.length ≤ 1000 ∧ XVal.sms r.1.R ∧ XQuery.sm r.1.Q ∧ r.1.Res = (⟨[], 0, false, ⟨0, 0, ⟨#[]⟩⟩⟩ : XResult) ∧ r.2.R.length ≤ 1000 ∧ XVal.sms r.2.R ∧ XQuery.sm r.2.Q ∧ r.2.Res = (⟨[], 0, false, ⟨0, 0, ⟨#[]⟩⟩⟩ : XResult)) := by
  suffices h0 : ∃ y, Gw TT 289 [.one (.ro false (.sl 1 (b.map eb)))] = some y ∧ ∃ r : XDeed × XDeed, y = (.tup [.st [.ro false (di r.1.Op), .ro false (di r.1.Task), .own (.sl 3 (r.1.R.map XVal.e)), .ro false (di r.1.Id), .ro false (di r.1.Q.Kind), .ro false (di r.1.Q.P.Kind), .ro false (di r.1.Q.P.Col), .ro false (di r.1.Q.P.Op), .ro false (di r.1.Q.P.V.Ty), .ro false (di r.1.Q.P.V.N), .ro false (.str r.1.Q.P.V.S), .own (.sl 7 (r.1.Q.P.L.map XPred.e)), .ro false (di r.1.Q.Col), .own (.sl 1 (r.1.Q.Out.map ei)), .own (.sl 2 (r.1.Res.Rows.map XRow.e)), .ro false (di r.1.Res.N), .ro false (.bool r.1.Res.Has), .ro false (di r.1.Res.V.Ty), .ro false (di r.1.Res.V.N), .ro false (.str r.1.Res.V.S), .ro false (di r.1.Code), .ro false (di r.1.Stamp), .ro false (di r.1.Inv), .ro false (di r.1.Lin), .ro false (di r.1.Ret)], .st [.ro false (di r.2.Op), .ro false (di r.2.Task), .own (.sl 3 (r.2.R.map XVal.e)), .ro false (di r.2.Id), .ro false (di r.2.Q.Kind), .ro false (di r.2.Q.P.Kind), .ro false (di r.2.Q.P.Col), .ro false (di r.2.Q.P.Op), .ro false (di r.2.Q.P.V.Ty), .ro false (di r.2.Q.P.V.N), .ro false (.str r.2.Q.P.V.S), .own (.sl 7 (r.2.Q.P.L.map XPred.e)), .ro false (di r.2.Q.Col), .own (.sl 1 (r.2.Q.Out.map ei)), .own (.sl 2 (r.2.Res.Rows.map XRow.e)), .ro false (di r.2.Res.N), .ro false (.bool r.2.Res.Has), .ro false (di r.2.Res.V.Ty), .ro false (di r.2.Res.V.N), .ro false (.str r.2.Res.V.S), .ro false (di r.2.Code), .ro false (di r.2.Stamp), .ro false (di r.2.Inv), .ro false (di r.2.Lin), .ro false (di r.2.Ret)]], []) ∧ (r.1.R.length ≤ 1000 ∧ XVal.sms r.1.R ∧ XQuery.sm r.1.Q ∧ r.1.Res = (⟨[], 0, false, ⟨0, 0, ⟨#[]⟩⟩⟩ : XResult) ∧ r.2.R.length ≤ 1000 ∧ XVal.sms r.2.R ∧ XQuery.sm r.2.Q ∧ r.2.Res = (⟨[], 0, false, ⟨0, 0, ⟨#[]⟩⟩⟩ : XResult)) by
    obtain ⟨y, h1, r, rfl, h2⟩ := h0
    exact ⟨r, h1, h2⟩
  refine Gw_ofE (F := pf289) rfl rfl ?_
  show Wp _ pb289 _ _
  unfold pb289
  have ma := p386 (newC b hb)
  obtain ⟨⟨y, c1⟩, hy⟩ : ∃ r, d386 (newC b hb) = r := ⟨_, rfl⟩
  rw [hy] at ma
  simp only at ma
  have m3 := ma.2.2.1
  have m6 := m3.1
  rw [XPred.sm_eq] at m6
  have r1 : y.R.length ≤ 1048576 := by omega
  have r2 := ma.2.1
  have r3 : y.Q.P.V.S.size ≤ 1048576 := m6.1
  have r4 : y.Q.P.L.length ≤ 1048576 := m6.2.1
  have r5 : XPred.sms y.Q.P.L := m6.2.2
  have r6 : y.Q.Out.length ≤ 1048576 := m3.2
  have r7 : y.Res.Rows = [] := by rw [ma.2.2.2]
  obtain ⟨⟨n, c2⟩, hn⟩ : ∃ r, d375 c1 4 = r := ⟨_, rfl⟩
  by_cases z0 : n = 0
  · have mb := p386 c2
    obtain ⟨⟨x, c3⟩, hx⟩ : ∃ r, d386 c2 = r := ⟨_, rfl⟩
    rw [hx] at mb
    simp only at mb
    have r8 : x.Res.Rows = [] := by rw [mb.2.2.2]
    repeat' (first
      | with_reducible (first | refine wp_seq ?_ | refine wp_blk ?_ | refine wp_skip ?_ | refine wp_exit ?_ | refine wp_ret ?_ | refine seqQ_norm ?_ | refine seqQ_ret ?_ | refine seqQ_exit ?_ | refine blkQ_norm ?_ | refine blkQ_ret ?_ | refine blkQ_exit ?_ | refine loopQ_norm ?_ | refine loopQ_exit ?_ | refine loopQ_ret ?_ | refine endQ_ret ?_ | refine endQ_norm ?_ | refine endE_ret ?_ | refine endE_norm ?_ | refine endI_ret ?_ | refine endI_norm ?_)
      | (with_reducible refine wp_regK fun K hK => ?_
         simp[hb, hy, r1, r2, r3, r4, r5, r6, hn, hx, z0]
         repeat' (with_reducible first | refine hK _ ?_ | (refine psel ?_ ?_ <;> (intro hc; (try rw [Decidable.not_not] at hc); first | (exfalso; omega) | (try simp [hc, hb, hy, r1, r2, r3, r4, r5, r6, hn, hx, z0]))))
         all_goals (clear hK; clear K))
      | (with_reducible refine wp_condE ?_
         refine ⟨_, rfl, ?_, ?_⟩ <;> (intro hc; (try simp at hc); (all_goals first | (exfalso; omega) | skip))))
    all_goals first | (exfalso; omega) | (refine ⟨_, by simp [pf289]; rfl, ?_⟩; refine ⟨(y, x), ?_, ?_, ?_, ?_, ?_, ?_, ?_, ?_, ?_⟩; (focus (first | (simp; done) | (simp [*]; done))); (focus (exact ma.1)); (focus (exact ma.2.1)); (focus (exact ma.2.2.1)); (focus (exact ma.2.2.2)); (focus (exact mb.1)); (focus (exact mb.2.1)); (focus (exact mb.2.2.1)); (focus (exact mb.2.2.2))) | skip
  by_cases z1 : n = 1
  · repeat' (first
      | with_reducible (first | refine wp_seq ?_ | refine wp_blk ?_ | refine wp_skip ?_ | refine wp_exit ?_ | refine wp_ret ?_ | refine seqQ_norm ?_ | refine seqQ_ret ?_ | refine seqQ_exit ?_ | refine blkQ_norm ?_ | refine blkQ_ret ?_ | refine blkQ_exit ?_ | refine loopQ_norm ?_ | refine loopQ_exit ?_ | refine loopQ_ret ?_ | refine endQ_ret ?_ | refine endQ_norm ?_ | refine endE_ret ?_ | refine endE_norm ?_ | refine endI_ret ?_ | refine endI_norm ?_)
      | (with_reducible refine wp_regK fun K hK => ?_
         simp[hb, hy, r1, r2, r3, r4, r5, r6, hn, z1]
         repeat' (with_reducible first | refine hK _ ?_ | (refine psel ?_ ?_ <;> (intro hc; (try rw [Decidable.not_not] at hc); first | (exfalso; omega) | (try simp [hc, hb, hy, r1, r2, r3, r4, r5, r6, hn, z1]))))
         all_goals (clear hK; clear K))
      | (with_reducible refine wp_condE ?_
         refine ⟨_, rfl, ?_, ?_⟩ <;> (intro hc; (try simp at hc); (all_goals first | (exfalso; omega) | skip))))
    all_goals first | (exfalso; omega) | (refine ⟨_, by simp [pf289]; rfl, ?_⟩; refine ⟨(y, ⟨y.Op, y.Task, y.R, IntKind.wrap .i64 (y.Id + 1), y.Q, y.Res, y.Code, y.Stamp, y.Inv, y.Lin, y.Ret⟩), ?_, ?_, ?_, ?_, ?_, ?_, ?_, ?_, ?_⟩; (focus (first | (simp; done) | (simp [*]; done))); (focus (exact ma.1)); (focus (exact ma.2.1)); (focus (exact ma.2.2.1)); (focus (exact ma.2.2.2)); (focus (exact ma.1)); (focus (exact ma.2.1)); (focus (exact ma.2.2.1)); (focus (exact ma.2.2.2))) | skip
  skip
  repeat' (first
    | with_reducible (first | refine wp_seq ?_ | refine wp_blk ?_ | refine wp_skip ?_ | refine wp_exit ?_ | refine wp_ret ?_ | refine seqQ_norm ?_ | refine seqQ_ret ?_ | refine seqQ_exit ?_ | refine blkQ_norm ?_ | refine blkQ_ret ?_ | refine blkQ_exit ?_ | refine loopQ_norm ?_ | refine loopQ_exit ?_ | refine loopQ_ret ?_ | refine endQ_ret ?_ | refine endQ_norm ?_ | refine endE_ret ?_ | refine endE_norm ?_ | refine endI_ret ?_ | refine endI_norm ?_)
    | (with_reducible refine wp_regK fun K hK => ?_
       simp[hb, hy, r1, r2, r3, r4, r5, r6, hn, z0, z1]
       repeat' (with_reducible first | refine hK _ ?_ | (refine psel ?_ ?_ <;> (intro hc; (try rw [Decidable.not_not] at hc); first | (exfalso; omega) | (try simp [hc, hb, hy, r1, r2, r3, r4, r5, r6, hn, z0, z1]))))
       all_goals (clear hK; clear K))
    | (with_reducible refine wp_condE ?_
       refine ⟨_, rfl, ?_, ?_⟩ <;> (intro hc; (try simp at hc); (all_goals first | (exfalso; omega) | skip))))
  all_goals first | (exfalso; omega) | (refine ⟨_, by simp [pf289]; rfl, ?_⟩; refine ⟨(y, y), ?_, ?_, ?_, ?_, ?_, ?_, ?_, ?_, ?_⟩; (focus (first | (simp; done) | (simp [*]; done))); (focus (exact ma.1)); (focus (exact ma.2.1)); (focus (exact ma.2.2.1)); (focus (exact ma.2.2.2)); (focus (exact ma.1)); (focus (exact ma.2.1)); (focus (exact ma.2.2.1)); (focus (exact ma.2.2.2))) | skip

end Go.Proofs.Ytkgibccknlbiaaa.OM
