/- What the functions answer. -/
import Derived.Test.YtnadnanmgakkfaaXMarkOfLm0
set_option linter.all false
namespace Go.Proofs.Ytnadnanmgakkfaa.OM
set_option maxHeartbeats 4000000
set_option maxRecDepth 100000

theorem t233 (k0 : Bool) (x_C_Cols : List Int) (x_C_Slots : Int) (x_C_Bufs : Int) (x_Time : Int) (x_T : Int) (x_E : Int) (x_Dd_Ver : Int) (x_Dd_L : List XRef) (x_B : List XBuf) (x_M : List Int) (x_X : List XDead) (x_P : List Int) (x_Tasks : List XTask) (x_Deeds : List XDeed) (left : Int) (h0 : 0 ≤ left) (h1 : left ≤ 1048576) (hok_x_C_Cols : x_C_Cols.length ≤ 9223372036854775807) (hok_x_Dd_L : x_Dd_L.length ≤ 9223372036854775807) (hok_x_B : x_B.length ≤ 9223372036854775807) (hoks_x_B : XBuf.oks x_B) (hok_x_M : x_M.length ≤ 9223372036854775807) (hok_x_X : x_X.length ≤ 9223372036854775807) (hok_x_P : x_P.length ≤ 9223372036854775807) (hok_x_Tasks : x_Tasks.length ≤ 9223372036854775807) (hoks_x_Tasks : XTask.oks x_Tasks) (hok_x_Deeds : x_Deeds.length ≤ 9223372036854775807) (hoks_x_Deeds : XDeed.oks x_Deeds) :
    ∃ n, Gw TT 233 [.st [.ro k0 (.sl 1 (x_C_Cols.map ei)), .ro false (di x_C_Slots), .ro false (di x_C_Bufs), .ro false (di x_Time), .ro false (di x_T), .ro false (di x_E), .ro false (di x_Dd_Ver), .ro k0 (.sl 5 (x_Dd_L.map XRef.e)), .ro k0 (.sl 5 (x_B.map XBuf.e)), .ro k0 (.sl 1 (x_M.map ei)), .ro k0 (.sl 3 (x_X.map XDead.e)), .ro k0 (.sl 1 (x_P.map ei)), .ro k0 (.sl 25 (x_Tasks.map XTask.e)), .ro k0 (.sl 25 (x_Deeds.map XDeed.e))], vi left] = some (vi n, []) ∧ -1 ≤ n ∧ n ≤ left ∧ (0 ≤ n → x_C_Cols.length ≤ 1048576 ∧ x_Dd_L.length ≤ 1048576 ∧ x_B.length ≤ 1048576 ∧ XBuf.sms x_B ∧ x_M.length ≤ 1048576 ∧ x_X.length ≤ 1048576 ∧ x_P.length ≤ 1048576 ∧ x_Tasks.length ≤ 1048576 ∧ XTask.sms x_Tasks ∧ x_Deeds.length ≤ 1048576 ∧ XDeed.sms x_Deeds) := by
  refine Gw_ofI (F := pf233) rfl rfl ?_
  show Wp _ pb233 _ _
  unfold pb233
  obtain ⟨n1, g1, a1, b1, s1⟩ := t214 k0 x_C_Cols x_C_Slots x_C_Bufs left (by omega) (by omega) hok_x_C_Cols
  repeat' (first
    | with_reducible (first | refine wp_seq ?_ | refine wp_blk ?_ | refine wp_skip ?_ | refine wp_exit ?_ | refine wp_ret ?_ | refine seqQ_norm ?_ | refine seqQ_ret ?_ | refine seqQ_exit ?_ | refine blkQ_norm ?_ | refine blkQ_ret ?_ | refine blkQ_exit ?_ | refine loopQ_norm ?_ | refine loopQ_exit ?_ | refine loopQ_ret ?_ | refine endQ_ret ?_ | refine endQ_norm ?_ | refine endE_ret ?_ | refine endE_norm ?_ | refine endI_ret ?_ | refine endI_norm ?_)
    | (with_reducible refine wp_regK fun K hK => ?_
       simp[g1]
       repeat' (with_reducible first | refine hK _ ?_ | (refine psel ?_ ?_ <;> (intro hc; (try rw [Decidable.not_not] at hc); first | (exfalso; omega) | (try simp [hc, g1]))))
       all_goals (clear hK; clear K))
    | (with_reducible refine wp_condE ?_
       refine ⟨_, rfl, ?_, ?_⟩ <;> (intro hc; (try simp at hc); (all_goals first | (exfalso; omega) | skip))))
  · exact ⟨-1, by simp [pf233], by omega, by omega, fun h => absurd h (by omega)⟩
  obtain ⟨n2, g2, a2, b2, s2⟩ := t218 k0 x_Dd_Ver x_Dd_L n1 (by omega) (by omega) hok_x_Dd_L
  repeat' (first
    | with_reducible (first | refine wp_seq ?_ | refine wp_blk ?_ | refine wp_skip ?_ | refine wp_exit ?_ | refine wp_ret ?_ | refine seqQ_norm ?_ | refine seqQ_ret ?_ | refine seqQ_exit ?_ | refine blkQ_norm ?_ | refine blkQ_ret ?_ | refine blkQ_exit ?_ | refine loopQ_norm ?_ | refine loopQ_exit ?_ | refine loopQ_ret ?_ | refine endQ_ret ?_ | refine endQ_norm ?_ | refine endE_ret ?_ | refine endE_norm ?_ | refine endI_ret ?_ | refine endI_norm ?_)
    | (with_reducible refine wp_regK fun K hK => ?_
       simp[g2]
       repeat' (with_reducible first | refine hK _ ?_ | (refine psel ?_ ?_ <;> (intro hc; (try rw [Decidable.not_not] at hc); first | (exfalso; omega) | (try simp [hc, g2]))))
       all_goals (clear hK; clear K))
    | (with_reducible refine wp_condE ?_
       refine ⟨_, rfl, ?_, ?_⟩ <;> (intro hc; (try simp at hc); (all_goals first | (exfalso; omega) | skip))))
  · exact ⟨-1, by simp [pf233], by omega, by omega, fun h => absurd h (by omega)⟩
  obtain ⟨n3, g3, a3, b3, s3⟩ := t211 k0 x_B n2 (by omega) (by omega) hok_x_B hoks_x_B
  repeat' (first
    | with_reducible (first | refine wp_seq ?_ | refine wp_blk ?_ | refine wp_skip ?_ | refine wp_exit ?_ | refine wp_ret ?_ | refine seqQ_norm ?_ | refine seqQ_ret ?_ | refine seqQ_exit ?_ | refine blkQ_norm ?_ | refine blkQ_ret ?_ | refine blkQ_exit ?_ | refine loopQ_norm ?_ | refine loopQ_exit ?_ | refine loopQ_ret ?_ | refine endQ_ret ?_ | refine endQ_norm ?_ | refine endE_ret ?_ | refine endE_norm ?_ | refine endI_ret ?_ | refine endI_norm ?_)
    | (with_reducible refine wp_regK fun K hK => ?_
       simp[g3]
       repeat' (with_reducible first | refine hK _ ?_ | (refine psel ?_ ?_ <;> (intro hc; (try rw [Decidable.not_not] at hc); first | (exfalso; omega) | (try simp [hc, g3]))))
       all_goals (clear hK; clear K))
    | (with_reducible refine wp_condE ?_
       refine ⟨_, rfl, ?_, ?_⟩ <;> (intro hc; (try simp at hc); (all_goals first | (exfalso; omega) | skip))))
  · exact ⟨-1, by simp [pf233], by omega, by omega, fun h => absurd h (by omega)⟩
  obtain ⟨n4, g4, a4, b4, s4⟩ := t219 k0 x_M n3 (by omega) (by omega) hok_x_M
  repeat' (first
    | with_reducible (first | refine wp_seq ?_ | refine wp_blk ?_ | refine wp_skip ?_ | refine wp_exit ?_ | refine wp_ret ?_ | refine seqQ_norm ?_ | refine seqQ_ret ?_ | refine seqQ_exit ?_ | refine blkQ_norm ?_ | refine blkQ_ret ?_ | refine blkQ_exit ?_ | refine loopQ_norm ?_ | refine loopQ_exit ?_ | refine loopQ_ret ?_ | refine endQ_ret ?_ | refine endQ_norm ?_ | refine endE_ret ?_ | refine endE_norm ?_ | refine endI_ret ?_ | refine endI_norm ?_)
    | (with_reducible refine wp_regK fun K hK => ?_
       simp[g4]
       repeat' (with_reducible first | refine hK _ ?_ | (refine psel ?_ ?_ <;> (intro hc; (try rw [Decidable.not_not] at hc); first | (exfalso; omega) | (try simp [hc, g4]))))
       all_goals (clear hK; clear K))
    | (with_reducible refine wp_condE ?_
       refine ⟨_, rfl, ?_, ?_⟩ <;> (intro hc; (try simp at hc); (all_goals first | (exfalso; omega) | skip))))
  · exact ⟨-1, by simp [pf233], by omega, by omega, fun h => absurd h (by omega)⟩
  obtain ⟨n5, g5, a5, b5, s5⟩ := t215 k0 x_X n4 (by omega) (by omega) hok_x_X
  repeat' (first
    | with_reducible (first | refine wp_seq ?_ | refine wp_blk ?_ | refine wp_skip ?_ | refine wp_exit ?_ | refine wp_ret ?_ | refine seqQ_norm ?_ | refine seqQ_ret ?_ | refine seqQ_exit ?_ | refine blkQ_norm ?_ | refine blkQ_ret ?_ | refine blkQ_exit ?_ | refine loopQ_norm ?_ | refine loopQ_exit ?_ | refine loopQ_ret ?_ | refine endQ_ret ?_ | refine endQ_norm ?_ | refine endE_ret ?_ | refine endE_norm ?_ | refine endI_ret ?_ | refine endI_norm ?_)
    | (with_reducible refine wp_regK fun K hK => ?_
       simp[g5]
       repeat' (with_reducible first | refine hK _ ?_ | (refine psel ?_ ?_ <;> (intro hc; (try rw [Decidable.not_not] at hc); first | (exfalso; omega) | (try simp [hc, g5]))))
       all_goals (clear hK; clear K))
    | (with_reducible refine wp_condE ?_
       refine ⟨_, rfl, ?_, ?_⟩ <;> (intro hc; (try simp at hc); (all_goals first | (exfalso; omega) | skip))))
  · exact ⟨-1, by simp [pf233], by omega, by omega, fun h => absurd h (by omega)⟩
  obtain ⟨n6, g6, a6, b6, s6⟩ := t219 k0 x_P n5 (by omega) (by omega) hok_x_P
  repeat' (first
    | with_reducible (first | refine wp_seq ?_ | refine wp_blk ?_ | refine wp_skip ?_ | refine wp_exit ?_ | refine wp_ret ?_ | refine seqQ_norm ?_ | refine seqQ_ret ?_ | refine seqQ_exit ?_ | refine blkQ_norm ?_ | refine blkQ_ret ?_ | refine blkQ_exit ?_ | refine loopQ_norm ?_ | refine loopQ_exit ?_ | refine loopQ_ret ?_ | refine endQ_ret ?_ | refine endQ_norm ?_ | refine endE_ret ?_ | refine endE_norm ?_ | refine endI_ret ?_ | refine endI_norm ?_)
    | (with_reducible refine wp_regK fun K hK => ?_
       simp[g6]
       repeat' (with_reducible first | refine hK _ ?_ | (refine psel ?_ ?_ <;> (intro hc; (try rw [Decidable.not_not] at hc); first | (exfalso; omega) | (try simp [hc, g6]))))
       all_goals (clear hK; clear K))
    | (with_reducible refine wp_condE ?_
       refine ⟨_, rfl, ?_, ?_⟩ <;> (intro hc; (try simp at hc); (all_goals first | (exfalso; omega) | skip))))
  · exact ⟨-1, by simp [pf233], by omega, by omega, fun h => absurd h (by omega)⟩
  obtain ⟨n7, g7, a7, b7, s7⟩ := t230 k0 x_Tasks n6 (by omega) (by omega) hok_x_Tasks hoks_x_Tasks
  repeat' (first
    | with_reducible (first | refine wp_seq ?_ | refine wp_blk ?_ | refine wp_skip ?_ | refine wp_exit ?_ | refine wp_ret ?_ | refine seqQ_norm ?_ | refine seqQ_ret ?_ | refine seqQ_exit ?_ | refine blkQ_norm ?_ | refine blkQ_ret ?_ | refine blkQ_exit ?_ | refine loopQ_norm ?_ | refine loopQ_exit ?_ | refine loopQ_ret ?_ | refine endQ_ret ?_ | refine endQ_norm ?_ | refine endE_ret ?_ | refine endE_norm ?_ | refine endI_ret ?_ | refine endI_norm ?_)
    | (with_reducible refine wp_regK fun K hK => ?_
       simp[g7]
       repeat' (with_reducible first | refine hK _ ?_ | (refine psel ?_ ?_ <;> (intro hc; (try rw [Decidable.not_not] at hc); first | (exfalso; omega) | (try simp [hc, g7]))))
       all_goals (clear hK; clear K))
    | (with_reducible refine wp_condE ?_
       refine ⟨_, rfl, ?_, ?_⟩ <;> (intro hc; (try simp at hc); (all_goals first | (exfalso; omega) | skip))))
  · exact ⟨-1, by simp [pf233], by omega, by omega, fun h => absurd h (by omega)⟩
  obtain ⟨n8, g8, a8, b8, s8⟩ := t217 k0 x_Deeds n7 (by omega) (by omega) hok_x_Deeds hoks_x_Deeds
  repeat' (first
    | with_reducible (first | refine wp_seq ?_ | refine wp_blk ?_ | refine wp_skip ?_ | refine wp_exit ?_ | refine wp_ret ?_ | refine seqQ_norm ?_ | refine seqQ_ret ?_ | refine seqQ_exit ?_ | refine blkQ_norm ?_ | refine blkQ_ret ?_ | refine blkQ_exit ?_ | refine loopQ_norm ?_ | refine loopQ_exit ?_ | refine loopQ_ret ?_ | refine endQ_ret ?_ | refine endQ_norm ?_ | refine endE_ret ?_ | refine endE_norm ?_ | refine endI_ret ?_ | refine endI_norm ?_)
    | (with_reducible refine wp_regK fun K hK => ?_
       simp[g8]
       repeat' (with_reducible first | refine hK _ ?_ | (refine psel ?_ ?_ <;> (intro hc; (try rw [Decidable.not_not] at hc); first | (exfalso; omega) | (try simp [hc, g8]))))
       all_goals (clear hK; clear K))
    | (with_reducible refine wp_condE ?_
       refine ⟨_, rfl, ?_, ?_⟩ <;> (intro hc; (try simp at hc); (all_goals first | (exfalso; omega) | skip))))
  · exact ⟨-1, by simp [pf233], by omega, by omega, fun h => absurd h (by omega)⟩
  · exact ⟨n8, by simp [pf233], by omega, by omega, fun _ => ⟨(s1 (by omega)), (s2 (by omega)), (s3 (by omega)).1, (s3 (by omega)).2, (s4 (by omega)), (s5 (by omega)), (s6 (by omega)), (s7 (by omega)).1, (s7 (by omega)).2, (s8 (by omega)).1, (s8 (by omega)).2⟩⟩

@[simp] theorem t377 (x a b : Int) : Gw TT 377 [vi x, vi a, vi b] = some (vb (decide (a ≤ x) && decide (x ≤ b)), []) := by
  refine Gw_of (F := pf377) rfl rfl ?_
  show Wp _ pb377 _ _
  unfold pb377
  repeat' (first
    | with_reducible (first | refine wp_seq ?_ | refine wp_blk ?_ | refine wp_skip ?_ | refine wp_exit ?_ | refine wp_ret ?_ | refine seqQ_norm ?_ | refine seqQ_ret ?_ | refine seqQ_exit ?_ | refine blkQ_norm ?_ | refine blkQ_ret ?_ | refine blkQ_exit ?_ | refine loopQ_norm ?_ | refine loopQ_exit ?_ | refine loopQ_ret ?_ | refine endQ_ret ?_ | refine endQ_norm ?_ | refine endE_ret ?_ | refine endE_norm ?_ | refine endI_ret ?_ | refine endI_norm ?_)
    | (with_reducible refine wp_regK fun K hK => ?_
       simp
       repeat' (with_reducible first | refine hK _ ?_ | (refine psel ?_ ?_ <;> (intro hc; (try rw [Decidable.not_not] at hc); first | (exfalso; omega) | (try simp [hc]))))
       all_goals (clear hK; clear K))
    | (with_reducible refine wp_condE ?_
       refine ⟨_, rfl, ?_, ?_⟩ <;> (intro hc; (try simp at hc); (all_goals first | (exfalso; omega) | skip))))
  all_goals first | (simp_all [pf377]; done) | (simp_all [pf377]; omega)

theorem split_at {α : Type} (l : List α) (i : Nat) (h : i < l.length) : ∃ pre x rest, l = pre ++ x :: rest ∧ pre.length = i :=
  ⟨l.take i, l[i], l.drop (i + 1), by simp, by simp; omega⟩

def markOfF (M : List Int) (id : Int) : Int := if 0 ≤ id then (M[id.toNat]?).getD 0 else 0

theorem markOfF_out {M : List Int} {id : Int} (h : ¬ (0 ≤ id ∧ id < (M.length : Int))) : markOfF M id = 0 := by
  unfold markOfF
  by_cases h0 : 0 ≤ id
  · rw [List.getElem?_eq_none (by omega)]; simp
  · simp [h0]

@[simp] theorem t30 (k0 : Bool) (x_C_Cols : List Int) (x_C_Slots : Int) (x_C_Bufs : Int) (x_Time : Int) (x_T : Int) (x_E : Int) (x_Dd_Ver : Int) (x_Dd_L : List XRef) (x_B : List XBuf) (x_M : List Int) (x_X : List XDead) (x_P : List Int) (x_Tasks : List XTask) (x_Deeds : List XDeed) (e : Int) (h : x_M.length ≤ 1048576) : Gw TT 30 [.st [.ro k0 (.sl 1 (x_C_Cols.map ei)), .ro false (di x_C_Slots), .ro false (di x_C_Bufs), .ro false (di x_Time), .ro false (di x_T), .ro false (di x_E), .ro false (di x_Dd_Ver), .ro k0 (.sl 5 (x_Dd_L.map XRef.e)), .ro k0 (.sl 5 (x_B.map XBuf.e)), .ro k0 (.sl 1 (x_M.map ei)), .ro k0 (.sl 3 (x_X.map XDead.e)), .ro k0 (.sl 1 (x_P.map ei)), .ro k0 (.sl 25 (x_Tasks.map XTask.e)), .ro k0 (.sl 25 (x_Deeds.map XDeed.e))], vi e] = some (vi (markOfF x_M e), []) := by
  refine Gw_of (F := pf30) rfl rfl ?_
  show Wp _ pb30 _ _
  unfold pb30
  by_cases hb : 0 ≤ e ∧ e < (x_M.length : Int)
  · obtain ⟨pre, b, rest, rfl, hp⟩ := split_at x_M e.toNat (by omega)
    obtain rfl : e = (pre.length : Int) := by omega
    simp only [List.length_append, List.length_cons] at h hb
    have hw : IntKind.wrap .i64 ((pre.length : Int) + ((rest.length : Int) + 1) - 1) = (pre.length : Int) + ((rest.length : Int) + 1) - 1 := wrap_i64 (by omega) (by omega)
    repeat' (first
      | with_reducible (first | refine wp_seq ?_ | refine wp_blk ?_ | refine wp_skip ?_ | refine wp_exit ?_ | refine wp_ret ?_ | refine seqQ_norm ?_ | refine seqQ_ret ?_ | refine seqQ_exit ?_ | refine blkQ_norm ?_ | refine blkQ_ret ?_ | refine blkQ_exit ?_ | refine loopQ_norm ?_ | refine loopQ_exit ?_ | refine loopQ_ret ?_ | refine endQ_ret ?_ | refine endQ_norm ?_ | refine endE_ret ?_ | refine endE_norm ?_ | refine endI_ret ?_ | refine endI_norm ?_)
      | (with_reducible refine wp_regK fun K hK => ?_
         simp[hw]
         repeat' (with_reducible first | refine hK _ ?_ | (refine psel ?_ ?_ <;> (intro hc; (try rw [Decidable.not_not] at hc); first | (exfalso; omega) | (try simp [hc, hw]))))
         all_goals (clear hK; clear K))
      | (with_reducible refine wp_condE ?_
         refine ⟨_, rfl, ?_, ?_⟩ <;> (intro hc; (try simp at hc); (all_goals first | (exfalso; omega) | skip))))
    all_goals first | (simp_all [pf30, markOfF]; done) | (exfalso; omega)
  · have hf := markOfF_out hb
    have hw : IntKind.wrap .i64 ((x_M.length : Int) - 1) = (x_M.length : Int) - 1 := wrap_i64 (by omega) (by omega)
    repeat' (first
      | with_reducible (first | refine wp_seq ?_ | refine wp_blk ?_ | refine wp_skip ?_ | refine wp_exit ?_ | refine wp_ret ?_ | refine seqQ_norm ?_ | refine seqQ_ret ?_ | refine seqQ_exit ?_ | refine blkQ_norm ?_ | refine blkQ_ret ?_ | refine blkQ_exit ?_ | refine loopQ_norm ?_ | refine loopQ_exit ?_ | refine loopQ_ret ?_ | refine endQ_ret ?_ | refine endQ_norm ?_ | refine endE_ret ?_ | refine endE_norm ?_ | refine endI_ret ?_ | refine endI_norm ?_)
      | (with_reducible refine wp_regK fun K hK => ?_
         simp[hw]
         repeat' (with_reducible first | refine hK _ ?_ | (refine psel ?_ ?_ <;> (intro hc; (try rw [Decidable.not_not] at hc); first | (exfalso; omega) | (try simp [hc, hw]))))
         all_goals (clear hK; clear K))
      | (with_reducible refine wp_condE ?_
         refine ⟨_, rfl, ?_, ?_⟩ <;> (intro hc; (try simp at hc); (all_goals first | (exfalso; omega) | skip))))
    all_goals first | (exfalso; omega) | (simp_all [pf30]; done)

@[simp] theorem t309 (k0 : Bool) (x_C_Cols : List Int) (x_C_Slots : Int) (x_C_Bufs : Int) (x_Time : Int) (x_T : Int) (x_E : Int) (x_Dd_Ver : Int) (x_Dd_L : List XRef) (x_B : List XBuf) (x_M : List Int) (x_X : List XDead) (x_P : List Int) (x_Tasks : List XTask) (x_Deeds : List XDeed) (e : Int) (h : x_M.length ≤ 1048576) : Gw TT 309 [.st [.ro k0 (.sl 1 (x_C_Cols.map ei)), .ro false (di x_C_Slots), .ro false (di x_C_Bufs), .ro false (di x_Time), .ro false (di x_T), .ro false (di x_E), .ro false (di x_Dd_Ver), .ro k0 (.sl 5 (x_Dd_L.map XRef.e)), .ro k0 (.sl 5 (x_B.map XBuf.e)), .ro k0 (.sl 1 (x_M.map ei)), .ro k0 (.sl 3 (x_X.map XDead.e)), .ro k0 (.sl 1 (x_P.map ei)), .ro k0 (.sl 25 (x_Tasks.map XTask.e)), .ro k0 (.sl 25 (x_Deeds.map XDeed.e))], vi e] = some (vi (markOfF x_M e), []) := by
  refine Gw_of (F := pf309) rfl rfl ?_
  show Wp _ pb309 _ _
  unfold pb309
  by_cases hb : 0 ≤ e ∧ e < (x_M.length : Int)
  · obtain ⟨pre, b, rest, rfl, hp⟩ := split_at x_M e.toNat (by omega)
    obtain rfl : e = (pre.length : Int) := by omega
    simp only [List.length_append, List.length_cons] at h hb
    have hw : IntKind.wrap .i64 ((pre.length : Int) + ((rest.length : Int) + 1) - 1) = (pre.length : Int) + ((rest.length : Int) + 1) - 1 := wrap_i64 (by omega) (by omega)
    repeat' (first
      | with_reducible (first | refine wp_seq ?_ | refine wp_blk ?_ | refine wp_skip ?_ | refine wp_exit ?_ | refine wp_ret ?_ | refine seqQ_norm ?_ | refine seqQ_ret ?_ | refine seqQ_exit ?_ | refine blkQ_norm ?_ | refine blkQ_ret ?_ | refine blkQ_exit ?_ | refine loopQ_norm ?_ | refine loopQ_exit ?_ | refine loopQ_ret ?_ | refine endQ_ret ?_ | refine endQ_norm ?_ | refine endE_ret ?_ | refine endE_norm ?_ | refine endI_ret ?_ | refine endI_norm ?_)
      | (with_reducible refine wp_regK fun K hK => ?_
         simp[hw]
         repeat' (with_reducible first | refine hK _ ?_ | (refine psel ?_ ?_ <;> (intro hc; (try rw [Decidable.not_not] at hc); first | (exfalso; omega) | (try simp [hc, hw]))))
         all_goals (clear hK; clear K))
      | (with_reducible refine wp_condE ?_
         refine ⟨_, rfl, ?_, ?_⟩ <;> (intro hc; (try simp at hc); (all_goals first | (exfalso; omega) | skip))))
    all_goals first | (simp_all [pf309, markOfF]; done) | (exfalso; omega)
  · have hf := markOfF_out hb
    have hw : IntKind.wrap .i64 ((x_M.length : Int) - 1) = (x_M.length : Int) - 1 := wrap_i64 (by omega) (by omega)
    repeat' (first
      | with_reducible (first | refine wp_seq ?_ | refine wp_blk ?_ | refine wp_skip ?_ | refine wp_exit ?_ | refine wp_ret ?_ | refine seqQ_norm ?_ | refine seqQ_ret ?_ | refine seqQ_exit ?_ | refine blkQ_norm ?_ | refine blkQ_ret ?_ | refine blkQ_exit ?_ | refine loopQ_norm ?_ | refine loopQ_exit ?_ | refine loopQ_ret ?_ | refine endQ_ret ?_ | refine endQ_norm ?_ | refine endE_ret ?_ | refine endE_norm ?_ | refine endI_ret ?_ | refine endI_norm ?_)
      | (with_reducible refine wp_regK fun K hK => ?_
         simp[hw]
         repeat' (with_reducible first | refine hK _ ?_ | (refine psel ?_ ?_ <;> (intro hc; (try rw [Decidable.not_not] at hc); first | (exfalso; omega) | (try simp [hc, hw]))))
         all_goals (clear hK; clear K))
      | (with_reducible refine wp_condE ?_
         refine ⟨_, rfl, ?_, ?_⟩ <;> (intro hc; (try simp at hc); (all_goals first | (exfalso; omega) | skip))))
    all_goals first | (exfalso; omega) | (simp_all [pf309]; done)

theorem t111 (aW_C_Cols : List Int) (aW_C_Slots : Int) (aW_C_Bufs : Int) (aW_Time : Int) (aW_T : Int) (aW_E : Int) (aW_Dd_Ver : Int) (aW_Dd_L : List XRef) (aW_B : List XBuf) (aW_M : List Int) (aW_X : List XDead) (aW_P : List Int) (aW_Tasks : List XTask) (aW_Deeds : List XDeed) (aId : Int) (hok_aW_C_Cols : aW_C_Cols.length ≤ 9223372036854775807) (hok_aW_Dd_L : aW_Dd_L.length ≤ 9223372036854775807) (hok_aW_B : aW_B.length ≤ 9223372036854775807) (hoks_aW_B : XBuf.oks aW_B) (hok_aW_M : aW_M.length ≤ 9223372036854775807) (hok_aW_X : aW_X.length ≤ 9223372036854775807) (hok_aW_P : aW_P.length ≤ 9223372036854775807) (hok_aW_Tasks : aW_Tasks.length ≤ 9223372036854775807) (hoks_aW_Tasks : XTask.oks aW_Tasks) (hok_aW_Deeds : aW_Deeds.length ≤ 9223372036854775807) (hoks_aW_Deeds : XDeed.oks aW_Deeds) : Gw TT 111 [.st [.ro false (.sl 1 (aW_C_Cols.map ei)), .ro false (di aW_C_Slots), .ro false (di aW_C_Bufs), .ro false (di aW_Time), .ro false (di aW_T), .ro false (di aW_E), .ro false (di aW_Dd_Ver), .ro false (.sl 5 (aW_Dd_L.map XRef.e)), .ro false (.sl 5 (aW_B.map XBuf.e)), .ro false (.sl 1 (aW_M.map ei)), .ro false (.sl 3 (aW_X.map XDead.e)), .ro false (.sl 1 (aW_P.map ei)), .ro false (.sl 25 (aW_Tasks.map XTask.e)), .ro false (.sl 25 (aW_Deeds.map XDeed.e))], .one (.ro false (di aId))] = some (vb true, []) := by
  refine Gw_of (F := pf111) rfl rfl ?_
  show Wp _ pb111 _ _
  unfold pb111
  obtain ⟨n1, g1, a1, b1, s1⟩ := t233 false aW_C_Cols aW_C_Slots aW_C_Bufs aW_Time aW_T aW_E aW_Dd_Ver aW_Dd_L aW_B aW_M aW_X aW_P aW_Tasks aW_Deeds 1048576 (by omega) (by omega) hok_aW_C_Cols hok_aW_Dd_L hok_aW_B hoks_aW_B hok_aW_M hok_aW_X hok_aW_P hok_aW_Tasks hoks_aW_Tasks hok_aW_Deeds hoks_aW_Deeds
  repeat' (first
    | with_reducible (first | refine wp_seq ?_ | refine wp_blk ?_ | refine wp_skip ?_ | refine wp_exit ?_ | refine wp_ret ?_ | refine seqQ_norm ?_ | refine seqQ_ret ?_ | refine seqQ_exit ?_ | refine blkQ_norm ?_ | refine blkQ_ret ?_ | refine blkQ_exit ?_ | refine loopQ_norm ?_ | refine loopQ_exit ?_ | refine loopQ_ret ?_ | refine endQ_ret ?_ | refine endQ_norm ?_ | refine endE_ret ?_ | refine endE_norm ?_ | refine endI_ret ?_ | refine endI_norm ?_)
    | (with_reducible refine wp_regK fun K hK => ?_
       simp[g1]
       repeat' (with_reducible first | refine hK _ ?_ | (refine psel ?_ ?_ <;> (intro hc; (try rw [Decidable.not_not] at hc); first | (exfalso; omega) | (try simp [hc, g1]))))
       all_goals (clear hK; clear K))
    | (with_reducible refine wp_condE ?_
       refine ⟨_, rfl, ?_, ?_⟩ <;> (intro hc; (try simp at hc); (all_goals first | (exfalso; omega) | skip))))
  · simp [pf111]
  have q1 := s1 (by omega)
  obtain ⟨hsm_aW_C_Cols, hsm_aW_Dd_L, hsm_aW_B, hsms_aW_B, hsm_aW_M, hsm_aW_X, hsm_aW_P, hsm_aW_Tasks, hsms_aW_Tasks, hsm_aW_Deeds, hsms_aW_Deeds⟩ := q1
  repeat' (first
    | with_reducible (first | refine wp_seq ?_ | refine wp_blk ?_ | refine wp_skip ?_ | refine wp_exit ?_ | refine wp_ret ?_ | refine seqQ_norm ?_ | refine seqQ_ret ?_ | refine seqQ_exit ?_ | refine blkQ_norm ?_ | refine blkQ_ret ?_ | refine blkQ_exit ?_ | refine loopQ_norm ?_ | refine loopQ_exit ?_ | refine loopQ_ret ?_ | refine endQ_ret ?_ | refine endQ_norm ?_ | refine endE_ret ?_ | refine endE_norm ?_ | refine endI_ret ?_ | refine endI_norm ?_)
    | (with_reducible refine wp_regK fun K hK => ?_
       simp[hsm_aW_C_Cols, hsm_aW_Dd_L, hsm_aW_B, hsms_aW_B, hsm_aW_M, hsm_aW_X, hsm_aW_P, hsm_aW_Tasks, hsms_aW_Tasks, hsm_aW_Deeds, hsms_aW_Deeds]
       repeat' (with_reducible first | refine hK _ ?_ | (refine psel ?_ ?_ <;> (intro hc; (try rw [Decidable.not_not] at hc); first | (exfalso; omega) | (try simp [hc, hsm_aW_C_Cols, hsm_aW_Dd_L, hsm_aW_B, hsms_aW_B, hsm_aW_M, hsm_aW_X, hsm_aW_P, hsm_aW_Tasks, hsms_aW_Tasks, hsm_aW_Deeds, hsms_aW_Deeds]))))
       all_goals (clear hK; clear K))
    | (with_reducible refine wp_condE ?_
       refine ⟨_, rfl, ?_, ?_⟩ <;> (intro hc; (try simp at hc); (all_goals first | (exfalso; omega) | skip))))
  all_goals first | (simp [pf111]; done) | (simp_all [pf111]; done)

end Go.Proofs.Ytnadnanmgakkfaa.OM
