/- What the functions answer. -/
import Derived.Test.YtnadnanmgakkfaaXLastPartLm0
set_option linter.all false
namespace Go.Proofs.Ytnadnanmgakkfaa.OM
set_option maxHeartbeats 4000000
set_option maxRecDepth 100000

theorem t233 (k0 : Bool) (x_C_Cols : List Int) (x_C_Slots : Int) (x_C_Bufs : Int) (x_Time : Int) (x_T : Int) (x_E : Int) (x_Dd_Ver : Int) (x_Dd_L : List XRef) (x_B : List XBuf) (x_M : List Int) (x_X : List XDead) (x_P : List Int) (x_Tasks : List XTask) (x_Deeds : List XDeed) (left : Int) (h0 : 0 ≤ left) (h1 : left ≤ 1048576) (hok_x_C_Cols : x_C_Cols.length ≤ 9223372036854775807) (hok_x_Dd_L : x_Dd_L.length ≤ 9223372036854775807) (hok_x_B : x_B.length ≤ 9223372036854775807) (hoks_x_B : XBuf.oks x_B) (hok_x_M : x_M.length ≤ 9223372036854775807) (hok_x_X : x_X.length ≤ 9223372036854775807) (hok_x_P : x_P.length ≤ 9223372036854775807) (hok_x_Tasks : x_Tasks.length ≤ 9223372036854775807) (hoks_x_Tasks : XTask.oks x_Tasks) (hok_x_Deeds : x_Deeds.length ≤ 9223372036854775807) (hoks_x_Deeds : XDeed.oks x_Deeds) :
    ∃ n, Gw TT 233 [.st [.ro k0 (.sl 1 (x_C_Cols.map ei)), .ro false (di x_C_Slots), .ro false (di x_C_Bufs), .ro false (di x_Time), .ro false (di x_T), .ro false (di x_E), .ro false (di x_Dd_Ver), .ro k0 (.sl 5 (x_Dd_L.map XRef.e)), .ro k0 (.sl 5 (x_B.map XBuf.e)), .ro k0 (.sl 1 (x_M.map ei)), .ro k0 (.sl 3 (x_X.map XDead.e)), .ro k0 (.sl 1 (x_P.map ei)), .ro k0 (.sl 25 (x_Tasks.map XTask.e)), .ro k0 (.sl 25 (x_Deeds.map XDeed.e))], vi left] = some (vi n, []) ∧ -1 ≤ n ∧ n ≤ left ∧ (0 ≤ n → x_C_Cols.length ≤ 1048576 ∧ x_Dd_L.length ≤ 1048576 ∧ x_B.length ≤ 1048576 ∧ XBuf.sms x_B ∧ x_M.length ≤ 1048576 ∧ x_X.length ≤ 1048576 ∧ x_P.length ≤ 1048576 ∧ x_Tasks.length ≤ 1048576 ∧ XTask.sms x_Tasks ∧ x_Deeds.length ≤ 1048576 ∧ XDeed.sms x_Deeds) := by
  refine Gw_ofI (F := pf233) rfl rfl ?_
  show Wp _ pb233 _ _
  unfold pb233
  obtain ⟨n1, g1, a1, b1, s1⟩ := t214 k0 x_C_Cols x_C_Slots x_C_Bufs left (by omega) (by omega) hok_x_C_Cols
  repeat' (first
    | with_reducible (first | refine wp_seq ?_ | refine wp_blk ?_ | refine wp_skip ?_ | refine wp_exit ?_ | refine wp_ret ?_ | refine seqQ_norm ?_ | refine seqQ_ret ?_ | refine seqQ_exit ?_ | refine blkQ_norm ?_ | refine blkQ_ret ?_ | refine blkQ_exit ?_ | refine loopQ_norm ?_ | refine loopQ_exit ?_ | refine loopQ_ret ?_ | refine endQ_ret ?_ | refine endQ_norm ?_ | refine endE_ret ?_ | refine endE_norm ?_ | refine endI_ret ?_ | refine endI_norm ?_)
    | (with_reducible refine wp_regK fun K hK => ?_
       simp[g1]
       repeat' (with_reducible first | refine hK _ ?_ | (refine psel ?_ ?_ <;> (intro hc; (try rw [Decidable.not_not] at hc); first | (exfalso; omega) | (try simp [hc, g1]))))
       all_goals (clear hK; clear K))
    | (with_reducible refine wp_condE ?_
       refine ⟨_, rfl, ?_, ?_⟩ <;> (intro hc; (try simp at hc); (all_goals first | (exfalso; omega) | skip))))
  · exact ⟨-1, by simp [pf233], by omega, by omega, fun h => absurd h (by omega)⟩
  obtain ⟨n2, g2, a2, b2, s2⟩ := t218 k0 x_Dd_Ver x_Dd_L n1 (by omega) (by omega) hok_x_Dd_L
  repeat' (first
    | with_reducible (first | refine wp_seq ?_ | refine wp_blk ?_ | refine wp_skip ?_ | refine wp_exit ?_ | refine wp_ret ?_ | refine seqQ_norm ?_ | refine seqQ_ret ?_ | refine seqQ_exit ?_ | refine blkQ_norm ?_ | refine blkQ_ret ?_ | refine blkQ_exit ?_ | refine loopQ_norm ?_ | refine loopQ_exit ?_ | refine loopQ_ret ?_ | refine endQ_ret ?_ | refine endQ_norm ?_ | refine endE_ret ?_ | refine endE_norm ?_ | refine endI_ret ?_ | refine endI_norm ?_)
    | (with_reducible refine wp_regK fun K hK => ?_
       simp[g2]
       repeat' (with_reducible first | refine hK _ ?_ | (refine psel ?_ ?_ <;> (intro hc; (try rw [Decidable.not_not] at hc); first | (exfalso; omega) | (try simp [hc, g2]))))
       all_goals (clear hK; clear K))
    | (with_reducible refine wp_condE ?_
       refine ⟨_, rfl, ?_, ?_⟩ <;> (intro hc; (try simp at hc); (all_goals first | (exfalso; omega) | skip))))
  · exact ⟨-1, by simp [pf233], by omega, by omega, fun h => absurd h (by omega)⟩
  obtain ⟨n3, g3, a3, b3, s3⟩ := t211 k0 x_B n2 (by omega) (by omega) hok_x_B hoks_x_B
  repeat' (first
    | with_reducible (first | refine wp_seq ?_ | refine wp_blk ?_ | refine wp_skip ?_ | refine wp_exit ?_ | refine wp_ret ?_ | refine seqQ_norm ?_ | refine seqQ_ret ?_ | refine seqQ_exit ?_ | refine blkQ_norm ?_ | refine blkQ_ret ?_ | refine blkQ_exit ?_ | refine loopQ_norm ?_ | refine loopQ_exit ?_ | refine loopQ_ret ?_ | refine endQ_ret ?_ | refine endQ_norm ?_ | refine endE_ret ?_ | refine endE_norm ?_ | refine endI_ret ?_ | refine endI_norm ?_)
    | (with_reducible refine wp_regK fun K hK => ?_
       simp[g3]
       repeat' (with_reducible first | refine hK _ ?_ | (refine psel ?_ ?_ <;> (intro hc; (try rw [Decidable.not_not] at hc); first | (exfalso; omega) | (try simp [hc, g3]))))
       all_goals (clear hK; clear K))
    | (with_reducible refine wp_condE ?_
       refine ⟨_, rfl, ?_, ?_⟩ <;> (intro hc; (try simp at hc); (all_goals first | (exfalso; omega) | skip))))
  · exact ⟨-1, by simp [pf233], by omega, by omega, fun h => absurd h (by omega)⟩
  obtain ⟨n4, g4, a4, b4, s4⟩ := t219 k0 x_M n3 (by omega) (by omega) hok_x_M
  repeat' (first
    | with_reducible (first | refine wp_seq ?_ | refine wp_blk ?_ | refine wp_skip ?_ | refine wp_exit ?_ | refine wp_ret ?_ | refine seqQ_norm ?_ | refine seqQ_ret ?_ | refine seqQ_exit ?_ | refine blkQ_norm ?_ | refine blkQ_ret ?_ | refine blkQ_exit ?_ | refine loopQ_norm ?_ | refine loopQ_exit ?_ | refine loopQ_ret ?_ | refine endQ_ret ?_ | refine endQ_norm ?_ | refine endE_ret ?_ | refine endE_norm ?_ | refine endI_ret ?_ | refine endI_norm ?_)
    | (with_reducible refine wp_regK fun K hK => ?_
       simp[g4]
       repeat' (with_reducible first | refine hK _ ?_ | (refine psel ?_ ?_ <;> (intro hc; (try rw [Decidable.not_not] at hc); first | (exfalso; omega) | (try simp [hc, g4]))))
       all_goals (clear hK; clear K))
    | (with_reducible refine wp_condE ?_
       refine ⟨_, rfl, ?_, ?_⟩ <;> (intro hc; (try simp at hc); (all_goals first | (exfalso; omega) | skip))))
  · exact ⟨-1, by simp [pf233], by omega, by omega, fun h => absurd h (by omega)⟩
  obtain ⟨n5, g5, a5, b5, s5⟩ := t215 k0 x_X n4 (by omega) (by omega) hok_x_X
  repeat' (first
    | with_reducible (first | refine wp_seq ?_ | refine wp_blk ?_ | refine wp_skip ?_ | refine wp_exit ?_ | refine wp_ret ?_ | refine seqQ_norm ?_ | refine seqQ_ret ?_ | refine seqQ_exit ?_ | refine blkQ_norm ?_ | refine blkQ_ret ?_ | refine blkQ_exit ?_ | refine loopQ_norm ?_ | refine loopQ_exit ?_ | refine loopQ_ret ?_ | refine endQ_ret ?_ | refine endQ_norm ?_ | refine endE_ret ?_ | refine endE_norm ?_ | refine endI_ret ?_ | refine endI_norm ?_)
    | (with_reducible refine wp_regK fun K hK => ?_
       simp[g5]
       repeat' (with_reducible first | refine hK _ ?_ | (refine psel ?_ ?_ <;> (intro hc; (try rw [Decidable.not_not] at hc); first | (exfalso; omega) | (try simp [hc, g5]))))
       all_goals (clear hK; clear K))
    | (with_reducible refine wp_condE ?_
       refine ⟨_, rfl, ?_, ?_⟩ <;> (intro hc; (try simp at hc); (all_goals first | (exfalso; omega) | skip))))
  · exact ⟨-1, by simp [pf233], by omega, by omega, fun h => absurd h (by omega)⟩
  obtain ⟨n6, g6, a6, b6, s6⟩ := t219 k0 x_P n5 (by omega) (by omega) hok_x_P
  repeat' (first
    | with_reducible (first | refine wp_seq ?_ | refine wp_blk ?_ | refine wp_skip ?_ | refine wp_exit ?_ | refine wp_ret ?_ | refine seqQ_norm ?_ | refine seqQ_ret ?_ | refine seqQ_exit ?_ | refine blkQ_norm ?_ | refine blkQ_ret ?_ | refine blkQ_exit ?_ | refine loopQ_norm ?_ | refine loopQ_exit ?_ | refine loopQ_ret ?_ | refine endQ_ret ?_ | refine endQ_norm ?_ | refine endE_ret ?_ | refine endE_norm ?_ | refine endI_ret ?_ | refine endI_norm ?_)
    | (with_reducible refine wp_regK fun K hK => ?_
       simp[g6]
       repeat' (with_reducible first | refine hK _ ?_ | (refine psel ?_ ?_ <;> (intro hc; (try rw [Decidable.not_not] at hc); first | (exfalso; omega) | (try simp [hc, g6]))))
       all_goals (clear hK; clear K))
    | (with_reducible refine wp_condE ?_
       refine ⟨_, rfl, ?_, ?_⟩ <;> (intro hc; (try simp at hc); (all_goals first | (exfalso; omega) | skip))))
  · exact ⟨-1, by simp [pf233], by omega, by omega, fun h => absurd h (by omega)⟩
  obtain ⟨n7, g7, a7, b7, s7⟩ := t230 k0 x_Tasks n6 (by omega) (by omega) hok_x_Tasks hoks_x_Tasks
  repeat' (first
    | with_reducible (first | refine wp_seq ?_ | refine wp_blk ?_ | refine wp_skip ?_ | refine wp_exit ?_ | refine wp_ret ?_ | refine seqQ_norm ?_ | refine seqQ_ret ?_ | refine seqQ_exit ?_ | refine blkQ_norm ?_ | refine blkQ_ret ?_ | refine blkQ_exit ?_ | refine loopQ_norm ?_ | refine loopQ_exit ?_ | refine loopQ_ret ?_ | refine endQ_ret ?_ | refine endQ_norm ?_ | refine endE_ret ?_ | refine endE_norm ?_ | refine endI_ret ?_ | refine endI_norm ?_)
    | (with_reducible refine wp_regK fun K hK => ?_
       simp[g7]
       repeat' (with_reducible first | refine hK _ ?_ | (refine psel ?_ ?_ <;> (intro hc; (try rw [Decidable.not_not] at hc); first | (exfalso; omega) | (try simp [hc, g7]))))
       all_goals (clear hK; clear K))
    | (with_reducible refine wp_condE ?_
       refine ⟨_, rfl, ?_, ?_⟩ <;> (intro hc; (try simp at hc); (all_goals first | (exfalso; omega) | skip))))
  · exact ⟨-1, by simp [pf233], by omega, by omega, fun h => absurd h (by omega)⟩
  obtain ⟨n8, g8, a8, b8, s8⟩ := t217 k0 x_Deeds n7 (by omega) (by omega) hok_x_Deeds hoks_x_Deeds
  repeat' (first
    | with_reducible (first | refine wp_seq ?_ | refine wp_blk ?_ | refine wp_skip ?_ | refine wp_exit ?_ | refine wp_ret ?_ | refine seqQ_norm ?_ | refine seqQ_ret ?_ | refine seqQ_exit ?_ | refine blkQ_norm ?_ | refine blkQ_ret ?_ | refine blkQ_exit ?_ | refine loopQ_norm ?_ | refine loopQ_exit ?_ | refine loopQ_ret ?_ | refine endQ_ret ?_ | refine endQ_norm ?_ | refine endE_ret ?_ | refine endE_norm ?_ | refine endI_ret ?_ | refine endI_norm ?_)
    | (with_reducible refine wp_regK fun K hK => ?_
       simp[g8]
       repeat' (with_reducible first | refine hK _ ?_ | (refine psel ?_ ?_ <;> (intro hc; (try rw [Decidable.not_not] at hc); first | (exfalso; omega) | (try simp [hc, g8]))))
       all_goals (clear hK; clear K))
    | (with_reducible refine wp_condE ?_
       refine ⟨_, rfl, ?_, ?_⟩ <;> (intro hc; (try simp at hc); (all_goals first | (exfalso; omega) | skip))))
  · exact ⟨-1, by simp [pf233], by omega, by omega, fun h => absurd h (by omega)⟩
  · exact ⟨n8, by simp [pf233], by omega, by omega, fun _ => ⟨(s1 (by omega)), (s2 (by omega)), (s3 (by omega)).1, (s3 (by omega)).2, (s4 (by omega)), (s5 (by omega)), (s6 (by omega)), (s7 (by omega)).1, (s7 (by omega)).2, (s8 (by omega)).1, (s8 (by omega)).2⟩⟩

def lastRef (l : List XRef) : XRef := match l.getLast? with
  | none => ⟨0, 0, 0, 0, 0⟩
  | some r => r

@[simp] theorem t28 (k0 : Bool) (x_C_Cols : List Int) (x_C_Slots : Int) (x_C_Bufs : Int) (x_Time : Int) (x_T : Int) (x_E : Int) (x_Dd_Ver : Int) (x_Dd_L : List XRef) (x_B : List XBuf) (x_M : List Int) (x_X : List XDead) (x_P : List Int) (x_Tasks : List XTask) (x_Deeds : List XDeed) (h : x_Dd_L.length ≤ 1048576) : Gw TT 28 [.st [.ro k0 (.sl 1 (x_C_Cols.map ei)), .ro false (di x_C_Slots), .ro false (di x_C_Bufs), .ro false (di x_Time), .ro false (di x_T), .ro false (di x_E), .ro false (di x_Dd_Ver), .ro k0 (.sl 5 (x_Dd_L.map XRef.e)), .ro k0 (.sl 5 (x_B.map XBuf.e)), .ro k0 (.sl 1 (x_M.map ei)), .ro k0 (.sl 3 (x_X.map XDead.e)), .ro k0 (.sl 1 (x_P.map ei)), .ro k0 (.sl 25 (x_Tasks.map XTask.e)), .ro k0 (.sl 25 (x_Deeds.map XDeed.e))]] = some (.tup [.st [.ro false (di (lastRef x_Dd_L).Buf), .ro false (di (lastRef x_Dd_L).Gen), .ro false (di (lastRef x_Dd_L).Kind), .ro false (di (lastRef x_Dd_L).First), .ro false (di (lastRef x_Dd_L).Many)], vb (!x_Dd_L.isEmpty)], []) := by
  refine Gw_of (F := pf28) rfl rfl ?_
  show Wp _ pb28 _ _
  unfold pb28
  rcases List.eq_nil_or_concat x_Dd_L with rfl | ⟨pre, r, rfl⟩
  · repeat' (first
      | with_reducible (first | refine wp_seq ?_ | refine wp_blk ?_ | refine wp_skip ?_ | refine wp_exit ?_ | refine wp_ret ?_ | refine seqQ_norm ?_ | refine seqQ_ret ?_ | refine seqQ_exit ?_ | refine blkQ_norm ?_ | refine blkQ_ret ?_ | refine blkQ_exit ?_ | refine loopQ_norm ?_ | refine loopQ_exit ?_ | refine loopQ_ret ?_ | refine endQ_ret ?_ | refine endQ_norm ?_ | refine endE_ret ?_ | refine endE_norm ?_ | refine endI_ret ?_ | refine endI_norm ?_)
      | (with_reducible refine wp_regK fun K hK => ?_
         simp
         repeat' (with_reducible first | refine hK _ ?_ | (refine psel ?_ ?_ <;> (intro hc; (try rw [Decidable.not_not] at hc); first | (exfalso; omega) | (try simp [hc]))))
         all_goals (clear hK; clear K))
      | (with_reducible refine wp_condE ?_
         refine ⟨_, rfl, ?_, ?_⟩ <;> (intro hc; (try simp at hc); (all_goals first | (exfalso; omega) | skip))))
    all_goals simp [pf28, lastRef]
  · simp only [List.concat_eq_append, List.length_append, List.length_cons, List.length_nil] at h
    have hw : IntKind.wrap .i64 (pre.length : Int) = (pre.length : Int) := wrap_i64 (by omega) (by omega)
    repeat' (first
      | with_reducible (first | refine wp_seq ?_ | refine wp_blk ?_ | refine wp_skip ?_ | refine wp_exit ?_ | refine wp_ret ?_ | refine seqQ_norm ?_ | refine seqQ_ret ?_ | refine seqQ_exit ?_ | refine blkQ_norm ?_ | refine blkQ_ret ?_ | refine blkQ_exit ?_ | refine loopQ_norm ?_ | refine loopQ_exit ?_ | refine loopQ_ret ?_ | refine endQ_ret ?_ | refine endQ_norm ?_ | refine endE_ret ?_ | refine endE_norm ?_ | refine endI_ret ?_ | refine endI_norm ?_)
      | (with_reducible refine wp_regK fun K hK => ?_
         simp[hw]
         repeat' (with_reducible first | refine hK _ ?_ | (refine psel ?_ ?_ <;> (intro hc; (try rw [Decidable.not_not] at hc); first | (exfalso; omega) | (try simp [hc, hw]))))
         all_goals (clear hK; clear K))
      | (with_reducible refine wp_condE ?_
         refine ⟨_, rfl, ?_, ?_⟩ <;> (intro hc; (try simp at hc); (all_goals first | (exfalso; omega) | skip))))
    all_goals first | (simp [pf28, lastRef]; done) | (exfalso; omega)

@[simp] theorem t307 (k0 : Bool) (x_C_Cols : List Int) (x_C_Slots : Int) (x_C_Bufs : Int) (x_Time : Int) (x_T : Int) (x_E : Int) (x_Dd_Ver : Int) (x_Dd_L : List XRef) (x_B : List XBuf) (x_M : List Int) (x_X : List XDead) (x_P : List Int) (x_Tasks : List XTask) (x_Deeds : List XDeed) (h : x_Dd_L.length ≤ 1048576) : Gw TT 307 [.st [.ro k0 (.sl 1 (x_C_Cols.map ei)), .ro false (di x_C_Slots), .ro false (di x_C_Bufs), .ro false (di x_Time), .ro false (di x_T), .ro false (di x_E), .ro false (di x_Dd_Ver), .ro k0 (.sl 5 (x_Dd_L.map XRef.e)), .ro k0 (.sl 5 (x_B.map XBuf.e)), .ro k0 (.sl 1 (x_M.map ei)), .ro k0 (.sl 3 (x_X.map XDead.e)), .ro k0 (.sl 1 (x_P.map ei)), .ro k0 (.sl 25 (x_Tasks.map XTask.e)), .ro k0 (.sl 25 (x_Deeds.map XDeed.e))]] = some (.tup [.st [.ro false (di (lastRef x_Dd_L).Buf), .ro false (di (lastRef x_Dd_L).Gen), .ro false (di (lastRef x_Dd_L).Kind), .ro false (di (lastRef x_Dd_L).First), .ro false (di (lastRef x_Dd_L).Many)], vb (!x_Dd_L.isEmpty)], []) := by
  refine Gw_of (F := pf307) rfl rfl ?_
  show Wp _ pb307 _ _
  unfold pb307
  rcases List.eq_nil_or_concat x_Dd_L with rfl | ⟨pre, r, rfl⟩
  · repeat' (first
      | with_reducible (first | refine wp_seq ?_ | refine wp_blk ?_ | refine wp_skip ?_ | refine wp_exit ?_ | refine wp_ret ?_ | refine seqQ_norm ?_ | refine seqQ_ret ?_ | refine seqQ_exit ?_ | refine blkQ_norm ?_ | refine blkQ_ret ?_ | refine blkQ_exit ?_ | refine loopQ_norm ?_ | refine loopQ_exit ?_ | refine loopQ_ret ?_ | refine endQ_ret ?_ | refine endQ_norm ?_ | refine endE_ret ?_ | refine endE_norm ?_ | refine endI_ret ?_ | refine endI_norm ?_)
      | (with_reducible refine wp_regK fun K hK => ?_
         simp
         repeat' (with_reducible first | refine hK _ ?_ | (refine psel ?_ ?_ <;> (intro hc; (try rw [Decidable.not_not] at hc); first | (exfalso; omega) | (try simp [hc]))))
         all_goals (clear hK; clear K))
      | (with_reducible refine wp_condE ?_
         refine ⟨_, rfl, ?_, ?_⟩ <;> (intro hc; (try simp at hc); (all_goals first | (exfalso; omega) | skip))))
    all_goals simp [pf307, lastRef]
  · simp only [List.concat_eq_append, List.length_append, List.length_cons, List.length_nil] at h
    have hw : IntKind.wrap .i64 (pre.length : Int) = (pre.length : Int) := wrap_i64 (by omega) (by omega)
    repeat' (first
      | with_reducible (first | refine wp_seq ?_ | refine wp_blk ?_ | refine wp_skip ?_ | refine wp_exit ?_ | refine wp_ret ?_ | refine seqQ_norm ?_ | refine seqQ_ret ?_ | refine seqQ_exit ?_ | refine blkQ_norm ?_ | refine blkQ_ret ?_ | refine blkQ_exit ?_ | refine loopQ_norm ?_ | refine loopQ_exit ?_ | refine loopQ_ret ?_ | refine endQ_ret ?_ | refine endQ_norm ?_ | refine endE_ret ?_ | refine endE_norm ?_ | refine endI_ret ?_ | refine endI_norm ?_)
      | (with_reducible refine wp_regK fun K hK => ?_
         simp[hw]
         repeat' (with_reducible first | refine hK _ ?_ | (refine psel ?_ ?_ <;> (intro hc; (try rw [Decidable.not_not] at hc); first | (exfalso; omega) | (try simp [hc, hw]))))
         all_goals (clear hK; clear K))
      | (with_reducible refine wp_condE ?_
         refine ⟨_, rfl, ?_, ?_⟩ <;> (intro hc; (try simp at hc); (all_goals first | (exfalso; omega) | skip))))
    all_goals first | (simp [pf307, lastRef]; done) | (exfalso; omega)

theorem t109 (aW_C_Cols : List Int) (aW_C_Slots : Int) (aW_C_Bufs : Int) (aW_Time : Int) (aW_T : Int) (aW_E : Int) (aW_Dd_Ver : Int) (aW_Dd_L : List XRef) (aW_B : List XBuf) (aW_M : List Int) (aW_X : List XDead) (aW_P : List Int) (aW_Tasks : List XTask) (aW_Deeds : List XDeed) (hok_aW_C_Cols : aW_C_Cols.length ≤ 9223372036854775807) (hok_aW_Dd_L : aW_Dd_L.length ≤ 9223372036854775807) (hok_aW_B : aW_B.length ≤ 9223372036854775807) (hoks_aW_B : XBuf.oks aW_B) (hok_aW_M : aW_M.length ≤ 9223372036854775807) (hok_aW_X : aW_X.length ≤ 9223372036854775807) (hok_aW_P : aW_P.length ≤ 9223372036854775807) (hok_aW_Tasks : aW_Tasks.length ≤ 9223372036854775807) (hoks_aW_Tasks : XTask.oks aW_Tasks) (hok_aW_Deeds : aW_Deeds.length ≤ 9223372036854775807) (hoks_aW_Deeds : XDeed.oks aW_Deeds) : Gw TT 109 [.st [.ro false (.sl 1 (aW_C_Cols.map ei)), .ro false (di aW_C_Slots), .ro false (di aW_C_Bufs), .ro false (di aW_Time), .ro false (di aW_T), .ro false (di aW_E), .ro false (di aW_Dd_Ver), .ro false (.sl 5 (aW_Dd_L.map XRef.e)), .ro false (.sl 5 (aW_B.map XBuf.e)), .ro false (.sl 1 (aW_M.map ei)), .ro false (.sl 3 (aW_X.map XDead.e)), .ro false (.sl 1 (aW_P.map ei)), .ro false (.sl 25 (aW_Tasks.map XTask.e)), .ro false (.sl 25 (aW_Deeds.map XDeed.e))]] = some (vb true, []) := by
  refine Gw_of (F := pf109) rfl rfl ?_
  show Wp _ pb109 _ _
  unfold pb109
  obtain ⟨n1, g1, a1, b1, s1⟩ := t233 false aW_C_Cols aW_C_Slots aW_C_Bufs aW_Time aW_T aW_E aW_Dd_Ver aW_Dd_L aW_B aW_M aW_X aW_P aW_Tasks aW_Deeds 1048576 (by omega) (by omega) hok_aW_C_Cols hok_aW_Dd_L hok_aW_B hoks_aW_B hok_aW_M hok_aW_X hok_aW_P hok_aW_Tasks hoks_aW_Tasks hok_aW_Deeds hoks_aW_Deeds
  repeat' (first
    | with_reducible (first | refine wp_seq ?_ | refine wp_blk ?_ | refine wp_skip ?_ | refine wp_exit ?_ | refine wp_ret ?_ | refine seqQ_norm ?_ | refine seqQ_ret ?_ | refine seqQ_exit ?_ | refine blkQ_norm ?_ | refine blkQ_ret ?_ | refine blkQ_exit ?_ | refine loopQ_norm ?_ | refine loopQ_exit ?_ | refine loopQ_ret ?_ | refine endQ_ret ?_ | refine endQ_norm ?_ | refine endE_ret ?_ | refine endE_norm ?_ | refine endI_ret ?_ | refine endI_norm ?_)
    | (with_reducible refine wp_regK fun K hK => ?_
       simp[g1]
       repeat' (with_reducible first | refine hK _ ?_ | (refine psel ?_ ?_ <;> (intro hc; (try rw [Decidable.not_not] at hc); first | (exfalso; omega) | (try simp [hc, g1]))))
       all_goals (clear hK; clear K))
    | (with_reducible refine wp_condE ?_
       refine ⟨_, rfl, ?_, ?_⟩ <;> (intro hc; (try simp at hc); (all_goals first | (exfalso; omega) | skip))))
  · simp [pf109]
  have q1 := s1 (by omega)
  obtain ⟨hsm_aW_C_Cols, hsm_aW_Dd_L, hsm_aW_B, hsms_aW_B, hsm_aW_M, hsm_aW_X, hsm_aW_P, hsm_aW_Tasks, hsms_aW_Tasks, hsm_aW_Deeds, hsms_aW_Deeds⟩ := q1
  repeat' (first
    | with_reducible (first | refine wp_seq ?_ | refine wp_blk ?_ | refine wp_skip ?_ | refine wp_exit ?_ | refine wp_ret ?_ | refine seqQ_norm ?_ | refine seqQ_ret ?_ | refine seqQ_exit ?_ | refine blkQ_norm ?_ | refine blkQ_ret ?_ | refine blkQ_exit ?_ | refine loopQ_norm ?_ | refine loopQ_exit ?_ | refine loopQ_ret ?_ | refine endQ_ret ?_ | refine endQ_norm ?_ | refine endE_ret ?_ | refine endE_norm ?_ | refine endI_ret ?_ | refine endI_norm ?_)
    | (with_reducible refine wp_regK fun K hK => ?_
       simp[hsm_aW_C_Cols, hsm_aW_Dd_L, hsm_aW_B, hsms_aW_B, hsm_aW_M, hsm_aW_X, hsm_aW_P, hsm_aW_Tasks, hsms_aW_Tasks, hsm_aW_Deeds, hsms_aW_Deeds]
       repeat' (with_reducible first | refine hK _ ?_ | (refine psel ?_ ?_ <;> (intro hc; (try rw [Decidable.not_not] at hc); first | (exfalso; omega) | (try simp [hc, hsm_aW_C_Cols, hsm_aW_Dd_L, hsm_aW_B, hsms_aW_B, hsm_aW_M, hsm_aW_X, hsm_aW_P, hsm_aW_Tasks, hsms_aW_Tasks, hsm_aW_Deeds, hsms_aW_Deeds]))))
       all_goals (clear hK; clear K))
    | (with_reducible refine wp_condE ?_
       refine ⟨_, rfl, ?_, ?_⟩ <;> (intro hc; (try simp at hc); (all_goals first | (exfalso; omega) | skip))))
  all_goals first | (simp [pf109]; done) | (simp_all [pf109]; done)

end Go.Proofs.Ytnadnanmgakkfaa.OM
