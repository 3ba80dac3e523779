/- What the functions answer. -/
import Derived.Test.YtkgibccknlbiaaaXOpenSlotsLm0
set_option linter.all false
namespace Go.Proofs.Ytkgibccknlbiaaa.OM
set_option maxHeartbeats 4000000
set_option maxRecDepth 100000

theorem t233 (k0 : Bool) (x_C_Cols : List Int) (x_C_Slots : Int) (x_C_Bufs : Int) (x_Time : Int) (x_T : Int) (x_E : Int) (x_Dd_Ver : Int) (x_Dd_L : List XRef) (x_B : List XBuf) (x_M : List Int) (x_X : List XDead) (x_P : List Int) (x_Tasks : List XTask) (x_Deeds : List XDeed) (left : Int) (h0 : 0 ≤ left) (h1 : left ≤ 1048576) (hok_x_C_Cols : x_C_Cols.length ≤ 9223372036854775807) (hok_x_Dd_L : x_Dd_L.length ≤ 9223372036854775807) (hok_x_B : x_B.length ≤ 9223372036854775807) (hoks_x_B : XBuf.oks x_B) (hok_x_M : x_M.length ≤ 9223372036854775807) (hok_x_X : x_X.length ≤ 9223372036854775807) (hok_x_P : x_P.length ≤ 9223372036854775807) (hok_x_Tasks : x_Tasks.length ≤ 9223372036854775807) (hoks_x_Tasks : XTask.oks x_Tasks) (hok_x_Deeds : x_Deeds.length ≤ 9223372036854775807) (hoks_x_Deeds : XDeed.oks x_Deeds) :
    ∃ n, Gw TT 233 [.st [.ro k0 (.sl 1 (x_C_Cols.map ei)), .ro false (di x_C_Slots), .ro false (di x_C_Bufs), .ro false (di x_Time), .ro false (di x_T), .ro false (di x_E), .ro false (di x_Dd_Ver), .ro k0 (.sl 5 (x_Dd_L.map XRef.e)), .ro k0 (.sl 5 (x_B.map XBuf.e)), .ro k0 (.sl 1 (x_M.map ei)), .ro k0 (.sl 3 (x_X.map XDead.e)), .ro k0 (.sl 1 (x_P.map ei)), .ro k0 (.sl 25 (x_Tasks.map XTask.e)), .ro k0 (.sl 25 (x_Deeds.map XDeed.e))], vi left] = some (vi n, []) ∧ -1 ≤ n ∧ n ≤ left ∧ (0 ≤ n → x_C_Cols.length ≤ 1048576 ∧ x_Dd_L.length ≤ 1048576 ∧ x_B.length ≤ 1048576 ∧ XBuf.sms x_B ∧ x_M.length ≤ 1048576 ∧ x_X.length ≤ 1048576 ∧ x_P.length ≤ 1048576 ∧ x_Tasks.length ≤ 1048576 ∧ XTask.sms x_Tasks ∧ x_Deeds.length ≤ 1048576 ∧ XDeed.sms x_Deeds) := by
  refine Gw_ofI (F := pf233) rfl rfl ?_
  show Wp _ pb233 _ _
  unfold pb233
  obtain ⟨n1, g1, a1, b1, s1⟩ := t214 k0 x_C_Cols x_C_Slots x_C_Bufs left (by omega) (by omega) hok_x_C_Cols
  repeat' (first
    | with_reducible (first | refine wp_seq ?_ | refine wp_blk ?_ | refine wp_skip ?_ | refine wp_exit ?_ | refine wp_ret ?_ | refine seqQ_norm ?_ | refine seqQ_ret ?_ | refine seqQ_exit ?_ | refine blkQ_norm ?_ | refine blkQ_ret ?_ | refine blkQ_exit ?_ | refine loopQ_norm ?_ | refine loopQ_exit ?_ | refine loopQ_ret ?_ | refine endQ_ret ?_ | refine endQ_norm ?_ | refine endE_ret ?_ | refine endE_norm ?_ | refine endI_ret ?_ | refine endI_norm ?_)
    | (with_reducible refine wp_regK fun K hK => ?_
       simp[g1]
       repeat' (with_reducible first | refine hK _ ?_ | (refine psel ?_ ?_ <;> (intro hc; (try rw [Decidable.not_not] at hc); first | (exfalso; omega) | (try simp [hc, g1]))))
       all_goals (clear hK; clear K))
    | (with_reducible refine wp_condE ?_
       refine ⟨_, rfl, ?_, ?_⟩ <;> (intro hc; (try simp at hc); (all_goals first | (exfalso; omega) | skip))))
  · exact ⟨-1, by simp [pf233], by omega, by omega, fun h => absurd h (by omega)⟩
  obtain ⟨n2, g2, a2, b2, s2⟩ := t218 k0 x_Dd_Ver x_Dd_L n1 (by omega) (by omega) hok_x_Dd_L
  repeat' (first
    | with_reducible (first | refine wp_seq ?_ | refine wp_blk ?_ | refine wp_skip ?_ | refine wp_exit ?_ | refine wp_ret ?_ | refine seqQ_norm ?_ | refine seqQ_ret ?_ | refine seqQ_exit ?_ | refine blkQ_norm ?_ | refine blkQ_ret ?_ | refine blkQ_exit ?_ | refine loopQ_norm ?_ | refine loopQ_exit ?_ | refine loopQ_ret ?_ | refine endQ_ret ?_ | refine endQ_norm ?_ | refine endE_ret ?_ | refine endE_norm ?_ | refine endI_ret ?_ | refine endI_norm ?_)
    | (with_reducible refine wp_regK fun K hK => ?_
       simp[g2]
       repeat' (with_reducible first | refine hK _ ?_ | (refine psel ?_ ?_ <;> (intro hc; (try rw [Decidable.not_not] at hc); first | (exfalso; omega) | (try simp [hc, g2]))))
       all_goals (clear hK; clear K))
    | (with_reducible refine wp_condE ?_
       refine ⟨_, rfl, ?_, ?_⟩ <;> (intro hc; (try simp at hc); (all_goals first | (exfalso; omega) | skip))))
  · exact ⟨-1, by simp [pf233], by omega, by omega, fun h => absurd h (by omega)⟩
  obtain ⟨n3, g3, a3, b3, s3⟩ := t211 k0 x_B n2 (by omega) (by omega) hok_x_B hoks_x_B
  repeat' (first
    | with_reducible (first | refine wp_seq ?_ | refine wp_blk ?_ | refine wp_skip ?_ | refine wp_exit ?_ | refine wp_ret ?_ | refine seqQ_norm ?_ | refine seqQ_ret ?_ | refine seqQ_exit ?_ | refine blkQ_norm ?_ | refine blkQ_ret ?_ | refine blkQ_exit ?_ | refine loopQ_norm ?_ | refine loopQ_exit ?_ | refine loopQ_ret ?_ | refine endQ_ret ?_ | refine endQ_norm ?_ | refine endE_ret ?_ | refine endE_norm ?_ | refine endI_ret ?_ | refine endI_norm ?_)
    | (with_reducible refine wp_regK fun K hK => ?_
       simp[g3]
       repeat' (with_reducible first | refine hK _ ?_ | (refine psel ?_ ?_ <;> (intro hc; (try rw [Decidable.not_not] at hc); first | (exfalso; omega) | (try simp [hc, g3]))))
       all_goals (clear hK; clear K))
    | (with_reducible refine wp_condE ?_
       refine ⟨_, rfl, ?_, ?_⟩ <;> (intro hc; (try simp at hc); (all_goals first | (exfalso; omega) | skip))))
  · exact ⟨-1, by simp [pf233], by omega, by omega, fun h => absurd h (by omega)⟩
  obtain ⟨n4, g4, a4, b4, s4⟩ := t219 k0 x_M n3 (by omega) (by omega) hok_x_M
  repeat' (first
    | with_reducible (first | refine wp_seq ?_ | refine wp_blk ?_ | refine wp_skip ?_ | refine wp_exit ?_ | refine wp_ret ?_ | refine seqQ_norm ?_ | refine seqQ_ret ?_ | refine seqQ_exit ?_ | refine blkQ_norm ?_ | refine blkQ_ret ?_ | refine blkQ_exit ?_ | refine loopQ_norm ?_ | refine loopQ_exit ?_ | refine loopQ_ret ?_ | refine endQ_ret ?_ | refine endQ_norm ?_ | refine endE_ret ?_ | refine endE_norm ?_ | refine endI_ret ?_ | refine endI_norm ?_)
    | (with_reducible refine wp_regK fun K hK => ?_
       simp[g4]
       repeat' (with_reducible first | refine hK _ ?_ | (refine psel ?_ ?_ <;> (intro hc; (try rw [Decidable.not_not] at hc); first | (exfalso; omega) | (try simp [hc, g4]))))
       all_goals (clear hK; clear K))
    | (with_reducible refine wp_condE ?_
       refine ⟨_, rfl, ?_, ?_⟩ <;> (intro hc; (try simp at hc); (all_goals first | (exfalso; omega) | skip))))
  · exact ⟨-1, by simp [pf233], by omega, by omega, fun h => absurd h (by omega)⟩
  obtain ⟨n5, g5, a5, b5, s5⟩ := t215 k0 x_X n4 (by omega) (by omega) hok_x_X
  repeat' (first
    | with_reducible (first | refine wp_seq ?_ | refine wp_blk ?_ | refine wp_skip ?_ | refine wp_exit ?_ | refine wp_ret ?_ | refine seqQ_norm ?_ | refine seqQ_ret ?_ | refine seqQ_exit ?_ | refine blkQ_norm ?_ | refine blkQ_ret ?_ | refine blkQ_exit ?_ | refine loopQ_norm ?_ | refine loopQ_exit ?_ | refine loopQ_ret ?_ | refine endQ_ret ?_ | refine endQ_norm ?_ | refine endE_ret ?_ | refine endE_norm ?_ | refine endI_ret ?_ | refine endI_norm ?_)
    | (with_reducible refine wp_regK fun K hK => ?_
       simp[g5]
       repeat' (with_reducible first | refine hK _ ?_ | (refine psel ?_ ?_ <;> (intro hc; (try rw [Decidable.not_not] at hc); first | (exfalso; omega) | (try simp [hc, g5]))))
       all_goals (clear hK; clear K))
    | (with_reducible refine wp_condE ?_
       refine ⟨_, rfl, ?_, ?_⟩ <;> (intro hc; (try simp at hc); (all_goals first | (exfalso; omega) | skip))))
  · exact ⟨-1, by simp [pf233], by omega, by omega, fun h => absurd h (by omega)⟩
  obtain ⟨n6, g6, a6, b6, s6⟩ := t219 k0 x_P n5 (by omega) (by omega) hok_x_P
  repeat' (first
    | with_reducible (first | refine wp_seq ?_ | refine wp_blk ?_ | refine wp_skip ?_ | refine wp_exit ?_ | refine wp_ret ?_ | refine seqQ_norm ?_ | refine seqQ_ret ?_ | refine seqQ_exit ?_ | refine blkQ_norm ?_ | refine blkQ_ret ?_ | refine blkQ_exit ?_ | refine loopQ_norm ?_ | refine loopQ_exit ?_ | refine loopQ_ret ?_ | refine endQ_ret ?_ | refine endQ_norm ?_ | refine endE_ret ?_ | refine endE_norm ?_ | refine endI_ret ?_ | refine endI_norm ?_)
    | (with_reducible refine wp_regK fun K hK => ?_
       simp[g6]
       repeat' (with_reducible first | refine hK _ ?_ | (refine psel ?_ ?_ <;> (intro hc; (try rw [Decidable.not_not] at hc); first | (exfalso; omega) | (try simp [hc, g6]))))
       all_goals (clear hK; clear K))
    | (with_reducible refine wp_condE ?_
       refine ⟨_, rfl, ?_, ?_⟩ <;> (intro hc; (try simp at hc); (all_goals first | (exfalso; omega) | skip))))
  · exact ⟨-1, by simp [pf233], by omega, by omega, fun h => absurd h (by omega)⟩
  obtain ⟨n7, g7, a7, b7, s7⟩ := t230 k0 x_Tasks n6 (by omega) (by omega) hok_x_Tasks hoks_x_Tasks
  repeat' (first
    | with_reducible (first | refine wp_seq ?_ | refine wp_blk ?_ | refine wp_skip ?_ | refine wp_exit ?_ | refine wp_ret ?_ | refine seqQ_norm ?_ | refine seqQ_ret ?_ | refine seqQ_exit ?_ | refine blkQ_norm ?_ | refine blkQ_ret ?_ | refine blkQ_exit ?_ | refine loopQ_norm ?_ | refine loopQ_exit ?_ | refine loopQ_ret ?_ | refine endQ_ret ?_ | refine endQ_norm ?_ | refine endE_ret ?_ | refine endE_norm ?_ | refine endI_ret ?_ | refine endI_norm ?_)
    | (with_reducible refine wp_regK fun K hK => ?_
       simp[g7]
       repeat' (with_reducible first | refine hK _ ?_ | (refine psel ?_ ?_ <;> (intro hc; (try rw [Decidable.not_not] at hc); first | (exfalso; omega) | (try simp [hc, g7]))))
       all_goals (clear hK; clear K))
    | (with_reducible refine wp_condE ?_
       refine ⟨_, rfl, ?_, ?_⟩ <;> (intro hc; (try simp at hc); (all_goals first | (exfalso; omega) | skip))))
  · exact ⟨-1, by simp [pf233], by omega, by omega, fun h => absurd h (by omega)⟩
  obtain ⟨n8, g8, a8, b8, s8⟩ := t217 k0 x_Deeds n7 (by omega) (by omega) hok_x_Deeds hoks_x_Deeds
  repeat' (first
    | with_reducible (first | refine wp_seq ?_ | refine wp_blk ?_ | refine wp_skip ?_ | refine wp_exit ?_ | refine wp_ret ?_ | refine seqQ_norm ?_ | refine seqQ_ret ?_ | refine seqQ_exit ?_ | refine blkQ_norm ?_ | refine blkQ_ret ?_ | refine blkQ_exit ?_ | refine loopQ_norm ?_ | refine loopQ_exit ?_ | refine loopQ_ret ?_ | refine endQ_ret ?_ | refine endQ_norm ?_ | refine endE_ret ?_ | refine endE_norm ?_ | refine endI_ret ?_ | refine endI_norm ?_)
    | (with_reducible refine wp_regK fun K hK => ?_
       simp[g8]
       repeat' (with_reducible first | refine hK _ ?_ | (refine psel ?_ ?_ <;> (intro hc; (try rw [Decidable.not_not] at hc); first | (exfalso; omega) | (try simp [hc, g8]))))
       all_goals (clear hK; clear K))
    | (with_reducible refine wp_condE ?_
       refine ⟨_, rfl, ?_, ?_⟩ <;> (intro hc; (try simp at hc); (all_goals first | (exfalso; omega) | skip))))
  · exact ⟨-1, by simp [pf233], by omega, by omega, fun h => absurd h (by omega)⟩
  · exact ⟨n8, by simp [pf233], by omega, by omega, fun _ => ⟨(s1 (by omega)), (s2 (by omega)), (s3 (by omega)).1, (s3 (by omega)).2, (s4 (by omega)), (s5 (by omega)), (s6 (by omega)), (s7 (by omega)).1, (s7 (by omega)).2, (s8 (by omega)).1, (s8 (by omega)).2⟩⟩

@[simp] theorem t377 (x a b : Int) : Gw TT 377 [vi x, vi a, vi b] = some (vb (decide (a ≤ x) && decide (x ≤ b)), []) := by
  refine Gw_of (F := pf377) rfl rfl ?_
  show Wp _ pb377 _ _
  unfold pb377
  repeat' (first
    | with_reducible (first | refine wp_seq ?_ | refine wp_blk ?_ | refine wp_skip ?_ | refine wp_exit ?_ | refine wp_ret ?_ | refine seqQ_norm ?_ | refine seqQ_ret ?_ | refine seqQ_exit ?_ | refine blkQ_norm ?_ | refine blkQ_ret ?_ | refine blkQ_exit ?_ | refine loopQ_norm ?_ | refine loopQ_exit ?_ | refine loopQ_ret ?_ | refine endQ_ret ?_ | refine endQ_norm ?_ | refine endE_ret ?_ | refine endE_norm ?_ | refine endI_ret ?_ | refine endI_norm ?_)
    | (with_reducible refine wp_regK fun K hK => ?_
       simp
       repeat' (with_reducible first | refine hK _ ?_ | (refine psel ?_ ?_ <;> (intro hc; (try rw [Decidable.not_not] at hc); first | (exfalso; omega) | (try simp [hc]))))
       all_goals (clear hK; clear K))
    | (with_reducible refine wp_condE ?_
       refine ⟨_, rfl, ?_, ?_⟩ <;> (intro hc; (try simp at hc); (all_goals first | (exfalso; omega) | skip))))
  all_goals first | (simp_all [pf377]; done) | (simp_all [pf377]; omega)

theorem split_at {α : Type} (l : List α) (i : Nat) (h : i < l.length) : ∃ pre x rest, l = pre ++ x :: rest ∧ pre.length = i :=
  ⟨l.take i, l[i], l.drop (i + 1), by simp, by simp; omega⟩

def thereF (B : List XBuf) (buf gen kind many : Int) : Bool := decide (0 ≤ buf) && match B[buf.toNat]? with
  | some b => b.Gen == gen && b.Kind == kind && (kind != 1 || (b.C.L.length : Int) == many)
  | none => false

theorem thereF_out {B : List XBuf} {buf gen kind many : Int} (h : ¬ (0 ≤ buf ∧ buf < (B.length : Int))) : thereF B buf gen kind many = false := by
  unfold thereF
  by_cases h0 : 0 ≤ buf
  · rw [List.getElem?_eq_none (by omega)]; simp
  · simp [h0]

@[simp] theorem t59 (k0 : Bool) (x_C_Cols : List Int) (x_C_Slots : Int) (x_C_Bufs : Int) (x_Time : Int) (x_T : Int) (x_E : Int) (x_Dd_Ver : Int) (x_Dd_L : List XRef) (x_B : List XBuf) (x_M : List Int) (x_X : List XDead) (x_P : List Int) (x_Tasks : List XTask) (x_Deeds : List XDeed) (r_Buf : Int) (r_Gen : Int) (r_Kind : Int) (r_First : Int) (r_Many : Int) (h : x_B.length ≤ 1048576) : Gw TT 59 [.st [.ro k0 (.sl 1 (x_C_Cols.map ei)), .ro false (di x_C_Slots), .ro false (di x_C_Bufs), .ro false (di x_Time), .ro false (di x_T), .ro false (di x_E), .ro false (di x_Dd_Ver), .ro k0 (.sl 5 (x_Dd_L.map XRef.e)), .ro k0 (.sl 5 (x_B.map XBuf.e)), .ro k0 (.sl 1 (x_M.map ei)), .ro k0 (.sl 3 (x_X.map XDead.e)), .ro k0 (.sl 1 (x_P.map ei)), .ro k0 (.sl 25 (x_Tasks.map XTask.e)), .ro k0 (.sl 25 (x_Deeds.map XDeed.e))], .st [.ro false (di r_Buf), .ro false (di r_Gen), .ro false (di r_Kind), .ro false (di r_First), .ro false (di r_Many)]] = some (vb (thereF x_B r_Buf r_Gen r_Kind r_Many), []) := by
  refine Gw_of (F := pf59) rfl rfl ?_
  show Wp _ pb59 _ _
  unfold pb59
  by_cases hb : 0 ≤ r_Buf ∧ r_Buf < (x_B.length : Int)
  · obtain ⟨pre, b, rest, rfl, hp⟩ := split_at x_B r_Buf.toNat (by omega)
    obtain rfl : r_Buf = (pre.length : Int) := by omega
    simp only [List.length_append, List.length_cons] at h hb
    have hw : IntKind.wrap .i64 ((pre.length : Int) + ((rest.length : Int) + 1) - 1) = (pre.length : Int) + ((rest.length : Int) + 1) - 1 := wrap_i64 (by omega) (by omega)
    repeat' (first
      | with_reducible (first | refine wp_seq ?_ | refine wp_blk ?_ | refine wp_skip ?_ | refine wp_exit ?_ | refine wp_ret ?_ | refine seqQ_norm ?_ | refine seqQ_ret ?_ | refine seqQ_exit ?_ | refine blkQ_norm ?_ | refine blkQ_ret ?_ | refine blkQ_exit ?_ | refine loopQ_norm ?_ | refine loopQ_exit ?_ | refine loopQ_ret ?_ | refine endQ_ret ?_ | refine endQ_norm ?_ | refine endE_ret ?_ | refine endE_norm ?_ | refine endI_ret ?_ | refine endI_norm ?_)
      | (with_reducible refine wp_regK fun K hK => ?_
         simp[hw]
         repeat' (with_reducible first | refine hK _ ?_ | (refine psel ?_ ?_ <;> (intro hc; (try rw [Decidable.not_not] at hc); first | (exfalso; omega) | (try simp [hc, hw]))))
         all_goals (clear hK; clear K))
      | (with_reducible refine wp_condE ?_
         refine ⟨_, rfl, ?_, ?_⟩ <;> (intro hc; (try simp at hc); (all_goals first | (exfalso; omega) | skip))))
    all_goals first | (exfalso; omega) | (simp_all [pf59, thereF]; done) | (simp_all [pf59, thereF]; omega) | (simp [pf59, thereF, *]; done)
  · have hf := thereF_out (gen := r_Gen) (kind := r_Kind) (many := r_Many) hb
    have hw : IntKind.wrap .i64 ((x_B.length : Int) - 1) = (x_B.length : Int) - 1 := wrap_i64 (by omega) (by omega)
    repeat' (first
      | with_reducible (first | refine wp_seq ?_ | refine wp_blk ?_ | refine wp_skip ?_ | refine wp_exit ?_ | refine wp_ret ?_ | refine seqQ_norm ?_ | refine seqQ_ret ?_ | refine seqQ_exit ?_ | refine blkQ_norm ?_ | refine blkQ_ret ?_ | refine blkQ_exit ?_ | refine loopQ_norm ?_ | refine loopQ_exit ?_ | refine loopQ_ret ?_ | refine endQ_ret ?_ | refine endQ_norm ?_ | refine endE_ret ?_ | refine endE_norm ?_ | refine endI_ret ?_ | refine endI_norm ?_)
      | (with_reducible refine wp_regK fun K hK => ?_
         simp[hw]
         repeat' (with_reducible first | refine hK _ ?_ | (refine psel ?_ ?_ <;> (intro hc; (try rw [Decidable.not_not] at hc); first | (exfalso; omega) | (try simp [hc, hw]))))
         all_goals (clear hK; clear K))
      | (with_reducible refine wp_condE ?_
         refine ⟨_, rfl, ?_, ?_⟩ <;> (intro hc; (try simp at hc); (all_goals first | (exfalso; omega) | skip))))
    all_goals first | (exfalso; omega) | (simp_all [pf59]; done)

@[simp] theorem t340 (k0 : Bool) (x_C_Cols : List Int) (x_C_Slots : Int) (x_C_Bufs : Int) (x_Time : Int) (x_T : Int) (x_E : Int) (x_Dd_Ver : Int) (x_Dd_L : List XRef) (x_B : List XBuf) (x_M : List Int) (x_X : List XDead) (x_P : List Int) (x_Tasks : List XTask) (x_Deeds : List XDeed) (r_Buf : Int) (r_Gen : Int) (r_Kind : Int) (r_First : Int) (r_Many : Int) (h : x_B.length ≤ 1048576) : Gw TT 340 [.st [.ro k0 (.sl 1 (x_C_Cols.map ei)), .ro false (di x_C_Slots), .ro false (di x_C_Bufs), .ro false (di x_Time), .ro false (di x_T), .ro false (di x_E), .ro false (di x_Dd_Ver), .ro k0 (.sl 5 (x_Dd_L.map XRef.e)), .ro k0 (.sl 5 (x_B.map XBuf.e)), .ro k0 (.sl 1 (x_M.map ei)), .ro k0 (.sl 3 (x_X.map XDead.e)), .ro k0 (.sl 1 (x_P.map ei)), .ro k0 (.sl 25 (x_Tasks.map XTask.e)), .ro k0 (.sl 25 (x_Deeds.map XDeed.e))], .st [.ro false (di r_Buf), .ro false (di r_Gen), .ro false (di r_Kind), .ro false (di r_First), .ro false (di r_Many)]] = some (vb (thereF x_B r_Buf r_Gen r_Kind r_Many), []) := by
  refine Gw_of (F := pf340) rfl rfl ?_
  show Wp _ pb340 _ _
  unfold pb340
  by_cases hb : 0 ≤ r_Buf ∧ r_Buf < (x_B.length : Int)
  · obtain ⟨pre, b, rest, rfl, hp⟩ := split_at x_B r_Buf.toNat (by omega)
    obtain rfl : r_Buf = (pre.length : Int) := by omega
    simp only [List.length_append, List.length_cons] at h hb
    have hw : IntKind.wrap .i64 ((pre.length : Int) + ((rest.length : Int) + 1) - 1) = (pre.length : Int) + ((rest.length : Int) + 1) - 1 := wrap_i64 (by omega) (by omega)
    repeat' (first
      | with_reducible (first | refine wp_seq ?_ | refine wp_blk ?_ | refine wp_skip ?_ | refine wp_exit ?_ | refine wp_ret ?_ | refine seqQ_norm ?_ | refine seqQ_ret ?_ | refine seqQ_exit ?_ | refine blkQ_norm ?_ | refine blkQ_ret ?_ | refine blkQ_exit ?_ | refine loopQ_norm ?_ | refine loopQ_exit ?_ | refine loopQ_ret ?_ | refine endQ_ret ?_ | refine endQ_norm ?_ | refine endE_ret ?_ | refine endE_norm ?_ | refine endI_ret ?_ | refine endI_norm ?_)
      | (with_reducible refine wp_regK fun K hK => ?_
         simp[hw]
         repeat' (with_reducible first | refine hK _ ?_ | (refine psel ?_ ?_ <;> (intro hc; (try rw [Decidable.not_not] at hc); first | (exfalso; omega) | (try simp [hc, hw]))))
         all_goals (clear hK; clear K))
      | (with_reducible refine wp_condE ?_
         refine ⟨_, rfl, ?_, ?_⟩ <;> (intro hc; (try simp at hc); (all_goals first | (exfalso; omega) | skip))))
    all_goals first | (exfalso; omega) | (simp_all [pf340, thereF]; done) | (simp_all [pf340, thereF]; omega) | (simp [pf340, thereF, *]; done)
  · have hf := thereF_out (gen := r_Gen) (kind := r_Kind) (many := r_Many) hb
    have hw : IntKind.wrap .i64 ((x_B.length : Int) - 1) = (x_B.length : Int) - 1 := wrap_i64 (by omega) (by omega)
    repeat' (first
      | with_reducible (first | refine wp_seq ?_ | refine wp_blk ?_ | refine wp_skip ?_ | refine wp_exit ?_ | refine wp_ret ?_ | refine seqQ_norm ?_ | refine seqQ_ret ?_ | refine seqQ_exit ?_ | refine blkQ_norm ?_ | refine blkQ_ret ?_ | refine blkQ_exit ?_ | refine loopQ_norm ?_ | refine loopQ_exit ?_ | refine loopQ_ret ?_ | refine endQ_ret ?_ | refine endQ_norm ?_ | refine endE_ret ?_ | refine endE_norm ?_ | refine endI_ret ?_ | refine endI_norm ?_)
      | (with_reducible refine wp_regK fun K hK => ?_
         simp[hw]
         repeat' (with_reducible first | refine hK _ ?_ | (refine psel ?_ ?_ <;> (intro hc; (try rw [Decidable.not_not] at hc); first | (exfalso; omega) | (try simp [hc, hw]))))
         all_goals (clear hK; clear K))
      | (with_reducible refine wp_condE ?_
         refine ⟨_, rfl, ?_, ?_⟩ <;> (intro hc; (try simp at hc); (all_goals first | (exfalso; omega) | skip))))
    all_goals first | (exfalso; omega) | (simp_all [pf340]; done)

@[simp] theorem take_mid {α : Type} {n : Nat} (l r : List α) (h : n = l.length) : (l ++ r).take n = l := by subst h; simp

@[simp] theorem bytesStr_map (l : List Int) : bytesStr (l.map eb) = some (l.map fun n => UInt8.ofNat n.toNat) := by
  induction l with
  | nil => rfl
  | cons n l ih =>
    have : bytesStr (List.map eb (n :: l)) = match bytesStr (l.map eb) with
      | some bs => some (UInt8.ofNat n.toNat :: bs)
      | none => none := rfl
    rw [this, ih]; rfl

def isChunkB (B : List XBuf) (r : XRef) : Bool := r.Kind == 1 && thereF B r.Buf r.Gen r.Kind r.Many

theorem isChunk_get {B : List XBuf} {r : XRef} (h : isChunkB B r = true) : ∃ pre b rest, B = pre ++ b :: rest ∧ r.Buf = (pre.length : Int) ∧ r.Kind = 1 ∧ b.Gen = r.Gen ∧ b.Kind = r.Kind ∧ (b.C.L.length : Int) = r.Many := by
  simp only [isChunkB, Bool.and_eq_true, beq_iff_eq] at h
  obtain ⟨h1, h2⟩ := h
  by_cases hb : 0 ≤ r.Buf ∧ r.Buf < (B.length : Int)
  · obtain ⟨pre, b, rest, rfl, hp⟩ := split_at B r.Buf.toNat (by omega)
    have hq : r.Buf = (pre.length : Int) := by omega
    refine ⟨pre, b, rest, rfl, hq, h1, ?_⟩
    simp [thereF, hq, h1] at h2
    exact ⟨h2.1.1, by rw [h1]; exact h2.1.2, h2.2⟩
  · rw [thereF_out hb] at h2; cases h2

theorem isChunk_at {B : List XBuf} {r : XRef} (h : isChunkB B r = true) : ∃ b, B[r.Buf.toNat]? = some b ∧ 0 ≤ r.Buf ∧ r.Buf < (B.length : Int) ∧ b ∈ B := by
  obtain ⟨pre, b, rest, rfl, h2, _⟩ := isChunk_get h
  refine ⟨b, by rw [h2]; simp, by omega, by rw [h2]; simp; omega, by simp⟩

theorem t68_yes (k0 : Bool) (x_C_Cols : List Int) (x_C_Slots : Int) (x_C_Bufs : Int) (x_Time : Int) (x_T : Int) (x_E : Int) (x_Dd_Ver : Int) (x_Dd_L : List XRef) (x_B : List XBuf) (x_M : List Int) (x_X : List XDead) (x_P : List Int) (x_Tasks : List XTask) (x_Deeds : List XDeed) (r_Buf : Int) (r_Gen : Int) (r_Kind : Int) (r_First : Int) (r_Many : Int) (h : x_B.length ≤ 1048576) (hc : isChunkB x_B ⟨r_Buf, r_Gen, r_Kind, r_First, r_Many⟩ = true) (b : XBuf) (hb : x_B[r_Buf.toNat]? = some b) :
    Gw TT 68 [.st [.ro k0 (.sl 1 (x_C_Cols.map ei)), .ro false (di x_C_Slots), .ro false (di x_C_Bufs), .ro false (di x_Time), .ro false (di x_T), .ro false (di x_E), .ro false (di x_Dd_Ver), .ro k0 (.sl 5 (x_Dd_L.map XRef.e)), .ro k0 (.sl 5 (x_B.map XBuf.e)), .ro k0 (.sl 1 (x_M.map ei)), .ro k0 (.sl 3 (x_X.map XDead.e)), .ro k0 (.sl 1 (x_P.map ei)), .ro k0 (.sl 25 (x_Tasks.map XTask.e)), .ro k0 (.sl 25 (x_Deeds.map XDeed.e))], .st [.ro false (di r_Buf), .ro false (di r_Gen), .ro false (di r_Kind), .ro false (di r_First), .ro false (di r_Many)]] = some (.tup [.st [.ro false (di b.C.Next), .ro k0 (.sl 2 (b.C.L.map XSlot.e))], vb true], []) := by
  have hc2 := hc
  simp only [isChunkB, Bool.and_eq_true, beq_iff_eq] at hc2
  obtain ⟨hk, ht⟩ := hc2
  obtain ⟨_, _, hb0, hb1, _⟩ := isChunk_at hc
  simp only at hb0 hb1
  obtain ⟨hlt, he⟩ := List.getElem?_eq_some_iff.1 hb
  refine Gw_of (F := pf68) rfl rfl ?_
  show Wp _ pb68 _ _
  unfold pb68
  repeat' (first
    | with_reducible (first | refine wp_seq ?_ | refine wp_blk ?_ | refine wp_skip ?_ | refine wp_exit ?_ | refine wp_ret ?_ | refine seqQ_norm ?_ | refine seqQ_ret ?_ | refine seqQ_exit ?_ | refine blkQ_norm ?_ | refine blkQ_ret ?_ | refine blkQ_exit ?_ | refine loopQ_norm ?_ | refine loopQ_exit ?_ | refine loopQ_ret ?_ | refine endQ_ret ?_ | refine endQ_norm ?_ | refine endE_ret ?_ | refine endE_norm ?_ | refine endI_ret ?_ | refine endI_norm ?_)
    | (with_reducible refine wp_regK fun K hK => ?_
       simp[h, ht, hk, hb0, hb1, he]
       repeat' (with_reducible first | refine hK _ ?_ | (refine psel ?_ ?_ <;> (intro hc; (try rw [Decidable.not_not] at hc); first | (exfalso; omega) | (try simp [hc, h, ht, hk, hb0, hb1, he]))))
       all_goals (clear hK; clear K))
    | (with_reducible refine wp_condE ?_
       refine ⟨_, rfl, ?_, ?_⟩ <;> (intro hc; (try simp at hc); (all_goals first | (exfalso; omega) | skip))))
  all_goals first | (simp [pf68, he]; done) | (exfalso; omega) | (simp_all; done)

theorem t68_no (k0 : Bool) (x_C_Cols : List Int) (x_C_Slots : Int) (x_C_Bufs : Int) (x_Time : Int) (x_T : Int) (x_E : Int) (x_Dd_Ver : Int) (x_Dd_L : List XRef) (x_B : List XBuf) (x_M : List Int) (x_X : List XDead) (x_P : List Int) (x_Tasks : List XTask) (x_Deeds : List XDeed) (r_Buf : Int) (r_Gen : Int) (r_Kind : Int) (r_First : Int) (r_Many : Int) (h : x_B.length ≤ 1048576) (hc : isChunkB x_B ⟨r_Buf, r_Gen, r_Kind, r_First, r_Many⟩ = false) :
    Gw TT 68 [.st [.ro k0 (.sl 1 (x_C_Cols.map ei)), .ro false (di x_C_Slots), .ro false (di x_C_Bufs), .ro false (di x_Time), .ro false (di x_T), .ro false (di x_E), .ro false (di x_Dd_Ver), .ro k0 (.sl 5 (x_Dd_L.map XRef.e)), .ro k0 (.sl 5 (x_B.map XBuf.e)), .ro k0 (.sl 1 (x_M.map ei)), .ro k0 (.sl 3 (x_X.map XDead.e)), .ro k0 (.sl 1 (x_P.map ei)), .ro k0 (.sl 25 (x_Tasks.map XTask.e)), .ro k0 (.sl 25 (x_Deeds.map XDeed.e))], .st [.ro false (di r_Buf), .ro false (di r_Gen), .ro false (di r_Kind), .ro false (di r_First), .ro false (di r_Many)]] = some (.tup [.st [.ro false (di 0), .own (.sl 2 [])], vb false], []) := by
  simp only [isChunkB, Bool.and_eq_false_iff] at hc
  refine Gw_of (F := pf68) rfl rfl ?_
  show Wp _ pb68 _ _
  unfold pb68
  repeat' (first
    | with_reducible (first | refine wp_seq ?_ | refine wp_blk ?_ | refine wp_skip ?_ | refine wp_exit ?_ | refine wp_ret ?_ | refine seqQ_norm ?_ | refine seqQ_ret ?_ | refine seqQ_exit ?_ | refine blkQ_norm ?_ | refine blkQ_ret ?_ | refine blkQ_exit ?_ | refine loopQ_norm ?_ | refine loopQ_exit ?_ | refine loopQ_ret ?_ | refine endQ_ret ?_ | refine endQ_norm ?_ | refine endE_ret ?_ | refine endE_norm ?_ | refine endI_ret ?_ | refine endI_norm ?_)
    | (with_reducible refine wp_regK fun K hK => ?_
       simp[h]
       repeat' (with_reducible first | refine hK _ ?_ | (refine psel ?_ ?_ <;> (intro hc; (try rw [Decidable.not_not] at hc); first | (exfalso; omega) | (try simp [hc, h]))))
       all_goals (clear hK; clear K))
    | (with_reducible refine wp_condE ?_
       refine ⟨_, rfl, ?_, ?_⟩ <;> (intro hc; (try simp at hc); (all_goals first | (exfalso; omega) | skip))))
  all_goals first | (simp [pf68]; done) | (exfalso; simp_all; done) | (simp_all [pf68]; done)

@[simp] theorem flatD_nil : flatD [] = true := rfl

@[simp] theorem flatD_map {α : Type} (f : α → List D) (l : List α) (h : ∀ x, (f x).all D.scal = true) : flatD (l.map f) = true := by
  simp only [flatD, List.all_map, List.all_eq_true, Function.comp]
  exact fun x _ => List.all_eq_true.1 (h x)

@[simp] theorem flatD_one (e : List D) (l : List (List D)) : flatD (e :: l) = (e.all D.scal && flatD l) := rfl

@[simp] theorem flatD_app (l m : List (List D)) : flatD (l ++ m) = (flatD l && flatD m) := by simp [flatD]

@[simp] theorem live_int (k : IntKind) (n : Int) : (D.int k n).live = true := rfl

@[simp] theorem live_bool (b : Bool) : (D.bool b).live = true := rfl

@[simp] theorem live_str (s : ByteArray) : (D.str s).live = true := rfl

@[simp] theorem live_sl (sz : Nat) (es : List (List D)) : (D.sl sz es).live = true := rfl

@[simp] theorem ba_one (x : UInt8) : (ByteArray.mk #[x]).size = 1 := rfl

@[simp] theorem take_all1 {α : Type} {n : Nat} (l r : List α) (x : α) (h : n = l.length + (r.length + 1)) : (l ++ x :: r).take n = l ++ x :: r := by
  rw [List.take_of_length_le]
  simp only [List.length_append, List.length_cons]
  omega

@[simp] theorem drop_mid1 {α : Type} {n : Nat} (l r : List α) (x : α) (h : n = l.length + 1) : (l ++ x :: r).drop n = r := by
  subst h
  rw [List.drop_append]
  simp

@[simp] theorem take_len_map {α β : Type} (f : α → β) (l : List α) : (l.map f).take l.length = l.map f := by
  rw [List.take_of_length_le]; simp

@[simp] theorem flatD_drop_map {α : Type} (f : α → List D) (l : List α) (n : Nat) (h : ∀ x, (f x).all D.scal = true) : flatD ((l.map f).drop n) = true := by
  rw [← List.map_drop]; exact flatD_map f _ h

@[simp] theorem flatD_take_map {α : Type} (f : α → List D) (l : List α) (n : Nat) (h : ∀ x, (f x).all D.scal = true) : flatD ((l.map f).take n) = true := by
  rw [← List.map_take]; exact flatD_map f _ h

def openC (n len : Int) : Int := if n < 0 then len else if len < n then 0 else len - n

def openOf (B : List XBuf) (r : XRef) : Int := match B[r.Buf.toNat]? with
  | some b => openC b.C.Next (b.C.L.length : Int)
  | none => 0

def openF (B : List XBuf) : Int → List XRef → Int
  | n, [] => n
  | n, d :: l => if isChunkB B d = true then openF B (IntKind.wrap .i64 (n + openOf B d)) l else openF B n l

@[simp] theorem t311 (a b : Int) : Gw TT 311 [vi a, vi b] = some (vi (if a < b then b else a), []) := by
  refine Gw_of (F := pf311) rfl rfl ?_
  show Wp _ pb311 _ _
  unfold pb311
  by_cases hb : a < b
  · repeat' (first
      | with_reducible (first | refine wp_seq ?_ | refine wp_blk ?_ | refine wp_skip ?_ | refine wp_exit ?_ | refine wp_ret ?_ | refine seqQ_norm ?_ | refine seqQ_ret ?_ | refine seqQ_exit ?_ | refine blkQ_norm ?_ | refine blkQ_ret ?_ | refine blkQ_exit ?_ | refine loopQ_norm ?_ | refine loopQ_exit ?_ | refine loopQ_ret ?_ | refine endQ_ret ?_ | refine endQ_norm ?_ | refine endE_ret ?_ | refine endE_norm ?_ | refine endI_ret ?_ | refine endI_norm ?_)
      | (with_reducible refine wp_regK fun K hK => ?_
         simp[hb]
         repeat' (with_reducible first | refine hK _ ?_ | (refine psel ?_ ?_ <;> (intro hc; (try rw [Decidable.not_not] at hc); first | (exfalso; omega) | (try simp [hc, hb]))))
         all_goals (clear hK; clear K))
      | (with_reducible refine wp_condE ?_
         refine ⟨_, rfl, ?_, ?_⟩ <;> (intro hc; (try simp at hc); (all_goals first | (exfalso; omega) | skip))))
    all_goals first | (simp [pf311, hb]; done) | (exfalso; omega)
  · repeat' (first
      | with_reducible (first | refine wp_seq ?_ | refine wp_blk ?_ | refine wp_skip ?_ | refine wp_exit ?_ | refine wp_ret ?_ | refine seqQ_norm ?_ | refine seqQ_ret ?_ | refine seqQ_exit ?_ | refine blkQ_norm ?_ | refine blkQ_ret ?_ | refine blkQ_exit ?_ | refine loopQ_norm ?_ | refine loopQ_exit ?_ | refine loopQ_ret ?_ | refine endQ_ret ?_ | refine endQ_norm ?_ | refine endE_ret ?_ | refine endE_norm ?_ | refine endI_ret ?_ | refine endI_norm ?_)
      | (with_reducible refine wp_regK fun K hK => ?_
         simp[hb]
         repeat' (with_reducible first | refine hK _ ?_ | (refine psel ?_ ?_ <;> (intro hc; (try rw [Decidable.not_not] at hc); first | (exfalso; omega) | (try simp [hc, hb]))))
         all_goals (clear hK; clear K))
      | (with_reducible refine wp_condE ?_
         refine ⟨_, rfl, ?_, ?_⟩ <;> (intro hc; (try simp at hc); (all_goals first | (exfalso; omega) | skip))))
    all_goals first | (simp [pf311, hb]; done) | (exfalso; omega)

@[simp] theorem t35 (k0 : Bool) (x_C_Cols : List Int) (x_C_Slots : Int) (x_C_Bufs : Int) (x_Time : Int) (x_T : Int) (x_E : Int) (x_Dd_Ver : Int) (x_Dd_L : List XRef) (x_B : List XBuf) (x_M : List Int) (x_X : List XDead) (x_P : List Int) (x_Tasks : List XTask) (x_Deeds : List XDeed) (h : x_B.length ≤ 1048576) (hs : XBuf.sms x_B) (ho : XBuf.oks x_B) (h1 : x_Dd_L.length ≤ 1048576) : Gw TT 35 [.st [.ro k0 (.sl 1 (x_C_Cols.map ei)), .ro false (di x_C_Slots), .ro false (di x_C_Bufs), .ro false (di x_Time), .ro false (di x_T), .ro false (di x_E), .ro false (di x_Dd_Ver), .ro k0 (.sl 5 (x_Dd_L.map XRef.e)), .ro k0 (.sl 5 (x_B.map XBuf.e)), .ro k0 (.sl 1 (x_M.map ei)), .ro k0 (.sl 3 (x_X.map XDead.e)), .ro k0 (.sl 1 (x_P.map ei)), .ro k0 (.sl 25 (x_Tasks.map XTask.e)), .ro k0 (.sl 25 (x_Deeds.map XDeed.e))]] = some (vi (openF x_B 0 x_Dd_L), []) := by
  refine Gw_of (F := pf35) rfl rfl ?_
  show Wp _ pb35 _ _
  unfold pb35
  repeat' (first
    | with_reducible (first | refine wp_seq ?_ | refine wp_blk ?_ | refine wp_skip ?_ | refine wp_exit ?_ | refine wp_ret ?_ | refine seqQ_norm ?_ | refine seqQ_ret ?_ | refine seqQ_exit ?_ | refine blkQ_norm ?_ | refine blkQ_ret ?_ | refine blkQ_exit ?_ | refine loopQ_norm ?_ | refine loopQ_exit ?_ | refine loopQ_ret ?_ | refine endQ_ret ?_ | refine endQ_norm ?_ | refine endE_ret ?_ | refine endE_norm ?_ | refine endI_ret ?_ | refine endI_norm ?_)
    | (with_reducible refine wp_regK fun K hK => ?_
       simp
       repeat' (with_reducible first | refine hK _ ?_ | (refine psel ?_ ?_ <;> (intro hc; (try rw [Decidable.not_not] at hc); first | (exfalso; omega) | (try simp [hc]))))
       all_goals (clear hK; clear K))
    | (with_reducible refine wp_condE ?_
       refine ⟨_, rfl, ?_, ?_⟩ <;> (intro hc; (try simp at hc); (all_goals first | (exfalso; omega) | skip))))
  refine wp_loopI (σ := List XRef × List XRef × Int) (fun s => [(1, AV.bx 1 0, some (Rt.bx [.ro k0 (.sl 1 (x_C_Cols.map ei)), .ro false (di x_C_Slots), .ro false (di x_C_Bufs), .ro false (di x_Time), .ro false (di x_T), .ro false (di x_E), .ro false (di x_Dd_Ver), .ro k0 (.sl 5 (x_Dd_L.map XRef.e)), .ro k0 (.sl 5 (x_B.map XBuf.e)), .ro k0 (.sl 1 (x_M.map ei)), .ro k0 (.sl 3 (x_X.map XDead.e)), .ro k0 (.sl 1 (x_P.map ei)), .ro k0 (.sl 25 (x_Tasks.map XTask.e)), .ro k0 (.sl 25 (x_Deeds.map XDeed.e))])), (3, AV.v false (di s.2.2), none), (10, AV.v k0 (D.sl 5 (x_Dd_L.map XRef.e)), none), (11, AV.v false (di (x_Dd_L.length : Nat)), none), (12, AV.v false (di ((s.1.length : Nat) : Int)), none)]) (fun s => x_Dd_L = s.1 ++ s.2.1 ∧ openF x_B s.2.2 s.2.1 = openF x_B 0 x_Dd_L) (fun s => s.2.1.length) ([], x_Dd_L, 0) (by simp) ⟨rfl, rfl⟩ ?_
  rintro ⟨pre, rest, a⟩ ⟨h2, h3⟩
  simp only at h2 h3
  subst h2
  simp only [List.length_append, List.length_cons] at h1
  rcases rest with _ | ⟨d, rest⟩
  · unfold pl35_0
    simp only [openF] at h3
    repeat' (first
      | with_reducible (first | refine wp_seq ?_ | refine wp_blk ?_ | refine wp_skip ?_ | refine wp_exit ?_ | refine wp_ret ?_ | refine seqQ_norm ?_ | refine seqQ_ret ?_ | refine seqQ_exit ?_ | refine blkQ_norm ?_ | refine blkQ_ret ?_ | refine blkQ_exit ?_ | refine loopQ_norm ?_ | refine loopQ_exit ?_ | refine loopQ_ret ?_ | refine endQ_ret ?_ | refine endQ_norm ?_ | refine endE_ret ?_ | refine endE_norm ?_ | refine endI_ret ?_ | refine endI_norm ?_)
      | (with_reducible refine wp_regK fun K hK => ?_
         simp
         repeat' (with_reducible first | refine hK _ ?_ | (refine psel ?_ ?_ <;> (intro hc; (try rw [Decidable.not_not] at hc); first | (exfalso; omega) | (try simp [hc]))))
         all_goals (clear hK; clear K))
      | (with_reducible refine wp_condE ?_
         refine ⟨_, rfl, ?_, ?_⟩ <;> (intro hc; (try simp at hc); (all_goals first | (exfalso; omega) | skip))))
    all_goals first | (simp_all [pf35]; done) | (exfalso; omega)
  · unfold pl35_0
    simp only [List.length_cons] at h1
    simp only [openF] at h3
    have hw : IntKind.wrap .i64 ((pre.length : Int) + 1) = (pre.length : Int) + 1 := wrap_i64 (by omega) (by omega)
    cases hA : isChunkB x_B d with
    | true =>
      rw [if_pos hA] at h3
      have hc2 := hA
      simp only [isChunkB, Bool.and_eq_true, beq_iff_eq] at hc2
      obtain ⟨hk, ht⟩ := hc2
      rw [hk] at ht
      obtain ⟨b, hb, hb0, hb1, hmem⟩ := isChunk_at hA
      obtain ⟨hlt, he⟩ := List.getElem?_eq_some_iff.1 hb
      have hO : openOf x_B d = openC b.C.Next (b.C.L.length : Int) := by simp only [openOf, hb]
      have hbs := hs b hmem
      simp only [XBuf.sm, XChunk.sm, and_assoc] at hbs
      obtain ⟨hbl, _, _⟩ := hbs
      rw [hO] at h3
      have hnr : -9223372036854775808 ≤ b.C.Next ∧ b.C.Next ≤ 9223372036854775807 := by
        have hob := ho b hmem
        simp only [XBuf.ok, XChunk.ok] at hob
        exact hob.2.2.1.1
      have m1 : (if 0 < b.C.L.length then (b.C.L.length : Int) else 0) = (b.C.L.length : Int) := by split <;> omega
      have hwl : IntKind.wrap .i64 (b.C.L.length : Int) = (b.C.L.length : Int) := wrap_i64 (by omega) (by omega)
      have g1 := t68_yes k0 x_C_Cols x_C_Slots x_C_Bufs x_Time x_T x_E x_Dd_Ver (pre ++ d :: rest) x_B x_M x_X x_P x_Tasks x_Deeds d.Buf d.Gen d.Kind d.First d.Many h hA b hb
      simp only [List.map_append, List.map_cons, XRef.e, hk] at g1
      by_cases q1 : b.C.Next < 0
      · have q2 : ¬ (0 < b.C.Next) := by omega
        have q3 : ¬ ((b.C.L.length : Int) < 0) := by omega
        have q4 : openC b.C.Next (b.C.L.length : Int) = (b.C.L.length : Int) := by simp [openC, q1]
        rw [q4] at h3
        repeat' (first
          | with_reducible (first | refine wp_seq ?_ | refine wp_blk ?_ | refine wp_skip ?_ | refine wp_exit ?_ | refine wp_ret ?_ | refine seqQ_norm ?_ | refine seqQ_ret ?_ | refine seqQ_exit ?_ | refine blkQ_norm ?_ | refine blkQ_ret ?_ | refine blkQ_exit ?_ | refine loopQ_norm ?_ | refine loopQ_exit ?_ | refine loopQ_ret ?_ | refine endQ_ret ?_ | refine endQ_norm ?_ | refine endE_ret ?_ | refine endE_norm ?_ | refine endI_ret ?_ | refine endI_norm ?_)
          | (with_reducible refine wp_regK fun K hK => ?_
             simp[hw, g1, h, ht, hk, hb0, hb1, he, hwl, hlt, q1, q2, q3]
             repeat' (with_reducible first | refine hK _ ?_ | (refine psel ?_ ?_ <;> (intro hc; (try rw [Decidable.not_not] at hc); first | (exfalso; omega) | (try simp [hc, hw, g1, h, ht, hk, hb0, hb1, he, hwl, hlt, q1, q2, q3]))))
             all_goals (clear hK; clear K))
          | (with_reducible refine wp_condE ?_
             refine ⟨_, rfl, ?_, ?_⟩ <;> (intro hc; (try simp at hc); (all_goals first | (exfalso; omega) | skip))))
        all_goals first | (exact ⟨(pre ++ [d], rest, IntKind.wrap .i64 (a + (b.C.L.length : Int))), by simp [hk, m1], ⟨by simp, h3⟩, by simp⟩) | (exfalso; omega) | skip
      · by_cases q2 : (b.C.L.length : Int) < b.C.Next
        · have q3 : (0 : Int) < b.C.Next := by omega
          have q4 : openC b.C.Next (b.C.L.length : Int) = 0 := by simp [openC, q1, q2]
          have q5 : IntKind.wrap .i64 ((b.C.L.length : Int) - b.C.Next) = (b.C.L.length : Int) - b.C.Next := wrap_i64 (by omega) (by omega)
          have q6 : ¬ b.C.Next < (b.C.L.length : Int) := by omega
          rw [q4] at h3
          simp only [Int.add_zero] at h3
          repeat' (first
            | with_reducible (first | refine wp_seq ?_ | refine wp_blk ?_ | refine wp_skip ?_ | refine wp_exit ?_ | refine wp_ret ?_ | refine seqQ_norm ?_ | refine seqQ_ret ?_ | refine seqQ_exit ?_ | refine blkQ_norm ?_ | refine blkQ_ret ?_ | refine blkQ_exit ?_ | refine loopQ_norm ?_ | refine loopQ_exit ?_ | refine loopQ_ret ?_ | refine endQ_ret ?_ | refine endQ_norm ?_ | refine endE_ret ?_ | refine endE_norm ?_ | refine endI_ret ?_ | refine endI_norm ?_)
            | (with_reducible refine wp_regK fun K hK => ?_
               simp[hw, g1, h, ht, hk, hb0, hb1, he, hwl, hlt, q1, q2, q3, q5, q6]
               repeat' (with_reducible first | refine hK _ ?_ | (refine psel ?_ ?_ <;> (intro hc; (try rw [Decidable.not_not] at hc); first | (exfalso; omega) | (try simp [hc, hw, g1, h, ht, hk, hb0, hb1, he, hwl, hlt, q1, q2, q3, q5, q6]))))
               all_goals (clear hK; clear K))
            | (with_reducible refine wp_condE ?_
               refine ⟨_, rfl, ?_, ?_⟩ <;> (intro hc; (try simp at hc); (all_goals first | (exfalso; omega) | skip))))
          all_goals first | (exact ⟨(pre ++ [d], rest, IntKind.wrap .i64 a), by simp [hk, q5, q6], ⟨by simp, h3⟩, by simp⟩) | (exfalso; omega) | skip
        · have q4 : openC b.C.Next (b.C.L.length : Int) = (b.C.L.length : Int) - b.C.Next := by simp [openC, q1, q2]
          have q5 : IntKind.wrap .i64 ((b.C.L.length : Int) - b.C.Next) = (b.C.L.length : Int) - b.C.Next := wrap_i64 (by omega) (by omega)
          have m4 : (if 0 < b.C.Next then b.C.Next else 0) = b.C.Next := by split <;> omega
          have m3 : (if b.C.Next < (b.C.L.length : Int) then (b.C.L.length : Int) - b.C.Next else 0) = (b.C.L.length : Int) - b.C.Next := by split <;> omega
          rw [q4] at h3
          repeat' (first
            | with_reducible (first | refine wp_seq ?_ | refine wp_blk ?_ | refine wp_skip ?_ | refine wp_exit ?_ | refine wp_ret ?_ | refine seqQ_norm ?_ | refine seqQ_ret ?_ | refine seqQ_exit ?_ | refine blkQ_norm ?_ | refine blkQ_ret ?_ | refine blkQ_exit ?_ | refine loopQ_norm ?_ | refine loopQ_exit ?_ | refine loopQ_ret ?_ | refine endQ_ret ?_ | refine endQ_norm ?_ | refine endE_ret ?_ | refine endE_norm ?_ | refine endI_ret ?_ | refine endI_norm ?_)
            | (with_reducible refine wp_regK fun K hK => ?_
               simp[hw, g1, h, ht, hk, hb0, hb1, he, hwl, hlt, q1, q2, q5]
               repeat' (with_reducible first | refine hK _ ?_ | (refine psel ?_ ?_ <;> (intro hc; (try rw [Decidable.not_not] at hc); first | (exfalso; omega) | (try simp [hc, hw, g1, h, ht, hk, hb0, hb1, he, hwl, hlt, q1, q2, q5]))))
               all_goals (clear hK; clear K))
            | (with_reducible refine wp_condE ?_
               refine ⟨_, rfl, ?_, ?_⟩ <;> (intro hc; (try simp at hc); (all_goals first | (exfalso; omega) | skip))))
          all_goals first | (exact ⟨(pre ++ [d], rest, IntKind.wrap .i64 (a + ((b.C.L.length : Int) - b.C.Next))), by simp [hk, q5, m3, m4], ⟨by simp, h3⟩, by simp⟩) | (exfalso; omega) | skip
    | false =>
      rw [hA, if_neg (by simp)] at h3
      have hcf := hA
      simp only [isChunkB, Bool.and_eq_false_iff] at hcf
      have g1 := t68_no k0 x_C_Cols x_C_Slots x_C_Bufs x_Time x_T x_E x_Dd_Ver (pre ++ d :: rest) x_B x_M x_X x_P x_Tasks x_Deeds d.Buf d.Gen d.Kind d.First d.Many h hA
      simp only [List.map_append, List.map_cons, XRef.e] at g1
      repeat' (first
        | with_reducible (first | refine wp_seq ?_ | refine wp_blk ?_ | refine wp_skip ?_ | refine wp_exit ?_ | refine wp_ret ?_ | refine seqQ_norm ?_ | refine seqQ_ret ?_ | refine seqQ_exit ?_ | refine blkQ_norm ?_ | refine blkQ_ret ?_ | refine blkQ_exit ?_ | refine loopQ_norm ?_ | refine loopQ_exit ?_ | refine loopQ_ret ?_ | refine endQ_ret ?_ | refine endQ_norm ?_ | refine endE_ret ?_ | refine endE_norm ?_ | refine endI_ret ?_ | refine endI_norm ?_)
        | (with_reducible refine wp_regK fun K hK => ?_
           simp[hw, g1, h]
           repeat' (with_reducible first | refine hK _ ?_ | (refine psel ?_ ?_ <;> (intro hc; (try rw [Decidable.not_not] at hc); first | (exfalso; omega) | (try simp [hc, hw, g1, h]))))
           all_goals (clear hK; clear K))
        | (with_reducible refine wp_condE ?_
           refine ⟨_, rfl, ?_, ?_⟩ <;> (intro hc; (try simp at hc); (all_goals first | (exfalso; omega) | skip))))
      all_goals first | (exact ⟨(pre ++ [d], rest, a), by simp, ⟨by simp, h3⟩, by simp⟩) | (exfalso; simp_all; done)

@[simp] theorem t316 (k0 : Bool) (x_C_Cols : List Int) (x_C_Slots : Int) (x_C_Bufs : Int) (x_Time : Int) (x_T : Int) (x_E : Int) (x_Dd_Ver : Int) (x_Dd_L : List XRef) (x_B : List XBuf) (x_M : List Int) (x_X : List XDead) (x_P : List Int) (x_Tasks : List XTask) (x_Deeds : List XDeed) (h : x_B.length ≤ 1048576) (hs : XBuf.sms x_B) (ho : XBuf.oks x_B) (h1 : x_Dd_L.length ≤ 1048576) : Gw TT 316 [.st [.ro k0 (.sl 1 (x_C_Cols.map ei)), .ro false (di x_C_Slots), .ro false (di x_C_Bufs), .ro false (di x_Time), .ro false (di x_T), .ro false (di x_E), .ro false (di x_Dd_Ver), .ro k0 (.sl 5 (x_Dd_L.map XRef.e)), .ro k0 (.sl 5 (x_B.map XBuf.e)), .ro k0 (.sl 1 (x_M.map ei)), .ro k0 (.sl 3 (x_X.map XDead.e)), .ro k0 (.sl 1 (x_P.map ei)), .ro k0 (.sl 25 (x_Tasks.map XTask.e)), .ro k0 (.sl 25 (x_Deeds.map XDeed.e))]] = some (vi (openF x_B 0 x_Dd_L), []) := by
  refine Gw_of (F := pf316) rfl rfl ?_
  show Wp _ pb316 _ _
  unfold pb316
  repeat' (first
    | with_reducible (first | refine wp_seq ?_ | refine wp_blk ?_ | refine wp_skip ?_ | refine wp_exit ?_ | refine wp_ret ?_ | refine seqQ_norm ?_ | refine seqQ_ret ?_ | refine seqQ_exit ?_ | refine blkQ_norm ?_ | refine blkQ_ret ?_ | refine blkQ_exit ?_ | refine loopQ_norm ?_ | refine loopQ_exit ?_ | refine loopQ_ret ?_ | refine endQ_ret ?_ | refine endQ_norm ?_ | refine endE_ret ?_ | refine endE_norm ?_ | refine endI_ret ?_ | refine endI_norm ?_)
    | (with_reducible refine wp_regK fun K hK => ?_
       simp
       repeat' (with_reducible first | refine hK _ ?_ | (refine psel ?_ ?_ <;> (intro hc; (try rw [Decidable.not_not] at hc); first | (exfalso; omega) | (try simp [hc]))))
       all_goals (clear hK; clear K))
    | (with_reducible refine wp_condE ?_
       refine ⟨_, rfl, ?_, ?_⟩ <;> (intro hc; (try simp at hc); (all_goals first | (exfalso; omega) | skip))))
  refine wp_loopI (σ := List XRef × List XRef × Int) (fun s => [(1, AV.bx 1 0, some (Rt.bx [.ro k0 (.sl 1 (x_C_Cols.map ei)), .ro false (di x_C_Slots), .ro false (di x_C_Bufs), .ro false (di x_Time), .ro false (di x_T), .ro false (di x_E), .ro false (di x_Dd_Ver), .ro k0 (.sl 5 (x_Dd_L.map XRef.e)), .ro k0 (.sl 5 (x_B.map XBuf.e)), .ro k0 (.sl 1 (x_M.map ei)), .ro k0 (.sl 3 (x_X.map XDead.e)), .ro k0 (.sl 1 (x_P.map ei)), .ro k0 (.sl 25 (x_Tasks.map XTask.e)), .ro k0 (.sl 25 (x_Deeds.map XDeed.e))])), (3, AV.v false (di s.2.2), none), (4, AV.v false (di ((s.1.length : Nat) : Int)), none)]) (fun s => x_Dd_L = s.1 ++ s.2.1 ∧ openF x_B s.2.2 s.2.1 = openF x_B 0 x_Dd_L) (fun s => s.2.1.length) ([], x_Dd_L, 0) (by simp) ⟨rfl, rfl⟩ ?_
  rintro ⟨pre, rest, a⟩ ⟨h2, h3⟩
  simp only at h2 h3
  subst h2
  simp only [List.length_append, List.length_cons] at h1
  rcases rest with _ | ⟨d, rest⟩
  · unfold pl316_0
    simp only [openF] at h3
    repeat' (first
      | with_reducible (first | refine wp_seq ?_ | refine wp_blk ?_ | refine wp_skip ?_ | refine wp_exit ?_ | refine wp_ret ?_ | refine seqQ_norm ?_ | refine seqQ_ret ?_ | refine seqQ_exit ?_ | refine blkQ_norm ?_ | refine blkQ_ret ?_ | refine blkQ_exit ?_ | refine loopQ_norm ?_ | refine loopQ_exit ?_ | refine loopQ_ret ?_ | refine endQ_ret ?_ | refine endQ_norm ?_ | refine endE_ret ?_ | refine endE_norm ?_ | refine endI_ret ?_ | refine endI_norm ?_)
      | (with_reducible refine wp_regK fun K hK => ?_
         simp
         repeat' (with_reducible first | refine hK _ ?_ | (refine psel ?_ ?_ <;> (intro hc; (try rw [Decidable.not_not] at hc); first | (exfalso; omega) | (try simp [hc]))))
         all_goals (clear hK; clear K))
      | (with_reducible refine wp_condE ?_
         refine ⟨_, rfl, ?_, ?_⟩ <;> (intro hc; (try simp at hc); (all_goals first | (exfalso; omega) | skip))))
    all_goals first | (simp_all [pf316]; done) | (exfalso; omega)
  · unfold pl316_0
    simp only [List.length_cons] at h1
    simp only [openF] at h3
    have hw : IntKind.wrap .i64 ((pre.length : Int) + 1) = (pre.length : Int) + 1 := wrap_i64 (by omega) (by omega)
    cases hA : isChunkB x_B d with
    | true =>
      rw [if_pos hA] at h3
      have hc2 := hA
      simp only [isChunkB, Bool.and_eq_true, beq_iff_eq] at hc2
      obtain ⟨hk, ht⟩ := hc2
      rw [hk] at ht
      obtain ⟨b, hb, hb0, hb1, hmem⟩ := isChunk_at hA
      obtain ⟨hlt, he⟩ := List.getElem?_eq_some_iff.1 hb
      have hO : openOf x_B d = openC b.C.Next (b.C.L.length : Int) := by simp only [openOf, hb]
      have hbs := hs b hmem
      simp only [XBuf.sm, XChunk.sm, and_assoc] at hbs
      obtain ⟨hbl, _, _⟩ := hbs
      rw [hO] at h3
      have hnr : -9223372036854775808 ≤ b.C.Next ∧ b.C.Next ≤ 9223372036854775807 := by
        have hob := ho b hmem
        simp only [XBuf.ok, XChunk.ok] at hob
        exact hob.2.2.1.1
      have m1 : (if 0 < b.C.L.length then (b.C.L.length : Int) else 0) = (b.C.L.length : Int) := by split <;> omega
      have hwl : IntKind.wrap .i64 (b.C.L.length : Int) = (b.C.L.length : Int) := wrap_i64 (by omega) (by omega)
      have g1 := t340 k0 x_C_Cols x_C_Slots x_C_Bufs x_Time x_T x_E x_Dd_Ver (pre ++ d :: rest) x_B x_M x_X x_P x_Tasks x_Deeds d.Buf d.Gen d.Kind d.First d.Many h
      simp only [List.map_append, List.map_cons, XRef.e, hk] at g1
      rw [ht] at g1
      by_cases q1 : b.C.Next < 0
      · have q2 : ¬ (0 < b.C.Next) := by omega
        have q3 : ¬ ((b.C.L.length : Int) < 0) := by omega
        have q4 : openC b.C.Next (b.C.L.length : Int) = (b.C.L.length : Int) := by simp [openC, q1]
        rw [q4] at h3
        repeat' (first
          | with_reducible (first | refine wp_seq ?_ | refine wp_blk ?_ | refine wp_skip ?_ | refine wp_exit ?_ | refine wp_ret ?_ | refine seqQ_norm ?_ | refine seqQ_ret ?_ | refine seqQ_exit ?_ | refine blkQ_norm ?_ | refine blkQ_ret ?_ | refine blkQ_exit ?_ | refine loopQ_norm ?_ | refine loopQ_exit ?_ | refine loopQ_ret ?_ | refine endQ_ret ?_ | refine endQ_norm ?_ | refine endE_ret ?_ | refine endE_norm ?_ | refine endI_ret ?_ | refine endI_norm ?_)
          | (with_reducible refine wp_regK fun K hK => ?_
             simp[hw, g1, h, ht, hk, hb0, hb1, he, hwl, hlt, q1, q2, q3]
             repeat' (with_reducible first | refine hK _ ?_ | (refine psel ?_ ?_ <;> (intro hc; (try rw [Decidable.not_not] at hc); first | (exfalso; omega) | (try simp [hc, hw, g1, h, ht, hk, hb0, hb1, he, hwl, hlt, q1, q2, q3]))))
             all_goals (clear hK; clear K))
          | (with_reducible refine wp_condE ?_
             refine ⟨_, rfl, ?_, ?_⟩ <;> (intro hc; (try simp at hc); (all_goals first | (exfalso; omega) | skip))))
        all_goals first | (exact ⟨(pre ++ [d], rest, IntKind.wrap .i64 (a + (b.C.L.length : Int))), by simp [hk, m1], ⟨by simp, h3⟩, by simp⟩) | (exfalso; omega) | skip
      · by_cases q2 : (b.C.L.length : Int) < b.C.Next
        · have q3 : (0 : Int) < b.C.Next := by omega
          have q4 : openC b.C.Next (b.C.L.length : Int) = 0 := by simp [openC, q1, q2]
          have q5 : IntKind.wrap .i64 ((b.C.L.length : Int) - b.C.Next) = (b.C.L.length : Int) - b.C.Next := wrap_i64 (by omega) (by omega)
          have q6 : ¬ b.C.Next < (b.C.L.length : Int) := by omega
          rw [q4] at h3
          simp only [Int.add_zero] at h3
          repeat' (first
            | with_reducible (first | refine wp_seq ?_ | refine wp_blk ?_ | refine wp_skip ?_ | refine wp_exit ?_ | refine wp_ret ?_ | refine seqQ_norm ?_ | refine seqQ_ret ?_ | refine seqQ_exit ?_ | refine blkQ_norm ?_ | refine blkQ_ret ?_ | refine blkQ_exit ?_ | refine loopQ_norm ?_ | refine loopQ_exit ?_ | refine loopQ_ret ?_ | refine endQ_ret ?_ | refine endQ_norm ?_ | refine endE_ret ?_ | refine endE_norm ?_ | refine endI_ret ?_ | refine endI_norm ?_)
            | (with_reducible refine wp_regK fun K hK => ?_
               simp[hw, g1, h, ht, hk, hb0, hb1, he, hwl, hlt, q1, q2, q3, q5, q6]
               repeat' (with_reducible first | refine hK _ ?_ | (refine psel ?_ ?_ <;> (intro hc; (try rw [Decidable.not_not] at hc); first | (exfalso; omega) | (try simp [hc, hw, g1, h, ht, hk, hb0, hb1, he, hwl, hlt, q1, q2, q3, q5, q6]))))
               all_goals (clear hK; clear K))
            | (with_reducible refine wp_condE ?_
               refine ⟨_, rfl, ?_, ?_⟩ <;> (intro hc; (try simp at hc); (all_goals first | (exfalso; omega) | skip))))
          all_goals first | (exact ⟨(pre ++ [d], rest, IntKind.wrap .i64 a), by simp [hk, q5, q6], ⟨by simp, h3⟩, by simp⟩) | (exfalso; omega) | skip
        · have q4 : openC b.C.Next (b.C.L.length : Int) = (b.C.L.length : Int) - b.C.Next := by simp [openC, q1, q2]
          have q5 : IntKind.wrap .i64 ((b.C.L.length : Int) - b.C.Next) = (b.C.L.length : Int) - b.C.Next := wrap_i64 (by omega) (by omega)
          have m4 : (if 0 < b.C.Next then b.C.Next else 0) = b.C.Next := by split <;> omega
          have m3 : (if b.C.Next < (b.C.L.length : Int) then (b.C.L.length : Int) - b.C.Next else 0) = (b.C.L.length : Int) - b.C.Next := by split <;> omega
          rw [q4] at h3
          repeat' (first
            | with_reducible (first | refine wp_seq ?_ | refine wp_blk ?_ | refine wp_skip ?_ | refine wp_exit ?_ | refine wp_ret ?_ | refine seqQ_norm ?_ | refine seqQ_ret ?_ | refine seqQ_exit ?_ | refine blkQ_norm ?_ | refine blkQ_ret ?_ | refine blkQ_exit ?_ | refine loopQ_norm ?_ | refine loopQ_exit ?_ | refine loopQ_ret ?_ | refine endQ_ret ?_ | refine endQ_norm ?_ | refine endE_ret ?_ | refine endE_norm ?_ | refine endI_ret ?_ | refine endI_norm ?_)
            | (with_reducible refine wp_regK fun K hK => ?_
               simp[hw, g1, h, ht, hk, hb0, hb1, he, hwl, hlt, q1, q2, q5]
               repeat' (with_reducible first | refine hK _ ?_ | (refine psel ?_ ?_ <;> (intro hc; (try rw [Decidable.not_not] at hc); first | (exfalso; omega) | (try simp [hc, hw, g1, h, ht, hk, hb0, hb1, he, hwl, hlt, q1, q2, q5]))))
               all_goals (clear hK; clear K))
            | (with_reducible refine wp_condE ?_
               refine ⟨_, rfl, ?_, ?_⟩ <;> (intro hc; (try simp at hc); (all_goals first | (exfalso; omega) | skip))))
          all_goals first | (exact ⟨(pre ++ [d], rest, IntKind.wrap .i64 (a + ((b.C.L.length : Int) - b.C.Next))), by simp [hk, q5, m3, m4], ⟨by simp, h3⟩, by simp⟩) | (exfalso; omega) | skip
    | false =>
      rw [hA, if_neg (by simp)] at h3
      have hcf := hA
      simp only [isChunkB, Bool.and_eq_false_iff] at hcf
      by_cases hk : d.Kind = 1
      · have ht : thereF x_B d.Buf d.Gen 1 d.Many = false := by simpa [hk] using hcf
        have g1 := t340 k0 x_C_Cols x_C_Slots x_C_Bufs x_Time x_T x_E x_Dd_Ver (pre ++ d :: rest) x_B x_M x_X x_P x_Tasks x_Deeds d.Buf d.Gen d.Kind d.First d.Many h
        simp only [List.map_append, List.map_cons, XRef.e, hk] at g1
        rw [ht] at g1
        repeat' (first
          | with_reducible (first | refine wp_seq ?_ | refine wp_blk ?_ | refine wp_skip ?_ | refine wp_exit ?_ | refine wp_ret ?_ | refine seqQ_norm ?_ | refine seqQ_ret ?_ | refine seqQ_exit ?_ | refine blkQ_norm ?_ | refine blkQ_ret ?_ | refine blkQ_exit ?_ | refine loopQ_norm ?_ | refine loopQ_exit ?_ | refine loopQ_ret ?_ | refine endQ_ret ?_ | refine endQ_norm ?_ | refine endE_ret ?_ | refine endE_norm ?_ | refine endI_ret ?_ | refine endI_norm ?_)
          | (with_reducible refine wp_regK fun K hK => ?_
             simp[hw, g1, h, hk]
             repeat' (with_reducible first | refine hK _ ?_ | (refine psel ?_ ?_ <;> (intro hc; (try rw [Decidable.not_not] at hc); first | (exfalso; omega) | (try simp [hc, hw, g1, h, hk]))))
             all_goals (clear hK; clear K))
          | (with_reducible refine wp_condE ?_
             refine ⟨_, rfl, ?_, ?_⟩ <;> (intro hc; (try simp at hc); (all_goals first | (exfalso; omega) | skip))))
        all_goals first | (exact ⟨(pre ++ [d], rest, a), by simp [hk], ⟨by simp, h3⟩, by simp⟩) | (exfalso; simp_all; done) | trace_state
      · repeat' (first
          | with_reducible (first | refine wp_seq ?_ | refine wp_blk ?_ | refine wp_skip ?_ | refine wp_exit ?_ | refine wp_ret ?_ | refine seqQ_norm ?_ | refine seqQ_ret ?_ | refine seqQ_exit ?_ | refine blkQ_norm ?_ | refine blkQ_ret ?_ | refine blkQ_exit ?_ | refine loopQ_norm ?_ | refine loopQ_exit ?_ | refine loopQ_ret ?_ | refine endQ_ret ?_ | refine endQ_norm ?_ | refine endE_ret ?_ | refine endE_norm ?_ | refine endI_ret ?_ | refine endI_norm ?_)
          | (with_reducible refine wp_regK fun K hK => ?_
             simp[hw, h, hk]
             repeat' (with_reducible first | refine hK _ ?_ | (refine psel ?_ ?_ <;> (intro hc; (try rw [Decidable.not_not] at hc); first | (exfalso; omega) | (try simp [hc, hw, h, hk]))))
             all_goals (clear hK; clear K))
          | (with_reducible refine wp_condE ?_
             refine ⟨_, rfl, ?_, ?_⟩ <;> (intro hc; (try simp at hc); (all_goals first | (exfalso; omega) | skip))))
        all_goals first | (exact ⟨(pre ++ [d], rest, a), by simp [hk], ⟨by simp, h3⟩, by simp⟩) | (exfalso; simp_all; done)

theorem t116 (aW_C_Cols : List Int) (aW_C_Slots : Int) (aW_C_Bufs : Int) (aW_Time : Int) (aW_T : Int) (aW_E : Int) (aW_Dd_Ver : Int) (aW_Dd_L : List XRef) (aW_B : List XBuf) (aW_M : List Int) (aW_X : List XDead) (aW_P : List Int) (aW_Tasks : List XTask) (aW_Deeds : List XDeed) (hok_aW_C_Cols : aW_C_Cols.length ≤ 9223372036854775807) (hok_aW_Dd_L : aW_Dd_L.length ≤ 9223372036854775807) (hok_aW_B : aW_B.length ≤ 9223372036854775807) (hoks_aW_B : XBuf.oks aW_B) (hok_aW_M : aW_M.length ≤ 9223372036854775807) (hok_aW_X : aW_X.length ≤ 9223372036854775807) (hok_aW_P : aW_P.length ≤ 9223372036854775807) (hok_aW_Tasks : aW_Tasks.length ≤ 9223372036854775807) (hoks_aW_Tasks : XTask.oks aW_Tasks) (hok_aW_Deeds : aW_Deeds.length ≤ 9223372036854775807) (hoks_aW_Deeds : XDeed.oks aW_Deeds) : Gw TT 116 [.st [.ro false (.sl 1 (aW_C_Cols.map ei)), .ro false (di aW_C_Slots), .ro false (di aW_C_Bufs), .ro false (di aW_Time), .ro false (di aW_T), .ro false (di aW_E), .ro false (di aW_Dd_Ver), .ro false (.sl 5 (aW_Dd_L.map XRef.e)), .ro false (.sl 5 (aW_B.map XBuf.e)), .ro false (.sl 1 (aW_M.map ei)), .ro false (.sl 3 (aW_X.map XDead.e)), .ro false (.sl 1 (aW_P.map ei)), .ro false (.sl 25 (aW_Tasks.map XTask.e)), .ro false (.sl 25 (aW_Deeds.map XDeed.e))]] = some (vb true, []) := by
  refine Gw_of (F := pf116) rfl rfl ?_
  show Wp _ pb116 _ _
  unfold pb116
  obtain ⟨n1, g1, a1, b1, s1⟩ := t233 false aW_C_Cols aW_C_Slots aW_C_Bufs aW_Time aW_T aW_E aW_Dd_Ver aW_Dd_L aW_B aW_M aW_X aW_P aW_Tasks aW_Deeds 1048576 (by omega) (by omega) hok_aW_C_Cols hok_aW_Dd_L hok_aW_B hoks_aW_B hok_aW_M hok_aW_X hok_aW_P hok_aW_Tasks hoks_aW_Tasks hok_aW_Deeds hoks_aW_Deeds
  repeat' (first
    | with_reducible (first | refine wp_seq ?_ | refine wp_blk ?_ | refine wp_skip ?_ | refine wp_exit ?_ | refine wp_ret ?_ | refine seqQ_norm ?_ | refine seqQ_ret ?_ | refine seqQ_exit ?_ | refine blkQ_norm ?_ | refine blkQ_ret ?_ | refine blkQ_exit ?_ | refine loopQ_norm ?_ | refine loopQ_exit ?_ | refine loopQ_ret ?_ | refine endQ_ret ?_ | refine endQ_norm ?_ | refine endE_ret ?_ | refine endE_norm ?_ | refine endI_ret ?_ | refine endI_norm ?_)
    | (with_reducible refine wp_regK fun K hK => ?_
       simp[g1]
       repeat' (with_reducible first | refine hK _ ?_ | (refine psel ?_ ?_ <;> (intro hc; (try rw [Decidable.not_not] at hc); first | (exfalso; omega) | (try simp [hc, g1]))))
       all_goals (clear hK; clear K))
    | (with_reducible refine wp_condE ?_
       refine ⟨_, rfl, ?_, ?_⟩ <;> (intro hc; (try simp at hc); (all_goals first | (exfalso; omega) | skip))))
  · simp [pf116]
  have q1 := s1 (by omega)
  obtain ⟨hsm_aW_C_Cols, hsm_aW_Dd_L, hsm_aW_B, hsms_aW_B, hsm_aW_M, hsm_aW_X, hsm_aW_P, hsm_aW_Tasks, hsms_aW_Tasks, hsm_aW_Deeds, hsms_aW_Deeds⟩ := q1
  repeat' (first
    | with_reducible (first | refine wp_seq ?_ | refine wp_blk ?_ | refine wp_skip ?_ | refine wp_exit ?_ | refine wp_ret ?_ | refine seqQ_norm ?_ | refine seqQ_ret ?_ | refine seqQ_exit ?_ | refine blkQ_norm ?_ | refine blkQ_ret ?_ | refine blkQ_exit ?_ | refine loopQ_norm ?_ | refine loopQ_exit ?_ | refine loopQ_ret ?_ | refine endQ_ret ?_ | refine endQ_norm ?_ | refine endE_ret ?_ | refine endE_norm ?_ | refine endI_ret ?_ | refine endI_norm ?_)
    | (with_reducible refine wp_regK fun K hK => ?_
       simp[hsm_aW_C_Cols, hsm_aW_Dd_L, hsm_aW_B, hsms_aW_B, hsm_aW_M, hsm_aW_X, hsm_aW_P, hsm_aW_Tasks, hsms_aW_Tasks, hsm_aW_Deeds, hsms_aW_Deeds, hoks_aW_B]
       repeat' (with_reducible first | refine hK _ ?_ | (refine psel ?_ ?_ <;> (intro hc; (try rw [Decidable.not_not] at hc); first | (exfalso; omega) | (try simp [hc, hsm_aW_C_Cols, hsm_aW_Dd_L, hsm_aW_B, hsms_aW_B, hsm_aW_M, hsm_aW_X, hsm_aW_P, hsm_aW_Tasks, hsms_aW_Tasks, hsm_aW_Deeds, hsms_aW_Deeds, hoks_aW_B]))))
       all_goals (clear hK; clear K))
    | (with_reducible refine wp_condE ?_
       refine ⟨_, rfl, ?_, ?_⟩ <;> (intro hc; (try simp at hc); (all_goals first | (exfalso; omega) | skip))))
  all_goals first | (simp [pf116]; done) | (simp_all [pf116]; done)

end Go.Proofs.Ytkgibccknlbiaaa.OM
