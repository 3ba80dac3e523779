/- What the functions answer. -/
import Derived.Test.YtcgekefbkccelaaGreatXStampPutLm1
set_option linter.all false
namespace Go.Proofs.YtcgekefbkccelaaGreat.OM
set_option maxHeartbeats 4000000
set_option maxRecDepth 100000

theorem t222b (k0 : Bool) (x_Kind : Int) (x_P_Kind : Int) (x_P_Col : Int) (x_P_Op : Int) (x_P_V_Ty : Int) (x_P_V_N : Int) (x_P_V_S : ByteArray) (x_P_L : List XPred) (x_Col : Int) (x_Out : List Int) (left : Int) (h0 : 0 ≤ left) (h1 : left ≤ 1048576) (hok_x_P_V_S : x_P_V_S.size ≤ 9223372036854775807) (hok_x_P_L : x_P_L.length ≤ 9223372036854775807) (hoks_x_P_L : XPred.oks x_P_L) (hok_x_Out : x_Out.length ≤ 9223372036854775807) :
    ∃ n, Gw TT 222 [.st [.ro false (di x_Kind), .ro false (di x_P_Kind), .ro false (di x_P_Col), .ro false (di x_P_Op), .ro false (di x_P_V_Ty), .ro false (di x_P_V_N), .ro false (.str x_P_V_S), .ro k0 (.sl 7 (x_P_L.map XPred.e)), .ro false (di x_Col), .ro k0 (.sl 1 (x_Out.map ei))], vi left] = some (vi n, []) ∧ -1 ≤ n ∧ n ≤ left ∧ (0 ≤ n → ctPreds x_P_L + ctInts x_Out ≤ 31 * (left - n)) := by
  refine Gw_ofI (F := pf222) rfl rfl ?_
  show Wp _ pb222 _ _
  unfold pb222
  have hn_x_P_L := ctPreds_nn x_P_L
  have hn_x_Out := ctInts_nn x_Out
  obtain ⟨n1, g1, a1, b1, s1⟩ := t220b k0 x_P_Kind x_P_Col x_P_Op x_P_V_Ty x_P_V_N x_P_V_S x_P_L left (by omega) (by omega) hok_x_P_V_S hok_x_P_L hoks_x_P_L
  repeat' (first
    | with_reducible (first | refine wp_seq ?_ | refine wp_blk ?_ | refine wp_skip ?_ | refine wp_exit ?_ | refine wp_ret ?_ | refine seqQ_norm ?_ | refine seqQ_ret ?_ | refine seqQ_exit ?_ | refine blkQ_norm ?_ | refine blkQ_ret ?_ | refine blkQ_exit ?_ | refine loopQ_norm ?_ | refine loopQ_exit ?_ | refine loopQ_ret ?_ | refine endQ_ret ?_ | refine endQ_norm ?_ | refine endE_ret ?_ | refine endE_norm ?_ | refine endI_ret ?_ | refine endI_norm ?_)
    | (with_reducible refine wp_regK fun K hK => ?_
       simp[g1]
       repeat' (with_reducible first | refine hK _ ?_ | (refine psel ?_ ?_ <;> (intro hc; (try rw [Decidable.not_not] at hc); first | (exfalso; omega) | (try simp [hc, g1]))))
       all_goals (clear hK; clear K))
    | (with_reducible refine wp_condE ?_
       refine ⟨_, rfl, ?_, ?_⟩ <;> (intro hc; (try simp at hc); (all_goals first | (exfalso; omega) | skip))))
  · exact ⟨-1, by simp [pf222], by omega, by omega, fun h => absurd h (by omega)⟩
  have q1 := s1 (by omega)
  obtain ⟨n2, g2, a2, b2, s2⟩ := t219b k0 x_Out n1 (by omega) (by omega) hok_x_Out
  repeat' (first
    | with_reducible (first | refine wp_seq ?_ | refine wp_blk ?_ | refine wp_skip ?_ | refine wp_exit ?_ | refine wp_ret ?_ | refine seqQ_norm ?_ | refine seqQ_ret ?_ | refine seqQ_exit ?_ | refine blkQ_norm ?_ | refine blkQ_ret ?_ | refine blkQ_exit ?_ | refine loopQ_norm ?_ | refine loopQ_exit ?_ | refine loopQ_ret ?_ | refine endQ_ret ?_ | refine endQ_norm ?_ | refine endE_ret ?_ | refine endE_norm ?_ | refine endI_ret ?_ | refine endI_norm ?_)
    | (with_reducible refine wp_regK fun K hK => ?_
       simp[g2]
       repeat' (with_reducible first | refine hK _ ?_ | (refine psel ?_ ?_ <;> (intro hc; (try rw [Decidable.not_not] at hc); first | (exfalso; omega) | (try simp [hc, g2]))))
       all_goals (clear hK; clear K))
    | (with_reducible refine wp_condE ?_
       refine ⟨_, rfl, ?_, ?_⟩ <;> (intro hc; (try simp at hc); (all_goals first | (exfalso; omega) | skip))))
  · exact ⟨-1, by simp [pf222], by omega, by omega, fun h => absurd h (by omega)⟩
  have q2 := s2 (by omega)
  · exact ⟨n2, by simp [pf222], by omega, by omega, fun _ => by omega⟩

theorem t224b (k0 : Bool) (x_Rows : List XRow) (x_N : Int) (x_Has : Bool) (x_V_Ty : Int) (x_V_N : Int) (x_V_S : ByteArray) (left : Int) (h0 : 0 ≤ left) (h1 : left ≤ 1048576) (hok_x_Rows : x_Rows.length ≤ 9223372036854775807) (hoks_x_Rows : XRow.oks x_Rows) (hok_x_V_S : x_V_S.size ≤ 9223372036854775807) :
    ∃ n, Gw TT 224 [.st [.ro k0 (.sl 2 (x_Rows.map XRow.e)), .ro false (di x_N), .ro false (.bool x_Has), .ro false (di x_V_Ty), .ro false (di x_V_N), .ro false (.str x_V_S)], vi left] = some (vi n, []) ∧ -1 ≤ n ∧ n ≤ left ∧ (0 ≤ n → ctRows x_Rows ≤ 31 * (left - n)) := by
  refine Gw_ofI (F := pf224) rfl rfl ?_
  show Wp _ pb224 _ _
  unfold pb224
  have hn_x_Rows := ctRows_nn x_Rows
  obtain ⟨n1, g1, a1, b1, s1⟩ := t226b k0 x_Rows left (by omega) (by omega) hok_x_Rows hoks_x_Rows
  repeat' (first
    | with_reducible (first | refine wp_seq ?_ | refine wp_blk ?_ | refine wp_skip ?_ | refine wp_exit ?_ | refine wp_ret ?_ | refine seqQ_norm ?_ | refine seqQ_ret ?_ | refine seqQ_exit ?_ | refine blkQ_norm ?_ | refine blkQ_ret ?_ | refine blkQ_exit ?_ | refine loopQ_norm ?_ | refine loopQ_exit ?_ | refine loopQ_ret ?_ | refine endQ_ret ?_ | refine endQ_norm ?_ | refine endE_ret ?_ | refine endE_norm ?_ | refine endI_ret ?_ | refine endI_norm ?_)
    | (with_reducible refine wp_regK fun K hK => ?_
       simp[g1]
       repeat' (with_reducible first | refine hK _ ?_ | (refine psel ?_ ?_ <;> (intro hc; (try rw [Decidable.not_not] at hc); first | (exfalso; omega) | (try simp [hc, g1]))))
       all_goals (clear hK; clear K))
    | (with_reducible refine wp_condE ?_
       refine ⟨_, rfl, ?_, ?_⟩ <;> (intro hc; (try simp at hc); (all_goals first | (exfalso; omega) | skip))))
  · exact ⟨-1, by simp [pf224], by omega, by omega, fun h => absurd h (by omega)⟩
  have q1 := s1 (by omega)
  obtain ⟨n2, g2, a2, b2, s2⟩ := t231b x_V_Ty x_V_N x_V_S n1 (by omega) (by omega) hok_x_V_S
  repeat' (first
    | with_reducible (first | refine wp_seq ?_ | refine wp_blk ?_ | refine wp_skip ?_ | refine wp_exit ?_ | refine wp_ret ?_ | refine seqQ_norm ?_ | refine seqQ_ret ?_ | refine seqQ_exit ?_ | refine blkQ_norm ?_ | refine blkQ_ret ?_ | refine blkQ_exit ?_ | refine loopQ_norm ?_ | refine loopQ_exit ?_ | refine loopQ_ret ?_ | refine endQ_ret ?_ | refine endQ_norm ?_ | refine endE_ret ?_ | refine endE_norm ?_ | refine endI_ret ?_ | refine endI_norm ?_)
    | (with_reducible refine wp_regK fun K hK => ?_
       simp[g2]
       repeat' (with_reducible first | refine hK _ ?_ | (refine psel ?_ ?_ <;> (intro hc; (try rw [Decidable.not_not] at hc); first | (exfalso; omega) | (try simp [hc, g2]))))
       all_goals (clear hK; clear K))
    | (with_reducible refine wp_condE ?_
       refine ⟨_, rfl, ?_, ?_⟩ <;> (intro hc; (try simp at hc); (all_goals first | (exfalso; omega) | skip))))
  · exact ⟨-1, by simp [pf224], by omega, by omega, fun h => absurd h (by omega)⟩
  have q2 := s2 (by omega)
  · exact ⟨n2, by simp [pf224], by omega, by omega, fun _ => by omega⟩

theorem t229b (k0 : Bool) (x_Op : Int) (x_Pc : Int) (x_H : Int) (x_R : List XVal) (x_Id : Int) (x_Q_Kind : Int) (x_Q_P_Kind : Int) (x_Q_P_Col : Int) (x_Q_P_Op : Int) (x_Q_P_V_Ty : Int) (x_Q_P_V_N : Int) (x_Q_P_V_S : ByteArray) (x_Q_P_L : List XPred) (x_Q_Col : Int) (x_Q_Out : List Int) (x_Ts : Int) (x_Ver : Int) (x_L : List XRef) (x_I : Int) (x_J : Int) (x_S : Int) (x_At : Int) (x_Own : Int) (x_Won : Bool) (x_Got : List XRow) (left : Int) (h0 : 0 ≤ left) (h1 : left ≤ 1048576) (hok_x_R : x_R.length ≤ 9223372036854775807) (hoks_x_R : XVal.oks x_R) (hok_x_Q_P_V_S : x_Q_P_V_S.size ≤ 9223372036854775807) (hok_x_Q_P_L : x_Q_P_L.length ≤ 9223372036854775807) (hoks_x_Q_P_L : XPred.oks x_Q_P_L) (hok_x_Q_Out : x_Q_Out.length ≤ 9223372036854775807) (hok_x_L : x_L.length ≤ 9223372036854775807) (hok_x_Got : x_Got.length ≤ 9223372036854775807) (hoks_x_Got : XRow.oks x_Got) :
    ∃ n, Gw TT 229 [.st [.ro false (di x_Op), .ro false (di x_Pc), .ro false (di x_H), .ro k0 (.sl 3 (x_R.map XVal.e)), .ro false (di x_Id), .ro false (di x_Q_Kind), .ro false (di x_Q_P_Kind), .ro false (di x_Q_P_Col), .ro false (di x_Q_P_Op), .ro false (di x_Q_P_V_Ty), .ro false (di x_Q_P_V_N), .ro false (.str x_Q_P_V_S), .ro k0 (.sl 7 (x_Q_P_L.map XPred.e)), .ro false (di x_Q_Col), .ro k0 (.sl 1 (x_Q_Out.map ei)), .ro false (di x_Ts), .ro false (di x_Ver), .ro k0 (.sl 5 (x_L.map XRef.e)), .ro false (di x_I), .ro false (di x_J), .ro false (di x_S), .ro false (di x_At), .ro false (di x_Own), .ro false (.bool x_Won), .ro k0 (.sl 2 (x_Got.map XRow.e))], vi left] = some (vi n, []) ∧ -1 ≤ n ∧ n ≤ left ∧ (0 ≤ n → ctVals x_R + ctPreds x_Q_P_L + ctInts x_Q_Out + ctRefs x_L + ctRows x_Got ≤ 31 * (left - n)) := by
  refine Gw_ofI (F := pf229) rfl rfl ?_
  show Wp _ pb229 _ _
  unfold pb229
  have hn_x_R := ctVals_nn x_R
  have hn_x_Q_P_L := ctPreds_nn x_Q_P_L
  have hn_x_Q_Out := ctInts_nn x_Q_Out
  have hn_x_L := ctRefs_nn x_L
  have hn_x_Got := ctRows_nn x_Got
  obtain ⟨n1, g1, a1, b1, s1⟩ := t232b k0 x_R left (by omega) (by omega) hok_x_R hoks_x_R
  repeat' (first
    | with_reducible (first | refine wp_seq ?_ | refine wp_blk ?_ | refine wp_skip ?_ | refine wp_exit ?_ | refine wp_ret ?_ | refine seqQ_norm ?_ | refine seqQ_ret ?_ | refine seqQ_exit ?_ | refine blkQ_norm ?_ | refine blkQ_ret ?_ | refine blkQ_exit ?_ | refine loopQ_norm ?_ | refine loopQ_exit ?_ | refine loopQ_ret ?_ | refine endQ_ret ?_ | refine endQ_norm ?_ | refine endE_ret ?_ | refine endE_norm ?_ | refine endI_ret ?_ | refine endI_norm ?_)
    | (with_reducible refine wp_regK fun K hK => ?_
       simp[g1]
       repeat' (with_reducible first | refine hK _ ?_ | (refine psel ?_ ?_ <;> (intro hc; (try rw [Decidable.not_not] at hc); first | (exfalso; omega) | (try simp [hc, g1]))))
       all_goals (clear hK; clear K))
    | (with_reducible refine wp_condE ?_
       refine ⟨_, rfl, ?_, ?_⟩ <;> (intro hc; (try simp at hc); (all_goals first | (exfalso; omega) | skip))))
  · exact ⟨-1, by simp [pf229], by omega, by omega, fun h => absurd h (by omega)⟩
  have q1 := s1 (by omega)
  obtain ⟨n2, g2, a2, b2, s2⟩ := t222b k0 x_Q_Kind x_Q_P_Kind x_Q_P_Col x_Q_P_Op x_Q_P_V_Ty x_Q_P_V_N x_Q_P_V_S x_Q_P_L x_Q_Col x_Q_Out n1 (by omega) (by omega) hok_x_Q_P_V_S hok_x_Q_P_L hoks_x_Q_P_L hok_x_Q_Out
  repeat' (first
    | with_reducible (first | refine wp_seq ?_ | refine wp_blk ?_ | refine wp_skip ?_ | refine wp_exit ?_ | refine wp_ret ?_ | refine seqQ_norm ?_ | refine seqQ_ret ?_ | refine seqQ_exit ?_ | refine blkQ_norm ?_ | refine blkQ_ret ?_ | refine blkQ_exit ?_ | refine loopQ_norm ?_ | refine loopQ_exit ?_ | refine loopQ_ret ?_ | refine endQ_ret ?_ | refine endQ_norm ?_ | refine endE_ret ?_ | refine endE_norm ?_ | refine endI_ret ?_ | refine endI_norm ?_)
    | (with_reducible refine wp_regK fun K hK => ?_
       simp[g2]
       repeat' (with_reducible first | refine hK _ ?_ | (refine psel ?_ ?_ <;> (intro hc; (try rw [Decidable.not_not] at hc); first | (exfalso; omega) | (try simp [hc, g2]))))
       all_goals (clear hK; clear K))
    | (with_reducible refine wp_condE ?_
       refine ⟨_, rfl, ?_, ?_⟩ <;> (intro hc; (try simp at hc); (all_goals first | (exfalso; omega) | skip))))
  · exact ⟨-1, by simp [pf229], by omega, by omega, fun h => absurd h (by omega)⟩
  have q2 := s2 (by omega)
  obtain ⟨n3, g3, a3, b3, s3⟩ := t223b k0 x_L n2 (by omega) (by omega) hok_x_L
  repeat' (first
    | with_reducible (first | refine wp_seq ?_ | refine wp_blk ?_ | refine wp_skip ?_ | refine wp_exit ?_ | refine wp_ret ?_ | refine seqQ_norm ?_ | refine seqQ_ret ?_ | refine seqQ_exit ?_ | refine blkQ_norm ?_ | refine blkQ_ret ?_ | refine blkQ_exit ?_ | refine loopQ_norm ?_ | refine loopQ_exit ?_ | refine loopQ_ret ?_ | refine endQ_ret ?_ | refine endQ_norm ?_ | refine endE_ret ?_ | refine endE_norm ?_ | refine endI_ret ?_ | refine endI_norm ?_)
    | (with_reducible refine wp_regK fun K hK => ?_
       simp[g3]
       repeat' (with_reducible first | refine hK _ ?_ | (refine psel ?_ ?_ <;> (intro hc; (try rw [Decidable.not_not] at hc); first | (exfalso; omega) | (try simp [hc, g3]))))
       all_goals (clear hK; clear K))
    | (with_reducible refine wp_condE ?_
       refine ⟨_, rfl, ?_, ?_⟩ <;> (intro hc; (try simp at hc); (all_goals first | (exfalso; omega) | skip))))
  · exact ⟨-1, by simp [pf229], by omega, by omega, fun h => absurd h (by omega)⟩
  have q3 := s3 (by omega)
  obtain ⟨n4, g4, a4, b4, s4⟩ := t226b k0 x_Got n3 (by omega) (by omega) hok_x_Got hoks_x_Got
  repeat' (first
    | with_reducible (first | refine wp_seq ?_ | refine wp_blk ?_ | refine wp_skip ?_ | refine wp_exit ?_ | refine wp_ret ?_ | refine seqQ_norm ?_ | refine seqQ_ret ?_ | refine seqQ_exit ?_ | refine blkQ_norm ?_ | refine blkQ_ret ?_ | refine blkQ_exit ?_ | refine loopQ_norm ?_ | refine loopQ_exit ?_ | refine loopQ_ret ?_ | refine endQ_ret ?_ | refine endQ_norm ?_ | refine endE_ret ?_ | refine endE_norm ?_ | refine endI_ret ?_ | refine endI_norm ?_)
    | (with_reducible refine wp_regK fun K hK => ?_
       simp[g4]
       repeat' (with_reducible first | refine hK _ ?_ | (refine psel ?_ ?_ <;> (intro hc; (try rw [Decidable.not_not] at hc); first | (exfalso; omega) | (try simp [hc, g4]))))
       all_goals (clear hK; clear K))
    | (with_reducible refine wp_condE ?_
       refine ⟨_, rfl, ?_, ?_⟩ <;> (intro hc; (try simp at hc); (all_goals first | (exfalso; omega) | skip))))
  · exact ⟨-1, by simp [pf229], by omega, by omega, fun h => absurd h (by omega)⟩
  have q4 := s4 (by omega)
  · exact ⟨n4, by simp [pf229], by omega, by omega, fun _ => by omega⟩

theorem t230b (k0 : Bool) (l : List XTask) (left : Int) (h0 : 0 ≤ left) (h1 : left ≤ 1048576) (hl : l.length ≤ 9223372036854775807) (hok : XTask.oks l) :
    ∃ n, Gw TT 230 [.one (.ro k0 (.sl 25 (l.map XTask.e))), vi left] = some (vi n, []) ∧ -1 ≤ n ∧ n ≤ left ∧ (0 ≤ n → ctTasks l ≤ 31 * (left - n)) := by
  refine Gw_ofI (F := pf230) rfl rfl ?_
  show Wp _ pb230 _ _
  unfold pb230
  have g : IntKind.wrap .i64 (left - (l.length : Int)) = left - (l.length : Int) := wrap_i64 (by omega) (by omega)
  repeat' (first
    | with_reducible (first | refine wp_seq ?_ | refine wp_blk ?_ | refine wp_skip ?_ | refine wp_exit ?_ | refine wp_ret ?_ | refine seqQ_norm ?_ | refine seqQ_ret ?_ | refine seqQ_exit ?_ | refine blkQ_norm ?_ | refine blkQ_ret ?_ | refine blkQ_exit ?_ | refine loopQ_norm ?_ | refine loopQ_exit ?_ | refine loopQ_ret ?_ | refine endQ_ret ?_ | refine endQ_norm ?_ | refine endE_ret ?_ | refine endE_norm ?_ | refine endI_ret ?_ | refine endI_norm ?_)
    | (with_reducible refine wp_regK fun K hK => ?_
       simp[g]
       repeat' (with_reducible first | refine hK _ ?_ | (refine psel ?_ ?_ <;> (intro hc; (try rw [Decidable.not_not] at hc); first | (exfalso; omega) | (try simp [hc, g]))))
       all_goals (clear hK; clear K))
    | (with_reducible refine wp_condE ?_
       refine ⟨_, rfl, ?_, ?_⟩ <;> (intro hc; (try simp at hc); (all_goals first | (exfalso; omega) | skip))))
  · exact ⟨-1, by simp [pf230], by omega, by omega, fun h => absurd h (by omega)⟩
  · refine wp_loopI (σ := List XTask × List XTask × Int) (fun s => [(0, AV.v k0 (D.sl 25 (List.map XTask.e l)), none), (1, AV.v false (di s.2.2), none), (5, AV.v false (di (s.1.length : Nat)), none)]) (fun s => l = s.1 ++ s.2.1 ∧ 0 ≤ s.2.2 ∧ s.2.2 ≤ left - (l.length : Int) ∧ ctTasks s.1 ≤ 31 * (left - (l.length : Int) - s.2.2) + 20 * (s.1.length : Int)) (fun s => s.2.1.length) ([], l, left - (l.length : Int)) (by simp) ⟨rfl, by simp only; omega, by simp only; omega, by simp [ctTasks]⟩ ?_
    rintro ⟨pre, rest, lf⟩ ⟨h2, h3, h4, h5⟩
    simp only at h2 h3 h4 h5
    subst h2
    simp only [List.length_append, List.length_cons] at hl h4 h5 g
    rcases rest with _ | ⟨⟨y_Op, y_Pc, y_H, y_R, y_Id, ⟨y_Q_Kind, ⟨y_Q_P_Kind, y_Q_P_Col, y_Q_P_Op, ⟨y_Q_P_V_Ty, y_Q_P_V_N, y_Q_P_V_S⟩, y_Q_P_L⟩, y_Q_Col, y_Q_Out⟩, y_Ts, y_Ver, y_L, y_I, y_J, y_S, y_At, y_Own, y_Won, y_Got⟩, rest⟩
    · unfold pl230_0
      repeat' (first
        | with_reducible (first | refine wp_seq ?_ | refine wp_blk ?_ | refine wp_skip ?_ | refine wp_exit ?_ | refine wp_ret ?_ | refine seqQ_norm ?_ | refine seqQ_ret ?_ | refine seqQ_exit ?_ | refine blkQ_norm ?_ | refine blkQ_ret ?_ | refine blkQ_exit ?_ | refine loopQ_norm ?_ | refine loopQ_exit ?_ | refine loopQ_ret ?_ | refine endQ_ret ?_ | refine endQ_norm ?_ | refine endE_ret ?_ | refine endE_norm ?_ | refine endI_ret ?_ | refine endI_norm ?_)
        | (with_reducible refine wp_regK fun K hK => ?_
           simp
           repeat' (with_reducible first | refine hK _ ?_ | (refine psel ?_ ?_ <;> (intro hc; (try rw [Decidable.not_not] at hc); first | (exfalso; omega) | (try simp [hc]))))
           all_goals (clear hK; clear K))
        | (with_reducible refine wp_condE ?_
           refine ⟨_, rfl, ?_, ?_⟩ <;> (intro hc; (try simp at hc); (all_goals first | (exfalso; omega) | skip))))
      simp only [List.length_nil] at h4 h5
      all_goals exact ⟨lf, by simp [pf230], by omega, by omega, fun _ => by simp only [List.append_nil]; omega⟩
    · unfold pl230_0
      simp only [List.length_cons] at hl h4 h5
      have hw : IntKind.wrap .i64 ((pre.length : Int) + 1) = (pre.length : Int) + 1 := wrap_i64 (by omega) (by omega)
      have hap := ctTasks_app pre ⟨y_Op, y_Pc, y_H, y_R, y_Id, ⟨y_Q_Kind, ⟨y_Q_P_Kind, y_Q_P_Col, y_Q_P_Op, ⟨y_Q_P_V_Ty, y_Q_P_V_N, y_Q_P_V_S⟩, y_Q_P_L⟩, y_Q_Col, y_Q_Out⟩, y_Ts, y_Ver, y_L, y_I, y_J, y_S, y_At, y_Own, y_Won, y_Got⟩
      simp only [ctTask] at hap
      have hd := hok ⟨y_Op, y_Pc, y_H, y_R, y_Id, ⟨y_Q_Kind, ⟨y_Q_P_Kind, y_Q_P_Col, y_Q_P_Op, ⟨y_Q_P_V_Ty, y_Q_P_V_N, y_Q_P_V_S⟩, y_Q_P_L⟩, y_Q_Col, y_Q_Out⟩, y_Ts, y_Ver, y_L, y_I, y_J, y_S, y_At, y_Own, y_Won, y_Got⟩ (by simp)
      simp only [XTask.ok, XQuery.ok, XPred.ok_eq, XVal.ok, and_assoc] at hd
      obtain ⟨hlo_y_Op, hhi_y_Op, hlo_y_Pc, hhi_y_Pc, hlo_y_H, hhi_y_H, hok_y_R, hoks_y_R, hlo_y_Id, hhi_y_Id, hlo_y_Q_Kind, hhi_y_Q_Kind, hlo_y_Q_P_Kind, hhi_y_Q_P_Kind, hlo_y_Q_P_Col, hhi_y_Q_P_Col, hlo_y_Q_P_Op, hhi_y_Q_P_Op, hlo_y_Q_P_V_Ty, hhi_y_Q_P_V_Ty, hlo_y_Q_P_V_N, hhi_y_Q_P_V_N, hok_y_Q_P_V_S, hok_y_Q_P_L, hoks_y_Q_P_L, hlo_y_Q_Col, hhi_y_Q_Col, hok_y_Q_Out, hoki_y_Q_Out, hlo_y_Ts, hhi_y_Ts, hlo_y_Ver, hhi_y_Ver, hok_y_L, hoks_y_L, hlo_y_I, hhi_y_I, hlo_y_J, hhi_y_J, hlo_y_S, hhi_y_S, hlo_y_At, hhi_y_At, hlo_y_Own, hhi_y_Own, hok_y_Got, hoks_y_Got⟩ := hd
      obtain ⟨n1, g1, a1, b1, s1⟩ := t229b k0 y_Op y_Pc y_H y_R y_Id y_Q_Kind y_Q_P_Kind y_Q_P_Col y_Q_P_Op y_Q_P_V_Ty y_Q_P_V_N y_Q_P_V_S y_Q_P_L y_Q_Col y_Q_Out y_Ts y_Ver y_L y_I y_J y_S y_At y_Own y_Won y_Got lf (by omega) (by omega) hok_y_R hoks_y_R hok_y_Q_P_V_S hok_y_Q_P_L hoks_y_Q_P_L hok_y_Q_Out hok_y_L hok_y_Got hoks_y_Got
      repeat' (first
        | with_reducible (first | refine wp_seq ?_ | refine wp_blk ?_ | refine wp_skip ?_ | refine wp_exit ?_ | refine wp_ret ?_ | refine seqQ_norm ?_ | refine seqQ_ret ?_ | refine seqQ_exit ?_ | refine blkQ_norm ?_ | refine blkQ_ret ?_ | refine blkQ_exit ?_ | refine loopQ_norm ?_ | refine loopQ_exit ?_ | refine loopQ_ret ?_ | refine endQ_ret ?_ | refine endQ_norm ?_ | refine endE_ret ?_ | refine endE_norm ?_ | refine endI_ret ?_ | refine endI_norm ?_)
        | (with_reducible refine wp_regK fun K hK => ?_
           simp[g1, hw]
           repeat' (with_reducible first | refine hK _ ?_ | (refine psel ?_ ?_ <;> (intro hc; (try rw [Decidable.not_not] at hc); first | (exfalso; omega) | (try simp [hc, g1, hw]))))
           all_goals (clear hK; clear K))
        | (with_reducible refine wp_condE ?_
           refine ⟨_, rfl, ?_, ?_⟩ <;> (intro hc; (try simp at hc); (all_goals first | (exfalso; omega) | skip))))
      · exact ⟨-1, by simp [pf230], by omega, by omega, fun h => absurd h (by omega)⟩
      · have hq := s1 (by omega)
        skip
        exact ⟨(pre ++ [⟨y_Op, y_Pc, y_H, y_R, y_Id, ⟨y_Q_Kind, ⟨y_Q_P_Kind, y_Q_P_Col, y_Q_P_Op, ⟨y_Q_P_V_Ty, y_Q_P_V_N, y_Q_P_V_S⟩, y_Q_P_L⟩, y_Q_Col, y_Q_Out⟩, y_Ts, y_Ver, y_L, y_I, y_J, y_S, y_At, y_Own, y_Won, y_Got⟩], rest, n1), by simp, ⟨by simp, by simp only; omega, by simp only [List.length_append, List.length_cons]; omega, by simp only [List.length_append, List.length_cons, List.length_nil]; omega⟩, by simp⟩

theorem t216b (k0 : Bool) (x_Op : Int) (x_Task : Int) (x_R : List XVal) (x_Id : Int) (x_Q_Kind : Int) (x_Q_P_Kind : Int) (x_Q_P_Col : Int) (x_Q_P_Op : Int) (x_Q_P_V_Ty : Int) (x_Q_P_V_N : Int) (x_Q_P_V_S : ByteArray) (x_Q_P_L : List XPred) (x_Q_Col : Int) (x_Q_Out : List Int) (x_Res_Rows : List XRow) (x_Res_N : Int) (x_Res_Has : Bool) (x_Res_V_Ty : Int) (x_Res_V_N : Int) (x_Res_V_S : ByteArray) (x_Code : Int) (x_Stamp : Int) (x_Inv : Int) (x_Lin : Int) (x_Ret : Int) (left : Int) (h0 : 0 ≤ left) (h1 : left ≤ 1048576) (hok_x_R : x_R.length ≤ 9223372036854775807) (hoks_x_R : XVal.oks x_R) (hok_x_Q_P_V_S : x_Q_P_V_S.size ≤ 9223372036854775807) (hok_x_Q_P_L : x_Q_P_L.length ≤ 9223372036854775807) (hoks_x_Q_P_L : XPred.oks x_Q_P_L) (hok_x_Q_Out : x_Q_Out.length ≤ 9223372036854775807) (hok_x_Res_Rows : x_Res_Rows.length ≤ 9223372036854775807) (hoks_x_Res_Rows : XRow.oks x_Res_Rows) (hok_x_Res_V_S : x_Res_V_S.size ≤ 9223372036854775807) :
    ∃ n, Gw TT 216 [.st [.ro false (di x_Op), .ro false (di x_Task), .ro k0 (.sl 3 (x_R.map XVal.e)), .ro false (di x_Id), .ro false (di x_Q_Kind), .ro false (di x_Q_P_Kind), .ro false (di x_Q_P_Col), .ro false (di x_Q_P_Op), .ro false (di x_Q_P_V_Ty), .ro false (di x_Q_P_V_N), .ro false (.str x_Q_P_V_S), .ro k0 (.sl 7 (x_Q_P_L.map XPred.e)), .ro false (di x_Q_Col), .ro k0 (.sl 1 (x_Q_Out.map ei)), .ro k0 (.sl 2 (x_Res_Rows.map XRow.e)), .ro false (di x_Res_N), .ro false (.bool x_Res_Has), .ro false (di x_Res_V_Ty), .ro false (di x_Res_V_N), .ro false (.str x_Res_V_S), .ro false (di x_Code), .ro false (di x_Stamp), .ro false (di x_Inv), .ro false (di x_Lin), .ro false (di x_Ret)], vi left] = some (vi n, []) ∧ -1 ≤ n ∧ n ≤ left ∧ (0 ≤ n → ctVals x_R + ctPreds x_Q_P_L + ctInts x_Q_Out + ctRows x_Res_Rows ≤ 31 * (left - n)) := by
  refine Gw_ofI (F := pf216) rfl rfl ?_
  show Wp _ pb216 _ _
  unfold pb216
  have hn_x_R := ctVals_nn x_R
  have hn_x_Q_P_L := ctPreds_nn x_Q_P_L
  have hn_x_Q_Out := ctInts_nn x_Q_Out
  have hn_x_Res_Rows := ctRows_nn x_Res_Rows
  obtain ⟨n1, g1, a1, b1, s1⟩ := t232b k0 x_R left (by omega) (by omega) hok_x_R hoks_x_R
  repeat' (first
    | with_reducible (first | refine wp_seq ?_ | refine wp_blk ?_ | refine wp_skip ?_ | refine wp_exit ?_ | refine wp_ret ?_ | refine seqQ_norm ?_ | refine seqQ_ret ?_ | refine seqQ_exit ?_ | refine blkQ_norm ?_ | refine blkQ_ret ?_ | refine blkQ_exit ?_ | refine loopQ_norm ?_ | refine loopQ_exit ?_ | refine loopQ_ret ?_ | refine endQ_ret ?_ | refine endQ_norm ?_ | refine endE_ret ?_ | refine endE_norm ?_ | refine endI_ret ?_ | refine endI_norm ?_)
    | (with_reducible refine wp_regK fun K hK => ?_
       simp[g1]
       repeat' (with_reducible first | refine hK _ ?_ | (refine psel ?_ ?_ <;> (intro hc; (try rw [Decidable.not_not] at hc); first | (exfalso; omega) | (try simp [hc, g1]))))
       all_goals (clear hK; clear K))
    | (with_reducible refine wp_condE ?_
       refine ⟨_, rfl, ?_, ?_⟩ <;> (intro hc; (try simp at hc); (all_goals first | (exfalso; omega) | skip))))
  · exact ⟨-1, by simp [pf216], by omega, by omega, fun h => absurd h (by omega)⟩
  have q1 := s1 (by omega)
  obtain ⟨n2, g2, a2, b2, s2⟩ := t222b k0 x_Q_Kind x_Q_P_Kind x_Q_P_Col x_Q_P_Op x_Q_P_V_Ty x_Q_P_V_N x_Q_P_V_S x_Q_P_L x_Q_Col x_Q_Out n1 (by omega) (by omega) hok_x_Q_P_V_S hok_x_Q_P_L hoks_x_Q_P_L hok_x_Q_Out
  repeat' (first
    | with_reducible (first | refine wp_seq ?_ | refine wp_blk ?_ | refine wp_skip ?_ | refine wp_exit ?_ | refine wp_ret ?_ | refine seqQ_norm ?_ | refine seqQ_ret ?_ | refine seqQ_exit ?_ | refine blkQ_norm ?_ | refine blkQ_ret ?_ | refine blkQ_exit ?_ | refine loopQ_norm ?_ | refine loopQ_exit ?_ | refine loopQ_ret ?_ | refine endQ_ret ?_ | refine endQ_norm ?_ | refine endE_ret ?_ | refine endE_norm ?_ | refine endI_ret ?_ | refine endI_norm ?_)
    | (with_reducible refine wp_regK fun K hK => ?_
       simp[g2]
       repeat' (with_reducible first | refine hK _ ?_ | (refine psel ?_ ?_ <;> (intro hc; (try rw [Decidable.not_not] at hc); first | (exfalso; omega) | (try simp [hc, g2]))))
       all_goals (clear hK; clear K))
    | (with_reducible refine wp_condE ?_
       refine ⟨_, rfl, ?_, ?_⟩ <;> (intro hc; (try simp at hc); (all_goals first | (exfalso; omega) | skip))))
  · exact ⟨-1, by simp [pf216], by omega, by omega, fun h => absurd h (by omega)⟩
  have q2 := s2 (by omega)
  obtain ⟨n3, g3, a3, b3, s3⟩ := t224b k0 x_Res_Rows x_Res_N x_Res_Has x_Res_V_Ty x_Res_V_N x_Res_V_S n2 (by omega) (by omega) hok_x_Res_Rows hoks_x_Res_Rows hok_x_Res_V_S
  repeat' (first
    | with_reducible (first | refine wp_seq ?_ | refine wp_blk ?_ | refine wp_skip ?_ | refine wp_exit ?_ | refine wp_ret ?_ | refine seqQ_norm ?_ | refine seqQ_ret ?_ | refine seqQ_exit ?_ | refine blkQ_norm ?_ | refine blkQ_ret ?_ | refine blkQ_exit ?_ | refine loopQ_norm ?_ | refine loopQ_exit ?_ | refine loopQ_ret ?_ | refine endQ_ret ?_ | refine endQ_norm ?_ | refine endE_ret ?_ | refine endE_norm ?_ | refine endI_ret ?_ | refine endI_norm ?_)
    | (with_reducible refine wp_regK fun K hK => ?_
       simp[g3]
       repeat' (with_reducible first | refine hK _ ?_ | (refine psel ?_ ?_ <;> (intro hc; (try rw [Decidable.not_not] at hc); first | (exfalso; omega) | (try simp [hc, g3]))))
       all_goals (clear hK; clear K))
    | (with_reducible refine wp_condE ?_
       refine ⟨_, rfl, ?_, ?_⟩ <;> (intro hc; (try simp at hc); (all_goals first | (exfalso; omega) | skip))))
  · exact ⟨-1, by simp [pf216], by omega, by omega, fun h => absurd h (by omega)⟩
  have q3 := s3 (by omega)
  · exact ⟨n3, by simp [pf216], by omega, by omega, fun _ => by omega⟩

theorem t217b (k0 : Bool) (l : List XDeed) (left : Int) (h0 : 0 ≤ left) (h1 : left ≤ 1048576) (hl : l.length ≤ 9223372036854775807) (hok : XDeed.oks l) :
    ∃ n, Gw TT 217 [.one (.ro k0 (.sl 25 (l.map XDeed.e))), vi left] = some (vi n, []) ∧ -1 ≤ n ∧ n ≤ left ∧ (0 ≤ n → ctDeeds l ≤ 31 * (left - n)) := by
  refine Gw_ofI (F := pf217) rfl rfl ?_
  show Wp _ pb217 _ _
  unfold pb217
  have g : IntKind.wrap .i64 (left - (l.length : Int)) = left - (l.length : Int) := wrap_i64 (by omega) (by omega)
  repeat' (first
    | with_reducible (first | refine wp_seq ?_ | refine wp_blk ?_ | refine wp_skip ?_ | refine wp_exit ?_ | refine wp_ret ?_ | refine seqQ_norm ?_ | refine seqQ_ret ?_ | refine seqQ_exit ?_ | refine blkQ_norm ?_ | refine blkQ_ret ?_ | refine blkQ_exit ?_ | refine loopQ_norm ?_ | refine loopQ_exit ?_ | refine loopQ_ret ?_ | refine endQ_ret ?_ | refine endQ_norm ?_ | refine endE_ret ?_ | refine endE_norm ?_ | refine endI_ret ?_ | refine endI_norm ?_)
    | (with_reducible refine wp_regK fun K hK => ?_
       simp[g]
       repeat' (with_reducible first | refine hK _ ?_ | (refine psel ?_ ?_ <;> (intro hc; (try rw [Decidable.not_not] at hc); first | (exfalso; omega) | (try simp [hc, g]))))
       all_goals (clear hK; clear K))
    | (with_reducible refine wp_condE ?_
       refine ⟨_, rfl, ?_, ?_⟩ <;> (intro hc; (try simp at hc); (all_goals first | (exfalso; omega) | skip))))
  · exact ⟨-1, by simp [pf217], by omega, by omega, fun h => absurd h (by omega)⟩
  · refine wp_loopI (σ := List XDeed × List XDeed × Int) (fun s => [(0, AV.v k0 (D.sl 25 (List.map XDeed.e l)), none), (1, AV.v false (di s.2.2), none), (5, AV.v false (di (s.1.length : Nat)), none)]) (fun s => l = s.1 ++ s.2.1 ∧ 0 ≤ s.2.2 ∧ s.2.2 ≤ left - (l.length : Int) ∧ ctDeeds s.1 ≤ 31 * (left - (l.length : Int) - s.2.2) + 21 * (s.1.length : Int)) (fun s => s.2.1.length) ([], l, left - (l.length : Int)) (by simp) ⟨rfl, by simp only; omega, by simp only; omega, by simp [ctDeeds]⟩ ?_
    rintro ⟨pre, rest, lf⟩ ⟨h2, h3, h4, h5⟩
    simp only at h2 h3 h4 h5
    subst h2
    simp only [List.length_append, List.length_cons] at hl h4 h5 g
    rcases rest with _ | ⟨⟨y_Op, y_Task, y_R, y_Id, ⟨y_Q_Kind, ⟨y_Q_P_Kind, y_Q_P_Col, y_Q_P_Op, ⟨y_Q_P_V_Ty, y_Q_P_V_N, y_Q_P_V_S⟩, y_Q_P_L⟩, y_Q_Col, y_Q_Out⟩, ⟨y_Res_Rows, y_Res_N, y_Res_Has, ⟨y_Res_V_Ty, y_Res_V_N, y_Res_V_S⟩⟩, y_Code, y_Stamp, y_Inv, y_Lin, y_Ret⟩, rest⟩
    · unfold pl217_0
      repeat' (first
        | with_reducible (first | refine wp_seq ?_ | refine wp_blk ?_ | refine wp_skip ?_ | refine wp_exit ?_ | refine wp_ret ?_ | refine seqQ_norm ?_ | refine seqQ_ret ?_ | refine seqQ_exit ?_ | refine blkQ_norm ?_ | refine blkQ_ret ?_ | refine blkQ_exit ?_ | refine loopQ_norm ?_ | refine loopQ_exit ?_ | refine loopQ_ret ?_ | refine endQ_ret ?_ | refine endQ_norm ?_ | refine endE_ret ?_ | refine endE_norm ?_ | refine endI_ret ?_ | refine endI_norm ?_)
        | (with_reducible refine wp_regK fun K hK => ?_
           simp
           repeat' (with_reducible first | refine hK _ ?_ | (refine psel ?_ ?_ <;> (intro hc; (try rw [Decidable.not_not] at hc); first | (exfalso; omega) | (try simp [hc]))))
           all_goals (clear hK; clear K))
        | (with_reducible refine wp_condE ?_
           refine ⟨_, rfl, ?_, ?_⟩ <;> (intro hc; (try simp at hc); (all_goals first | (exfalso; omega) | skip))))
      simp only [List.length_nil] at h4 h5
      all_goals exact ⟨lf, by simp [pf217], by omega, by omega, fun _ => by simp only [List.append_nil]; omega⟩
    · unfold pl217_0
      simp only [List.length_cons] at hl h4 h5
      have hw : IntKind.wrap .i64 ((pre.length : Int) + 1) = (pre.length : Int) + 1 := wrap_i64 (by omega) (by omega)
      have hap := ctDeeds_app pre ⟨y_Op, y_Task, y_R, y_Id, ⟨y_Q_Kind, ⟨y_Q_P_Kind, y_Q_P_Col, y_Q_P_Op, ⟨y_Q_P_V_Ty, y_Q_P_V_N, y_Q_P_V_S⟩, y_Q_P_L⟩, y_Q_Col, y_Q_Out⟩, ⟨y_Res_Rows, y_Res_N, y_Res_Has, ⟨y_Res_V_Ty, y_Res_V_N, y_Res_V_S⟩⟩, y_Code, y_Stamp, y_Inv, y_Lin, y_Ret⟩
      simp only [ctDeed] at hap
      have hd := hok ⟨y_Op, y_Task, y_R, y_Id, ⟨y_Q_Kind, ⟨y_Q_P_Kind, y_Q_P_Col, y_Q_P_Op, ⟨y_Q_P_V_Ty, y_Q_P_V_N, y_Q_P_V_S⟩, y_Q_P_L⟩, y_Q_Col, y_Q_Out⟩, ⟨y_Res_Rows, y_Res_N, y_Res_Has, ⟨y_Res_V_Ty, y_Res_V_N, y_Res_V_S⟩⟩, y_Code, y_Stamp, y_Inv, y_Lin, y_Ret⟩ (by simp)
      simp only [XDeed.ok, XQuery.ok, XPred.ok_eq, XVal.ok, XResult.ok, and_assoc] at hd
      obtain ⟨hlo_y_Op, hhi_y_Op, hlo_y_Task, hhi_y_Task, hok_y_R, hoks_y_R, hlo_y_Id, hhi_y_Id, hlo_y_Q_Kind, hhi_y_Q_Kind, hlo_y_Q_P_Kind, hhi_y_Q_P_Kind, hlo_y_Q_P_Col, hhi_y_Q_P_Col, hlo_y_Q_P_Op, hhi_y_Q_P_Op, hlo_y_Q_P_V_Ty, hhi_y_Q_P_V_Ty, hlo_y_Q_P_V_N, hhi_y_Q_P_V_N, hok_y_Q_P_V_S, hok_y_Q_P_L, hoks_y_Q_P_L, hlo_y_Q_Col, hhi_y_Q_Col, hok_y_Q_Out, hoki_y_Q_Out, hok_y_Res_Rows, hoks_y_Res_Rows, hlo_y_Res_N, hhi_y_Res_N, hlo_y_Res_V_Ty, hhi_y_Res_V_Ty, hlo_y_Res_V_N, hhi_y_Res_V_N, hok_y_Res_V_S, hlo_y_Code, hhi_y_Code, hlo_y_Stamp, hhi_y_Stamp, hlo_y_Inv, hhi_y_Inv, hlo_y_Lin, hhi_y_Lin, hlo_y_Ret, hhi_y_Ret⟩ := hd
      obtain ⟨n1, g1, a1, b1, s1⟩ := t216b k0 y_Op y_Task y_R y_Id y_Q_Kind y_Q_P_Kind y_Q_P_Col y_Q_P_Op y_Q_P_V_Ty y_Q_P_V_N y_Q_P_V_S y_Q_P_L y_Q_Col y_Q_Out y_Res_Rows y_Res_N y_Res_Has y_Res_V_Ty y_Res_V_N y_Res_V_S y_Code y_Stamp y_Inv y_Lin y_Ret lf (by omega) (by omega) hok_y_R hoks_y_R hok_y_Q_P_V_S hok_y_Q_P_L hoks_y_Q_P_L hok_y_Q_Out hok_y_Res_Rows hoks_y_Res_Rows hok_y_Res_V_S
      repeat' (first
        | with_reducible (first | refine wp_seq ?_ | refine wp_blk ?_ | refine wp_skip ?_ | refine wp_exit ?_ | refine wp_ret ?_ | refine seqQ_norm ?_ | refine seqQ_ret ?_ | refine seqQ_exit ?_ | refine blkQ_norm ?_ | refine blkQ_ret ?_ | refine blkQ_exit ?_ | refine loopQ_norm ?_ | refine loopQ_exit ?_ | refine loopQ_ret ?_ | refine endQ_ret ?_ | refine endQ_norm ?_ | refine endE_ret ?_ | refine endE_norm ?_ | refine endI_ret ?_ | refine endI_norm ?_)
        | (with_reducible refine wp_regK fun K hK => ?_
           simp[g1, hw]
           repeat' (with_reducible first | refine hK _ ?_ | (refine psel ?_ ?_ <;> (intro hc; (try rw [Decidable.not_not] at hc); first | (exfalso; omega) | (try simp [hc, g1, hw]))))
           all_goals (clear hK; clear K))
        | (with_reducible refine wp_condE ?_
           refine ⟨_, rfl, ?_, ?_⟩ <;> (intro hc; (try simp at hc); (all_goals first | (exfalso; omega) | skip))))
      · exact ⟨-1, by simp [pf217], by omega, by omega, fun h => absurd h (by omega)⟩
      · have hq := s1 (by omega)
        skip
        exact ⟨(pre ++ [⟨y_Op, y_Task, y_R, y_Id, ⟨y_Q_Kind, ⟨y_Q_P_Kind, y_Q_P_Col, y_Q_P_Op, ⟨y_Q_P_V_Ty, y_Q_P_V_N, y_Q_P_V_S⟩, y_Q_P_L⟩, y_Q_Col, y_Q_Out⟩, ⟨y_Res_Rows, y_Res_N, y_Res_Has, ⟨y_Res_V_Ty, y_Res_V_N, y_Res_V_S⟩⟩, y_Code, y_Stamp, y_Inv, y_Lin, y_Ret⟩], rest, n1), by simp, ⟨by simp, by simp only; omega, by simp only [List.length_append, List.length_cons]; omega, by simp only [List.length_append, List.length_cons, List.length_nil]; omega⟩, by simp⟩

theorem t233b (k0 : Bool) (x_C_Cols : List Int) (x_C_Slots : Int) (x_C_Bufs : Int) (x_Time : Int) (x_T : Int) (x_E : Int) (x_Dd_Ver : Int) (x_Dd_L : List XRef) (x_B : List XBuf) (x_M : List Int) (x_X : List XDead) (x_P : List Int) (x_Tasks : List XTask) (x_Deeds : List XDeed) (left : Int) (h0 : 0 ≤ left) (h1 : left ≤ 1048576) (hok_x_C_Cols : x_C_Cols.length ≤ 9223372036854775807) (hok_x_Dd_L : x_Dd_L.length ≤ 9223372036854775807) (hok_x_B : x_B.length ≤ 9223372036854775807) (hoks_x_B : XBuf.oks x_B) (hok_x_M : x_M.length ≤ 9223372036854775807) (hok_x_X : x_X.length ≤ 9223372036854775807) (hok_x_P : x_P.length ≤ 9223372036854775807) (hok_x_Tasks : x_Tasks.length ≤ 9223372036854775807) (hoks_x_Tasks : XTask.oks x_Tasks) (hok_x_Deeds : x_Deeds.length ≤ 9223372036854775807) (hoks_x_Deeds : XDeed.oks x_Deeds) :
    ∃ n, Gw TT 233 [.st [.ro k0 (.sl 1 (x_C_Cols.map ei)), .ro false (di x_C_Slots), .ro false (di x_C_Bufs), .ro false (di x_Time), .ro false (di x_T), .ro false (di x_E), .ro false (di x_Dd_Ver), .ro k0 (.sl 5 (x_Dd_L.map XRef.e)), .ro k0 (.sl 5 (x_B.map XBuf.e)), .ro k0 (.sl 1 (x_M.map ei)), .ro k0 (.sl 3 (x_X.map XDead.e)), .ro k0 (.sl 1 (x_P.map ei)), .ro k0 (.sl 25 (x_Tasks.map XTask.e)), .ro k0 (.sl 25 (x_Deeds.map XDeed.e))], vi left] = some (vi n, []) ∧ -1 ≤ n ∧ n ≤ left ∧ (0 ≤ n → ctInts x_C_Cols + ctRefs x_Dd_L + ctBufs x_B + ctInts x_M + ctDeads x_X + ctInts x_P + ctTasks x_Tasks + ctDeeds x_Deeds ≤ 31 * (left - n)) := by
  refine Gw_ofI (F := pf233) rfl rfl ?_
  show Wp _ pb233 _ _
  unfold pb233
  have hn_x_C_Cols := ctInts_nn x_C_Cols
  have hn_x_Dd_L := ctRefs_nn x_Dd_L
  have hn_x_B := ctBufs_nn x_B
  have hn_x_M := ctInts_nn x_M
  have hn_x_X := ctDeads_nn x_X
  have hn_x_P := ctInts_nn x_P
  have hn_x_Tasks := ctTasks_nn x_Tasks
  have hn_x_Deeds := ctDeeds_nn x_Deeds
  obtain ⟨n1, g1, a1, b1, s1⟩ := t214b k0 x_C_Cols x_C_Slots x_C_Bufs left (by omega) (by omega) hok_x_C_Cols
  repeat' (first
    | with_reducible (first | refine wp_seq ?_ | refine wp_blk ?_ | refine wp_skip ?_ | refine wp_exit ?_ | refine wp_ret ?_ | refine seqQ_norm ?_ | refine seqQ_ret ?_ | refine seqQ_exit ?_ | refine blkQ_norm ?_ | refine blkQ_ret ?_ | refine blkQ_exit ?_ | refine loopQ_norm ?_ | refine loopQ_exit ?_ | refine loopQ_ret ?_ | refine endQ_ret ?_ | refine endQ_norm ?_ | refine endE_ret ?_ | refine endE_norm ?_ | refine endI_ret ?_ | refine endI_norm ?_)
    | (with_reducible refine wp_regK fun K hK => ?_
       simp[g1]
       repeat' (with_reducible first | refine hK _ ?_ | (refine psel ?_ ?_ <;> (intro hc; (try rw [Decidable.not_not] at hc); first | (exfalso; omega) | (try simp [hc, g1]))))
       all_goals (clear hK; clear K))
    | (with_reducible refine wp_condE ?_
       refine ⟨_, rfl, ?_, ?_⟩ <;> (intro hc; (try simp at hc); (all_goals first | (exfalso; omega) | skip))))
  · exact ⟨-1, by simp [pf233], by omega, by omega, fun h => absurd h (by omega)⟩
  have q1 := s1 (by omega)
  obtain ⟨n2, g2, a2, b2, s2⟩ := t218b k0 x_Dd_Ver x_Dd_L n1 (by omega) (by omega) hok_x_Dd_L
  repeat' (first
    | with_reducible (first | refine wp_seq ?_ | refine wp_blk ?_ | refine wp_skip ?_ | refine wp_exit ?_ | refine wp_ret ?_ | refine seqQ_norm ?_ | refine seqQ_ret ?_ | refine seqQ_exit ?_ | refine blkQ_norm ?_ | refine blkQ_ret ?_ | refine blkQ_exit ?_ | refine loopQ_norm ?_ | refine loopQ_exit ?_ | refine loopQ_ret ?_ | refine endQ_ret ?_ | refine endQ_norm ?_ | refine endE_ret ?_ | refine endE_norm ?_ | refine endI_ret ?_ | refine endI_norm ?_)
    | (with_reducible refine wp_regK fun K hK => ?_
       simp[g2]
       repeat' (with_reducible first | refine hK _ ?_ | (refine psel ?_ ?_ <;> (intro hc; (try rw [Decidable.not_not] at hc); first | (exfalso; omega) | (try simp [hc, g2]))))
       all_goals (clear hK; clear K))
    | (with_reducible refine wp_condE ?_
       refine ⟨_, rfl, ?_, ?_⟩ <;> (intro hc; (try simp at hc); (all_goals first | (exfalso; omega) | skip))))
  · exact ⟨-1, by simp [pf233], by omega, by omega, fun h => absurd h (by omega)⟩
  have q2 := s2 (by omega)
  obtain ⟨n3, g3, a3, b3, s3⟩ := t211b k0 x_B n2 (by omega) (by omega) hok_x_B hoks_x_B
  repeat' (first
    | with_reducible (first | refine wp_seq ?_ | refine wp_blk ?_ | refine wp_skip ?_ | refine wp_exit ?_ | refine wp_ret ?_ | refine seqQ_norm ?_ | refine seqQ_ret ?_ | refine seqQ_exit ?_ | refine blkQ_norm ?_ | refine blkQ_ret ?_ | refine blkQ_exit ?_ | refine loopQ_norm ?_ | refine loopQ_exit ?_ | refine loopQ_ret ?_ | refine endQ_ret ?_ | refine endQ_norm ?_ | refine endE_ret ?_ | refine endE_norm ?_ | refine endI_ret ?_ | refine endI_norm ?_)
    | (with_reducible refine wp_regK fun K hK => ?_
       simp[g3]
       repeat' (with_reducible first | refine hK _ ?_ | (refine psel ?_ ?_ <;> (intro hc; (try rw [Decidable.not_not] at hc); first | (exfalso; omega) | (try simp [hc, g3]))))
       all_goals (clear hK; clear K))
    | (with_reducible refine wp_condE ?_
       refine ⟨_, rfl, ?_, ?_⟩ <;> (intro hc; (try simp at hc); (all_goals first | (exfalso; omega) | skip))))
  · exact ⟨-1, by simp [pf233], by omega, by omega, fun h => absurd h (by omega)⟩
  have q3 := s3 (by omega)
  obtain ⟨n4, g4, a4, b4, s4⟩ := t219b k0 x_M n3 (by omega) (by omega) hok_x_M
  repeat' (first
    | with_reducible (first | refine wp_seq ?_ | refine wp_blk ?_ | refine wp_skip ?_ | refine wp_exit ?_ | refine wp_ret ?_ | refine seqQ_norm ?_ | refine seqQ_ret ?_ | refine seqQ_exit ?_ | refine blkQ_norm ?_ | refine blkQ_ret ?_ | refine blkQ_exit ?_ | refine loopQ_norm ?_ | refine loopQ_exit ?_ | refine loopQ_ret ?_ | refine endQ_ret ?_ | refine endQ_norm ?_ | refine endE_ret ?_ | refine endE_norm ?_ | refine endI_ret ?_ | refine endI_norm ?_)
    | (with_reducible refine wp_regK fun K hK => ?_
       simp[g4]
       repeat' (with_reducible first | refine hK _ ?_ | (refine psel ?_ ?_ <;> (intro hc; (try rw [Decidable.not_not] at hc); first | (exfalso; omega) | (try simp [hc, g4]))))
       all_goals (clear hK; clear K))
    | (with_reducible refine wp_condE ?_
       refine ⟨_, rfl, ?_, ?_⟩ <;> (intro hc; (try simp at hc); (all_goals first | (exfalso; omega) | skip))))
  · exact ⟨-1, by simp [pf233], by omega, by omega, fun h => absurd h (by omega)⟩
  have q4 := s4 (by omega)
  obtain ⟨n5, g5, a5, b5, s5⟩ := t215b k0 x_X n4 (by omega) (by omega) hok_x_X
  repeat' (first
    | with_reducible (first | refine wp_seq ?_ | refine wp_blk ?_ | refine wp_skip ?_ | refine wp_exit ?_ | refine wp_ret ?_ | refine seqQ_norm ?_ | refine seqQ_ret ?_ | refine seqQ_exit ?_ | refine blkQ_norm ?_ | refine blkQ_ret ?_ | refine blkQ_exit ?_ | refine loopQ_norm ?_ | refine loopQ_exit ?_ | refine loopQ_ret ?_ | refine endQ_ret ?_ | refine endQ_norm ?_ | refine endE_ret ?_ | refine endE_norm ?_ | refine endI_ret ?_ | refine endI_norm ?_)
    | (with_reducible refine wp_regK fun K hK => ?_
       simp[g5]
       repeat' (with_reducible first | refine hK _ ?_ | (refine psel ?_ ?_ <;> (intro hc; (try rw [Decidable.not_not] at hc); first | (exfalso; omega) | (try simp [hc, g5]))))
       all_goals (clear hK; clear K))
    | (with_reducible refine wp_condE ?_
       refine ⟨_, rfl, ?_, ?_⟩ <;> (intro hc; (try simp at hc); (all_goals first | (exfalso; omega) | skip))))
  · exact ⟨-1, by simp [pf233], by omega, by omega, fun h => absurd h (by omega)⟩
  have q5 := s5 (by omega)
  obtain ⟨n6, g6, a6, b6, s6⟩ := t219b k0 x_P n5 (by omega) (by omega) hok_x_P
  repeat' (first
    | with_reducible (first | refine wp_seq ?_ | refine wp_blk ?_ | refine wp_skip ?_ | refine wp_exit ?_ | refine wp_ret ?_ | refine seqQ_norm ?_ | refine seqQ_ret ?_ | refine seqQ_exit ?_ | refine blkQ_norm ?_ | refine blkQ_ret ?_ | refine blkQ_exit ?_ | refine loopQ_norm ?_ | refine loopQ_exit ?_ | refine loopQ_ret ?_ | refine endQ_ret ?_ | refine endQ_norm ?_ | refine endE_ret ?_ | refine endE_norm ?_ | refine endI_ret ?_ | refine endI_norm ?_)
    | (with_reducible refine wp_regK fun K hK => ?_
       simp[g6]
       repeat' (with_reducible first | refine hK _ ?_ | (refine psel ?_ ?_ <;> (intro hc; (try rw [Decidable.not_not] at hc); first | (exfalso; omega) | (try simp [hc, g6]))))
       all_goals (clear hK; clear K))
    | (with_reducible refine wp_condE ?_
       refine ⟨_, rfl, ?_, ?_⟩ <;> (intro hc; (try simp at hc); (all_goals first | (exfalso; omega) | skip))))
  · exact ⟨-1, by simp [pf233], by omega, by omega, fun h => absurd h (by omega)⟩
  have q6 := s6 (by omega)
  obtain ⟨n7, g7, a7, b7, s7⟩ := t230b k0 x_Tasks n6 (by omega) (by omega) hok_x_Tasks hoks_x_Tasks
  repeat' (first
    | with_reducible (first | refine wp_seq ?_ | refine wp_blk ?_ | refine wp_skip ?_ | refine wp_exit ?_ | refine wp_ret ?_ | refine seqQ_norm ?_ | refine seqQ_ret ?_ | refine seqQ_exit ?_ | refine blkQ_norm ?_ | refine blkQ_ret ?_ | refine blkQ_exit ?_ | refine loopQ_norm ?_ | refine loopQ_exit ?_ | refine loopQ_ret ?_ | refine endQ_ret ?_ | refine endQ_norm ?_ | refine endE_ret ?_ | refine endE_norm ?_ | refine endI_ret ?_ | refine endI_norm ?_)
    | (with_reducible refine wp_regK fun K hK => ?_
       simp[g7]
       repeat' (with_reducible first | refine hK _ ?_ | (refine psel ?_ ?_ <;> (intro hc; (try rw [Decidable.not_not] at hc); first | (exfalso; omega) | (try simp [hc, g7]))))
       all_goals (clear hK; clear K))
    | (with_reducible refine wp_condE ?_
       refine ⟨_, rfl, ?_, ?_⟩ <;> (intro hc; (try simp at hc); (all_goals first | (exfalso; omega) | skip))))
  · exact ⟨-1, by simp [pf233], by omega, by omega, fun h => absurd h (by omega)⟩
  have q7 := s7 (by omega)
  obtain ⟨n8, g8, a8, b8, s8⟩ := t217b k0 x_Deeds n7 (by omega) (by omega) hok_x_Deeds hoks_x_Deeds
  repeat' (first
    | with_reducible (first | refine wp_seq ?_ | refine wp_blk ?_ | refine wp_skip ?_ | refine wp_exit ?_ | refine wp_ret ?_ | refine seqQ_norm ?_ | refine seqQ_ret ?_ | refine seqQ_exit ?_ | refine blkQ_norm ?_ | refine blkQ_ret ?_ | refine blkQ_exit ?_ | refine loopQ_norm ?_ | refine loopQ_exit ?_ | refine loopQ_ret ?_ | refine endQ_ret ?_ | refine endQ_norm ?_ | refine endE_ret ?_ | refine endE_norm ?_ | refine endI_ret ?_ | refine endI_norm ?_)
    | (with_reducible refine wp_regK fun K hK => ?_
       simp[g8]
       repeat' (with_reducible first | refine hK _ ?_ | (refine psel ?_ ?_ <;> (intro hc; (try rw [Decidable.not_not] at hc); first | (exfalso; omega) | (try simp [hc, g8]))))
       all_goals (clear hK; clear K))
    | (with_reducible refine wp_condE ?_
       refine ⟨_, rfl, ?_, ?_⟩ <;> (intro hc; (try simp at hc); (all_goals first | (exfalso; omega) | skip))))
  · exact ⟨-1, by simp [pf233], by omega, by omega, fun h => absurd h (by omega)⟩
  have q8 := s8 (by omega)
  · exact ⟨n8, by simp [pf233], by omega, by omega, fun _ => by omega⟩

@[simp] theorem t72 (k0 : Bool) (l : List Int) (h : l.length ≤ 1048576) : Gw TT 72 [.one (.ro k0 (.sl 1 (l.map ei)))] = some (.one (.own (.sl 1 (l.map ei))), []) := by
  refine Gw_of (F := pf72) rfl rfl ?_
  show Wp _ pb72 _ _
  unfold pb72
  have hq : l.length * 8 ≤ 70368744177664 := by omega
  repeat' first|with_reducible (first|apply Z1|apply Z2|apply Z3|apply Z4|apply Z5|apply Z6|apply Z7|apply Z8|apply Z9|apply Y1|apply Y2|apply Y3|apply Y4|apply Y5|apply Y6|apply Y7|apply Y8|apply Y9)|(with_reducible refine Xk fun K k=>?_;simp [h, hq];refine k _ ?_;clear k K)|refine Xt rfl ?_|refine Xf rfl ?_
  all_goals first | (simp [pf72]; done) | (exfalso; omega)

@[simp] theorem t75 (k0 : Bool) (x_Id : Int) (x_L : List XVal) (h : x_L.length ≤ 1048576) : Gw TT 75 [.st [.ro false (di x_Id), .ro k0 (.sl 3 (x_L.map XVal.e))]] = some (.st [.ro false (di x_Id), .own (.sl 3 (x_L.map XVal.e))], []) := by
  refine Gw_of (F := pf75) rfl rfl ?_
  show Wp _ pb75 _ _
  unfold pb75
  have hq : x_L.length * 32 ≤ 70368744177664 := by omega
  repeat' first|with_reducible (first|apply Z1|apply Z2|apply Z3|apply Z4|apply Z5|apply Z6|apply Z7|apply Z8|apply Z9|apply Y1|apply Y2|apply Y3|apply Y4|apply Y5|apply Y6|apply Y7|apply Y8|apply Y9)|(with_reducible refine Xk fun K k=>?_;simp [h, hq];refine k _ ?_;clear k K)|refine Xt rfl ?_|refine Xf rfl ?_
  all_goals first | (simp [pf75]; done) | (exfalso; omega)

/-- By key, then by number. -/
def slt (ky : Int → Int) (x y : Int) : Prop := ky x < ky y ∨ (ky x = ky y ∧ x < y)
def Srt (ky : Int → Int) (l : List Int) : Prop := l.Pairwise (slt ky)

theorem slt.trans {ky : Int → Int} {x y z : Int} (h1 : slt ky x y) (h2 : slt ky y z) : slt ky x z := by unfold slt at *; omega
theorem slt.irrefl {ky : Int → Int} {x : Int} : ¬ slt ky x x := by unfold slt; omega
theorem slt.asymm {ky : Int → Int} {x y : Int} (h : slt ky x y) : ¬ slt ky y x := by unfold slt at *; omega
theorem slt.le {ky : Int → Int} {x y : Int} (h : slt ky x y) : ky x ≤ ky y := by unfold slt at h; omega
theorem slt_of_lt {ky : Int → Int} {x y : Int} (h : ky x < ky y) : slt ky x y := .inl h
theorem slt_of_le {ky : Int → Int} {x y : Int} (h : ky x ≤ ky y) (h2 : x < y) : slt ky x y := by unfold slt; omega

/-- Blocks of the list, each sorted for itself. -/
inductive Good (ky : Int → Int) (bs : Nat) : List Int → List Int → Prop
  | short (xs l : List Int) : xs.length ≤ bs → l.Perm xs → Srt ky l → Good ky bs xs l
  | app (w w' xs l : List Int) : w.length = bs → w'.Perm w → Srt ky w' → Good ky bs xs l → Good ky bs (w ++ xs) (w' ++ l)

theorem Good.perm {ky : Int → Int} {bs : Nat} {xs l : List Int} (h : Good ky bs xs l) : l.Perm xs := by
  induction h with
  | short _ _ _ h => exact h
  | app _ _ _ _ _ h _ _ ih => exact h.append ih

theorem Good.le {ky : Int → Int} {bs : Nat} {xs l : List Int} (h : Good ky bs xs l) (hb : xs.length ≤ bs) (h0 : 0 < bs) : l.Perm xs ∧ Srt ky l := by
  cases h with
  | short _ _ h1 h2 h3 => exact ⟨h2, h3⟩
  | app w w' xs l h1 h2 h3 h4 =>
    have h5 : xs = [] := List.eq_nil_of_length_eq_zero (by simp at hb; omega)
    subst h5
    have h6 : l = [] := List.perm_nil.1 h4.perm
    subst h6
    simpa using ⟨h2, h3⟩

theorem l4All_nil (k0 : Bool) : Gw TT 397 [.one (.ro k0 (.sl 2 []))] = some (.one (.own (.sl 2 [])), []) := by
  refine Gw_of (F := pf397) rfl rfl ?_
  show Wp _ pb397 _ _
  unfold pb397
  repeat' (first
    | with_reducible (first | refine wp_seq ?_ | refine wp_blk ?_ | refine wp_skip ?_ | refine wp_exit ?_ | refine wp_ret ?_ | refine seqQ_norm ?_ | refine seqQ_ret ?_ | refine seqQ_exit ?_ | refine blkQ_norm ?_ | refine blkQ_ret ?_ | refine blkQ_exit ?_ | refine loopQ_norm ?_ | refine loopQ_exit ?_ | refine loopQ_ret ?_ | refine endQ_ret ?_ | refine endQ_norm ?_ | refine endE_ret ?_ | refine endE_norm ?_ | refine endI_ret ?_ | refine endI_norm ?_)
    | (with_reducible refine wp_loop (c := pl397_0) ?_
       conv => arg 2; unfold pl397_0)
    | (with_reducible refine wp_regK fun K hK => ?_
       simp[Int.lt_irrefl]
       repeat' (with_reducible first | refine hK _ ?_ | (refine psel ?_ ?_ <;> (intro hc; (try rw [Decidable.not_not] at hc); first | (exfalso; omega) | (try simp [hc, Int.lt_irrefl]))))
       all_goals (clear hK; clear K))
    | (with_reducible refine wp_condE ?_
       refine ⟨_, rfl, ?_, ?_⟩ <;> (intro hc; (try simp at hc); (all_goals first | (exfalso; omega) | skip))))
  all_goals simp [pf397]

def CpPred (x : XPred) : Prop := ∀ k0 : Bool, x.sm → Gw TT 355 [.st [.ro false (di x.Kind), .ro false (di x.Col), .ro false (di x.Op), .ro false (di x.V.Ty), .ro false (di x.V.N), .ro false (.str x.V.S), .ro k0 (.sl 7 (x.L.map XPred.e))]] = some (.st [.ro false (di x.Kind), .ro false (di x.Col), .ro false (di x.Op), .ro false (di x.V.Ty), .ro false (di x.V.N), .ro false (.str x.V.S), .own (.sl 7 (x.L.map XPred.e))], [])

theorem CpPred_of (x : XPred) (IH : ∀ y ∈ x.L, CpPred y) : CpPred x := by
  intro k0 hx
  rw [XPred.sm_eq] at hx
  obtain ⟨hx1, hx2, hx3⟩ := hx
  obtain ⟨x_Kind, x_Col, x_Op, ⟨x_V_Ty, x_V_N, x_V_S⟩, x_L⟩ := x
  simp only at hx2 hx3 IH
  refine Gw_of (F := pf355) rfl rfl ?_
  show Wp _ pb355 _ _
  unfold pb355
  repeat' (first
    | with_reducible (first | refine wp_seq ?_ | refine wp_blk ?_ | refine wp_skip ?_ | refine wp_exit ?_ | refine wp_ret ?_ | refine seqQ_norm ?_ | refine seqQ_ret ?_ | refine seqQ_exit ?_ | refine blkQ_norm ?_ | refine blkQ_ret ?_ | refine blkQ_exit ?_ | refine loopQ_norm ?_ | refine loopQ_exit ?_ | refine loopQ_ret ?_ | refine endQ_ret ?_ | refine endQ_norm ?_ | refine endE_ret ?_ | refine endE_norm ?_ | refine endI_ret ?_ | refine endI_norm ?_)
    | (with_reducible refine wp_regK fun K hK => ?_
       simp
       repeat' (with_reducible first | refine hK _ ?_ | (refine psel ?_ ?_ <;> (intro hc; (try rw [Decidable.not_not] at hc); first | (exfalso; omega) | (try simp [hc]))))
       all_goals (clear hK; clear K))
    | (with_reducible refine wp_condE ?_
       refine ⟨_, rfl, ?_, ?_⟩ <;> (intro hc; (try simp at hc); (all_goals first | (exfalso; omega) | skip))))
  refine wp_loopI (σ := List XPred × List XPred) (fun s => [(1, AV.bx 1 0, some (Rt.bx [.ro false (di x_Kind), .ro false (di x_Col), .ro false (di x_Op), .ro false (di x_V_Ty), .ro false (di x_V_N), .ro false (.str x_V_S), .ro k0 (.sl 7 (x_L.map XPred.e))])), (2, AV.bx 2 0, some (Rt.bx [.ro false (di 0), .ro false (di 0), .ro false (di 0), .ro false (di 0), .ro false (di 0), .ro false (.str ⟨#[]⟩), .own (.sl 7 [])])), (3, AV.bx 3 0, some (Rt.bx [.ro false (di x_Kind), .ro false (di x_Col), .ro false (di x_Op), .ro false (di x_V_Ty), .ro false (di x_V_N), .ro false (.str x_V_S), .own (.sl 7 (s.1.map XPred.e))])), (4, AV.v false (di (s.1.length : Nat)), none)]) (fun s => x_L = s.1 ++ s.2) (fun s => s.2.length) ([], x_L) (by simp) rfl ?_
  rintro ⟨pre, rest⟩ g1
  simp only at g1
  subst g1
  simp only [List.length_append, List.length_cons] at hx2
  rcases rest with _ | ⟨⟨y_Kind, y_Col, y_Op, ⟨y_V_Ty, y_V_N, y_V_S⟩, y_L⟩, rest⟩
  · unfold pl355_0
    repeat' (first
      | with_reducible (first | refine wp_seq ?_ | refine wp_blk ?_ | refine wp_skip ?_ | refine wp_exit ?_ | refine wp_ret ?_ | refine seqQ_norm ?_ | refine seqQ_ret ?_ | refine seqQ_exit ?_ | refine blkQ_norm ?_ | refine blkQ_ret ?_ | refine blkQ_exit ?_ | refine loopQ_norm ?_ | refine loopQ_exit ?_ | refine loopQ_ret ?_ | refine endQ_ret ?_ | refine endQ_norm ?_ | refine endE_ret ?_ | refine endE_norm ?_ | refine endI_ret ?_ | refine endI_norm ?_)
      | (with_reducible refine wp_regK fun K hK => ?_
         simp
         repeat' (with_reducible first | refine hK _ ?_ | (refine psel ?_ ?_ <;> (intro hc; (try rw [Decidable.not_not] at hc); first | (exfalso; omega) | (try simp [hc]))))
         all_goals (clear hK; clear K))
      | (with_reducible refine wp_condE ?_
         refine ⟨_, rfl, ?_, ?_⟩ <;> (intro hc; (try simp at hc); (all_goals first | (exfalso; omega) | skip))))
    all_goals simp [pf355]
  · unfold pl355_0
    simp only [List.length_cons] at hx2
    have hw : IntKind.wrap .i64 ((pre.length : Int) + 1) = (pre.length : Int) + 1 := wrap_i64 (by omega) (by omega)
    have ih := IH ⟨y_Kind, y_Col, y_Op, ⟨y_V_Ty, y_V_N, y_V_S⟩, y_L⟩ (by simp) k0 (XPred.sms_mem hx3 ⟨y_Kind, y_Col, y_Op, ⟨y_V_Ty, y_V_N, y_V_S⟩, y_L⟩ (by simp))
    simp only at ih
    have hq : (pre.length + 1) * 80 ≤ 70368744177664 := by omega
    repeat' (first
      | with_reducible (first | refine wp_seq ?_ | refine wp_blk ?_ | refine wp_skip ?_ | refine wp_exit ?_ | refine wp_ret ?_ | refine seqQ_norm ?_ | refine seqQ_ret ?_ | refine seqQ_exit ?_ | refine blkQ_norm ?_ | refine blkQ_ret ?_ | refine blkQ_exit ?_ | refine loopQ_norm ?_ | refine loopQ_exit ?_ | refine loopQ_ret ?_ | refine endQ_ret ?_ | refine endQ_norm ?_ | refine endE_ret ?_ | refine endE_norm ?_ | refine endI_ret ?_ | refine endI_norm ?_)
      | (with_reducible refine wp_regK fun K hK => ?_
         simp[hw, ih, hq]
         repeat' (with_reducible first | refine hK _ ?_ | (refine psel ?_ ?_ <;> (intro hc; (try rw [Decidable.not_not] at hc); first | (exfalso; omega) | (try simp [hc, hw, ih, hq]))))
         all_goals (clear hK; clear K))
      | (with_reducible refine wp_condE ?_
         refine ⟨_, rfl, ?_, ?_⟩ <;> (intro hc; (try simp at hc); (all_goals first | (exfalso; omega) | skip))))
    all_goals first | exact ⟨(pre ++ [⟨y_Kind, y_Col, y_Op, ⟨y_V_Ty, y_V_N, y_V_S⟩, y_L⟩], rest), by simp, by simp, by simp⟩ | (exfalso; omega)

theorem CpPred_all (x : XPred) : CpPred x :=
  CpPred_of x fun y hy => CpPred_all y
termination_by SizeOf.sizeOf x
decreasing_by
  have h1 := List.sizeOf_lt_of_mem hy
  have h2 : SizeOf.sizeOf x.L < SizeOf.sizeOf x := by cases x; simp; omega
  omega

@[simp] theorem t355 (k0 : Bool) (x_Kind : Int) (x_Col : Int) (x_Op : Int) (x_V_Ty : Int) (x_V_N : Int) (x_V_S : ByteArray) (x_L : List XPred) (hv : x_V_S.size ≤ 1048576) (hl : x_L.length ≤ 1048576) (hs : XPred.sms x_L) : Gw TT 355 [.st [.ro false (di x_Kind), .ro false (di x_Col), .ro false (di x_Op), .ro false (di x_V_Ty), .ro false (di x_V_N), .ro false (.str x_V_S), .ro k0 (.sl 7 (x_L.map XPred.e))]] = some (.st [.ro false (di x_Kind), .ro false (di x_Col), .ro false (di x_Op), .ro false (di x_V_Ty), .ro false (di x_V_N), .ro false (.str x_V_S), .own (.sl 7 (x_L.map XPred.e))], []) :=
  CpPred_all ⟨x_Kind, x_Col, x_Op, ⟨x_V_Ty, x_V_N, x_V_S⟩, x_L⟩ k0 (by simp only [XPred.sm_eq, XVal.sm, and_assoc]; exact ⟨hv, hl, hs⟩)

@[simp] theorem t353 (k0 : Bool) (x_Kind : Int) (x_P_Kind : Int) (x_P_Col : Int) (x_P_Op : Int) (x_P_V_Ty : Int) (x_P_V_N : Int) (x_P_V_S : ByteArray) (x_P_L : List XPred) (x_Col : Int) (x_Out : List Int) (hsm_x_P_V_S : x_P_V_S.size ≤ 1048576) (hsm_x_P_L : x_P_L.length ≤ 1048576) (hsms_x_P_L : XPred.sms x_P_L) (hsm_x_Out : x_Out.length ≤ 1048576) : Gw TT 353 [.st [.ro false (di x_Kind), .ro false (di x_P_Kind), .ro false (di x_P_Col), .ro false (di x_P_Op), .ro false (di x_P_V_Ty), .ro false (di x_P_V_N), .ro false (.str x_P_V_S), .ro k0 (.sl 7 (x_P_L.map XPred.e)), .ro false (di x_Col), .ro k0 (.sl 1 (x_Out.map ei))]] = some (.st [.ro false (di x_Kind), .ro false (di x_P_Kind), .ro false (di x_P_Col), .ro false (di x_P_Op), .ro false (di x_P_V_Ty), .ro false (di x_P_V_N), .ro false (.str x_P_V_S), .own (.sl 7 (x_P_L.map XPred.e)), .ro false (di x_Col), .own (.sl 1 (x_Out.map ei))], []) := by
  have hq_x_Out : (0 + x_Out.length) * 8 ≤ 70368744177664 := by omega
  have hr_x_Out : x_Out.length * 8 ≤ 70368744177664 := by omega
  refine Gw_of (F := pf353) rfl rfl ?_
  show Wp _ pb353 _ _
  unfold pb353
  repeat' first|with_reducible (first|apply Z1|apply Z2|apply Z3|apply Z4|apply Z5|apply Z6|apply Z7|apply Z8|apply Z9|apply Y1|apply Y2|apply Y3|apply Y4|apply Y5|apply Y6|apply Y7|apply Y8|apply Y9)|(with_reducible refine Xk fun K k=>?_;simp [hsm_x_P_V_S, hsm_x_P_L, hsms_x_P_L, hsm_x_Out, hq_x_Out, hr_x_Out];refine k _ ?_;clear k K)|refine Xt rfl ?_|refine Xf rfl ?_
  all_goals simp [pf353]

@[simp] theorem t356 (k0 : Bool) (x_N : Int) (x_Has : Bool) (x_V_Ty : Int) (x_V_N : Int) (x_V_S : ByteArray) : Gw TT 356 [.st [.ro k0 (.sl 2 []), .ro false (di x_N), .ro false (.bool x_Has), .ro false (di x_V_Ty), .ro false (di x_V_N), .ro false (.str x_V_S)]] = some (.st [.own (.sl 2 []), .ro false (di x_N), .ro false (.bool x_Has), .ro false (di x_V_Ty), .ro false (di x_V_N), .ro false (.str x_V_S)], []) := by
  refine Gw_of (F := pf356) rfl rfl ?_
  show Wp _ pb356 _ _
  unfold pb356
  repeat' first|with_reducible (first|apply Z1|apply Z2|apply Z3|apply Z4|apply Z5|apply Z6|apply Z7|apply Z8|apply Z9|apply Y1|apply Y2|apply Y3|apply Y4|apply Y5|apply Y6|apply Y7|apply Y8|apply Y9)|(with_reducible refine Xk fun K k=>?_;simp [l4All_nil];refine k _ ?_;clear k K)|refine Xt rfl ?_|refine Xf rfl ?_
  all_goals simp [pf356]

@[simp] theorem t387 (k0 : Bool) (x_Op : Int) (x_Task : Int) (x_R : List XVal) (x_Id : Int) (x_Q_Kind : Int) (x_Q_P_Kind : Int) (x_Q_P_Col : Int) (x_Q_P_Op : Int) (x_Q_P_V_Ty : Int) (x_Q_P_V_N : Int) (x_Q_P_V_S : ByteArray) (x_Q_P_L : List XPred) (x_Q_Col : Int) (x_Q_Out : List Int) (x_Res_N : Int) (x_Res_Has : Bool) (x_Res_V_Ty : Int) (x_Res_V_N : Int) (x_Res_V_S : ByteArray) (x_Code : Int) (x_Stamp : Int) (x_Inv : Int) (x_Lin : Int) (x_Ret : Int) (hsm_x_R : x_R.length ≤ 1048576) (hsms_x_R : XVal.sms x_R) (hsm_x_Q_P_V_S : x_Q_P_V_S.size ≤ 1048576) (hsm_x_Q_P_L : x_Q_P_L.length ≤ 1048576) (hsms_x_Q_P_L : XPred.sms x_Q_P_L) (hsm_x_Q_Out : x_Q_Out.length ≤ 1048576) : Gw TT 387 [.st [.ro false (di x_Op), .ro false (di x_Task), .ro k0 (.sl 3 (x_R.map XVal.e)), .ro false (di x_Id), .ro false (di x_Q_Kind), .ro false (di x_Q_P_Kind), .ro false (di x_Q_P_Col), .ro false (di x_Q_P_Op), .ro false (di x_Q_P_V_Ty), .ro false (di x_Q_P_V_N), .ro false (.str x_Q_P_V_S), .ro k0 (.sl 7 (x_Q_P_L.map XPred.e)), .ro false (di x_Q_Col), .ro k0 (.sl 1 (x_Q_Out.map ei)), .ro k0 (.sl 2 []), .ro false (di x_Res_N), .ro false (.bool x_Res_Has), .ro false (di x_Res_V_Ty), .ro false (di x_Res_V_N), .ro false (.str x_Res_V_S), .ro false (di x_Code), .ro false (di x_Stamp), .ro false (di x_Inv), .ro false (di x_Lin), .ro false (di x_Ret)]] = some (.st [.ro false (di x_Op), .ro false (di x_Task), .own (.sl 3 (x_R.map XVal.e)), .ro false (di x_Id), .ro false (di x_Q_Kind), .ro false (di x_Q_P_Kind), .ro false (di x_Q_P_Col), .ro false (di x_Q_P_Op), .ro false (di x_Q_P_V_Ty), .ro false (di x_Q_P_V_N), .ro false (.str x_Q_P_V_S), .own (.sl 7 (x_Q_P_L.map XPred.e)), .ro false (di x_Q_Col), .own (.sl 1 (x_Q_Out.map ei)), .own (.sl 2 []), .ro false (di x_Res_N), .ro false (.bool x_Res_Has), .ro false (di x_Res_V_Ty), .ro false (di x_Res_V_N), .ro false (.str x_Res_V_S), .ro false (di x_Code), .ro false (di x_Stamp), .ro false (di x_Inv), .ro false (di x_Lin), .ro false (di x_Ret)], []) := by
  have hq1 : (0 + x_R.length) * 32 ≤ 70368744177664 := by omega
  have hq2 : x_R.length * 32 ≤ 70368744177664 := by omega
  refine Gw_of (F := pf387) rfl rfl ?_
  show Wp _ pb387 _ _
  unfold pb387
  repeat' first|with_reducible (first|apply Z1|apply Z2|apply Z3|apply Z4|apply Z5|apply Z6|apply Z7|apply Z8|apply Z9|apply Y1|apply Y2|apply Y3|apply Y4|apply Y5|apply Y6|apply Y7|apply Y8|apply Y9)|(with_reducible refine Xk fun K k=>?_;simp [hsm_x_R, hsms_x_R, hsm_x_Q_P_V_S, hsm_x_Q_P_L, hsms_x_Q_P_L, hsm_x_Q_Out, hq1, hq2];refine k _ ?_;clear k K)|refine Xt rfl ?_|refine Xf rfl ?_
  all_goals simp [pf387]

def CpPredI (x : XPred) : Prop := ∀ k0 : Bool, x.sm → Gw TT 563 [.st [.ro false (di x.Kind), .ro false (di x.Col), .ro false (di x.Op), .ro false (di x.V.Ty), .ro false (di x.V.N), .ro false (.str x.V.S), .ro k0 (.sl 7 (x.L.map XPred.e))]] = some (.st [.ro false (di x.Kind), .ro false (di x.Col), .ro false (di x.Op), .ro false (di x.V.Ty), .ro false (di x.V.N), .ro false (.str x.V.S), .own (.sl 7 (x.L.map XPred.e))], [])

theorem CpPredI_of (x : XPred) (IH : ∀ y ∈ x.L, CpPredI y) : CpPredI x := by
  intro k0 hx
  rw [XPred.sm_eq] at hx
  obtain ⟨hx1, hx2, hx3⟩ := hx
  obtain ⟨x_Kind, x_Col, x_Op, ⟨x_V_Ty, x_V_N, x_V_S⟩, x_L⟩ := x
  simp only at hx2 hx3 IH
  refine Gw_of (F := pf563) rfl rfl ?_
  show Wp _ pb563 _ _
  unfold pb563
  repeat' (first
    | with_reducible (first | refine wp_seq ?_ | refine wp_blk ?_ | refine wp_skip ?_ | refine wp_exit ?_ | refine wp_ret ?_ | refine seqQ_norm ?_ | refine seqQ_ret ?_ | refine seqQ_exit ?_ | refine blkQ_norm ?_ | refine blkQ_ret ?_ | refine blkQ_exit ?_ | refine loopQ_norm ?_ | refine loopQ_exit ?_ | refine loopQ_ret ?_ | refine endQ_ret ?_ | refine endQ_norm ?_ | refine endE_ret ?_ | refine endE_norm ?_ | refine endI_ret ?_ | refine endI_norm ?_)
    | (with_reducible refine wp_regK fun K hK => ?_
       simp
       repeat' (with_reducible first | refine hK _ ?_ | (refine psel ?_ ?_ <;> (intro hc; (try rw [Decidable.not_not] at hc); first | (exfalso; omega) | (try simp [hc]))))
       all_goals (clear hK; clear K))
    | (with_reducible refine wp_condE ?_
       refine ⟨_, rfl, ?_, ?_⟩ <;> (intro hc; (try simp at hc); (all_goals first | (exfalso; omega) | skip))))
  refine wp_loopI (σ := List XPred × List XPred) (fun s => [(1, AV.bx 1 0, some (Rt.bx [.ro false (di x_Kind), .ro false (di x_Col), .ro false (di x_Op), .ro false (di x_V_Ty), .ro false (di x_V_N), .ro false (.str x_V_S), .ro k0 (.sl 7 (x_L.map XPred.e))])), (2, AV.bx 2 0, some (Rt.bx [.ro false (di 0), .ro false (di 0), .ro false (di 0), .ro false (di 0), .ro false (di 0), .ro false (.str ⟨#[]⟩), .own (.sl 7 [])])), (3, AV.bx 3 0, some (Rt.bx [.ro false (di x_Kind), .ro false (di x_Col), .ro false (di x_Op), .ro false (di x_V_Ty), .ro false (di x_V_N), .ro false (.str x_V_S), .own (.sl 7 (s.1.map XPred.e))])), (16, AV.v k0 (.sl 7 (x_L.map XPred.e)), none), (17, AV.v false (di (x_L.length : Nat)), none), (18, AV.v false (di (s.1.length : Nat)), none)]) (fun s => x_L = s.1 ++ s.2) (fun s => s.2.length) ([], x_L) (by simp) rfl ?_
  rintro ⟨pre, rest⟩ g1
  simp only at g1
  subst g1
  simp only [List.length_append, List.length_cons] at hx2
  rcases rest with _ | ⟨⟨y_Kind, y_Col, y_Op, ⟨y_V_Ty, y_V_N, y_V_S⟩, y_L⟩, rest⟩
  · unfold pl563_0
    repeat' (first
      | with_reducible (first | refine wp_seq ?_ | refine wp_blk ?_ | refine wp_skip ?_ | refine wp_exit ?_ | refine wp_ret ?_ | refine seqQ_norm ?_ | refine seqQ_ret ?_ | refine seqQ_exit ?_ | refine blkQ_norm ?_ | refine blkQ_ret ?_ | refine blkQ_exit ?_ | refine loopQ_norm ?_ | refine loopQ_exit ?_ | refine loopQ_ret ?_ | refine endQ_ret ?_ | refine endQ_norm ?_ | refine endE_ret ?_ | refine endE_norm ?_ | refine endI_ret ?_ | refine endI_norm ?_)
      | (with_reducible refine wp_regK fun K hK => ?_
         simp
         repeat' (with_reducible first | refine hK _ ?_ | (refine psel ?_ ?_ <;> (intro hc; (try rw [Decidable.not_not] at hc); first | (exfalso; omega) | (try simp [hc]))))
         all_goals (clear hK; clear K))
      | (with_reducible refine wp_condE ?_
         refine ⟨_, rfl, ?_, ?_⟩ <;> (intro hc; (try simp at hc); (all_goals first | (exfalso; omega) | skip))))
    all_goals simp [pf563]
  · unfold pl563_0
    simp only [List.length_cons] at hx2
    have hw : IntKind.wrap .i64 ((pre.length : Int) + 1) = (pre.length : Int) + 1 := wrap_i64 (by omega) (by omega)
    have ih := IH ⟨y_Kind, y_Col, y_Op, ⟨y_V_Ty, y_V_N, y_V_S⟩, y_L⟩ (by simp) k0 (XPred.sms_mem hx3 ⟨y_Kind, y_Col, y_Op, ⟨y_V_Ty, y_V_N, y_V_S⟩, y_L⟩ (by simp))
    simp only at ih
    have hq : (pre.length + 1) * 80 ≤ 70368744177664 := by omega
    repeat' (first
      | with_reducible (first | refine wp_seq ?_ | refine wp_blk ?_ | refine wp_skip ?_ | refine wp_exit ?_ | refine wp_ret ?_ | refine seqQ_norm ?_ | refine seqQ_ret ?_ | refine seqQ_exit ?_ | refine blkQ_norm ?_ | refine blkQ_ret ?_ | refine blkQ_exit ?_ | refine loopQ_norm ?_ | refine loopQ_exit ?_ | refine loopQ_ret ?_ | refine endQ_ret ?_ | refine endQ_norm ?_ | refine endE_ret ?_ | refine endE_norm ?_ | refine endI_ret ?_ | refine endI_norm ?_)
      | (with_reducible refine wp_regK fun K hK => ?_
         simp[hw, ih, hq]
         repeat' (with_reducible first | refine hK _ ?_ | (refine psel ?_ ?_ <;> (intro hc; (try rw [Decidable.not_not] at hc); first | (exfalso; omega) | (try simp [hc, hw, ih, hq]))))
         all_goals (clear hK; clear K))
      | (with_reducible refine wp_condE ?_
         refine ⟨_, rfl, ?_, ?_⟩ <;> (intro hc; (try simp at hc); (all_goals first | (exfalso; omega) | skip))))
    all_goals first | exact ⟨(pre ++ [⟨y_Kind, y_Col, y_Op, ⟨y_V_Ty, y_V_N, y_V_S⟩, y_L⟩], rest), by simp, by simp, by simp⟩ | (exfalso; omega)

theorem CpPredI_all (x : XPred) : CpPredI x :=
  CpPredI_of x fun y hy => CpPredI_all y
termination_by SizeOf.sizeOf x
decreasing_by
  have h1 := List.sizeOf_lt_of_mem hy
  have h2 : SizeOf.sizeOf x.L < SizeOf.sizeOf x := by cases x; simp; omega
  omega

@[simp] theorem t563 (k0 : Bool) (x_Kind : Int) (x_Col : Int) (x_Op : Int) (x_V_Ty : Int) (x_V_N : Int) (x_V_S : ByteArray) (x_L : List XPred) (hv : x_V_S.size ≤ 1048576) (hl : x_L.length ≤ 1048576) (hs : XPred.sms x_L) : Gw TT 563 [.st [.ro false (di x_Kind), .ro false (di x_Col), .ro false (di x_Op), .ro false (di x_V_Ty), .ro false (di x_V_N), .ro false (.str x_V_S), .ro k0 (.sl 7 (x_L.map XPred.e))]] = some (.st [.ro false (di x_Kind), .ro false (di x_Col), .ro false (di x_Op), .ro false (di x_V_Ty), .ro false (di x_V_N), .ro false (.str x_V_S), .own (.sl 7 (x_L.map XPred.e))], []) :=
  CpPredI_all ⟨x_Kind, x_Col, x_Op, ⟨x_V_Ty, x_V_N, x_V_S⟩, x_L⟩ k0 (by simp only [XPred.sm_eq, XVal.sm, and_assoc]; exact ⟨hv, hl, hs⟩)

@[simp] theorem t532 (k0 : Bool) (x_Kind : Int) (x_P_Kind : Int) (x_P_Col : Int) (x_P_Op : Int) (x_P_V_Ty : Int) (x_P_V_N : Int) (x_P_V_S : ByteArray) (x_P_L : List XPred) (x_Col : Int) (x_Out : List Int) (hsm_x_P_V_S : x_P_V_S.size ≤ 1048576) (hsm_x_P_L : x_P_L.length ≤ 1048576) (hsms_x_P_L : XPred.sms x_P_L) (hsm_x_Out : x_Out.length ≤ 1048576) : Gw TT 532 [.st [.ro false (di x_Kind), .ro false (di x_P_Kind), .ro false (di x_P_Col), .ro false (di x_P_Op), .ro false (di x_P_V_Ty), .ro false (di x_P_V_N), .ro false (.str x_P_V_S), .ro k0 (.sl 7 (x_P_L.map XPred.e)), .ro false (di x_Col), .ro k0 (.sl 1 (x_Out.map ei))]] = some (.st [.ro false (di x_Kind), .ro false (di x_P_Kind), .ro false (di x_P_Col), .ro false (di x_P_Op), .ro false (di x_P_V_Ty), .ro false (di x_P_V_N), .ro false (.str x_P_V_S), .own (.sl 7 (x_P_L.map XPred.e)), .ro false (di x_Col), .own (.sl 1 (x_Out.map ei))], []) := by
  have hq_x_Out : (0 + x_Out.length) * 8 ≤ 70368744177664 := by omega
  have hr_x_Out : x_Out.length * 8 ≤ 70368744177664 := by omega
  refine Gw_of (F := pf532) rfl rfl ?_
  show Wp _ pb532 _ _
  unfold pb532
  repeat' first|with_reducible (first|apply Z1|apply Z2|apply Z3|apply Z4|apply Z5|apply Z6|apply Z7|apply Z8|apply Z9|apply Y1|apply Y2|apply Y3|apply Y4|apply Y5|apply Y6|apply Y7|apply Y8|apply Y9)|(with_reducible refine Xk fun K k=>?_;simp [hsm_x_P_V_S, hsm_x_P_L, hsms_x_P_L, hsm_x_Out, hq_x_Out, hr_x_Out];refine k _ ?_;clear k K)|refine Xt rfl ?_|refine Xf rfl ?_
  all_goals simp [pf532]

@[simp] theorem t533 (k0 : Bool) (l : List XRow) (h : l.length ≤ 1048576) (hs : XRow.sms l) : Gw TT 533 [.one (.ro k0 (.sl 2 (l.map XRow.e)))] = some (.one (.own (.sl 2 (l.map XRow.e))), []) := by
  refine Gw_of (F := pf533) rfl rfl ?_
  show Wp _ pb533 _ _
  unfold pb533
  repeat' (first
    | with_reducible (first | refine wp_seq ?_ | refine wp_blk ?_ | refine wp_skip ?_ | refine wp_exit ?_ | refine wp_ret ?_ | refine seqQ_norm ?_ | refine seqQ_ret ?_ | refine seqQ_exit ?_ | refine blkQ_norm ?_ | refine blkQ_ret ?_ | refine blkQ_exit ?_ | refine loopQ_norm ?_ | refine loopQ_exit ?_ | refine loopQ_ret ?_ | refine endQ_ret ?_ | refine endQ_norm ?_ | refine endE_ret ?_ | refine endE_norm ?_ | refine endI_ret ?_ | refine endI_norm ?_)
    | (with_reducible refine wp_regK fun K hK => ?_
       simp
       repeat' (with_reducible first | refine hK _ ?_ | (refine psel ?_ ?_ <;> (intro hc; (try rw [Decidable.not_not] at hc); first | (exfalso; omega) | (try simp [hc]))))
       all_goals (clear hK; clear K))
    | (with_reducible refine wp_condE ?_
       refine ⟨_, rfl, ?_, ?_⟩ <;> (intro hc; (try simp at hc); (all_goals first | (exfalso; omega) | skip))))
  refine wp_loopI (σ := List (XRow) × List (XRow) × List (XRow)) (fun s => [(3, AV.pl 3 0 [], some (Rt.vir [C.own (D.sl 2 ((s.2.2).map XRow.e))])), (7, AV.v k0 (D.sl 2 (l.map XRow.e)), none), (8, AV.v false (di (l.length : Nat)), none), (9, AV.v false (di ((s.1.length : Nat) : Int)), none)]) (fun s => l = s.1 ++ s.2.1 ∧ s.2.2 ++ s.2.1 = l ∧ s.2.2.length ≤ s.1.length) (fun s => s.2.1.length) ([], l, []) (by simp) ⟨rfl, by first | rfl | simp, Nat.le_refl _⟩ ?_
  rintro ⟨pre, rest, a⟩ ⟨h1, h2, h3⟩
  simp only at h1 h2 h3
  subst h1
  simp only [List.length_append, List.length_cons] at h
  rcases rest with _ | ⟨d, rest⟩
  · unfold pl533_0
    try simp only [List.append_nil, List.append_nil] at h2
    repeat' (first
      | with_reducible (first | refine wp_seq ?_ | refine wp_blk ?_ | refine wp_skip ?_ | refine wp_exit ?_ | refine wp_ret ?_ | refine seqQ_norm ?_ | refine seqQ_ret ?_ | refine seqQ_exit ?_ | refine blkQ_norm ?_ | refine blkQ_ret ?_ | refine blkQ_exit ?_ | refine loopQ_norm ?_ | refine loopQ_exit ?_ | refine loopQ_ret ?_ | refine endQ_ret ?_ | refine endQ_norm ?_ | refine endE_ret ?_ | refine endE_norm ?_ | refine endI_ret ?_ | refine endI_norm ?_)
      | (with_reducible refine wp_regK fun K hK => ?_
         simp
         repeat' (with_reducible first | refine hK _ ?_ | (refine psel ?_ ?_ <;> (intro hc; (try rw [Decidable.not_not] at hc); first | (exfalso; omega) | (try simp [hc]))))
         all_goals (clear hK; clear K))
      | (with_reducible refine wp_condE ?_
         refine ⟨_, rfl, ?_, ?_⟩ <;> (intro hc; (try simp at hc); (all_goals first | (exfalso; omega) | skip))))
    all_goals first | (simp_all [pf533]; done) | (simp_all [pf533]; omega)
  · unfold pl533_0
    simp only [List.length_cons] at h
    try simp only [List.append_nil] at h2
    have hw : IntKind.wrap .i64 ((pre.length : Int) + 1) = (pre.length : Int) + 1 := wrap_i64 (by omega) (by omega)
    have hd := hs d (by simp)
    simp only [XRow.sm] at hd
    have hq : (a.length + 1) * 32 ≤ 70368744177664 := by omega
    repeat' (first
      | with_reducible (first | refine wp_seq ?_ | refine wp_blk ?_ | refine wp_skip ?_ | refine wp_exit ?_ | refine wp_ret ?_ | refine seqQ_norm ?_ | refine seqQ_ret ?_ | refine seqQ_exit ?_ | refine blkQ_norm ?_ | refine blkQ_ret ?_ | refine blkQ_exit ?_ | refine loopQ_norm ?_ | refine loopQ_exit ?_ | refine loopQ_ret ?_ | refine endQ_ret ?_ | refine endQ_norm ?_ | refine endE_ret ?_ | refine endE_norm ?_ | refine endI_ret ?_ | refine endI_norm ?_)
      | (with_reducible refine wp_regK fun K hK => ?_
         simp[hw, hd, hd.1, hq]
         repeat' (with_reducible first | refine hK _ ?_ | (refine psel ?_ ?_ <;> (intro hc; (try rw [Decidable.not_not] at hc); first | (exfalso; omega) | (try simp [hc, hw, hd, hd.1, hq]))))
         all_goals (clear hK; clear K))
      | (with_reducible refine wp_condE ?_
         refine ⟨_, rfl, ?_, ?_⟩ <;> (intro hc; (try simp at hc); (all_goals first | (exfalso; omega) | skip))))
    all_goals first | (refine ⟨(pre ++ [d], rest, a ++ [d]), ?_, ⟨?_, ?_, ?_⟩, ?_⟩; (focus (first | (simp; done) | (simp_all; done))); (focus (simp; done)); (focus (refine Eq.trans ?_ h2; clear h2; first | (simp [*]; done) | (simp_all; done)));  (focus (simp only [List.length_append, List.length_cons, List.length_nil]; omega)); (focus (simp; done))) | (simp_all [pf533]; done) | (exfalso; omega)

@[simp] theorem t534 (k0 : Bool) (x_Rows : List XRow) (x_N : Int) (x_Has : Bool) (x_V_Ty : Int) (x_V_N : Int) (x_V_S : ByteArray) (hsm_x_Rows : x_Rows.length ≤ 1048576) (hsms_x_Rows : XRow.sms x_Rows) (hsm_x_V_S : x_V_S.size ≤ 1048576) : Gw TT 534 [.st [.ro k0 (.sl 2 (x_Rows.map XRow.e)), .ro false (di x_N), .ro false (.bool x_Has), .ro false (di x_V_Ty), .ro false (di x_V_N), .ro false (.str x_V_S)]] = some (.st [.own (.sl 2 (x_Rows.map XRow.e)), .ro false (di x_N), .ro false (.bool x_Has), .ro false (di x_V_Ty), .ro false (di x_V_N), .ro false (.str x_V_S)], []) := by
  skip
  refine Gw_of (F := pf534) rfl rfl ?_
  show Wp _ pb534 _ _
  unfold pb534
  repeat' first|with_reducible (first|apply Z1|apply Z2|apply Z3|apply Z4|apply Z5|apply Z6|apply Z7|apply Z8|apply Z9|apply Y1|apply Y2|apply Y3|apply Y4|apply Y5|apply Y6|apply Y7|apply Y8|apply Y9)|(with_reducible refine Xk fun K k=>?_;simp [hsm_x_Rows, hsms_x_Rows, hsm_x_V_S];refine k _ ?_;clear k K)|refine Xt rfl ?_|refine Xf rfl ?_
  all_goals simp [pf534]

@[simp] theorem t501 (k0 : Bool) (x_Op : Int) (x_Pc : Int) (x_H : Int) (x_R : List XVal) (x_Id : Int) (x_Q_Kind : Int) (x_Q_P_Kind : Int) (x_Q_P_Col : Int) (x_Q_P_Op : Int) (x_Q_P_V_Ty : Int) (x_Q_P_V_N : Int) (x_Q_P_V_S : ByteArray) (x_Q_P_L : List XPred) (x_Q_Col : Int) (x_Q_Out : List Int) (x_Ts : Int) (x_Ver : Int) (x_L : List XRef) (x_I : Int) (x_J : Int) (x_S : Int) (x_At : Int) (x_Own : Int) (x_Won : Bool) (x_Got : List XRow) (hsm_x_R : x_R.length ≤ 1048576) (hsms_x_R : XVal.sms x_R) (hsm_x_Q_P_V_S : x_Q_P_V_S.size ≤ 1048576) (hsm_x_Q_P_L : x_Q_P_L.length ≤ 1048576) (hsms_x_Q_P_L : XPred.sms x_Q_P_L) (hsm_x_Q_Out : x_Q_Out.length ≤ 1048576) (hsm_x_L : x_L.length ≤ 1048576) (hsm_x_Got : x_Got.length ≤ 1048576) (hsms_x_Got : XRow.sms x_Got) : Gw TT 501 [.st [.ro false (di x_Op), .ro false (di x_Pc), .ro false (di x_H), .ro k0 (.sl 3 (x_R.map XVal.e)), .ro false (di x_Id), .ro false (di x_Q_Kind), .ro false (di x_Q_P_Kind), .ro false (di x_Q_P_Col), .ro false (di x_Q_P_Op), .ro false (di x_Q_P_V_Ty), .ro false (di x_Q_P_V_N), .ro false (.str x_Q_P_V_S), .ro k0 (.sl 7 (x_Q_P_L.map XPred.e)), .ro false (di x_Q_Col), .ro k0 (.sl 1 (x_Q_Out.map ei)), .ro false (di x_Ts), .ro false (di x_Ver), .ro k0 (.sl 5 (x_L.map XRef.e)), .ro false (di x_I), .ro false (di x_J), .ro false (di x_S), .ro false (di x_At), .ro false (di x_Own), .ro false (.bool x_Won), .ro k0 (.sl 2 (x_Got.map XRow.e))]] = some (.st [.ro false (di x_Op), .ro false (di x_Pc), .ro false (di x_H), .own (.sl 3 (x_R.map XVal.e)), .ro false (di x_Id), .ro false (di x_Q_Kind), .ro false (di x_Q_P_Kind), .ro false (di x_Q_P_Col), .ro false (di x_Q_P_Op), .ro false (di x_Q_P_V_Ty), .ro false (di x_Q_P_V_N), .ro false (.str x_Q_P_V_S), .own (.sl 7 (x_Q_P_L.map XPred.e)), .ro false (di x_Q_Col), .own (.sl 1 (x_Q_Out.map ei)), .ro false (di x_Ts), .ro false (di x_Ver), .own (.sl 5 (x_L.map XRef.e)), .ro false (di x_I), .ro false (di x_J), .ro false (di x_S), .ro false (di x_At), .ro false (di x_Own), .ro false (.bool x_Won), .own (.sl 2 (x_Got.map XRow.e))], []) := by
  have hq_x_R : (0 + x_R.length) * 32 ≤ 70368744177664 := by omega
  have hr_x_R : x_R.length * 32 ≤ 70368744177664 := by omega
  have hq_x_Q_Out : (0 + x_Q_Out.length) * 8 ≤ 70368744177664 := by omega
  have hr_x_Q_Out : x_Q_Out.length * 8 ≤ 70368744177664 := by omega
  have hq_x_L : (0 + x_L.length) * 40 ≤ 70368744177664 := by omega
  have hr_x_L : x_L.length * 40 ≤ 70368744177664 := by omega
  refine Gw_of (F := pf501) rfl rfl ?_
  show Wp _ pb501 _ _
  unfold pb501
  repeat' first|with_reducible (first|apply Z1|apply Z2|apply Z3|apply Z4|apply Z5|apply Z6|apply Z7|apply Z8|apply Z9|apply Y1|apply Y2|apply Y3|apply Y4|apply Y5|apply Y6|apply Y7|apply Y8|apply Y9)|(with_reducible refine Xk fun K k=>?_;simp [hsm_x_R, hsms_x_R, hsm_x_Q_P_V_S, hsm_x_Q_P_L, hsms_x_Q_P_L, hsm_x_Q_Out, hsm_x_L, hsm_x_Got, hsms_x_Got, hq_x_R, hr_x_R, hq_x_Q_Out, hr_x_Q_Out, hq_x_L, hr_x_L];refine k _ ?_;clear k K)|refine Xt rfl ?_|refine Xf rfl ?_
  all_goals simp [pf501]

@[simp] theorem t502 (k0 : Bool) (x_Op : Int) (x_Task : Int) (x_R : List XVal) (x_Id : Int) (x_Q_Kind : Int) (x_Q_P_Kind : Int) (x_Q_P_Col : Int) (x_Q_P_Op : Int) (x_Q_P_V_Ty : Int) (x_Q_P_V_N : Int) (x_Q_P_V_S : ByteArray) (x_Q_P_L : List XPred) (x_Q_Col : Int) (x_Q_Out : List Int) (x_Res_Rows : List XRow) (x_Res_N : Int) (x_Res_Has : Bool) (x_Res_V_Ty : Int) (x_Res_V_N : Int) (x_Res_V_S : ByteArray) (x_Code : Int) (x_Stamp : Int) (x_Inv : Int) (x_Lin : Int) (x_Ret : Int) (hsm_x_R : x_R.length ≤ 1048576) (hsms_x_R : XVal.sms x_R) (hsm_x_Q_P_V_S : x_Q_P_V_S.size ≤ 1048576) (hsm_x_Q_P_L : x_Q_P_L.length ≤ 1048576) (hsms_x_Q_P_L : XPred.sms x_Q_P_L) (hsm_x_Q_Out : x_Q_Out.length ≤ 1048576) (hsm_x_Res_Rows : x_Res_Rows.length ≤ 1048576) (hsms_x_Res_Rows : XRow.sms x_Res_Rows) (hsm_x_Res_V_S : x_Res_V_S.size ≤ 1048576) : Gw TT 502 [.st [.ro false (di x_Op), .ro false (di x_Task), .ro k0 (.sl 3 (x_R.map XVal.e)), .ro false (di x_Id), .ro false (di x_Q_Kind), .ro false (di x_Q_P_Kind), .ro false (di x_Q_P_Col), .ro false (di x_Q_P_Op), .ro false (di x_Q_P_V_Ty), .ro false (di x_Q_P_V_N), .ro false (.str x_Q_P_V_S), .ro k0 (.sl 7 (x_Q_P_L.map XPred.e)), .ro false (di x_Q_Col), .ro k0 (.sl 1 (x_Q_Out.map ei)), .ro k0 (.sl 2 (x_Res_Rows.map XRow.e)), .ro false (di x_Res_N), .ro false (.bool x_Res_Has), .ro false (di x_Res_V_Ty), .ro false (di x_Res_V_N), .ro false (.str x_Res_V_S), .ro false (di x_Code), .ro false (di x_Stamp), .ro false (di x_Inv), .ro false (di x_Lin), .ro false (di x_Ret)]] = some (.st [.ro false (di x_Op), .ro false (di x_Task), .own (.sl 3 (x_R.map XVal.e)), .ro false (di x_Id), .ro false (di x_Q_Kind), .ro false (di x_Q_P_Kind), .ro false (di x_Q_P_Col), .ro false (di x_Q_P_Op), .ro false (di x_Q_P_V_Ty), .ro false (di x_Q_P_V_N), .ro false (.str x_Q_P_V_S), .own (.sl 7 (x_Q_P_L.map XPred.e)), .ro false (di x_Q_Col), .own (.sl 1 (x_Q_Out.map ei)), .own (.sl 2 (x_Res_Rows.map XRow.e)), .ro false (di x_Res_N), .ro false (.bool x_Res_Has), .ro false (di x_Res_V_Ty), .ro false (di x_Res_V_N), .ro false (.str x_Res_V_S), .ro false (di x_Code), .ro false (di x_Stamp), .ro false (di x_Inv), .ro false (di x_Lin), .ro false (di x_Ret)], []) := by
  have hq_x_R : (0 + x_R.length) * 32 ≤ 70368744177664 := by omega
  have hr_x_R : x_R.length * 32 ≤ 70368744177664 := by omega
  have hq_x_Q_Out : (0 + x_Q_Out.length) * 8 ≤ 70368744177664 := by omega
  have hr_x_Q_Out : x_Q_Out.length * 8 ≤ 70368744177664 := by omega
  refine Gw_of (F := pf502) rfl rfl ?_
  show Wp _ pb502 _ _
  unfold pb502
  repeat' first|with_reducible (first|apply Z1|apply Z2|apply Z3|apply Z4|apply Z5|apply Z6|apply Z7|apply Z8|apply Z9|apply Y1|apply Y2|apply Y3|apply Y4|apply Y5|apply Y6|apply Y7|apply Y8|apply Y9)|(with_reducible refine Xk fun K k=>?_;simp [hsm_x_R, hsms_x_R, hsm_x_Q_P_V_S, hsm_x_Q_P_L, hsms_x_Q_P_L, hsm_x_Q_Out, hsm_x_Res_Rows, hsms_x_Res_Rows, hsm_x_Res_V_S, hq_x_R, hr_x_R, hq_x_Q_Out, hr_x_Q_Out];refine k _ ?_;clear k K)|refine Xt rfl ?_|refine Xf rfl ?_
  all_goals simp [pf502]

@[simp] theorem t400 (k0 : Bool) (x_Id : Int) (x_L : List XVal) (h : x_L.length ≤ 1048576) : Gw TT 400 [.st [.ro false (di x_Id), .ro k0 (.sl 3 (x_L.map XVal.e))]] = some (.st [.ro false (di x_Id), .own (.sl 3 (x_L.map XVal.e))], []) := by
  refine Gw_of (F := pf400) rfl rfl ?_
  show Wp _ pb400 _ _
  unfold pb400
  have hq1 : (0 + x_L.length) * 32 ≤ 70368744177664 := by omega
  have hq2 : x_L.length * 32 ≤ 70368744177664 := by omega
  repeat' first|with_reducible (first|apply Z1|apply Z2|apply Z3|apply Z4|apply Z5|apply Z6|apply Z7|apply Z8|apply Z9|apply Y1|apply Y2|apply Y3|apply Y4|apply Y5|apply Y6|apply Y7|apply Y8|apply Y9)|(with_reducible refine Xk fun K k=>?_;simp [hq1, hq2];refine k _ ?_;clear k K)|refine Xt rfl ?_|refine Xf rfl ?_
  all_goals simp [pf400]

@[simp] theorem t397 (k0 : Bool) (l : List XRow) (h : l.length ≤ 1048576) (hs : XRow.sms l) : Gw TT 397 [.one (.ro k0 (.sl 2 (l.map XRow.e)))] = some (.one (.own (.sl 2 (l.map XRow.e))), []) := by
  refine Gw_of (F := pf397) rfl rfl ?_
  show Wp _ pb397 _ _
  unfold pb397
  repeat' (first
    | with_reducible (first | refine wp_seq ?_ | refine wp_blk ?_ | refine wp_skip ?_ | refine wp_exit ?_ | refine wp_ret ?_ | refine seqQ_norm ?_ | refine seqQ_ret ?_ | refine seqQ_exit ?_ | refine blkQ_norm ?_ | refine blkQ_ret ?_ | refine blkQ_exit ?_ | refine loopQ_norm ?_ | refine loopQ_exit ?_ | refine loopQ_ret ?_ | refine endQ_ret ?_ | refine endQ_norm ?_ | refine endE_ret ?_ | refine endE_norm ?_ | refine endI_ret ?_ | refine endI_norm ?_)
    | (with_reducible refine wp_regK fun K hK => ?_
       simp
       repeat' (with_reducible first | refine hK _ ?_ | (refine psel ?_ ?_ <;> (intro hc; (try rw [Decidable.not_not] at hc); first | (exfalso; omega) | (try simp [hc]))))
       all_goals (clear hK; clear K))
    | (with_reducible refine wp_condE ?_
       refine ⟨_, rfl, ?_, ?_⟩ <;> (intro hc; (try simp at hc); (all_goals first | (exfalso; omega) | skip))))
  refine wp_loopI (σ := List (XRow) × List (XRow) × List (XRow)) (fun s => [(0, AV.v k0 (D.sl 2 (l.map XRow.e)), none), (3, AV.pl 3 0 [], some (Rt.vir [C.own (D.sl 2 ((s.2.2).map XRow.e))])), (4, AV.v false (di ((s.1.length : Nat) : Int)), none)]) (fun s => l = s.1 ++ s.2.1 ∧ s.2.2 ++ s.2.1 = l ∧ s.2.2.length ≤ s.1.length) (fun s => s.2.1.length) ([], l, []) (by simp) ⟨rfl, by first | rfl | simp, Nat.le_refl _⟩ ?_
  rintro ⟨pre, rest, a⟩ ⟨h1, h2, h3⟩
  simp only at h1 h2 h3
  subst h1
  simp only [List.length_append, List.length_cons] at h
  rcases rest with _ | ⟨d, rest⟩
  · unfold pl397_0
    try simp only [List.append_nil, List.append_nil] at h2
    repeat' (first
      | with_reducible (first | refine wp_seq ?_ | refine wp_blk ?_ | refine wp_skip ?_ | refine wp_exit ?_ | refine wp_ret ?_ | refine seqQ_norm ?_ | refine seqQ_ret ?_ | refine seqQ_exit ?_ | refine blkQ_norm ?_ | refine blkQ_ret ?_ | refine blkQ_exit ?_ | refine loopQ_norm ?_ | refine loopQ_exit ?_ | refine loopQ_ret ?_ | refine endQ_ret ?_ | refine endQ_norm ?_ | refine endE_ret ?_ | refine endE_norm ?_ | refine endI_ret ?_ | refine endI_norm ?_)
      | (with_reducible refine wp_regK fun K hK => ?_
         simp
         repeat' (with_reducible first | refine hK _ ?_ | (refine psel ?_ ?_ <;> (intro hc; (try rw [Decidable.not_not] at hc); first | (exfalso; omega) | (try simp [hc]))))
         all_goals (clear hK; clear K))
      | (with_reducible refine wp_condE ?_
         refine ⟨_, rfl, ?_, ?_⟩ <;> (intro hc; (try simp at hc); (all_goals first | (exfalso; omega) | skip))))
    all_goals first | (simp_all [pf397]; done) | (simp_all [pf397]; omega)
  · unfold pl397_0
    simp only [List.length_cons] at h
    try simp only [List.append_nil] at h2
    have hw : IntKind.wrap .i64 ((pre.length : Int) + 1) = (pre.length : Int) + 1 := wrap_i64 (by omega) (by omega)
    have hd := hs d (by simp)
    simp only [XRow.sm] at hd
    have hq : (a.length + 1) * 32 ≤ 70368744177664 := by omega
    repeat' (first
      | with_reducible (first | refine wp_seq ?_ | refine wp_blk ?_ | refine wp_skip ?_ | refine wp_exit ?_ | refine wp_ret ?_ | refine seqQ_norm ?_ | refine seqQ_ret ?_ | refine seqQ_exit ?_ | refine blkQ_norm ?_ | refine blkQ_ret ?_ | refine blkQ_exit ?_ | refine loopQ_norm ?_ | refine loopQ_exit ?_ | refine loopQ_ret ?_ | refine endQ_ret ?_ | refine endQ_norm ?_ | refine endE_ret ?_ | refine endE_norm ?_ | refine endI_ret ?_ | refine endI_norm ?_)
      | (with_reducible refine wp_regK fun K hK => ?_
         simp[hw, hd, hd.1, hq]
         repeat' (with_reducible first | refine hK _ ?_ | (refine psel ?_ ?_ <;> (intro hc; (try rw [Decidable.not_not] at hc); first | (exfalso; omega) | (try simp [hc, hw, hd, hd.1, hq]))))
         all_goals (clear hK; clear K))
      | (with_reducible refine wp_condE ?_
         refine ⟨_, rfl, ?_, ?_⟩ <;> (intro hc; (try simp at hc); (all_goals first | (exfalso; omega) | skip))))
    all_goals first | (refine ⟨(pre ++ [d], rest, a ++ [d]), ?_, ⟨?_, ?_, ?_⟩, ?_⟩; (focus (first | (simp; done) | (simp_all; done))); (focus (simp; done)); (focus (refine Eq.trans ?_ h2; clear h2; first | (simp [*]; done) | (simp_all; done)));  (focus (simp only [List.length_append, List.length_cons, List.length_nil]; omega)); (focus (simp; done))) | (simp_all [pf397]; done) | (exfalso; omega)

theorem l12R_all (k0 : Bool) (x_Rows : List XRow) (x_N : Int) (x_Has : Bool) (x_V_Ty : Int) (x_V_N : Int) (x_V_S : ByteArray) (hsm_x_Rows : x_Rows.length ≤ 1048576) (hsms_x_Rows : XRow.sms x_Rows) (hsm_x_V_S : x_V_S.size ≤ 1048576) : Gw TT 356 [.st [.ro k0 (.sl 2 (x_Rows.map XRow.e)), .ro false (di x_N), .ro false (.bool x_Has), .ro false (di x_V_Ty), .ro false (di x_V_N), .ro false (.str x_V_S)]] = some (.st [.own (.sl 2 (x_Rows.map XRow.e)), .ro false (di x_N), .ro false (.bool x_Has), .ro false (di x_V_Ty), .ro false (di x_V_N), .ro false (.str x_V_S)], []) := by
  skip
  refine Gw_of (F := pf356) rfl rfl ?_
  show Wp _ pb356 _ _
  unfold pb356
  repeat' first|with_reducible (first|apply Z1|apply Z2|apply Z3|apply Z4|apply Z5|apply Z6|apply Z7|apply Z8|apply Z9|apply Y1|apply Y2|apply Y3|apply Y4|apply Y5|apply Y6|apply Y7|apply Y8|apply Y9)|(with_reducible refine Xk fun K k=>?_;simp [hsm_x_Rows, hsms_x_Rows, hsm_x_V_S];refine k _ ?_;clear k K)|refine Xt rfl ?_|refine Xf rfl ?_
  all_goals simp [pf356]

theorem l20C_all (k0 : Bool) (x_Op : Int) (x_Task : Int) (x_R : List XVal) (x_Id : Int) (x_Q_Kind : Int) (x_Q_P_Kind : Int) (x_Q_P_Col : Int) (x_Q_P_Op : Int) (x_Q_P_V_Ty : Int) (x_Q_P_V_N : Int) (x_Q_P_V_S : ByteArray) (x_Q_P_L : List XPred) (x_Q_Col : Int) (x_Q_Out : List Int) (x_Res_Rows : List XRow) (x_Res_N : Int) (x_Res_Has : Bool) (x_Res_V_Ty : Int) (x_Res_V_N : Int) (x_Res_V_S : ByteArray) (x_Code : Int) (x_Stamp : Int) (x_Inv : Int) (x_Lin : Int) (x_Ret : Int) (hsm_x_R : x_R.length ≤ 1048576) (hsms_x_R : XVal.sms x_R) (hsm_x_Q_P_V_S : x_Q_P_V_S.size ≤ 1048576) (hsm_x_Q_P_L : x_Q_P_L.length ≤ 1048576) (hsms_x_Q_P_L : XPred.sms x_Q_P_L) (hsm_x_Q_Out : x_Q_Out.length ≤ 1048576) (hsm_x_Res_Rows : x_Res_Rows.length ≤ 1048576) (hsms_x_Res_Rows : XRow.sms x_Res_Rows) (hsm_x_Res_V_S : x_Res_V_S.size ≤ 1048576) : Gw TT 387 [.st [.ro false (di x_Op), .ro false (di x_Task), .ro k0 (.sl 3 (x_R.map XVal.e)), .ro false (di x_Id), .ro false (di x_Q_Kind), .ro false (di x_Q_P_Kind), .ro false (di x_Q_P_Col), .ro false (di x_Q_P_Op), .ro false (di x_Q_P_V_Ty), .ro false (di x_Q_P_V_N), .ro false (.str x_Q_P_V_S), .ro k0 (.sl 7 (x_Q_P_L.map XPred.e)), .ro false (di x_Q_Col), .ro k0 (.sl 1 (x_Q_Out.map ei)), .ro k0 (.sl 2 (x_Res_Rows.map XRow.e)), .ro false (di x_Res_N), .ro false (.bool x_Res_Has), .ro false (di x_Res_V_Ty), .ro false (di x_Res_V_N), .ro false (.str x_Res_V_S), .ro false (di x_Code), .ro false (di x_Stamp), .ro false (di x_Inv), .ro false (di x_Lin), .ro false (di x_Ret)]] = some (.st [.ro false (di x_Op), .ro false (di x_Task), .own (.sl 3 (x_R.map XVal.e)), .ro false (di x_Id), .ro false (di x_Q_Kind), .ro false (di x_Q_P_Kind), .ro false (di x_Q_P_Col), .ro false (di x_Q_P_Op), .ro false (di x_Q_P_V_Ty), .ro false (di x_Q_P_V_N), .ro false (.str x_Q_P_V_S), .own (.sl 7 (x_Q_P_L.map XPred.e)), .ro false (di x_Q_Col), .own (.sl 1 (x_Q_Out.map ei)), .own (.sl 2 (x_Res_Rows.map XRow.e)), .ro false (di x_Res_N), .ro false (.bool x_Res_Has), .ro false (di x_Res_V_Ty), .ro false (di x_Res_V_N), .ro false (.str x_Res_V_S), .ro false (di x_Code), .ro false (di x_Stamp), .ro false (di x_Inv), .ro false (di x_Lin), .ro false (di x_Ret)], []) := by
  have hq_x_R : (0 + x_R.length) * 32 ≤ 70368744177664 := by omega
  have hr_x_R : x_R.length * 32 ≤ 70368744177664 := by omega
  have hq_x_Q_Out : (0 + x_Q_Out.length) * 8 ≤ 70368744177664 := by omega
  have hr_x_Q_Out : x_Q_Out.length * 8 ≤ 70368744177664 := by omega
  refine Gw_of (F := pf387) rfl rfl ?_
  show Wp _ pb387 _ _
  unfold pb387
  repeat' first|with_reducible (first|apply Z1|apply Z2|apply Z3|apply Z4|apply Z5|apply Z6|apply Z7|apply Z8|apply Z9|apply Y1|apply Y2|apply Y3|apply Y4|apply Y5|apply Y6|apply Y7|apply Y8|apply Y9)|(with_reducible refine Xk fun K k=>?_;simp [hsm_x_R, hsms_x_R, hsm_x_Q_P_V_S, hsm_x_Q_P_L, hsms_x_Q_P_L, hsm_x_Q_Out, hsm_x_Res_Rows, hsms_x_Res_Rows, hsm_x_Res_V_S, hq_x_R, hr_x_R, hq_x_Q_Out, hr_x_Q_Out, l12R_all];refine k _ ?_;clear k K)|refine Xt rfl ?_|refine Xf rfl ?_
  all_goals simp [pf387]

@[simp] theorem t499 (k0 : Bool) (x_Op : Int) (x_Pc : Int) (x_H : Int) (x_R : List XVal) (x_Id : Int) (x_Q_Kind : Int) (x_Q_P_Kind : Int) (x_Q_P_Col : Int) (x_Q_P_Op : Int) (x_Q_P_V_Ty : Int) (x_Q_P_V_N : Int) (x_Q_P_V_S : ByteArray) (x_Q_P_L : List XPred) (x_Q_Col : Int) (x_Q_Out : List Int) (x_Ts : Int) (x_Ver : Int) (x_L : List XRef) (x_I : Int) (x_J : Int) (x_S : Int) (x_At : Int) (x_Own : Int) (x_Won : Bool) (x_Got : List XRow) (hsm_x_R : x_R.length ≤ 1048576) (hsms_x_R : XVal.sms x_R) (hsm_x_Q_P_V_S : x_Q_P_V_S.size ≤ 1048576) (hsm_x_Q_P_L : x_Q_P_L.length ≤ 1048576) (hsms_x_Q_P_L : XPred.sms x_Q_P_L) (hsm_x_Q_Out : x_Q_Out.length ≤ 1048576) (hsm_x_L : x_L.length ≤ 1048576) (hsm_x_Got : x_Got.length ≤ 1048576) (hsms_x_Got : XRow.sms x_Got) : Gw TT 499 [.st [.ro false (di x_Op), .ro false (di x_Pc), .ro false (di x_H), .ro k0 (.sl 3 (x_R.map XVal.e)), .ro false (di x_Id), .ro false (di x_Q_Kind), .ro false (di x_Q_P_Kind), .ro false (di x_Q_P_Col), .ro false (di x_Q_P_Op), .ro false (di x_Q_P_V_Ty), .ro false (di x_Q_P_V_N), .ro false (.str x_Q_P_V_S), .ro k0 (.sl 7 (x_Q_P_L.map XPred.e)), .ro false (di x_Q_Col), .ro k0 (.sl 1 (x_Q_Out.map ei)), .ro false (di x_Ts), .ro false (di x_Ver), .ro k0 (.sl 5 (x_L.map XRef.e)), .ro false (di x_I), .ro false (di x_J), .ro false (di x_S), .ro false (di x_At), .ro false (di x_Own), .ro false (.bool x_Won), .ro k0 (.sl 2 (x_Got.map XRow.e))]] = some (.st [.ro false (di x_Op), .ro false (di x_Pc), .ro false (di x_H), .own (.sl 3 (x_R.map XVal.e)), .ro false (di x_Id), .ro false (di x_Q_Kind), .ro false (di x_Q_P_Kind), .ro false (di x_Q_P_Col), .ro false (di x_Q_P_Op), .ro false (di x_Q_P_V_Ty), .ro false (di x_Q_P_V_N), .ro false (.str x_Q_P_V_S), .own (.sl 7 (x_Q_P_L.map XPred.e)), .ro false (di x_Q_Col), .own (.sl 1 (x_Q_Out.map ei)), .ro false (di x_Ts), .ro false (di x_Ver), .own (.sl 5 (x_L.map XRef.e)), .ro false (di x_I), .ro false (di x_J), .ro false (di x_S), .ro false (di x_At), .ro false (di x_Own), .ro false (.bool x_Won), .own (.sl 2 (x_Got.map XRow.e))], []) := by
  have hq_x_R : (0 + x_R.length) * 32 ≤ 70368744177664 := by omega
  have hr_x_R : x_R.length * 32 ≤ 70368744177664 := by omega
  have hq_x_Q_Out : (0 + x_Q_Out.length) * 8 ≤ 70368744177664 := by omega
  have hr_x_Q_Out : x_Q_Out.length * 8 ≤ 70368744177664 := by omega
  have hq_x_L : (0 + x_L.length) * 40 ≤ 70368744177664 := by omega
  have hr_x_L : x_L.length * 40 ≤ 70368744177664 := by omega
  refine Gw_of (F := pf499) rfl rfl ?_
  show Wp _ pb499 _ _
  unfold pb499
  repeat' first|with_reducible (first|apply Z1|apply Z2|apply Z3|apply Z4|apply Z5|apply Z6|apply Z7|apply Z8|apply Z9|apply Y1|apply Y2|apply Y3|apply Y4|apply Y5|apply Y6|apply Y7|apply Y8|apply Y9)|(with_reducible refine Xk fun K k=>?_;simp [hsm_x_R, hsms_x_R, hsm_x_Q_P_V_S, hsm_x_Q_P_L, hsms_x_Q_P_L, hsm_x_Q_Out, hsm_x_L, hsm_x_Got, hsms_x_Got, hq_x_R, hr_x_R, hq_x_Q_Out, hr_x_Q_Out, hq_x_L, hr_x_L];refine k _ ?_;clear k K)|refine Xt rfl ?_|refine Xf rfl ?_
  all_goals simp [pf499]

@[simp] theorem t500 (k0 : Bool) (l : List XDeed) (h : l.length ≤ 1048576) (hs : XDeed.sms l) : Gw TT 500 [.one (.ro k0 (.sl 25 (l.map XDeed.e)))] = some (.one (.own (.sl 25 (l.map XDeed.e))), []) := by
  refine Gw_of (F := pf500) rfl rfl ?_
  show Wp _ pb500 _ _
  unfold pb500
  repeat' (first
    | with_reducible (first | refine wp_seq ?_ | refine wp_blk ?_ | refine wp_skip ?_ | refine wp_exit ?_ | refine wp_ret ?_ | refine seqQ_norm ?_ | refine seqQ_ret ?_ | refine seqQ_exit ?_ | refine blkQ_norm ?_ | refine blkQ_ret ?_ | refine blkQ_exit ?_ | refine loopQ_norm ?_ | refine loopQ_exit ?_ | refine loopQ_ret ?_ | refine endQ_ret ?_ | refine endQ_norm ?_ | refine endE_ret ?_ | refine endE_norm ?_ | refine endI_ret ?_ | refine endI_norm ?_)
    | (with_reducible refine wp_regK fun K hK => ?_
       simp
       repeat' (with_reducible first | refine hK _ ?_ | (refine psel ?_ ?_ <;> (intro hc; (try rw [Decidable.not_not] at hc); first | (exfalso; omega) | (try simp [hc]))))
       all_goals (clear hK; clear K))
    | (with_reducible refine wp_condE ?_
       refine ⟨_, rfl, ?_, ?_⟩ <;> (intro hc; (try simp at hc); (all_goals first | (exfalso; omega) | skip))))
  refine wp_loopI (σ := List (XDeed) × List (XDeed) × List (XDeed)) (fun s => [(0, AV.v k0 (D.sl 25 (l.map XDeed.e)), none), (3, AV.pl 3 0 [], some (Rt.vir [C.own (D.sl 25 ((s.2.2).map XDeed.e))])), (4, AV.v false (di ((s.1.length : Nat) : Int)), none)]) (fun s => l = s.1 ++ s.2.1 ∧ s.2.2 ++ s.2.1 = l ∧ s.2.2.length ≤ s.1.length) (fun s => s.2.1.length) ([], l, []) (by simp) ⟨rfl, by first | rfl | simp, Nat.le_refl _⟩ ?_
  rintro ⟨pre, rest, a⟩ ⟨h1, h2, h3⟩
  simp only at h1 h2 h3
  subst h1
  simp only [List.length_append, List.length_cons] at h
  rcases rest with _ | ⟨d, rest⟩
  · unfold pl500_0
    try simp only [List.append_nil, List.append_nil] at h2
    repeat' (first
      | with_reducible (first | refine wp_seq ?_ | refine wp_blk ?_ | refine wp_skip ?_ | refine wp_exit ?_ | refine wp_ret ?_ | refine seqQ_norm ?_ | refine seqQ_ret ?_ | refine seqQ_exit ?_ | refine blkQ_norm ?_ | refine blkQ_ret ?_ | refine blkQ_exit ?_ | refine loopQ_norm ?_ | refine loopQ_exit ?_ | refine loopQ_ret ?_ | refine endQ_ret ?_ | refine endQ_norm ?_ | refine endE_ret ?_ | refine endE_norm ?_ | refine endI_ret ?_ | refine endI_norm ?_)
      | (with_reducible refine wp_regK fun K hK => ?_
         simp
         repeat' (with_reducible first | refine hK _ ?_ | (refine psel ?_ ?_ <;> (intro hc; (try rw [Decidable.not_not] at hc); first | (exfalso; omega) | (try simp [hc]))))
         all_goals (clear hK; clear K))
      | (with_reducible refine wp_condE ?_
         refine ⟨_, rfl, ?_, ?_⟩ <;> (intro hc; (try simp at hc); (all_goals first | (exfalso; omega) | skip))))
    all_goals first | (simp_all [pf500]; done) | (simp_all [pf500]; omega)
  · unfold pl500_0
    simp only [List.length_cons] at h
    try simp only [List.append_nil] at h2
    have hw : IntKind.wrap .i64 ((pre.length : Int) + 1) = (pre.length : Int) + 1 := wrap_i64 (by omega) (by omega)
    have hd := hs d (by simp)
    simp only [XDeed.sm, XQuery.sm, XPred.sm_eq, XVal.sm, XResult.sm] at hd
    have hq : (a.length + 1) * 280 ≤ 70368744177664 := by omega
    repeat' (first
      | with_reducible (first | refine wp_seq ?_ | refine wp_blk ?_ | refine wp_skip ?_ | refine wp_exit ?_ | refine wp_ret ?_ | refine seqQ_norm ?_ | refine seqQ_ret ?_ | refine seqQ_exit ?_ | refine blkQ_norm ?_ | refine blkQ_ret ?_ | refine blkQ_exit ?_ | refine loopQ_norm ?_ | refine loopQ_exit ?_ | refine loopQ_ret ?_ | refine endQ_ret ?_ | refine endQ_norm ?_ | refine endE_ret ?_ | refine endE_norm ?_ | refine endI_ret ?_ | refine endI_norm ?_)
      | (with_reducible refine wp_regK fun K hK => ?_
         simp[hw, hd, hq, l20C_all]
         repeat' (with_reducible first | refine hK _ ?_ | (refine psel ?_ ?_ <;> (intro hc; (try rw [Decidable.not_not] at hc); first | (exfalso; omega) | (try simp [hc, hw, hd, hq, l20C_all]))))
         all_goals (clear hK; clear K))
      | (with_reducible refine wp_condE ?_
         refine ⟨_, rfl, ?_, ?_⟩ <;> (intro hc; (try simp at hc); (all_goals first | (exfalso; omega) | skip))))
    all_goals first | (refine ⟨(pre ++ [d], rest, a ++ [d]), ?_, ⟨?_, ?_, ?_⟩, ?_⟩; (focus (first | (simp; done) | (simp_all; done))); (focus (simp; done)); (focus (refine Eq.trans ?_ h2; clear h2; first | (simp [*]; done) | (simp_all; done)));  (focus (simp only [List.length_append, List.length_cons, List.length_nil]; omega)); (focus (simp; done))) | (simp_all [pf500]; done) | (exfalso; omega)

@[simp] theorem t466 (k0 : Bool) (x_C_Cols : List Int) (x_C_Slots : Int) (x_C_Bufs : Int) (x_Time : Int) (x_T : Int) (x_E : Int) (x_Dd_Ver : Int) (x_Dd_L : List XRef) (x_B : List XBuf) (x_M : List Int) (x_X : List XDead) (x_P : List Int) (x_Tasks : List XTask) (x_Deeds : List XDeed) (hsm_x_C_Cols : x_C_Cols.length ≤ 1048576) (hsm_x_Dd_L : x_Dd_L.length ≤ 1048576) (hsm_x_B : x_B.length ≤ 1048576) (hsms_x_B : XBuf.sms x_B) (hsm_x_M : x_M.length ≤ 1048576) (hsm_x_X : x_X.length ≤ 1048576) (hsm_x_P : x_P.length ≤ 1048576) (hsm_x_Tasks : x_Tasks.length ≤ 1048576) (hsms_x_Tasks : XTask.sms x_Tasks) (hsm_x_Deeds : x_Deeds.length ≤ 1048576) (hsms_x_Deeds : XDeed.sms x_Deeds) : Gw TT 466 [.st [.ro k0 (.sl 1 (x_C_Cols.map ei)), .ro false (di x_C_Slots), .ro false (di x_C_Bufs), .ro false (di x_Time), .ro false (di x_T), .ro false (di x_E), .ro false (di x_Dd_Ver), .ro k0 (.sl 5 (x_Dd_L.map XRef.e)), .ro k0 (.sl 5 (x_B.map XBuf.e)), .ro k0 (.sl 1 (x_M.map ei)), .ro k0 (.sl 3 (x_X.map XDead.e)), .ro k0 (.sl 1 (x_P.map ei)), .ro k0 (.sl 25 (x_Tasks.map XTask.e)), .ro k0 (.sl 25 (x_Deeds.map XDeed.e))]] = some (.st [.own (.sl 1 (x_C_Cols.map ei)), .ro false (di x_C_Slots), .ro false (di x_C_Bufs), .ro false (di x_Time), .ro false (di x_T), .ro false (di x_E), .ro false (di x_Dd_Ver), .own (.sl 5 (x_Dd_L.map XRef.e)), .own (.sl 5 (x_B.map XBuf.e)), .own (.sl 1 (x_M.map ei)), .own (.sl 3 (x_X.map XDead.e)), .own (.sl 1 (x_P.map ei)), .own (.sl 25 (x_Tasks.map XTask.e)), .own (.sl 25 (x_Deeds.map XDeed.e))], []) := by
  refine Gw_of (F := pf466) rfl rfl ?_
  show Wp _ pb466 _ _
  unfold pb466
  have hq_x_C_Cols : (0 + x_C_Cols.length) * 8 ≤ 70368744177664 := by omega
  have hr_x_C_Cols : x_C_Cols.length * 8 ≤ 70368744177664 := by omega
  have hq_x_M : (0 + x_M.length) * 8 ≤ 70368744177664 := by omega
  have hr_x_M : x_M.length * 8 ≤ 70368744177664 := by omega
  have hq_x_X : (0 + x_X.length) * 24 ≤ 70368744177664 := by omega
  have hr_x_X : x_X.length * 24 ≤ 70368744177664 := by omega
  have hq_x_P : (0 + x_P.length) * 8 ≤ 70368744177664 := by omega
  have hr_x_P : x_P.length * 8 ≤ 70368744177664 := by omega
  repeat' first|with_reducible (first|apply Z1|apply Z2|apply Z3|apply Z4|apply Z5|apply Z6|apply Z7|apply Z8|apply Z9|apply Y1|apply Y2|apply Y3|apply Y4|apply Y5|apply Y6|apply Y7|apply Y8|apply Y9)|(with_reducible refine Xk fun K k=>?_;simp [hsm_x_C_Cols, hsm_x_Dd_L, hsm_x_B, hsms_x_B, hsm_x_M, hsm_x_X, hsm_x_P, hsm_x_Tasks, hsms_x_Tasks, hsm_x_Deeds, hsms_x_Deeds, hq_x_C_Cols, hr_x_C_Cols, hq_x_M, hr_x_M, hq_x_X, hr_x_X, hq_x_P, hr_x_P];refine k _ ?_;clear k K)|refine Xt rfl ?_|refine Xf rfl ?_
  refine wp_loopI (σ := List XTask × List XTask) (fun s => [(1, AV.bx 1 0, some (Rt.bx [.ro k0 (.sl 1 (x_C_Cols.map ei)), .ro false (di x_C_Slots), .ro false (di x_C_Bufs), .ro false (di x_Time), .ro false (di x_T), .ro false (di x_E), .ro false (di x_Dd_Ver), .ro k0 (.sl 5 (x_Dd_L.map XRef.e)), .ro k0 (.sl 5 (x_B.map XBuf.e)), .ro k0 (.sl 1 (x_M.map ei)), .ro k0 (.sl 3 (x_X.map XDead.e)), .ro k0 (.sl 1 (x_P.map ei)), .ro k0 (.sl 25 (x_Tasks.map XTask.e)), .ro k0 (.sl 25 (x_Deeds.map XDeed.e))])), (2, AV.bx 2 0, some (Rt.bx [.own (.sl 1 []), .ro false (di 0), .ro false (di 0), .ro false (di 0), .ro false (di 0), .ro false (di 0), .ro false (di 0), .own (.sl 5 []), .own (.sl 5 []), .own (.sl 1 []), .own (.sl 3 []), .own (.sl 1 []), .own (.sl 25 []), .own (.sl 25 [])])), (3, AV.bx 3 0, some (Rt.bx [.own (.sl 1 (x_C_Cols.map ei)), .ro false (di x_C_Slots), .ro false (di x_C_Bufs), .ro false (di x_Time), .ro false (di x_T), .ro false (di x_E), .ro false (di x_Dd_Ver), .own (.sl 5 (x_Dd_L.map XRef.e)), .own (.sl 5 (x_B.map XBuf.e)), .own (.sl 1 (x_M.map ei)), .own (.sl 3 (x_X.map XDead.e)), .own (.sl 1 (x_P.map ei)), .own (.sl 25 (s.1.map XTask.e)), .own (.sl 25 [])])), (48, AV.v k0 (D.sl 25 (x_Tasks.map XTask.e)), none), (49, AV.v false (di (x_Tasks.length : Nat)), none), (50, AV.v false (di ((s.1.length : Nat) : Int)), none)]) (fun s => x_Tasks = s.1 ++ s.2) (fun s => s.2.length) ([], x_Tasks) (by simp) rfl ?_
  rintro ⟨pre, rest⟩ g1
  simp only at g1
  have y3 : x_Tasks.length = pre.length + rest.length := by rw [g1, List.length_append]
  rcases rest with _ | ⟨d, rest⟩
  · simp only [List.length_nil, Nat.add_zero] at y3
    simp only [List.append_nil] at g1
    subst g1
    have y4 : ¬ ((x_Tasks.length : Nat) : Int) < (x_Tasks.length : Int) := by omega
    unfold pl466_1
    repeat' first|with_reducible (first|apply Z1|apply Z2|apply Z3|apply Z4|apply Z5|apply Z6|apply Z7|apply Z8|apply Z9|apply Y1|apply Y2|apply Y3|apply Y4|apply Y5|apply Y6|apply Y7|apply Y8|apply Y9)|(with_reducible refine Xk fun K k=>?_;simp [y4];refine k _ ?_;clear k K)|refine Xt rfl ?_|refine Xf rfl ?_
    refine wp_loopI (σ := List XDeed × List XDeed) (fun s => [(1, AV.bx 1 0, some (Rt.bx [.ro k0 (.sl 1 (x_C_Cols.map ei)), .ro false (di x_C_Slots), .ro false (di x_C_Bufs), .ro false (di x_Time), .ro false (di x_T), .ro false (di x_E), .ro false (di x_Dd_Ver), .ro k0 (.sl 5 (x_Dd_L.map XRef.e)), .ro k0 (.sl 5 (x_B.map XBuf.e)), .ro k0 (.sl 1 (x_M.map ei)), .ro k0 (.sl 3 (x_X.map XDead.e)), .ro k0 (.sl 1 (x_P.map ei)), .ro k0 (.sl 25 (x_Tasks.map XTask.e)), .ro k0 (.sl 25 (x_Deeds.map XDeed.e))])), (2, AV.bx 2 0, some (Rt.bx [.own (.sl 1 []), .ro false (di 0), .ro false (di 0), .ro false (di 0), .ro false (di 0), .ro false (di 0), .ro false (di 0), .own (.sl 5 []), .own (.sl 5 []), .own (.sl 1 []), .own (.sl 3 []), .own (.sl 1 []), .own (.sl 25 []), .own (.sl 25 [])])), (3, AV.bx 3 0, some (Rt.bx [.own (.sl 1 (x_C_Cols.map ei)), .ro false (di x_C_Slots), .ro false (di x_C_Bufs), .ro false (di x_Time), .ro false (di x_T), .ro false (di x_E), .ro false (di x_Dd_Ver), .own (.sl 5 (x_Dd_L.map XRef.e)), .own (.sl 5 (x_B.map XBuf.e)), .own (.sl 1 (x_M.map ei)), .own (.sl 3 (x_X.map XDead.e)), .own (.sl 1 (x_P.map ei)), .own (.sl 25 (x_Tasks.map XTask.e)), .own (.sl 25 (s.1.map XDeed.e))])), (63, AV.v k0 (D.sl 25 (x_Deeds.map XDeed.e)), none), (64, AV.v false (di (x_Deeds.length : Nat)), none), (65, AV.v false (di ((s.1.length : Nat) : Int)), none)]) (fun s => x_Deeds = s.1 ++ s.2) (fun s => s.2.length) ([], x_Deeds) (by simp) rfl ?_
    rintro ⟨pre, rest⟩ g1
    simp only at g1
    have y3 : x_Deeds.length = pre.length + rest.length := by rw [g1, List.length_append]
    rcases rest with _ | ⟨d, rest⟩
    · simp only [List.length_nil, Nat.add_zero] at y3
      simp only [List.append_nil] at g1
      subst g1
      have y4 : ¬ ((x_Deeds.length : Nat) : Int) < (x_Deeds.length : Int) := by omega
      unfold pl466_0
      repeat' first|with_reducible (first|apply Z1|apply Z2|apply Z3|apply Z4|apply Z5|apply Z6|apply Z7|apply Z8|apply Z9|apply Y1|apply Y2|apply Y3|apply Y4|apply Y5|apply Y6|apply Y7|apply Y8|apply Y9)|(with_reducible refine Xk fun K k=>?_;simp [y4];refine k _ ?_;clear k K)|refine Xt rfl ?_|refine Xf rfl ?_
      all_goals first | (simp [pf466]; done) | (exfalso; omega)
    · simp only [List.length_cons] at y3
      have hd := hsms_x_Deeds d (by rw [g1]; simp)
      simp only [XDeed.sm, XQuery.sm, XPred.sm_eq, XVal.sm, XResult.sm] at hd
      have hg2 : x_Deeds[pre.length]? = some d := by rw [g1]; simp
      obtain ⟨hlt, he2⟩ := List.getElem?_eq_some_iff.1 hg2
      have y4 : (pre.length : Int) < (x_Deeds.length : Int) := by omega
      have hw : IntKind.wrap .i64 ((pre.length : Int) + 1) = (pre.length : Int) + 1 := wrap_i64 (by omega) (by omega)
      have hq : (pre.length + 1) * 280 ≤ 70368744177664 := by omega
      unfold pl466_0
      repeat' first|with_reducible (first|apply Z1|apply Z2|apply Z3|apply Z4|apply Z5|apply Z6|apply Z7|apply Z8|apply Z9|apply Y1|apply Y2|apply Y3|apply Y4|apply Y5|apply Y6|apply Y7|apply Y8|apply Y9)|(with_reducible refine Xk fun K k=>?_;simp [hg2, he2, hlt, y4, hw, hq, hd];refine k _ ?_;clear k K)|refine Xt rfl ?_|refine Xf rfl ?_
      all_goals first | exact ⟨(pre ++ [d], rest), by simp, (by simp only [List.append_assoc]; exact g1), by simp⟩ | (exfalso; omega)
  · simp only [List.length_cons] at y3
    have hd := hsms_x_Tasks d (by rw [g1]; simp)
    simp only [XTask.sm, XQuery.sm, XPred.sm_eq, XVal.sm, XResult.sm] at hd
    have hg2 : x_Tasks[pre.length]? = some d := by rw [g1]; simp
    obtain ⟨hlt, he2⟩ := List.getElem?_eq_some_iff.1 hg2
    have y4 : (pre.length : Int) < (x_Tasks.length : Int) := by omega
    have hw : IntKind.wrap .i64 ((pre.length : Int) + 1) = (pre.length : Int) + 1 := wrap_i64 (by omega) (by omega)
    have hq : (pre.length + 1) * 288 ≤ 70368744177664 := by omega
    unfold pl466_1
    repeat' first|with_reducible (first|apply Z1|apply Z2|apply Z3|apply Z4|apply Z5|apply Z6|apply Z7|apply Z8|apply Z9|apply Y1|apply Y2|apply Y3|apply Y4|apply Y5|apply Y6|apply Y7|apply Y8|apply Y9)|(with_reducible refine Xk fun K k=>?_;simp [hg2, he2, hlt, y4, hw, hq, hd];refine k _ ?_;clear k K)|refine Xt rfl ?_|refine Xf rfl ?_
    all_goals first | exact ⟨(pre ++ [d], rest), by simp, (by simp only [List.append_assoc]; exact g1), by simp⟩ | (exfalso; omega)

@[simp] theorem t464 (k0 : Bool) (x_C_Cols : List Int) (x_C_Slots : Int) (x_C_Bufs : Int) (x_Time : Int) (x_T : Int) (x_E : Int) (x_Dd_Ver : Int) (x_Dd_L : List XRef) (x_B : List XBuf) (x_M : List Int) (x_X : List XDead) (x_P : List Int) (x_Tasks : List XTask) (x_Deeds : List XDeed) (hsm_x_C_Cols : x_C_Cols.length ≤ 1048576) (hsm_x_Dd_L : x_Dd_L.length ≤ 1048576) (hsm_x_B : x_B.length ≤ 1048576) (hsms_x_B : XBuf.sms x_B) (hsm_x_M : x_M.length ≤ 1048576) (hsm_x_X : x_X.length ≤ 1048576) (hsm_x_P : x_P.length ≤ 1048576) (hsm_x_Tasks : x_Tasks.length ≤ 1048576) (hsms_x_Tasks : XTask.sms x_Tasks) (hsm_x_Deeds : x_Deeds.length ≤ 1048576) (hsms_x_Deeds : XDeed.sms x_Deeds) : Gw TT 464 [.st [.ro k0 (.sl 1 (x_C_Cols.map ei)), .ro false (di x_C_Slots), .ro false (di x_C_Bufs), .ro false (di x_Time), .ro false (di x_T), .ro false (di x_E), .ro false (di x_Dd_Ver), .ro k0 (.sl 5 (x_Dd_L.map XRef.e)), .ro k0 (.sl 5 (x_B.map XBuf.e)), .ro k0 (.sl 1 (x_M.map ei)), .ro k0 (.sl 3 (x_X.map XDead.e)), .ro k0 (.sl 1 (x_P.map ei)), .ro k0 (.sl 25 (x_Tasks.map XTask.e)), .ro k0 (.sl 25 (x_Deeds.map XDeed.e))]] = some (.st [.own (.sl 1 (x_C_Cols.map ei)), .ro false (di x_C_Slots), .ro false (di x_C_Bufs), .ro false (di x_Time), .ro false (di x_T), .ro false (di x_E), .ro false (di x_Dd_Ver), .own (.sl 5 (x_Dd_L.map XRef.e)), .own (.sl 5 (x_B.map XBuf.e)), .own (.sl 1 (x_M.map ei)), .own (.sl 3 (x_X.map XDead.e)), .own (.sl 1 (x_P.map ei)), .own (.sl 25 (x_Tasks.map XTask.e)), .own (.sl 25 (x_Deeds.map XDeed.e))], []) := by
  refine Gw_of (F := pf464) rfl rfl ?_
  show Wp _ pb464 _ _
  unfold pb464
  have hq_x_C_Cols : (0 + x_C_Cols.length) * 8 ≤ 70368744177664 := by omega
  have hr_x_C_Cols : x_C_Cols.length * 8 ≤ 70368744177664 := by omega
  have hq_x_M : (0 + x_M.length) * 8 ≤ 70368744177664 := by omega
  have hr_x_M : x_M.length * 8 ≤ 70368744177664 := by omega
  have hq_x_X : (0 + x_X.length) * 24 ≤ 70368744177664 := by omega
  have hr_x_X : x_X.length * 24 ≤ 70368744177664 := by omega
  have hq_x_P : (0 + x_P.length) * 8 ≤ 70368744177664 := by omega
  have hr_x_P : x_P.length * 8 ≤ 70368744177664 := by omega
  repeat' first|with_reducible (first|apply Z1|apply Z2|apply Z3|apply Z4|apply Z5|apply Z6|apply Z7|apply Z8|apply Z9|apply Y1|apply Y2|apply Y3|apply Y4|apply Y5|apply Y6|apply Y7|apply Y8|apply Y9)|(with_reducible refine Xk fun K k=>?_;simp [hsm_x_C_Cols, hsm_x_Dd_L, hsm_x_B, hsms_x_B, hsm_x_M, hsm_x_X, hsm_x_P, hsm_x_Tasks, hsms_x_Tasks, hsm_x_Deeds, hsms_x_Deeds, hq_x_C_Cols, hr_x_C_Cols, hq_x_M, hr_x_M, hq_x_X, hr_x_X, hq_x_P, hr_x_P];refine k _ ?_;clear k K)|refine Xt rfl ?_|refine Xf rfl ?_
  refine wp_loopI (σ := List XTask × List XTask) (fun s => [(1, AV.bx 1 0, some (Rt.bx [.ro k0 (.sl 1 (x_C_Cols.map ei)), .ro false (di x_C_Slots), .ro false (di x_C_Bufs), .ro false (di x_Time), .ro false (di x_T), .ro false (di x_E), .ro false (di x_Dd_Ver), .ro k0 (.sl 5 (x_Dd_L.map XRef.e)), .ro k0 (.sl 5 (x_B.map XBuf.e)), .ro k0 (.sl 1 (x_M.map ei)), .ro k0 (.sl 3 (x_X.map XDead.e)), .ro k0 (.sl 1 (x_P.map ei)), .ro k0 (.sl 25 (x_Tasks.map XTask.e)), .ro k0 (.sl 25 (x_Deeds.map XDeed.e))])), (2, AV.bx 2 0, some (Rt.bx [.own (.sl 1 []), .ro false (di 0), .ro false (di 0), .ro false (di 0), .ro false (di 0), .ro false (di 0), .ro false (di 0), .own (.sl 5 []), .own (.sl 5 []), .own (.sl 1 []), .own (.sl 3 []), .own (.sl 1 []), .own (.sl 25 []), .own (.sl 25 [])])), (3, AV.bx 3 0, some (Rt.bx [.own (.sl 1 (x_C_Cols.map ei)), .ro false (di x_C_Slots), .ro false (di x_C_Bufs), .ro false (di x_Time), .ro false (di x_T), .ro false (di x_E), .ro false (di x_Dd_Ver), .own (.sl 5 (x_Dd_L.map XRef.e)), .own (.sl 5 (x_B.map XBuf.e)), .own (.sl 1 (x_M.map ei)), .own (.sl 3 (x_X.map XDead.e)), .own (.sl 1 (x_P.map ei)), .own (.sl 25 (s.1.map XTask.e)), .ro k0 (.sl 25 (x_Deeds.map XDeed.e))])), (5, AV.v false (di ((s.1.length : Nat) : Int)), none)]) (fun s => x_Tasks = s.1 ++ s.2) (fun s => s.2.length) ([], x_Tasks) (by simp) rfl ?_
  rintro ⟨pre, rest⟩ g1
  simp only at g1
  have y3 : x_Tasks.length = pre.length + rest.length := by rw [g1, List.length_append]
  rcases rest with _ | ⟨d, rest⟩
  · simp only [List.length_nil, Nat.add_zero] at y3
    simp only [List.append_nil] at g1
    subst g1
    have y4 : ¬ ((x_Tasks.length : Nat) : Int) < (x_Tasks.length : Int) := by omega
    unfold pl464_0
    repeat' first|with_reducible (first|apply Z1|apply Z2|apply Z3|apply Z4|apply Z5|apply Z6|apply Z7|apply Z8|apply Z9|apply Y1|apply Y2|apply Y3|apply Y4|apply Y5|apply Y6|apply Y7|apply Y8|apply Y9)|(with_reducible refine Xk fun K k=>?_;simp [y4, hsm_x_C_Cols, hsm_x_Dd_L, hsm_x_B, hsms_x_B, hsm_x_M, hsm_x_X, hsm_x_P, hsm_x_Tasks, hsms_x_Tasks, hsm_x_Deeds, hsms_x_Deeds, hq_x_C_Cols, hr_x_C_Cols, hq_x_M, hr_x_M, hq_x_X, hr_x_X, hq_x_P, hr_x_P];refine k _ ?_;clear k K)|refine Xt rfl ?_|refine Xf rfl ?_
    all_goals first | (simp [pf464]; done) | (exfalso; omega)
  · simp only [List.length_cons] at y3
    have hd := hsms_x_Tasks d (by rw [g1]; simp)
    simp only [XTask.sm, XQuery.sm, XPred.sm_eq, XVal.sm, XResult.sm] at hd
    have hg2 : x_Tasks[pre.length]? = some d := by rw [g1]; simp
    obtain ⟨hlt, he2⟩ := List.getElem?_eq_some_iff.1 hg2
    have y4 : (pre.length : Int) < (x_Tasks.length : Int) := by omega
    have hw : IntKind.wrap .i64 ((pre.length : Int) + 1) = (pre.length : Int) + 1 := wrap_i64 (by omega) (by omega)
    have hq : (pre.length + 1) * 288 ≤ 70368744177664 := by omega
    unfold pl464_0
    repeat' first|with_reducible (first|apply Z1|apply Z2|apply Z3|apply Z4|apply Z5|apply Z6|apply Z7|apply Z8|apply Z9|apply Y1|apply Y2|apply Y3|apply Y4|apply Y5|apply Y6|apply Y7|apply Y8|apply Y9)|(with_reducible refine Xk fun K k=>?_;simp [hg2, he2, hlt, y4, hw, hq, hd];refine k _ ?_;clear k K)|refine Xt rfl ?_|refine Xf rfl ?_
    all_goals first | exact ⟨(pre ++ [d], rest), by simp, (by simp only [List.append_assoc]; exact g1), by simp⟩ | (exfalso; omega)

theorem t1068_yes (x_C_Cols : List Int) (x_C_Slots : Int) (x_C_Bufs : Int) (x_Time : Int) (x_T : Int) (x_E : Int) (x_Dd_Ver : Int) (x_Dd_L : List XRef) (x_B : List XBuf) (x_M : List Int) (x_X : List XDead) (x_P : List Int) (x_Tasks : List XTask) (x_Deeds : List XDeed) (r_Buf : Int) (r_Gen : Int) (r_Kind : Int) (r_First : Int) (r_Many : Int) (h : x_B.length ≤ 1048576) (hc : isChunkB x_B ⟨r_Buf, r_Gen, r_Kind, r_First, r_Many⟩ = true) (b : XBuf) (hb : x_B[r_Buf.toNat]? = some b) :
    Gw TT 1068 [.st [.own (.sl 1 (x_C_Cols.map ei)), .ro false (di x_C_Slots), .ro false (di x_C_Bufs), .ro false (di x_Time), .ro false (di x_T), .ro false (di x_E), .ro false (di x_Dd_Ver), .own (.sl 5 (x_Dd_L.map XRef.e)), .own (.sl 5 (x_B.map XBuf.e)), .own (.sl 1 (x_M.map ei)), .own (.sl 3 (x_X.map XDead.e)), .own (.sl 1 (x_P.map ei)), .own (.sl 25 (x_Tasks.map XTask.e)), .own (.sl 25 (x_Deeds.map XDeed.e))], .st [.ro false (di r_Buf), .ro false (di r_Gen), .ro false (di r_Kind), .ro false (di r_First), .ro false (di r_Many)]] = some (.tup [.st [.ro false (di b.C.Next), .own (.sl 2 (b.C.L.map XSlot.e))], vb true], [(0, 0, .own (.sl 1 (x_C_Cols.map ei))), (0, 7, .own (.sl 5 (x_Dd_L.map XRef.e))), (0, 8, .own (.sl 5 ((x_B.map XBuf.e).set r_Buf.toNat [di b.Gen, di b.Kind, di b.C.Next, .dead, .sl 1 (b.G.map eb)]))), (0, 9, .own (.sl 1 (x_M.map ei))), (0, 10, .own (.sl 3 (x_X.map XDead.e))), (0, 11, .own (.sl 1 (x_P.map ei))), (0, 12, .own (.sl 25 (x_Tasks.map XTask.e))), (0, 13, .own (.sl 25 (x_Deeds.map XDeed.e)))]) := by
  have hc2 := hc
  simp only [isChunkB, Bool.and_eq_true, beq_iff_eq] at hc2
  obtain ⟨hk, ht⟩ := hc2
  obtain ⟨_, _, hb0, hb1, _⟩ := isChunk_at hc
  simp only at hb0 hb1
  obtain ⟨hlt, he⟩ := List.getElem?_eq_some_iff.1 hb
  refine Gw_of (F := pf1068) rfl rfl ?_
  show Wp _ pb1068 _ _
  unfold pb1068
  repeat' first|with_reducible (first|apply Z1|apply Z2|apply Z3|apply Z4|apply Z5|apply Z6|apply Z7|apply Z8|apply Z9|apply Y1|apply Y2|apply Y3|apply Y4|apply Y5|apply Y6|apply Y7|apply Y8|apply Y9)|(with_reducible refine Xk fun K k=>?_;simp [h, ht, hk, hb0, hb1, he, hb];repeat' (with_reducible first|refine k _ ?_|(refine psel ?_ ?_<;>(intro hc;(try rw [Decidable.not_not] at hc);first|(exfalso;omega)|(try simp [hc, h, ht, hk, hb0, hb1, he, hb]))));all_goals clear k K)|refine Xt rfl ?_|refine Xf rfl ?_|(with_reducible refine wp_condE ?_;refine ⟨_,rfl,?_,?_⟩<;>(intro hc;(try simp at hc);(all_goals first|(exfalso;omega)|skip)))
  all_goals first | (simp [pf1068, he]; done) | (exfalso; omega) | (simp_all; done) | skip

theorem putOfF_rng (e : Int) : ∀ (l : List XDeed) (i : Int), putOfF e i l = -1 ∨ (i ≤ putOfF e i l ∧ putOfF e i l < i + (l.length : Int))
  | [], i => .inl rfl
  | d :: l, i => by
    simp only [putOfF]
    split
    · right; simp; omega
    · have := putOfF_rng e l (i + 1)
      simp only [List.length_cons]; omega

def stampOk (B : List XBuf) (r : XRef) (i s : Int) : Bool := isChunkB B r && (match B[r.Buf.toNat]? with
  | some b => stSlotB i s b.C.L
  | none => false)

def stampBs (B : List XBuf) (n : Nat) (i s : Int) : List XBuf := match B[n]? with
  | some b => B.set n ⟨b.Gen, b.Kind, ⟨b.C.Next, stSlotL i s b.C.L⟩, b.G⟩
  | none => B

def stampDs (D : List XDeed) (h s u : Int) : List XDeed := if 0 ≤ h then (match D[h.toNat]? with
  | some d => D.set h.toNat ⟨d.Op, d.Task, d.R, d.Id, d.Q, d.Res, 1, s, d.Inv, u, d.Ret⟩
  | none => D) else D

theorem stampOk_get {B : List XBuf} {r : XRef} {i s : Int} (h : stampOk B r i s = true) : ∃ b, isChunkB B r = true ∧ B[r.Buf.toNat]? = some b ∧ stSlotB i s b.C.L = true := by
  simp only [stampOk, Bool.and_eq_true] at h
  obtain ⟨h1, h2⟩ := h
  obtain ⟨b, hb, _⟩ := isChunk_at h1
  rw [hb] at h2
  exact ⟨b, h1, hb, h2⟩

theorem stampOk_no {B : List XBuf} {r : XRef} {i s : Int} (h : stampOk B r i s = false) : isChunkB B r = false ∨ ∃ b, isChunkB B r = true ∧ B[r.Buf.toNat]? = some b ∧ stSlotB i s b.C.L = false := by
  cases h1 : isChunkB B r with
  | false => exact .inl rfl
  | true =>
    obtain ⟨b, hb, _⟩ := isChunk_at h1
    simp only [stampOk, h1, hb, Bool.true_and] at h
    exact .inr ⟨b, rfl, hb, h⟩

theorem t469_yes (x_C_Cols : List Int) (x_C_Slots : Int) (x_C_Bufs : Int) (x_Time : Int) (x_T : Int) (x_E : Int) (x_Dd_Ver : Int) (x_Dd_L : List XRef) (x_B : List XBuf) (x_M : List Int) (x_X : List XDead) (x_P : List Int) (x_Tasks : List XTask) (x_Deeds : List XDeed) (r_Buf : Int) (r_Gen : Int) (r_Kind : Int) (r_First : Int) (r_Many : Int) (i s u : Int) (h : x_B.length ≤ 1048576) (hs : XBuf.sms x_B) (hd : x_Deeds.length ≤ 1048576) (hok : stampOk x_B ⟨r_Buf, r_Gen, r_Kind, r_First, r_Many⟩ i s = true) :
    Gw TT 469 [.ptr [.own (.sl 1 (x_C_Cols.map ei)), .ro false (di x_C_Slots), .ro false (di x_C_Bufs), .ro false (di x_Time), .ro false (di x_T), .ro false (di x_E), .ro false (di x_Dd_Ver), .own (.sl 5 (x_Dd_L.map XRef.e)), .own (.sl 5 (x_B.map XBuf.e)), .own (.sl 1 (x_M.map ei)), .own (.sl 3 (x_X.map XDead.e)), .own (.sl 1 (x_P.map ei)), .own (.sl 25 (x_Tasks.map XTask.e)), .own (.sl 25 (x_Deeds.map XDeed.e))], .st [.ro false (di r_Buf), .ro false (di r_Gen), .ro false (di r_Kind), .ro false (di r_First), .ro false (di r_Many)], vi i, vi s, vi u] = some (vb true, [(0, 0, .own (.sl 1 (x_C_Cols.map ei))), (0, 1, .ro false (di x_C_Slots)), (0, 2, .ro false (di x_C_Bufs)), (0, 3, .ro false (di x_Time)), (0, 4, .ro false (di x_T)), (0, 5, .ro false (di x_E)), (0, 6, .ro false (di x_Dd_Ver)), (0, 7, .own (.sl 5 (x_Dd_L.map XRef.e))), (0, 8, .own (.sl 5 ((stampBs x_B r_Buf.toNat i s).map XBuf.e))), (0, 9, .own (.sl 1 (x_M.map ei))), (0, 10, .own (.sl 3 (x_X.map XDead.e))), (0, 11, .own (.sl 1 (x_P.map ei))), (0, 12, .own (.sl 25 (x_Tasks.map XTask.e))), (0, 13, .own (.sl 25 ((stampDs x_Deeds (putOfF (IntKind.wrap .i64 (r_First + i)) 0 x_Deeds) s u).map XDeed.e)))]) := by
  obtain ⟨b, hch, hb, hst⟩ := stampOk_get hok
  simp only at hb
  have hc2 := hch
  simp only [isChunkB, Bool.and_eq_true, beq_iff_eq] at hc2
  obtain ⟨hk, ht⟩ := hc2
  subst hk
  obtain ⟨_, _, hb0, hb1, hbm⟩ := isChunk_at hch
  simp only at hb0 hb1
  obtain ⟨hlt, he⟩ := List.getElem?_eq_some_iff.1 hb
  have hbs := hs b (List.mem_of_getElem? hb)
  simp only [XBuf.sm, XChunk.sm] at hbs
  obtain ⟨⟨hbs1, hbs2⟩, _⟩ := hbs
  have hr := putOfF_rng (IntKind.wrap .i64 (r_First + i)) x_Deeds 0
  generalize hh : putOfF (IntKind.wrap .i64 (r_First + i)) 0 x_Deeds = hv at hr ⊢
  have e1 : stampBs x_B r_Buf.toNat i s = x_B.set r_Buf.toNat ⟨b.Gen, b.Kind, ⟨b.C.Next, stSlotL i s b.C.L⟩, b.G⟩ := by simp [stampBs, hb]
  refine Gw_of (F := pf469) rfl rfl ?_
  show Wp _ pb469 _ _
  unfold pb469
  by_cases hp : 0 ≤ hv
  · have hdl : hv.toNat < x_Deeds.length := by omega
    obtain ⟨d, hdg⟩ : ∃ d, x_Deeds[hv.toNat]? = some d := ⟨_, List.getElem?_eq_getElem hdl⟩
    have hde : x_Deeds[hv.toNat] = d := (List.getElem?_eq_some_iff.1 hdg).2
    have hdi : hv < (x_Deeds.length : Int) := by omega
    have e2 : stampDs x_Deeds hv s u = x_Deeds.set hv.toNat ⟨d.Op, d.Task, d.R, d.Id, d.Q, d.Res, 1, s, d.Inv, u, d.Ret⟩ := by simp [stampDs, hp, hdg]
    repeat' first|with_reducible (first|apply Z1|apply Z2|apply Z3|apply Z4|apply Z5|apply Z6|apply Z7|apply Z8|apply Z9|apply Y1|apply Y2|apply Y3|apply Y4|apply Y5|apply Y6|apply Y7|apply Y8|apply Y9)|(with_reducible refine Xk fun K k=>?_;simp [h, hd, t1068_yes x_C_Cols x_C_Slots x_C_Bufs x_Time x_T x_E x_Dd_Ver x_Dd_L x_B x_M x_X x_P x_Tasks x_Deeds r_Buf r_Gen 1 r_First r_Many h hch b hb, ht, hb0, hb1, he, hb, hlt, hbs1, hbs2, hst, hh, hp, hdl, hdg, hde, hdi];refine k _ ?_;clear k K)|refine Xt rfl ?_|refine Xf rfl ?_
    all_goals first | (simp [pf469, e1, e2]; done) | (exfalso; omega) | (simp_all [pf469, e1, e2]; done)
  · have e2 : stampDs x_Deeds hv s u = x_Deeds := by simp [stampDs, hp]
    repeat' first|with_reducible (first|apply Z1|apply Z2|apply Z3|apply Z4|apply Z5|apply Z6|apply Z7|apply Z8|apply Z9|apply Y1|apply Y2|apply Y3|apply Y4|apply Y5|apply Y6|apply Y7|apply Y8|apply Y9)|(with_reducible refine Xk fun K k=>?_;simp [h, hd, t1068_yes x_C_Cols x_C_Slots x_C_Bufs x_Time x_T x_E x_Dd_Ver x_Dd_L x_B x_M x_X x_P x_Tasks x_Deeds r_Buf r_Gen 1 r_First r_Many h hch b hb, ht, hb0, hb1, he, hb, hlt, hbs1, hbs2, hst, hh, hp];refine k _ ?_;clear k K)|refine Xt rfl ?_|refine Xf rfl ?_
    all_goals first | (simp [pf469, e1, e2]; done) | (exfalso; omega) | (simp_all [pf469, e1, e2]; done)

theorem t468_yes (x_C_Cols : List Int) (x_C_Slots : Int) (x_C_Bufs : Int) (x_Time : Int) (x_T : Int) (x_E : Int) (x_Dd_Ver : Int) (x_Dd_L : List XRef) (x_B : List XBuf) (x_M : List Int) (x_X : List XDead) (x_P : List Int) (x_Tasks : List XTask) (x_Deeds : List XDeed) (r_Buf : Int) (r_Gen : Int) (r_Kind : Int) (r_First : Int) (r_Many : Int) (i s u : Int) (h : x_B.length ≤ 1048576) (hs : XBuf.sms x_B) (hd : x_Deeds.length ≤ 1048576) (hok : stampOk x_B ⟨r_Buf, r_Gen, r_Kind, r_First, r_Many⟩ i s = true) :
    Gw TT 468 [.ptr [.own (.sl 1 (x_C_Cols.map ei)), .ro false (di x_C_Slots), .ro false (di x_C_Bufs), .ro false (di x_Time), .ro false (di x_T), .ro false (di x_E), .ro false (di x_Dd_Ver), .own (.sl 5 (x_Dd_L.map XRef.e)), .own (.sl 5 (x_B.map XBuf.e)), .own (.sl 1 (x_M.map ei)), .own (.sl 3 (x_X.map XDead.e)), .own (.sl 1 (x_P.map ei)), .own (.sl 25 (x_Tasks.map XTask.e)), .own (.sl 25 (x_Deeds.map XDeed.e))], .st [.ro false (di r_Buf), .ro false (di r_Gen), .ro false (di r_Kind), .ro false (di r_First), .ro false (di r_Many)], vi i, vi s, vi u] = some (vb true, [(0, 0, .own (.sl 1 (x_C_Cols.map ei))), (0, 1, .ro false (di x_C_Slots)), (0, 2, .ro false (di x_C_Bufs)), (0, 3, .ro false (di x_Time)), (0, 4, .ro false (di x_T)), (0, 5, .ro false (di x_E)), (0, 6, .ro false (di x_Dd_Ver)), (0, 7, .own (.sl 5 (x_Dd_L.map XRef.e))), (0, 8, .own (.sl 5 ((stampBs x_B r_Buf.toNat i s).map XBuf.e))), (0, 9, .own (.sl 1 (x_M.map ei))), (0, 10, .own (.sl 3 (x_X.map XDead.e))), (0, 11, .own (.sl 1 (x_P.map ei))), (0, 12, .own (.sl 25 (x_Tasks.map XTask.e))), (0, 13, .own (.sl 25 ((stampDs x_Deeds (putOfF (IntKind.wrap .i64 (r_First + i)) 0 x_Deeds) s u).map XDeed.e)))]) := by
  obtain ⟨b, hch, hb, hst⟩ := stampOk_get hok
  simp only at hb
  have hc2 := hch
  simp only [isChunkB, Bool.and_eq_true, beq_iff_eq] at hc2
  obtain ⟨hk, ht⟩ := hc2
  subst hk
  obtain ⟨_, _, hb0, hb1, hbm⟩ := isChunk_at hch
  simp only at hb0 hb1
  obtain ⟨hlt, he⟩ := List.getElem?_eq_some_iff.1 hb
  have hbs := hs b (List.mem_of_getElem? hb)
  simp only [XBuf.sm, XChunk.sm] at hbs
  obtain ⟨⟨hbs1, hbs2⟩, _⟩ := hbs
  have hr := putOfF_rng (IntKind.wrap .i64 (r_First + i)) x_Deeds 0
  generalize hh : putOfF (IntKind.wrap .i64 (r_First + i)) 0 x_Deeds = hv at hr ⊢
  have e1 : stampBs x_B r_Buf.toNat i s = x_B.set r_Buf.toNat ⟨b.Gen, b.Kind, ⟨b.C.Next, stSlotL i s b.C.L⟩, b.G⟩ := by simp [stampBs, hb]
  refine Gw_of (F := pf468) rfl rfl ?_
  show Wp _ pb468 _ _
  unfold pb468
  by_cases hp : 0 ≤ hv
  · have hdl : hv.toNat < x_Deeds.length := by omega
    obtain ⟨d, hdg⟩ : ∃ d, x_Deeds[hv.toNat]? = some d := ⟨_, List.getElem?_eq_getElem hdl⟩
    have hde : x_Deeds[hv.toNat] = d := (List.getElem?_eq_some_iff.1 hdg).2
    have hdi : hv < (x_Deeds.length : Int) := by omega
    have e2 : stampDs x_Deeds hv s u = x_Deeds.set hv.toNat ⟨d.Op, d.Task, d.R, d.Id, d.Q, d.Res, 1, s, d.Inv, u, d.Ret⟩ := by simp [stampDs, hp, hdg]
    repeat' first|with_reducible (first|apply Z1|apply Z2|apply Z3|apply Z4|apply Z5|apply Z6|apply Z7|apply Z8|apply Z9|apply Y1|apply Y2|apply Y3|apply Y4|apply Y5|apply Y6|apply Y7|apply Y8|apply Y9)|(with_reducible refine Xk fun K k=>?_;simp [h, hd, ht, hb0, hb1, he, hb, hlt, hbs1, hbs2, hst, hh, hp, hdl, hdg, hde, hdi];refine k _ ?_;clear k K)|refine Xt rfl ?_|refine Xf rfl ?_
    all_goals first | (simp [pf468, e1, e2]; done) | (exfalso; omega) | (simp_all [pf468, e1, e2]; done)
  · have e2 : stampDs x_Deeds hv s u = x_Deeds := by simp [stampDs, hp]
    repeat' first|with_reducible (first|apply Z1|apply Z2|apply Z3|apply Z4|apply Z5|apply Z6|apply Z7|apply Z8|apply Z9|apply Y1|apply Y2|apply Y3|apply Y4|apply Y5|apply Y6|apply Y7|apply Y8|apply Y9)|(with_reducible refine Xk fun K k=>?_;simp [h, hd, ht, hb0, hb1, he, hb, hlt, hbs1, hbs2, hst, hh, hp];refine k _ ?_;clear k K)|refine Xt rfl ?_|refine Xf rfl ?_
    all_goals first | (simp [pf468, e1, e2]; done) | (exfalso; omega) | (simp_all [pf468, e1, e2]; done)

theorem t1469_no (k0 : Bool) (x_C_Cols : List Int) (x_C_Slots : Int) (x_C_Bufs : Int) (x_Time : Int) (x_T : Int) (x_E : Int) (x_Dd_Ver : Int) (x_Dd_L : List XRef) (x_B : List XBuf) (x_M : List Int) (x_X : List XDead) (x_P : List Int) (x_Tasks : List XTask) (x_Deeds : List XDeed) (r_Buf : Int) (r_Gen : Int) (r_Kind : Int) (r_First : Int) (r_Many : Int) (i s u : Int) (h : x_B.length ≤ 1048576) (hs : XBuf.sms x_B) (hd : x_Deeds.length ≤ 1048576) (hok : stampOk x_B ⟨r_Buf, r_Gen, r_Kind, r_First, r_Many⟩ i s = false) :
    Gw TT 1469 [.one (.ro k0 (.rp [.sl 1 (x_C_Cols.map ei), di x_C_Slots, di x_C_Bufs, di x_Time, di x_T, di x_E, di x_Dd_Ver, .sl 5 (x_Dd_L.map XRef.e), .sl 5 (x_B.map XBuf.e), .sl 1 (x_M.map ei), .sl 3 (x_X.map XDead.e), .sl 1 (x_P.map ei), .sl 25 (x_Tasks.map XTask.e), .sl 25 (x_Deeds.map XDeed.e)])), .st [.ro false (di r_Buf), .ro false (di r_Gen), .ro false (di r_Kind), .ro false (di r_First), .ro false (di r_Many)], vi i, vi s, vi u] = some (vb false, []) := by
  refine Gw_of (F := pf1469) rfl rfl ?_
  show Wp _ pb1469 _ _
  unfold pb1469
  rcases stampOk_no hok with hch | ⟨b, hch, hb, hst⟩
  · have hc2 := hch
    simp only [isChunkB, Bool.and_eq_false_iff] at hc2
    repeat' first|with_reducible (first|apply Z1|apply Z2|apply Z3|apply Z4|apply Z5|apply Z6|apply Z7|apply Z8|apply Z9|apply Y1|apply Y2|apply Y3|apply Y4|apply Y5|apply Y6|apply Y7|apply Y8|apply Y9)|(with_reducible refine Xk fun K k=>?_;simp [t68_no k0 x_C_Cols x_C_Slots x_C_Bufs x_Time x_T x_E x_Dd_Ver x_Dd_L x_B x_M x_X x_P x_Tasks x_Deeds r_Buf r_Gen r_Kind r_First r_Many h hch, h];refine k _ ?_;clear k K)|refine Xt rfl ?_|refine Xf rfl ?_
    all_goals first | (simp [pf1469]; done) | (exfalso; omega) | (exfalso; simp_all; done) | (simp_all [pf1469]; done)
  · simp only at hb
    have hc2 := hch
    simp only [isChunkB, Bool.and_eq_true, beq_iff_eq] at hc2
    obtain ⟨hk, ht⟩ := hc2
    subst hk
    obtain ⟨_, _, hb0, hb1, hbm⟩ := isChunk_at hch
    simp only at hb0 hb1
    obtain ⟨hlt, he⟩ := List.getElem?_eq_some_iff.1 hb
    have hbs := hs b (List.mem_of_getElem? hb)
    simp only [XBuf.sm, XChunk.sm] at hbs
    obtain ⟨⟨hbs1, hbs2⟩, _⟩ := hbs
    repeat' first|with_reducible (first|apply Z1|apply Z2|apply Z3|apply Z4|apply Z5|apply Z6|apply Z7|apply Z8|apply Z9|apply Y1|apply Y2|apply Y3|apply Y4|apply Y5|apply Y6|apply Y7|apply Y8|apply Y9)|(with_reducible refine Xk fun K k=>?_;simp [t68_yes k0 x_C_Cols x_C_Slots x_C_Bufs x_Time x_T x_E x_Dd_Ver x_Dd_L x_B x_M x_X x_P x_Tasks x_Deeds r_Buf r_Gen 1 r_First r_Many h hch b hb, h, ht, hb0, hb1, he, hb, hlt, hbs1, hbs2, hst];refine k _ ?_;clear k K)|refine Xt rfl ?_|refine Xf rfl ?_
    all_goals first | (simp [pf1469]; done) | (exfalso; omega) | (exfalso; simp_all; done) | (simp_all [pf1469]; done)

theorem t468_no (x_C_Cols : List Int) (x_C_Slots : Int) (x_C_Bufs : Int) (x_Time : Int) (x_T : Int) (x_E : Int) (x_Dd_Ver : Int) (x_Dd_L : List XRef) (x_B : List XBuf) (x_M : List Int) (x_X : List XDead) (x_P : List Int) (x_Tasks : List XTask) (x_Deeds : List XDeed) (r_Buf : Int) (r_Gen : Int) (r_Kind : Int) (r_First : Int) (r_Many : Int) (i s u : Int) (h : x_B.length ≤ 1048576) (hs : XBuf.sms x_B) (hd : x_Deeds.length ≤ 1048576) (hok : stampOk x_B ⟨r_Buf, r_Gen, r_Kind, r_First, r_Many⟩ i s = false) :
    Gw TT 468 [.ptr [.own (.sl 1 (x_C_Cols.map ei)), .ro false (di x_C_Slots), .ro false (di x_C_Bufs), .ro false (di x_Time), .ro false (di x_T), .ro false (di x_E), .ro false (di x_Dd_Ver), .own (.sl 5 (x_Dd_L.map XRef.e)), .own (.sl 5 (x_B.map XBuf.e)), .own (.sl 1 (x_M.map ei)), .own (.sl 3 (x_X.map XDead.e)), .own (.sl 1 (x_P.map ei)), .own (.sl 25 (x_Tasks.map XTask.e)), .own (.sl 25 (x_Deeds.map XDeed.e))], .st [.ro false (di r_Buf), .ro false (di r_Gen), .ro false (di r_Kind), .ro false (di r_First), .ro false (di r_Many)], vi i, vi s, vi u] = some (vb false, [(0, 0, .own (.sl 1 (x_C_Cols.map ei))), (0, 1, .ro false (di x_C_Slots)), (0, 2, .ro false (di x_C_Bufs)), (0, 3, .ro false (di x_Time)), (0, 4, .ro false (di x_T)), (0, 5, .ro false (di x_E)), (0, 6, .ro false (di x_Dd_Ver)), (0, 7, .own (.sl 5 (x_Dd_L.map XRef.e))), (0, 8, .own (.sl 5 (x_B.map XBuf.e))), (0, 9, .own (.sl 1 (x_M.map ei))), (0, 10, .own (.sl 3 (x_X.map XDead.e))), (0, 11, .own (.sl 1 (x_P.map ei))), (0, 12, .own (.sl 25 (x_Tasks.map XTask.e))), (0, 13, .own (.sl 25 (x_Deeds.map XDeed.e)))]) := by
  refine Gw_of (F := pf468) rfl rfl ?_
  show Wp _ pb468 _ _
  unfold pb468
  rcases stampOk_no hok with hch | ⟨b, hch, hb, hst⟩
  · have hc2 := hch
    simp only [isChunkB, Bool.and_eq_false_iff] at hc2
    repeat' (first
      | with_reducible (first | refine wp_seq ?_ | refine wp_blk ?_ | refine wp_skip ?_ | refine wp_exit ?_ | refine wp_ret ?_ | refine seqQ_norm ?_ | refine seqQ_ret ?_ | refine seqQ_exit ?_ | refine blkQ_norm ?_ | refine blkQ_ret ?_ | refine blkQ_exit ?_ | refine loopQ_norm ?_ | refine loopQ_exit ?_ | refine loopQ_ret ?_ | refine endQ_ret ?_ | refine endQ_norm ?_ | refine endE_ret ?_ | refine endE_norm ?_ | refine endI_ret ?_ | refine endI_norm ?_)
      | (with_reducible refine wp_regK fun K hK => ?_
         simp[h]
         repeat' (with_reducible first | refine hK _ ?_ | (refine psel ?_ ?_ <;> (intro hc; (try rw [Decidable.not_not] at hc); first | (exfalso; omega) | (try simp [hc, h]))))
         all_goals (clear hK; clear K))
      | (with_reducible refine wp_condE ?_
         refine ⟨_, rfl, ?_, ?_⟩ <;> (intro hc; (try simp at hc); (all_goals first | (exfalso; omega) | skip))))
    all_goals first | (simp [pf468]; done) | (exfalso; omega) | (exfalso; simp_all; done) | (simp_all [pf468]; done)
  · simp only at hb
    have hc2 := hch
    simp only [isChunkB, Bool.and_eq_true, beq_iff_eq] at hc2
    obtain ⟨hk, ht⟩ := hc2
    subst hk
    obtain ⟨_, _, hb0, hb1, hbm⟩ := isChunk_at hch
    simp only at hb0 hb1
    obtain ⟨hlt, he⟩ := List.getElem?_eq_some_iff.1 hb
    have hbs := hs b (List.mem_of_getElem? hb)
    simp only [XBuf.sm, XChunk.sm] at hbs
    obtain ⟨⟨hbs1, hbs2⟩, _⟩ := hbs
    repeat' (first
      | with_reducible (first | refine wp_seq ?_ | refine wp_blk ?_ | refine wp_skip ?_ | refine wp_exit ?_ | refine wp_ret ?_ | refine seqQ_norm ?_ | refine seqQ_ret ?_ | refine seqQ_exit ?_ | refine blkQ_norm ?_ | refine blkQ_ret ?_ | refine blkQ_exit ?_ | refine loopQ_norm ?_ | refine loopQ_exit ?_ | refine loopQ_ret ?_ | refine endQ_ret ?_ | refine endQ_norm ?_ | refine endE_ret ?_ | refine endE_norm ?_ | refine endI_ret ?_ | refine endI_norm ?_)
      | (with_reducible refine wp_regK fun K hK => ?_
         simp[h, ht, hb0, hb1, he, hb, hlt, hbs1, hbs2, hst]
         repeat' (with_reducible first | refine hK _ ?_ | (refine psel ?_ ?_ <;> (intro hc; (try rw [Decidable.not_not] at hc); first | (exfalso; omega) | (try simp [hc, h, ht, hb0, hb1, he, hb, hlt, hbs1, hbs2, hst]))))
         all_goals (clear hK; clear K))
      | (with_reducible refine wp_condE ?_
         refine ⟨_, rfl, ?_, ?_⟩ <;> (intro hc; (try simp at hc); (all_goals first | (exfalso; omega) | skip))))
    all_goals first | (simp [pf468]; done) | (exfalso; omega) | (exfalso; simp_all; done) | (simp_all [pf468]; done)

theorem stampBs_len (B : List XBuf) (n : Nat) (i s : Int) : (stampBs B n i s).length = B.length := by
  unfold stampBs; split <;> simp

theorem stampBs_sms (B : List XBuf) (n : Nat) (i s : Int) (h : XBuf.sms B) : XBuf.sms (stampBs B n i s) := by
  unfold stampBs; split
  · rename_i b hb
    have hbs := h b (List.mem_of_getElem? hb)
    simp only [XBuf.sm, XChunk.sm] at hbs
    intro y hy
    rcases List.mem_or_eq_of_mem_set hy with hy | rfl
    · exact h y hy
    · simp only [XBuf.sm, XChunk.sm]
      exact ⟨⟨by rw [stSlotL_len]; exact hbs.1.1, stSlotL_sms i s _ hbs.1.2⟩, hbs.2⟩
  · exact h

theorem stampDs_len (D : List XDeed) (h s u : Int) : (stampDs D h s u).length = D.length := by
  unfold stampDs; split
  · split <;> simp
  · rfl

theorem stampDs_sms (D : List XDeed) (hv s u : Int) (h : XDeed.sms D) : XDeed.sms (stampDs D hv s u) := by
  unfold stampDs; split
  · split
    · rename_i d hd
      have hds := h d (List.mem_of_getElem? hd)
      intro y hy
      rcases List.mem_or_eq_of_mem_set hy with hy | rfl
      · exact h y hy
      · exact hds
    · exact h
  · exact h

theorem ctSlots_set : ∀ (l : List XSlot) (n : Nat) (x y : XSlot), l[n]? = some x → ctSlot y = ctSlot x → ctSlots (l.set n y) = ctSlots l
  | [], n, x, y, h, _ => by simp at h
  | z :: l, 0, x, y, h, e => by simp at h; subst h; simp only [List.set_cons_zero, ctSlots, e]
  | z :: l, n + 1, x, y, h, e => by simp at h; simp only [List.set_cons_succ, ctSlots, ctSlots_set l n x y h e]

theorem ctSlots_st (i s : Int) (l : List XSlot) : ctSlots (stSlotL i s l) = ctSlots l := by
  unfold stSlotL; split
  · rename_i x hx
    split
    · exact ctSlots_set l _ x _ hx (by obtain ⟨a, b⟩ := x; simp [ctSlot])
    · rfl
  · rfl

theorem ctBufs_set : ∀ (l : List XBuf) (n : Nat) (x y : XBuf), l[n]? = some x → ctBuf y = ctBuf x → ctBufs (l.set n y) = ctBufs l
  | [], n, x, y, h, _ => by simp at h
  | z :: l, 0, x, y, h, e => by simp at h; subst h; simp only [List.set_cons_zero, ctBufs, e]
  | z :: l, n + 1, x, y, h, e => by simp at h; simp only [List.set_cons_succ, ctBufs, ctBufs_set l n x y h e]

theorem ctBufs_st (B : List XBuf) (n : Nat) (i s : Int) : ctBufs (stampBs B n i s) = ctBufs B := by
  unfold stampBs; split
  · rename_i b hb
    exact ctBufs_set B n b _ hb (by obtain ⟨g, k, ⟨x, l⟩, z⟩ := b; simp only [ctBuf, ctSlots_st])
  · rfl

theorem ctDeeds_set : ∀ (l : List XDeed) (n : Nat) (x y : XDeed), l[n]? = some x → ctDeed y = ctDeed x → ctDeeds (l.set n y) = ctDeeds l
  | [], n, x, y, h, _ => by simp at h
  | z :: l, 0, x, y, h, e => by simp at h; subst h; simp only [List.set_cons_zero, ctDeeds, e]
  | z :: l, n + 1, x, y, h, e => by simp at h; simp only [List.set_cons_succ, ctDeeds, ctDeeds_set l n x y h e]

theorem ctDeeds_st (D : List XDeed) (hv s u : Int) : ctDeeds (stampDs D hv s u) = ctDeeds D := by
  unfold stampDs; split
  · split
    · rename_i d hd
      refine ctDeeds_set D _ d _ hd ?_
      obtain ⟨a, b, c, e, ⟨q, ⟨x, y, z, ⟨f, g, h⟩, i⟩, j, k⟩, ⟨l, m, n, ⟨o, p, v⟩⟩, w, r, t, s2, u2⟩ := d
      simp only [ctDeed]
    · rfl
  · rfl

theorem t434_yes (k0 : Bool) (x_C_Cols : List Int) (x_C_Slots : Int) (x_C_Bufs : Int) (x_Time : Int) (x_T : Int) (x_E : Int) (x_Dd_Ver : Int) (x_Dd_L : List XRef) (x_B : List XBuf) (x_M : List Int) (x_X : List XDead) (x_P : List Int) (x_Tasks : List XTask) (x_Deeds : List XDeed) (r_Buf : Int) (r_Gen : Int) (r_Kind : Int) (r_First : Int) (r_Many : Int) (i s u : Int) (hsm_x_C_Cols : x_C_Cols.length ≤ 1048576) (hsm_x_Dd_L : x_Dd_L.length ≤ 1048576) (hsm_x_B : x_B.length ≤ 1048576) (hsms_x_B : XBuf.sms x_B) (hsm_x_M : x_M.length ≤ 1048576) (hsm_x_X : x_X.length ≤ 1048576) (hsm_x_P : x_P.length ≤ 1048576) (hsm_x_Tasks : x_Tasks.length ≤ 1048576) (hsms_x_Tasks : XTask.sms x_Tasks) (hsm_x_Deeds : x_Deeds.length ≤ 1048576) (hsms_x_Deeds : XDeed.sms x_Deeds) (hok : stampOk x_B ⟨r_Buf, r_Gen, r_Kind, r_First, r_Many⟩ i s = true) :
    Gw TT 434 [.st [.ro k0 (.sl 1 (x_C_Cols.map ei)), .ro false (di x_C_Slots), .ro false (di x_C_Bufs), .ro false (di x_Time), .ro false (di x_T), .ro false (di x_E), .ro false (di x_Dd_Ver), .ro k0 (.sl 5 (x_Dd_L.map XRef.e)), .ro k0 (.sl 5 (x_B.map XBuf.e)), .ro k0 (.sl 1 (x_M.map ei)), .ro k0 (.sl 3 (x_X.map XDead.e)), .ro k0 (.sl 1 (x_P.map ei)), .ro k0 (.sl 25 (x_Tasks.map XTask.e)), .ro k0 (.sl 25 (x_Deeds.map XDeed.e))], .st [.ro false (di r_Buf), .ro false (di r_Gen), .ro false (di r_Kind), .ro false (di r_First), .ro false (di r_Many)], vi i, vi s, vi u] = some (.tup [.st [.own (.sl 1 (x_C_Cols.map ei)), .ro false (di x_C_Slots), .ro false (di x_C_Bufs), .ro false (di x_Time), .ro false (di x_T), .ro false (di x_E), .ro false (di x_Dd_Ver), .own (.sl 5 (x_Dd_L.map XRef.e)), .own (.sl 5 ((stampBs x_B r_Buf.toNat i s).map XBuf.e)), .own (.sl 1 (x_M.map ei)), .own (.sl 3 (x_X.map XDead.e)), .own (.sl 1 (x_P.map ei)), .own (.sl 25 (x_Tasks.map XTask.e)), .own (.sl 25 ((stampDs x_Deeds (putOfF (IntKind.wrap .i64 (r_First + i)) 0 x_Deeds) s u).map XDeed.e))], vb true], []) := by
  refine Gw_of (F := pf434) rfl rfl ?_
  show Wp _ pb434 _ _
  unfold pb434
  repeat' first|with_reducible (first|apply Z1|apply Z2|apply Z3|apply Z4|apply Z5|apply Z6|apply Z7|apply Z8|apply Z9|apply Y1|apply Y2|apply Y3|apply Y4|apply Y5|apply Y6|apply Y7|apply Y8|apply Y9)|(with_reducible refine Xk fun K k=>?_;simp [hsm_x_C_Cols, hsm_x_Dd_L, hsm_x_B, hsms_x_B, hsm_x_M, hsm_x_X, hsm_x_P, hsm_x_Tasks, hsms_x_Tasks, hsm_x_Deeds, hsms_x_Deeds, hok, t469_yes];refine k _ ?_;clear k K)|refine Xt rfl ?_|refine Xf rfl ?_
  all_goals simp [pf434]

theorem t433_yes (k0 : Bool) (x_C_Cols : List Int) (x_C_Slots : Int) (x_C_Bufs : Int) (x_Time : Int) (x_T : Int) (x_E : Int) (x_Dd_Ver : Int) (x_Dd_L : List XRef) (x_B : List XBuf) (x_M : List Int) (x_X : List XDead) (x_P : List Int) (x_Tasks : List XTask) (x_Deeds : List XDeed) (r_Buf : Int) (r_Gen : Int) (r_Kind : Int) (r_First : Int) (r_Many : Int) (i s u : Int) (hsm_x_C_Cols : x_C_Cols.length ≤ 1048576) (hsm_x_Dd_L : x_Dd_L.length ≤ 1048576) (hsm_x_B : x_B.length ≤ 1048576) (hsms_x_B : XBuf.sms x_B) (hsm_x_M : x_M.length ≤ 1048576) (hsm_x_X : x_X.length ≤ 1048576) (hsm_x_P : x_P.length ≤ 1048576) (hsm_x_Tasks : x_Tasks.length ≤ 1048576) (hsms_x_Tasks : XTask.sms x_Tasks) (hsm_x_Deeds : x_Deeds.length ≤ 1048576) (hsms_x_Deeds : XDeed.sms x_Deeds) (hok : stampOk x_B ⟨r_Buf, r_Gen, r_Kind, r_First, r_Many⟩ i s = true) :
    Gw TT 433 [.st [.ro k0 (.sl 1 (x_C_Cols.map ei)), .ro false (di x_C_Slots), .ro false (di x_C_Bufs), .ro false (di x_Time), .ro false (di x_T), .ro false (di x_E), .ro false (di x_Dd_Ver), .ro k0 (.sl 5 (x_Dd_L.map XRef.e)), .ro k0 (.sl 5 (x_B.map XBuf.e)), .ro k0 (.sl 1 (x_M.map ei)), .ro k0 (.sl 3 (x_X.map XDead.e)), .ro k0 (.sl 1 (x_P.map ei)), .ro k0 (.sl 25 (x_Tasks.map XTask.e)), .ro k0 (.sl 25 (x_Deeds.map XDeed.e))], .st [.ro false (di r_Buf), .ro false (di r_Gen), .ro false (di r_Kind), .ro false (di r_First), .ro false (di r_Many)], vi i, vi s, vi u] = some (.tup [.st [.own (.sl 1 (x_C_Cols.map ei)), .ro false (di x_C_Slots), .ro false (di x_C_Bufs), .ro false (di x_Time), .ro false (di x_T), .ro false (di x_E), .ro false (di x_Dd_Ver), .own (.sl 5 (x_Dd_L.map XRef.e)), .own (.sl 5 ((stampBs x_B r_Buf.toNat i s).map XBuf.e)), .own (.sl 1 (x_M.map ei)), .own (.sl 3 (x_X.map XDead.e)), .own (.sl 1 (x_P.map ei)), .own (.sl 25 (x_Tasks.map XTask.e)), .own (.sl 25 ((stampDs x_Deeds (putOfF (IntKind.wrap .i64 (r_First + i)) 0 x_Deeds) s u).map XDeed.e))], vb true], []) := by
  refine Gw_of (F := pf433) rfl rfl ?_
  show Wp _ pb433 _ _
  unfold pb433
  repeat' first|with_reducible (first|apply Z1|apply Z2|apply Z3|apply Z4|apply Z5|apply Z6|apply Z7|apply Z8|apply Z9|apply Y1|apply Y2|apply Y3|apply Y4|apply Y5|apply Y6|apply Y7|apply Y8|apply Y9)|(with_reducible refine Xk fun K k=>?_;simp [hsm_x_C_Cols, hsm_x_Dd_L, hsm_x_B, hsms_x_B, hsm_x_M, hsm_x_X, hsm_x_P, hsm_x_Tasks, hsms_x_Tasks, hsm_x_Deeds, hsms_x_Deeds, hok, t468_yes];refine k _ ?_;clear k K)|refine Xt rfl ?_|refine Xf rfl ?_
  all_goals simp [pf433]

theorem t1434_no (k0 : Bool) (x_C_Cols : List Int) (x_C_Slots : Int) (x_C_Bufs : Int) (x_Time : Int) (x_T : Int) (x_E : Int) (x_Dd_Ver : Int) (x_Dd_L : List XRef) (x_B : List XBuf) (x_M : List Int) (x_X : List XDead) (x_P : List Int) (x_Tasks : List XTask) (x_Deeds : List XDeed) (r_Buf : Int) (r_Gen : Int) (r_Kind : Int) (r_First : Int) (r_Many : Int) (i s u : Int) (hsm_x_C_Cols : x_C_Cols.length ≤ 1048576) (hsm_x_Dd_L : x_Dd_L.length ≤ 1048576) (hsm_x_B : x_B.length ≤ 1048576) (hsms_x_B : XBuf.sms x_B) (hsm_x_M : x_M.length ≤ 1048576) (hsm_x_X : x_X.length ≤ 1048576) (hsm_x_P : x_P.length ≤ 1048576) (hsm_x_Tasks : x_Tasks.length ≤ 1048576) (hsms_x_Tasks : XTask.sms x_Tasks) (hsm_x_Deeds : x_Deeds.length ≤ 1048576) (hsms_x_Deeds : XDeed.sms x_Deeds) (hok : stampOk x_B ⟨r_Buf, r_Gen, r_Kind, r_First, r_Many⟩ i s = false) :
    Gw TT 1434 [.st [.ro k0 (.sl 1 (x_C_Cols.map ei)), .ro false (di x_C_Slots), .ro false (di x_C_Bufs), .ro false (di x_Time), .ro false (di x_T), .ro false (di x_E), .ro false (di x_Dd_Ver), .ro k0 (.sl 5 (x_Dd_L.map XRef.e)), .ro k0 (.sl 5 (x_B.map XBuf.e)), .ro k0 (.sl 1 (x_M.map ei)), .ro k0 (.sl 3 (x_X.map XDead.e)), .ro k0 (.sl 1 (x_P.map ei)), .ro k0 (.sl 25 (x_Tasks.map XTask.e)), .ro k0 (.sl 25 (x_Deeds.map XDeed.e))], .st [.ro false (di r_Buf), .ro false (di r_Gen), .ro false (di r_Kind), .ro false (di r_First), .ro false (di r_Many)], vi i, vi s, vi u] = some (.tup [.st [.own (.sl 1 (x_C_Cols.map ei)), .ro false (di x_C_Slots), .ro false (di x_C_Bufs), .ro false (di x_Time), .ro false (di x_T), .ro false (di x_E), .ro false (di x_Dd_Ver), .own (.sl 5 (x_Dd_L.map XRef.e)), .own (.sl 5 (x_B.map XBuf.e)), .own (.sl 1 (x_M.map ei)), .own (.sl 3 (x_X.map XDead.e)), .own (.sl 1 (x_P.map ei)), .own (.sl 25 (x_Tasks.map XTask.e)), .own (.sl 25 (x_Deeds.map XDeed.e))], vb false], []) := by
  refine Gw_of (F := pf1434) rfl rfl ?_
  show Wp _ pb1434 _ _
  unfold pb1434
  repeat' first|with_reducible (first|apply Z1|apply Z2|apply Z3|apply Z4|apply Z5|apply Z6|apply Z7|apply Z8|apply Z9|apply Y1|apply Y2|apply Y3|apply Y4|apply Y5|apply Y6|apply Y7|apply Y8|apply Y9)|(with_reducible refine Xk fun K k=>?_;simp [hsm_x_C_Cols, hsm_x_Dd_L, hsm_x_B, hsms_x_B, hsm_x_M, hsm_x_X, hsm_x_P, hsm_x_Tasks, hsms_x_Tasks, hsm_x_Deeds, hsms_x_Deeds, hok, t1469_no];refine k _ ?_;clear k K)|refine Xt rfl ?_|refine Xf rfl ?_
  all_goals simp [pf1434]

theorem t433_no (k0 : Bool) (x_C_Cols : List Int) (x_C_Slots : Int) (x_C_Bufs : Int) (x_Time : Int) (x_T : Int) (x_E : Int) (x_Dd_Ver : Int) (x_Dd_L : List XRef) (x_B : List XBuf) (x_M : List Int) (x_X : List XDead) (x_P : List Int) (x_Tasks : List XTask) (x_Deeds : List XDeed) (r_Buf : Int) (r_Gen : Int) (r_Kind : Int) (r_First : Int) (r_Many : Int) (i s u : Int) (hsm_x_C_Cols : x_C_Cols.length ≤ 1048576) (hsm_x_Dd_L : x_Dd_L.length ≤ 1048576) (hsm_x_B : x_B.length ≤ 1048576) (hsms_x_B : XBuf.sms x_B) (hsm_x_M : x_M.length ≤ 1048576) (hsm_x_X : x_X.length ≤ 1048576) (hsm_x_P : x_P.length ≤ 1048576) (hsm_x_Tasks : x_Tasks.length ≤ 1048576) (hsms_x_Tasks : XTask.sms x_Tasks) (hsm_x_Deeds : x_Deeds.length ≤ 1048576) (hsms_x_Deeds : XDeed.sms x_Deeds) (hok : stampOk x_B ⟨r_Buf, r_Gen, r_Kind, r_First, r_Many⟩ i s = false) :
    Gw TT 433 [.st [.ro k0 (.sl 1 (x_C_Cols.map ei)), .ro false (di x_C_Slots), .ro false (di x_C_Bufs), .ro false (di x_Time), .ro false (di x_T), .ro false (di x_E), .ro false (di x_Dd_Ver), .ro k0 (.sl 5 (x_Dd_L.map XRef.e)), .ro k0 (.sl 5 (x_B.map XBuf.e)), .ro k0 (.sl 1 (x_M.map ei)), .ro k0 (.sl 3 (x_X.map XDead.e)), .ro k0 (.sl 1 (x_P.map ei)), .ro k0 (.sl 25 (x_Tasks.map XTask.e)), .ro k0 (.sl 25 (x_Deeds.map XDeed.e))], .st [.ro false (di r_Buf), .ro false (di r_Gen), .ro false (di r_Kind), .ro false (di r_First), .ro false (di r_Many)], vi i, vi s, vi u] = some (.tup [.st [.own (.sl 1 (x_C_Cols.map ei)), .ro false (di x_C_Slots), .ro false (di x_C_Bufs), .ro false (di x_Time), .ro false (di x_T), .ro false (di x_E), .ro false (di x_Dd_Ver), .own (.sl 5 (x_Dd_L.map XRef.e)), .own (.sl 5 (x_B.map XBuf.e)), .own (.sl 1 (x_M.map ei)), .own (.sl 3 (x_X.map XDead.e)), .own (.sl 1 (x_P.map ei)), .own (.sl 25 (x_Tasks.map XTask.e)), .own (.sl 25 (x_Deeds.map XDeed.e))], vb false], []) := by
  refine Gw_of (F := pf433) rfl rfl ?_
  show Wp _ pb433 _ _
  unfold pb433
  repeat' first|with_reducible (first|apply Z1|apply Z2|apply Z3|apply Z4|apply Z5|apply Z6|apply Z7|apply Z8|apply Z9|apply Y1|apply Y2|apply Y3|apply Y4|apply Y5|apply Y6|apply Y7|apply Y8|apply Y9)|(with_reducible refine Xk fun K k=>?_;simp [hsm_x_C_Cols, hsm_x_Dd_L, hsm_x_B, hsms_x_B, hsm_x_M, hsm_x_X, hsm_x_P, hsm_x_Tasks, hsms_x_Tasks, hsm_x_Deeds, hsms_x_Deeds, hok, t468_no];refine k _ ?_;clear k K)|refine Xt rfl ?_|refine Xf rfl ?_
  all_goals simp [pf433]

theorem t417_yes (aW_C_Cols : List Int) (aW_C_Slots : Int) (aW_C_Bufs : Int) (aW_Time : Int) (aW_T : Int) (aW_E : Int) (aW_Dd_Ver : Int) (aW_Dd_L : List XRef) (aW_B : List XBuf) (aW_M : List Int) (aW_X : List XDead) (aW_P : List Int) (aW_Tasks : List XTask) (aW_Deeds : List XDeed) (aR_Buf : Int) (aR_Gen : Int) (aR_Kind : Int) (aR_First : Int) (aR_Many : Int) (aI : Int) (aS : Int) (aAt : Int) (hok_aW_C_Cols : aW_C_Cols.length ≤ 9223372036854775807) (hok_aW_Dd_L : aW_Dd_L.length ≤ 9223372036854775807) (hok_aW_B : aW_B.length ≤ 9223372036854775807) (hoks_aW_B : XBuf.oks aW_B) (hok_aW_M : aW_M.length ≤ 9223372036854775807) (hok_aW_X : aW_X.length ≤ 9223372036854775807) (hok_aW_P : aW_P.length ≤ 9223372036854775807) (hok_aW_Tasks : aW_Tasks.length ≤ 9223372036854775807) (hoks_aW_Tasks : XTask.oks aW_Tasks) (hok_aW_Deeds : aW_Deeds.length ≤ 9223372036854775807) (hoks_aW_Deeds : XDeed.oks aW_Deeds) (hok : stampOk aW_B ⟨aR_Buf, aR_Gen, aR_Kind, aR_First, aR_Many⟩ aI aS = true) : Gw TT 417 [.st [.ro false (.sl 1 (aW_C_Cols.map ei)), .ro false (di aW_C_Slots), .ro false (di aW_C_Bufs), .ro false (di aW_Time), .ro false (di aW_T), .ro false (di aW_E), .ro false (di aW_Dd_Ver), .ro false (.sl 5 (aW_Dd_L.map XRef.e)), .ro false (.sl 5 (aW_B.map XBuf.e)), .ro false (.sl 1 (aW_M.map ei)), .ro false (.sl 3 (aW_X.map XDead.e)), .ro false (.sl 1 (aW_P.map ei)), .ro false (.sl 25 (aW_Tasks.map XTask.e)), .ro false (.sl 25 (aW_Deeds.map XDeed.e))], .st [.ro false (di aR_Buf), .ro false (di aR_Gen), .ro false (di aR_Kind), .ro false (di aR_First), .ro false (di aR_Many)], .one (.ro false (di aI)), .one (.ro false (di aS)), .one (.ro false (di aAt))] = some (vb true, []) := by
  refine Gw_of (F := pf417) rfl rfl ?_
  show Wp _ pb417 _ _
  unfold pb417
  obtain ⟨n1, g1, a1, b1, s1⟩ := t233 false aW_C_Cols aW_C_Slots aW_C_Bufs aW_Time aW_T aW_E aW_Dd_Ver aW_Dd_L aW_B aW_M aW_X aW_P aW_Tasks aW_Deeds 1048576 (by omega) (by omega) hok_aW_C_Cols hok_aW_Dd_L hok_aW_B hoks_aW_B hok_aW_M hok_aW_X hok_aW_P hok_aW_Tasks hoks_aW_Tasks hok_aW_Deeds hoks_aW_Deeds
  repeat' (first
    | with_reducible (first | refine wp_seq ?_ | refine wp_blk ?_ | refine wp_skip ?_ | refine wp_exit ?_ | refine wp_ret ?_ | refine seqQ_norm ?_ | refine seqQ_ret ?_ | refine seqQ_exit ?_ | refine blkQ_norm ?_ | refine blkQ_ret ?_ | refine blkQ_exit ?_ | refine loopQ_norm ?_ | refine loopQ_exit ?_ | refine loopQ_ret ?_ | refine endQ_ret ?_ | refine endQ_norm ?_ | refine endE_ret ?_ | refine endE_norm ?_ | refine endI_ret ?_ | refine endI_norm ?_)
    | (with_reducible refine wp_regK fun K hK => ?_
       simp[g1]
       repeat' (with_reducible first | refine hK _ ?_ | (refine psel ?_ ?_ <;> (intro hc; (try rw [Decidable.not_not] at hc); first | (exfalso; omega) | (try simp [hc, g1]))))
       all_goals (clear hK; clear K))
    | (with_reducible refine wp_condE ?_
       refine ⟨_, rfl, ?_, ?_⟩ <;> (intro hc; (try simp at hc); (all_goals first | (exfalso; omega) | skip))))
  · simp [pf417]
  have q1 := s1 (by omega)
  obtain ⟨hsm_aW_C_Cols, hsm_aW_Dd_L, hsm_aW_B, hsms_aW_B, hsm_aW_M, hsm_aW_X, hsm_aW_P, hsm_aW_Tasks, hsms_aW_Tasks, hsm_aW_Deeds, hsms_aW_Deeds⟩ := q1
  obtain ⟨nb, gb, ab, bb, sb⟩ := t233b false aW_C_Cols aW_C_Slots aW_C_Bufs aW_Time aW_T aW_E aW_Dd_Ver aW_Dd_L aW_B aW_M aW_X aW_P aW_Tasks aW_Deeds 1048576 (by omega) (by omega) hok_aW_C_Cols hok_aW_Dd_L hok_aW_B hoks_aW_B hok_aW_M hok_aW_X hok_aW_P hok_aW_Tasks hoks_aW_Tasks hok_aW_Deeds hoks_aW_Deeds
  have eb : n1 = nb := by have := g1.symm.trans gb; simpa using this
  have qb := sb (by omega)
  have cn0 := ctInts_nn aW_C_Cols
  have cn1 := ctRefs_nn aW_Dd_L
  have cn2 := ctBufs_nn aW_B
  have cn3 := ctInts_nn aW_M
  have cn4 := ctDeads_nn aW_X
  have cn5 := ctInts_nn aW_P
  have cn6 := ctTasks_nn aW_Tasks
  have cn7 := ctDeeds_nn aW_Deeds
  have cb0 : 1 + ctInts aW_C_Cols + ctRefs aW_Dd_L + ctBufs aW_B + ctInts aW_M + ctDeads aW_X + ctInts aW_P + ctTasks aW_Tasks + ctDeeds aW_Deeds ≤ 4611686018427387904 := by omega
  have hB1 := stampBs_len aW_B aR_Buf.toNat aI aS
  have hB2 := stampBs_sms aW_B aR_Buf.toNat aI aS hsms_aW_B
  have hB3 := ctBufs_st aW_B aR_Buf.toNat aI aS
  generalize hpv : putOfF (IntKind.wrap .i64 (aR_First + aI)) 0 aW_Deeds = pv
  have hD1 := stampDs_len aW_Deeds pv aS aAt
  have hD2 := stampDs_sms aW_Deeds pv aS aAt hsms_aW_Deeds
  have hD3 := ctDeeds_st aW_Deeds pv aS aAt
  have hB4 : (stampBs aW_B aR_Buf.toNat aI aS).length ≤ 1048576 := by omega
  have hD4 : (stampDs aW_Deeds pv aS aAt).length ≤ 1048576 := by omega
  have cb1 : 1 + ctInts aW_C_Cols + ctRefs aW_Dd_L + ctBufs (stampBs aW_B aR_Buf.toNat aI aS) + ctInts aW_M + ctDeads aW_X + ctInts aW_P + ctTasks aW_Tasks + ctDeeds (stampDs aW_Deeds pv aS aAt) ≤ 4611686018427387904 := by omega
  repeat' (first
    | with_reducible (first | refine wp_seq ?_ | refine wp_blk ?_ | refine wp_skip ?_ | refine wp_exit ?_ | refine wp_ret ?_ | refine seqQ_norm ?_ | refine seqQ_ret ?_ | refine seqQ_exit ?_ | refine blkQ_norm ?_ | refine blkQ_ret ?_ | refine blkQ_exit ?_ | refine loopQ_norm ?_ | refine loopQ_exit ?_ | refine loopQ_ret ?_ | refine endQ_ret ?_ | refine endQ_norm ?_ | refine endE_ret ?_ | refine endE_norm ?_ | refine endI_ret ?_ | refine endI_norm ?_)
    | (with_reducible refine wp_regK fun K hK => ?_
       simp[hsm_aW_C_Cols, hsm_aW_Dd_L, hsm_aW_B, hsms_aW_B, hsm_aW_M, hsm_aW_X, hsm_aW_P, hsm_aW_Tasks, hsms_aW_Tasks, hsm_aW_Deeds, hsms_aW_Deeds, cb0, cb1, hB2, hB4, hD2, hD4, hpv, hok, t434_yes, t433_yes]
       repeat' (with_reducible first | refine hK _ ?_ | (refine psel ?_ ?_ <;> (intro hc; (try rw [Decidable.not_not] at hc); first | (exfalso; omega) | (try simp [hc, hsm_aW_C_Cols, hsm_aW_Dd_L, hsm_aW_B, hsms_aW_B, hsm_aW_M, hsm_aW_X, hsm_aW_P, hsm_aW_Tasks, hsms_aW_Tasks, hsm_aW_Deeds, hsms_aW_Deeds, cb0, cb1, hB2, hB4, hD2, hD4, hpv, hok, t434_yes, t433_yes]))))
       all_goals (clear hK; clear K))
    | (with_reducible refine wp_condE ?_
       refine ⟨_, rfl, ?_, ?_⟩ <;> (intro hc; (try simp at hc); (all_goals first | (exfalso; omega) | skip))))
  all_goals first | (simp [pf417]; done) | (simp_all [pf417]; done)

theorem t1417_no (aW_C_Cols : List Int) (aW_C_Slots : Int) (aW_C_Bufs : Int) (aW_Time : Int) (aW_T : Int) (aW_E : Int) (aW_Dd_Ver : Int) (aW_Dd_L : List XRef) (aW_B : List XBuf) (aW_M : List Int) (aW_X : List XDead) (aW_P : List Int) (aW_Tasks : List XTask) (aW_Deeds : List XDeed) (aR_Buf : Int) (aR_Gen : Int) (aR_Kind : Int) (aR_First : Int) (aR_Many : Int) (aI : Int) (aS : Int) (aAt : Int) (hok_aW_C_Cols : aW_C_Cols.length ≤ 9223372036854775807) (hok_aW_Dd_L : aW_Dd_L.length ≤ 9223372036854775807) (hok_aW_B : aW_B.length ≤ 9223372036854775807) (hoks_aW_B : XBuf.oks aW_B) (hok_aW_M : aW_M.length ≤ 9223372036854775807) (hok_aW_X : aW_X.length ≤ 9223372036854775807) (hok_aW_P : aW_P.length ≤ 9223372036854775807) (hok_aW_Tasks : aW_Tasks.length ≤ 9223372036854775807) (hoks_aW_Tasks : XTask.oks aW_Tasks) (hok_aW_Deeds : aW_Deeds.length ≤ 9223372036854775807) (hoks_aW_Deeds : XDeed.oks aW_Deeds) (hok : stampOk aW_B ⟨aR_Buf, aR_Gen, aR_Kind, aR_First, aR_Many⟩ aI aS = false) : Gw TT 1417 [.st [.ro false (.sl 1 (aW_C_Cols.map ei)), .ro false (di aW_C_Slots), .ro false (di aW_C_Bufs), .ro false (di aW_Time), .ro false (di aW_T), .ro false (di aW_E), .ro false (di aW_Dd_Ver), .ro false (.sl 5 (aW_Dd_L.map XRef.e)), .ro false (.sl 5 (aW_B.map XBuf.e)), .ro false (.sl 1 (aW_M.map ei)), .ro false (.sl 3 (aW_X.map XDead.e)), .ro false (.sl 1 (aW_P.map ei)), .ro false (.sl 25 (aW_Tasks.map XTask.e)), .ro false (.sl 25 (aW_Deeds.map XDeed.e))], .st [.ro false (di aR_Buf), .ro false (di aR_Gen), .ro false (di aR_Kind), .ro false (di aR_First), .ro false (di aR_Many)], .one (.ro false (di aI)), .one (.ro false (di aS)), .one (.ro false (di aAt))] = some (vb true, []) := by
  refine Gw_of (F := pf1417) rfl rfl ?_
  show Wp _ pb1417 _ _
  unfold pb1417
  obtain ⟨n1, g1, a1, b1, s1⟩ := t233 false aW_C_Cols aW_C_Slots aW_C_Bufs aW_Time aW_T aW_E aW_Dd_Ver aW_Dd_L aW_B aW_M aW_X aW_P aW_Tasks aW_Deeds 1048576 (by omega) (by omega) hok_aW_C_Cols hok_aW_Dd_L hok_aW_B hoks_aW_B hok_aW_M hok_aW_X hok_aW_P hok_aW_Tasks hoks_aW_Tasks hok_aW_Deeds hoks_aW_Deeds
  repeat' (first
    | with_reducible (first | refine wp_seq ?_ | refine wp_blk ?_ | refine wp_skip ?_ | refine wp_exit ?_ | refine wp_ret ?_ | refine seqQ_norm ?_ | refine seqQ_ret ?_ | refine seqQ_exit ?_ | refine blkQ_norm ?_ | refine blkQ_ret ?_ | refine blkQ_exit ?_ | refine loopQ_norm ?_ | refine loopQ_exit ?_ | refine loopQ_ret ?_ | refine endQ_ret ?_ | refine endQ_norm ?_ | refine endE_ret ?_ | refine endE_norm ?_ | refine endI_ret ?_ | refine endI_norm ?_)
    | (with_reducible refine wp_regK fun K hK => ?_
       simp[g1]
       repeat' (with_reducible first | refine hK _ ?_ | (refine psel ?_ ?_ <;> (intro hc; (try rw [Decidable.not_not] at hc); first | (exfalso; omega) | (try simp [hc, g1]))))
       all_goals (clear hK; clear K))
    | (with_reducible refine wp_condE ?_
       refine ⟨_, rfl, ?_, ?_⟩ <;> (intro hc; (try simp at hc); (all_goals first | (exfalso; omega) | skip))))
  · simp [pf1417]
  have q1 := s1 (by omega)
  obtain ⟨hsm_aW_C_Cols, hsm_aW_Dd_L, hsm_aW_B, hsms_aW_B, hsm_aW_M, hsm_aW_X, hsm_aW_P, hsm_aW_Tasks, hsms_aW_Tasks, hsm_aW_Deeds, hsms_aW_Deeds⟩ := q1
  obtain ⟨nb, gb, ab, bb, sb⟩ := t233b false aW_C_Cols aW_C_Slots aW_C_Bufs aW_Time aW_T aW_E aW_Dd_Ver aW_Dd_L aW_B aW_M aW_X aW_P aW_Tasks aW_Deeds 1048576 (by omega) (by omega) hok_aW_C_Cols hok_aW_Dd_L hok_aW_B hoks_aW_B hok_aW_M hok_aW_X hok_aW_P hok_aW_Tasks hoks_aW_Tasks hok_aW_Deeds hoks_aW_Deeds
  have eb : n1 = nb := by have := g1.symm.trans gb; simpa using this
  have qb := sb (by omega)
  have cn0 := ctInts_nn aW_C_Cols
  have cn1 := ctRefs_nn aW_Dd_L
  have cn2 := ctBufs_nn aW_B
  have cn3 := ctInts_nn aW_M
  have cn4 := ctDeads_nn aW_X
  have cn5 := ctInts_nn aW_P
  have cn6 := ctTasks_nn aW_Tasks
  have cn7 := ctDeeds_nn aW_Deeds
  have cb0 : 1 + ctInts aW_C_Cols + ctRefs aW_Dd_L + ctBufs aW_B + ctInts aW_M + ctDeads aW_X + ctInts aW_P + ctTasks aW_Tasks + ctDeeds aW_Deeds ≤ 4611686018427387904 := by omega
  repeat' (first
    | with_reducible (first | refine wp_seq ?_ | refine wp_blk ?_ | refine wp_skip ?_ | refine wp_exit ?_ | refine wp_ret ?_ | refine seqQ_norm ?_ | refine seqQ_ret ?_ | refine seqQ_exit ?_ | refine blkQ_norm ?_ | refine blkQ_ret ?_ | refine blkQ_exit ?_ | refine loopQ_norm ?_ | refine loopQ_exit ?_ | refine loopQ_ret ?_ | refine endQ_ret ?_ | refine endQ_norm ?_ | refine endE_ret ?_ | refine endE_norm ?_ | refine endI_ret ?_ | refine endI_norm ?_)
    | (with_reducible refine wp_regK fun K hK => ?_
       simp[hsm_aW_C_Cols, hsm_aW_Dd_L, hsm_aW_B, hsms_aW_B, hsm_aW_M, hsm_aW_X, hsm_aW_P, hsm_aW_Tasks, hsms_aW_Tasks, hsm_aW_Deeds, hsms_aW_Deeds, cb0, hok, t1434_no, t433_no]
       repeat' (with_reducible first | refine hK _ ?_ | (refine psel ?_ ?_ <;> (intro hc; (try rw [Decidable.not_not] at hc); first | (exfalso; omega) | (try simp [hc, hsm_aW_C_Cols, hsm_aW_Dd_L, hsm_aW_B, hsms_aW_B, hsm_aW_M, hsm_aW_X, hsm_aW_P, hsm_aW_Tasks, hsms_aW_Tasks, hsm_aW_Deeds, hsms_aW_Deeds, cb0, hok, t1434_no, t433_no]))))
       all_goals (clear hK; clear K))
    | (with_reducible refine wp_condE ?_
       refine ⟨_, rfl, ?_, ?_⟩ <;> (intro hc; (try simp at hc); (all_goals first | (exfalso; omega) | skip))))
  all_goals first | (simp [pf1417]; done) | (simp_all [pf1417]; done)

structure XRun where
  V : XVal
  K : Int
  deriving Inhabited
@[simp] def XRun.e (x : XRun) : List D := [di x.V.Ty, di x.V.N, .str x.V.S, di x.K]

end Go.Proofs.YtcgekefbkccelaaGreat.OM
