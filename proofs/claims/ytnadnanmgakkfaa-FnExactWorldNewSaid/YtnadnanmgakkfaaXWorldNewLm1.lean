/- What the functions answer. -/
import Derived.Test.YtnadnanmgakkfaaXWorldNewLm0
set_option linter.all false
namespace Go.Proofs.Ytnadnanmgakkfaa.OM
set_option maxHeartbeats 4000000
set_option maxRecDepth 100000

@[simp] theorem t195 (l : List XTask) (k : Int) (h0 : 0 ≤ k) (hc : k + ctTasks l ≤ 4611686018427387904) : Gw TT 195 [.one (.own (.sl 25 (l.map XTask.e))), vi k] = some (vi (k + ctTasks l), [(0, 0, .own (.sl 25 ((mkTasks k l).map XTask.e)))]) := by
  refine Gw_of (F := pf195) rfl rfl ?_
  show Wp _ pb195 _ _
  unfold pb195
  generalize hM : mkTasks k l = M
  have hlen := ctTasks_len l
  repeat' (first
    | with_reducible (first | refine wp_seq ?_ | refine wp_blk ?_ | refine wp_skip ?_ | refine wp_exit ?_ | refine wp_ret ?_ | refine seqQ_norm ?_ | refine seqQ_ret ?_ | refine seqQ_exit ?_ | refine blkQ_norm ?_ | refine blkQ_ret ?_ | refine blkQ_exit ?_ | refine loopQ_norm ?_ | refine loopQ_exit ?_ | refine loopQ_ret ?_ | refine endQ_ret ?_ | refine endQ_norm ?_ | refine endE_ret ?_ | refine endE_norm ?_ | refine endI_ret ?_ | refine endI_norm ?_)
    | (with_reducible refine wp_regK fun K hK => ?_
       simp
       repeat' (with_reducible first | refine hK _ ?_ | (refine psel ?_ ?_ <;> (intro hc; (try rw [Decidable.not_not] at hc); first | (exfalso; omega) | (try simp [hc]))))
       all_goals (clear hK; clear K))
    | (with_reducible refine wp_condE ?_
       refine ⟨_, rfl, ?_, ?_⟩ <;> (intro hc; (try simp at hc); (all_goals first | (exfalso; omega) | skip))))
  · refine wp_loopI (σ := List XTask × List XTask × Int) (fun s => [(0, AV.pl 0 0 [], some (Rt.vir [C.own (D.sl 25 (s.1.map XTask.e ++ s.2.1.map XTask.e))])), (1, AV.v false (di s.2.2), none), (5, AV.v false (di ((s.1.length : Nat) : Int)), none)]) (fun s => M = s.1 ++ mkTasks s.2.2 s.2.1 ∧ s.2.2 + ctTasks s.2.1 = k + ctTasks l ∧ s.1.length + s.2.1.length = l.length ∧ 0 ≤ s.2.2) (fun s => s.2.1.length) ([], l, k) (by simp) ⟨hM.symm, rfl, by simp, h0⟩ ?_
    rintro ⟨pre, rest, k1⟩ ⟨h1, h2, h3, h4⟩
    simp only at h1 h2 h3 h4
    rcases rest with _ | ⟨⟨y_Op, y_Pc, y_H, y_R, y_Id, ⟨y_Q_Kind, ⟨y_Q_P_Kind, y_Q_P_Col, y_Q_P_Op, ⟨y_Q_P_V_Ty, y_Q_P_V_N, y_Q_P_V_S⟩, y_Q_P_L⟩, y_Q_Col, y_Q_Out⟩, y_Ts, y_Ver, y_L, y_I, y_J, y_S, y_At, y_Own, y_Won, y_Got⟩, rest⟩
    · unfold pl195_0
      simp only [mkTasks, ctTasks, List.append_nil, Int.add_zero] at h1 h2
      subst h1
      repeat' (first
        | with_reducible (first | refine wp_seq ?_ | refine wp_blk ?_ | refine wp_skip ?_ | refine wp_exit ?_ | refine wp_ret ?_ | refine seqQ_norm ?_ | refine seqQ_ret ?_ | refine seqQ_exit ?_ | refine blkQ_norm ?_ | refine blkQ_ret ?_ | refine blkQ_exit ?_ | refine loopQ_norm ?_ | refine loopQ_exit ?_ | refine loopQ_ret ?_ | refine endQ_ret ?_ | refine endQ_norm ?_ | refine endE_ret ?_ | refine endE_norm ?_ | refine endI_ret ?_ | refine endI_norm ?_)
        | (with_reducible refine wp_regK fun K hK => ?_
           simp
           repeat' (with_reducible first | refine hK _ ?_ | (refine psel ?_ ?_ <;> (intro hc; (try rw [Decidable.not_not] at hc); first | (exfalso; omega) | (try simp [hc]))))
           all_goals (clear hK; clear K))
        | (with_reducible refine wp_condE ?_
           refine ⟨_, rfl, ?_, ?_⟩ <;> (intro hc; (try simp at hc); (all_goals first | (exfalso; omega) | skip))))
      all_goals simp [pf195, h2]
    · unfold pl195_0
      simp only [mkTasks, ctTasks, mkTask, ctTask, List.length_cons] at h1 h2 h3
      have hnr := ctTasks_nn rest
      have hw : IntKind.wrap .i64 ((pre.length : Int) + 1) = (pre.length : Int) + 1 := wrap_i64 (by omega) (by omega)
      have hlt : (pre.length : Int) < (pre.length : Int) + ((rest.length : Int) + 1) := by omega
      have hl2 : (pre ++ [mkTask k1 ⟨y_Op, y_Pc, y_H, y_R, y_Id, ⟨y_Q_Kind, ⟨y_Q_P_Kind, y_Q_P_Col, y_Q_P_Op, ⟨y_Q_P_V_Ty, y_Q_P_V_N, y_Q_P_V_S⟩, y_Q_P_L⟩, y_Q_Col, y_Q_Out⟩, y_Ts, y_Ver, y_L, y_I, y_J, y_S, y_At, y_Own, y_Won, y_Got⟩]).length + rest.length = l.length := by simp only [List.length_append, List.length_cons, List.length_nil]; omega
      have hB2 : k1 + (1 + 1 + 1 + ctVals y_R + 1 + 1 + 1 + 1 + 1 + 1 + 1 + 1 + ctPreds y_Q_P_L + 1 + ctInts y_Q_Out + 1 + 1 + ctRefs y_L + 1 + 1 + 1 + 1 + 1 + 1 + ctRows y_Got) + ctTasks rest = k + ctTasks l := by omega
      obtain ⟨w1, w2, w3, w4, w5, w6, w7, w8, w9, w10, w11, w12, w13, w14, w15, w16, w17, w18, w19, w20, w21, w22, w23, w24, w25, hv0, hw0, hv1, hw1, hv2, hw2, hv3, hz3, hy3, hg3, hv4, hw4, hv5, hw5, hv6, hw6, hv7, hw7, hv8, hw8, hv9, hw9, hv10, hw10, hv11, hw11, ht11, hv12, hz12, hy12, hg12, hv13, hw13, hv14, hz14, hy14, hg14, hv15, hw15, hv16, hw16, hv17, hz17, hy17, hg17, hv18, hw18, hv19, hw19, hv20, hw20, hv21, hw21, hv22, hw22, hv23, hw23, hv24, hz24, hy24, hg24, hE, hZ⟩ := chainTask k1 (ctVals y_R) (ctPreds y_Q_P_L) (ctInts y_Q_Out) (ctRefs y_L) (ctRows y_Got) h4 (ctVals_nn y_R) (ctPreds_nn y_Q_P_L) (ctInts_nn y_Q_Out) (ctRefs_nn y_L) (ctRows_nn y_Got) (by omega)
      rw [hE] at h1 hB2
      try simp only [← hv0, ← hv1, ← hv2, ← hv3, ← hv4, ← hv5, ← hv6, ← hv7, ← hv8, ← hv9, ← hv10, ← hv11, ← hv12, ← hv13, ← hv14, ← hv15, ← hv16, ← hv17, ← hv18, ← hv19, ← hv20, ← hv21, ← hv22, ← hv23, ← hv24] at h1
      subst h1
      repeat' (first
        | with_reducible (first | refine wp_seq ?_ | refine wp_blk ?_ | refine wp_skip ?_ | refine wp_exit ?_ | refine wp_ret ?_ | refine seqQ_norm ?_ | refine seqQ_ret ?_ | refine seqQ_exit ?_ | refine blkQ_norm ?_ | refine blkQ_ret ?_ | refine blkQ_exit ?_ | refine loopQ_norm ?_ | refine loopQ_exit ?_ | refine loopQ_ret ?_ | refine endQ_ret ?_ | refine endQ_norm ?_ | refine endE_ret ?_ | refine endE_norm ?_ | refine endI_ret ?_ | refine endI_norm ?_)
        | (with_reducible refine wp_regK fun K hK => ?_
           simp[hw0, hw1, hw2, hz3, hy3, hg3, ← hv3, hw4, hw5, hw6, hw7, hw8, hw9, hw10, hw11, ht11, hz12, hy12, hg12, ← hv12, hw13, hz14, hy14, hg14, ← hv14, hw15, hw16, hz17, hy17, hg17, ← hv17, hw18, hw19, hw20, hw21, hw22, hw23, hz24, hy24, hg24, ← hv24, hw, hlt]
           repeat' (with_reducible first | refine hK _ ?_ | (refine psel ?_ ?_ <;> (intro hc; (try rw [Decidable.not_not] at hc); first | (try simp [hc, hw0, hw1, hw2, hz3, hy3, hg3, ← hv3, hw4, hw5, hw6, hw7, hw8, hw9, hw10, hw11, ht11, hz12, hy12, hg12, ← hv12, hw13, hz14, hy14, hg14, ← hv14, hw15, hw16, hz17, hy17, hg17, ← hv17, hw18, hw19, hw20, hw21, hw22, hw23, hz24, hy24, hg24, ← hv24, hw, hlt]))))
           all_goals (clear hK; clear K))
        | (with_reducible refine wp_condE ?_
           refine ⟨_, rfl, ?_, ?_⟩ <;> (intro hc; (try simp at hc); skip)))
      all_goals first | exact ⟨(pre ++ [mkTask k1 ⟨y_Op, y_Pc, y_H, y_R, y_Id, ⟨y_Q_Kind, ⟨y_Q_P_Kind, y_Q_P_Col, y_Q_P_Op, ⟨y_Q_P_V_Ty, y_Q_P_V_N, y_Q_P_V_S⟩, y_Q_P_L⟩, y_Q_Col, y_Q_Out⟩, y_Ts, y_Ver, y_L, y_I, y_J, y_S, y_At, y_Own, y_Won, y_Got⟩], rest, w25), by simp [mkTask, hv0, hv1, hv2, hv3, hv4, hv5, hv6, hv7, hv8, hv9, hv10, hv11, hv12, hv13, hv14, hv15, hv16, hv17, hv18, hv19, hv20, hv21, hv22, hv23, hv24], ⟨by simp [mkTask, hv0, hv1, hv2, hv3, hv4, hv5, hv6, hv7, hv8, hv9, hv10, hv11, hv12, hv13, hv14, hv15, hv16, hv17, hv18, hv19, hv20, hv21, hv22, hv23, hv24], hB2, hl2, hZ⟩, by simp⟩ | (exfalso; simp_all; done)

@[simp] theorem t180 (k0 : Bool) (l : List XTask) (k : Int) (h0 : 0 ≤ k) (hc : k + ctTasks l ≤ 4611686018427387904) : Gw TT 180 [.one (.ro k0 (.sl 25 ((mkTasks k l).map XTask.e))), vi k] = some (vi (k + ctTasks l), []) := by
  refine Gw_of (F := pf180) rfl rfl ?_
  show Wp _ pb180 _ _
  unfold pb180
  generalize hM : mkTasks k l = M
  have hlen := ctTasks_len l
  repeat' (first
    | with_reducible (first | refine wp_seq ?_ | refine wp_blk ?_ | refine wp_skip ?_ | refine wp_exit ?_ | refine wp_ret ?_ | refine seqQ_norm ?_ | refine seqQ_ret ?_ | refine seqQ_exit ?_ | refine blkQ_norm ?_ | refine blkQ_ret ?_ | refine blkQ_exit ?_ | refine loopQ_norm ?_ | refine loopQ_exit ?_ | refine loopQ_ret ?_ | refine endQ_ret ?_ | refine endQ_norm ?_ | refine endE_ret ?_ | refine endE_norm ?_ | refine endI_ret ?_ | refine endI_norm ?_)
    | (with_reducible refine wp_regK fun K hK => ?_
       simp
       repeat' (with_reducible first | refine hK _ ?_ | (refine psel ?_ ?_ <;> (intro hc; (try rw [Decidable.not_not] at hc); first | (exfalso; omega) | (try simp [hc]))))
       all_goals (clear hK; clear K))
    | (with_reducible refine wp_condE ?_
       refine ⟨_, rfl, ?_, ?_⟩ <;> (intro hc; (try simp at hc); (all_goals first | (exfalso; omega) | skip))))
  · refine wp_loopI (σ := List XTask × List XTask × Int) (fun s => [(0, AV.v k0 (D.sl 25 (M.map XTask.e)), none), (1, AV.v false (di s.2.2), none), (5, AV.v false (di ((s.1.length : Nat) : Int)), none)]) (fun s => M = s.1 ++ mkTasks s.2.2 s.2.1 ∧ s.2.2 + ctTasks s.2.1 = k + ctTasks l ∧ s.1.length + s.2.1.length = l.length ∧ 0 ≤ s.2.2) (fun s => s.2.1.length) ([], l, k) (by simp [hM]) ⟨hM.symm, rfl, by simp, h0⟩ ?_
    rintro ⟨pre, rest, k1⟩ ⟨h1, h2, h3, h4⟩
    simp only at h1 h2 h3 h4
    rcases rest with _ | ⟨⟨y_Op, y_Pc, y_H, y_R, y_Id, ⟨y_Q_Kind, ⟨y_Q_P_Kind, y_Q_P_Col, y_Q_P_Op, ⟨y_Q_P_V_Ty, y_Q_P_V_N, y_Q_P_V_S⟩, y_Q_P_L⟩, y_Q_Col, y_Q_Out⟩, y_Ts, y_Ver, y_L, y_I, y_J, y_S, y_At, y_Own, y_Won, y_Got⟩, rest⟩
    · unfold pl180_0
      simp only [mkTasks, ctTasks, List.append_nil, Int.add_zero] at h1 h2
      subst h1
      repeat' (first
        | with_reducible (first | refine wp_seq ?_ | refine wp_blk ?_ | refine wp_skip ?_ | refine wp_exit ?_ | refine wp_ret ?_ | refine seqQ_norm ?_ | refine seqQ_ret ?_ | refine seqQ_exit ?_ | refine blkQ_norm ?_ | refine blkQ_ret ?_ | refine blkQ_exit ?_ | refine loopQ_norm ?_ | refine loopQ_exit ?_ | refine loopQ_ret ?_ | refine endQ_ret ?_ | refine endQ_norm ?_ | refine endE_ret ?_ | refine endE_norm ?_ | refine endI_ret ?_ | refine endI_norm ?_)
        | (with_reducible refine wp_regK fun K hK => ?_
           simp
           repeat' (with_reducible first | refine hK _ ?_ | (refine psel ?_ ?_ <;> (intro hc; (try rw [Decidable.not_not] at hc); first | (exfalso; omega) | (try simp [hc]))))
           all_goals (clear hK; clear K))
        | (with_reducible refine wp_condE ?_
           refine ⟨_, rfl, ?_, ?_⟩ <;> (intro hc; (try simp at hc); (all_goals first | (exfalso; omega) | skip))))
      all_goals simp [pf180, h2]
    · unfold pl180_0
      simp only [mkTasks, ctTasks, mkTask, ctTask, List.length_cons] at h1 h2 h3
      have hnr := ctTasks_nn rest
      have hw : IntKind.wrap .i64 ((pre.length : Int) + 1) = (pre.length : Int) + 1 := wrap_i64 (by omega) (by omega)
      have hlt : (pre.length : Int) < (pre.length : Int) + ((rest.length : Int) + 1) := by omega
      have hl2 : (pre ++ [mkTask k1 ⟨y_Op, y_Pc, y_H, y_R, y_Id, ⟨y_Q_Kind, ⟨y_Q_P_Kind, y_Q_P_Col, y_Q_P_Op, ⟨y_Q_P_V_Ty, y_Q_P_V_N, y_Q_P_V_S⟩, y_Q_P_L⟩, y_Q_Col, y_Q_Out⟩, y_Ts, y_Ver, y_L, y_I, y_J, y_S, y_At, y_Own, y_Won, y_Got⟩]).length + rest.length = l.length := by simp only [List.length_append, List.length_cons, List.length_nil]; omega
      have hB2 : k1 + (1 + 1 + 1 + ctVals y_R + 1 + 1 + 1 + 1 + 1 + 1 + 1 + 1 + ctPreds y_Q_P_L + 1 + ctInts y_Q_Out + 1 + 1 + ctRefs y_L + 1 + 1 + 1 + 1 + 1 + 1 + ctRows y_Got) + ctTasks rest = k + ctTasks l := by omega
      obtain ⟨w1, w2, w3, w4, w5, w6, w7, w8, w9, w10, w11, w12, w13, w14, w15, w16, w17, w18, w19, w20, w21, w22, w23, w24, w25, hv0, hw0, hv1, hw1, hv2, hw2, hv3, hz3, hy3, hg3, hv4, hw4, hv5, hw5, hv6, hw6, hv7, hw7, hv8, hw8, hv9, hw9, hv10, hw10, hv11, hw11, ht11, hv12, hz12, hy12, hg12, hv13, hw13, hv14, hz14, hy14, hg14, hv15, hw15, hv16, hw16, hv17, hz17, hy17, hg17, hv18, hw18, hv19, hw19, hv20, hw20, hv21, hw21, hv22, hw22, hv23, hw23, hv24, hz24, hy24, hg24, hE, hZ⟩ := chainTask k1 (ctVals y_R) (ctPreds y_Q_P_L) (ctInts y_Q_Out) (ctRefs y_L) (ctRows y_Got) h4 (ctVals_nn y_R) (ctPreds_nn y_Q_P_L) (ctInts_nn y_Q_Out) (ctRefs_nn y_L) (ctRows_nn y_Got) (by omega)
      rw [hE] at h1 hB2
      try simp only [← hv0, ← hv1, ← hv2, ← hv3, ← hv4, ← hv5, ← hv6, ← hv7, ← hv8, ← hv9, ← hv10, ← hv11, ← hv12, ← hv13, ← hv14, ← hv15, ← hv16, ← hv17, ← hv18, ← hv19, ← hv20, ← hv21, ← hv22, ← hv23, ← hv24] at h1
      subst h1
      repeat' (first
        | with_reducible (first | refine wp_seq ?_ | refine wp_blk ?_ | refine wp_skip ?_ | refine wp_exit ?_ | refine wp_ret ?_ | refine seqQ_norm ?_ | refine seqQ_ret ?_ | refine seqQ_exit ?_ | refine blkQ_norm ?_ | refine blkQ_ret ?_ | refine blkQ_exit ?_ | refine loopQ_norm ?_ | refine loopQ_exit ?_ | refine loopQ_ret ?_ | refine endQ_ret ?_ | refine endQ_norm ?_ | refine endE_ret ?_ | refine endE_norm ?_ | refine endI_ret ?_ | refine endI_norm ?_)
        | (with_reducible refine wp_regK fun K hK => ?_
           simp[hw0, hw1, hw2, hz3, hy3, hg3, ← hv3, hw4, hw5, hw6, hw7, hw8, hw9, hw10, hw11, ht11, hz12, hy12, hg12, ← hv12, hw13, hz14, hy14, hg14, ← hv14, hw15, hw16, hz17, hy17, hg17, ← hv17, hw18, hw19, hw20, hw21, hw22, hw23, hz24, hy24, hg24, ← hv24, hw, hlt]
           repeat' (with_reducible first | refine hK _ ?_ | (refine psel ?_ ?_ <;> (intro hc; (try rw [Decidable.not_not] at hc); first | (try simp [hc, hw0, hw1, hw2, hz3, hy3, hg3, ← hv3, hw4, hw5, hw6, hw7, hw8, hw9, hw10, hw11, ht11, hz12, hy12, hg12, ← hv12, hw13, hz14, hy14, hg14, ← hv14, hw15, hw16, hz17, hy17, hg17, ← hv17, hw18, hw19, hw20, hw21, hw22, hw23, hz24, hy24, hg24, ← hv24, hw, hlt]))))
           all_goals (clear hK; clear K))
        | (with_reducible refine wp_condE ?_
           refine ⟨_, rfl, ?_, ?_⟩ <;> (intro hc; (try simp at hc); skip)))
      all_goals first | exact ⟨(pre ++ [mkTask k1 ⟨y_Op, y_Pc, y_H, y_R, y_Id, ⟨y_Q_Kind, ⟨y_Q_P_Kind, y_Q_P_Col, y_Q_P_Op, ⟨y_Q_P_V_Ty, y_Q_P_V_N, y_Q_P_V_S⟩, y_Q_P_L⟩, y_Q_Col, y_Q_Out⟩, y_Ts, y_Ver, y_L, y_I, y_J, y_S, y_At, y_Own, y_Won, y_Got⟩], rest, w25), by simp [mkTask, hv0, hv1, hv2, hv3, hv4, hv5, hv6, hv7, hv8, hv9, hv10, hv11, hv12, hv13, hv14, hv15, hv16, hv17, hv18, hv19, hv20, hv21, hv22, hv23, hv24], ⟨by simp [mkTask, hv0, hv1, hv2, hv3, hv4, hv5, hv6, hv7, hv8, hv9, hv10, hv11, hv12, hv13, hv14, hv15, hv16, hv17, hv18, hv19, hv20, hv21, hv22, hv23, hv24], hB2, hl2, hZ⟩, by simp⟩ | (exfalso; simp_all; done)

@[simp] theorem t188 (l : List XDeed) (k : Int) (h0 : 0 ≤ k) (hc : k + ctDeeds l ≤ 4611686018427387904) : Gw TT 188 [.one (.own (.sl 25 (l.map XDeed.e))), vi k] = some (vi (k + ctDeeds l), [(0, 0, .own (.sl 25 ((mkDeeds k l).map XDeed.e)))]) := by
  refine Gw_of (F := pf188) rfl rfl ?_
  show Wp _ pb188 _ _
  unfold pb188
  generalize hM : mkDeeds k l = M
  have hlen := ctDeeds_len l
  repeat' (first
    | with_reducible (first | refine wp_seq ?_ | refine wp_blk ?_ | refine wp_skip ?_ | refine wp_exit ?_ | refine wp_ret ?_ | refine seqQ_norm ?_ | refine seqQ_ret ?_ | refine seqQ_exit ?_ | refine blkQ_norm ?_ | refine blkQ_ret ?_ | refine blkQ_exit ?_ | refine loopQ_norm ?_ | refine loopQ_exit ?_ | refine loopQ_ret ?_ | refine endQ_ret ?_ | refine endQ_norm ?_ | refine endE_ret ?_ | refine endE_norm ?_ | refine endI_ret ?_ | refine endI_norm ?_)
    | (with_reducible refine wp_regK fun K hK => ?_
       simp
       repeat' (with_reducible first | refine hK _ ?_ | (refine psel ?_ ?_ <;> (intro hc; (try rw [Decidable.not_not] at hc); first | (exfalso; omega) | (try simp [hc]))))
       all_goals (clear hK; clear K))
    | (with_reducible refine wp_condE ?_
       refine ⟨_, rfl, ?_, ?_⟩ <;> (intro hc; (try simp at hc); (all_goals first | (exfalso; omega) | skip))))
  · refine wp_loopI (σ := List XDeed × List XDeed × Int) (fun s => [(0, AV.pl 0 0 [], some (Rt.vir [C.own (D.sl 25 (s.1.map XDeed.e ++ s.2.1.map XDeed.e))])), (1, AV.v false (di s.2.2), none), (5, AV.v false (di ((s.1.length : Nat) : Int)), none)]) (fun s => M = s.1 ++ mkDeeds s.2.2 s.2.1 ∧ s.2.2 + ctDeeds s.2.1 = k + ctDeeds l ∧ s.1.length + s.2.1.length = l.length ∧ 0 ≤ s.2.2) (fun s => s.2.1.length) ([], l, k) (by simp) ⟨hM.symm, rfl, by simp, h0⟩ ?_
    rintro ⟨pre, rest, k1⟩ ⟨h1, h2, h3, h4⟩
    simp only at h1 h2 h3 h4
    rcases rest with _ | ⟨⟨y_Op, y_Task, y_R, y_Id, ⟨y_Q_Kind, ⟨y_Q_P_Kind, y_Q_P_Col, y_Q_P_Op, ⟨y_Q_P_V_Ty, y_Q_P_V_N, y_Q_P_V_S⟩, y_Q_P_L⟩, y_Q_Col, y_Q_Out⟩, ⟨y_Res_Rows, y_Res_N, y_Res_Has, ⟨y_Res_V_Ty, y_Res_V_N, y_Res_V_S⟩⟩, y_Code, y_Stamp, y_Inv, y_Lin, y_Ret⟩, rest⟩
    · unfold pl188_0
      simp only [mkDeeds, ctDeeds, List.append_nil, Int.add_zero] at h1 h2
      subst h1
      repeat' (first
        | with_reducible (first | refine wp_seq ?_ | refine wp_blk ?_ | refine wp_skip ?_ | refine wp_exit ?_ | refine wp_ret ?_ | refine seqQ_norm ?_ | refine seqQ_ret ?_ | refine seqQ_exit ?_ | refine blkQ_norm ?_ | refine blkQ_ret ?_ | refine blkQ_exit ?_ | refine loopQ_norm ?_ | refine loopQ_exit ?_ | refine loopQ_ret ?_ | refine endQ_ret ?_ | refine endQ_norm ?_ | refine endE_ret ?_ | refine endE_norm ?_ | refine endI_ret ?_ | refine endI_norm ?_)
        | (with_reducible refine wp_regK fun K hK => ?_
           simp
           repeat' (with_reducible first | refine hK _ ?_ | (refine psel ?_ ?_ <;> (intro hc; (try rw [Decidable.not_not] at hc); first | (exfalso; omega) | (try simp [hc]))))
           all_goals (clear hK; clear K))
        | (with_reducible refine wp_condE ?_
           refine ⟨_, rfl, ?_, ?_⟩ <;> (intro hc; (try simp at hc); (all_goals first | (exfalso; omega) | skip))))
      all_goals simp [pf188, h2]
    · unfold pl188_0
      simp only [mkDeeds, ctDeeds, mkDeed, ctDeed, List.length_cons] at h1 h2 h3
      have hnr := ctDeeds_nn rest
      have hw : IntKind.wrap .i64 ((pre.length : Int) + 1) = (pre.length : Int) + 1 := wrap_i64 (by omega) (by omega)
      have hlt : (pre.length : Int) < (pre.length : Int) + ((rest.length : Int) + 1) := by omega
      have hl2 : (pre ++ [mkDeed k1 ⟨y_Op, y_Task, y_R, y_Id, ⟨y_Q_Kind, ⟨y_Q_P_Kind, y_Q_P_Col, y_Q_P_Op, ⟨y_Q_P_V_Ty, y_Q_P_V_N, y_Q_P_V_S⟩, y_Q_P_L⟩, y_Q_Col, y_Q_Out⟩, ⟨y_Res_Rows, y_Res_N, y_Res_Has, ⟨y_Res_V_Ty, y_Res_V_N, y_Res_V_S⟩⟩, y_Code, y_Stamp, y_Inv, y_Lin, y_Ret⟩]).length + rest.length = l.length := by simp only [List.length_append, List.length_cons, List.length_nil]; omega
      have hB2 : k1 + (1 + 1 + ctVals y_R + 1 + 1 + 1 + 1 + 1 + 1 + 1 + 1 + ctPreds y_Q_P_L + 1 + ctInts y_Q_Out + ctRows y_Res_Rows + 1 + 1 + 1 + 1 + 1 + 1 + 1 + 1 + 1 + 1) + ctDeeds rest = k + ctDeeds l := by omega
      obtain ⟨w1, w2, w3, w4, w5, w6, w7, w8, w9, w10, w11, w12, w13, w14, w15, w16, w17, w18, w19, w20, w21, w22, w23, w24, w25, hv0, hw0, hv1, hw1, hv2, hz2, hy2, hg2, hv3, hw3, hv4, hw4, hv5, hw5, hv6, hw6, hv7, hw7, hv8, hw8, hv9, hw9, hv10, hw10, ht10, hv11, hz11, hy11, hg11, hv12, hw12, hv13, hz13, hy13, hg13, hv14, hz14, hy14, hg14, hv15, hw15, hv16, hw16, hv17, hw17, hv18, hw18, hv19, hw19, ht19, hv20, hw20, hv21, hw21, hv22, hw22, hv23, hw23, hv24, hw24, hE, hZ⟩ := chainDeed k1 (ctVals y_R) (ctPreds y_Q_P_L) (ctInts y_Q_Out) (ctRows y_Res_Rows) h4 (ctVals_nn y_R) (ctPreds_nn y_Q_P_L) (ctInts_nn y_Q_Out) (ctRows_nn y_Res_Rows) (by omega)
      rw [hE] at h1 hB2
      try simp only [← hv0, ← hv1, ← hv2, ← hv3, ← hv4, ← hv5, ← hv6, ← hv7, ← hv8, ← hv9, ← hv10, ← hv11, ← hv12, ← hv13, ← hv14, ← hv15, ← hv16, ← hv17, ← hv18, ← hv19, ← hv20, ← hv21, ← hv22, ← hv23, ← hv24] at h1
      subst h1
      repeat' (first
        | with_reducible (first | refine wp_seq ?_ | refine wp_blk ?_ | refine wp_skip ?_ | refine wp_exit ?_ | refine wp_ret ?_ | refine seqQ_norm ?_ | refine seqQ_ret ?_ | refine seqQ_exit ?_ | refine blkQ_norm ?_ | refine blkQ_ret ?_ | refine blkQ_exit ?_ | refine loopQ_norm ?_ | refine loopQ_exit ?_ | refine loopQ_ret ?_ | refine endQ_ret ?_ | refine endQ_norm ?_ | refine endE_ret ?_ | refine endE_norm ?_ | refine endI_ret ?_ | refine endI_norm ?_)
        | (with_reducible refine wp_regK fun K hK => ?_
           simp[hw0, hw1, hz2, hy2, hg2, ← hv2, hw3, hw4, hw5, hw6, hw7, hw8, hw9, hw10, ht10, hz11, hy11, hg11, ← hv11, hw12, hz13, hy13, hg13, ← hv13, hz14, hy14, hg14, ← hv14, hw15, hw16, hw17, hw18, hw19, ht19, hw20, hw21, hw22, hw23, hw24, hw, hlt]
           repeat' (with_reducible first | refine hK _ ?_ | (refine psel ?_ ?_ <;> (intro hc; (try rw [Decidable.not_not] at hc); first | (try simp [hc, hw0, hw1, hz2, hy2, hg2, ← hv2, hw3, hw4, hw5, hw6, hw7, hw8, hw9, hw10, ht10, hz11, hy11, hg11, ← hv11, hw12, hz13, hy13, hg13, ← hv13, hz14, hy14, hg14, ← hv14, hw15, hw16, hw17, hw18, hw19, ht19, hw20, hw21, hw22, hw23, hw24, hw, hlt]))))
           all_goals (clear hK; clear K))
        | (with_reducible refine wp_condE ?_
           refine ⟨_, rfl, ?_, ?_⟩ <;> (intro hc; (try simp at hc); skip)))
      all_goals first | exact ⟨(pre ++ [mkDeed k1 ⟨y_Op, y_Task, y_R, y_Id, ⟨y_Q_Kind, ⟨y_Q_P_Kind, y_Q_P_Col, y_Q_P_Op, ⟨y_Q_P_V_Ty, y_Q_P_V_N, y_Q_P_V_S⟩, y_Q_P_L⟩, y_Q_Col, y_Q_Out⟩, ⟨y_Res_Rows, y_Res_N, y_Res_Has, ⟨y_Res_V_Ty, y_Res_V_N, y_Res_V_S⟩⟩, y_Code, y_Stamp, y_Inv, y_Lin, y_Ret⟩], rest, w25), by simp [mkDeed, hv0, hv1, hv2, hv3, hv4, hv5, hv6, hv7, hv8, hv9, hv10, hv11, hv12, hv13, hv14, hv15, hv16, hv17, hv18, hv19, hv20, hv21, hv22, hv23, hv24], ⟨by simp [mkDeed, hv0, hv1, hv2, hv3, hv4, hv5, hv6, hv7, hv8, hv9, hv10, hv11, hv12, hv13, hv14, hv15, hv16, hv17, hv18, hv19, hv20, hv21, hv22, hv23, hv24], hB2, hl2, hZ⟩, by simp⟩ | (exfalso; simp_all; done)

@[simp] theorem t173 (k0 : Bool) (l : List XDeed) (k : Int) (h0 : 0 ≤ k) (hc : k + ctDeeds l ≤ 4611686018427387904) : Gw TT 173 [.one (.ro k0 (.sl 25 ((mkDeeds k l).map XDeed.e))), vi k] = some (vi (k + ctDeeds l), []) := by
  refine Gw_of (F := pf173) rfl rfl ?_
  show Wp _ pb173 _ _
  unfold pb173
  generalize hM : mkDeeds k l = M
  have hlen := ctDeeds_len l
  repeat' (first
    | with_reducible (first | refine wp_seq ?_ | refine wp_blk ?_ | refine wp_skip ?_ | refine wp_exit ?_ | refine wp_ret ?_ | refine seqQ_norm ?_ | refine seqQ_ret ?_ | refine seqQ_exit ?_ | refine blkQ_norm ?_ | refine blkQ_ret ?_ | refine blkQ_exit ?_ | refine loopQ_norm ?_ | refine loopQ_exit ?_ | refine loopQ_ret ?_ | refine endQ_ret ?_ | refine endQ_norm ?_ | refine endE_ret ?_ | refine endE_norm ?_ | refine endI_ret ?_ | refine endI_norm ?_)
    | (with_reducible refine wp_regK fun K hK => ?_
       simp
       repeat' (with_reducible first | refine hK _ ?_ | (refine psel ?_ ?_ <;> (intro hc; (try rw [Decidable.not_not] at hc); first | (exfalso; omega) | (try simp [hc]))))
       all_goals (clear hK; clear K))
    | (with_reducible refine wp_condE ?_
       refine ⟨_, rfl, ?_, ?_⟩ <;> (intro hc; (try simp at hc); (all_goals first | (exfalso; omega) | skip))))
  · refine wp_loopI (σ := List XDeed × List XDeed × Int) (fun s => [(0, AV.v k0 (D.sl 25 (M.map XDeed.e)), none), (1, AV.v false (di s.2.2), none), (5, AV.v false (di ((s.1.length : Nat) : Int)), none)]) (fun s => M = s.1 ++ mkDeeds s.2.2 s.2.1 ∧ s.2.2 + ctDeeds s.2.1 = k + ctDeeds l ∧ s.1.length + s.2.1.length = l.length ∧ 0 ≤ s.2.2) (fun s => s.2.1.length) ([], l, k) (by simp [hM]) ⟨hM.symm, rfl, by simp, h0⟩ ?_
    rintro ⟨pre, rest, k1⟩ ⟨h1, h2, h3, h4⟩
    simp only at h1 h2 h3 h4
    rcases rest with _ | ⟨⟨y_Op, y_Task, y_R, y_Id, ⟨y_Q_Kind, ⟨y_Q_P_Kind, y_Q_P_Col, y_Q_P_Op, ⟨y_Q_P_V_Ty, y_Q_P_V_N, y_Q_P_V_S⟩, y_Q_P_L⟩, y_Q_Col, y_Q_Out⟩, ⟨y_Res_Rows, y_Res_N, y_Res_Has, ⟨y_Res_V_Ty, y_Res_V_N, y_Res_V_S⟩⟩, y_Code, y_Stamp, y_Inv, y_Lin, y_Ret⟩, rest⟩
    · unfold pl173_0
      simp only [mkDeeds, ctDeeds, List.append_nil, Int.add_zero] at h1 h2
      subst h1
      repeat' (first
        | with_reducible (first | refine wp_seq ?_ | refine wp_blk ?_ | refine wp_skip ?_ | refine wp_exit ?_ | refine wp_ret ?_ | refine seqQ_norm ?_ | refine seqQ_ret ?_ | refine seqQ_exit ?_ | refine blkQ_norm ?_ | refine blkQ_ret ?_ | refine blkQ_exit ?_ | refine loopQ_norm ?_ | refine loopQ_exit ?_ | refine loopQ_ret ?_ | refine endQ_ret ?_ | refine endQ_norm ?_ | refine endE_ret ?_ | refine endE_norm ?_ | refine endI_ret ?_ | refine endI_norm ?_)
        | (with_reducible refine wp_regK fun K hK => ?_
           simp
           repeat' (with_reducible first | refine hK _ ?_ | (refine psel ?_ ?_ <;> (intro hc; (try rw [Decidable.not_not] at hc); first | (exfalso; omega) | (try simp [hc]))))
           all_goals (clear hK; clear K))
        | (with_reducible refine wp_condE ?_
           refine ⟨_, rfl, ?_, ?_⟩ <;> (intro hc; (try simp at hc); (all_goals first | (exfalso; omega) | skip))))
      all_goals simp [pf173, h2]
    · unfold pl173_0
      simp only [mkDeeds, ctDeeds, mkDeed, ctDeed, List.length_cons] at h1 h2 h3
      have hnr := ctDeeds_nn rest
      have hw : IntKind.wrap .i64 ((pre.length : Int) + 1) = (pre.length : Int) + 1 := wrap_i64 (by omega) (by omega)
      have hlt : (pre.length : Int) < (pre.length : Int) + ((rest.length : Int) + 1) := by omega
      have hl2 : (pre ++ [mkDeed k1 ⟨y_Op, y_Task, y_R, y_Id, ⟨y_Q_Kind, ⟨y_Q_P_Kind, y_Q_P_Col, y_Q_P_Op, ⟨y_Q_P_V_Ty, y_Q_P_V_N, y_Q_P_V_S⟩, y_Q_P_L⟩, y_Q_Col, y_Q_Out⟩, ⟨y_Res_Rows, y_Res_N, y_Res_Has, ⟨y_Res_V_Ty, y_Res_V_N, y_Res_V_S⟩⟩, y_Code, y_Stamp, y_Inv, y_Lin, y_Ret⟩]).length + rest.length = l.length := by simp only [List.length_append, List.length_cons, List.length_nil]; omega
      have hB2 : k1 + (1 + 1 + ctVals y_R + 1 + 1 + 1 + 1 + 1 + 1 + 1 + 1 + ctPreds y_Q_P_L + 1 + ctInts y_Q_Out + ctRows y_Res_Rows + 1 + 1 + 1 + 1 + 1 + 1 + 1 + 1 + 1 + 1) + ctDeeds rest = k + ctDeeds l := by omega
      obtain ⟨w1, w2, w3, w4, w5, w6, w7, w8, w9, w10, w11, w12, w13, w14, w15, w16, w17, w18, w19, w20, w21, w22, w23, w24, w25, hv0, hw0, hv1, hw1, hv2, hz2, hy2, hg2, hv3, hw3, hv4, hw4, hv5, hw5, hv6, hw6, hv7, hw7, hv8, hw8, hv9, hw9, hv10, hw10, ht10, hv11, hz11, hy11, hg11, hv12, hw12, hv13, hz13, hy13, hg13, hv14, hz14, hy14, hg14, hv15, hw15, hv16, hw16, hv17, hw17, hv18, hw18, hv19, hw19, ht19, hv20, hw20, hv21, hw21, hv22, hw22, hv23, hw23, hv24, hw24, hE, hZ⟩ := chainDeed k1 (ctVals y_R) (ctPreds y_Q_P_L) (ctInts y_Q_Out) (ctRows y_Res_Rows) h4 (ctVals_nn y_R) (ctPreds_nn y_Q_P_L) (ctInts_nn y_Q_Out) (ctRows_nn y_Res_Rows) (by omega)
      rw [hE] at h1 hB2
      try simp only [← hv0, ← hv1, ← hv2, ← hv3, ← hv4, ← hv5, ← hv6, ← hv7, ← hv8, ← hv9, ← hv10, ← hv11, ← hv12, ← hv13, ← hv14, ← hv15, ← hv16, ← hv17, ← hv18, ← hv19, ← hv20, ← hv21, ← hv22, ← hv23, ← hv24] at h1
      subst h1
      repeat' (first
        | with_reducible (first | refine wp_seq ?_ | refine wp_blk ?_ | refine wp_skip ?_ | refine wp_exit ?_ | refine wp_ret ?_ | refine seqQ_norm ?_ | refine seqQ_ret ?_ | refine seqQ_exit ?_ | refine blkQ_norm ?_ | refine blkQ_ret ?_ | refine blkQ_exit ?_ | refine loopQ_norm ?_ | refine loopQ_exit ?_ | refine loopQ_ret ?_ | refine endQ_ret ?_ | refine endQ_norm ?_ | refine endE_ret ?_ | refine endE_norm ?_ | refine endI_ret ?_ | refine endI_norm ?_)
        | (with_reducible refine wp_regK fun K hK => ?_
           simp[hw0, hw1, hz2, hy2, hg2, ← hv2, hw3, hw4, hw5, hw6, hw7, hw8, hw9, hw10, ht10, hz11, hy11, hg11, ← hv11, hw12, hz13, hy13, hg13, ← hv13, hz14, hy14, hg14, ← hv14, hw15, hw16, hw17, hw18, hw19, ht19, hw20, hw21, hw22, hw23, hw24, hw, hlt]
           repeat' (with_reducible first | refine hK _ ?_ | (refine psel ?_ ?_ <;> (intro hc; (try rw [Decidable.not_not] at hc); first | (try simp [hc, hw0, hw1, hz2, hy2, hg2, ← hv2, hw3, hw4, hw5, hw6, hw7, hw8, hw9, hw10, ht10, hz11, hy11, hg11, ← hv11, hw12, hz13, hy13, hg13, ← hv13, hz14, hy14, hg14, ← hv14, hw15, hw16, hw17, hw18, hw19, ht19, hw20, hw21, hw22, hw23, hw24, hw, hlt]))))
           all_goals (clear hK; clear K))
        | (with_reducible refine wp_condE ?_
           refine ⟨_, rfl, ?_, ?_⟩ <;> (intro hc; (try simp at hc); skip)))
      all_goals first | exact ⟨(pre ++ [mkDeed k1 ⟨y_Op, y_Task, y_R, y_Id, ⟨y_Q_Kind, ⟨y_Q_P_Kind, y_Q_P_Col, y_Q_P_Op, ⟨y_Q_P_V_Ty, y_Q_P_V_N, y_Q_P_V_S⟩, y_Q_P_L⟩, y_Q_Col, y_Q_Out⟩, ⟨y_Res_Rows, y_Res_N, y_Res_Has, ⟨y_Res_V_Ty, y_Res_V_N, y_Res_V_S⟩⟩, y_Code, y_Stamp, y_Inv, y_Lin, y_Ret⟩], rest, w25), by simp [mkDeed, hv0, hv1, hv2, hv3, hv4, hv5, hv6, hv7, hv8, hv9, hv10, hv11, hv12, hv13, hv14, hv15, hv16, hv17, hv18, hv19, hv20, hv21, hv22, hv23, hv24], ⟨by simp [mkDeed, hv0, hv1, hv2, hv3, hv4, hv5, hv6, hv7, hv8, hv9, hv10, hv11, hv12, hv13, hv14, hv15, hv16, hv17, hv18, hv19, hv20, hv21, hv22, hv23, hv24], hB2, hl2, hZ⟩, by simp⟩ | (exfalso; simp_all; done)

@[simp] theorem t198 (x_C_Cols : List Int) (x_C_Slots : Int) (x_C_Bufs : Int) (x_Time : Int) (x_T : Int) (x_E : Int) (x_Dd_Ver : Int) (x_Dd_L : List XRef) (x_B : List XBuf) (x_M : List Int) (x_X : List XDead) (x_P : List Int) (x_Tasks : List XTask) (x_Deeds : List XDeed) (k : Int) (h0 : 0 ≤ k) (hc : k + ctInts x_C_Cols + ctRefs x_Dd_L + ctBufs x_B + ctInts x_M + ctDeads x_X + ctInts x_P + ctTasks x_Tasks + ctDeeds x_Deeds ≤ 4611686018427387904) : Gw TT 198 [.st [.own (.sl 1 (x_C_Cols.map ei)), .ro false (di x_C_Slots), .ro false (di x_C_Bufs), .ro false (di x_Time), .ro false (di x_T), .ro false (di x_E), .ro false (di x_Dd_Ver), .own (.sl 5 (x_Dd_L.map XRef.e)), .own (.sl 5 (x_B.map XBuf.e)), .own (.sl 1 (x_M.map ei)), .own (.sl 3 (x_X.map XDead.e)), .own (.sl 1 (x_P.map ei)), .own (.sl 25 (x_Tasks.map XTask.e)), .own (.sl 25 (x_Deeds.map XDeed.e))], vi k] = some (vi (k + ctInts x_C_Cols + ctRefs x_Dd_L + ctBufs x_B + ctInts x_M + ctDeads x_X + ctInts x_P + ctTasks x_Tasks + ctDeeds x_Deeds), [(0, 0, .own (.sl 1 ((mkInts (k) x_C_Cols).map ei))), (0, 7, .own (.sl 5 ((mkRefs (k + ctInts x_C_Cols) x_Dd_L).map XRef.e))), (0, 8, .own (.sl 5 ((mkBufs (k + ctInts x_C_Cols + ctRefs x_Dd_L) x_B).map XBuf.e))), (0, 9, .own (.sl 1 ((mkInts (k + ctInts x_C_Cols + ctRefs x_Dd_L + ctBufs x_B) x_M).map ei))), (0, 10, .own (.sl 3 ((mkDeads (k + ctInts x_C_Cols + ctRefs x_Dd_L + ctBufs x_B + ctInts x_M) x_X).map XDead.e))), (0, 11, .own (.sl 1 ((mkInts (k + ctInts x_C_Cols + ctRefs x_Dd_L + ctBufs x_B + ctInts x_M + ctDeads x_X) x_P).map ei))), (0, 12, .own (.sl 25 ((mkTasks (k + ctInts x_C_Cols + ctRefs x_Dd_L + ctBufs x_B + ctInts x_M + ctDeads x_X + ctInts x_P) x_Tasks).map XTask.e))), (0, 13, .own (.sl 25 ((mkDeeds (k + ctInts x_C_Cols + ctRefs x_Dd_L + ctBufs x_B + ctInts x_M + ctDeads x_X + ctInts x_P + ctTasks x_Tasks) x_Deeds).map XDeed.e)))]) := by
  refine Gw_of (F := pf198) rfl rfl ?_
  show Wp _ pb198 _ _
  unfold pb198
  have hn_x_C_Cols := ctInts_nn x_C_Cols
  have hn_x_Dd_L := ctRefs_nn x_Dd_L
  have hn_x_B := ctBufs_nn x_B
  have hn_x_M := ctInts_nn x_M
  have hn_x_X := ctDeads_nn x_X
  have hn_x_P := ctInts_nn x_P
  have hn_x_Tasks := ctTasks_nn x_Tasks
  have hn_x_Deeds := ctDeeds_nn x_Deeds
  have hz0 : 0 ≤ k := by omega
  have hy0 : k + ctInts x_C_Cols ≤ 4611686018427387904 := by omega
  have hz7 : 0 ≤ k + ctInts x_C_Cols := by omega
  have hy7 : k + ctInts x_C_Cols + ctRefs x_Dd_L ≤ 4611686018427387904 := by omega
  have hz8 : 0 ≤ k + ctInts x_C_Cols + ctRefs x_Dd_L := by omega
  have hy8 : k + ctInts x_C_Cols + ctRefs x_Dd_L + ctBufs x_B ≤ 4611686018427387904 := by omega
  have hz9 : 0 ≤ k + ctInts x_C_Cols + ctRefs x_Dd_L + ctBufs x_B := by omega
  have hy9 : k + ctInts x_C_Cols + ctRefs x_Dd_L + ctBufs x_B + ctInts x_M ≤ 4611686018427387904 := by omega
  have hz10 : 0 ≤ k + ctInts x_C_Cols + ctRefs x_Dd_L + ctBufs x_B + ctInts x_M := by omega
  have hy10 : k + ctInts x_C_Cols + ctRefs x_Dd_L + ctBufs x_B + ctInts x_M + ctDeads x_X ≤ 4611686018427387904 := by omega
  have hz11 : 0 ≤ k + ctInts x_C_Cols + ctRefs x_Dd_L + ctBufs x_B + ctInts x_M + ctDeads x_X := by omega
  have hy11 : k + ctInts x_C_Cols + ctRefs x_Dd_L + ctBufs x_B + ctInts x_M + ctDeads x_X + ctInts x_P ≤ 4611686018427387904 := by omega
  have hz12 : 0 ≤ k + ctInts x_C_Cols + ctRefs x_Dd_L + ctBufs x_B + ctInts x_M + ctDeads x_X + ctInts x_P := by omega
  have hy12 : k + ctInts x_C_Cols + ctRefs x_Dd_L + ctBufs x_B + ctInts x_M + ctDeads x_X + ctInts x_P + ctTasks x_Tasks ≤ 4611686018427387904 := by omega
  have hz13 : 0 ≤ k + ctInts x_C_Cols + ctRefs x_Dd_L + ctBufs x_B + ctInts x_M + ctDeads x_X + ctInts x_P + ctTasks x_Tasks := by omega
  have hy13 : k + ctInts x_C_Cols + ctRefs x_Dd_L + ctBufs x_B + ctInts x_M + ctDeads x_X + ctInts x_P + ctTasks x_Tasks + ctDeeds x_Deeds ≤ 4611686018427387904 := by omega
  repeat' (first
    | with_reducible (first | refine wp_seq ?_ | refine wp_blk ?_ | refine wp_skip ?_ | refine wp_exit ?_ | refine wp_ret ?_ | refine seqQ_norm ?_ | refine seqQ_ret ?_ | refine seqQ_exit ?_ | refine blkQ_norm ?_ | refine blkQ_ret ?_ | refine blkQ_exit ?_ | refine loopQ_norm ?_ | refine loopQ_exit ?_ | refine loopQ_ret ?_ | refine endQ_ret ?_ | refine endQ_norm ?_ | refine endE_ret ?_ | refine endE_norm ?_ | refine endI_ret ?_ | refine endI_norm ?_)
    | (with_reducible refine wp_regK fun K hK => ?_
       simp[hz0, hy0, hz7, hy7, hz8, hy8, hz9, hy9, hz10, hy10, hz11, hy11, hz12, hy12, hz13, hy13]
       repeat' (with_reducible first | refine hK _ ?_ | (refine psel ?_ ?_ <;> (intro hc; (try rw [Decidable.not_not] at hc); first | (exfalso; omega) | (try simp [hc, hz0, hy0, hz7, hy7, hz8, hy8, hz9, hy9, hz10, hy10, hz11, hy11, hz12, hy12, hz13, hy13]))))
       all_goals (clear hK; clear K))
    | (with_reducible refine wp_condE ?_
       refine ⟨_, rfl, ?_, ?_⟩ <;> (intro hc; (try simp at hc); (all_goals first | (exfalso; omega) | skip))))
  all_goals first | (simp [pf198]; done) | (exfalso; omega)

@[simp] theorem t182 (k0 : Bool) (x_C_Cols : List Int) (x_C_Slots : Int) (x_C_Bufs : Int) (x_Time : Int) (x_T : Int) (x_E : Int) (x_Dd_Ver : Int) (x_Dd_L : List XRef) (x_B : List XBuf) (x_M : List Int) (x_X : List XDead) (x_P : List Int) (x_Tasks : List XTask) (x_Deeds : List XDeed) (k : Int) (h0 : 0 ≤ k) (hc : k + ctInts x_C_Cols + ctRefs x_Dd_L + ctBufs x_B + ctInts x_M + ctDeads x_X + ctInts x_P + ctTasks x_Tasks + ctDeeds x_Deeds ≤ 4611686018427387904) : Gw TT 182 [.st [.ro k0 (.sl 1 ((mkInts (k) x_C_Cols).map ei)), .ro false (di x_C_Slots), .ro false (di x_C_Bufs), .ro false (di x_Time), .ro false (di x_T), .ro false (di x_E), .ro false (di x_Dd_Ver), .ro k0 (.sl 5 ((mkRefs (k + ctInts x_C_Cols) x_Dd_L).map XRef.e)), .ro k0 (.sl 5 ((mkBufs (k + ctInts x_C_Cols + ctRefs x_Dd_L) x_B).map XBuf.e)), .ro k0 (.sl 1 ((mkInts (k + ctInts x_C_Cols + ctRefs x_Dd_L + ctBufs x_B) x_M).map ei)), .ro k0 (.sl 3 ((mkDeads (k + ctInts x_C_Cols + ctRefs x_Dd_L + ctBufs x_B + ctInts x_M) x_X).map XDead.e)), .ro k0 (.sl 1 ((mkInts (k + ctInts x_C_Cols + ctRefs x_Dd_L + ctBufs x_B + ctInts x_M + ctDeads x_X) x_P).map ei)), .ro k0 (.sl 25 ((mkTasks (k + ctInts x_C_Cols + ctRefs x_Dd_L + ctBufs x_B + ctInts x_M + ctDeads x_X + ctInts x_P) x_Tasks).map XTask.e)), .ro k0 (.sl 25 ((mkDeeds (k + ctInts x_C_Cols + ctRefs x_Dd_L + ctBufs x_B + ctInts x_M + ctDeads x_X + ctInts x_P + ctTasks x_Tasks) x_Deeds).map XDeed.e))], vi k] = some (vi (k + ctInts x_C_Cols + ctRefs x_Dd_L + ctBufs x_B + ctInts x_M + ctDeads x_X + ctInts x_P + ctTasks x_Tasks + ctDeeds x_Deeds), []) := by
  refine Gw_of (F := pf182) rfl rfl ?_
  show Wp _ pb182 _ _
  unfold pb182
  have hn_x_C_Cols := ctInts_nn x_C_Cols
  have hn_x_Dd_L := ctRefs_nn x_Dd_L
  have hn_x_B := ctBufs_nn x_B
  have hn_x_M := ctInts_nn x_M
  have hn_x_X := ctDeads_nn x_X
  have hn_x_P := ctInts_nn x_P
  have hn_x_Tasks := ctTasks_nn x_Tasks
  have hn_x_Deeds := ctDeeds_nn x_Deeds
  have hz0 : 0 ≤ k := by omega
  have hy0 : k + ctInts x_C_Cols ≤ 4611686018427387904 := by omega
  have hz7 : 0 ≤ k + ctInts x_C_Cols := by omega
  have hy7 : k + ctInts x_C_Cols + ctRefs x_Dd_L ≤ 4611686018427387904 := by omega
  have hz8 : 0 ≤ k + ctInts x_C_Cols + ctRefs x_Dd_L := by omega
  have hy8 : k + ctInts x_C_Cols + ctRefs x_Dd_L + ctBufs x_B ≤ 4611686018427387904 := by omega
  have hz9 : 0 ≤ k + ctInts x_C_Cols + ctRefs x_Dd_L + ctBufs x_B := by omega
  have hy9 : k + ctInts x_C_Cols + ctRefs x_Dd_L + ctBufs x_B + ctInts x_M ≤ 4611686018427387904 := by omega
  have hz10 : 0 ≤ k + ctInts x_C_Cols + ctRefs x_Dd_L + ctBufs x_B + ctInts x_M := by omega
  have hy10 : k + ctInts x_C_Cols + ctRefs x_Dd_L + ctBufs x_B + ctInts x_M + ctDeads x_X ≤ 4611686018427387904 := by omega
  have hz11 : 0 ≤ k + ctInts x_C_Cols + ctRefs x_Dd_L + ctBufs x_B + ctInts x_M + ctDeads x_X := by omega
  have hy11 : k + ctInts x_C_Cols + ctRefs x_Dd_L + ctBufs x_B + ctInts x_M + ctDeads x_X + ctInts x_P ≤ 4611686018427387904 := by omega
  have hz12 : 0 ≤ k + ctInts x_C_Cols + ctRefs x_Dd_L + ctBufs x_B + ctInts x_M + ctDeads x_X + ctInts x_P := by omega
  have hy12 : k + ctInts x_C_Cols + ctRefs x_Dd_L + ctBufs x_B + ctInts x_M + ctDeads x_X + ctInts x_P + ctTasks x_Tasks ≤ 4611686018427387904 := by omega
  have hz13 : 0 ≤ k + ctInts x_C_Cols + ctRefs x_Dd_L + ctBufs x_B + ctInts x_M + ctDeads x_X + ctInts x_P + ctTasks x_Tasks := by omega
  have hy13 : k + ctInts x_C_Cols + ctRefs x_Dd_L + ctBufs x_B + ctInts x_M + ctDeads x_X + ctInts x_P + ctTasks x_Tasks + ctDeeds x_Deeds ≤ 4611686018427387904 := by omega
  repeat' (first
    | with_reducible (first | refine wp_seq ?_ | refine wp_blk ?_ | refine wp_skip ?_ | refine wp_exit ?_ | refine wp_ret ?_ | refine seqQ_norm ?_ | refine seqQ_ret ?_ | refine seqQ_exit ?_ | refine blkQ_norm ?_ | refine blkQ_ret ?_ | refine blkQ_exit ?_ | refine loopQ_norm ?_ | refine loopQ_exit ?_ | refine loopQ_ret ?_ | refine endQ_ret ?_ | refine endQ_norm ?_ | refine endE_ret ?_ | refine endE_norm ?_ | refine endI_ret ?_ | refine endI_norm ?_)
    | (with_reducible refine wp_regK fun K hK => ?_
       simp[hz0, hy0, hz7, hy7, hz8, hy8, hz9, hy9, hz10, hy10, hz11, hy11, hz12, hy12, hz13, hy13]
       repeat' (with_reducible first | refine hK _ ?_ | (refine psel ?_ ?_ <;> (intro hc; (try rw [Decidable.not_not] at hc); first | (exfalso; omega) | (try simp [hc, hz0, hy0, hz7, hy7, hz8, hy8, hz9, hy9, hz10, hy10, hz11, hy11, hz12, hy12, hz13, hy13]))))
       all_goals (clear hK; clear K))
    | (with_reducible refine wp_condE ?_
       refine ⟨_, rfl, ?_, ?_⟩ <;> (intro hc; (try simp at hc); (all_goals first | (exfalso; omega) | skip))))
  all_goals first | (simp [pf182]; done) | (exfalso; omega)

def zTask : XTask := ⟨0, 0, 0, [], 0, ⟨0, ⟨0, 0, 0, ⟨0, 0, ⟨#[]⟩⟩, []⟩, 0, []⟩, 0, 0, [], 0, 0, 0, 0, 0, false, []⟩

def worldNewF (c : List Int) (s b : Int) : XWorld := if confOk c s b = true then ⟨⟨c, s, b⟩, 0, 1, 0, ⟨0, []⟩, poolNewF b, [], [], List.replicate 5 (-1), List.replicate 5 zTask, []⟩ else ⟨⟨[], 0, 0⟩, 0, 0, 0, ⟨0, []⟩, [], [], [], [], [], []⟩

theorem zTask_sm : XTask.sm zTask := by
  simp [XTask.sm, zTask, XVal.sms, XQuery.sm, XPred.sm, XPred.sms, XVal.sm, XRow.sms]
  all_goals decide

theorem worldNewF_sm (c : List Int) (s b : Int) (h : c.length ≤ 1048576) : (worldNewF c s b).C.Cols.length ≤ 1048576 ∧ (worldNewF c s b).Dd.L.length ≤ 1048576 ∧ (worldNewF c s b).B.length ≤ 1048576 ∧ XBuf.sms (worldNewF c s b).B ∧ (worldNewF c s b).M.length ≤ 1048576 ∧ (worldNewF c s b).X.length ≤ 1048576 ∧ (worldNewF c s b).P.length ≤ 1048576 ∧ (worldNewF c s b).Tasks.length ≤ 1048576 ∧ XTask.sms (worldNewF c s b).Tasks ∧ (worldNewF c s b).Deeds.length ≤ 1048576 ∧ XDeed.sms (worldNewF c s b).Deeds := by
  have h1 := poolNewF_len b
  have h2 := poolNewF_sms b
  have h3 : XTask.sms (List.replicate 5 zTask) := fun y hy => by obtain ⟨_, rfl⟩ := List.mem_replicate.1 hy; exact zTask_sm
  unfold worldNewF
  split
  · refine ⟨?_, ?_, ?_, ?_, ?_, ?_, ?_, ?_, ?_, ?_, ?_⟩ <;> first | exact h | exact h1 | exact h2 | exact h3 | (simp; done) | (intro y hy; simp at hy)
  · refine ⟨?_, ?_, ?_, ?_, ?_, ?_, ?_, ?_, ?_, ?_, ?_⟩ <;> first | (simp; done) | (intro y hy; simp at hy)

theorem worldNewF_ct (c : List Int) (s b : Int) (h : c.length ≤ 1048576) : 1 + ctInts (worldNewF c s b).C.Cols + ctRefs (worldNewF c s b).Dd.L + ctBufs (worldNewF c s b).B + ctInts (worldNewF c s b).M + ctDeads (worldNewF c s b).X + ctInts (worldNewF c s b).P + ctTasks (worldNewF c s b).Tasks + ctDeeds (worldNewF c s b).Deeds ≤ 4611686018427387904 := by
  have h1 := poolNewF_len b
  have h2 := ctBufs_le (poolNewF b) (poolNewF_sms b)
  have h3 := ctInts_le c
  unfold worldNewF
  split
  · simp [ctRefs, ctDeads, ctInts, ctDeeds, ctTasks, ctTask, zTask, ctVals, ctPreds, ctRows, List.replicate, ctInt]
    omega
  · simp [ctRefs, ctDeads, ctInts, ctDeeds, ctTasks, ctBufs]

@[simp] theorem t72 (k0 : Bool) (l : List Int) (h : l.length ≤ 1048576) : Gw TT 72 [.one (.ro k0 (.sl 1 (l.map ei)))] = some (.one (.own (.sl 1 (l.map ei))), []) := by
  refine Gw_of (F := pf72) rfl rfl ?_
  show Wp _ pb72 _ _
  unfold pb72
  have hq : l.length * 8 ≤ 70368744177664 := by omega
  repeat' (first
    | with_reducible (first | refine wp_seq ?_ | refine wp_blk ?_ | refine wp_skip ?_ | refine wp_exit ?_ | refine wp_ret ?_ | refine seqQ_norm ?_ | refine seqQ_ret ?_ | refine seqQ_exit ?_ | refine blkQ_norm ?_ | refine blkQ_ret ?_ | refine blkQ_exit ?_ | refine loopQ_norm ?_ | refine loopQ_exit ?_ | refine loopQ_ret ?_ | refine endQ_ret ?_ | refine endQ_norm ?_ | refine endE_ret ?_ | refine endE_norm ?_ | refine endI_ret ?_ | refine endI_norm ?_)
    | (with_reducible refine wp_regK fun K hK => ?_
       simp[h, hq]
       repeat' (with_reducible first | refine hK _ ?_ | (refine psel ?_ ?_ <;> (intro hc; (try rw [Decidable.not_not] at hc); first | (exfalso; omega) | (try simp [hc, h, hq]))))
       all_goals (clear hK; clear K))
    | (with_reducible refine wp_condE ?_
       refine ⟨_, rfl, ?_, ?_⟩ <;> (intro hc; (try simp at hc); (all_goals first | (exfalso; omega) | skip))))
  all_goals first | (simp [pf72]; done) | (exfalso; omega)

@[simp] theorem t65 (k0 : Bool) (c : List Int) (s b : Int) (h : c.length ≤ 1048576) : Gw TT 65 [.st [.ro k0 (.sl 1 (c.map ei)), .ro false (di s), .ro false (di b)]] = some (.st [.own (.sl 1 ((worldNewF c s b).C.Cols.map ei)), .ro false (di (worldNewF c s b).C.Slots), .ro false (di (worldNewF c s b).C.Bufs), .ro false (di (worldNewF c s b).Time), .ro false (di (worldNewF c s b).T), .ro false (di (worldNewF c s b).E), .ro false (di (worldNewF c s b).Dd.Ver), .own (.sl 5 ((worldNewF c s b).Dd.L.map XRef.e)), .own (.sl 5 ((worldNewF c s b).B.map XBuf.e)), .own (.sl 1 ((worldNewF c s b).M.map ei)), .own (.sl 3 ((worldNewF c s b).X.map XDead.e)), .own (.sl 1 ((worldNewF c s b).P.map ei)), .own (.sl 25 ((worldNewF c s b).Tasks.map XTask.e)), .own (.sl 25 ((worldNewF c s b).Deeds.map XDeed.e))], []) := by
  refine Gw_of (F := pf65) rfl rfl ?_
  show Wp _ pb65 _ _
  unfold pb65
  have hq : c.length * 8 ≤ 70368744177664 := by omega
  cases hA : confOk c s b with
  | true =>
    repeat' (first
      | with_reducible (first | refine wp_seq ?_ | refine wp_blk ?_ | refine wp_skip ?_ | refine wp_exit ?_ | refine wp_ret ?_ | refine seqQ_norm ?_ | refine seqQ_ret ?_ | refine seqQ_exit ?_ | refine blkQ_norm ?_ | refine blkQ_ret ?_ | refine blkQ_exit ?_ | refine loopQ_norm ?_ | refine loopQ_exit ?_ | refine loopQ_ret ?_ | refine endQ_ret ?_ | refine endQ_norm ?_ | refine endE_ret ?_ | refine endE_norm ?_ | refine endI_ret ?_ | refine endI_norm ?_)
      | (with_reducible refine wp_loop (c := pl65_0) ?_
         conv => arg 2; unfold pl65_0)
      | (with_reducible refine wp_regK fun K hK => ?_
         simp[h, hA, hq]
         repeat' (with_reducible first | refine hK _ ?_ | (refine psel ?_ ?_ <;> (intro hc; (try rw [Decidable.not_not] at hc); first | (exfalso; omega) | (try simp [hc, h, hA, hq]))))
         all_goals (clear hK; clear K))
      | (with_reducible refine wp_condE ?_
         refine ⟨_, rfl, ?_, ?_⟩ <;> (intro hc; (try simp at hc); (all_goals first | (exfalso; omega) | skip))))
    all_goals first | (simp [pf65, worldNewF, hA, zTask, List.replicate]; done) | (exfalso; omega)
  | false =>
    repeat' (first
      | with_reducible (first | refine wp_seq ?_ | refine wp_blk ?_ | refine wp_skip ?_ | refine wp_exit ?_ | refine wp_ret ?_ | refine seqQ_norm ?_ | refine seqQ_ret ?_ | refine seqQ_exit ?_ | refine blkQ_norm ?_ | refine blkQ_ret ?_ | refine blkQ_exit ?_ | refine loopQ_norm ?_ | refine loopQ_exit ?_ | refine loopQ_ret ?_ | refine endQ_ret ?_ | refine endQ_norm ?_ | refine endE_ret ?_ | refine endE_norm ?_ | refine endI_ret ?_ | refine endI_norm ?_)
      | (with_reducible refine wp_regK fun K hK => ?_
         simp[h, hA, hq]
         repeat' (with_reducible first | refine hK _ ?_ | (refine psel ?_ ?_ <;> (intro hc; (try rw [Decidable.not_not] at hc); first | (exfalso; omega) | (try simp [hc, h, hA, hq]))))
         all_goals (clear hK; clear K))
      | (with_reducible refine wp_condE ?_
         refine ⟨_, rfl, ?_, ?_⟩ <;> (intro hc; (try simp at hc); (all_goals first | (exfalso; omega) | skip))))
    all_goals first | (simp [pf65, worldNewF, hA]; done) | (exfalso; omega)

@[simp] theorem t346 (k0 : Bool) (c : List Int) (s b : Int) (h : c.length ≤ 1048576) : Gw TT 346 [.st [.ro k0 (.sl 1 (c.map ei)), .ro false (di s), .ro false (di b)]] = some (.st [.own (.sl 1 ((worldNewF c s b).C.Cols.map ei)), .ro false (di (worldNewF c s b).C.Slots), .ro false (di (worldNewF c s b).C.Bufs), .ro false (di (worldNewF c s b).Time), .ro false (di (worldNewF c s b).T), .ro false (di (worldNewF c s b).E), .ro false (di (worldNewF c s b).Dd.Ver), .own (.sl 5 ((worldNewF c s b).Dd.L.map XRef.e)), .own (.sl 5 ((worldNewF c s b).B.map XBuf.e)), .own (.sl 1 ((worldNewF c s b).M.map ei)), .own (.sl 3 ((worldNewF c s b).X.map XDead.e)), .own (.sl 1 ((worldNewF c s b).P.map ei)), .own (.sl 25 ((worldNewF c s b).Tasks.map XTask.e)), .own (.sl 25 ((worldNewF c s b).Deeds.map XDeed.e))], []) := by
  refine Gw_of (F := pf346) rfl rfl ?_
  show Wp _ pb346 _ _
  unfold pb346
  have hq : c.length * 8 ≤ 70368744177664 := by omega
  cases hA : confOk c s b with
  | true =>
    repeat' (first
      | with_reducible (first | refine wp_seq ?_ | refine wp_blk ?_ | refine wp_skip ?_ | refine wp_exit ?_ | refine wp_ret ?_ | refine seqQ_norm ?_ | refine seqQ_ret ?_ | refine seqQ_exit ?_ | refine blkQ_norm ?_ | refine blkQ_ret ?_ | refine blkQ_exit ?_ | refine loopQ_norm ?_ | refine loopQ_exit ?_ | refine loopQ_ret ?_ | refine endQ_ret ?_ | refine endQ_norm ?_ | refine endE_ret ?_ | refine endE_norm ?_ | refine endI_ret ?_ | refine endI_norm ?_)
      | (with_reducible refine wp_loop (c := pl346_0) ?_
         conv => arg 2; unfold pl346_0)
      | (with_reducible refine wp_regK fun K hK => ?_
         simp[h, hA, hq]
         repeat' (with_reducible first | refine hK _ ?_ | (refine psel ?_ ?_ <;> (intro hc; (try rw [Decidable.not_not] at hc); first | (exfalso; omega) | (try simp [hc, h, hA, hq]))))
         all_goals (clear hK; clear K))
      | (with_reducible refine wp_condE ?_
         refine ⟨_, rfl, ?_, ?_⟩ <;> (intro hc; (try simp at hc); (all_goals first | (exfalso; omega) | skip))))
    all_goals first | (simp [pf346, worldNewF, hA, zTask, List.replicate]; done) | (exfalso; omega)
  | false =>
    repeat' (first
      | with_reducible (first | refine wp_seq ?_ | refine wp_blk ?_ | refine wp_skip ?_ | refine wp_exit ?_ | refine wp_ret ?_ | refine seqQ_norm ?_ | refine seqQ_ret ?_ | refine seqQ_exit ?_ | refine blkQ_norm ?_ | refine blkQ_ret ?_ | refine blkQ_exit ?_ | refine loopQ_norm ?_ | refine loopQ_exit ?_ | refine loopQ_ret ?_ | refine endQ_ret ?_ | refine endQ_norm ?_ | refine endE_ret ?_ | refine endE_norm ?_ | refine endI_ret ?_ | refine endI_norm ?_)
      | (with_reducible refine wp_regK fun K hK => ?_
         simp[h, hA, hq]
         repeat' (with_reducible first | refine hK _ ?_ | (refine psel ?_ ?_ <;> (intro hc; (try rw [Decidable.not_not] at hc); first | (exfalso; omega) | (try simp [hc, h, hA, hq]))))
         all_goals (clear hK; clear K))
      | (with_reducible refine wp_condE ?_
         refine ⟨_, rfl, ?_, ?_⟩ <;> (intro hc; (try simp at hc); (all_goals first | (exfalso; omega) | skip))))
    all_goals first | (simp [pf346, worldNewF, hA]; done) | (exfalso; omega)

theorem t137 (aC_Cols : List Int) (aC_Slots : Int) (aC_Bufs : Int) (hok_aC_Cols : aC_Cols.length ≤ 9223372036854775807) : Gw TT 137 [.st [.ro false (.sl 1 (aC_Cols.map ei)), .ro false (di aC_Slots), .ro false (di aC_Bufs)]] = some (vb true, []) := by
  refine Gw_of (F := pf137) rfl rfl ?_
  show Wp _ pb137 _ _
  unfold pb137
  obtain ⟨n1, g1, a1, b1, s1⟩ := t214 false aC_Cols aC_Slots aC_Bufs 1048576 (by omega) (by omega) hok_aC_Cols
  repeat' (first
    | with_reducible (first | refine wp_seq ?_ | refine wp_blk ?_ | refine wp_skip ?_ | refine wp_exit ?_ | refine wp_ret ?_ | refine seqQ_norm ?_ | refine seqQ_ret ?_ | refine seqQ_exit ?_ | refine blkQ_norm ?_ | refine blkQ_ret ?_ | refine blkQ_exit ?_ | refine loopQ_norm ?_ | refine loopQ_exit ?_ | refine loopQ_ret ?_ | refine endQ_ret ?_ | refine endQ_norm ?_ | refine endE_ret ?_ | refine endE_norm ?_ | refine endI_ret ?_ | refine endI_norm ?_)
    | (with_reducible refine wp_regK fun K hK => ?_
       simp[g1]
       repeat' (with_reducible first | refine hK _ ?_ | (refine psel ?_ ?_ <;> (intro hc; (try rw [Decidable.not_not] at hc); first | (exfalso; omega) | (try simp [hc, g1]))))
       all_goals (clear hK; clear K))
    | (with_reducible refine wp_condE ?_
       refine ⟨_, rfl, ?_, ?_⟩ <;> (intro hc; (try simp at hc); (all_goals first | (exfalso; omega) | skip))))
  · simp [pf137]
  have q1 := s1 (by omega)
  have hsm_aC_Cols := q1
  have hwf := worldNewF_sm aC_Cols aC_Slots aC_Bufs hsm_aC_Cols
  obtain ⟨hf0, hf1, hf2, hf3, hf4, hf5, hf6, hf7, hf8, hf9, hf10⟩ := hwf
  have cb1 := worldNewF_ct aC_Cols aC_Slots aC_Bufs hsm_aC_Cols
  have cc := ctInts_le aC_Cols
  have cn := ctInts_nn aC_Cols
  have cb0 : 1 + ctInts aC_Cols ≤ 4611686018427387904 := by omega
  have cz0 := ctInts_nn (worldNewF aC_Cols aC_Slots aC_Bufs).C.Cols
  have cz1 := ctRefs_nn (worldNewF aC_Cols aC_Slots aC_Bufs).Dd.L
  have cz2 := ctBufs_nn (worldNewF aC_Cols aC_Slots aC_Bufs).B
  have cz3 := ctInts_nn (worldNewF aC_Cols aC_Slots aC_Bufs).M
  have cz4 := ctDeads_nn (worldNewF aC_Cols aC_Slots aC_Bufs).X
  have cz5 := ctInts_nn (worldNewF aC_Cols aC_Slots aC_Bufs).P
  have cz6 := ctTasks_nn (worldNewF aC_Cols aC_Slots aC_Bufs).Tasks
  have cz7 := ctDeeds_nn (worldNewF aC_Cols aC_Slots aC_Bufs).Deeds
  repeat' (first
    | with_reducible (first | refine wp_seq ?_ | refine wp_blk ?_ | refine wp_skip ?_ | refine wp_exit ?_ | refine wp_ret ?_ | refine seqQ_norm ?_ | refine seqQ_ret ?_ | refine seqQ_exit ?_ | refine blkQ_norm ?_ | refine blkQ_ret ?_ | refine blkQ_exit ?_ | refine loopQ_norm ?_ | refine loopQ_exit ?_ | refine loopQ_ret ?_ | refine endQ_ret ?_ | refine endQ_norm ?_ | refine endE_ret ?_ | refine endE_norm ?_ | refine endI_ret ?_ | refine endI_norm ?_)
    | (with_reducible refine wp_regK fun K hK => ?_
       simp[hsm_aC_Cols, hf0, hf1, hf2, hf3, hf4, hf5, hf6, hf7, hf8, hf9, hf10, cb0, cb1]
       repeat' (with_reducible first | refine hK _ ?_ | (refine psel ?_ ?_ <;> (intro hc; (try rw [Decidable.not_not] at hc); first | (exfalso; omega) | (try simp [hc, hsm_aC_Cols, hf0, hf1, hf2, hf3, hf4, hf5, hf6, hf7, hf8, hf9, hf10, cb0, cb1]))))
       all_goals (clear hK; clear K))
    | (with_reducible refine wp_condE ?_
       refine ⟨_, rfl, ?_, ?_⟩ <;> (intro hc; (try simp at hc); (all_goals first | (exfalso; omega) | skip))))
  all_goals first | (simp [pf137]; done) | (simp_all [pf137]; done)

end Go.Proofs.Ytnadnanmgakkfaa.OM
