/- What the functions answer. -/
import Derived.Test.YtkgibccknlbiaaaOMTypes
import Derived.Test.YtkgibccknlbiaaaOMTac2
import Derived.Test.YtkgibccknlbiaaaXOpenSlotsPc0
set_option linter.all false
namespace Go.Proofs.Ytkgibccknlbiaaa.OM
set_option maxHeartbeats 4000000
set_option maxRecDepth 100000

def tab : List (Nat × PF) := [(35, pf35), (59, pf59), (68, pf68), (116, pf116), (142, pf142), (143, pf143), (144, pf144), (145, pf145), (146, pf146), (147, pf147), (148, pf148), (149, pf149), (150, pf150), (151, pf151), (152, pf152), (153, pf153), (154, pf154), (155, pf155), (156, pf156), (157, pf157), (158, pf158), (159, pf159), (160, pf160), (161, pf161), (162, pf162), (163, pf163), (164, pf164), (165, pf165), (166, pf166), (167, pf167), (210, pf210), (211, pf211), (212, pf212), (213, pf213), (214, pf214), (215, pf215), (216, pf216), (217, pf217), (218, pf218), (219, pf219), (220, pf220), (221, pf221), (222, pf222), (223, pf223), (224, pf224), (225, pf225), (226, pf226), (227, pf227), (228, pf228), (229, pf229), (230, pf230), (231, pf231), (232, pf232), (233, pf233), (234, pf234), (235, pf235), (236, pf236), (237, pf237), (238, pf238), (239, pf239), (240, pf240), (241, pf241), (242, pf242), (243, pf243), (244, pf244), (245, pf245), (246, pf246), (247, pf247), (248, pf248), (249, pf249), (250, pf250), (251, pf251), (252, pf252), (253, pf253), (254, pf254), (255, pf255), (256, pf256), (257, pf257), (258, pf258), (259, pf259), (311, pf311), (316, pf316), (340, pf340), (377, pf377)]
def TT (k : Nat) : Option PF := tab.lookup k

@[simp] theorem t244 (k0 : Bool) (l : List Int) (h : l.length ≤ 1048576)  : Gw TT 244 [.one (.ro k0 (.sl 1 (l.map ei)))] = some (.one (.own (.sl 1 (l.map ei))), []) := by
  refine Gw_of (F := pf244) rfl rfl ?_
  show Wp _ pb244 _ _
  unfold pb244
  repeat' (first
    | with_reducible (first | refine wp_seq ?_ | refine wp_blk ?_ | refine wp_skip ?_ | refine wp_exit ?_ | refine wp_ret ?_ | refine seqQ_norm ?_ | refine seqQ_ret ?_ | refine seqQ_exit ?_ | refine blkQ_norm ?_ | refine blkQ_ret ?_ | refine blkQ_exit ?_ | refine loopQ_norm ?_ | refine loopQ_exit ?_ | refine loopQ_ret ?_ | refine endQ_ret ?_ | refine endQ_norm ?_ | refine endE_ret ?_ | refine endE_norm ?_ | refine endI_ret ?_ | refine endI_norm ?_)
    | (with_reducible refine wp_regK fun K hK => ?_
       simp
       repeat' (with_reducible first | refine hK _ ?_ | (refine psel ?_ ?_ <;> (intro hc; (try rw [Decidable.not_not] at hc); first | (exfalso; omega) | (try simp [hc]))))
       all_goals (clear hK; clear K))
    | (with_reducible refine wp_condE ?_
       refine ⟨_, rfl, ?_, ?_⟩ <;> (intro hc; (try simp at hc); (all_goals first | (exfalso; omega) | skip))))
  · refine wp_loopI (σ := List Int × List Int) (fun s => [(0, AV.v k0 (D.sl 1 (List.map ei l)), none), (3, AV.pl 3 0 [], some (Rt.vir [C.own (D.sl 1 (s.1.map ei ++ List.replicate s.2.length [.int .i64 0]))])), (4, AV.v false (di (s.1.length : Nat)), none)]) (fun s => l = s.1 ++ s.2) (fun s => s.2.length) ([], l) (by simp) rfl ?_
    rintro ⟨pre, rest⟩ h1
    simp only at h1
    subst h1
    simp only [List.length_append, List.length_cons] at h
    rcases rest with _ | ⟨d, rest⟩
    · unfold pl244_0
      repeat' (first
        | with_reducible (first | refine wp_seq ?_ | refine wp_blk ?_ | refine wp_skip ?_ | refine wp_exit ?_ | refine wp_ret ?_ | refine seqQ_norm ?_ | refine seqQ_ret ?_ | refine seqQ_exit ?_ | refine blkQ_norm ?_ | refine blkQ_ret ?_ | refine blkQ_exit ?_ | refine loopQ_norm ?_ | refine loopQ_exit ?_ | refine loopQ_ret ?_ | refine endQ_ret ?_ | refine endQ_norm ?_ | refine endE_ret ?_ | refine endE_norm ?_ | refine endI_ret ?_ | refine endI_norm ?_)
        | (with_reducible refine wp_regK fun K hK => ?_
           simp
           repeat' (with_reducible first | refine hK _ ?_ | (refine psel ?_ ?_ <;> (intro hc; (try rw [Decidable.not_not] at hc); first | (exfalso; omega) | (try simp [hc]))))
           all_goals (clear hK; clear K))
        | (with_reducible refine wp_condE ?_
           refine ⟨_, rfl, ?_, ?_⟩ <;> (intro hc; (try simp at hc); (all_goals first | (exfalso; omega) | skip))))
      all_goals simp [pf244]
    · unfold pl244_0
      simp only [List.length_cons] at h
      have hw : IntKind.wrap .i64 ((pre.length : Int) + 1) = (pre.length : Int) + 1 := wrap_i64 (by omega) (by omega)
      repeat' (first
        | with_reducible (first | refine wp_seq ?_ | refine wp_blk ?_ | refine wp_skip ?_ | refine wp_exit ?_ | refine wp_ret ?_ | refine seqQ_norm ?_ | refine seqQ_ret ?_ | refine seqQ_exit ?_ | refine blkQ_norm ?_ | refine blkQ_ret ?_ | refine blkQ_exit ?_ | refine loopQ_norm ?_ | refine loopQ_exit ?_ | refine loopQ_ret ?_ | refine endQ_ret ?_ | refine endQ_norm ?_ | refine endE_ret ?_ | refine endE_norm ?_ | refine endI_ret ?_ | refine endI_norm ?_)
        | (with_reducible refine wp_regK fun K hK => ?_
           simp[List.replicate_succ, hw]
           repeat' (with_reducible first | refine hK _ ?_ | (refine psel ?_ ?_ <;> (intro hc; (try rw [Decidable.not_not] at hc); first | (exfalso; omega) | (try simp [hc, List.replicate_succ, hw]))))
           all_goals (clear hK; clear K))
        | (with_reducible refine wp_condE ?_
           refine ⟨_, rfl, ?_, ?_⟩ <;> (intro hc; (try simp at hc); (all_goals first | (exfalso; omega) | skip))))
      all_goals exact ⟨(pre ++ [d], rest), by simp, by simp, by simp⟩

@[simp] theorem t152 (k0 k1 : Bool) (l : List Int) (h : l.length ≤ 1048576)  : Gw TT 152 [.one (.ro k0 (.sl 1 (l.map ei))), .one (.ro k1 (.sl 1 (l.map ei)))] = some (vb true, []) := by
  refine Gw_of (F := pf152) rfl rfl ?_
  show Wp _ pb152 _ _
  unfold pb152
  repeat' (first
    | with_reducible (first | refine wp_seq ?_ | refine wp_blk ?_ | refine wp_skip ?_ | refine wp_exit ?_ | refine wp_ret ?_ | refine seqQ_norm ?_ | refine seqQ_ret ?_ | refine seqQ_exit ?_ | refine blkQ_norm ?_ | refine blkQ_ret ?_ | refine blkQ_exit ?_ | refine loopQ_norm ?_ | refine loopQ_exit ?_ | refine loopQ_ret ?_ | refine endQ_ret ?_ | refine endQ_norm ?_ | refine endE_ret ?_ | refine endE_norm ?_ | refine endI_ret ?_ | refine endI_norm ?_)
    | (with_reducible refine wp_regK fun K hK => ?_
       simp
       repeat' (with_reducible first | refine hK _ ?_ | (refine psel ?_ ?_ <;> (intro hc; (try rw [Decidable.not_not] at hc); first | (exfalso; omega) | (try simp [hc]))))
       all_goals (clear hK; clear K))
    | (with_reducible refine wp_condE ?_
       refine ⟨_, rfl, ?_, ?_⟩ <;> (intro hc; (try simp at hc); (all_goals first | (exfalso; omega) | skip))))
  · refine wp_loopI (σ := List Int × List Int) (fun s => [(0, AV.v k0 (D.sl 1 (List.map ei l)), none), (1, AV.v k1 (D.sl 1 (List.map ei l)), none), (5, AV.v false (di (s.1.length : Nat)), none)]) (fun s => l = s.1 ++ s.2) (fun s => s.2.length) ([], l) (by simp) rfl ?_
    rintro ⟨pre, rest⟩ h1
    simp only at h1
    subst h1
    simp only [List.length_append, List.length_cons] at h
    rcases rest with _ | ⟨d, rest⟩
    · unfold pl152_0
      repeat' (first
        | with_reducible (first | refine wp_seq ?_ | refine wp_blk ?_ | refine wp_skip ?_ | refine wp_exit ?_ | refine wp_ret ?_ | refine seqQ_norm ?_ | refine seqQ_ret ?_ | refine seqQ_exit ?_ | refine blkQ_norm ?_ | refine blkQ_ret ?_ | refine blkQ_exit ?_ | refine loopQ_norm ?_ | refine loopQ_exit ?_ | refine loopQ_ret ?_ | refine endQ_ret ?_ | refine endQ_norm ?_ | refine endE_ret ?_ | refine endE_norm ?_ | refine endI_ret ?_ | refine endI_norm ?_)
        | (with_reducible refine wp_regK fun K hK => ?_
           simp
           repeat' (with_reducible first | refine hK _ ?_ | (refine psel ?_ ?_ <;> (intro hc; (try rw [Decidable.not_not] at hc); first | (exfalso; omega) | (try simp [hc]))))
           all_goals (clear hK; clear K))
        | (with_reducible refine wp_condE ?_
           refine ⟨_, rfl, ?_, ?_⟩ <;> (intro hc; (try simp at hc); (all_goals first | (exfalso; omega) | skip))))
      all_goals simp [pf152]
    · unfold pl152_0
      simp only [List.length_cons] at h
      have hw : IntKind.wrap .i64 ((pre.length : Int) + 1) = (pre.length : Int) + 1 := wrap_i64 (by omega) (by omega)
      repeat' (first
        | with_reducible (first | refine wp_seq ?_ | refine wp_blk ?_ | refine wp_skip ?_ | refine wp_exit ?_ | refine wp_ret ?_ | refine seqQ_norm ?_ | refine seqQ_ret ?_ | refine seqQ_exit ?_ | refine blkQ_norm ?_ | refine blkQ_ret ?_ | refine blkQ_exit ?_ | refine loopQ_norm ?_ | refine loopQ_exit ?_ | refine loopQ_ret ?_ | refine endQ_ret ?_ | refine endQ_norm ?_ | refine endE_ret ?_ | refine endE_norm ?_ | refine endI_ret ?_ | refine endI_norm ?_)
        | (with_reducible refine wp_regK fun K hK => ?_
           simp[hw]
           repeat' (with_reducible first | refine hK _ ?_ | (refine psel ?_ ?_ <;> (intro hc; (try rw [Decidable.not_not] at hc); first | (exfalso; omega) | (try simp [hc, hw]))))
           all_goals (clear hK; clear K))
        | (with_reducible refine wp_condE ?_
           refine ⟨_, rfl, ?_, ?_⟩ <;> (intro hc; (try simp at hc); (all_goals first | (exfalso; omega) | skip))))
      all_goals exact ⟨(pre ++ [d], rest), by simp, by simp, by simp⟩

@[simp] theorem t236 (k0 : Bool) (l : List Int) (h : l.length ≤ 1048576)  : Gw TT 236 [.one (.ro k0 (.sl 1 (l.map eb)))] = some (.one (.own (.sl 1 (l.map eb))), []) := by
  refine Gw_of (F := pf236) rfl rfl ?_
  show Wp _ pb236 _ _
  unfold pb236
  repeat' (first
    | with_reducible (first | refine wp_seq ?_ | refine wp_blk ?_ | refine wp_skip ?_ | refine wp_exit ?_ | refine wp_ret ?_ | refine seqQ_norm ?_ | refine seqQ_ret ?_ | refine seqQ_exit ?_ | refine blkQ_norm ?_ | refine blkQ_ret ?_ | refine blkQ_exit ?_ | refine loopQ_norm ?_ | refine loopQ_exit ?_ | refine loopQ_ret ?_ | refine endQ_ret ?_ | refine endQ_norm ?_ | refine endE_ret ?_ | refine endE_norm ?_ | refine endI_ret ?_ | refine endI_norm ?_)
    | (with_reducible refine wp_regK fun K hK => ?_
       simp
       repeat' (with_reducible first | refine hK _ ?_ | (refine psel ?_ ?_ <;> (intro hc; (try rw [Decidable.not_not] at hc); first | (exfalso; omega) | (try simp [hc]))))
       all_goals (clear hK; clear K))
    | (with_reducible refine wp_condE ?_
       refine ⟨_, rfl, ?_, ?_⟩ <;> (intro hc; (try simp at hc); (all_goals first | (exfalso; omega) | skip))))
  · refine wp_loopI (σ := List Int × List Int) (fun s => [(0, AV.v k0 (D.sl 1 (List.map eb l)), none), (3, AV.pl 3 0 [], some (Rt.vir [C.own (D.sl 1 (s.1.map eb ++ List.replicate s.2.length [.int .u8 0]))])), (4, AV.v false (di (s.1.length : Nat)), none)]) (fun s => l = s.1 ++ s.2) (fun s => s.2.length) ([], l) (by simp) rfl ?_
    rintro ⟨pre, rest⟩ h1
    simp only at h1
    subst h1
    simp only [List.length_append, List.length_cons] at h
    rcases rest with _ | ⟨d, rest⟩
    · unfold pl236_0
      repeat' (first
        | with_reducible (first | refine wp_seq ?_ | refine wp_blk ?_ | refine wp_skip ?_ | refine wp_exit ?_ | refine wp_ret ?_ | refine seqQ_norm ?_ | refine seqQ_ret ?_ | refine seqQ_exit ?_ | refine blkQ_norm ?_ | refine blkQ_ret ?_ | refine blkQ_exit ?_ | refine loopQ_norm ?_ | refine loopQ_exit ?_ | refine loopQ_ret ?_ | refine endQ_ret ?_ | refine endQ_norm ?_ | refine endE_ret ?_ | refine endE_norm ?_ | refine endI_ret ?_ | refine endI_norm ?_)
        | (with_reducible refine wp_regK fun K hK => ?_
           simp
           repeat' (with_reducible first | refine hK _ ?_ | (refine psel ?_ ?_ <;> (intro hc; (try rw [Decidable.not_not] at hc); first | (exfalso; omega) | (try simp [hc]))))
           all_goals (clear hK; clear K))
        | (with_reducible refine wp_condE ?_
           refine ⟨_, rfl, ?_, ?_⟩ <;> (intro hc; (try simp at hc); (all_goals first | (exfalso; omega) | skip))))
      all_goals simp [pf236]
    · unfold pl236_0
      simp only [List.length_cons] at h
      have hw : IntKind.wrap .i64 ((pre.length : Int) + 1) = (pre.length : Int) + 1 := wrap_i64 (by omega) (by omega)
      repeat' (first
        | with_reducible (first | refine wp_seq ?_ | refine wp_blk ?_ | refine wp_skip ?_ | refine wp_exit ?_ | refine wp_ret ?_ | refine seqQ_norm ?_ | refine seqQ_ret ?_ | refine seqQ_exit ?_ | refine blkQ_norm ?_ | refine blkQ_ret ?_ | refine blkQ_exit ?_ | refine loopQ_norm ?_ | refine loopQ_exit ?_ | refine loopQ_ret ?_ | refine endQ_ret ?_ | refine endQ_norm ?_ | refine endE_ret ?_ | refine endE_norm ?_ | refine endI_ret ?_ | refine endI_norm ?_)
        | (with_reducible refine wp_regK fun K hK => ?_
           simp[List.replicate_succ, hw]
           repeat' (with_reducible first | refine hK _ ?_ | (refine psel ?_ ?_ <;> (intro hc; (try rw [Decidable.not_not] at hc); first | (exfalso; omega) | (try simp [hc, List.replicate_succ, hw]))))
           all_goals (clear hK; clear K))
        | (with_reducible refine wp_condE ?_
           refine ⟨_, rfl, ?_, ?_⟩ <;> (intro hc; (try simp at hc); (all_goals first | (exfalso; omega) | skip))))
      all_goals exact ⟨(pre ++ [d], rest), by simp, by simp, by simp⟩

@[simp] theorem t144 (k0 k1 : Bool) (l : List Int) (h : l.length ≤ 1048576)  : Gw TT 144 [.one (.ro k0 (.sl 1 (l.map eb))), .one (.ro k1 (.sl 1 (l.map eb)))] = some (vb true, []) := by
  refine Gw_of (F := pf144) rfl rfl ?_
  show Wp _ pb144 _ _
  unfold pb144
  repeat' (first
    | with_reducible (first | refine wp_seq ?_ | refine wp_blk ?_ | refine wp_skip ?_ | refine wp_exit ?_ | refine wp_ret ?_ | refine seqQ_norm ?_ | refine seqQ_ret ?_ | refine seqQ_exit ?_ | refine blkQ_norm ?_ | refine blkQ_ret ?_ | refine blkQ_exit ?_ | refine loopQ_norm ?_ | refine loopQ_exit ?_ | refine loopQ_ret ?_ | refine endQ_ret ?_ | refine endQ_norm ?_ | refine endE_ret ?_ | refine endE_norm ?_ | refine endI_ret ?_ | refine endI_norm ?_)
    | (with_reducible refine wp_regK fun K hK => ?_
       simp
       repeat' (with_reducible first | refine hK _ ?_ | (refine psel ?_ ?_ <;> (intro hc; (try rw [Decidable.not_not] at hc); first | (exfalso; omega) | (try simp [hc]))))
       all_goals (clear hK; clear K))
    | (with_reducible refine wp_condE ?_
       refine ⟨_, rfl, ?_, ?_⟩ <;> (intro hc; (try simp at hc); (all_goals first | (exfalso; omega) | skip))))
  · refine wp_loopI (σ := List Int × List Int) (fun s => [(0, AV.v k0 (D.sl 1 (List.map eb l)), none), (1, AV.v k1 (D.sl 1 (List.map eb l)), none), (5, AV.v false (di (s.1.length : Nat)), none)]) (fun s => l = s.1 ++ s.2) (fun s => s.2.length) ([], l) (by simp) rfl ?_
    rintro ⟨pre, rest⟩ h1
    simp only at h1
    subst h1
    simp only [List.length_append, List.length_cons] at h
    rcases rest with _ | ⟨d, rest⟩
    · unfold pl144_0
      repeat' (first
        | with_reducible (first | refine wp_seq ?_ | refine wp_blk ?_ | refine wp_skip ?_ | refine wp_exit ?_ | refine wp_ret ?_ | refine seqQ_norm ?_ | refine seqQ_ret ?_ | refine seqQ_exit ?_ | refine blkQ_norm ?_ | refine blkQ_ret ?_ | refine blkQ_exit ?_ | refine loopQ_norm ?_ | refine loopQ_exit ?_ | refine loopQ_ret ?_ | refine endQ_ret ?_ | refine endQ_norm ?_ | refine endE_ret ?_ | refine endE_norm ?_ | refine endI_ret ?_ | refine endI_norm ?_)
        | (with_reducible refine wp_regK fun K hK => ?_
           simp
           repeat' (with_reducible first | refine hK _ ?_ | (refine psel ?_ ?_ <;> (intro hc; (try rw [Decidable.not_not] at hc); first | (exfalso; omega) | (try simp [hc]))))
           all_goals (clear hK; clear K))
        | (with_reducible refine wp_condE ?_
           refine ⟨_, rfl, ?_, ?_⟩ <;> (intro hc; (try simp at hc); (all_goals first | (exfalso; omega) | skip))))
      all_goals simp [pf144]
    · unfold pl144_0
      simp only [List.length_cons] at h
      have hw : IntKind.wrap .i64 ((pre.length : Int) + 1) = (pre.length : Int) + 1 := wrap_i64 (by omega) (by omega)
      repeat' (first
        | with_reducible (first | refine wp_seq ?_ | refine wp_blk ?_ | refine wp_skip ?_ | refine wp_exit ?_ | refine wp_ret ?_ | refine seqQ_norm ?_ | refine seqQ_ret ?_ | refine seqQ_exit ?_ | refine blkQ_norm ?_ | refine blkQ_ret ?_ | refine blkQ_exit ?_ | refine loopQ_norm ?_ | refine loopQ_exit ?_ | refine loopQ_ret ?_ | refine endQ_ret ?_ | refine endQ_norm ?_ | refine endE_ret ?_ | refine endE_norm ?_ | refine endI_ret ?_ | refine endI_norm ?_)
        | (with_reducible refine wp_regK fun K hK => ?_
           simp[hw]
           repeat' (with_reducible first | refine hK _ ?_ | (refine psel ?_ ?_ <;> (intro hc; (try rw [Decidable.not_not] at hc); first | (exfalso; omega) | (try simp [hc, hw]))))
           all_goals (clear hK; clear K))
        | (with_reducible refine wp_condE ?_
           refine ⟨_, rfl, ?_, ?_⟩ <;> (intro hc; (try simp at hc); (all_goals first | (exfalso; omega) | skip))))
      all_goals exact ⟨(pre ++ [d], rest), by simp, by simp, by simp⟩

@[simp] theorem t257 (x_Ty : Int) (x_N : Int) (x_S : ByteArray)  : Gw TT 257 [.st [.ro false (di x_Ty), .ro false (di x_N), .ro false (.str x_S)]] = some (.st [.ro false (di x_Ty), .ro false (di x_N), .ro false (.str x_S)], []) := by
  refine Gw_of (F := pf257) rfl rfl ?_
  show Wp _ pb257 _ _
  unfold pb257
  repeat' (first
    | with_reducible (first | refine wp_seq ?_ | refine wp_blk ?_ | refine wp_skip ?_ | refine wp_exit ?_ | refine wp_ret ?_ | refine seqQ_norm ?_ | refine seqQ_ret ?_ | refine seqQ_exit ?_ | refine blkQ_norm ?_ | refine blkQ_ret ?_ | refine blkQ_exit ?_ | refine loopQ_norm ?_ | refine loopQ_exit ?_ | refine loopQ_ret ?_ | refine endQ_ret ?_ | refine endQ_norm ?_ | refine endE_ret ?_ | refine endE_norm ?_ | refine endI_ret ?_ | refine endI_norm ?_)
    | (with_reducible refine wp_regK fun K hK => ?_
       simp
       repeat' (with_reducible first | refine hK _ ?_ | (refine psel ?_ ?_ <;> (intro hc; (try rw [Decidable.not_not] at hc); first | (exfalso; omega) | (try simp [hc]))))
       all_goals (clear hK; clear K))
    | (with_reducible refine wp_condE ?_
       refine ⟨_, rfl, ?_, ?_⟩ <;> (intro hc; (try simp at hc); (all_goals first | (exfalso; omega) | skip))))
  all_goals simp [pf257]

@[simp] theorem t258 (k0 : Bool) (l : List XVal) (h : l.length ≤ 1048576) (hs : XVal.sms l) : Gw TT 258 [.one (.ro k0 (.sl 3 (l.map XVal.e)))] = some (.one (.own (.sl 3 (l.map XVal.e))), []) := by
  refine Gw_of (F := pf258) rfl rfl ?_
  show Wp _ pb258 _ _
  unfold pb258
  repeat' (first
    | with_reducible (first | refine wp_seq ?_ | refine wp_blk ?_ | refine wp_skip ?_ | refine wp_exit ?_ | refine wp_ret ?_ | refine seqQ_norm ?_ | refine seqQ_ret ?_ | refine seqQ_exit ?_ | refine blkQ_norm ?_ | refine blkQ_ret ?_ | refine blkQ_exit ?_ | refine loopQ_norm ?_ | refine loopQ_exit ?_ | refine loopQ_ret ?_ | refine endQ_ret ?_ | refine endQ_norm ?_ | refine endE_ret ?_ | refine endE_norm ?_ | refine endI_ret ?_ | refine endI_norm ?_)
    | (with_reducible refine wp_regK fun K hK => ?_
       simp
       repeat' (with_reducible first | refine hK _ ?_ | (refine psel ?_ ?_ <;> (intro hc; (try rw [Decidable.not_not] at hc); first | (exfalso; omega) | (try simp [hc]))))
       all_goals (clear hK; clear K))
    | (with_reducible refine wp_condE ?_
       refine ⟨_, rfl, ?_, ?_⟩ <;> (intro hc; (try simp at hc); (all_goals first | (exfalso; omega) | skip))))
  · refine wp_loopI (σ := List XVal × List XVal) (fun s => [(0, AV.v k0 (D.sl 3 (List.map XVal.e l)), none), (3, AV.pl 3 0 [], some (Rt.vir [C.own (D.sl 3 (s.1.map XVal.e ++ List.replicate s.2.length [.int .i64 0, .int .i64 0, .str ⟨#[]⟩]))])), (4, AV.v false (di (s.1.length : Nat)), none)]) (fun s => l = s.1 ++ s.2) (fun s => s.2.length) ([], l) (by simp) rfl ?_
    rintro ⟨pre, rest⟩ h1
    simp only at h1
    subst h1
    simp only [List.length_append, List.length_cons] at h
    rcases rest with _ | ⟨⟨y_Ty, y_N, y_S⟩, rest⟩
    · unfold pl258_0
      repeat' (first
        | with_reducible (first | refine wp_seq ?_ | refine wp_blk ?_ | refine wp_skip ?_ | refine wp_exit ?_ | refine wp_ret ?_ | refine seqQ_norm ?_ | refine seqQ_ret ?_ | refine seqQ_exit ?_ | refine blkQ_norm ?_ | refine blkQ_ret ?_ | refine blkQ_exit ?_ | refine loopQ_norm ?_ | refine loopQ_exit ?_ | refine loopQ_ret ?_ | refine endQ_ret ?_ | refine endQ_norm ?_ | refine endE_ret ?_ | refine endE_norm ?_ | refine endI_ret ?_ | refine endI_norm ?_)
        | (with_reducible refine wp_regK fun K hK => ?_
           simp
           repeat' (with_reducible first | refine hK _ ?_ | (refine psel ?_ ?_ <;> (intro hc; (try rw [Decidable.not_not] at hc); first | (exfalso; omega) | (try simp [hc]))))
           all_goals (clear hK; clear K))
        | (with_reducible refine wp_condE ?_
           refine ⟨_, rfl, ?_, ?_⟩ <;> (intro hc; (try simp at hc); (all_goals first | (exfalso; omega) | skip))))
      all_goals simp [pf258]
    · unfold pl258_0
      simp only [List.length_cons] at h
      have hw : IntKind.wrap .i64 ((pre.length : Int) + 1) = (pre.length : Int) + 1 := wrap_i64 (by omega) (by omega)
      have hd := hs ⟨y_Ty, y_N, y_S⟩ (by simp)
      simp only [XVal.sm, and_assoc] at hd
      have hsm_y_S := hd
      repeat' (first
        | with_reducible (first | refine wp_seq ?_ | refine wp_blk ?_ | refine wp_skip ?_ | refine wp_exit ?_ | refine wp_ret ?_ | refine seqQ_norm ?_ | refine seqQ_ret ?_ | refine seqQ_exit ?_ | refine blkQ_norm ?_ | refine blkQ_ret ?_ | refine blkQ_exit ?_ | refine loopQ_norm ?_ | refine loopQ_exit ?_ | refine loopQ_ret ?_ | refine endQ_ret ?_ | refine endQ_norm ?_ | refine endE_ret ?_ | refine endE_norm ?_ | refine endI_ret ?_ | refine endI_norm ?_)
        | (with_reducible refine wp_regK fun K hK => ?_
           simp[List.replicate_succ, hw, hsm_y_S]
           repeat' (with_reducible first | refine hK _ ?_ | (refine psel ?_ ?_ <;> (intro hc; (try rw [Decidable.not_not] at hc); first | (exfalso; omega) | (try simp [hc, List.replicate_succ, hw, hsm_y_S]))))
           all_goals (clear hK; clear K))
        | (with_reducible refine wp_condE ?_
           refine ⟨_, rfl, ?_, ?_⟩ <;> (intro hc; (try simp at hc); (all_goals first | (exfalso; omega) | skip))))
      all_goals exact ⟨(pre ++ [⟨y_Ty, y_N, y_S⟩], rest), by simp, by simp, by simp⟩

@[simp] theorem t165 (x_Ty : Int) (x_N : Int) (x_S : ByteArray)  : Gw TT 165 [.st [.ro false (di x_Ty), .ro false (di x_N), .ro false (.str x_S)], .st [.ro false (di x_Ty), .ro false (di x_N), .ro false (.str x_S)]] = some (vb true, []) := by
  refine Gw_of (F := pf165) rfl rfl ?_
  show Wp _ pb165 _ _
  unfold pb165
  repeat' (first
    | with_reducible (first | refine wp_seq ?_ | refine wp_blk ?_ | refine wp_skip ?_ | refine wp_exit ?_ | refine wp_ret ?_ | refine seqQ_norm ?_ | refine seqQ_ret ?_ | refine seqQ_exit ?_ | refine blkQ_norm ?_ | refine blkQ_ret ?_ | refine blkQ_exit ?_ | refine loopQ_norm ?_ | refine loopQ_exit ?_ | refine loopQ_ret ?_ | refine endQ_ret ?_ | refine endQ_norm ?_ | refine endE_ret ?_ | refine endE_norm ?_ | refine endI_ret ?_ | refine endI_norm ?_)
    | (with_reducible refine wp_regK fun K hK => ?_
       simp
       repeat' (with_reducible first | refine hK _ ?_ | (refine psel ?_ ?_ <;> (intro hc; (try rw [Decidable.not_not] at hc); first | (exfalso; omega) | (try simp [hc]))))
       all_goals (clear hK; clear K))
    | (with_reducible refine wp_condE ?_
       refine ⟨_, rfl, ?_, ?_⟩ <;> (intro hc; (try simp at hc); (all_goals first | (exfalso; omega) | skip))))
  all_goals simp [pf165]

@[simp] theorem t166 (k0 k1 : Bool) (l : List XVal) (h : l.length ≤ 1048576) (hs : XVal.sms l) : Gw TT 166 [.one (.ro k0 (.sl 3 (l.map XVal.e))), .one (.ro k1 (.sl 3 (l.map XVal.e)))] = some (vb true, []) := by
  refine Gw_of (F := pf166) rfl rfl ?_
  show Wp _ pb166 _ _
  unfold pb166
  repeat' (first
    | with_reducible (first | refine wp_seq ?_ | refine wp_blk ?_ | refine wp_skip ?_ | refine wp_exit ?_ | refine wp_ret ?_ | refine seqQ_norm ?_ | refine seqQ_ret ?_ | refine seqQ_exit ?_ | refine blkQ_norm ?_ | refine blkQ_ret ?_ | refine blkQ_exit ?_ | refine loopQ_norm ?_ | refine loopQ_exit ?_ | refine loopQ_ret ?_ | refine endQ_ret ?_ | refine endQ_norm ?_ | refine endE_ret ?_ | refine endE_norm ?_ | refine endI_ret ?_ | refine endI_norm ?_)
    | (with_reducible refine wp_regK fun K hK => ?_
       simp
       repeat' (with_reducible first | refine hK _ ?_ | (refine psel ?_ ?_ <;> (intro hc; (try rw [Decidable.not_not] at hc); first | (exfalso; omega) | (try simp [hc]))))
       all_goals (clear hK; clear K))
    | (with_reducible refine wp_condE ?_
       refine ⟨_, rfl, ?_, ?_⟩ <;> (intro hc; (try simp at hc); (all_goals first | (exfalso; omega) | skip))))
  · refine wp_loopI (σ := List XVal × List XVal) (fun s => [(0, AV.v k0 (D.sl 3 (List.map XVal.e l)), none), (1, AV.v k1 (D.sl 3 (List.map XVal.e l)), none), (5, AV.v false (di (s.1.length : Nat)), none)]) (fun s => l = s.1 ++ s.2) (fun s => s.2.length) ([], l) (by simp) rfl ?_
    rintro ⟨pre, rest⟩ h1
    simp only at h1
    subst h1
    simp only [List.length_append, List.length_cons] at h
    rcases rest with _ | ⟨⟨y_Ty, y_N, y_S⟩, rest⟩
    · unfold pl166_0
      repeat' (first
        | with_reducible (first | refine wp_seq ?_ | refine wp_blk ?_ | refine wp_skip ?_ | refine wp_exit ?_ | refine wp_ret ?_ | refine seqQ_norm ?_ | refine seqQ_ret ?_ | refine seqQ_exit ?_ | refine blkQ_norm ?_ | refine blkQ_ret ?_ | refine blkQ_exit ?_ | refine loopQ_norm ?_ | refine loopQ_exit ?_ | refine loopQ_ret ?_ | refine endQ_ret ?_ | refine endQ_norm ?_ | refine endE_ret ?_ | refine endE_norm ?_ | refine endI_ret ?_ | refine endI_norm ?_)
        | (with_reducible refine wp_regK fun K hK => ?_
           simp
           repeat' (with_reducible first | refine hK _ ?_ | (refine psel ?_ ?_ <;> (intro hc; (try rw [Decidable.not_not] at hc); first | (exfalso; omega) | (try simp [hc]))))
           all_goals (clear hK; clear K))
        | (with_reducible refine wp_condE ?_
           refine ⟨_, rfl, ?_, ?_⟩ <;> (intro hc; (try simp at hc); (all_goals first | (exfalso; omega) | skip))))
      all_goals simp [pf166]
    · unfold pl166_0
      simp only [List.length_cons] at h
      have hw : IntKind.wrap .i64 ((pre.length : Int) + 1) = (pre.length : Int) + 1 := wrap_i64 (by omega) (by omega)
      have hd := hs ⟨y_Ty, y_N, y_S⟩ (by simp)
      simp only [XVal.sm, and_assoc] at hd
      have hsm_y_S := hd
      repeat' (first
        | with_reducible (first | refine wp_seq ?_ | refine wp_blk ?_ | refine wp_skip ?_ | refine wp_exit ?_ | refine wp_ret ?_ | refine seqQ_norm ?_ | refine seqQ_ret ?_ | refine seqQ_exit ?_ | refine blkQ_norm ?_ | refine blkQ_ret ?_ | refine blkQ_exit ?_ | refine loopQ_norm ?_ | refine loopQ_exit ?_ | refine loopQ_ret ?_ | refine endQ_ret ?_ | refine endQ_norm ?_ | refine endE_ret ?_ | refine endE_norm ?_ | refine endI_ret ?_ | refine endI_norm ?_)
        | (with_reducible refine wp_regK fun K hK => ?_
           simp[hw, hsm_y_S]
           repeat' (with_reducible first | refine hK _ ?_ | (refine psel ?_ ?_ <;> (intro hc; (try rw [Decidable.not_not] at hc); first | (exfalso; omega) | (try simp [hc, hw, hsm_y_S]))))
           all_goals (clear hK; clear K))
        | (with_reducible refine wp_condE ?_
           refine ⟨_, rfl, ?_, ?_⟩ <;> (intro hc; (try simp at hc); (all_goals first | (exfalso; omega) | skip))))
      all_goals exact ⟨(pre ++ [⟨y_Ty, y_N, y_S⟩], rest), by simp, by simp, by simp⟩

@[simp] theorem t251 (k0 : Bool) (x_Id : Int) (x_L : List XVal) (hsm_x_L : x_L.length ≤ 1048576) (hsms_x_L : XVal.sms x_L) : Gw TT 251 [.st [.ro false (di x_Id), .ro k0 (.sl 3 (x_L.map XVal.e))]] = some (.st [.ro false (di x_Id), .own (.sl 3 (x_L.map XVal.e))], []) := by
  refine Gw_of (F := pf251) rfl rfl ?_
  show Wp _ pb251 _ _
  unfold pb251
  repeat' (first
    | with_reducible (first | refine wp_seq ?_ | refine wp_blk ?_ | refine wp_skip ?_ | refine wp_exit ?_ | refine wp_ret ?_ | refine seqQ_norm ?_ | refine seqQ_ret ?_ | refine seqQ_exit ?_ | refine blkQ_norm ?_ | refine blkQ_ret ?_ | refine blkQ_exit ?_ | refine loopQ_norm ?_ | refine loopQ_exit ?_ | refine loopQ_ret ?_ | refine endQ_ret ?_ | refine endQ_norm ?_ | refine endE_ret ?_ | refine endE_norm ?_ | refine endI_ret ?_ | refine endI_norm ?_)
    | (with_reducible refine wp_regK fun K hK => ?_
       simp[hsm_x_L, hsms_x_L]
       repeat' (with_reducible first | refine hK _ ?_ | (refine psel ?_ ?_ <;> (intro hc; (try rw [Decidable.not_not] at hc); first | (exfalso; omega) | (try simp [hc, hsm_x_L, hsms_x_L]))))
       all_goals (clear hK; clear K))
    | (with_reducible refine wp_condE ?_
       refine ⟨_, rfl, ?_, ?_⟩ <;> (intro hc; (try simp at hc); (all_goals first | (exfalso; omega) | skip))))
  all_goals simp [pf251]

@[simp] theorem t252 (k0 : Bool) (l : List XRow) (h : l.length ≤ 1048576) (hs : XRow.sms l) : Gw TT 252 [.one (.ro k0 (.sl 2 (l.map XRow.e)))] = some (.one (.own (.sl 2 (l.map XRow.e))), []) := by
  refine Gw_of (F := pf252) rfl rfl ?_
  show Wp _ pb252 _ _
  unfold pb252
  repeat' (first
    | with_reducible (first | refine wp_seq ?_ | refine wp_blk ?_ | refine wp_skip ?_ | refine wp_exit ?_ | refine wp_ret ?_ | refine seqQ_norm ?_ | refine seqQ_ret ?_ | refine seqQ_exit ?_ | refine blkQ_norm ?_ | refine blkQ_ret ?_ | refine blkQ_exit ?_ | refine loopQ_norm ?_ | refine loopQ_exit ?_ | refine loopQ_ret ?_ | refine endQ_ret ?_ | refine endQ_norm ?_ | refine endE_ret ?_ | refine endE_norm ?_ | refine endI_ret ?_ | refine endI_norm ?_)
    | (with_reducible refine wp_regK fun K hK => ?_
       simp
       repeat' (with_reducible first | refine hK _ ?_ | (refine psel ?_ ?_ <;> (intro hc; (try rw [Decidable.not_not] at hc); first | (exfalso; omega) | (try simp [hc]))))
       all_goals (clear hK; clear K))
    | (with_reducible refine wp_condE ?_
       refine ⟨_, rfl, ?_, ?_⟩ <;> (intro hc; (try simp at hc); (all_goals first | (exfalso; omega) | skip))))
  · refine wp_loopI (σ := List XRow × List XRow) (fun s => [(0, AV.v k0 (D.sl 2 (List.map XRow.e l)), none), (3, AV.pl 3 0 [], some (Rt.vir [C.own (D.sl 2 (s.1.map XRow.e ++ List.replicate s.2.length [.int .i64 0, .sl 3 []]))])), (4, AV.v false (di (s.1.length : Nat)), none)]) (fun s => l = s.1 ++ s.2) (fun s => s.2.length) ([], l) (by simp) rfl ?_
    rintro ⟨pre, rest⟩ h1
    simp only at h1
    subst h1
    simp only [List.length_append, List.length_cons] at h
    rcases rest with _ | ⟨⟨y_Id, y_L⟩, rest⟩
    · unfold pl252_0
      repeat' (first
        | with_reducible (first | refine wp_seq ?_ | refine wp_blk ?_ | refine wp_skip ?_ | refine wp_exit ?_ | refine wp_ret ?_ | refine seqQ_norm ?_ | refine seqQ_ret ?_ | refine seqQ_exit ?_ | refine blkQ_norm ?_ | refine blkQ_ret ?_ | refine blkQ_exit ?_ | refine loopQ_norm ?_ | refine loopQ_exit ?_ | refine loopQ_ret ?_ | refine endQ_ret ?_ | refine endQ_norm ?_ | refine endE_ret ?_ | refine endE_norm ?_ | refine endI_ret ?_ | refine endI_norm ?_)
        | (with_reducible refine wp_regK fun K hK => ?_
           simp
           repeat' (with_reducible first | refine hK _ ?_ | (refine psel ?_ ?_ <;> (intro hc; (try rw [Decidable.not_not] at hc); first | (exfalso; omega) | (try simp [hc]))))
           all_goals (clear hK; clear K))
        | (with_reducible refine wp_condE ?_
           refine ⟨_, rfl, ?_, ?_⟩ <;> (intro hc; (try simp at hc); (all_goals first | (exfalso; omega) | skip))))
      all_goals simp [pf252]
    · unfold pl252_0
      simp only [List.length_cons] at h
      have hw : IntKind.wrap .i64 ((pre.length : Int) + 1) = (pre.length : Int) + 1 := wrap_i64 (by omega) (by omega)
      have hd := hs ⟨y_Id, y_L⟩ (by simp)
      simp only [XRow.sm, and_assoc] at hd
      obtain ⟨hsm_y_L, hsms_y_L⟩ := hd
      repeat' (first
        | with_reducible (first | refine wp_seq ?_ | refine wp_blk ?_ | refine wp_skip ?_ | refine wp_exit ?_ | refine wp_ret ?_ | refine seqQ_norm ?_ | refine seqQ_ret ?_ | refine seqQ_exit ?_ | refine blkQ_norm ?_ | refine blkQ_ret ?_ | refine blkQ_exit ?_ | refine loopQ_norm ?_ | refine loopQ_exit ?_ | refine loopQ_ret ?_ | refine endQ_ret ?_ | refine endQ_norm ?_ | refine endE_ret ?_ | refine endE_norm ?_ | refine endI_ret ?_ | refine endI_norm ?_)
        | (with_reducible refine wp_regK fun K hK => ?_
           simp[List.replicate_succ, hw, hsm_y_L, hsms_y_L]
           repeat' (with_reducible first | refine hK _ ?_ | (refine psel ?_ ?_ <;> (intro hc; (try rw [Decidable.not_not] at hc); first | (exfalso; omega) | (try simp [hc, List.replicate_succ, hw, hsm_y_L, hsms_y_L]))))
           all_goals (clear hK; clear K))
        | (with_reducible refine wp_condE ?_
           refine ⟨_, rfl, ?_, ?_⟩ <;> (intro hc; (try simp at hc); (all_goals first | (exfalso; omega) | skip))))
      all_goals exact ⟨(pre ++ [⟨y_Id, y_L⟩], rest), by simp, by simp, by simp⟩

@[simp] theorem t159 (k0 k1 : Bool) (x_Id : Int) (x_L : List XVal) (hok_x_L : x_L.length ≤ 1048576) (hoks_x_L : XVal.sms x_L) : Gw TT 159 [.st [.ro false (di x_Id), .ro k0 (.sl 3 (x_L.map XVal.e))], .st [.ro false (di x_Id), .ro k1 (.sl 3 (x_L.map XVal.e))]] = some (vb true, []) := by
  refine Gw_of (F := pf159) rfl rfl ?_
  show Wp _ pb159 _ _
  unfold pb159
  repeat' (first
    | with_reducible (first | refine wp_seq ?_ | refine wp_blk ?_ | refine wp_skip ?_ | refine wp_exit ?_ | refine wp_ret ?_ | refine seqQ_norm ?_ | refine seqQ_ret ?_ | refine seqQ_exit ?_ | refine blkQ_norm ?_ | refine blkQ_ret ?_ | refine blkQ_exit ?_ | refine loopQ_norm ?_ | refine loopQ_exit ?_ | refine loopQ_ret ?_ | refine endQ_ret ?_ | refine endQ_norm ?_ | refine endE_ret ?_ | refine endE_norm ?_ | refine endI_ret ?_ | refine endI_norm ?_)
    | (with_reducible refine wp_regK fun K hK => ?_
       simp[hok_x_L, hoks_x_L]
       repeat' (with_reducible first | refine hK _ ?_ | (refine psel ?_ ?_ <;> (intro hc; (try rw [Decidable.not_not] at hc); first | (exfalso; omega) | (try simp [hc, hok_x_L, hoks_x_L]))))
       all_goals (clear hK; clear K))
    | (with_reducible refine wp_condE ?_
       refine ⟨_, rfl, ?_, ?_⟩ <;> (intro hc; (try simp at hc); (all_goals first | (exfalso; omega) | skip))))
  all_goals simp [pf159]

@[simp] theorem t160 (k0 k1 : Bool) (l : List XRow) (h : l.length ≤ 1048576) (hs : XRow.sms l) : Gw TT 160 [.one (.ro k0 (.sl 2 (l.map XRow.e))), .one (.ro k1 (.sl 2 (l.map XRow.e)))] = some (vb true, []) := by
  refine Gw_of (F := pf160) rfl rfl ?_
  show Wp _ pb160 _ _
  unfold pb160
  repeat' (first
    | with_reducible (first | refine wp_seq ?_ | refine wp_blk ?_ | refine wp_skip ?_ | refine wp_exit ?_ | refine wp_ret ?_ | refine seqQ_norm ?_ | refine seqQ_ret ?_ | refine seqQ_exit ?_ | refine blkQ_norm ?_ | refine blkQ_ret ?_ | refine blkQ_exit ?_ | refine loopQ_norm ?_ | refine loopQ_exit ?_ | refine loopQ_ret ?_ | refine endQ_ret ?_ | refine endQ_norm ?_ | refine endE_ret ?_ | refine endE_norm ?_ | refine endI_ret ?_ | refine endI_norm ?_)
    | (with_reducible refine wp_regK fun K hK => ?_
       simp
       repeat' (with_reducible first | refine hK _ ?_ | (refine psel ?_ ?_ <;> (intro hc; (try rw [Decidable.not_not] at hc); first | (exfalso; omega) | (try simp [hc]))))
       all_goals (clear hK; clear K))
    | (with_reducible refine wp_condE ?_
       refine ⟨_, rfl, ?_, ?_⟩ <;> (intro hc; (try simp at hc); (all_goals first | (exfalso; omega) | skip))))
  · refine wp_loopI (σ := List XRow × List XRow) (fun s => [(0, AV.v k0 (D.sl 2 (List.map XRow.e l)), none), (1, AV.v k1 (D.sl 2 (List.map XRow.e l)), none), (5, AV.v false (di (s.1.length : Nat)), none)]) (fun s => l = s.1 ++ s.2) (fun s => s.2.length) ([], l) (by simp) rfl ?_
    rintro ⟨pre, rest⟩ h1
    simp only at h1
    subst h1
    simp only [List.length_append, List.length_cons] at h
    rcases rest with _ | ⟨⟨y_Id, y_L⟩, rest⟩
    · unfold pl160_0
      repeat' (first
        | with_reducible (first | refine wp_seq ?_ | refine wp_blk ?_ | refine wp_skip ?_ | refine wp_exit ?_ | refine wp_ret ?_ | refine seqQ_norm ?_ | refine seqQ_ret ?_ | refine seqQ_exit ?_ | refine blkQ_norm ?_ | refine blkQ_ret ?_ | refine blkQ_exit ?_ | refine loopQ_norm ?_ | refine loopQ_exit ?_ | refine loopQ_ret ?_ | refine endQ_ret ?_ | refine endQ_norm ?_ | refine endE_ret ?_ | refine endE_norm ?_ | refine endI_ret ?_ | refine endI_norm ?_)
        | (with_reducible refine wp_regK fun K hK => ?_
           simp
           repeat' (with_reducible first | refine hK _ ?_ | (refine psel ?_ ?_ <;> (intro hc; (try rw [Decidable.not_not] at hc); first | (exfalso; omega) | (try simp [hc]))))
           all_goals (clear hK; clear K))
        | (with_reducible refine wp_condE ?_
           refine ⟨_, rfl, ?_, ?_⟩ <;> (intro hc; (try simp at hc); (all_goals first | (exfalso; omega) | skip))))
      all_goals simp [pf160]
    · unfold pl160_0
      simp only [List.length_cons] at h
      have hw : IntKind.wrap .i64 ((pre.length : Int) + 1) = (pre.length : Int) + 1 := wrap_i64 (by omega) (by omega)
      have hd := hs ⟨y_Id, y_L⟩ (by simp)
      simp only [XRow.sm, and_assoc] at hd
      obtain ⟨hsm_y_L, hsms_y_L⟩ := hd
      repeat' (first
        | with_reducible (first | refine wp_seq ?_ | refine wp_blk ?_ | refine wp_skip ?_ | refine wp_exit ?_ | refine wp_ret ?_ | refine seqQ_norm ?_ | refine seqQ_ret ?_ | refine seqQ_exit ?_ | refine blkQ_norm ?_ | refine blkQ_ret ?_ | refine blkQ_exit ?_ | refine loopQ_norm ?_ | refine loopQ_exit ?_ | refine loopQ_ret ?_ | refine endQ_ret ?_ | refine endQ_norm ?_ | refine endE_ret ?_ | refine endE_norm ?_ | refine endI_ret ?_ | refine endI_norm ?_)
        | (with_reducible refine wp_regK fun K hK => ?_
           simp[hw, hsm_y_L, hsms_y_L]
           repeat' (with_reducible first | refine hK _ ?_ | (refine psel ?_ ?_ <;> (intro hc; (try rw [Decidable.not_not] at hc); first | (exfalso; omega) | (try simp [hc, hw, hsm_y_L, hsms_y_L]))))
           all_goals (clear hK; clear K))
        | (with_reducible refine wp_condE ?_
           refine ⟨_, rfl, ?_, ?_⟩ <;> (intro hc; (try simp at hc); (all_goals first | (exfalso; omega) | skip))))
      all_goals exact ⟨(pre ++ [⟨y_Id, y_L⟩], rest), by simp, by simp, by simp⟩

@[simp] theorem t239 (x_Buf : Int) (x_Gen : Int) (x_At : Int)  : Gw TT 239 [.st [.ro false (di x_Buf), .ro false (di x_Gen), .ro false (di x_At)]] = some (.st [.ro false (di x_Buf), .ro false (di x_Gen), .ro false (di x_At)], []) := by
  refine Gw_of (F := pf239) rfl rfl ?_
  show Wp _ pb239 _ _
  unfold pb239
  repeat' (first
    | with_reducible (first | refine wp_seq ?_ | refine wp_blk ?_ | refine wp_skip ?_ | refine wp_exit ?_ | refine wp_ret ?_ | refine seqQ_norm ?_ | refine seqQ_ret ?_ | refine seqQ_exit ?_ | refine blkQ_norm ?_ | refine blkQ_ret ?_ | refine blkQ_exit ?_ | refine loopQ_norm ?_ | refine loopQ_exit ?_ | refine loopQ_ret ?_ | refine endQ_ret ?_ | refine endQ_norm ?_ | refine endE_ret ?_ | refine endE_norm ?_ | refine endI_ret ?_ | refine endI_norm ?_)
    | (with_reducible refine wp_regK fun K hK => ?_
       simp
       repeat' (with_reducible first | refine hK _ ?_ | (refine psel ?_ ?_ <;> (intro hc; (try rw [Decidable.not_not] at hc); first | (exfalso; omega) | (try simp [hc]))))
       all_goals (clear hK; clear K))
    | (with_reducible refine wp_condE ?_
       refine ⟨_, rfl, ?_, ?_⟩ <;> (intro hc; (try simp at hc); (all_goals first | (exfalso; omega) | skip))))
  all_goals simp [pf239]

@[simp] theorem t240 (k0 : Bool) (l : List XDead) (h : l.length ≤ 1048576)  : Gw TT 240 [.one (.ro k0 (.sl 3 (l.map XDead.e)))] = some (.one (.own (.sl 3 (l.map XDead.e))), []) := by
  refine Gw_of (F := pf240) rfl rfl ?_
  show Wp _ pb240 _ _
  unfold pb240
  repeat' (first
    | with_reducible (first | refine wp_seq ?_ | refine wp_blk ?_ | refine wp_skip ?_ | refine wp_exit ?_ | refine wp_ret ?_ | refine seqQ_norm ?_ | refine seqQ_ret ?_ | refine seqQ_exit ?_ | refine blkQ_norm ?_ | refine blkQ_ret ?_ | refine blkQ_exit ?_ | refine loopQ_norm ?_ | refine loopQ_exit ?_ | refine loopQ_ret ?_ | refine endQ_ret ?_ | refine endQ_norm ?_ | refine endE_ret ?_ | refine endE_norm ?_ | refine endI_ret ?_ | refine endI_norm ?_)
    | (with_reducible refine wp_regK fun K hK => ?_
       simp
       repeat' (with_reducible first | refine hK _ ?_ | (refine psel ?_ ?_ <;> (intro hc; (try rw [Decidable.not_not] at hc); first | (exfalso; omega) | (try simp [hc]))))
       all_goals (clear hK; clear K))
    | (with_reducible refine wp_condE ?_
       refine ⟨_, rfl, ?_, ?_⟩ <;> (intro hc; (try simp at hc); (all_goals first | (exfalso; omega) | skip))))
  · refine wp_loopI (σ := List XDead × List XDead) (fun s => [(0, AV.v k0 (D.sl 3 (List.map XDead.e l)), none), (3, AV.pl 3 0 [], some (Rt.vir [C.own (D.sl 3 (s.1.map XDead.e ++ List.replicate s.2.length [.int .i64 0, .int .i64 0, .int .i64 0]))])), (4, AV.v false (di (s.1.length : Nat)), none)]) (fun s => l = s.1 ++ s.2) (fun s => s.2.length) ([], l) (by simp) rfl ?_
    rintro ⟨pre, rest⟩ h1
    simp only at h1
    subst h1
    simp only [List.length_append, List.length_cons] at h
    rcases rest with _ | ⟨⟨y_Buf, y_Gen, y_At⟩, rest⟩
    · unfold pl240_0
      repeat' (first
        | with_reducible (first | refine wp_seq ?_ | refine wp_blk ?_ | refine wp_skip ?_ | refine wp_exit ?_ | refine wp_ret ?_ | refine seqQ_norm ?_ | refine seqQ_ret ?_ | refine seqQ_exit ?_ | refine blkQ_norm ?_ | refine blkQ_ret ?_ | refine blkQ_exit ?_ | refine loopQ_norm ?_ | refine loopQ_exit ?_ | refine loopQ_ret ?_ | refine endQ_ret ?_ | refine endQ_norm ?_ | refine endE_ret ?_ | refine endE_norm ?_ | refine endI_ret ?_ | refine endI_norm ?_)
        | (with_reducible refine wp_regK fun K hK => ?_
           simp
           repeat' (with_reducible first | refine hK _ ?_ | (refine psel ?_ ?_ <;> (intro hc; (try rw [Decidable.not_not] at hc); first | (exfalso; omega) | (try simp [hc]))))
           all_goals (clear hK; clear K))
        | (with_reducible refine wp_condE ?_
           refine ⟨_, rfl, ?_, ?_⟩ <;> (intro hc; (try simp at hc); (all_goals first | (exfalso; omega) | skip))))
      all_goals simp [pf240]
    · unfold pl240_0
      simp only [List.length_cons] at h
      have hw : IntKind.wrap .i64 ((pre.length : Int) + 1) = (pre.length : Int) + 1 := wrap_i64 (by omega) (by omega)
      repeat' (first
        | with_reducible (first | refine wp_seq ?_ | refine wp_blk ?_ | refine wp_skip ?_ | refine wp_exit ?_ | refine wp_ret ?_ | refine seqQ_norm ?_ | refine seqQ_ret ?_ | refine seqQ_exit ?_ | refine blkQ_norm ?_ | refine blkQ_ret ?_ | refine blkQ_exit ?_ | refine loopQ_norm ?_ | refine loopQ_exit ?_ | refine loopQ_ret ?_ | refine endQ_ret ?_ | refine endQ_norm ?_ | refine endE_ret ?_ | refine endE_norm ?_ | refine endI_ret ?_ | refine endI_norm ?_)
        | (with_reducible refine wp_regK fun K hK => ?_
           simp[List.replicate_succ, hw]
           repeat' (with_reducible first | refine hK _ ?_ | (refine psel ?_ ?_ <;> (intro hc; (try rw [Decidable.not_not] at hc); first | (exfalso; omega) | (try simp [hc, List.replicate_succ, hw]))))
           all_goals (clear hK; clear K))
        | (with_reducible refine wp_condE ?_
           refine ⟨_, rfl, ?_, ?_⟩ <;> (intro hc; (try simp at hc); (all_goals first | (exfalso; omega) | skip))))
      all_goals exact ⟨(pre ++ [⟨y_Buf, y_Gen, y_At⟩], rest), by simp, by simp, by simp⟩

@[simp] theorem t147 (x_Buf : Int) (x_Gen : Int) (x_At : Int)  : Gw TT 147 [.st [.ro false (di x_Buf), .ro false (di x_Gen), .ro false (di x_At)], .st [.ro false (di x_Buf), .ro false (di x_Gen), .ro false (di x_At)]] = some (vb true, []) := by
  refine Gw_of (F := pf147) rfl rfl ?_
  show Wp _ pb147 _ _
  unfold pb147
  repeat' (first
    | with_reducible (first | refine wp_seq ?_ | refine wp_blk ?_ | refine wp_skip ?_ | refine wp_exit ?_ | refine wp_ret ?_ | refine seqQ_norm ?_ | refine seqQ_ret ?_ | refine seqQ_exit ?_ | refine blkQ_norm ?_ | refine blkQ_ret ?_ | refine blkQ_exit ?_ | refine loopQ_norm ?_ | refine loopQ_exit ?_ | refine loopQ_ret ?_ | refine endQ_ret ?_ | refine endQ_norm ?_ | refine endE_ret ?_ | refine endE_norm ?_ | refine endI_ret ?_ | refine endI_norm ?_)
    | (with_reducible refine wp_regK fun K hK => ?_
       simp
       repeat' (with_reducible first | refine hK _ ?_ | (refine psel ?_ ?_ <;> (intro hc; (try rw [Decidable.not_not] at hc); first | (exfalso; omega) | (try simp [hc]))))
       all_goals (clear hK; clear K))
    | (with_reducible refine wp_condE ?_
       refine ⟨_, rfl, ?_, ?_⟩ <;> (intro hc; (try simp at hc); (all_goals first | (exfalso; omega) | skip))))
  all_goals simp [pf147]

@[simp] theorem t148 (k0 k1 : Bool) (l : List XDead) (h : l.length ≤ 1048576)  : Gw TT 148 [.one (.ro k0 (.sl 3 (l.map XDead.e))), .one (.ro k1 (.sl 3 (l.map XDead.e)))] = some (vb true, []) := by
  refine Gw_of (F := pf148) rfl rfl ?_
  show Wp _ pb148 _ _
  unfold pb148
  repeat' (first
    | with_reducible (first | refine wp_seq ?_ | refine wp_blk ?_ | refine wp_skip ?_ | refine wp_exit ?_ | refine wp_ret ?_ | refine seqQ_norm ?_ | refine seqQ_ret ?_ | refine seqQ_exit ?_ | refine blkQ_norm ?_ | refine blkQ_ret ?_ | refine blkQ_exit ?_ | refine loopQ_norm ?_ | refine loopQ_exit ?_ | refine loopQ_ret ?_ | refine endQ_ret ?_ | refine endQ_norm ?_ | refine endE_ret ?_ | refine endE_norm ?_ | refine endI_ret ?_ | refine endI_norm ?_)
    | (with_reducible refine wp_regK fun K hK => ?_
       simp
       repeat' (with_reducible first | refine hK _ ?_ | (refine psel ?_ ?_ <;> (intro hc; (try rw [Decidable.not_not] at hc); first | (exfalso; omega) | (try simp [hc]))))
       all_goals (clear hK; clear K))
    | (with_reducible refine wp_condE ?_
       refine ⟨_, rfl, ?_, ?_⟩ <;> (intro hc; (try simp at hc); (all_goals first | (exfalso; omega) | skip))))
  · refine wp_loopI (σ := List XDead × List XDead) (fun s => [(0, AV.v k0 (D.sl 3 (List.map XDead.e l)), none), (1, AV.v k1 (D.sl 3 (List.map XDead.e l)), none), (5, AV.v false (di (s.1.length : Nat)), none)]) (fun s => l = s.1 ++ s.2) (fun s => s.2.length) ([], l) (by simp) rfl ?_
    rintro ⟨pre, rest⟩ h1
    simp only at h1
    subst h1
    simp only [List.length_append, List.length_cons] at h
    rcases rest with _ | ⟨⟨y_Buf, y_Gen, y_At⟩, rest⟩
    · unfold pl148_0
      repeat' (first
        | with_reducible (first | refine wp_seq ?_ | refine wp_blk ?_ | refine wp_skip ?_ | refine wp_exit ?_ | refine wp_ret ?_ | refine seqQ_norm ?_ | refine seqQ_ret ?_ | refine seqQ_exit ?_ | refine blkQ_norm ?_ | refine blkQ_ret ?_ | refine blkQ_exit ?_ | refine loopQ_norm ?_ | refine loopQ_exit ?_ | refine loopQ_ret ?_ | refine endQ_ret ?_ | refine endQ_norm ?_ | refine endE_ret ?_ | refine endE_norm ?_ | refine endI_ret ?_ | refine endI_norm ?_)
        | (with_reducible refine wp_regK fun K hK => ?_
           simp
           repeat' (with_reducible first | refine hK _ ?_ | (refine psel ?_ ?_ <;> (intro hc; (try rw [Decidable.not_not] at hc); first | (exfalso; omega) | (try simp [hc]))))
           all_goals (clear hK; clear K))
        | (with_reducible refine wp_condE ?_
           refine ⟨_, rfl, ?_, ?_⟩ <;> (intro hc; (try simp at hc); (all_goals first | (exfalso; omega) | skip))))
      all_goals simp [pf148]
    · unfold pl148_0
      simp only [List.length_cons] at h
      have hw : IntKind.wrap .i64 ((pre.length : Int) + 1) = (pre.length : Int) + 1 := wrap_i64 (by omega) (by omega)
      repeat' (first
        | with_reducible (first | refine wp_seq ?_ | refine wp_blk ?_ | refine wp_skip ?_ | refine wp_exit ?_ | refine wp_ret ?_ | refine seqQ_norm ?_ | refine seqQ_ret ?_ | refine seqQ_exit ?_ | refine blkQ_norm ?_ | refine blkQ_ret ?_ | refine blkQ_exit ?_ | refine loopQ_norm ?_ | refine loopQ_exit ?_ | refine loopQ_ret ?_ | refine endQ_ret ?_ | refine endQ_norm ?_ | refine endE_ret ?_ | refine endE_norm ?_ | refine endI_ret ?_ | refine endI_norm ?_)
        | (with_reducible refine wp_regK fun K hK => ?_
           simp[hw]
           repeat' (with_reducible first | refine hK _ ?_ | (refine psel ?_ ?_ <;> (intro hc; (try rw [Decidable.not_not] at hc); first | (exfalso; omega) | (try simp [hc, hw]))))
           all_goals (clear hK; clear K))
        | (with_reducible refine wp_condE ?_
           refine ⟨_, rfl, ?_, ?_⟩ <;> (intro hc; (try simp at hc); (all_goals first | (exfalso; omega) | skip))))
      all_goals exact ⟨(pre ++ [⟨y_Buf, y_Gen, y_At⟩], rest), by simp, by simp, by simp⟩

@[simp] theorem t248 (x_Buf : Int) (x_Gen : Int) (x_Kind : Int) (x_First : Int) (x_Many : Int)  : Gw TT 248 [.st [.ro false (di x_Buf), .ro false (di x_Gen), .ro false (di x_Kind), .ro false (di x_First), .ro false (di x_Many)]] = some (.st [.ro false (di x_Buf), .ro false (di x_Gen), .ro false (di x_Kind), .ro false (di x_First), .ro false (di x_Many)], []) := by
  refine Gw_of (F := pf248) rfl rfl ?_
  show Wp _ pb248 _ _
  unfold pb248
  repeat' (first
    | with_reducible (first | refine wp_seq ?_ | refine wp_blk ?_ | refine wp_skip ?_ | refine wp_exit ?_ | refine wp_ret ?_ | refine seqQ_norm ?_ | refine seqQ_ret ?_ | refine seqQ_exit ?_ | refine blkQ_norm ?_ | refine blkQ_ret ?_ | refine blkQ_exit ?_ | refine loopQ_norm ?_ | refine loopQ_exit ?_ | refine loopQ_ret ?_ | refine endQ_ret ?_ | refine endQ_norm ?_ | refine endE_ret ?_ | refine endE_norm ?_ | refine endI_ret ?_ | refine endI_norm ?_)
    | (with_reducible refine wp_regK fun K hK => ?_
       simp
       repeat' (with_reducible first | refine hK _ ?_ | (refine psel ?_ ?_ <;> (intro hc; (try rw [Decidable.not_not] at hc); first | (exfalso; omega) | (try simp [hc]))))
       all_goals (clear hK; clear K))
    | (with_reducible refine wp_condE ?_
       refine ⟨_, rfl, ?_, ?_⟩ <;> (intro hc; (try simp at hc); (all_goals first | (exfalso; omega) | skip))))
  all_goals simp [pf248]

@[simp] theorem t249 (k0 : Bool) (l : List XRef) (h : l.length ≤ 1048576)  : Gw TT 249 [.one (.ro k0 (.sl 5 (l.map XRef.e)))] = some (.one (.own (.sl 5 (l.map XRef.e))), []) := by
  refine Gw_of (F := pf249) rfl rfl ?_
  show Wp _ pb249 _ _
  unfold pb249
  repeat' (first
    | with_reducible (first | refine wp_seq ?_ | refine wp_blk ?_ | refine wp_skip ?_ | refine wp_exit ?_ | refine wp_ret ?_ | refine seqQ_norm ?_ | refine seqQ_ret ?_ | refine seqQ_exit ?_ | refine blkQ_norm ?_ | refine blkQ_ret ?_ | refine blkQ_exit ?_ | refine loopQ_norm ?_ | refine loopQ_exit ?_ | refine loopQ_ret ?_ | refine endQ_ret ?_ | refine endQ_norm ?_ | refine endE_ret ?_ | refine endE_norm ?_ | refine endI_ret ?_ | refine endI_norm ?_)
    | (with_reducible refine wp_regK fun K hK => ?_
       simp
       repeat' (with_reducible first | refine hK _ ?_ | (refine psel ?_ ?_ <;> (intro hc; (try rw [Decidable.not_not] at hc); first | (exfalso; omega) | (try simp [hc]))))
       all_goals (clear hK; clear K))
    | (with_reducible refine wp_condE ?_
       refine ⟨_, rfl, ?_, ?_⟩ <;> (intro hc; (try simp at hc); (all_goals first | (exfalso; omega) | skip))))
  · refine wp_loopI (σ := List XRef × List XRef) (fun s => [(0, AV.v k0 (D.sl 5 (List.map XRef.e l)), none), (3, AV.pl 3 0 [], some (Rt.vir [C.own (D.sl 5 (s.1.map XRef.e ++ List.replicate s.2.length [.int .i64 0, .int .i64 0, .int .i64 0, .int .i64 0, .int .i64 0]))])), (4, AV.v false (di (s.1.length : Nat)), none)]) (fun s => l = s.1 ++ s.2) (fun s => s.2.length) ([], l) (by simp) rfl ?_
    rintro ⟨pre, rest⟩ h1
    simp only at h1
    subst h1
    simp only [List.length_append, List.length_cons] at h
    rcases rest with _ | ⟨⟨y_Buf, y_Gen, y_Kind, y_First, y_Many⟩, rest⟩
    · unfold pl249_0
      repeat' (first
        | with_reducible (first | refine wp_seq ?_ | refine wp_blk ?_ | refine wp_skip ?_ | refine wp_exit ?_ | refine wp_ret ?_ | refine seqQ_norm ?_ | refine seqQ_ret ?_ | refine seqQ_exit ?_ | refine blkQ_norm ?_ | refine blkQ_ret ?_ | refine blkQ_exit ?_ | refine loopQ_norm ?_ | refine loopQ_exit ?_ | refine loopQ_ret ?_ | refine endQ_ret ?_ | refine endQ_norm ?_ | refine endE_ret ?_ | refine endE_norm ?_ | refine endI_ret ?_ | refine endI_norm ?_)
        | (with_reducible refine wp_regK fun K hK => ?_
           simp
           repeat' (with_reducible first | refine hK _ ?_ | (refine psel ?_ ?_ <;> (intro hc; (try rw [Decidable.not_not] at hc); first | (exfalso; omega) | (try simp [hc]))))
           all_goals (clear hK; clear K))
        | (with_reducible refine wp_condE ?_
           refine ⟨_, rfl, ?_, ?_⟩ <;> (intro hc; (try simp at hc); (all_goals first | (exfalso; omega) | skip))))
      all_goals simp [pf249]
    · unfold pl249_0
      simp only [List.length_cons] at h
      have hw : IntKind.wrap .i64 ((pre.length : Int) + 1) = (pre.length : Int) + 1 := wrap_i64 (by omega) (by omega)
      repeat' (first
        | with_reducible (first | refine wp_seq ?_ | refine wp_blk ?_ | refine wp_skip ?_ | refine wp_exit ?_ | refine wp_ret ?_ | refine seqQ_norm ?_ | refine seqQ_ret ?_ | refine seqQ_exit ?_ | refine blkQ_norm ?_ | refine blkQ_ret ?_ | refine blkQ_exit ?_ | refine loopQ_norm ?_ | refine loopQ_exit ?_ | refine loopQ_ret ?_ | refine endQ_ret ?_ | refine endQ_norm ?_ | refine endE_ret ?_ | refine endE_norm ?_ | refine endI_ret ?_ | refine endI_norm ?_)
        | (with_reducible refine wp_regK fun K hK => ?_
           simp[List.replicate_succ, hw]
           repeat' (with_reducible first | refine hK _ ?_ | (refine psel ?_ ?_ <;> (intro hc; (try rw [Decidable.not_not] at hc); first | (exfalso; omega) | (try simp [hc, List.replicate_succ, hw]))))
           all_goals (clear hK; clear K))
        | (with_reducible refine wp_condE ?_
           refine ⟨_, rfl, ?_, ?_⟩ <;> (intro hc; (try simp at hc); (all_goals first | (exfalso; omega) | skip))))
      all_goals exact ⟨(pre ++ [⟨y_Buf, y_Gen, y_Kind, y_First, y_Many⟩], rest), by simp, by simp, by simp⟩

@[simp] theorem t156 (x_Buf : Int) (x_Gen : Int) (x_Kind : Int) (x_First : Int) (x_Many : Int)  : Gw TT 156 [.st [.ro false (di x_Buf), .ro false (di x_Gen), .ro false (di x_Kind), .ro false (di x_First), .ro false (di x_Many)], .st [.ro false (di x_Buf), .ro false (di x_Gen), .ro false (di x_Kind), .ro false (di x_First), .ro false (di x_Many)]] = some (vb true, []) := by
  refine Gw_of (F := pf156) rfl rfl ?_
  show Wp _ pb156 _ _
  unfold pb156
  repeat' (first
    | with_reducible (first | refine wp_seq ?_ | refine wp_blk ?_ | refine wp_skip ?_ | refine wp_exit ?_ | refine wp_ret ?_ | refine seqQ_norm ?_ | refine seqQ_ret ?_ | refine seqQ_exit ?_ | refine blkQ_norm ?_ | refine blkQ_ret ?_ | refine blkQ_exit ?_ | refine loopQ_norm ?_ | refine loopQ_exit ?_ | refine loopQ_ret ?_ | refine endQ_ret ?_ | refine endQ_norm ?_ | refine endE_ret ?_ | refine endE_norm ?_ | refine endI_ret ?_ | refine endI_norm ?_)
    | (with_reducible refine wp_regK fun K hK => ?_
       simp
       repeat' (with_reducible first | refine hK _ ?_ | (refine psel ?_ ?_ <;> (intro hc; (try rw [Decidable.not_not] at hc); first | (exfalso; omega) | (try simp [hc]))))
       all_goals (clear hK; clear K))
    | (with_reducible refine wp_condE ?_
       refine ⟨_, rfl, ?_, ?_⟩ <;> (intro hc; (try simp at hc); (all_goals first | (exfalso; omega) | skip))))
  all_goals simp [pf156]

@[simp] theorem t157 (k0 k1 : Bool) (l : List XRef) (h : l.length ≤ 1048576)  : Gw TT 157 [.one (.ro k0 (.sl 5 (l.map XRef.e))), .one (.ro k1 (.sl 5 (l.map XRef.e)))] = some (vb true, []) := by
  refine Gw_of (F := pf157) rfl rfl ?_
  show Wp _ pb157 _ _
  unfold pb157
  repeat' (first
    | with_reducible (first | refine wp_seq ?_ | refine wp_blk ?_ | refine wp_skip ?_ | refine wp_exit ?_ | refine wp_ret ?_ | refine seqQ_norm ?_ | refine seqQ_ret ?_ | refine seqQ_exit ?_ | refine blkQ_norm ?_ | refine blkQ_ret ?_ | refine blkQ_exit ?_ | refine loopQ_norm ?_ | refine loopQ_exit ?_ | refine loopQ_ret ?_ | refine endQ_ret ?_ | refine endQ_norm ?_ | refine endE_ret ?_ | refine endE_norm ?_ | refine endI_ret ?_ | refine endI_norm ?_)
    | (with_reducible refine wp_regK fun K hK => ?_
       simp
       repeat' (with_reducible first | refine hK _ ?_ | (refine psel ?_ ?_ <;> (intro hc; (try rw [Decidable.not_not] at hc); first | (exfalso; omega) | (try simp [hc]))))
       all_goals (clear hK; clear K))
    | (with_reducible refine wp_condE ?_
       refine ⟨_, rfl, ?_, ?_⟩ <;> (intro hc; (try simp at hc); (all_goals first | (exfalso; omega) | skip))))
  · refine wp_loopI (σ := List XRef × List XRef) (fun s => [(0, AV.v k0 (D.sl 5 (List.map XRef.e l)), none), (1, AV.v k1 (D.sl 5 (List.map XRef.e l)), none), (5, AV.v false (di (s.1.length : Nat)), none)]) (fun s => l = s.1 ++ s.2) (fun s => s.2.length) ([], l) (by simp) rfl ?_
    rintro ⟨pre, rest⟩ h1
    simp only at h1
    subst h1
    simp only [List.length_append, List.length_cons] at h
    rcases rest with _ | ⟨⟨y_Buf, y_Gen, y_Kind, y_First, y_Many⟩, rest⟩
    · unfold pl157_0
      repeat' (first
        | with_reducible (first | refine wp_seq ?_ | refine wp_blk ?_ | refine wp_skip ?_ | refine wp_exit ?_ | refine wp_ret ?_ | refine seqQ_norm ?_ | refine seqQ_ret ?_ | refine seqQ_exit ?_ | refine blkQ_norm ?_ | refine blkQ_ret ?_ | refine blkQ_exit ?_ | refine loopQ_norm ?_ | refine loopQ_exit ?_ | refine loopQ_ret ?_ | refine endQ_ret ?_ | refine endQ_norm ?_ | refine endE_ret ?_ | refine endE_norm ?_ | refine endI_ret ?_ | refine endI_norm ?_)
        | (with_reducible refine wp_regK fun K hK => ?_
           simp
           repeat' (with_reducible first | refine hK _ ?_ | (refine psel ?_ ?_ <;> (intro hc; (try rw [Decidable.not_not] at hc); first | (exfalso; omega) | (try simp [hc]))))
           all_goals (clear hK; clear K))
        | (with_reducible refine wp_condE ?_
           refine ⟨_, rfl, ?_, ?_⟩ <;> (intro hc; (try simp at hc); (all_goals first | (exfalso; omega) | skip))))
      all_goals simp [pf157]
    · unfold pl157_0
      simp only [List.length_cons] at h
      have hw : IntKind.wrap .i64 ((pre.length : Int) + 1) = (pre.length : Int) + 1 := wrap_i64 (by omega) (by omega)
      repeat' (first
        | with_reducible (first | refine wp_seq ?_ | refine wp_blk ?_ | refine wp_skip ?_ | refine wp_exit ?_ | refine wp_ret ?_ | refine seqQ_norm ?_ | refine seqQ_ret ?_ | refine seqQ_exit ?_ | refine blkQ_norm ?_ | refine blkQ_ret ?_ | refine blkQ_exit ?_ | refine loopQ_norm ?_ | refine loopQ_exit ?_ | refine loopQ_ret ?_ | refine endQ_ret ?_ | refine endQ_norm ?_ | refine endE_ret ?_ | refine endE_norm ?_ | refine endI_ret ?_ | refine endI_norm ?_)
        | (with_reducible refine wp_regK fun K hK => ?_
           simp[hw]
           repeat' (with_reducible first | refine hK _ ?_ | (refine psel ?_ ?_ <;> (intro hc; (try rw [Decidable.not_not] at hc); first | (exfalso; omega) | (try simp [hc, hw]))))
           all_goals (clear hK; clear K))
        | (with_reducible refine wp_condE ?_
           refine ⟨_, rfl, ?_, ?_⟩ <;> (intro hc; (try simp at hc); (all_goals first | (exfalso; omega) | skip))))
      all_goals exact ⟨(pre ++ [⟨y_Buf, y_Gen, y_Kind, y_First, y_Many⟩], rest), by simp, by simp, by simp⟩

@[simp] theorem t243 (k0 : Bool) (x_Ver : Int) (x_L : List XRef) (hsm_x_L : x_L.length ≤ 1048576) : Gw TT 243 [.st [.ro false (di x_Ver), .ro k0 (.sl 5 (x_L.map XRef.e))]] = some (.st [.ro false (di x_Ver), .own (.sl 5 (x_L.map XRef.e))], []) := by
  refine Gw_of (F := pf243) rfl rfl ?_
  show Wp _ pb243 _ _
  unfold pb243
  repeat' (first
    | with_reducible (first | refine wp_seq ?_ | refine wp_blk ?_ | refine wp_skip ?_ | refine wp_exit ?_ | refine wp_ret ?_ | refine seqQ_norm ?_ | refine seqQ_ret ?_ | refine seqQ_exit ?_ | refine blkQ_norm ?_ | refine blkQ_ret ?_ | refine blkQ_exit ?_ | refine loopQ_norm ?_ | refine loopQ_exit ?_ | refine loopQ_ret ?_ | refine endQ_ret ?_ | refine endQ_norm ?_ | refine endE_ret ?_ | refine endE_norm ?_ | refine endI_ret ?_ | refine endI_norm ?_)
    | (with_reducible refine wp_regK fun K hK => ?_
       simp[hsm_x_L]
       repeat' (with_reducible first | refine hK _ ?_ | (refine psel ?_ ?_ <;> (intro hc; (try rw [Decidable.not_not] at hc); first | (exfalso; omega) | (try simp [hc, hsm_x_L]))))
       all_goals (clear hK; clear K))
    | (with_reducible refine wp_condE ?_
       refine ⟨_, rfl, ?_, ?_⟩ <;> (intro hc; (try simp at hc); (all_goals first | (exfalso; omega) | skip))))
  all_goals simp [pf243]

@[simp] theorem t151 (k0 k1 : Bool) (x_Ver : Int) (x_L : List XRef) (hok_x_L : x_L.length ≤ 1048576) : Gw TT 151 [.st [.ro false (di x_Ver), .ro k0 (.sl 5 (x_L.map XRef.e))], .st [.ro false (di x_Ver), .ro k1 (.sl 5 (x_L.map XRef.e))]] = some (vb true, []) := by
  refine Gw_of (F := pf151) rfl rfl ?_
  show Wp _ pb151 _ _
  unfold pb151
  repeat' (first
    | with_reducible (first | refine wp_seq ?_ | refine wp_blk ?_ | refine wp_skip ?_ | refine wp_exit ?_ | refine wp_ret ?_ | refine seqQ_norm ?_ | refine seqQ_ret ?_ | refine seqQ_exit ?_ | refine blkQ_norm ?_ | refine blkQ_ret ?_ | refine blkQ_exit ?_ | refine loopQ_norm ?_ | refine loopQ_exit ?_ | refine loopQ_ret ?_ | refine endQ_ret ?_ | refine endQ_norm ?_ | refine endE_ret ?_ | refine endE_norm ?_ | refine endI_ret ?_ | refine endI_norm ?_)
    | (with_reducible refine wp_regK fun K hK => ?_
       simp[hok_x_L]
       repeat' (with_reducible first | refine hK _ ?_ | (refine psel ?_ ?_ <;> (intro hc; (try rw [Decidable.not_not] at hc); first | (exfalso; omega) | (try simp [hc, hok_x_L]))))
       all_goals (clear hK; clear K))
    | (with_reducible refine wp_condE ?_
       refine ⟨_, rfl, ?_, ?_⟩ <;> (intro hc; (try simp at hc); (all_goals first | (exfalso; omega) | skip))))
  all_goals simp [pf151]

@[simp] theorem t253 (k0 : Bool) (x_Ins : Int) (x_L : List XVal) (hsm_x_L : x_L.length ≤ 1048576) (hsms_x_L : XVal.sms x_L) : Gw TT 253 [.st [.ro false (di x_Ins), .ro k0 (.sl 3 (x_L.map XVal.e))]] = some (.st [.ro false (di x_Ins), .own (.sl 3 (x_L.map XVal.e))], []) := by
  refine Gw_of (F := pf253) rfl rfl ?_
  show Wp _ pb253 _ _
  unfold pb253
  repeat' (first
    | with_reducible (first | refine wp_seq ?_ | refine wp_blk ?_ | refine wp_skip ?_ | refine wp_exit ?_ | refine wp_ret ?_ | refine seqQ_norm ?_ | refine seqQ_ret ?_ | refine seqQ_exit ?_ | refine blkQ_norm ?_ | refine blkQ_ret ?_ | refine blkQ_exit ?_ | refine loopQ_norm ?_ | refine loopQ_exit ?_ | refine loopQ_ret ?_ | refine endQ_ret ?_ | refine endQ_norm ?_ | refine endE_ret ?_ | refine endE_norm ?_ | refine endI_ret ?_ | refine endI_norm ?_)
    | (with_reducible refine wp_regK fun K hK => ?_
       simp[hsm_x_L, hsms_x_L]
       repeat' (with_reducible first | refine hK _ ?_ | (refine psel ?_ ?_ <;> (intro hc; (try rw [Decidable.not_not] at hc); first | (exfalso; omega) | (try simp [hc, hsm_x_L, hsms_x_L]))))
       all_goals (clear hK; clear K))
    | (with_reducible refine wp_condE ?_
       refine ⟨_, rfl, ?_, ?_⟩ <;> (intro hc; (try simp at hc); (all_goals first | (exfalso; omega) | skip))))
  all_goals simp [pf253]

@[simp] theorem t254 (k0 : Bool) (l : List XSlot) (h : l.length ≤ 1048576) (hs : XSlot.sms l) : Gw TT 254 [.one (.ro k0 (.sl 2 (l.map XSlot.e)))] = some (.one (.own (.sl 2 (l.map XSlot.e))), []) := by
  refine Gw_of (F := pf254) rfl rfl ?_
  show Wp _ pb254 _ _
  unfold pb254
  repeat' (first
    | with_reducible (first | refine wp_seq ?_ | refine wp_blk ?_ | refine wp_skip ?_ | refine wp_exit ?_ | refine wp_ret ?_ | refine seqQ_norm ?_ | refine seqQ_ret ?_ | refine seqQ_exit ?_ | refine blkQ_norm ?_ | refine blkQ_ret ?_ | refine blkQ_exit ?_ | refine loopQ_norm ?_ | refine loopQ_exit ?_ | refine loopQ_ret ?_ | refine endQ_ret ?_ | refine endQ_norm ?_ | refine endE_ret ?_ | refine endE_norm ?_ | refine endI_ret ?_ | refine endI_norm ?_)
    | (with_reducible refine wp_regK fun K hK => ?_
       simp
       repeat' (with_reducible first | refine hK _ ?_ | (refine psel ?_ ?_ <;> (intro hc; (try rw [Decidable.not_not] at hc); first | (exfalso; omega) | (try simp [hc]))))
       all_goals (clear hK; clear K))
    | (with_reducible refine wp_condE ?_
       refine ⟨_, rfl, ?_, ?_⟩ <;> (intro hc; (try simp at hc); (all_goals first | (exfalso; omega) | skip))))
  · refine wp_loopI (σ := List XSlot × List XSlot) (fun s => [(0, AV.v k0 (D.sl 2 (List.map XSlot.e l)), none), (3, AV.pl 3 0 [], some (Rt.vir [C.own (D.sl 2 (s.1.map XSlot.e ++ List.replicate s.2.length [.int .i64 0, .sl 3 []]))])), (4, AV.v false (di (s.1.length : Nat)), none)]) (fun s => l = s.1 ++ s.2) (fun s => s.2.length) ([], l) (by simp) rfl ?_
    rintro ⟨pre, rest⟩ h1
    simp only at h1
    subst h1
    simp only [List.length_append, List.length_cons] at h
    rcases rest with _ | ⟨⟨y_Ins, y_L⟩, rest⟩
    · unfold pl254_0
      repeat' (first
        | with_reducible (first | refine wp_seq ?_ | refine wp_blk ?_ | refine wp_skip ?_ | refine wp_exit ?_ | refine wp_ret ?_ | refine seqQ_norm ?_ | refine seqQ_ret ?_ | refine seqQ_exit ?_ | refine blkQ_norm ?_ | refine blkQ_ret ?_ | refine blkQ_exit ?_ | refine loopQ_norm ?_ | refine loopQ_exit ?_ | refine loopQ_ret ?_ | refine endQ_ret ?_ | refine endQ_norm ?_ | refine endE_ret ?_ | refine endE_norm ?_ | refine endI_ret ?_ | refine endI_norm ?_)
        | (with_reducible refine wp_regK fun K hK => ?_
           simp
           repeat' (with_reducible first | refine hK _ ?_ | (refine psel ?_ ?_ <;> (intro hc; (try rw [Decidable.not_not] at hc); first | (exfalso; omega) | (try simp [hc]))))
           all_goals (clear hK; clear K))
        | (with_reducible refine wp_condE ?_
           refine ⟨_, rfl, ?_, ?_⟩ <;> (intro hc; (try simp at hc); (all_goals first | (exfalso; omega) | skip))))
      all_goals simp [pf254]
    · unfold pl254_0
      simp only [List.length_cons] at h
      have hw : IntKind.wrap .i64 ((pre.length : Int) + 1) = (pre.length : Int) + 1 := wrap_i64 (by omega) (by omega)
      have hd := hs ⟨y_Ins, y_L⟩ (by simp)
      simp only [XSlot.sm, and_assoc] at hd
      obtain ⟨hsm_y_L, hsms_y_L⟩ := hd
      repeat' (first
        | with_reducible (first | refine wp_seq ?_ | refine wp_blk ?_ | refine wp_skip ?_ | refine wp_exit ?_ | refine wp_ret ?_ | refine seqQ_norm ?_ | refine seqQ_ret ?_ | refine seqQ_exit ?_ | refine blkQ_norm ?_ | refine blkQ_ret ?_ | refine blkQ_exit ?_ | refine loopQ_norm ?_ | refine loopQ_exit ?_ | refine loopQ_ret ?_ | refine endQ_ret ?_ | refine endQ_norm ?_ | refine endE_ret ?_ | refine endE_norm ?_ | refine endI_ret ?_ | refine endI_norm ?_)
        | (with_reducible refine wp_regK fun K hK => ?_
           simp[List.replicate_succ, hw, hsm_y_L, hsms_y_L]
           repeat' (with_reducible first | refine hK _ ?_ | (refine psel ?_ ?_ <;> (intro hc; (try rw [Decidable.not_not] at hc); first | (exfalso; omega) | (try simp [hc, List.replicate_succ, hw, hsm_y_L, hsms_y_L]))))
           all_goals (clear hK; clear K))
        | (with_reducible refine wp_condE ?_
           refine ⟨_, rfl, ?_, ?_⟩ <;> (intro hc; (try simp at hc); (all_goals first | (exfalso; omega) | skip))))
      all_goals exact ⟨(pre ++ [⟨y_Ins, y_L⟩], rest), by simp, by simp, by simp⟩

@[simp] theorem t161 (k0 k1 : Bool) (x_Ins : Int) (x_L : List XVal) (hok_x_L : x_L.length ≤ 1048576) (hoks_x_L : XVal.sms x_L) : Gw TT 161 [.st [.ro false (di x_Ins), .ro k0 (.sl 3 (x_L.map XVal.e))], .st [.ro false (di x_Ins), .ro k1 (.sl 3 (x_L.map XVal.e))]] = some (vb true, []) := by
  refine Gw_of (F := pf161) rfl rfl ?_
  show Wp _ pb161 _ _
  unfold pb161
  repeat' (first
    | with_reducible (first | refine wp_seq ?_ | refine wp_blk ?_ | refine wp_skip ?_ | refine wp_exit ?_ | refine wp_ret ?_ | refine seqQ_norm ?_ | refine seqQ_ret ?_ | refine seqQ_exit ?_ | refine blkQ_norm ?_ | refine blkQ_ret ?_ | refine blkQ_exit ?_ | refine loopQ_norm ?_ | refine loopQ_exit ?_ | refine loopQ_ret ?_ | refine endQ_ret ?_ | refine endQ_norm ?_ | refine endE_ret ?_ | refine endE_norm ?_ | refine endI_ret ?_ | refine endI_norm ?_)
    | (with_reducible refine wp_regK fun K hK => ?_
       simp[hok_x_L, hoks_x_L]
       repeat' (with_reducible first | refine hK _ ?_ | (refine psel ?_ ?_ <;> (intro hc; (try rw [Decidable.not_not] at hc); first | (exfalso; omega) | (try simp [hc, hok_x_L, hoks_x_L]))))
       all_goals (clear hK; clear K))
    | (with_reducible refine wp_condE ?_
       refine ⟨_, rfl, ?_, ?_⟩ <;> (intro hc; (try simp at hc); (all_goals first | (exfalso; omega) | skip))))
  all_goals simp [pf161]

@[simp] theorem t162 (k0 k1 : Bool) (l : List XSlot) (h : l.length ≤ 1048576) (hs : XSlot.sms l) : Gw TT 162 [.one (.ro k0 (.sl 2 (l.map XSlot.e))), .one (.ro k1 (.sl 2 (l.map XSlot.e)))] = some (vb true, []) := by
  refine Gw_of (F := pf162) rfl rfl ?_
  show Wp _ pb162 _ _
  unfold pb162
  repeat' (first
    | with_reducible (first | refine wp_seq ?_ | refine wp_blk ?_ | refine wp_skip ?_ | refine wp_exit ?_ | refine wp_ret ?_ | refine seqQ_norm ?_ | refine seqQ_ret ?_ | refine seqQ_exit ?_ | refine blkQ_norm ?_ | refine blkQ_ret ?_ | refine blkQ_exit ?_ | refine loopQ_norm ?_ | refine loopQ_exit ?_ | refine loopQ_ret ?_ | refine endQ_ret ?_ | refine endQ_norm ?_ | refine endE_ret ?_ | refine endE_norm ?_ | refine endI_ret ?_ | refine endI_norm ?_)
    | (with_reducible refine wp_regK fun K hK => ?_
       simp
       repeat' (with_reducible first | refine hK _ ?_ | (refine psel ?_ ?_ <;> (intro hc; (try rw [Decidable.not_not] at hc); first | (exfalso; omega) | (try simp [hc]))))
       all_goals (clear hK; clear K))
    | (with_reducible refine wp_condE ?_
       refine ⟨_, rfl, ?_, ?_⟩ <;> (intro hc; (try simp at hc); (all_goals first | (exfalso; omega) | skip))))
  · refine wp_loopI (σ := List XSlot × List XSlot) (fun s => [(0, AV.v k0 (D.sl 2 (List.map XSlot.e l)), none), (1, AV.v k1 (D.sl 2 (List.map XSlot.e l)), none), (5, AV.v false (di (s.1.length : Nat)), none)]) (fun s => l = s.1 ++ s.2) (fun s => s.2.length) ([], l) (by simp) rfl ?_
    rintro ⟨pre, rest⟩ h1
    simp only at h1
    subst h1
    simp only [List.length_append, List.length_cons] at h
    rcases rest with _ | ⟨⟨y_Ins, y_L⟩, rest⟩
    · unfold pl162_0
      repeat' (first
        | with_reducible (first | refine wp_seq ?_ | refine wp_blk ?_ | refine wp_skip ?_ | refine wp_exit ?_ | refine wp_ret ?_ | refine seqQ_norm ?_ | refine seqQ_ret ?_ | refine seqQ_exit ?_ | refine blkQ_norm ?_ | refine blkQ_ret ?_ | refine blkQ_exit ?_ | refine loopQ_norm ?_ | refine loopQ_exit ?_ | refine loopQ_ret ?_ | refine endQ_ret ?_ | refine endQ_norm ?_ | refine endE_ret ?_ | refine endE_norm ?_ | refine endI_ret ?_ | refine endI_norm ?_)
        | (with_reducible refine wp_regK fun K hK => ?_
           simp
           repeat' (with_reducible first | refine hK _ ?_ | (refine psel ?_ ?_ <;> (intro hc; (try rw [Decidable.not_not] at hc); first | (exfalso; omega) | (try simp [hc]))))
           all_goals (clear hK; clear K))
        | (with_reducible refine wp_condE ?_
           refine ⟨_, rfl, ?_, ?_⟩ <;> (intro hc; (try simp at hc); (all_goals first | (exfalso; omega) | skip))))
      all_goals simp [pf162]
    · unfold pl162_0
      simp only [List.length_cons] at h
      have hw : IntKind.wrap .i64 ((pre.length : Int) + 1) = (pre.length : Int) + 1 := wrap_i64 (by omega) (by omega)
      have hd := hs ⟨y_Ins, y_L⟩ (by simp)
      simp only [XSlot.sm, and_assoc] at hd
      obtain ⟨hsm_y_L, hsms_y_L⟩ := hd
      repeat' (first
        | with_reducible (first | refine wp_seq ?_ | refine wp_blk ?_ | refine wp_skip ?_ | refine wp_exit ?_ | refine wp_ret ?_ | refine seqQ_norm ?_ | refine seqQ_ret ?_ | refine seqQ_exit ?_ | refine blkQ_norm ?_ | refine blkQ_ret ?_ | refine blkQ_exit ?_ | refine loopQ_norm ?_ | refine loopQ_exit ?_ | refine loopQ_ret ?_ | refine endQ_ret ?_ | refine endQ_norm ?_ | refine endE_ret ?_ | refine endE_norm ?_ | refine endI_ret ?_ | refine endI_norm ?_)
        | (with_reducible refine wp_regK fun K hK => ?_
           simp[hw, hsm_y_L, hsms_y_L]
           repeat' (with_reducible first | refine hK _ ?_ | (refine psel ?_ ?_ <;> (intro hc; (try rw [Decidable.not_not] at hc); first | (exfalso; omega) | (try simp [hc, hw, hsm_y_L, hsms_y_L]))))
           all_goals (clear hK; clear K))
        | (with_reducible refine wp_condE ?_
           refine ⟨_, rfl, ?_, ?_⟩ <;> (intro hc; (try simp at hc); (all_goals first | (exfalso; omega) | skip))))
      all_goals exact ⟨(pre ++ [⟨y_Ins, y_L⟩], rest), by simp, by simp, by simp⟩

@[simp] theorem t237 (k0 : Bool) (x_Next : Int) (x_L : List XSlot) (hsm_x_L : x_L.length ≤ 1048576) (hsms_x_L : XSlot.sms x_L) : Gw TT 237 [.st [.ro false (di x_Next), .ro k0 (.sl 2 (x_L.map XSlot.e))]] = some (.st [.ro false (di x_Next), .own (.sl 2 (x_L.map XSlot.e))], []) := by
  refine Gw_of (F := pf237) rfl rfl ?_
  show Wp _ pb237 _ _
  unfold pb237
  repeat' (first
    | with_reducible (first | refine wp_seq ?_ | refine wp_blk ?_ | refine wp_skip ?_ | refine wp_exit ?_ | refine wp_ret ?_ | refine seqQ_norm ?_ | refine seqQ_ret ?_ | refine seqQ_exit ?_ | refine blkQ_norm ?_ | refine blkQ_ret ?_ | refine blkQ_exit ?_ | refine loopQ_norm ?_ | refine loopQ_exit ?_ | refine loopQ_ret ?_ | refine endQ_ret ?_ | refine endQ_norm ?_ | refine endE_ret ?_ | refine endE_norm ?_ | refine endI_ret ?_ | refine endI_norm ?_)
    | (with_reducible refine wp_regK fun K hK => ?_
       simp[hsm_x_L, hsms_x_L]
       repeat' (with_reducible first | refine hK _ ?_ | (refine psel ?_ ?_ <;> (intro hc; (try rw [Decidable.not_not] at hc); first | (exfalso; omega) | (try simp [hc, hsm_x_L, hsms_x_L]))))
       all_goals (clear hK; clear K))
    | (with_reducible refine wp_condE ?_
       refine ⟨_, rfl, ?_, ?_⟩ <;> (intro hc; (try simp at hc); (all_goals first | (exfalso; omega) | skip))))
  all_goals simp [pf237]

@[simp] theorem t145 (k0 k1 : Bool) (x_Next : Int) (x_L : List XSlot) (hok_x_L : x_L.length ≤ 1048576) (hoks_x_L : XSlot.sms x_L) : Gw TT 145 [.st [.ro false (di x_Next), .ro k0 (.sl 2 (x_L.map XSlot.e))], .st [.ro false (di x_Next), .ro k1 (.sl 2 (x_L.map XSlot.e))]] = some (vb true, []) := by
  refine Gw_of (F := pf145) rfl rfl ?_
  show Wp _ pb145 _ _
  unfold pb145
  repeat' (first
    | with_reducible (first | refine wp_seq ?_ | refine wp_blk ?_ | refine wp_skip ?_ | refine wp_exit ?_ | refine wp_ret ?_ | refine seqQ_norm ?_ | refine seqQ_ret ?_ | refine seqQ_exit ?_ | refine blkQ_norm ?_ | refine blkQ_ret ?_ | refine blkQ_exit ?_ | refine loopQ_norm ?_ | refine loopQ_exit ?_ | refine loopQ_ret ?_ | refine endQ_ret ?_ | refine endQ_norm ?_ | refine endE_ret ?_ | refine endE_norm ?_ | refine endI_ret ?_ | refine endI_norm ?_)
    | (with_reducible refine wp_regK fun K hK => ?_
       simp[hok_x_L, hoks_x_L]
       repeat' (with_reducible first | refine hK _ ?_ | (refine psel ?_ ?_ <;> (intro hc; (try rw [Decidable.not_not] at hc); first | (exfalso; omega) | (try simp [hc, hok_x_L, hoks_x_L]))))
       all_goals (clear hK; clear K))
    | (with_reducible refine wp_condE ?_
       refine ⟨_, rfl, ?_, ?_⟩ <;> (intro hc; (try simp at hc); (all_goals first | (exfalso; omega) | skip))))
  all_goals simp [pf145]

@[simp] theorem t234 (k0 : Bool) (x_Gen : Int) (x_Kind : Int) (x_C_Next : Int) (x_C_L : List XSlot) (x_G : List Int) (hsm_x_C_L : x_C_L.length ≤ 1048576) (hsms_x_C_L : XSlot.sms x_C_L) (hsm_x_G : x_G.length ≤ 1048576) : Gw TT 234 [.st [.ro false (di x_Gen), .ro false (di x_Kind), .ro false (di x_C_Next), .ro k0 (.sl 2 (x_C_L.map XSlot.e)), .ro k0 (.sl 1 (x_G.map eb))]] = some (.st [.ro false (di x_Gen), .ro false (di x_Kind), .ro false (di x_C_Next), .own (.sl 2 (x_C_L.map XSlot.e)), .own (.sl 1 (x_G.map eb))], []) := by
  refine Gw_of (F := pf234) rfl rfl ?_
  show Wp _ pb234 _ _
  unfold pb234
  repeat' (first
    | with_reducible (first | refine wp_seq ?_ | refine wp_blk ?_ | refine wp_skip ?_ | refine wp_exit ?_ | refine wp_ret ?_ | refine seqQ_norm ?_ | refine seqQ_ret ?_ | refine seqQ_exit ?_ | refine blkQ_norm ?_ | refine blkQ_ret ?_ | refine blkQ_exit ?_ | refine loopQ_norm ?_ | refine loopQ_exit ?_ | refine loopQ_ret ?_ | refine endQ_ret ?_ | refine endQ_norm ?_ | refine endE_ret ?_ | refine endE_norm ?_ | refine endI_ret ?_ | refine endI_norm ?_)
    | (with_reducible refine wp_regK fun K hK => ?_
       simp[hsm_x_C_L, hsms_x_C_L, hsm_x_G]
       repeat' (with_reducible first | refine hK _ ?_ | (refine psel ?_ ?_ <;> (intro hc; (try rw [Decidable.not_not] at hc); first | (exfalso; omega) | (try simp [hc, hsm_x_C_L, hsms_x_C_L, hsm_x_G]))))
       all_goals (clear hK; clear K))
    | (with_reducible refine wp_condE ?_
       refine ⟨_, rfl, ?_, ?_⟩ <;> (intro hc; (try simp at hc); (all_goals first | (exfalso; omega) | skip))))
  all_goals simp [pf234]

@[simp] theorem t235 (k0 : Bool) (l : List XBuf) (h : l.length ≤ 1048576) (hs : XBuf.sms l) : Gw TT 235 [.one (.ro k0 (.sl 5 (l.map XBuf.e)))] = some (.one (.own (.sl 5 (l.map XBuf.e))), []) := by
  refine Gw_of (F := pf235) rfl rfl ?_
  show Wp _ pb235 _ _
  unfold pb235
  repeat' (first
    | with_reducible (first | refine wp_seq ?_ | refine wp_blk ?_ | refine wp_skip ?_ | refine wp_exit ?_ | refine wp_ret ?_ | refine seqQ_norm ?_ | refine seqQ_ret ?_ | refine seqQ_exit ?_ | refine blkQ_norm ?_ | refine blkQ_ret ?_ | refine blkQ_exit ?_ | refine loopQ_norm ?_ | refine loopQ_exit ?_ | refine loopQ_ret ?_ | refine endQ_ret ?_ | refine endQ_norm ?_ | refine endE_ret ?_ | refine endE_norm ?_ | refine endI_ret ?_ | refine endI_norm ?_)
    | (with_reducible refine wp_regK fun K hK => ?_
       simp
       repeat' (with_reducible first | refine hK _ ?_ | (refine psel ?_ ?_ <;> (intro hc; (try rw [Decidable.not_not] at hc); first | (exfalso; omega) | (try simp [hc]))))
       all_goals (clear hK; clear K))
    | (with_reducible refine wp_condE ?_
       refine ⟨_, rfl, ?_, ?_⟩ <;> (intro hc; (try simp at hc); (all_goals first | (exfalso; omega) | skip))))
  · refine wp_loopI (σ := List XBuf × List XBuf) (fun s => [(0, AV.v k0 (D.sl 5 (List.map XBuf.e l)), none), (3, AV.pl 3 0 [], some (Rt.vir [C.own (D.sl 5 (s.1.map XBuf.e ++ List.replicate s.2.length [.int .i64 0, .int .i64 0, .int .i64 0, .sl 2 [], .sl 1 []]))])), (4, AV.v false (di (s.1.length : Nat)), none)]) (fun s => l = s.1 ++ s.2) (fun s => s.2.length) ([], l) (by simp) rfl ?_
    rintro ⟨pre, rest⟩ h1
    simp only at h1
    subst h1
    simp only [List.length_append, List.length_cons] at h
    rcases rest with _ | ⟨⟨y_Gen, y_Kind, ⟨y_C_Next, y_C_L⟩, y_G⟩, rest⟩
    · unfold pl235_0
      repeat' (first
        | with_reducible (first | refine wp_seq ?_ | refine wp_blk ?_ | refine wp_skip ?_ | refine wp_exit ?_ | refine wp_ret ?_ | refine seqQ_norm ?_ | refine seqQ_ret ?_ | refine seqQ_exit ?_ | refine blkQ_norm ?_ | refine blkQ_ret ?_ | refine blkQ_exit ?_ | refine loopQ_norm ?_ | refine loopQ_exit ?_ | refine loopQ_ret ?_ | refine endQ_ret ?_ | refine endQ_norm ?_ | refine endE_ret ?_ | refine endE_norm ?_ | refine endI_ret ?_ | refine endI_norm ?_)
        | (with_reducible refine wp_regK fun K hK => ?_
           simp
           repeat' (with_reducible first | refine hK _ ?_ | (refine psel ?_ ?_ <;> (intro hc; (try rw [Decidable.not_not] at hc); first | (exfalso; omega) | (try simp [hc]))))
           all_goals (clear hK; clear K))
        | (with_reducible refine wp_condE ?_
           refine ⟨_, rfl, ?_, ?_⟩ <;> (intro hc; (try simp at hc); (all_goals first | (exfalso; omega) | skip))))
      all_goals simp [pf235]
    · unfold pl235_0
      simp only [List.length_cons] at h
      have hw : IntKind.wrap .i64 ((pre.length : Int) + 1) = (pre.length : Int) + 1 := wrap_i64 (by omega) (by omega)
      have hd := hs ⟨y_Gen, y_Kind, ⟨y_C_Next, y_C_L⟩, y_G⟩ (by simp)
      simp only [XBuf.sm, XChunk.sm, and_assoc] at hd
      obtain ⟨hsm_y_C_L, hsms_y_C_L, hsm_y_G⟩ := hd
      repeat' (first
        | with_reducible (first | refine wp_seq ?_ | refine wp_blk ?_ | refine wp_skip ?_ | refine wp_exit ?_ | refine wp_ret ?_ | refine seqQ_norm ?_ | refine seqQ_ret ?_ | refine seqQ_exit ?_ | refine blkQ_norm ?_ | refine blkQ_ret ?_ | refine blkQ_exit ?_ | refine loopQ_norm ?_ | refine loopQ_exit ?_ | refine loopQ_ret ?_ | refine endQ_ret ?_ | refine endQ_norm ?_ | refine endE_ret ?_ | refine endE_norm ?_ | refine endI_ret ?_ | refine endI_norm ?_)
        | (with_reducible refine wp_regK fun K hK => ?_
           simp[List.replicate_succ, hw, hsm_y_C_L, hsms_y_C_L, hsm_y_G]
           repeat' (with_reducible first | refine hK _ ?_ | (refine psel ?_ ?_ <;> (intro hc; (try rw [Decidable.not_not] at hc); first | (exfalso; omega) | (try simp [hc, List.replicate_succ, hw, hsm_y_C_L, hsms_y_C_L, hsm_y_G]))))
           all_goals (clear hK; clear K))
        | (with_reducible refine wp_condE ?_
           refine ⟨_, rfl, ?_, ?_⟩ <;> (intro hc; (try simp at hc); (all_goals first | (exfalso; omega) | skip))))
      all_goals exact ⟨(pre ++ [⟨y_Gen, y_Kind, ⟨y_C_Next, y_C_L⟩, y_G⟩], rest), by simp, by simp, by simp⟩

@[simp] theorem t142 (k0 k1 : Bool) (x_Gen : Int) (x_Kind : Int) (x_C_Next : Int) (x_C_L : List XSlot) (x_G : List Int) (hok_x_C_L : x_C_L.length ≤ 1048576) (hoks_x_C_L : XSlot.sms x_C_L) (hok_x_G : x_G.length ≤ 1048576) : Gw TT 142 [.st [.ro false (di x_Gen), .ro false (di x_Kind), .ro false (di x_C_Next), .ro k0 (.sl 2 (x_C_L.map XSlot.e)), .ro k0 (.sl 1 (x_G.map eb))], .st [.ro false (di x_Gen), .ro false (di x_Kind), .ro false (di x_C_Next), .ro k1 (.sl 2 (x_C_L.map XSlot.e)), .ro k1 (.sl 1 (x_G.map eb))]] = some (vb true, []) := by
  refine Gw_of (F := pf142) rfl rfl ?_
  show Wp _ pb142 _ _
  unfold pb142
  repeat' (first
    | with_reducible (first | refine wp_seq ?_ | refine wp_blk ?_ | refine wp_skip ?_ | refine wp_exit ?_ | refine wp_ret ?_ | refine seqQ_norm ?_ | refine seqQ_ret ?_ | refine seqQ_exit ?_ | refine blkQ_norm ?_ | refine blkQ_ret ?_ | refine blkQ_exit ?_ | refine loopQ_norm ?_ | refine loopQ_exit ?_ | refine loopQ_ret ?_ | refine endQ_ret ?_ | refine endQ_norm ?_ | refine endE_ret ?_ | refine endE_norm ?_ | refine endI_ret ?_ | refine endI_norm ?_)
    | (with_reducible refine wp_regK fun K hK => ?_
       simp[hok_x_C_L, hoks_x_C_L, hok_x_G]
       repeat' (with_reducible first | refine hK _ ?_ | (refine psel ?_ ?_ <;> (intro hc; (try rw [Decidable.not_not] at hc); first | (exfalso; omega) | (try simp [hc, hok_x_C_L, hoks_x_C_L, hok_x_G]))))
       all_goals (clear hK; clear K))
    | (with_reducible refine wp_condE ?_
       refine ⟨_, rfl, ?_, ?_⟩ <;> (intro hc; (try simp at hc); (all_goals first | (exfalso; omega) | skip))))
  all_goals simp [pf142]

@[simp] theorem t143 (k0 k1 : Bool) (l : List XBuf) (h : l.length ≤ 1048576) (hs : XBuf.sms l) : Gw TT 143 [.one (.ro k0 (.sl 5 (l.map XBuf.e))), .one (.ro k1 (.sl 5 (l.map XBuf.e)))] = some (vb true, []) := by
  refine Gw_of (F := pf143) rfl rfl ?_
  show Wp _ pb143 _ _
  unfold pb143
  repeat' (first
    | with_reducible (first | refine wp_seq ?_ | refine wp_blk ?_ | refine wp_skip ?_ | refine wp_exit ?_ | refine wp_ret ?_ | refine seqQ_norm ?_ | refine seqQ_ret ?_ | refine seqQ_exit ?_ | refine blkQ_norm ?_ | refine blkQ_ret ?_ | refine blkQ_exit ?_ | refine loopQ_norm ?_ | refine loopQ_exit ?_ | refine loopQ_ret ?_ | refine endQ_ret ?_ | refine endQ_norm ?_ | refine endE_ret ?_ | refine endE_norm ?_ | refine endI_ret ?_ | refine endI_norm ?_)
    | (with_reducible refine wp_regK fun K hK => ?_
       simp
       repeat' (with_reducible first | refine hK _ ?_ | (refine psel ?_ ?_ <;> (intro hc; (try rw [Decidable.not_not] at hc); first | (exfalso; omega) | (try simp [hc]))))
       all_goals (clear hK; clear K))
    | (with_reducible refine wp_condE ?_
       refine ⟨_, rfl, ?_, ?_⟩ <;> (intro hc; (try simp at hc); (all_goals first | (exfalso; omega) | skip))))
  · refine wp_loopI (σ := List XBuf × List XBuf) (fun s => [(0, AV.v k0 (D.sl 5 (List.map XBuf.e l)), none), (1, AV.v k1 (D.sl 5 (List.map XBuf.e l)), none), (5, AV.v false (di (s.1.length : Nat)), none)]) (fun s => l = s.1 ++ s.2) (fun s => s.2.length) ([], l) (by simp) rfl ?_
    rintro ⟨pre, rest⟩ h1
    simp only at h1
    subst h1
    simp only [List.length_append, List.length_cons] at h
    rcases rest with _ | ⟨⟨y_Gen, y_Kind, ⟨y_C_Next, y_C_L⟩, y_G⟩, rest⟩
    · unfold pl143_0
      repeat' (first
        | with_reducible (first | refine wp_seq ?_ | refine wp_blk ?_ | refine wp_skip ?_ | refine wp_exit ?_ | refine wp_ret ?_ | refine seqQ_norm ?_ | refine seqQ_ret ?_ | refine seqQ_exit ?_ | refine blkQ_norm ?_ | refine blkQ_ret ?_ | refine blkQ_exit ?_ | refine loopQ_norm ?_ | refine loopQ_exit ?_ | refine loopQ_ret ?_ | refine endQ_ret ?_ | refine endQ_norm ?_ | refine endE_ret ?_ | refine endE_norm ?_ | refine endI_ret ?_ | refine endI_norm ?_)
        | (with_reducible refine wp_regK fun K hK => ?_
           simp
           repeat' (with_reducible first | refine hK _ ?_ | (refine psel ?_ ?_ <;> (intro hc; (try rw [Decidable.not_not] at hc); first | (exfalso; omega) | (try simp [hc]))))
           all_goals (clear hK; clear K))
        | (with_reducible refine wp_condE ?_
           refine ⟨_, rfl, ?_, ?_⟩ <;> (intro hc; (try simp at hc); (all_goals first | (exfalso; omega) | skip))))
      all_goals simp [pf143]
    · unfold pl143_0
      simp only [List.length_cons] at h
      have hw : IntKind.wrap .i64 ((pre.length : Int) + 1) = (pre.length : Int) + 1 := wrap_i64 (by omega) (by omega)
      have hd := hs ⟨y_Gen, y_Kind, ⟨y_C_Next, y_C_L⟩, y_G⟩ (by simp)
      simp only [XBuf.sm, XChunk.sm, and_assoc] at hd
      obtain ⟨hsm_y_C_L, hsms_y_C_L, hsm_y_G⟩ := hd
      repeat' (first
        | with_reducible (first | refine wp_seq ?_ | refine wp_blk ?_ | refine wp_skip ?_ | refine wp_exit ?_ | refine wp_ret ?_ | refine seqQ_norm ?_ | refine seqQ_ret ?_ | refine seqQ_exit ?_ | refine blkQ_norm ?_ | refine blkQ_ret ?_ | refine blkQ_exit ?_ | refine loopQ_norm ?_ | refine loopQ_exit ?_ | refine loopQ_ret ?_ | refine endQ_ret ?_ | refine endQ_norm ?_ | refine endE_ret ?_ | refine endE_norm ?_ | refine endI_ret ?_ | refine endI_norm ?_)
        | (with_reducible refine wp_regK fun K hK => ?_
           simp[hw, hsm_y_C_L, hsms_y_C_L, hsm_y_G]
           repeat' (with_reducible first | refine hK _ ?_ | (refine psel ?_ ?_ <;> (intro hc; (try rw [Decidable.not_not] at hc); first | (exfalso; omega) | (try simp [hc, hw, hsm_y_C_L, hsms_y_C_L, hsm_y_G]))))
           all_goals (clear hK; clear K))
        | (with_reducible refine wp_condE ?_
           refine ⟨_, rfl, ?_, ?_⟩ <;> (intro hc; (try simp at hc); (all_goals first | (exfalso; omega) | skip))))
      all_goals exact ⟨(pre ++ [⟨y_Gen, y_Kind, ⟨y_C_Next, y_C_L⟩, y_G⟩], rest), by simp, by simp, by simp⟩

@[simp] theorem t238 (k0 : Bool) (x_Cols : List Int) (x_Slots : Int) (x_Bufs : Int) (hsm_x_Cols : x_Cols.length ≤ 1048576) : Gw TT 238 [.st [.ro k0 (.sl 1 (x_Cols.map ei)), .ro false (di x_Slots), .ro false (di x_Bufs)]] = some (.st [.own (.sl 1 (x_Cols.map ei)), .ro false (di x_Slots), .ro false (di x_Bufs)], []) := by
  refine Gw_of (F := pf238) rfl rfl ?_
  show Wp _ pb238 _ _
  unfold pb238
  repeat' (first
    | with_reducible (first | refine wp_seq ?_ | refine wp_blk ?_ | refine wp_skip ?_ | refine wp_exit ?_ | refine wp_ret ?_ | refine seqQ_norm ?_ | refine seqQ_ret ?_ | refine seqQ_exit ?_ | refine blkQ_norm ?_ | refine blkQ_ret ?_ | refine blkQ_exit ?_ | refine loopQ_norm ?_ | refine loopQ_exit ?_ | refine loopQ_ret ?_ | refine endQ_ret ?_ | refine endQ_norm ?_ | refine endE_ret ?_ | refine endE_norm ?_ | refine endI_ret ?_ | refine endI_norm ?_)
    | (with_reducible refine wp_regK fun K hK => ?_
       simp[hsm_x_Cols]
       repeat' (with_reducible first | refine hK _ ?_ | (refine psel ?_ ?_ <;> (intro hc; (try rw [Decidable.not_not] at hc); first | (exfalso; omega) | (try simp [hc, hsm_x_Cols]))))
       all_goals (clear hK; clear K))
    | (with_reducible refine wp_condE ?_
       refine ⟨_, rfl, ?_, ?_⟩ <;> (intro hc; (try simp at hc); (all_goals first | (exfalso; omega) | skip))))
  all_goals simp [pf238]

@[simp] theorem t146 (k0 k1 : Bool) (x_Cols : List Int) (x_Slots : Int) (x_Bufs : Int) (hok_x_Cols : x_Cols.length ≤ 1048576) : Gw TT 146 [.st [.ro k0 (.sl 1 (x_Cols.map ei)), .ro false (di x_Slots), .ro false (di x_Bufs)], .st [.ro k1 (.sl 1 (x_Cols.map ei)), .ro false (di x_Slots), .ro false (di x_Bufs)]] = some (vb true, []) := by
  refine Gw_of (F := pf146) rfl rfl ?_
  show Wp _ pb146 _ _
  unfold pb146
  repeat' (first
    | with_reducible (first | refine wp_seq ?_ | refine wp_blk ?_ | refine wp_skip ?_ | refine wp_exit ?_ | refine wp_ret ?_ | refine seqQ_norm ?_ | refine seqQ_ret ?_ | refine seqQ_exit ?_ | refine blkQ_norm ?_ | refine blkQ_ret ?_ | refine blkQ_exit ?_ | refine loopQ_norm ?_ | refine loopQ_exit ?_ | refine loopQ_ret ?_ | refine endQ_ret ?_ | refine endQ_norm ?_ | refine endE_ret ?_ | refine endE_norm ?_ | refine endI_ret ?_ | refine endI_norm ?_)
    | (with_reducible refine wp_regK fun K hK => ?_
       simp[hok_x_Cols]
       repeat' (with_reducible first | refine hK _ ?_ | (refine psel ?_ ?_ <;> (intro hc; (try rw [Decidable.not_not] at hc); first | (exfalso; omega) | (try simp [hc, hok_x_Cols]))))
       all_goals (clear hK; clear K))
    | (with_reducible refine wp_condE ?_
       refine ⟨_, rfl, ?_, ?_⟩ <;> (intro hc; (try simp at hc); (all_goals first | (exfalso; omega) | skip))))
  all_goals simp [pf146]

def ToPred (x : XPred) : Prop := ∀ k0 : Bool, x.sm → Gw TT 245 [.st [.ro false (di x.Kind), .ro false (di x.Col), .ro false (di x.Op), .ro false (di x.V.Ty), .ro false (di x.V.N), .ro false (.str x.V.S), .ro k0 (.sl 7 (x.L.map XPred.e))]] = some (.st [.ro false (di x.Kind), .ro false (di x.Col), .ro false (di x.Op), .ro false (di x.V.Ty), .ro false (di x.V.N), .ro false (.str x.V.S), .own (.sl 7 (x.L.map XPred.e))], [])
def ToPreds (l : List XPred) : Prop := ∀ k0 : Bool, l.length ≤ 1048576 → XPred.sms l → Gw TT 246 [.one (.ro k0 (.sl 7 (l.map XPred.e)))] = some (.one (.own (.sl 7 (l.map XPred.e))), [])

theorem ToPreds_of (l : List XPred) (IH : ∀ y ∈ l, ToPred y) : ToPreds l := by
  intro k0 h hs
  refine Gw_of (F := pf246) rfl rfl ?_
  show Wp _ pb246 _ _
  unfold pb246
  repeat' (first
    | with_reducible (first | refine wp_seq ?_ | refine wp_blk ?_ | refine wp_skip ?_ | refine wp_exit ?_ | refine wp_ret ?_ | refine seqQ_norm ?_ | refine seqQ_ret ?_ | refine seqQ_exit ?_ | refine blkQ_norm ?_ | refine blkQ_ret ?_ | refine blkQ_exit ?_ | refine loopQ_norm ?_ | refine loopQ_exit ?_ | refine loopQ_ret ?_ | refine endQ_ret ?_ | refine endQ_norm ?_ | refine endE_ret ?_ | refine endE_norm ?_ | refine endI_ret ?_ | refine endI_norm ?_)
    | (with_reducible refine wp_regK fun K hK => ?_
       simp
       repeat' (with_reducible first | refine hK _ ?_ | (refine psel ?_ ?_ <;> (intro hc; (try rw [Decidable.not_not] at hc); first | (exfalso; omega) | (try simp [hc]))))
       all_goals (clear hK; clear K))
    | (with_reducible refine wp_condE ?_
       refine ⟨_, rfl, ?_, ?_⟩ <;> (intro hc; (try simp at hc); (all_goals first | (exfalso; omega) | skip))))
  · refine wp_loopI (σ := List XPred × List XPred) (fun s => [(0, AV.v k0 (D.sl 7 (List.map XPred.e l)), none), (3, AV.pl 3 0 [], some (Rt.vir [C.own (D.sl 7 (s.1.map XPred.e ++ List.replicate s.2.length [.int .i64 0, .int .i64 0, .int .i64 0, .int .i64 0, .int .i64 0, .str ⟨#[]⟩, .sl 7 []]))])), (4, AV.v false (di (s.1.length : Nat)), none)]) (fun s => l = s.1 ++ s.2) (fun s => s.2.length) ([], l) (by simp) rfl ?_
    rintro ⟨pre, rest⟩ h1
    simp only at h1
    subst h1
    simp only [List.length_append, List.length_cons] at h
    rcases rest with _ | ⟨⟨y_Kind, y_Col, y_Op, ⟨y_V_Ty, y_V_N, y_V_S⟩, y_L⟩, rest⟩
    · unfold pl246_0
      repeat' (first
        | with_reducible (first | refine wp_seq ?_ | refine wp_blk ?_ | refine wp_skip ?_ | refine wp_exit ?_ | refine wp_ret ?_ | refine seqQ_norm ?_ | refine seqQ_ret ?_ | refine seqQ_exit ?_ | refine blkQ_norm ?_ | refine blkQ_ret ?_ | refine blkQ_exit ?_ | refine loopQ_norm ?_ | refine loopQ_exit ?_ | refine loopQ_ret ?_ | refine endQ_ret ?_ | refine endQ_norm ?_ | refine endE_ret ?_ | refine endE_norm ?_ | refine endI_ret ?_ | refine endI_norm ?_)
        | (with_reducible refine wp_regK fun K hK => ?_
           simp
           repeat' (with_reducible first | refine hK _ ?_ | (refine psel ?_ ?_ <;> (intro hc; (try rw [Decidable.not_not] at hc); first | (exfalso; omega) | (try simp [hc]))))
           all_goals (clear hK; clear K))
        | (with_reducible refine wp_condE ?_
           refine ⟨_, rfl, ?_, ?_⟩ <;> (intro hc; (try simp at hc); (all_goals first | (exfalso; omega) | skip))))
      all_goals simp [pf246]
    · unfold pl246_0
      simp only [List.length_cons] at h
      have hw : IntKind.wrap .i64 ((pre.length : Int) + 1) = (pre.length : Int) + 1 := wrap_i64 (by omega) (by omega)
      have hd := XPred.sms_mem hs ⟨y_Kind, y_Col, y_Op, ⟨y_V_Ty, y_V_N, y_V_S⟩, y_L⟩ (by simp)
      simp only [XPred.sm_eq, XVal.sm, and_assoc] at hd
      obtain ⟨hsm_y_V_S, hsm_y_L, hsms_y_L⟩ := hd
      have ih := IH ⟨y_Kind, y_Col, y_Op, ⟨y_V_Ty, y_V_N, y_V_S⟩, y_L⟩ (by simp) k0 (XPred.sms_mem hs ⟨y_Kind, y_Col, y_Op, ⟨y_V_Ty, y_V_N, y_V_S⟩, y_L⟩ (by simp))
      simp only at ih
      repeat' (first
        | with_reducible (first | refine wp_seq ?_ | refine wp_blk ?_ | refine wp_skip ?_ | refine wp_exit ?_ | refine wp_ret ?_ | refine seqQ_norm ?_ | refine seqQ_ret ?_ | refine seqQ_exit ?_ | refine blkQ_norm ?_ | refine blkQ_ret ?_ | refine blkQ_exit ?_ | refine loopQ_norm ?_ | refine loopQ_exit ?_ | refine loopQ_ret ?_ | refine endQ_ret ?_ | refine endQ_norm ?_ | refine endE_ret ?_ | refine endE_norm ?_ | refine endI_ret ?_ | refine endI_norm ?_)
        | (with_reducible refine wp_regK fun K hK => ?_
           simp[List.replicate_succ, hw, ih, hsm_y_V_S, hsm_y_L, hsms_y_L]
           repeat' (with_reducible first | refine hK _ ?_ | (refine psel ?_ ?_ <;> (intro hc; (try rw [Decidable.not_not] at hc); first | (exfalso; omega) | (try simp [hc, List.replicate_succ, hw, ih, hsm_y_V_S, hsm_y_L, hsms_y_L]))))
           all_goals (clear hK; clear K))
        | (with_reducible refine wp_condE ?_
           refine ⟨_, rfl, ?_, ?_⟩ <;> (intro hc; (try simp at hc); (all_goals first | (exfalso; omega) | skip))))
      all_goals exact ⟨(pre ++ [⟨y_Kind, y_Col, y_Op, ⟨y_V_Ty, y_V_N, y_V_S⟩, y_L⟩], rest), by simp, by simp, by simp⟩

theorem ToPred_of (x : XPred) (IH : ToPreds x.L) : ToPred x := by
  intro k0 hx
  obtain ⟨x_Kind, x_Col, x_Op, ⟨x_V_Ty, x_V_N, x_V_S⟩, x_L⟩ := x
  simp only [XPred.sm_eq, XVal.sm, and_assoc] at hx
  obtain ⟨hsm_x_V_S, hsm_x_L, hsms_x_L⟩ := hx
  have ih := IH k0 hsm_x_L hsms_x_L
  simp only at ih
  refine Gw_of (F := pf245) rfl rfl ?_
  show Wp _ pb245 _ _
  unfold pb245
  repeat' (first
    | with_reducible (first | refine wp_seq ?_ | refine wp_blk ?_ | refine wp_skip ?_ | refine wp_exit ?_ | refine wp_ret ?_ | refine seqQ_norm ?_ | refine seqQ_ret ?_ | refine seqQ_exit ?_ | refine blkQ_norm ?_ | refine blkQ_ret ?_ | refine blkQ_exit ?_ | refine loopQ_norm ?_ | refine loopQ_exit ?_ | refine loopQ_ret ?_ | refine endQ_ret ?_ | refine endQ_norm ?_ | refine endE_ret ?_ | refine endE_norm ?_ | refine endI_ret ?_ | refine endI_norm ?_)
    | (with_reducible refine wp_regK fun K hK => ?_
       simp[ih]
       repeat' (with_reducible first | refine hK _ ?_ | (refine psel ?_ ?_ <;> (intro hc; (try rw [Decidable.not_not] at hc); first | (exfalso; omega) | (try simp [hc, ih]))))
       all_goals (clear hK; clear K))
    | (with_reducible refine wp_condE ?_
       refine ⟨_, rfl, ?_, ?_⟩ <;> (intro hc; (try simp at hc); (all_goals first | (exfalso; omega) | skip))))
  all_goals simp [pf245]

theorem ToPred_all (x : XPred) : ToPred x :=
  ToPred_of x (ToPreds_of x.L fun y hy => ToPred_all y)
termination_by SizeOf.sizeOf x
decreasing_by
  have h1 := List.sizeOf_lt_of_mem hy
  have h2 : SizeOf.sizeOf x.L < SizeOf.sizeOf x := by cases x; simp; omega
  omega

@[simp] theorem t245 (k0 : Bool) (x_Kind : Int) (x_Col : Int) (x_Op : Int) (x_V_Ty : Int) (x_V_N : Int) (x_V_S : ByteArray) (x_L : List XPred) (hsm_x_L : x_L.length ≤ 1048576) (hsms_x_L : XPred.sms x_L) (hv : x_V_S.size ≤ 1048576) : Gw TT 245 [.st [.ro false (di x_Kind), .ro false (di x_Col), .ro false (di x_Op), .ro false (di x_V_Ty), .ro false (di x_V_N), .ro false (.str x_V_S), .ro k0 (.sl 7 (x_L.map XPred.e))]] = some (.st [.ro false (di x_Kind), .ro false (di x_Col), .ro false (di x_Op), .ro false (di x_V_Ty), .ro false (di x_V_N), .ro false (.str x_V_S), .own (.sl 7 (x_L.map XPred.e))], []) := ToPred_all ⟨x_Kind, x_Col, x_Op, ⟨x_V_Ty, x_V_N, x_V_S⟩, x_L⟩ k0 (by simp only [XPred.sm_eq, XVal.sm, and_assoc]; exact ⟨hv, hsm_x_L, hsms_x_L⟩)

@[simp] theorem t246 (k0 : Bool) (l : List XPred) (h : l.length ≤ 1048576) (hs : XPred.sms l) : Gw TT 246 [.one (.ro k0 (.sl 7 (l.map XPred.e)))] = some (.one (.own (.sl 7 (l.map XPred.e))), []) := ToPreds_of l (fun y _ => ToPred_all y) k0 h hs

def EqPred (x : XPred) : Prop := ∀ k0 k1 : Bool, x.sm → Gw TT 153 [.st [.ro false (di x.Kind), .ro false (di x.Col), .ro false (di x.Op), .ro false (di x.V.Ty), .ro false (di x.V.N), .ro false (.str x.V.S), .ro k0 (.sl 7 (x.L.map XPred.e))], .st [.ro false (di x.Kind), .ro false (di x.Col), .ro false (di x.Op), .ro false (di x.V.Ty), .ro false (di x.V.N), .ro false (.str x.V.S), .ro k1 (.sl 7 (x.L.map XPred.e))]] = some (vb true, [])
def EqPreds (l : List XPred) : Prop := ∀ k0 k1 : Bool, l.length ≤ 1048576 → XPred.sms l → Gw TT 154 [.one (.ro k0 (.sl 7 (l.map XPred.e))), .one (.ro k1 (.sl 7 (l.map XPred.e)))] = some (vb true, [])

theorem EqPreds_of (l : List XPred) (IH : ∀ y ∈ l, EqPred y) : EqPreds l := by
  intro k0 k1 h hs
  refine Gw_of (F := pf154) rfl rfl ?_
  show Wp _ pb154 _ _
  unfold pb154
  repeat' (first
    | with_reducible (first | refine wp_seq ?_ | refine wp_blk ?_ | refine wp_skip ?_ | refine wp_exit ?_ | refine wp_ret ?_ | refine seqQ_norm ?_ | refine seqQ_ret ?_ | refine seqQ_exit ?_ | refine blkQ_norm ?_ | refine blkQ_ret ?_ | refine blkQ_exit ?_ | refine loopQ_norm ?_ | refine loopQ_exit ?_ | refine loopQ_ret ?_ | refine endQ_ret ?_ | refine endQ_norm ?_ | refine endE_ret ?_ | refine endE_norm ?_ | refine endI_ret ?_ | refine endI_norm ?_)
    | (with_reducible refine wp_regK fun K hK => ?_
       simp
       repeat' (with_reducible first | refine hK _ ?_ | (refine psel ?_ ?_ <;> (intro hc; (try rw [Decidable.not_not] at hc); first | (exfalso; omega) | (try simp [hc]))))
       all_goals (clear hK; clear K))
    | (with_reducible refine wp_condE ?_
       refine ⟨_, rfl, ?_, ?_⟩ <;> (intro hc; (try simp at hc); (all_goals first | (exfalso; omega) | skip))))
  · refine wp_loopI (σ := List XPred × List XPred) (fun s => [(0, AV.v k0 (D.sl 7 (List.map XPred.e l)), none), (1, AV.v k1 (D.sl 7 (List.map XPred.e l)), none), (5, AV.v false (di (s.1.length : Nat)), none)]) (fun s => l = s.1 ++ s.2) (fun s => s.2.length) ([], l) (by simp) rfl ?_
    rintro ⟨pre, rest⟩ h1
    simp only at h1
    subst h1
    simp only [List.length_append, List.length_cons] at h
    rcases rest with _ | ⟨⟨y_Kind, y_Col, y_Op, ⟨y_V_Ty, y_V_N, y_V_S⟩, y_L⟩, rest⟩
    · unfold pl154_0
      repeat' (first
        | with_reducible (first | refine wp_seq ?_ | refine wp_blk ?_ | refine wp_skip ?_ | refine wp_exit ?_ | refine wp_ret ?_ | refine seqQ_norm ?_ | refine seqQ_ret ?_ | refine seqQ_exit ?_ | refine blkQ_norm ?_ | refine blkQ_ret ?_ | refine blkQ_exit ?_ | refine loopQ_norm ?_ | refine loopQ_exit ?_ | refine loopQ_ret ?_ | refine endQ_ret ?_ | refine endQ_norm ?_ | refine endE_ret ?_ | refine endE_norm ?_ | refine endI_ret ?_ | refine endI_norm ?_)
        | (with_reducible refine wp_regK fun K hK => ?_
           simp
           repeat' (with_reducible first | refine hK _ ?_ | (refine psel ?_ ?_ <;> (intro hc; (try rw [Decidable.not_not] at hc); first | (exfalso; omega) | (try simp [hc]))))
           all_goals (clear hK; clear K))
        | (with_reducible refine wp_condE ?_
           refine ⟨_, rfl, ?_, ?_⟩ <;> (intro hc; (try simp at hc); (all_goals first | (exfalso; omega) | skip))))
      all_goals simp [pf154]
    · unfold pl154_0
      simp only [List.length_cons] at h
      have hw : IntKind.wrap .i64 ((pre.length : Int) + 1) = (pre.length : Int) + 1 := wrap_i64 (by omega) (by omega)
      have hd := XPred.sms_mem hs ⟨y_Kind, y_Col, y_Op, ⟨y_V_Ty, y_V_N, y_V_S⟩, y_L⟩ (by simp)
      simp only [XPred.sm_eq, XVal.sm, and_assoc] at hd
      obtain ⟨hsm_y_V_S, hsm_y_L, hsms_y_L⟩ := hd
      have ih := IH ⟨y_Kind, y_Col, y_Op, ⟨y_V_Ty, y_V_N, y_V_S⟩, y_L⟩ (by simp) k0 k1 (XPred.sms_mem hs ⟨y_Kind, y_Col, y_Op, ⟨y_V_Ty, y_V_N, y_V_S⟩, y_L⟩ (by simp))
      simp only at ih
      repeat' (first
        | with_reducible (first | refine wp_seq ?_ | refine wp_blk ?_ | refine wp_skip ?_ | refine wp_exit ?_ | refine wp_ret ?_ | refine seqQ_norm ?_ | refine seqQ_ret ?_ | refine seqQ_exit ?_ | refine blkQ_norm ?_ | refine blkQ_ret ?_ | refine blkQ_exit ?_ | refine loopQ_norm ?_ | refine loopQ_exit ?_ | refine loopQ_ret ?_ | refine endQ_ret ?_ | refine endQ_norm ?_ | refine endE_ret ?_ | refine endE_norm ?_ | refine endI_ret ?_ | refine endI_norm ?_)
        | (with_reducible refine wp_regK fun K hK => ?_
           simp[hw, ih, hsm_y_V_S, hsm_y_L, hsms_y_L]
           repeat' (with_reducible first | refine hK _ ?_ | (refine psel ?_ ?_ <;> (intro hc; (try rw [Decidable.not_not] at hc); first | (exfalso; omega) | (try simp [hc, hw, ih, hsm_y_V_S, hsm_y_L, hsms_y_L]))))
           all_goals (clear hK; clear K))
        | (with_reducible refine wp_condE ?_
           refine ⟨_, rfl, ?_, ?_⟩ <;> (intro hc; (try simp at hc); (all_goals first | (exfalso; omega) | skip))))
      all_goals exact ⟨(pre ++ [⟨y_Kind, y_Col, y_Op, ⟨y_V_Ty, y_V_N, y_V_S⟩, y_L⟩], rest), by simp, by simp, by simp⟩

theorem EqPred_of (x : XPred) (IH : EqPreds x.L) : EqPred x := by
  intro k0 k1 hx
  obtain ⟨x_Kind, x_Col, x_Op, ⟨x_V_Ty, x_V_N, x_V_S⟩, x_L⟩ := x
  simp only [XPred.sm_eq, XVal.sm, and_assoc] at hx
  obtain ⟨hsm_x_V_S, hsm_x_L, hsms_x_L⟩ := hx
  have ih := IH k0 k1 hsm_x_L hsms_x_L
  simp only at ih
  refine Gw_of (F := pf153) rfl rfl ?_
  show Wp _ pb153 _ _
  unfold pb153
  repeat' (first
    | with_reducible (first | refine wp_seq ?_ | refine wp_blk ?_ | refine wp_skip ?_ | refine wp_exit ?_ | refine wp_ret ?_ | refine seqQ_norm ?_ | refine seqQ_ret ?_ | refine seqQ_exit ?_ | refine blkQ_norm ?_ | refine blkQ_ret ?_ | refine blkQ_exit ?_ | refine loopQ_norm ?_ | refine loopQ_exit ?_ | refine loopQ_ret ?_ | refine endQ_ret ?_ | refine endQ_norm ?_ | refine endE_ret ?_ | refine endE_norm ?_ | refine endI_ret ?_ | refine endI_norm ?_)
    | (with_reducible refine wp_regK fun K hK => ?_
       simp[ih]
       repeat' (with_reducible first | refine hK _ ?_ | (refine psel ?_ ?_ <;> (intro hc; (try rw [Decidable.not_not] at hc); first | (exfalso; omega) | (try simp [hc, ih]))))
       all_goals (clear hK; clear K))
    | (with_reducible refine wp_condE ?_
       refine ⟨_, rfl, ?_, ?_⟩ <;> (intro hc; (try simp at hc); (all_goals first | (exfalso; omega) | skip))))
  all_goals simp [pf153]

theorem EqPred_all (x : XPred) : EqPred x :=
  EqPred_of x (EqPreds_of x.L fun y hy => EqPred_all y)
termination_by SizeOf.sizeOf x
decreasing_by
  have h1 := List.sizeOf_lt_of_mem hy
  have h2 : SizeOf.sizeOf x.L < SizeOf.sizeOf x := by cases x; simp; omega
  omega

@[simp] theorem t153 (k0 k1 : Bool) (x_Kind : Int) (x_Col : Int) (x_Op : Int) (x_V_Ty : Int) (x_V_N : Int) (x_V_S : ByteArray) (x_L : List XPred) (hok_x_L : x_L.length ≤ 1048576) (hoks_x_L : XPred.sms x_L) (hv : x_V_S.size ≤ 1048576) : Gw TT 153 [.st [.ro false (di x_Kind), .ro false (di x_Col), .ro false (di x_Op), .ro false (di x_V_Ty), .ro false (di x_V_N), .ro false (.str x_V_S), .ro k0 (.sl 7 (x_L.map XPred.e))], .st [.ro false (di x_Kind), .ro false (di x_Col), .ro false (di x_Op), .ro false (di x_V_Ty), .ro false (di x_V_N), .ro false (.str x_V_S), .ro k1 (.sl 7 (x_L.map XPred.e))]] = some (vb true, []) := EqPred_all ⟨x_Kind, x_Col, x_Op, ⟨x_V_Ty, x_V_N, x_V_S⟩, x_L⟩ k0 k1 (by simp only [XPred.sm_eq, XVal.sm, and_assoc]; exact ⟨hv, hok_x_L, hoks_x_L⟩)

@[simp] theorem t154 (k0 k1 : Bool) (l : List XPred) (h : l.length ≤ 1048576) (hs : XPred.sms l) : Gw TT 154 [.one (.ro k0 (.sl 7 (l.map XPred.e))), .one (.ro k1 (.sl 7 (l.map XPred.e)))] = some (vb true, []) := EqPreds_of l (fun y _ => EqPred_all y) k0 k1 h hs

@[simp] theorem t247 (k0 : Bool) (x_Kind : Int) (x_P_Kind : Int) (x_P_Col : Int) (x_P_Op : Int) (x_P_V_Ty : Int) (x_P_V_N : Int) (x_P_V_S : ByteArray) (x_P_L : List XPred) (x_Col : Int) (x_Out : List Int) (hsm_x_P_V_S : x_P_V_S.size ≤ 1048576) (hsm_x_P_L : x_P_L.length ≤ 1048576) (hsms_x_P_L : XPred.sms x_P_L) (hsm_x_Out : x_Out.length ≤ 1048576) : Gw TT 247 [.st [.ro false (di x_Kind), .ro false (di x_P_Kind), .ro false (di x_P_Col), .ro false (di x_P_Op), .ro false (di x_P_V_Ty), .ro false (di x_P_V_N), .ro false (.str x_P_V_S), .ro k0 (.sl 7 (x_P_L.map XPred.e)), .ro false (di x_Col), .ro k0 (.sl 1 (x_Out.map ei))]] = some (.st [.ro false (di x_Kind), .ro false (di x_P_Kind), .ro false (di x_P_Col), .ro false (di x_P_Op), .ro false (di x_P_V_Ty), .ro false (di x_P_V_N), .ro false (.str x_P_V_S), .own (.sl 7 (x_P_L.map XPred.e)), .ro false (di x_Col), .own (.sl 1 (x_Out.map ei))], []) := by
  refine Gw_of (F := pf247) rfl rfl ?_
  show Wp _ pb247 _ _
  unfold pb247
  repeat' (first
    | with_reducible (first | refine wp_seq ?_ | refine wp_blk ?_ | refine wp_skip ?_ | refine wp_exit ?_ | refine wp_ret ?_ | refine seqQ_norm ?_ | refine seqQ_ret ?_ | refine seqQ_exit ?_ | refine blkQ_norm ?_ | refine blkQ_ret ?_ | refine blkQ_exit ?_ | refine loopQ_norm ?_ | refine loopQ_exit ?_ | refine loopQ_ret ?_ | refine endQ_ret ?_ | refine endQ_norm ?_ | refine endE_ret ?_ | refine endE_norm ?_ | refine endI_ret ?_ | refine endI_norm ?_)
    | (with_reducible refine wp_regK fun K hK => ?_
       simp[hsm_x_P_V_S, hsm_x_P_L, hsms_x_P_L, hsm_x_Out]
       repeat' (with_reducible first | refine hK _ ?_ | (refine psel ?_ ?_ <;> (intro hc; (try rw [Decidable.not_not] at hc); first | (exfalso; omega) | (try simp [hc, hsm_x_P_V_S, hsm_x_P_L, hsms_x_P_L, hsm_x_Out]))))
       all_goals (clear hK; clear K))
    | (with_reducible refine wp_condE ?_
       refine ⟨_, rfl, ?_, ?_⟩ <;> (intro hc; (try simp at hc); (all_goals first | (exfalso; omega) | skip))))
  all_goals simp [pf247]

@[simp] theorem t155 (k0 k1 : Bool) (x_Kind : Int) (x_P_Kind : Int) (x_P_Col : Int) (x_P_Op : Int) (x_P_V_Ty : Int) (x_P_V_N : Int) (x_P_V_S : ByteArray) (x_P_L : List XPred) (x_Col : Int) (x_Out : List Int) (hok_x_P_V_S : x_P_V_S.size ≤ 1048576) (hok_x_P_L : x_P_L.length ≤ 1048576) (hoks_x_P_L : XPred.sms x_P_L) (hok_x_Out : x_Out.length ≤ 1048576) : Gw TT 155 [.st [.ro false (di x_Kind), .ro false (di x_P_Kind), .ro false (di x_P_Col), .ro false (di x_P_Op), .ro false (di x_P_V_Ty), .ro false (di x_P_V_N), .ro false (.str x_P_V_S), .ro k0 (.sl 7 (x_P_L.map XPred.e)), .ro false (di x_Col), .ro k0 (.sl 1 (x_Out.map ei))], .st [.ro false (di x_Kind), .ro false (di x_P_Kind), .ro false (di x_P_Col), .ro false (di x_P_Op), .ro false (di x_P_V_Ty), .ro false (di x_P_V_N), .ro false (.str x_P_V_S), .ro k1 (.sl 7 (x_P_L.map XPred.e)), .ro false (di x_Col), .ro k1 (.sl 1 (x_Out.map ei))]] = some (vb true, []) := by
  refine Gw_of (F := pf155) rfl rfl ?_
  show Wp _ pb155 _ _
  unfold pb155
  repeat' (first
    | with_reducible (first | refine wp_seq ?_ | refine wp_blk ?_ | refine wp_skip ?_ | refine wp_exit ?_ | refine wp_ret ?_ | refine seqQ_norm ?_ | refine seqQ_ret ?_ | refine seqQ_exit ?_ | refine blkQ_norm ?_ | refine blkQ_ret ?_ | refine blkQ_exit ?_ | refine loopQ_norm ?_ | refine loopQ_exit ?_ | refine loopQ_ret ?_ | refine endQ_ret ?_ | refine endQ_norm ?_ | refine endE_ret ?_ | refine endE_norm ?_ | refine endI_ret ?_ | refine endI_norm ?_)
    | (with_reducible refine wp_regK fun K hK => ?_
       simp[hok_x_P_V_S, hok_x_P_L, hoks_x_P_L, hok_x_Out]
       repeat' (with_reducible first | refine hK _ ?_ | (refine psel ?_ ?_ <;> (intro hc; (try rw [Decidable.not_not] at hc); first | (exfalso; omega) | (try simp [hc, hok_x_P_V_S, hok_x_P_L, hoks_x_P_L, hok_x_Out]))))
       all_goals (clear hK; clear K))
    | (with_reducible refine wp_condE ?_
       refine ⟨_, rfl, ?_, ?_⟩ <;> (intro hc; (try simp at hc); (all_goals first | (exfalso; omega) | skip))))
  all_goals simp [pf155]

@[simp] theorem t250 (k0 : Bool) (x_Rows : List XRow) (x_N : Int) (x_Has : Bool) (x_V_Ty : Int) (x_V_N : Int) (x_V_S : ByteArray) (hsm_x_Rows : x_Rows.length ≤ 1048576) (hsms_x_Rows : XRow.sms x_Rows) : Gw TT 250 [.st [.ro k0 (.sl 2 (x_Rows.map XRow.e)), .ro false (di x_N), .ro false (.bool x_Has), .ro false (di x_V_Ty), .ro false (di x_V_N), .ro false (.str x_V_S)]] = some (.st [.own (.sl 2 (x_Rows.map XRow.e)), .ro false (di x_N), .ro false (.bool x_Has), .ro false (di x_V_Ty), .ro false (di x_V_N), .ro false (.str x_V_S)], []) := by
  refine Gw_of (F := pf250) rfl rfl ?_
  show Wp _ pb250 _ _
  unfold pb250
  repeat' (first
    | with_reducible (first | refine wp_seq ?_ | refine wp_blk ?_ | refine wp_skip ?_ | refine wp_exit ?_ | refine wp_ret ?_ | refine seqQ_norm ?_ | refine seqQ_ret ?_ | refine seqQ_exit ?_ | refine blkQ_norm ?_ | refine blkQ_ret ?_ | refine blkQ_exit ?_ | refine loopQ_norm ?_ | refine loopQ_exit ?_ | refine loopQ_ret ?_ | refine endQ_ret ?_ | refine endQ_norm ?_ | refine endE_ret ?_ | refine endE_norm ?_ | refine endI_ret ?_ | refine endI_norm ?_)
    | (with_reducible refine wp_regK fun K hK => ?_
       simp[hsm_x_Rows, hsms_x_Rows]
       repeat' (with_reducible first | refine hK _ ?_ | (refine psel ?_ ?_ <;> (intro hc; (try rw [Decidable.not_not] at hc); first | (exfalso; omega) | (try simp [hc, hsm_x_Rows, hsms_x_Rows]))))
       all_goals (clear hK; clear K))
    | (with_reducible refine wp_condE ?_
       refine ⟨_, rfl, ?_, ?_⟩ <;> (intro hc; (try simp at hc); (all_goals first | (exfalso; omega) | skip))))
  all_goals simp [pf250]

@[simp] theorem t158 (k0 k1 : Bool) (x_Rows : List XRow) (x_N : Int) (x_Has : Bool) (x_V_Ty : Int) (x_V_N : Int) (x_V_S : ByteArray) (hok_x_Rows : x_Rows.length ≤ 1048576) (hoks_x_Rows : XRow.sms x_Rows) : Gw TT 158 [.st [.ro k0 (.sl 2 (x_Rows.map XRow.e)), .ro false (di x_N), .ro false (.bool x_Has), .ro false (di x_V_Ty), .ro false (di x_V_N), .ro false (.str x_V_S)], .st [.ro k1 (.sl 2 (x_Rows.map XRow.e)), .ro false (di x_N), .ro false (.bool x_Has), .ro false (di x_V_Ty), .ro false (di x_V_N), .ro false (.str x_V_S)]] = some (vb true, []) := by
  refine Gw_of (F := pf158) rfl rfl ?_
  show Wp _ pb158 _ _
  unfold pb158
  repeat' (first
    | with_reducible (first | refine wp_seq ?_ | refine wp_blk ?_ | refine wp_skip ?_ | refine wp_exit ?_ | refine wp_ret ?_ | refine seqQ_norm ?_ | refine seqQ_ret ?_ | refine seqQ_exit ?_ | refine blkQ_norm ?_ | refine blkQ_ret ?_ | refine blkQ_exit ?_ | refine loopQ_norm ?_ | refine loopQ_exit ?_ | refine loopQ_ret ?_ | refine endQ_ret ?_ | refine endQ_norm ?_ | refine endE_ret ?_ | refine endE_norm ?_ | refine endI_ret ?_ | refine endI_norm ?_)
    | (with_reducible refine wp_regK fun K hK => ?_
       simp[hok_x_Rows, hoks_x_Rows]
       repeat' (with_reducible first | refine hK _ ?_ | (refine psel ?_ ?_ <;> (intro hc; (try rw [Decidable.not_not] at hc); first | (exfalso; omega) | (try simp [hc, hok_x_Rows, hoks_x_Rows]))))
       all_goals (clear hK; clear K))
    | (with_reducible refine wp_condE ?_
       refine ⟨_, rfl, ?_, ?_⟩ <;> (intro hc; (try simp at hc); (all_goals first | (exfalso; omega) | skip))))
  all_goals simp [pf158]

@[simp] theorem t255 (k0 : Bool) (x_Op : Int) (x_Pc : Int) (x_H : Int) (x_R : List XVal) (x_Id : Int) (x_Q_Kind : Int) (x_Q_P_Kind : Int) (x_Q_P_Col : Int) (x_Q_P_Op : Int) (x_Q_P_V_Ty : Int) (x_Q_P_V_N : Int) (x_Q_P_V_S : ByteArray) (x_Q_P_L : List XPred) (x_Q_Col : Int) (x_Q_Out : List Int) (x_Ts : Int) (x_Ver : Int) (x_L : List XRef) (x_I : Int) (x_J : Int) (x_S : Int) (x_At : Int) (x_Own : Int) (x_Won : Bool) (x_Got : List XRow) (hsm_x_R : x_R.length ≤ 1048576) (hsms_x_R : XVal.sms x_R) (hsm_x_Q_P_V_S : x_Q_P_V_S.size ≤ 1048576) (hsm_x_Q_P_L : x_Q_P_L.length ≤ 1048576) (hsms_x_Q_P_L : XPred.sms x_Q_P_L) (hsm_x_Q_Out : x_Q_Out.length ≤ 1048576) (hsm_x_L : x_L.length ≤ 1048576) (hsm_x_Got : x_Got.length ≤ 1048576) (hsms_x_Got : XRow.sms x_Got) : Gw TT 255 [.st [.ro false (di x_Op), .ro false (di x_Pc), .ro false (di x_H), .ro k0 (.sl 3 (x_R.map XVal.e)), .ro false (di x_Id), .ro false (di x_Q_Kind), .ro false (di x_Q_P_Kind), .ro false (di x_Q_P_Col), .ro false (di x_Q_P_Op), .ro false (di x_Q_P_V_Ty), .ro false (di x_Q_P_V_N), .ro false (.str x_Q_P_V_S), .ro k0 (.sl 7 (x_Q_P_L.map XPred.e)), .ro false (di x_Q_Col), .ro k0 (.sl 1 (x_Q_Out.map ei)), .ro false (di x_Ts), .ro false (di x_Ver), .ro k0 (.sl 5 (x_L.map XRef.e)), .ro false (di x_I), .ro false (di x_J), .ro false (di x_S), .ro false (di x_At), .ro false (di x_Own), .ro false (.bool x_Won), .ro k0 (.sl 2 (x_Got.map XRow.e))]] = some (.st [.ro false (di x_Op), .ro false (di x_Pc), .ro false (di x_H), .own (.sl 3 (x_R.map XVal.e)), .ro false (di x_Id), .ro false (di x_Q_Kind), .ro false (di x_Q_P_Kind), .ro false (di x_Q_P_Col), .ro false (di x_Q_P_Op), .ro false (di x_Q_P_V_Ty), .ro false (di x_Q_P_V_N), .ro false (.str x_Q_P_V_S), .own (.sl 7 (x_Q_P_L.map XPred.e)), .ro false (di x_Q_Col), .own (.sl 1 (x_Q_Out.map ei)), .ro false (di x_Ts), .ro false (di x_Ver), .own (.sl 5 (x_L.map XRef.e)), .ro false (di x_I), .ro false (di x_J), .ro false (di x_S), .ro false (di x_At), .ro false (di x_Own), .ro false (.bool x_Won), .own (.sl 2 (x_Got.map XRow.e))], []) := by
  refine Gw_of (F := pf255) rfl rfl ?_
  show Wp _ pb255 _ _
  unfold pb255
  repeat' (first
    | with_reducible (first | refine wp_seq ?_ | refine wp_blk ?_ | refine wp_skip ?_ | refine wp_exit ?_ | refine wp_ret ?_ | refine seqQ_norm ?_ | refine seqQ_ret ?_ | refine seqQ_exit ?_ | refine blkQ_norm ?_ | refine blkQ_ret ?_ | refine blkQ_exit ?_ | refine loopQ_norm ?_ | refine loopQ_exit ?_ | refine loopQ_ret ?_ | refine endQ_ret ?_ | refine endQ_norm ?_ | refine endE_ret ?_ | refine endE_norm ?_ | refine endI_ret ?_ | refine endI_norm ?_)
    | (with_reducible refine wp_regK fun K hK => ?_
       simp[hsm_x_R, hsms_x_R, hsm_x_Q_P_V_S, hsm_x_Q_P_L, hsms_x_Q_P_L, hsm_x_Q_Out, hsm_x_L, hsm_x_Got, hsms_x_Got]
       repeat' (with_reducible first | refine hK _ ?_ | (refine psel ?_ ?_ <;> (intro hc; (try rw [Decidable.not_not] at hc); first | (exfalso; omega) | (try simp [hc, hsm_x_R, hsms_x_R, hsm_x_Q_P_V_S, hsm_x_Q_P_L, hsms_x_Q_P_L, hsm_x_Q_Out, hsm_x_L, hsm_x_Got, hsms_x_Got]))))
       all_goals (clear hK; clear K))
    | (with_reducible refine wp_condE ?_
       refine ⟨_, rfl, ?_, ?_⟩ <;> (intro hc; (try simp at hc); (all_goals first | (exfalso; omega) | skip))))
  all_goals simp [pf255]

@[simp] theorem t256 (k0 : Bool) (l : List XTask) (h : l.length ≤ 1048576) (hs : XTask.sms l) : Gw TT 256 [.one (.ro k0 (.sl 25 (l.map XTask.e)))] = some (.one (.own (.sl 25 (l.map XTask.e))), []) := by
  refine Gw_of (F := pf256) rfl rfl ?_
  show Wp _ pb256 _ _
  unfold pb256
  repeat' (first
    | with_reducible (first | refine wp_seq ?_ | refine wp_blk ?_ | refine wp_skip ?_ | refine wp_exit ?_ | refine wp_ret ?_ | refine seqQ_norm ?_ | refine seqQ_ret ?_ | refine seqQ_exit ?_ | refine blkQ_norm ?_ | refine blkQ_ret ?_ | refine blkQ_exit ?_ | refine loopQ_norm ?_ | refine loopQ_exit ?_ | refine loopQ_ret ?_ | refine endQ_ret ?_ | refine endQ_norm ?_ | refine endE_ret ?_ | refine endE_norm ?_ | refine endI_ret ?_ | refine endI_norm ?_)
    | (with_reducible refine wp_regK fun K hK => ?_
       simp
       repeat' (with_reducible first | refine hK _ ?_ | (refine psel ?_ ?_ <;> (intro hc; (try rw [Decidable.not_not] at hc); first | (exfalso; omega) | (try simp [hc]))))
       all_goals (clear hK; clear K))
    | (with_reducible refine wp_condE ?_
       refine ⟨_, rfl, ?_, ?_⟩ <;> (intro hc; (try simp at hc); (all_goals first | (exfalso; omega) | skip))))
  · refine wp_loopI (σ := List XTask × List XTask) (fun s => [(0, AV.v k0 (D.sl 25 (List.map XTask.e l)), none), (3, AV.pl 3 0 [], some (Rt.vir [C.own (D.sl 25 (s.1.map XTask.e ++ List.replicate s.2.length [.int .i64 0, .int .i64 0, .int .i64 0, .sl 3 [], .int .i64 0, .int .i64 0, .int .i64 0, .int .i64 0, .int .i64 0, .int .i64 0, .int .i64 0, .str ⟨#[]⟩, .sl 7 [], .int .i64 0, .sl 1 [], .int .i64 0, .int .i64 0, .sl 5 [], .int .i64 0, .int .i64 0, .int .i64 0, .int .i64 0, .int .i64 0, .bool false, .sl 2 []]))])), (4, AV.v false (di (s.1.length : Nat)), none)]) (fun s => l = s.1 ++ s.2) (fun s => s.2.length) ([], l) (by simp) rfl ?_
    rintro ⟨pre, rest⟩ h1
    simp only at h1
    subst h1
    simp only [List.length_append, List.length_cons] at h
    rcases rest with _ | ⟨⟨y_Op, y_Pc, y_H, y_R, y_Id, ⟨y_Q_Kind, ⟨y_Q_P_Kind, y_Q_P_Col, y_Q_P_Op, ⟨y_Q_P_V_Ty, y_Q_P_V_N, y_Q_P_V_S⟩, y_Q_P_L⟩, y_Q_Col, y_Q_Out⟩, y_Ts, y_Ver, y_L, y_I, y_J, y_S, y_At, y_Own, y_Won, y_Got⟩, rest⟩
    · unfold pl256_0
      repeat' (first
        | with_reducible (first | refine wp_seq ?_ | refine wp_blk ?_ | refine wp_skip ?_ | refine wp_exit ?_ | refine wp_ret ?_ | refine seqQ_norm ?_ | refine seqQ_ret ?_ | refine seqQ_exit ?_ | refine blkQ_norm ?_ | refine blkQ_ret ?_ | refine blkQ_exit ?_ | refine loopQ_norm ?_ | refine loopQ_exit ?_ | refine loopQ_ret ?_ | refine endQ_ret ?_ | refine endQ_norm ?_ | refine endE_ret ?_ | refine endE_norm ?_ | refine endI_ret ?_ | refine endI_norm ?_)
        | (with_reducible refine wp_regK fun K hK => ?_
           simp
           repeat' (with_reducible first | refine hK _ ?_ | (refine psel ?_ ?_ <;> (intro hc; (try rw [Decidable.not_not] at hc); first | (exfalso; omega) | (try simp [hc]))))
           all_goals (clear hK; clear K))
        | (with_reducible refine wp_condE ?_
           refine ⟨_, rfl, ?_, ?_⟩ <;> (intro hc; (try simp at hc); (all_goals first | (exfalso; omega) | skip))))
      all_goals simp [pf256]
    · unfold pl256_0
      simp only [List.length_cons] at h
      have hw : IntKind.wrap .i64 ((pre.length : Int) + 1) = (pre.length : Int) + 1 := wrap_i64 (by omega) (by omega)
      have hd := hs ⟨y_Op, y_Pc, y_H, y_R, y_Id, ⟨y_Q_Kind, ⟨y_Q_P_Kind, y_Q_P_Col, y_Q_P_Op, ⟨y_Q_P_V_Ty, y_Q_P_V_N, y_Q_P_V_S⟩, y_Q_P_L⟩, y_Q_Col, y_Q_Out⟩, y_Ts, y_Ver, y_L, y_I, y_J, y_S, y_At, y_Own, y_Won, y_Got⟩ (by simp)
      simp only [XTask.sm, XQuery.sm, XPred.sm_eq, XVal.sm, and_assoc] at hd
      obtain ⟨hsm_y_R, hsms_y_R, hsm_y_Q_P_V_S, hsm_y_Q_P_L, hsms_y_Q_P_L, hsm_y_Q_Out, hsm_y_L, hsm_y_Got, hsms_y_Got⟩ := hd
      repeat' (first
        | with_reducible (first | refine wp_seq ?_ | refine wp_blk ?_ | refine wp_skip ?_ | refine wp_exit ?_ | refine wp_ret ?_ | refine seqQ_norm ?_ | refine seqQ_ret ?_ | refine seqQ_exit ?_ | refine blkQ_norm ?_ | refine blkQ_ret ?_ | refine blkQ_exit ?_ | refine loopQ_norm ?_ | refine loopQ_exit ?_ | refine loopQ_ret ?_ | refine endQ_ret ?_ | refine endQ_norm ?_ | refine endE_ret ?_ | refine endE_norm ?_ | refine endI_ret ?_ | refine endI_norm ?_)
        | (with_reducible refine wp_regK fun K hK => ?_
           simp[List.replicate_succ, hw, hsm_y_R, hsms_y_R, hsm_y_Q_P_V_S, hsm_y_Q_P_L, hsms_y_Q_P_L, hsm_y_Q_Out, hsm_y_L, hsm_y_Got, hsms_y_Got]
           repeat' (with_reducible first | refine hK _ ?_ | (refine psel ?_ ?_ <;> (intro hc; (try rw [Decidable.not_not] at hc); first | (exfalso; omega) | (try simp [hc, List.replicate_succ, hw, hsm_y_R, hsms_y_R, hsm_y_Q_P_V_S, hsm_y_Q_P_L, hsms_y_Q_P_L, hsm_y_Q_Out, hsm_y_L, hsm_y_Got, hsms_y_Got]))))
           all_goals (clear hK; clear K))
        | (with_reducible refine wp_condE ?_
           refine ⟨_, rfl, ?_, ?_⟩ <;> (intro hc; (try simp at hc); (all_goals first | (exfalso; omega) | skip))))
      all_goals exact ⟨(pre ++ [⟨y_Op, y_Pc, y_H, y_R, y_Id, ⟨y_Q_Kind, ⟨y_Q_P_Kind, y_Q_P_Col, y_Q_P_Op, ⟨y_Q_P_V_Ty, y_Q_P_V_N, y_Q_P_V_S⟩, y_Q_P_L⟩, y_Q_Col, y_Q_Out⟩, y_Ts, y_Ver, y_L, y_I, y_J, y_S, y_At, y_Own, y_Won, y_Got⟩], rest), by simp, by simp, by simp⟩

@[simp] theorem t163 (k0 k1 : Bool) (x_Op : Int) (x_Pc : Int) (x_H : Int) (x_R : List XVal) (x_Id : Int) (x_Q_Kind : Int) (x_Q_P_Kind : Int) (x_Q_P_Col : Int) (x_Q_P_Op : Int) (x_Q_P_V_Ty : Int) (x_Q_P_V_N : Int) (x_Q_P_V_S : ByteArray) (x_Q_P_L : List XPred) (x_Q_Col : Int) (x_Q_Out : List Int) (x_Ts : Int) (x_Ver : Int) (x_L : List XRef) (x_I : Int) (x_J : Int) (x_S : Int) (x_At : Int) (x_Own : Int) (x_Won : Bool) (x_Got : List XRow) (hok_x_R : x_R.length ≤ 1048576) (hoks_x_R : XVal.sms x_R) (hok_x_Q_P_V_S : x_Q_P_V_S.size ≤ 1048576) (hok_x_Q_P_L : x_Q_P_L.length ≤ 1048576) (hoks_x_Q_P_L : XPred.sms x_Q_P_L) (hok_x_Q_Out : x_Q_Out.length ≤ 1048576) (hok_x_L : x_L.length ≤ 1048576) (hok_x_Got : x_Got.length ≤ 1048576) (hoks_x_Got : XRow.sms x_Got) : Gw TT 163 [.st [.ro false (di x_Op), .ro false (di x_Pc), .ro false (di x_H), .ro k0 (.sl 3 (x_R.map XVal.e)), .ro false (di x_Id), .ro false (di x_Q_Kind), .ro false (di x_Q_P_Kind), .ro false (di x_Q_P_Col), .ro false (di x_Q_P_Op), .ro false (di x_Q_P_V_Ty), .ro false (di x_Q_P_V_N), .ro false (.str x_Q_P_V_S), .ro k0 (.sl 7 (x_Q_P_L.map XPred.e)), .ro false (di x_Q_Col), .ro k0 (.sl 1 (x_Q_Out.map ei)), .ro false (di x_Ts), .ro false (di x_Ver), .ro k0 (.sl 5 (x_L.map XRef.e)), .ro false (di x_I), .ro false (di x_J), .ro false (di x_S), .ro false (di x_At), .ro false (di x_Own), .ro false (.bool x_Won), .ro k0 (.sl 2 (x_Got.map XRow.e))], .st [.ro false (di x_Op), .ro false (di x_Pc), .ro false (di x_H), .ro k1 (.sl 3 (x_R.map XVal.e)), .ro false (di x_Id), .ro false (di x_Q_Kind), .ro false (di x_Q_P_Kind), .ro false (di x_Q_P_Col), .ro false (di x_Q_P_Op), .ro false (di x_Q_P_V_Ty), .ro false (di x_Q_P_V_N), .ro false (.str x_Q_P_V_S), .ro k1 (.sl 7 (x_Q_P_L.map XPred.e)), .ro false (di x_Q_Col), .ro k1 (.sl 1 (x_Q_Out.map ei)), .ro false (di x_Ts), .ro false (di x_Ver), .ro k1 (.sl 5 (x_L.map XRef.e)), .ro false (di x_I), .ro false (di x_J), .ro false (di x_S), .ro false (di x_At), .ro false (di x_Own), .ro false (.bool x_Won), .ro k1 (.sl 2 (x_Got.map XRow.e))]] = some (vb true, []) := by
  refine Gw_of (F := pf163) rfl rfl ?_
  show Wp _ pb163 _ _
  unfold pb163
  repeat' (first
    | with_reducible (first | refine wp_seq ?_ | refine wp_blk ?_ | refine wp_skip ?_ | refine wp_exit ?_ | refine wp_ret ?_ | refine seqQ_norm ?_ | refine seqQ_ret ?_ | refine seqQ_exit ?_ | refine blkQ_norm ?_ | refine blkQ_ret ?_ | refine blkQ_exit ?_ | refine loopQ_norm ?_ | refine loopQ_exit ?_ | refine loopQ_ret ?_ | refine endQ_ret ?_ | refine endQ_norm ?_ | refine endE_ret ?_ | refine endE_norm ?_ | refine endI_ret ?_ | refine endI_norm ?_)
    | (with_reducible refine wp_regK fun K hK => ?_
       simp[hok_x_R, hoks_x_R, hok_x_Q_P_V_S, hok_x_Q_P_L, hoks_x_Q_P_L, hok_x_Q_Out, hok_x_L, hok_x_Got, hoks_x_Got]
       repeat' (with_reducible first | refine hK _ ?_ | (refine psel ?_ ?_ <;> (intro hc; (try rw [Decidable.not_not] at hc); first | (exfalso; omega) | (try simp [hc, hok_x_R, hoks_x_R, hok_x_Q_P_V_S, hok_x_Q_P_L, hoks_x_Q_P_L, hok_x_Q_Out, hok_x_L, hok_x_Got, hoks_x_Got]))))
       all_goals (clear hK; clear K))
    | (with_reducible refine wp_condE ?_
       refine ⟨_, rfl, ?_, ?_⟩ <;> (intro hc; (try simp at hc); (all_goals first | (exfalso; omega) | skip))))
  all_goals simp [pf163]

@[simp] theorem t164 (k0 k1 : Bool) (l : List XTask) (h : l.length ≤ 1048576) (hs : XTask.sms l) : Gw TT 164 [.one (.ro k0 (.sl 25 (l.map XTask.e))), .one (.ro k1 (.sl 25 (l.map XTask.e)))] = some (vb true, []) := by
  refine Gw_of (F := pf164) rfl rfl ?_
  show Wp _ pb164 _ _
  unfold pb164
  repeat' (first
    | with_reducible (first | refine wp_seq ?_ | refine wp_blk ?_ | refine wp_skip ?_ | refine wp_exit ?_ | refine wp_ret ?_ | refine seqQ_norm ?_ | refine seqQ_ret ?_ | refine seqQ_exit ?_ | refine blkQ_norm ?_ | refine blkQ_ret ?_ | refine blkQ_exit ?_ | refine loopQ_norm ?_ | refine loopQ_exit ?_ | refine loopQ_ret ?_ | refine endQ_ret ?_ | refine endQ_norm ?_ | refine endE_ret ?_ | refine endE_norm ?_ | refine endI_ret ?_ | refine endI_norm ?_)
    | (with_reducible refine wp_regK fun K hK => ?_
       simp
       repeat' (with_reducible first | refine hK _ ?_ | (refine psel ?_ ?_ <;> (intro hc; (try rw [Decidable.not_not] at hc); first | (exfalso; omega) | (try simp [hc]))))
       all_goals (clear hK; clear K))
    | (with_reducible refine wp_condE ?_
       refine ⟨_, rfl, ?_, ?_⟩ <;> (intro hc; (try simp at hc); (all_goals first | (exfalso; omega) | skip))))
  · refine wp_loopI (σ := List XTask × List XTask) (fun s => [(0, AV.v k0 (D.sl 25 (List.map XTask.e l)), none), (1, AV.v k1 (D.sl 25 (List.map XTask.e l)), none), (5, AV.v false (di (s.1.length : Nat)), none)]) (fun s => l = s.1 ++ s.2) (fun s => s.2.length) ([], l) (by simp) rfl ?_
    rintro ⟨pre, rest⟩ h1
    simp only at h1
    subst h1
    simp only [List.length_append, List.length_cons] at h
    rcases rest with _ | ⟨⟨y_Op, y_Pc, y_H, y_R, y_Id, ⟨y_Q_Kind, ⟨y_Q_P_Kind, y_Q_P_Col, y_Q_P_Op, ⟨y_Q_P_V_Ty, y_Q_P_V_N, y_Q_P_V_S⟩, y_Q_P_L⟩, y_Q_Col, y_Q_Out⟩, y_Ts, y_Ver, y_L, y_I, y_J, y_S, y_At, y_Own, y_Won, y_Got⟩, rest⟩
    · unfold pl164_0
      repeat' (first
        | with_reducible (first | refine wp_seq ?_ | refine wp_blk ?_ | refine wp_skip ?_ | refine wp_exit ?_ | refine wp_ret ?_ | refine seqQ_norm ?_ | refine seqQ_ret ?_ | refine seqQ_exit ?_ | refine blkQ_norm ?_ | refine blkQ_ret ?_ | refine blkQ_exit ?_ | refine loopQ_norm ?_ | refine loopQ_exit ?_ | refine loopQ_ret ?_ | refine endQ_ret ?_ | refine endQ_norm ?_ | refine endE_ret ?_ | refine endE_norm ?_ | refine endI_ret ?_ | refine endI_norm ?_)
        | (with_reducible refine wp_regK fun K hK => ?_
           simp
           repeat' (with_reducible first | refine hK _ ?_ | (refine psel ?_ ?_ <;> (intro hc; (try rw [Decidable.not_not] at hc); first | (exfalso; omega) | (try simp [hc]))))
           all_goals (clear hK; clear K))
        | (with_reducible refine wp_condE ?_
           refine ⟨_, rfl, ?_, ?_⟩ <;> (intro hc; (try simp at hc); (all_goals first | (exfalso; omega) | skip))))
      all_goals simp [pf164]
    · unfold pl164_0
      simp only [List.length_cons] at h
      have hw : IntKind.wrap .i64 ((pre.length : Int) + 1) = (pre.length : Int) + 1 := wrap_i64 (by omega) (by omega)
      have hd := hs ⟨y_Op, y_Pc, y_H, y_R, y_Id, ⟨y_Q_Kind, ⟨y_Q_P_Kind, y_Q_P_Col, y_Q_P_Op, ⟨y_Q_P_V_Ty, y_Q_P_V_N, y_Q_P_V_S⟩, y_Q_P_L⟩, y_Q_Col, y_Q_Out⟩, y_Ts, y_Ver, y_L, y_I, y_J, y_S, y_At, y_Own, y_Won, y_Got⟩ (by simp)
      simp only [XTask.sm, XQuery.sm, XPred.sm_eq, XVal.sm, and_assoc] at hd
      obtain ⟨hsm_y_R, hsms_y_R, hsm_y_Q_P_V_S, hsm_y_Q_P_L, hsms_y_Q_P_L, hsm_y_Q_Out, hsm_y_L, hsm_y_Got, hsms_y_Got⟩ := hd
      repeat' (first
        | with_reducible (first | refine wp_seq ?_ | refine wp_blk ?_ | refine wp_skip ?_ | refine wp_exit ?_ | refine wp_ret ?_ | refine seqQ_norm ?_ | refine seqQ_ret ?_ | refine seqQ_exit ?_ | refine blkQ_norm ?_ | refine blkQ_ret ?_ | refine blkQ_exit ?_ | refine loopQ_norm ?_ | refine loopQ_exit ?_ | refine loopQ_ret ?_ | refine endQ_ret ?_ | refine endQ_norm ?_ | refine endE_ret ?_ | refine endE_norm ?_ | refine endI_ret ?_ | refine endI_norm ?_)
        | (with_reducible refine wp_regK fun K hK => ?_
           simp[hw, hsm_y_R, hsms_y_R, hsm_y_Q_P_V_S, hsm_y_Q_P_L, hsms_y_Q_P_L, hsm_y_Q_Out, hsm_y_L, hsm_y_Got, hsms_y_Got]
           repeat' (with_reducible first | refine hK _ ?_ | (refine psel ?_ ?_ <;> (intro hc; (try rw [Decidable.not_not] at hc); first | (exfalso; omega) | (try simp [hc, hw, hsm_y_R, hsms_y_R, hsm_y_Q_P_V_S, hsm_y_Q_P_L, hsms_y_Q_P_L, hsm_y_Q_Out, hsm_y_L, hsm_y_Got, hsms_y_Got]))))
           all_goals (clear hK; clear K))
        | (with_reducible refine wp_condE ?_
           refine ⟨_, rfl, ?_, ?_⟩ <;> (intro hc; (try simp at hc); (all_goals first | (exfalso; omega) | skip))))
      all_goals exact ⟨(pre ++ [⟨y_Op, y_Pc, y_H, y_R, y_Id, ⟨y_Q_Kind, ⟨y_Q_P_Kind, y_Q_P_Col, y_Q_P_Op, ⟨y_Q_P_V_Ty, y_Q_P_V_N, y_Q_P_V_S⟩, y_Q_P_L⟩, y_Q_Col, y_Q_Out⟩, y_Ts, y_Ver, y_L, y_I, y_J, y_S, y_At, y_Own, y_Won, y_Got⟩], rest), by simp, by simp, by simp⟩

@[simp] theorem t241 (k0 : Bool) (x_Op : Int) (x_Task : Int) (x_R : List XVal) (x_Id : Int) (x_Q_Kind : Int) (x_Q_P_Kind : Int) (x_Q_P_Col : Int) (x_Q_P_Op : Int) (x_Q_P_V_Ty : Int) (x_Q_P_V_N : Int) (x_Q_P_V_S : ByteArray) (x_Q_P_L : List XPred) (x_Q_Col : Int) (x_Q_Out : List Int) (x_Res_Rows : List XRow) (x_Res_N : Int) (x_Res_Has : Bool) (x_Res_V_Ty : Int) (x_Res_V_N : Int) (x_Res_V_S : ByteArray) (x_Code : Int) (x_Stamp : Int) (x_Inv : Int) (x_Lin : Int) (x_Ret : Int) (hsm_x_R : x_R.length ≤ 1048576) (hsms_x_R : XVal.sms x_R) (hsm_x_Q_P_V_S : x_Q_P_V_S.size ≤ 1048576) (hsm_x_Q_P_L : x_Q_P_L.length ≤ 1048576) (hsms_x_Q_P_L : XPred.sms x_Q_P_L) (hsm_x_Q_Out : x_Q_Out.length ≤ 1048576) (hsm_x_Res_Rows : x_Res_Rows.length ≤ 1048576) (hsms_x_Res_Rows : XRow.sms x_Res_Rows) (hsm_x_Res_V_S : x_Res_V_S.size ≤ 1048576) : Gw TT 241 [.st [.ro false (di x_Op), .ro false (di x_Task), .ro k0 (.sl 3 (x_R.map XVal.e)), .ro false (di x_Id), .ro false (di x_Q_Kind), .ro false (di x_Q_P_Kind), .ro false (di x_Q_P_Col), .ro false (di x_Q_P_Op), .ro false (di x_Q_P_V_Ty), .ro false (di x_Q_P_V_N), .ro false (.str x_Q_P_V_S), .ro k0 (.sl 7 (x_Q_P_L.map XPred.e)), .ro false (di x_Q_Col), .ro k0 (.sl 1 (x_Q_Out.map ei)), .ro k0 (.sl 2 (x_Res_Rows.map XRow.e)), .ro false (di x_Res_N), .ro false (.bool x_Res_Has), .ro false (di x_Res_V_Ty), .ro false (di x_Res_V_N), .ro false (.str x_Res_V_S), .ro false (di x_Code), .ro false (di x_Stamp), .ro false (di x_Inv), .ro false (di x_Lin), .ro false (di x_Ret)]] = some (.st [.ro false (di x_Op), .ro false (di x_Task), .own (.sl 3 (x_R.map XVal.e)), .ro false (di x_Id), .ro false (di x_Q_Kind), .ro false (di x_Q_P_Kind), .ro false (di x_Q_P_Col), .ro false (di x_Q_P_Op), .ro false (di x_Q_P_V_Ty), .ro false (di x_Q_P_V_N), .ro false (.str x_Q_P_V_S), .own (.sl 7 (x_Q_P_L.map XPred.e)), .ro false (di x_Q_Col), .own (.sl 1 (x_Q_Out.map ei)), .own (.sl 2 (x_Res_Rows.map XRow.e)), .ro false (di x_Res_N), .ro false (.bool x_Res_Has), .ro false (di x_Res_V_Ty), .ro false (di x_Res_V_N), .ro false (.str x_Res_V_S), .ro false (di x_Code), .ro false (di x_Stamp), .ro false (di x_Inv), .ro false (di x_Lin), .ro false (di x_Ret)], []) := by
  refine Gw_of (F := pf241) rfl rfl ?_
  show Wp _ pb241 _ _
  unfold pb241
  repeat' (first
    | with_reducible (first | refine wp_seq ?_ | refine wp_blk ?_ | refine wp_skip ?_ | refine wp_exit ?_ | refine wp_ret ?_ | refine seqQ_norm ?_ | refine seqQ_ret ?_ | refine seqQ_exit ?_ | refine blkQ_norm ?_ | refine blkQ_ret ?_ | refine blkQ_exit ?_ | refine loopQ_norm ?_ | refine loopQ_exit ?_ | refine loopQ_ret ?_ | refine endQ_ret ?_ | refine endQ_norm ?_ | refine endE_ret ?_ | refine endE_norm ?_ | refine endI_ret ?_ | refine endI_norm ?_)
    | (with_reducible refine wp_regK fun K hK => ?_
       simp[hsm_x_R, hsms_x_R, hsm_x_Q_P_V_S, hsm_x_Q_P_L, hsms_x_Q_P_L, hsm_x_Q_Out, hsm_x_Res_Rows, hsms_x_Res_Rows, hsm_x_Res_V_S]
       repeat' (with_reducible first | refine hK _ ?_ | (refine psel ?_ ?_ <;> (intro hc; (try rw [Decidable.not_not] at hc); first | (exfalso; omega) | (try simp [hc, hsm_x_R, hsms_x_R, hsm_x_Q_P_V_S, hsm_x_Q_P_L, hsms_x_Q_P_L, hsm_x_Q_Out, hsm_x_Res_Rows, hsms_x_Res_Rows, hsm_x_Res_V_S]))))
       all_goals (clear hK; clear K))
    | (with_reducible refine wp_condE ?_
       refine ⟨_, rfl, ?_, ?_⟩ <;> (intro hc; (try simp at hc); (all_goals first | (exfalso; omega) | skip))))
  all_goals simp [pf241]

@[simp] theorem t242 (k0 : Bool) (l : List XDeed) (h : l.length ≤ 1048576) (hs : XDeed.sms l) : Gw TT 242 [.one (.ro k0 (.sl 25 (l.map XDeed.e)))] = some (.one (.own (.sl 25 (l.map XDeed.e))), []) := by
  refine Gw_of (F := pf242) rfl rfl ?_
  show Wp _ pb242 _ _
  unfold pb242
  repeat' (first
    | with_reducible (first | refine wp_seq ?_ | refine wp_blk ?_ | refine wp_skip ?_ | refine wp_exit ?_ | refine wp_ret ?_ | refine seqQ_norm ?_ | refine seqQ_ret ?_ | refine seqQ_exit ?_ | refine blkQ_norm ?_ | refine blkQ_ret ?_ | refine blkQ_exit ?_ | refine loopQ_norm ?_ | refine loopQ_exit ?_ | refine loopQ_ret ?_ | refine endQ_ret ?_ | refine endQ_norm ?_ | refine endE_ret ?_ | refine endE_norm ?_ | refine endI_ret ?_ | refine endI_norm ?_)
    | (with_reducible refine wp_regK fun K hK => ?_
       simp
       repeat' (with_reducible first | refine hK _ ?_ | (refine psel ?_ ?_ <;> (intro hc; (try rw [Decidable.not_not] at hc); first | (exfalso; omega) | (try simp [hc]))))
       all_goals (clear hK; clear K))
    | (with_reducible refine wp_condE ?_
       refine ⟨_, rfl, ?_, ?_⟩ <;> (intro hc; (try simp at hc); (all_goals first | (exfalso; omega) | skip))))
  · refine wp_loopI (σ := List XDeed × List XDeed) (fun s => [(0, AV.v k0 (D.sl 25 (List.map XDeed.e l)), none), (3, AV.pl 3 0 [], some (Rt.vir [C.own (D.sl 25 (s.1.map XDeed.e ++ List.replicate s.2.length [.int .i64 0, .int .i64 0, .sl 3 [], .int .i64 0, .int .i64 0, .int .i64 0, .int .i64 0, .int .i64 0, .int .i64 0, .int .i64 0, .str ⟨#[]⟩, .sl 7 [], .int .i64 0, .sl 1 [], .sl 2 [], .int .i64 0, .bool false, .int .i64 0, .int .i64 0, .str ⟨#[]⟩, .int .i64 0, .int .i64 0, .int .i64 0, .int .i64 0, .int .i64 0]))])), (4, AV.v false (di (s.1.length : Nat)), none)]) (fun s => l = s.1 ++ s.2) (fun s => s.2.length) ([], l) (by simp) rfl ?_
    rintro ⟨pre, rest⟩ h1
    simp only at h1
    subst h1
    simp only [List.length_append, List.length_cons] at h
    rcases rest with _ | ⟨⟨y_Op, y_Task, y_R, y_Id, ⟨y_Q_Kind, ⟨y_Q_P_Kind, y_Q_P_Col, y_Q_P_Op, ⟨y_Q_P_V_Ty, y_Q_P_V_N, y_Q_P_V_S⟩, y_Q_P_L⟩, y_Q_Col, y_Q_Out⟩, ⟨y_Res_Rows, y_Res_N, y_Res_Has, ⟨y_Res_V_Ty, y_Res_V_N, y_Res_V_S⟩⟩, y_Code, y_Stamp, y_Inv, y_Lin, y_Ret⟩, rest⟩
    · unfold pl242_0
      repeat' (first
        | with_reducible (first | refine wp_seq ?_ | refine wp_blk ?_ | refine wp_skip ?_ | refine wp_exit ?_ | refine wp_ret ?_ | refine seqQ_norm ?_ | refine seqQ_ret ?_ | refine seqQ_exit ?_ | refine blkQ_norm ?_ | refine blkQ_ret ?_ | refine blkQ_exit ?_ | refine loopQ_norm ?_ | refine loopQ_exit ?_ | refine loopQ_ret ?_ | refine endQ_ret ?_ | refine endQ_norm ?_ | refine endE_ret ?_ | refine endE_norm ?_ | refine endI_ret ?_ | refine endI_norm ?_)
        | (with_reducible refine wp_regK fun K hK => ?_
           simp
           repeat' (with_reducible first | refine hK _ ?_ | (refine psel ?_ ?_ <;> (intro hc; (try rw [Decidable.not_not] at hc); first | (exfalso; omega) | (try simp [hc]))))
           all_goals (clear hK; clear K))
        | (with_reducible refine wp_condE ?_
           refine ⟨_, rfl, ?_, ?_⟩ <;> (intro hc; (try simp at hc); (all_goals first | (exfalso; omega) | skip))))
      all_goals simp [pf242]
    · unfold pl242_0
      simp only [List.length_cons] at h
      have hw : IntKind.wrap .i64 ((pre.length : Int) + 1) = (pre.length : Int) + 1 := wrap_i64 (by omega) (by omega)
      have hd := hs ⟨y_Op, y_Task, y_R, y_Id, ⟨y_Q_Kind, ⟨y_Q_P_Kind, y_Q_P_Col, y_Q_P_Op, ⟨y_Q_P_V_Ty, y_Q_P_V_N, y_Q_P_V_S⟩, y_Q_P_L⟩, y_Q_Col, y_Q_Out⟩, ⟨y_Res_Rows, y_Res_N, y_Res_Has, ⟨y_Res_V_Ty, y_Res_V_N, y_Res_V_S⟩⟩, y_Code, y_Stamp, y_Inv, y_Lin, y_Ret⟩ (by simp)
      simp only [XDeed.sm, XQuery.sm, XPred.sm_eq, XVal.sm, XResult.sm, and_assoc] at hd
      obtain ⟨hsm_y_R, hsms_y_R, hsm_y_Q_P_V_S, hsm_y_Q_P_L, hsms_y_Q_P_L, hsm_y_Q_Out, hsm_y_Res_Rows, hsms_y_Res_Rows, hsm_y_Res_V_S⟩ := hd
      repeat' (first
        | with_reducible (first | refine wp_seq ?_ | refine wp_blk ?_ | refine wp_skip ?_ | refine wp_exit ?_ | refine wp_ret ?_ | refine seqQ_norm ?_ | refine seqQ_ret ?_ | refine seqQ_exit ?_ | refine blkQ_norm ?_ | refine blkQ_ret ?_ | refine blkQ_exit ?_ | refine loopQ_norm ?_ | refine loopQ_exit ?_ | refine loopQ_ret ?_ | refine endQ_ret ?_ | refine endQ_norm ?_ | refine endE_ret ?_ | refine endE_norm ?_ | refine endI_ret ?_ | refine endI_norm ?_)
        | (with_reducible refine wp_regK fun K hK => ?_
           simp[List.replicate_succ, hw, hsm_y_R, hsms_y_R, hsm_y_Q_P_V_S, hsm_y_Q_P_L, hsms_y_Q_P_L, hsm_y_Q_Out, hsm_y_Res_Rows, hsms_y_Res_Rows, hsm_y_Res_V_S]
           repeat' (with_reducible first | refine hK _ ?_ | (refine psel ?_ ?_ <;> (intro hc; (try rw [Decidable.not_not] at hc); first | (exfalso; omega) | (try simp [hc, List.replicate_succ, hw, hsm_y_R, hsms_y_R, hsm_y_Q_P_V_S, hsm_y_Q_P_L, hsms_y_Q_P_L, hsm_y_Q_Out, hsm_y_Res_Rows, hsms_y_Res_Rows, hsm_y_Res_V_S]))))
           all_goals (clear hK; clear K))
        | (with_reducible refine wp_condE ?_
           refine ⟨_, rfl, ?_, ?_⟩ <;> (intro hc; (try simp at hc); (all_goals first | (exfalso; omega) | skip))))
      all_goals exact ⟨(pre ++ [⟨y_Op, y_Task, y_R, y_Id, ⟨y_Q_Kind, ⟨y_Q_P_Kind, y_Q_P_Col, y_Q_P_Op, ⟨y_Q_P_V_Ty, y_Q_P_V_N, y_Q_P_V_S⟩, y_Q_P_L⟩, y_Q_Col, y_Q_Out⟩, ⟨y_Res_Rows, y_Res_N, y_Res_Has, ⟨y_Res_V_Ty, y_Res_V_N, y_Res_V_S⟩⟩, y_Code, y_Stamp, y_Inv, y_Lin, y_Ret⟩], rest), by simp, by simp, by simp⟩

@[simp] theorem t149 (k0 k1 : Bool) (x_Op : Int) (x_Task : Int) (x_R : List XVal) (x_Id : Int) (x_Q_Kind : Int) (x_Q_P_Kind : Int) (x_Q_P_Col : Int) (x_Q_P_Op : Int) (x_Q_P_V_Ty : Int) (x_Q_P_V_N : Int) (x_Q_P_V_S : ByteArray) (x_Q_P_L : List XPred) (x_Q_Col : Int) (x_Q_Out : List Int) (x_Res_Rows : List XRow) (x_Res_N : Int) (x_Res_Has : Bool) (x_Res_V_Ty : Int) (x_Res_V_N : Int) (x_Res_V_S : ByteArray) (x_Code : Int) (x_Stamp : Int) (x_Inv : Int) (x_Lin : Int) (x_Ret : Int) (hok_x_R : x_R.length ≤ 1048576) (hoks_x_R : XVal.sms x_R) (hok_x_Q_P_V_S : x_Q_P_V_S.size ≤ 1048576) (hok_x_Q_P_L : x_Q_P_L.length ≤ 1048576) (hoks_x_Q_P_L : XPred.sms x_Q_P_L) (hok_x_Q_Out : x_Q_Out.length ≤ 1048576) (hok_x_Res_Rows : x_Res_Rows.length ≤ 1048576) (hoks_x_Res_Rows : XRow.sms x_Res_Rows) (hok_x_Res_V_S : x_Res_V_S.size ≤ 1048576) : Gw TT 149 [.st [.ro false (di x_Op), .ro false (di x_Task), .ro k0 (.sl 3 (x_R.map XVal.e)), .ro false (di x_Id), .ro false (di x_Q_Kind), .ro false (di x_Q_P_Kind), .ro false (di x_Q_P_Col), .ro false (di x_Q_P_Op), .ro false (di x_Q_P_V_Ty), .ro false (di x_Q_P_V_N), .ro false (.str x_Q_P_V_S), .ro k0 (.sl 7 (x_Q_P_L.map XPred.e)), .ro false (di x_Q_Col), .ro k0 (.sl 1 (x_Q_Out.map ei)), .ro k0 (.sl 2 (x_Res_Rows.map XRow.e)), .ro false (di x_Res_N), .ro false (.bool x_Res_Has), .ro false (di x_Res_V_Ty), .ro false (di x_Res_V_N), .ro false (.str x_Res_V_S), .ro false (di x_Code), .ro false (di x_Stamp), .ro false (di x_Inv), .ro false (di x_Lin), .ro false (di x_Ret)], .st [.ro false (di x_Op), .ro false (di x_Task), .ro k1 (.sl 3 (x_R.map XVal.e)), .ro false (di x_Id), .ro false (di x_Q_Kind), .ro false (di x_Q_P_Kind), .ro false (di x_Q_P_Col), .ro false (di x_Q_P_Op), .ro false (di x_Q_P_V_Ty), .ro false (di x_Q_P_V_N), .ro false (.str x_Q_P_V_S), .ro k1 (.sl 7 (x_Q_P_L.map XPred.e)), .ro false (di x_Q_Col), .ro k1 (.sl 1 (x_Q_Out.map ei)), .ro k1 (.sl 2 (x_Res_Rows.map XRow.e)), .ro false (di x_Res_N), .ro false (.bool x_Res_Has), .ro false (di x_Res_V_Ty), .ro false (di x_Res_V_N), .ro false (.str x_Res_V_S), .ro false (di x_Code), .ro false (di x_Stamp), .ro false (di x_Inv), .ro false (di x_Lin), .ro false (di x_Ret)]] = some (vb true, []) := by
  refine Gw_of (F := pf149) rfl rfl ?_
  show Wp _ pb149 _ _
  unfold pb149
  repeat' (first
    | with_reducible (first | refine wp_seq ?_ | refine wp_blk ?_ | refine wp_skip ?_ | refine wp_exit ?_ | refine wp_ret ?_ | refine seqQ_norm ?_ | refine seqQ_ret ?_ | refine seqQ_exit ?_ | refine blkQ_norm ?_ | refine blkQ_ret ?_ | refine blkQ_exit ?_ | refine loopQ_norm ?_ | refine loopQ_exit ?_ | refine loopQ_ret ?_ | refine endQ_ret ?_ | refine endQ_norm ?_ | refine endE_ret ?_ | refine endE_norm ?_ | refine endI_ret ?_ | refine endI_norm ?_)
    | (with_reducible refine wp_regK fun K hK => ?_
       simp[hok_x_R, hoks_x_R, hok_x_Q_P_V_S, hok_x_Q_P_L, hoks_x_Q_P_L, hok_x_Q_Out, hok_x_Res_Rows, hoks_x_Res_Rows, hok_x_Res_V_S]
       repeat' (with_reducible first | refine hK _ ?_ | (refine psel ?_ ?_ <;> (intro hc; (try rw [Decidable.not_not] at hc); first | (exfalso; omega) | (try simp [hc, hok_x_R, hoks_x_R, hok_x_Q_P_V_S, hok_x_Q_P_L, hoks_x_Q_P_L, hok_x_Q_Out, hok_x_Res_Rows, hoks_x_Res_Rows, hok_x_Res_V_S]))))
       all_goals (clear hK; clear K))
    | (with_reducible refine wp_condE ?_
       refine ⟨_, rfl, ?_, ?_⟩ <;> (intro hc; (try simp at hc); (all_goals first | (exfalso; omega) | skip))))
  all_goals simp [pf149]

@[simp] theorem t150 (k0 k1 : Bool) (l : List XDeed) (h : l.length ≤ 1048576) (hs : XDeed.sms l) : Gw TT 150 [.one (.ro k0 (.sl 25 (l.map XDeed.e))), .one (.ro k1 (.sl 25 (l.map XDeed.e)))] = some (vb true, []) := by
  refine Gw_of (F := pf150) rfl rfl ?_
  show Wp _ pb150 _ _
  unfold pb150
  repeat' (first
    | with_reducible (first | refine wp_seq ?_ | refine wp_blk ?_ | refine wp_skip ?_ | refine wp_exit ?_ | refine wp_ret ?_ | refine seqQ_norm ?_ | refine seqQ_ret ?_ | refine seqQ_exit ?_ | refine blkQ_norm ?_ | refine blkQ_ret ?_ | refine blkQ_exit ?_ | refine loopQ_norm ?_ | refine loopQ_exit ?_ | refine loopQ_ret ?_ | refine endQ_ret ?_ | refine endQ_norm ?_ | refine endE_ret ?_ | refine endE_norm ?_ | refine endI_ret ?_ | refine endI_norm ?_)
    | (with_reducible refine wp_regK fun K hK => ?_
       simp
       repeat' (with_reducible first | refine hK _ ?_ | (refine psel ?_ ?_ <;> (intro hc; (try rw [Decidable.not_not] at hc); first | (exfalso; omega) | (try simp [hc]))))
       all_goals (clear hK; clear K))
    | (with_reducible refine wp_condE ?_
       refine ⟨_, rfl, ?_, ?_⟩ <;> (intro hc; (try simp at hc); (all_goals first | (exfalso; omega) | skip))))
  · refine wp_loopI (σ := List XDeed × List XDeed) (fun s => [(0, AV.v k0 (D.sl 25 (List.map XDeed.e l)), none), (1, AV.v k1 (D.sl 25 (List.map XDeed.e l)), none), (5, AV.v false (di (s.1.length : Nat)), none)]) (fun s => l = s.1 ++ s.2) (fun s => s.2.length) ([], l) (by simp) rfl ?_
    rintro ⟨pre, rest⟩ h1
    simp only at h1
    subst h1
    simp only [List.length_append, List.length_cons] at h
    rcases rest with _ | ⟨⟨y_Op, y_Task, y_R, y_Id, ⟨y_Q_Kind, ⟨y_Q_P_Kind, y_Q_P_Col, y_Q_P_Op, ⟨y_Q_P_V_Ty, y_Q_P_V_N, y_Q_P_V_S⟩, y_Q_P_L⟩, y_Q_Col, y_Q_Out⟩, ⟨y_Res_Rows, y_Res_N, y_Res_Has, ⟨y_Res_V_Ty, y_Res_V_N, y_Res_V_S⟩⟩, y_Code, y_Stamp, y_Inv, y_Lin, y_Ret⟩, rest⟩
    · unfold pl150_0
      repeat' (first
        | with_reducible (first | refine wp_seq ?_ | refine wp_blk ?_ | refine wp_skip ?_ | refine wp_exit ?_ | refine wp_ret ?_ | refine seqQ_norm ?_ | refine seqQ_ret ?_ | refine seqQ_exit ?_ | refine blkQ_norm ?_ | refine blkQ_ret ?_ | refine blkQ_exit ?_ | refine loopQ_norm ?_ | refine loopQ_exit ?_ | refine loopQ_ret ?_ | refine endQ_ret ?_ | refine endQ_norm ?_ | refine endE_ret ?_ | refine endE_norm ?_ | refine endI_ret ?_ | refine endI_norm ?_)
        | (with_reducible refine wp_regK fun K hK => ?_
           simp
           repeat' (with_reducible first | refine hK _ ?_ | (refine psel ?_ ?_ <;> (intro hc; (try rw [Decidable.not_not] at hc); first | (exfalso; omega) | (try simp [hc]))))
           all_goals (clear hK; clear K))
        | (with_reducible refine wp_condE ?_
           refine ⟨_, rfl, ?_, ?_⟩ <;> (intro hc; (try simp at hc); (all_goals first | (exfalso; omega) | skip))))
      all_goals simp [pf150]
    · unfold pl150_0
      simp only [List.length_cons] at h
      have hw : IntKind.wrap .i64 ((pre.length : Int) + 1) = (pre.length : Int) + 1 := wrap_i64 (by omega) (by omega)
      have hd := hs ⟨y_Op, y_Task, y_R, y_Id, ⟨y_Q_Kind, ⟨y_Q_P_Kind, y_Q_P_Col, y_Q_P_Op, ⟨y_Q_P_V_Ty, y_Q_P_V_N, y_Q_P_V_S⟩, y_Q_P_L⟩, y_Q_Col, y_Q_Out⟩, ⟨y_Res_Rows, y_Res_N, y_Res_Has, ⟨y_Res_V_Ty, y_Res_V_N, y_Res_V_S⟩⟩, y_Code, y_Stamp, y_Inv, y_Lin, y_Ret⟩ (by simp)
      simp only [XDeed.sm, XQuery.sm, XPred.sm_eq, XVal.sm, XResult.sm, and_assoc] at hd
      obtain ⟨hsm_y_R, hsms_y_R, hsm_y_Q_P_V_S, hsm_y_Q_P_L, hsms_y_Q_P_L, hsm_y_Q_Out, hsm_y_Res_Rows, hsms_y_Res_Rows, hsm_y_Res_V_S⟩ := hd
      repeat' (first
        | with_reducible (first | refine wp_seq ?_ | refine wp_blk ?_ | refine wp_skip ?_ | refine wp_exit ?_ | refine wp_ret ?_ | refine seqQ_norm ?_ | refine seqQ_ret ?_ | refine seqQ_exit ?_ | refine blkQ_norm ?_ | refine blkQ_ret ?_ | refine blkQ_exit ?_ | refine loopQ_norm ?_ | refine loopQ_exit ?_ | refine loopQ_ret ?_ | refine endQ_ret ?_ | refine endQ_norm ?_ | refine endE_ret ?_ | refine endE_norm ?_ | refine endI_ret ?_ | refine endI_norm ?_)
        | (with_reducible refine wp_regK fun K hK => ?_
           simp[hw, hsm_y_R, hsms_y_R, hsm_y_Q_P_V_S, hsm_y_Q_P_L, hsms_y_Q_P_L, hsm_y_Q_Out, hsm_y_Res_Rows, hsms_y_Res_Rows, hsm_y_Res_V_S]
           repeat' (with_reducible first | refine hK _ ?_ | (refine psel ?_ ?_ <;> (intro hc; (try rw [Decidable.not_not] at hc); first | (exfalso; omega) | (try simp [hc, hw, hsm_y_R, hsms_y_R, hsm_y_Q_P_V_S, hsm_y_Q_P_L, hsms_y_Q_P_L, hsm_y_Q_Out, hsm_y_Res_Rows, hsms_y_Res_Rows, hsm_y_Res_V_S]))))
           all_goals (clear hK; clear K))
        | (with_reducible refine wp_condE ?_
           refine ⟨_, rfl, ?_, ?_⟩ <;> (intro hc; (try simp at hc); (all_goals first | (exfalso; omega) | skip))))
      all_goals exact ⟨(pre ++ [⟨y_Op, y_Task, y_R, y_Id, ⟨y_Q_Kind, ⟨y_Q_P_Kind, y_Q_P_Col, y_Q_P_Op, ⟨y_Q_P_V_Ty, y_Q_P_V_N, y_Q_P_V_S⟩, y_Q_P_L⟩, y_Q_Col, y_Q_Out⟩, ⟨y_Res_Rows, y_Res_N, y_Res_Has, ⟨y_Res_V_Ty, y_Res_V_N, y_Res_V_S⟩⟩, y_Code, y_Stamp, y_Inv, y_Lin, y_Ret⟩], rest), by simp, by simp, by simp⟩

@[simp] theorem t259 (k0 : Bool) (x_C_Cols : List Int) (x_C_Slots : Int) (x_C_Bufs : Int) (x_Time : Int) (x_T : Int) (x_E : Int) (x_Dd_Ver : Int) (x_Dd_L : List XRef) (x_B : List XBuf) (x_M : List Int) (x_X : List XDead) (x_P : List Int) (x_Tasks : List XTask) (x_Deeds : List XDeed) (hsm_x_C_Cols : x_C_Cols.length ≤ 1048576) (hsm_x_Dd_L : x_Dd_L.length ≤ 1048576) (hsm_x_B : x_B.length ≤ 1048576) (hsms_x_B : XBuf.sms x_B) (hsm_x_M : x_M.length ≤ 1048576) (hsm_x_X : x_X.length ≤ 1048576) (hsm_x_P : x_P.length ≤ 1048576) (hsm_x_Tasks : x_Tasks.length ≤ 1048576) (hsms_x_Tasks : XTask.sms x_Tasks) (hsm_x_Deeds : x_Deeds.length ≤ 1048576) (hsms_x_Deeds : XDeed.sms x_Deeds) : Gw TT 259 [.st [.ro k0 (.sl 1 (x_C_Cols.map ei)), .ro false (di x_C_Slots), .ro false (di x_C_Bufs), .ro false (di x_Time), .ro false (di x_T), .ro false (di x_E), .ro false (di x_Dd_Ver), .ro k0 (.sl 5 (x_Dd_L.map XRef.e)), .ro k0 (.sl 5 (x_B.map XBuf.e)), .ro k0 (.sl 1 (x_M.map ei)), .ro k0 (.sl 3 (x_X.map XDead.e)), .ro k0 (.sl 1 (x_P.map ei)), .ro k0 (.sl 25 (x_Tasks.map XTask.e)), .ro k0 (.sl 25 (x_Deeds.map XDeed.e))]] = some (.st [.own (.sl 1 (x_C_Cols.map ei)), .ro false (di x_C_Slots), .ro false (di x_C_Bufs), .ro false (di x_Time), .ro false (di x_T), .ro false (di x_E), .ro false (di x_Dd_Ver), .own (.sl 5 (x_Dd_L.map XRef.e)), .own (.sl 5 (x_B.map XBuf.e)), .own (.sl 1 (x_M.map ei)), .own (.sl 3 (x_X.map XDead.e)), .own (.sl 1 (x_P.map ei)), .own (.sl 25 (x_Tasks.map XTask.e)), .own (.sl 25 (x_Deeds.map XDeed.e))], []) := by
  refine Gw_of (F := pf259) rfl rfl ?_
  show Wp _ pb259 _ _
  unfold pb259
  repeat' (first
    | with_reducible (first | refine wp_seq ?_ | refine wp_blk ?_ | refine wp_skip ?_ | refine wp_exit ?_ | refine wp_ret ?_ | refine seqQ_norm ?_ | refine seqQ_ret ?_ | refine seqQ_exit ?_ | refine blkQ_norm ?_ | refine blkQ_ret ?_ | refine blkQ_exit ?_ | refine loopQ_norm ?_ | refine loopQ_exit ?_ | refine loopQ_ret ?_ | refine endQ_ret ?_ | refine endQ_norm ?_ | refine endE_ret ?_ | refine endE_norm ?_ | refine endI_ret ?_ | refine endI_norm ?_)
    | (with_reducible refine wp_regK fun K hK => ?_
       simp[hsm_x_C_Cols, hsm_x_Dd_L, hsm_x_B, hsms_x_B, hsm_x_M, hsm_x_X, hsm_x_P, hsm_x_Tasks, hsms_x_Tasks, hsm_x_Deeds, hsms_x_Deeds]
       repeat' (with_reducible first | refine hK _ ?_ | (refine psel ?_ ?_ <;> (intro hc; (try rw [Decidable.not_not] at hc); first | (exfalso; omega) | (try simp [hc, hsm_x_C_Cols, hsm_x_Dd_L, hsm_x_B, hsms_x_B, hsm_x_M, hsm_x_X, hsm_x_P, hsm_x_Tasks, hsms_x_Tasks, hsm_x_Deeds, hsms_x_Deeds]))))
       all_goals (clear hK; clear K))
    | (with_reducible refine wp_condE ?_
       refine ⟨_, rfl, ?_, ?_⟩ <;> (intro hc; (try simp at hc); (all_goals first | (exfalso; omega) | skip))))
  all_goals simp [pf259]

@[simp] theorem t167 (k0 k1 : Bool) (x_C_Cols : List Int) (x_C_Slots : Int) (x_C_Bufs : Int) (x_Time : Int) (x_T : Int) (x_E : Int) (x_Dd_Ver : Int) (x_Dd_L : List XRef) (x_B : List XBuf) (x_M : List Int) (x_X : List XDead) (x_P : List Int) (x_Tasks : List XTask) (x_Deeds : List XDeed) (hok_x_C_Cols : x_C_Cols.length ≤ 1048576) (hok_x_Dd_L : x_Dd_L.length ≤ 1048576) (hok_x_B : x_B.length ≤ 1048576) (hoks_x_B : XBuf.sms x_B) (hok_x_M : x_M.length ≤ 1048576) (hok_x_X : x_X.length ≤ 1048576) (hok_x_P : x_P.length ≤ 1048576) (hok_x_Tasks : x_Tasks.length ≤ 1048576) (hoks_x_Tasks : XTask.sms x_Tasks) (hok_x_Deeds : x_Deeds.length ≤ 1048576) (hoks_x_Deeds : XDeed.sms x_Deeds) : Gw TT 167 [.st [.ro k0 (.sl 1 (x_C_Cols.map ei)), .ro false (di x_C_Slots), .ro false (di x_C_Bufs), .ro false (di x_Time), .ro false (di x_T), .ro false (di x_E), .ro false (di x_Dd_Ver), .ro k0 (.sl 5 (x_Dd_L.map XRef.e)), .ro k0 (.sl 5 (x_B.map XBuf.e)), .ro k0 (.sl 1 (x_M.map ei)), .ro k0 (.sl 3 (x_X.map XDead.e)), .ro k0 (.sl 1 (x_P.map ei)), .ro k0 (.sl 25 (x_Tasks.map XTask.e)), .ro k0 (.sl 25 (x_Deeds.map XDeed.e))], .st [.ro k1 (.sl 1 (x_C_Cols.map ei)), .ro false (di x_C_Slots), .ro false (di x_C_Bufs), .ro false (di x_Time), .ro false (di x_T), .ro false (di x_E), .ro false (di x_Dd_Ver), .ro k1 (.sl 5 (x_Dd_L.map XRef.e)), .ro k1 (.sl 5 (x_B.map XBuf.e)), .ro k1 (.sl 1 (x_M.map ei)), .ro k1 (.sl 3 (x_X.map XDead.e)), .ro k1 (.sl 1 (x_P.map ei)), .ro k1 (.sl 25 (x_Tasks.map XTask.e)), .ro k1 (.sl 25 (x_Deeds.map XDeed.e))]] = some (vb true, []) := by
  refine Gw_of (F := pf167) rfl rfl ?_
  show Wp _ pb167 _ _
  unfold pb167
  repeat' (first
    | with_reducible (first | refine wp_seq ?_ | refine wp_blk ?_ | refine wp_skip ?_ | refine wp_exit ?_ | refine wp_ret ?_ | refine seqQ_norm ?_ | refine seqQ_ret ?_ | refine seqQ_exit ?_ | refine blkQ_norm ?_ | refine blkQ_ret ?_ | refine blkQ_exit ?_ | refine loopQ_norm ?_ | refine loopQ_exit ?_ | refine loopQ_ret ?_ | refine endQ_ret ?_ | refine endQ_norm ?_ | refine endE_ret ?_ | refine endE_norm ?_ | refine endI_ret ?_ | refine endI_norm ?_)
    | (with_reducible refine wp_regK fun K hK => ?_
       simp[hok_x_C_Cols, hok_x_Dd_L, hok_x_B, hoks_x_B, hok_x_M, hok_x_X, hok_x_P, hok_x_Tasks, hoks_x_Tasks, hok_x_Deeds, hoks_x_Deeds]
       repeat' (with_reducible first | refine hK _ ?_ | (refine psel ?_ ?_ <;> (intro hc; (try rw [Decidable.not_not] at hc); first | (exfalso; omega) | (try simp [hc, hok_x_C_Cols, hok_x_Dd_L, hok_x_B, hoks_x_B, hok_x_M, hok_x_X, hok_x_P, hok_x_Tasks, hoks_x_Tasks, hok_x_Deeds, hoks_x_Deeds]))))
       all_goals (clear hK; clear K))
    | (with_reducible refine wp_condE ?_
       refine ⟨_, rfl, ?_, ?_⟩ <;> (intro hc; (try simp at hc); (all_goals first | (exfalso; omega) | skip))))
  all_goals simp [pf167]

theorem t219 (k0 : Bool) (l : List Int) (left : Int) (h0 : 0 ≤ left) (h1 : left ≤ 1048576) (hl : l.length ≤ 9223372036854775807) :
    ∃ n, Gw TT 219 [.one (.ro k0 (.sl 1 (l.map ei))), vi left] = some (vi n, []) ∧ -1 ≤ n ∧ n ≤ left ∧ (0 ≤ n → l.length ≤ 1048576) := by
  refine Gw_ofI (F := pf219) rfl rfl ?_
  show Wp _ pb219 _ _
  unfold pb219
  have g : IntKind.wrap .i64 (left - (l.length : Int)) = left - (l.length : Int) := wrap_i64 (by omega) (by omega)
  repeat' (first
    | with_reducible (first | refine wp_seq ?_ | refine wp_blk ?_ | refine wp_skip ?_ | refine wp_exit ?_ | refine wp_ret ?_ | refine seqQ_norm ?_ | refine seqQ_ret ?_ | refine seqQ_exit ?_ | refine blkQ_norm ?_ | refine blkQ_ret ?_ | refine blkQ_exit ?_ | refine loopQ_norm ?_ | refine loopQ_exit ?_ | refine loopQ_ret ?_ | refine endQ_ret ?_ | refine endQ_norm ?_ | refine endE_ret ?_ | refine endE_norm ?_ | refine endI_ret ?_ | refine endI_norm ?_)
    | (with_reducible refine wp_regK fun K hK => ?_
       simp[g]
       repeat' (with_reducible first | refine hK _ ?_ | (refine psel ?_ ?_ <;> (intro hc; (try rw [Decidable.not_not] at hc); first | (exfalso; omega) | (try simp [hc, g]))))
       all_goals (clear hK; clear K))
    | (with_reducible refine wp_condE ?_
       refine ⟨_, rfl, ?_, ?_⟩ <;> (intro hc; (try simp at hc); (all_goals first | (exfalso; omega) | skip))))
  · exact ⟨-1, by simp [pf219], by omega, by omega, fun h => absurd h (by omega)⟩
  · exact ⟨left - (l.length : Int), by simp [pf219], by omega, by omega, fun _ => by omega⟩

theorem t212 (k0 : Bool) (l : List Int) (left : Int) (h0 : 0 ≤ left) (h1 : left ≤ 1048576) (hl : l.length ≤ 9223372036854775807) :
    ∃ n, Gw TT 212 [.one (.ro k0 (.sl 1 (l.map eb))), vi left] = some (vi n, []) ∧ -1 ≤ n ∧ n ≤ left ∧ (0 ≤ n → l.length ≤ 1048576) := by
  refine Gw_ofI (F := pf212) rfl rfl ?_
  show Wp _ pb212 _ _
  unfold pb212
  have g : IntKind.wrap .i64 (left - (l.length : Int)) = left - (l.length : Int) := wrap_i64 (by omega) (by omega)
  repeat' (first
    | with_reducible (first | refine wp_seq ?_ | refine wp_blk ?_ | refine wp_skip ?_ | refine wp_exit ?_ | refine wp_ret ?_ | refine seqQ_norm ?_ | refine seqQ_ret ?_ | refine seqQ_exit ?_ | refine blkQ_norm ?_ | refine blkQ_ret ?_ | refine blkQ_exit ?_ | refine loopQ_norm ?_ | refine loopQ_exit ?_ | refine loopQ_ret ?_ | refine endQ_ret ?_ | refine endQ_norm ?_ | refine endE_ret ?_ | refine endE_norm ?_ | refine endI_ret ?_ | refine endI_norm ?_)
    | (with_reducible refine wp_regK fun K hK => ?_
       simp[g]
       repeat' (with_reducible first | refine hK _ ?_ | (refine psel ?_ ?_ <;> (intro hc; (try rw [Decidable.not_not] at hc); first | (exfalso; omega) | (try simp [hc, g]))))
       all_goals (clear hK; clear K))
    | (with_reducible refine wp_condE ?_
       refine ⟨_, rfl, ?_, ?_⟩ <;> (intro hc; (try simp at hc); (all_goals first | (exfalso; omega) | skip))))
  · exact ⟨-1, by simp [pf212], by omega, by omega, fun h => absurd h (by omega)⟩
  · exact ⟨left - (l.length : Int), by simp [pf212], by omega, by omega, fun _ => by omega⟩

theorem t231 (x_Ty : Int) (x_N : Int) (x_S : ByteArray) (left : Int) (h0 : 0 ≤ left) (h1 : left ≤ 1048576) (hok_x_S : x_S.size ≤ 9223372036854775807) :
    ∃ n, Gw TT 231 [.st [.ro false (di x_Ty), .ro false (di x_N), .ro false (.str x_S)], vi left] = some (vi n, []) ∧ -1 ≤ n ∧ n ≤ left ∧ (0 ≤ n → x_S.size ≤ 1048576) := by
  refine Gw_ofI (F := pf231) rfl rfl ?_
  show Wp _ pb231 _ _
  unfold pb231
  have g1 : IntKind.wrap .i64 (left - (x_S.size : Int)) = left - (x_S.size : Int) := wrap_i64 (by omega) (by omega)
  repeat' (first
    | with_reducible (first | refine wp_seq ?_ | refine wp_blk ?_ | refine wp_skip ?_ | refine wp_exit ?_ | refine wp_ret ?_ | refine seqQ_norm ?_ | refine seqQ_ret ?_ | refine seqQ_exit ?_ | refine blkQ_norm ?_ | refine blkQ_ret ?_ | refine blkQ_exit ?_ | refine loopQ_norm ?_ | refine loopQ_exit ?_ | refine loopQ_ret ?_ | refine endQ_ret ?_ | refine endQ_norm ?_ | refine endE_ret ?_ | refine endE_norm ?_ | refine endI_ret ?_ | refine endI_norm ?_)
    | (with_reducible refine wp_regK fun K hK => ?_
       simp[g1]
       repeat' (with_reducible first | refine hK _ ?_ | (refine psel ?_ ?_ <;> (intro hc; (try rw [Decidable.not_not] at hc); first | (exfalso; omega) | (try simp [hc, g1]))))
       all_goals (clear hK; clear K))
    | (with_reducible refine wp_condE ?_
       refine ⟨_, rfl, ?_, ?_⟩ <;> (intro hc; (try simp at hc); (all_goals first | (exfalso; omega) | skip))))
  · exact ⟨-1, by simp [pf231], by omega, by omega, fun h => absurd h (by omega)⟩
  · exact ⟨left - (x_S.size : Int), by simp [pf231], by omega, by omega, fun _ => (by omega)⟩

theorem t232 (k0 : Bool) (l : List XVal) (left : Int) (h0 : 0 ≤ left) (h1 : left ≤ 1048576) (hl : l.length ≤ 9223372036854775807) (hok : XVal.oks l) :
    ∃ n, Gw TT 232 [.one (.ro k0 (.sl 3 (l.map XVal.e))), vi left] = some (vi n, []) ∧ -1 ≤ n ∧ n ≤ left ∧ (0 ≤ n → l.length ≤ 1048576 ∧ XVal.sms l) := by
  refine Gw_ofI (F := pf232) rfl rfl ?_
  show Wp _ pb232 _ _
  unfold pb232
  have g : IntKind.wrap .i64 (left - (l.length : Int)) = left - (l.length : Int) := wrap_i64 (by omega) (by omega)
  repeat' (first
    | with_reducible (first | refine wp_seq ?_ | refine wp_blk ?_ | refine wp_skip ?_ | refine wp_exit ?_ | refine wp_ret ?_ | refine seqQ_norm ?_ | refine seqQ_ret ?_ | refine seqQ_exit ?_ | refine blkQ_norm ?_ | refine blkQ_ret ?_ | refine blkQ_exit ?_ | refine loopQ_norm ?_ | refine loopQ_exit ?_ | refine loopQ_ret ?_ | refine endQ_ret ?_ | refine endQ_norm ?_ | refine endE_ret ?_ | refine endE_norm ?_ | refine endI_ret ?_ | refine endI_norm ?_)
    | (with_reducible refine wp_regK fun K hK => ?_
       simp[g]
       repeat' (with_reducible first | refine hK _ ?_ | (refine psel ?_ ?_ <;> (intro hc; (try rw [Decidable.not_not] at hc); first | (exfalso; omega) | (try simp [hc, g]))))
       all_goals (clear hK; clear K))
    | (with_reducible refine wp_condE ?_
       refine ⟨_, rfl, ?_, ?_⟩ <;> (intro hc; (try simp at hc); (all_goals first | (exfalso; omega) | skip))))
  · exact ⟨-1, by simp [pf232], by omega, by omega, fun h => absurd h (by omega)⟩
  · refine wp_loopI (σ := List XVal × List XVal × Int) (fun s => [(0, AV.v k0 (D.sl 3 (List.map XVal.e l)), none), (1, AV.v false (di s.2.2), none), (5, AV.v false (di (s.1.length : Nat)), none)]) (fun s => l = s.1 ++ s.2.1 ∧ 0 ≤ s.2.2 ∧ s.2.2 ≤ left - (l.length : Int) ∧ XVal.sms s.1) (fun s => s.2.1.length) ([], l, left - (l.length : Int)) (by simp) ⟨rfl, by simp only; omega, by simp only; omega, fun y hy => by simp at hy⟩ ?_
    rintro ⟨pre, rest, lf⟩ ⟨h2, h3, h4, h5⟩
    simp only at h2 h3 h4 h5
    subst h2
    simp only [List.length_append, List.length_cons] at hl h4 g
    rcases rest with _ | ⟨⟨y_Ty, y_N, y_S⟩, rest⟩
    · unfold pl232_0
      repeat' (first
        | with_reducible (first | refine wp_seq ?_ | refine wp_blk ?_ | refine wp_skip ?_ | refine wp_exit ?_ | refine wp_ret ?_ | refine seqQ_norm ?_ | refine seqQ_ret ?_ | refine seqQ_exit ?_ | refine blkQ_norm ?_ | refine blkQ_ret ?_ | refine blkQ_exit ?_ | refine loopQ_norm ?_ | refine loopQ_exit ?_ | refine loopQ_ret ?_ | refine endQ_ret ?_ | refine endQ_norm ?_ | refine endE_ret ?_ | refine endE_norm ?_ | refine endI_ret ?_ | refine endI_norm ?_)
        | (with_reducible refine wp_regK fun K hK => ?_
           simp
           repeat' (with_reducible first | refine hK _ ?_ | (refine psel ?_ ?_ <;> (intro hc; (try rw [Decidable.not_not] at hc); first | (exfalso; omega) | (try simp [hc]))))
           all_goals (clear hK; clear K))
        | (with_reducible refine wp_condE ?_
           refine ⟨_, rfl, ?_, ?_⟩ <;> (intro hc; (try simp at hc); (all_goals first | (exfalso; omega) | skip))))
      simp only [List.length_nil] at h4
      all_goals exact ⟨lf, by simp [pf232], by omega, by omega, fun _ => ⟨by simp; omega, by simpa using h5⟩⟩
    · unfold pl232_0
      simp only [List.length_cons] at hl h4
      have hw : IntKind.wrap .i64 ((pre.length : Int) + 1) = (pre.length : Int) + 1 := wrap_i64 (by omega) (by omega)
      have hd := hok ⟨y_Ty, y_N, y_S⟩ (by simp)
      simp only [XVal.ok, and_assoc] at hd
      obtain ⟨hlo_y_Ty, hhi_y_Ty, hlo_y_N, hhi_y_N, hok_y_S⟩ := hd
      obtain ⟨n1, g1, a1, b1, s1⟩ := t231 y_Ty y_N y_S lf (by omega) (by omega) hok_y_S
      repeat' (first
        | with_reducible (first | refine wp_seq ?_ | refine wp_blk ?_ | refine wp_skip ?_ | refine wp_exit ?_ | refine wp_ret ?_ | refine seqQ_norm ?_ | refine seqQ_ret ?_ | refine seqQ_exit ?_ | refine blkQ_norm ?_ | refine blkQ_ret ?_ | refine blkQ_exit ?_ | refine loopQ_norm ?_ | refine loopQ_exit ?_ | refine loopQ_ret ?_ | refine endQ_ret ?_ | refine endQ_norm ?_ | refine endE_ret ?_ | refine endE_norm ?_ | refine endI_ret ?_ | refine endI_norm ?_)
        | (with_reducible refine wp_regK fun K hK => ?_
           simp[g1, hw]
           repeat' (with_reducible first | refine hK _ ?_ | (refine psel ?_ ?_ <;> (intro hc; (try rw [Decidable.not_not] at hc); first | (exfalso; omega) | (try simp [hc, g1, hw]))))
           all_goals (clear hK; clear K))
        | (with_reducible refine wp_condE ?_
           refine ⟨_, rfl, ?_, ?_⟩ <;> (intro hc; (try simp at hc); (all_goals first | (exfalso; omega) | skip))))
      · exact ⟨-1, by simp [pf232], by omega, by omega, fun h => absurd h (by omega)⟩
      · exact ⟨(pre ++ [⟨y_Ty, y_N, y_S⟩], rest, n1), by simp, ⟨by simp, by simp only; omega, by simp only [List.length_append, List.length_cons]; omega, fun y hy => by
          rcases List.mem_append.1 hy with hy | hy
          · exact h5 y hy
          · rw [List.mem_singleton.1 hy]
            simp only [XVal.sm, and_assoc]
            exact s1 (by omega)⟩, by simp⟩

theorem t225 (k0 : Bool) (x_Id : Int) (x_L : List XVal) (left : Int) (h0 : 0 ≤ left) (h1 : left ≤ 1048576) (hok_x_L : x_L.length ≤ 9223372036854775807) (hoks_x_L : XVal.oks x_L) :
    ∃ n, Gw TT 225 [.st [.ro false (di x_Id), .ro k0 (.sl 3 (x_L.map XVal.e))], vi left] = some (vi n, []) ∧ -1 ≤ n ∧ n ≤ left ∧ (0 ≤ n → x_L.length ≤ 1048576 ∧ XVal.sms x_L) := by
  refine Gw_ofI (F := pf225) rfl rfl ?_
  show Wp _ pb225 _ _
  unfold pb225
  obtain ⟨n1, g1, a1, b1, s1⟩ := t232 k0 x_L left (by omega) (by omega) hok_x_L hoks_x_L
  repeat' (first
    | with_reducible (first | refine wp_seq ?_ | refine wp_blk ?_ | refine wp_skip ?_ | refine wp_exit ?_ | refine wp_ret ?_ | refine seqQ_norm ?_ | refine seqQ_ret ?_ | refine seqQ_exit ?_ | refine blkQ_norm ?_ | refine blkQ_ret ?_ | refine blkQ_exit ?_ | refine loopQ_norm ?_ | refine loopQ_exit ?_ | refine loopQ_ret ?_ | refine endQ_ret ?_ | refine endQ_norm ?_ | refine endE_ret ?_ | refine endE_norm ?_ | refine endI_ret ?_ | refine endI_norm ?_)
    | (with_reducible refine wp_regK fun K hK => ?_
       simp[g1]
       repeat' (with_reducible first | refine hK _ ?_ | (refine psel ?_ ?_ <;> (intro hc; (try rw [Decidable.not_not] at hc); first | (exfalso; omega) | (try simp [hc, g1]))))
       all_goals (clear hK; clear K))
    | (with_reducible refine wp_condE ?_
       refine ⟨_, rfl, ?_, ?_⟩ <;> (intro hc; (try simp at hc); (all_goals first | (exfalso; omega) | skip))))
  · exact ⟨-1, by simp [pf225], by omega, by omega, fun h => absurd h (by omega)⟩
  · exact ⟨n1, by simp [pf225], by omega, by omega, fun _ => ⟨(s1 (by omega)).1, (s1 (by omega)).2⟩⟩

theorem t226 (k0 : Bool) (l : List XRow) (left : Int) (h0 : 0 ≤ left) (h1 : left ≤ 1048576) (hl : l.length ≤ 9223372036854775807) (hok : XRow.oks l) :
    ∃ n, Gw TT 226 [.one (.ro k0 (.sl 2 (l.map XRow.e))), vi left] = some (vi n, []) ∧ -1 ≤ n ∧ n ≤ left ∧ (0 ≤ n → l.length ≤ 1048576 ∧ XRow.sms l) := by
  refine Gw_ofI (F := pf226) rfl rfl ?_
  show Wp _ pb226 _ _
  unfold pb226
  have g : IntKind.wrap .i64 (left - (l.length : Int)) = left - (l.length : Int) := wrap_i64 (by omega) (by omega)
  repeat' (first
    | with_reducible (first | refine wp_seq ?_ | refine wp_blk ?_ | refine wp_skip ?_ | refine wp_exit ?_ | refine wp_ret ?_ | refine seqQ_norm ?_ | refine seqQ_ret ?_ | refine seqQ_exit ?_ | refine blkQ_norm ?_ | refine blkQ_ret ?_ | refine blkQ_exit ?_ | refine loopQ_norm ?_ | refine loopQ_exit ?_ | refine loopQ_ret ?_ | refine endQ_ret ?_ | refine endQ_norm ?_ | refine endE_ret ?_ | refine endE_norm ?_ | refine endI_ret ?_ | refine endI_norm ?_)
    | (with_reducible refine wp_regK fun K hK => ?_
       simp[g]
       repeat' (with_reducible first | refine hK _ ?_ | (refine psel ?_ ?_ <;> (intro hc; (try rw [Decidable.not_not] at hc); first | (exfalso; omega) | (try simp [hc, g]))))
       all_goals (clear hK; clear K))
    | (with_reducible refine wp_condE ?_
       refine ⟨_, rfl, ?_, ?_⟩ <;> (intro hc; (try simp at hc); (all_goals first | (exfalso; omega) | skip))))
  · exact ⟨-1, by simp [pf226], by omega, by omega, fun h => absurd h (by omega)⟩
  · refine wp_loopI (σ := List XRow × List XRow × Int) (fun s => [(0, AV.v k0 (D.sl 2 (List.map XRow.e l)), none), (1, AV.v false (di s.2.2), none), (5, AV.v false (di (s.1.length : Nat)), none)]) (fun s => l = s.1 ++ s.2.1 ∧ 0 ≤ s.2.2 ∧ s.2.2 ≤ left - (l.length : Int) ∧ XRow.sms s.1) (fun s => s.2.1.length) ([], l, left - (l.length : Int)) (by simp) ⟨rfl, by simp only; omega, by simp only; omega, fun y hy => by simp at hy⟩ ?_
    rintro ⟨pre, rest, lf⟩ ⟨h2, h3, h4, h5⟩
    simp only at h2 h3 h4 h5
    subst h2
    simp only [List.length_append, List.length_cons] at hl h4 g
    rcases rest with _ | ⟨⟨y_Id, y_L⟩, rest⟩
    · unfold pl226_0
      repeat' (first
        | with_reducible (first | refine wp_seq ?_ | refine wp_blk ?_ | refine wp_skip ?_ | refine wp_exit ?_ | refine wp_ret ?_ | refine seqQ_norm ?_ | refine seqQ_ret ?_ | refine seqQ_exit ?_ | refine blkQ_norm ?_ | refine blkQ_ret ?_ | refine blkQ_exit ?_ | refine loopQ_norm ?_ | refine loopQ_exit ?_ | refine loopQ_ret ?_ | refine endQ_ret ?_ | refine endQ_norm ?_ | refine endE_ret ?_ | refine endE_norm ?_ | refine endI_ret ?_ | refine endI_norm ?_)
        | (with_reducible refine wp_regK fun K hK => ?_
           simp
           repeat' (with_reducible first | refine hK _ ?_ | (refine psel ?_ ?_ <;> (intro hc; (try rw [Decidable.not_not] at hc); first | (exfalso; omega) | (try simp [hc]))))
           all_goals (clear hK; clear K))
        | (with_reducible refine wp_condE ?_
           refine ⟨_, rfl, ?_, ?_⟩ <;> (intro hc; (try simp at hc); (all_goals first | (exfalso; omega) | skip))))
      simp only [List.length_nil] at h4
      all_goals exact ⟨lf, by simp [pf226], by omega, by omega, fun _ => ⟨by simp; omega, by simpa using h5⟩⟩
    · unfold pl226_0
      simp only [List.length_cons] at hl h4
      have hw : IntKind.wrap .i64 ((pre.length : Int) + 1) = (pre.length : Int) + 1 := wrap_i64 (by omega) (by omega)
      have hd := hok ⟨y_Id, y_L⟩ (by simp)
      simp only [XRow.ok, and_assoc] at hd
      obtain ⟨hlo_y_Id, hhi_y_Id, hok_y_L, hoks_y_L⟩ := hd
      obtain ⟨n1, g1, a1, b1, s1⟩ := t225 k0 y_Id y_L lf (by omega) (by omega) hok_y_L hoks_y_L
      repeat' (first
        | with_reducible (first | refine wp_seq ?_ | refine wp_blk ?_ | refine wp_skip ?_ | refine wp_exit ?_ | refine wp_ret ?_ | refine seqQ_norm ?_ | refine seqQ_ret ?_ | refine seqQ_exit ?_ | refine blkQ_norm ?_ | refine blkQ_ret ?_ | refine blkQ_exit ?_ | refine loopQ_norm ?_ | refine loopQ_exit ?_ | refine loopQ_ret ?_ | refine endQ_ret ?_ | refine endQ_norm ?_ | refine endE_ret ?_ | refine endE_norm ?_ | refine endI_ret ?_ | refine endI_norm ?_)
        | (with_reducible refine wp_regK fun K hK => ?_
           simp[g1, hw]
           repeat' (with_reducible first | refine hK _ ?_ | (refine psel ?_ ?_ <;> (intro hc; (try rw [Decidable.not_not] at hc); first | (exfalso; omega) | (try simp [hc, g1, hw]))))
           all_goals (clear hK; clear K))
        | (with_reducible refine wp_condE ?_
           refine ⟨_, rfl, ?_, ?_⟩ <;> (intro hc; (try simp at hc); (all_goals first | (exfalso; omega) | skip))))
      · exact ⟨-1, by simp [pf226], by omega, by omega, fun h => absurd h (by omega)⟩
      · exact ⟨(pre ++ [⟨y_Id, y_L⟩], rest, n1), by simp, ⟨by simp, by simp only; omega, by simp only [List.length_append, List.length_cons]; omega, fun y hy => by
          rcases List.mem_append.1 hy with hy | hy
          · exact h5 y hy
          · rw [List.mem_singleton.1 hy]
            simp only [XRow.sm, and_assoc]
            exact s1 (by omega)⟩, by simp⟩

theorem t215 (k0 : Bool) (l : List XDead) (left : Int) (h0 : 0 ≤ left) (h1 : left ≤ 1048576) (hl : l.length ≤ 9223372036854775807) :
    ∃ n, Gw TT 215 [.one (.ro k0 (.sl 3 (l.map XDead.e))), vi left] = some (vi n, []) ∧ -1 ≤ n ∧ n ≤ left ∧ (0 ≤ n → l.length ≤ 1048576) := by
  refine Gw_ofI (F := pf215) rfl rfl ?_
  show Wp _ pb215 _ _
  unfold pb215
  have g : IntKind.wrap .i64 (left - (l.length : Int)) = left - (l.length : Int) := wrap_i64 (by omega) (by omega)
  repeat' (first
    | with_reducible (first | refine wp_seq ?_ | refine wp_blk ?_ | refine wp_skip ?_ | refine wp_exit ?_ | refine wp_ret ?_ | refine seqQ_norm ?_ | refine seqQ_ret ?_ | refine seqQ_exit ?_ | refine blkQ_norm ?_ | refine blkQ_ret ?_ | refine blkQ_exit ?_ | refine loopQ_norm ?_ | refine loopQ_exit ?_ | refine loopQ_ret ?_ | refine endQ_ret ?_ | refine endQ_norm ?_ | refine endE_ret ?_ | refine endE_norm ?_ | refine endI_ret ?_ | refine endI_norm ?_)
    | (with_reducible refine wp_regK fun K hK => ?_
       simp[g]
       repeat' (with_reducible first | refine hK _ ?_ | (refine psel ?_ ?_ <;> (intro hc; (try rw [Decidable.not_not] at hc); first | (exfalso; omega) | (try simp [hc, g]))))
       all_goals (clear hK; clear K))
    | (with_reducible refine wp_condE ?_
       refine ⟨_, rfl, ?_, ?_⟩ <;> (intro hc; (try simp at hc); (all_goals first | (exfalso; omega) | skip))))
  · exact ⟨-1, by simp [pf215], by omega, by omega, fun h => absurd h (by omega)⟩
  · exact ⟨left - (l.length : Int), by simp [pf215], by omega, by omega, fun _ => by omega⟩

theorem t223 (k0 : Bool) (l : List XRef) (left : Int) (h0 : 0 ≤ left) (h1 : left ≤ 1048576) (hl : l.length ≤ 9223372036854775807) :
    ∃ n, Gw TT 223 [.one (.ro k0 (.sl 5 (l.map XRef.e))), vi left] = some (vi n, []) ∧ -1 ≤ n ∧ n ≤ left ∧ (0 ≤ n → l.length ≤ 1048576) := by
  refine Gw_ofI (F := pf223) rfl rfl ?_
  show Wp _ pb223 _ _
  unfold pb223
  have g : IntKind.wrap .i64 (left - (l.length : Int)) = left - (l.length : Int) := wrap_i64 (by omega) (by omega)
  repeat' (first
    | with_reducible (first | refine wp_seq ?_ | refine wp_blk ?_ | refine wp_skip ?_ | refine wp_exit ?_ | refine wp_ret ?_ | refine seqQ_norm ?_ | refine seqQ_ret ?_ | refine seqQ_exit ?_ | refine blkQ_norm ?_ | refine blkQ_ret ?_ | refine blkQ_exit ?_ | refine loopQ_norm ?_ | refine loopQ_exit ?_ | refine loopQ_ret ?_ | refine endQ_ret ?_ | refine endQ_norm ?_ | refine endE_ret ?_ | refine endE_norm ?_ | refine endI_ret ?_ | refine endI_norm ?_)
    | (with_reducible refine wp_regK fun K hK => ?_
       simp[g]
       repeat' (with_reducible first | refine hK _ ?_ | (refine psel ?_ ?_ <;> (intro hc; (try rw [Decidable.not_not] at hc); first | (exfalso; omega) | (try simp [hc, g]))))
       all_goals (clear hK; clear K))
    | (with_reducible refine wp_condE ?_
       refine ⟨_, rfl, ?_, ?_⟩ <;> (intro hc; (try simp at hc); (all_goals first | (exfalso; omega) | skip))))
  · exact ⟨-1, by simp [pf223], by omega, by omega, fun h => absurd h (by omega)⟩
  · exact ⟨left - (l.length : Int), by simp [pf223], by omega, by omega, fun _ => by omega⟩

theorem t218 (k0 : Bool) (x_Ver : Int) (x_L : List XRef) (left : Int) (h0 : 0 ≤ left) (h1 : left ≤ 1048576) (hok_x_L : x_L.length ≤ 9223372036854775807) :
    ∃ n, Gw TT 218 [.st [.ro false (di x_Ver), .ro k0 (.sl 5 (x_L.map XRef.e))], vi left] = some (vi n, []) ∧ -1 ≤ n ∧ n ≤ left ∧ (0 ≤ n → x_L.length ≤ 1048576) := by
  refine Gw_ofI (F := pf218) rfl rfl ?_
  show Wp _ pb218 _ _
  unfold pb218
  obtain ⟨n1, g1, a1, b1, s1⟩ := t223 k0 x_L left (by omega) (by omega) hok_x_L
  repeat' (first
    | with_reducible (first | refine wp_seq ?_ | refine wp_blk ?_ | refine wp_skip ?_ | refine wp_exit ?_ | refine wp_ret ?_ | refine seqQ_norm ?_ | refine seqQ_ret ?_ | refine seqQ_exit ?_ | refine blkQ_norm ?_ | refine blkQ_ret ?_ | refine blkQ_exit ?_ | refine loopQ_norm ?_ | refine loopQ_exit ?_ | refine loopQ_ret ?_ | refine endQ_ret ?_ | refine endQ_norm ?_ | refine endE_ret ?_ | refine endE_norm ?_ | refine endI_ret ?_ | refine endI_norm ?_)
    | (with_reducible refine wp_regK fun K hK => ?_
       simp[g1]
       repeat' (with_reducible first | refine hK _ ?_ | (refine psel ?_ ?_ <;> (intro hc; (try rw [Decidable.not_not] at hc); first | (exfalso; omega) | (try simp [hc, g1]))))
       all_goals (clear hK; clear K))
    | (with_reducible refine wp_condE ?_
       refine ⟨_, rfl, ?_, ?_⟩ <;> (intro hc; (try simp at hc); (all_goals first | (exfalso; omega) | skip))))
  · exact ⟨-1, by simp [pf218], by omega, by omega, fun h => absurd h (by omega)⟩
  · exact ⟨n1, by simp [pf218], by omega, by omega, fun _ => (s1 (by omega))⟩

theorem t227 (k0 : Bool) (x_Ins : Int) (x_L : List XVal) (left : Int) (h0 : 0 ≤ left) (h1 : left ≤ 1048576) (hok_x_L : x_L.length ≤ 9223372036854775807) (hoks_x_L : XVal.oks x_L) :
    ∃ n, Gw TT 227 [.st [.ro false (di x_Ins), .ro k0 (.sl 3 (x_L.map XVal.e))], vi left] = some (vi n, []) ∧ -1 ≤ n ∧ n ≤ left ∧ (0 ≤ n → x_L.length ≤ 1048576 ∧ XVal.sms x_L) := by
  refine Gw_ofI (F := pf227) rfl rfl ?_
  show Wp _ pb227 _ _
  unfold pb227
  obtain ⟨n1, g1, a1, b1, s1⟩ := t232 k0 x_L left (by omega) (by omega) hok_x_L hoks_x_L
  repeat' (first
    | with_reducible (first | refine wp_seq ?_ | refine wp_blk ?_ | refine wp_skip ?_ | refine wp_exit ?_ | refine wp_ret ?_ | refine seqQ_norm ?_ | refine seqQ_ret ?_ | refine seqQ_exit ?_ | refine blkQ_norm ?_ | refine blkQ_ret ?_ | refine blkQ_exit ?_ | refine loopQ_norm ?_ | refine loopQ_exit ?_ | refine loopQ_ret ?_ | refine endQ_ret ?_ | refine endQ_norm ?_ | refine endE_ret ?_ | refine endE_norm ?_ | refine endI_ret ?_ | refine endI_norm ?_)
    | (with_reducible refine wp_regK fun K hK => ?_
       simp[g1]
       repeat' (with_reducible first | refine hK _ ?_ | (refine psel ?_ ?_ <;> (intro hc; (try rw [Decidable.not_not] at hc); first | (exfalso; omega) | (try simp [hc, g1]))))
       all_goals (clear hK; clear K))
    | (with_reducible refine wp_condE ?_
       refine ⟨_, rfl, ?_, ?_⟩ <;> (intro hc; (try simp at hc); (all_goals first | (exfalso; omega) | skip))))
  · exact ⟨-1, by simp [pf227], by omega, by omega, fun h => absurd h (by omega)⟩
  · exact ⟨n1, by simp [pf227], by omega, by omega, fun _ => ⟨(s1 (by omega)).1, (s1 (by omega)).2⟩⟩

theorem t228 (k0 : Bool) (l : List XSlot) (left : Int) (h0 : 0 ≤ left) (h1 : left ≤ 1048576) (hl : l.length ≤ 9223372036854775807) (hok : XSlot.oks l) :
    ∃ n, Gw TT 228 [.one (.ro k0 (.sl 2 (l.map XSlot.e))), vi left] = some (vi n, []) ∧ -1 ≤ n ∧ n ≤ left ∧ (0 ≤ n → l.length ≤ 1048576 ∧ XSlot.sms l) := by
  refine Gw_ofI (F := pf228) rfl rfl ?_
  show Wp _ pb228 _ _
  unfold pb228
  have g : IntKind.wrap .i64 (left - (l.length : Int)) = left - (l.length : Int) := wrap_i64 (by omega) (by omega)
  repeat' (first
    | with_reducible (first | refine wp_seq ?_ | refine wp_blk ?_ | refine wp_skip ?_ | refine wp_exit ?_ | refine wp_ret ?_ | refine seqQ_norm ?_ | refine seqQ_ret ?_ | refine seqQ_exit ?_ | refine blkQ_norm ?_ | refine blkQ_ret ?_ | refine blkQ_exit ?_ | refine loopQ_norm ?_ | refine loopQ_exit ?_ | refine loopQ_ret ?_ | refine endQ_ret ?_ | refine endQ_norm ?_ | refine endE_ret ?_ | refine endE_norm ?_ | refine endI_ret ?_ | refine endI_norm ?_)
    | (with_reducible refine wp_regK fun K hK => ?_
       simp[g]
       repeat' (with_reducible first | refine hK _ ?_ | (refine psel ?_ ?_ <;> (intro hc; (try rw [Decidable.not_not] at hc); first | (exfalso; omega) | (try simp [hc, g]))))
       all_goals (clear hK; clear K))
    | (with_reducible refine wp_condE ?_
       refine ⟨_, rfl, ?_, ?_⟩ <;> (intro hc; (try simp at hc); (all_goals first | (exfalso; omega) | skip))))
  · exact ⟨-1, by simp [pf228], by omega, by omega, fun h => absurd h (by omega)⟩
  · refine wp_loopI (σ := List XSlot × List XSlot × Int) (fun s => [(0, AV.v k0 (D.sl 2 (List.map XSlot.e l)), none), (1, AV.v false (di s.2.2), none), (5, AV.v false (di (s.1.length : Nat)), none)]) (fun s => l = s.1 ++ s.2.1 ∧ 0 ≤ s.2.2 ∧ s.2.2 ≤ left - (l.length : Int) ∧ XSlot.sms s.1) (fun s => s.2.1.length) ([], l, left - (l.length : Int)) (by simp) ⟨rfl, by simp only; omega, by simp only; omega, fun y hy => by simp at hy⟩ ?_
    rintro ⟨pre, rest, lf⟩ ⟨h2, h3, h4, h5⟩
    simp only at h2 h3 h4 h5
    subst h2
    simp only [List.length_append, List.length_cons] at hl h4 g
    rcases rest with _ | ⟨⟨y_Ins, y_L⟩, rest⟩
    · unfold pl228_0
      repeat' (first
        | with_reducible (first | refine wp_seq ?_ | refine wp_blk ?_ | refine wp_skip ?_ | refine wp_exit ?_ | refine wp_ret ?_ | refine seqQ_norm ?_ | refine seqQ_ret ?_ | refine seqQ_exit ?_ | refine blkQ_norm ?_ | refine blkQ_ret ?_ | refine blkQ_exit ?_ | refine loopQ_norm ?_ | refine loopQ_exit ?_ | refine loopQ_ret ?_ | refine endQ_ret ?_ | refine endQ_norm ?_ | refine endE_ret ?_ | refine endE_norm ?_ | refine endI_ret ?_ | refine endI_norm ?_)
        | (with_reducible refine wp_regK fun K hK => ?_
           simp
           repeat' (with_reducible first | refine hK _ ?_ | (refine psel ?_ ?_ <;> (intro hc; (try rw [Decidable.not_not] at hc); first | (exfalso; omega) | (try simp [hc]))))
           all_goals (clear hK; clear K))
        | (with_reducible refine wp_condE ?_
           refine ⟨_, rfl, ?_, ?_⟩ <;> (intro hc; (try simp at hc); (all_goals first | (exfalso; omega) | skip))))
      simp only [List.length_nil] at h4
      all_goals exact ⟨lf, by simp [pf228], by omega, by omega, fun _ => ⟨by simp; omega, by simpa using h5⟩⟩
    · unfold pl228_0
      simp only [List.length_cons] at hl h4
      have hw : IntKind.wrap .i64 ((pre.length : Int) + 1) = (pre.length : Int) + 1 := wrap_i64 (by omega) (by omega)
      have hd := hok ⟨y_Ins, y_L⟩ (by simp)
      simp only [XSlot.ok, and_assoc] at hd
      obtain ⟨hlo_y_Ins, hhi_y_Ins, hok_y_L, hoks_y_L⟩ := hd
      obtain ⟨n1, g1, a1, b1, s1⟩ := t227 k0 y_Ins y_L lf (by omega) (by omega) hok_y_L hoks_y_L
      repeat' (first
        | with_reducible (first | refine wp_seq ?_ | refine wp_blk ?_ | refine wp_skip ?_ | refine wp_exit ?_ | refine wp_ret ?_ | refine seqQ_norm ?_ | refine seqQ_ret ?_ | refine seqQ_exit ?_ | refine blkQ_norm ?_ | refine blkQ_ret ?_ | refine blkQ_exit ?_ | refine loopQ_norm ?_ | refine loopQ_exit ?_ | refine loopQ_ret ?_ | refine endQ_ret ?_ | refine endQ_norm ?_ | refine endE_ret ?_ | refine endE_norm ?_ | refine endI_ret ?_ | refine endI_norm ?_)
        | (with_reducible refine wp_regK fun K hK => ?_
           simp[g1, hw]
           repeat' (with_reducible first | refine hK _ ?_ | (refine psel ?_ ?_ <;> (intro hc; (try rw [Decidable.not_not] at hc); first | (exfalso; omega) | (try simp [hc, g1, hw]))))
           all_goals (clear hK; clear K))
        | (with_reducible refine wp_condE ?_
           refine ⟨_, rfl, ?_, ?_⟩ <;> (intro hc; (try simp at hc); (all_goals first | (exfalso; omega) | skip))))
      · exact ⟨-1, by simp [pf228], by omega, by omega, fun h => absurd h (by omega)⟩
      · exact ⟨(pre ++ [⟨y_Ins, y_L⟩], rest, n1), by simp, ⟨by simp, by simp only; omega, by simp only [List.length_append, List.length_cons]; omega, fun y hy => by
          rcases List.mem_append.1 hy with hy | hy
          · exact h5 y hy
          · rw [List.mem_singleton.1 hy]
            simp only [XSlot.sm, and_assoc]
            exact s1 (by omega)⟩, by simp⟩

theorem t213 (k0 : Bool) (x_Next : Int) (x_L : List XSlot) (left : Int) (h0 : 0 ≤ left) (h1 : left ≤ 1048576) (hok_x_L : x_L.length ≤ 9223372036854775807) (hoks_x_L : XSlot.oks x_L) :
    ∃ n, Gw TT 213 [.st [.ro false (di x_Next), .ro k0 (.sl 2 (x_L.map XSlot.e))], vi left] = some (vi n, []) ∧ -1 ≤ n ∧ n ≤ left ∧ (0 ≤ n → x_L.length ≤ 1048576 ∧ XSlot.sms x_L) := by
  refine Gw_ofI (F := pf213) rfl rfl ?_
  show Wp _ pb213 _ _
  unfold pb213
  obtain ⟨n1, g1, a1, b1, s1⟩ := t228 k0 x_L left (by omega) (by omega) hok_x_L hoks_x_L
  repeat' (first
    | with_reducible (first | refine wp_seq ?_ | refine wp_blk ?_ | refine wp_skip ?_ | refine wp_exit ?_ | refine wp_ret ?_ | refine seqQ_norm ?_ | refine seqQ_ret ?_ | refine seqQ_exit ?_ | refine blkQ_norm ?_ | refine blkQ_ret ?_ | refine blkQ_exit ?_ | refine loopQ_norm ?_ | refine loopQ_exit ?_ | refine loopQ_ret ?_ | refine endQ_ret ?_ | refine endQ_norm ?_ | refine endE_ret ?_ | refine endE_norm ?_ | refine endI_ret ?_ | refine endI_norm ?_)
    | (with_reducible refine wp_regK fun K hK => ?_
       simp[g1]
       repeat' (with_reducible first | refine hK _ ?_ | (refine psel ?_ ?_ <;> (intro hc; (try rw [Decidable.not_not] at hc); first | (exfalso; omega) | (try simp [hc, g1]))))
       all_goals (clear hK; clear K))
    | (with_reducible refine wp_condE ?_
       refine ⟨_, rfl, ?_, ?_⟩ <;> (intro hc; (try simp at hc); (all_goals first | (exfalso; omega) | skip))))
  · exact ⟨-1, by simp [pf213], by omega, by omega, fun h => absurd h (by omega)⟩
  · exact ⟨n1, by simp [pf213], by omega, by omega, fun _ => ⟨(s1 (by omega)).1, (s1 (by omega)).2⟩⟩

theorem t210 (k0 : Bool) (x_Gen : Int) (x_Kind : Int) (x_C_Next : Int) (x_C_L : List XSlot) (x_G : List Int) (left : Int) (h0 : 0 ≤ left) (h1 : left ≤ 1048576) (hok_x_C_L : x_C_L.length ≤ 9223372036854775807) (hoks_x_C_L : XSlot.oks x_C_L) (hok_x_G : x_G.length ≤ 9223372036854775807) :
    ∃ n, Gw TT 210 [.st [.ro false (di x_Gen), .ro false (di x_Kind), .ro false (di x_C_Next), .ro k0 (.sl 2 (x_C_L.map XSlot.e)), .ro k0 (.sl 1 (x_G.map eb))], vi left] = some (vi n, []) ∧ -1 ≤ n ∧ n ≤ left ∧ (0 ≤ n → x_C_L.length ≤ 1048576 ∧ XSlot.sms x_C_L ∧ x_G.length ≤ 1048576) := by
  refine Gw_ofI (F := pf210) rfl rfl ?_
  show Wp _ pb210 _ _
  unfold pb210
  obtain ⟨n1, g1, a1, b1, s1⟩ := t213 k0 x_C_Next x_C_L left (by omega) (by omega) hok_x_C_L hoks_x_C_L
  repeat' (first
    | with_reducible (first | refine wp_seq ?_ | refine wp_blk ?_ | refine wp_skip ?_ | refine wp_exit ?_ | refine wp_ret ?_ | refine seqQ_norm ?_ | refine seqQ_ret ?_ | refine seqQ_exit ?_ | refine blkQ_norm ?_ | refine blkQ_ret ?_ | refine blkQ_exit ?_ | refine loopQ_norm ?_ | refine loopQ_exit ?_ | refine loopQ_ret ?_ | refine endQ_ret ?_ | refine endQ_norm ?_ | refine endE_ret ?_ | refine endE_norm ?_ | refine endI_ret ?_ | refine endI_norm ?_)
    | (with_reducible refine wp_regK fun K hK => ?_
       simp[g1]
       repeat' (with_reducible first | refine hK _ ?_ | (refine psel ?_ ?_ <;> (intro hc; (try rw [Decidable.not_not] at hc); first | (exfalso; omega) | (try simp [hc, g1]))))
       all_goals (clear hK; clear K))
    | (with_reducible refine wp_condE ?_
       refine ⟨_, rfl, ?_, ?_⟩ <;> (intro hc; (try simp at hc); (all_goals first | (exfalso; omega) | skip))))
  · exact ⟨-1, by simp [pf210], by omega, by omega, fun h => absurd h (by omega)⟩
  obtain ⟨n2, g2, a2, b2, s2⟩ := t212 k0 x_G n1 (by omega) (by omega) hok_x_G
  repeat' (first
    | with_reducible (first | refine wp_seq ?_ | refine wp_blk ?_ | refine wp_skip ?_ | refine wp_exit ?_ | refine wp_ret ?_ | refine seqQ_norm ?_ | refine seqQ_ret ?_ | refine seqQ_exit ?_ | refine blkQ_norm ?_ | refine blkQ_ret ?_ | refine blkQ_exit ?_ | refine loopQ_norm ?_ | refine loopQ_exit ?_ | refine loopQ_ret ?_ | refine endQ_ret ?_ | refine endQ_norm ?_ | refine endE_ret ?_ | refine endE_norm ?_ | refine endI_ret ?_ | refine endI_norm ?_)
    | (with_reducible refine wp_regK fun K hK => ?_
       simp[g2]
       repeat' (with_reducible first | refine hK _ ?_ | (refine psel ?_ ?_ <;> (intro hc; (try rw [Decidable.not_not] at hc); first | (exfalso; omega) | (try simp [hc, g2]))))
       all_goals (clear hK; clear K))
    | (with_reducible refine wp_condE ?_
       refine ⟨_, rfl, ?_, ?_⟩ <;> (intro hc; (try simp at hc); (all_goals first | (exfalso; omega) | skip))))
  · exact ⟨-1, by simp [pf210], by omega, by omega, fun h => absurd h (by omega)⟩
  · exact ⟨n2, by simp [pf210], by omega, by omega, fun _ => ⟨(s1 (by omega)).1, (s1 (by omega)).2, (s2 (by omega))⟩⟩

theorem t211 (k0 : Bool) (l : List XBuf) (left : Int) (h0 : 0 ≤ left) (h1 : left ≤ 1048576) (hl : l.length ≤ 9223372036854775807) (hok : XBuf.oks l) :
    ∃ n, Gw TT 211 [.one (.ro k0 (.sl 5 (l.map XBuf.e))), vi left] = some (vi n, []) ∧ -1 ≤ n ∧ n ≤ left ∧ (0 ≤ n → l.length ≤ 1048576 ∧ XBuf.sms l) := by
  refine Gw_ofI (F := pf211) rfl rfl ?_
  show Wp _ pb211 _ _
  unfold pb211
  have g : IntKind.wrap .i64 (left - (l.length : Int)) = left - (l.length : Int) := wrap_i64 (by omega) (by omega)
  repeat' (first
    | with_reducible (first | refine wp_seq ?_ | refine wp_blk ?_ | refine wp_skip ?_ | refine wp_exit ?_ | refine wp_ret ?_ | refine seqQ_norm ?_ | refine seqQ_ret ?_ | refine seqQ_exit ?_ | refine blkQ_norm ?_ | refine blkQ_ret ?_ | refine blkQ_exit ?_ | refine loopQ_norm ?_ | refine loopQ_exit ?_ | refine loopQ_ret ?_ | refine endQ_ret ?_ | refine endQ_norm ?_ | refine endE_ret ?_ | refine endE_norm ?_ | refine endI_ret ?_ | refine endI_norm ?_)
    | (with_reducible refine wp_regK fun K hK => ?_
       simp[g]
       repeat' (with_reducible first | refine hK _ ?_ | (refine psel ?_ ?_ <;> (intro hc; (try rw [Decidable.not_not] at hc); first | (exfalso; omega) | (try simp [hc, g]))))
       all_goals (clear hK; clear K))
    | (with_reducible refine wp_condE ?_
       refine ⟨_, rfl, ?_, ?_⟩ <;> (intro hc; (try simp at hc); (all_goals first | (exfalso; omega) | skip))))
  · exact ⟨-1, by simp [pf211], by omega, by omega, fun h => absurd h (by omega)⟩
  · refine wp_loopI (σ := List XBuf × List XBuf × Int) (fun s => [(0, AV.v k0 (D.sl 5 (List.map XBuf.e l)), none), (1, AV.v false (di s.2.2), none), (5, AV.v false (di (s.1.length : Nat)), none)]) (fun s => l = s.1 ++ s.2.1 ∧ 0 ≤ s.2.2 ∧ s.2.2 ≤ left - (l.length : Int) ∧ XBuf.sms s.1) (fun s => s.2.1.length) ([], l, left - (l.length : Int)) (by simp) ⟨rfl, by simp only; omega, by simp only; omega, fun y hy => by simp at hy⟩ ?_
    rintro ⟨pre, rest, lf⟩ ⟨h2, h3, h4, h5⟩
    simp only at h2 h3 h4 h5
    subst h2
    simp only [List.length_append, List.length_cons] at hl h4 g
    rcases rest with _ | ⟨⟨y_Gen, y_Kind, ⟨y_C_Next, y_C_L⟩, y_G⟩, rest⟩
    · unfold pl211_0
      repeat' (first
        | with_reducible (first | refine wp_seq ?_ | refine wp_blk ?_ | refine wp_skip ?_ | refine wp_exit ?_ | refine wp_ret ?_ | refine seqQ_norm ?_ | refine seqQ_ret ?_ | refine seqQ_exit ?_ | refine blkQ_norm ?_ | refine blkQ_ret ?_ | refine blkQ_exit ?_ | refine loopQ_norm ?_ | refine loopQ_exit ?_ | refine loopQ_ret ?_ | refine endQ_ret ?_ | refine endQ_norm ?_ | refine endE_ret ?_ | refine endE_norm ?_ | refine endI_ret ?_ | refine endI_norm ?_)
        | (with_reducible refine wp_regK fun K hK => ?_
           simp
           repeat' (with_reducible first | refine hK _ ?_ | (refine psel ?_ ?_ <;> (intro hc; (try rw [Decidable.not_not] at hc); first | (exfalso; omega) | (try simp [hc]))))
           all_goals (clear hK; clear K))
        | (with_reducible refine wp_condE ?_
           refine ⟨_, rfl, ?_, ?_⟩ <;> (intro hc; (try simp at hc); (all_goals first | (exfalso; omega) | skip))))
      simp only [List.length_nil] at h4
      all_goals exact ⟨lf, by simp [pf211], by omega, by omega, fun _ => ⟨by simp; omega, by simpa using h5⟩⟩
    · unfold pl211_0
      simp only [List.length_cons] at hl h4
      have hw : IntKind.wrap .i64 ((pre.length : Int) + 1) = (pre.length : Int) + 1 := wrap_i64 (by omega) (by omega)
      have hd := hok ⟨y_Gen, y_Kind, ⟨y_C_Next, y_C_L⟩, y_G⟩ (by simp)
      simp only [XBuf.ok, XChunk.ok, and_assoc] at hd
      obtain ⟨hlo_y_Gen, hhi_y_Gen, hlo_y_Kind, hhi_y_Kind, hlo_y_C_Next, hhi_y_C_Next, hok_y_C_L, hoks_y_C_L, hok_y_G, hoki_y_G⟩ := hd
      obtain ⟨n1, g1, a1, b1, s1⟩ := t210 k0 y_Gen y_Kind y_C_Next y_C_L y_G lf (by omega) (by omega) hok_y_C_L hoks_y_C_L hok_y_G
      repeat' (first
        | with_reducible (first | refine wp_seq ?_ | refine wp_blk ?_ | refine wp_skip ?_ | refine wp_exit ?_ | refine wp_ret ?_ | refine seqQ_norm ?_ | refine seqQ_ret ?_ | refine seqQ_exit ?_ | refine blkQ_norm ?_ | refine blkQ_ret ?_ | refine blkQ_exit ?_ | refine loopQ_norm ?_ | refine loopQ_exit ?_ | refine loopQ_ret ?_ | refine endQ_ret ?_ | refine endQ_norm ?_ | refine endE_ret ?_ | refine endE_norm ?_ | refine endI_ret ?_ | refine endI_norm ?_)
        | (with_reducible refine wp_regK fun K hK => ?_
           simp[g1, hw]
           repeat' (with_reducible first | refine hK _ ?_ | (refine psel ?_ ?_ <;> (intro hc; (try rw [Decidable.not_not] at hc); first | (exfalso; omega) | (try simp [hc, g1, hw]))))
           all_goals (clear hK; clear K))
        | (with_reducible refine wp_condE ?_
           refine ⟨_, rfl, ?_, ?_⟩ <;> (intro hc; (try simp at hc); (all_goals first | (exfalso; omega) | skip))))
      · exact ⟨-1, by simp [pf211], by omega, by omega, fun h => absurd h (by omega)⟩
      · exact ⟨(pre ++ [⟨y_Gen, y_Kind, ⟨y_C_Next, y_C_L⟩, y_G⟩], rest, n1), by simp, ⟨by simp, by simp only; omega, by simp only [List.length_append, List.length_cons]; omega, fun y hy => by
          rcases List.mem_append.1 hy with hy | hy
          · exact h5 y hy
          · rw [List.mem_singleton.1 hy]
            simp only [XBuf.sm, XChunk.sm, and_assoc]
            exact s1 (by omega)⟩, by simp⟩

theorem t214 (k0 : Bool) (x_Cols : List Int) (x_Slots : Int) (x_Bufs : Int) (left : Int) (h0 : 0 ≤ left) (h1 : left ≤ 1048576) (hok_x_Cols : x_Cols.length ≤ 9223372036854775807) :
    ∃ n, Gw TT 214 [.st [.ro k0 (.sl 1 (x_Cols.map ei)), .ro false (di x_Slots), .ro false (di x_Bufs)], vi left] = some (vi n, []) ∧ -1 ≤ n ∧ n ≤ left ∧ (0 ≤ n → x_Cols.length ≤ 1048576) := by
  refine Gw_ofI (F := pf214) rfl rfl ?_
  show Wp _ pb214 _ _
  unfold pb214
  obtain ⟨n1, g1, a1, b1, s1⟩ := t219 k0 x_Cols left (by omega) (by omega) hok_x_Cols
  repeat' (first
    | with_reducible (first | refine wp_seq ?_ | refine wp_blk ?_ | refine wp_skip ?_ | refine wp_exit ?_ | refine wp_ret ?_ | refine seqQ_norm ?_ | refine seqQ_ret ?_ | refine seqQ_exit ?_ | refine blkQ_norm ?_ | refine blkQ_ret ?_ | refine blkQ_exit ?_ | refine loopQ_norm ?_ | refine loopQ_exit ?_ | refine loopQ_ret ?_ | refine endQ_ret ?_ | refine endQ_norm ?_ | refine endE_ret ?_ | refine endE_norm ?_ | refine endI_ret ?_ | refine endI_norm ?_)
    | (with_reducible refine wp_regK fun K hK => ?_
       simp[g1]
       repeat' (with_reducible first | refine hK _ ?_ | (refine psel ?_ ?_ <;> (intro hc; (try rw [Decidable.not_not] at hc); first | (exfalso; omega) | (try simp [hc, g1]))))
       all_goals (clear hK; clear K))
    | (with_reducible refine wp_condE ?_
       refine ⟨_, rfl, ?_, ?_⟩ <;> (intro hc; (try simp at hc); (all_goals first | (exfalso; omega) | skip))))
  · exact ⟨-1, by simp [pf214], by omega, by omega, fun h => absurd h (by omega)⟩
  · exact ⟨n1, by simp [pf214], by omega, by omega, fun _ => (s1 (by omega))⟩

def SzPred (x : XPred) : Prop := ∀ (k0 : Bool) (left : Int), 0 ≤ left → left ≤ 1048576 → x.ok → ∃ n, Gw TT 220 [.st [.ro false (di x.Kind), .ro false (di x.Col), .ro false (di x.Op), .ro false (di x.V.Ty), .ro false (di x.V.N), .ro false (.str x.V.S), .ro k0 (.sl 7 (x.L.map XPred.e))], vi left] = some (vi n, []) ∧ -1 ≤ n ∧ n ≤ left ∧ (0 ≤ n → x.sm)
def SzPreds (l : List XPred) : Prop := ∀ (k0 : Bool) (left : Int), 0 ≤ left → left ≤ 1048576 → l.length ≤ 9223372036854775807 → XPred.oks l →
    ∃ n, Gw TT 221 [.one (.ro k0 (.sl 7 (l.map XPred.e))), vi left] = some (vi n, []) ∧ -1 ≤ n ∧ n ≤ left ∧ (0 ≤ n → l.length ≤ 1048576 ∧ XPred.sms l)

theorem SzPreds_of (l : List XPred) (IH : ∀ y ∈ l, SzPred y) : SzPreds l := by
  intro k0 left h0 h1 hl hok
  refine Gw_ofI (F := pf221) rfl rfl ?_
  show Wp _ pb221 _ _
  unfold pb221
  have g : IntKind.wrap .i64 (left - (l.length : Int)) = left - (l.length : Int) := wrap_i64 (by omega) (by omega)
  repeat' (first
    | with_reducible (first | refine wp_seq ?_ | refine wp_blk ?_ | refine wp_skip ?_ | refine wp_exit ?_ | refine wp_ret ?_ | refine seqQ_norm ?_ | refine seqQ_ret ?_ | refine seqQ_exit ?_ | refine blkQ_norm ?_ | refine blkQ_ret ?_ | refine blkQ_exit ?_ | refine loopQ_norm ?_ | refine loopQ_exit ?_ | refine loopQ_ret ?_ | refine endQ_ret ?_ | refine endQ_norm ?_ | refine endE_ret ?_ | refine endE_norm ?_ | refine endI_ret ?_ | refine endI_norm ?_)
    | (with_reducible refine wp_regK fun K hK => ?_
       simp[g]
       repeat' (with_reducible first | refine hK _ ?_ | (refine psel ?_ ?_ <;> (intro hc; (try rw [Decidable.not_not] at hc); first | (exfalso; omega) | (try simp [hc, g]))))
       all_goals (clear hK; clear K))
    | (with_reducible refine wp_condE ?_
       refine ⟨_, rfl, ?_, ?_⟩ <;> (intro hc; (try simp at hc); (all_goals first | (exfalso; omega) | skip))))
  · exact ⟨-1, by simp [pf221], by omega, by omega, fun h => absurd h (by omega)⟩
  · refine wp_loopI (σ := List XPred × List XPred × Int) (fun s => [(0, AV.v k0 (D.sl 7 (List.map XPred.e l)), none), (1, AV.v false (di s.2.2), none), (5, AV.v false (di (s.1.length : Nat)), none)]) (fun s => l = s.1 ++ s.2.1 ∧ 0 ≤ s.2.2 ∧ s.2.2 ≤ left - (l.length : Int) ∧ XPred.sms s.1) (fun s => s.2.1.length) ([], l, left - (l.length : Int)) (by simp) ⟨rfl, by simp only; omega, by simp only; omega, by simp [XPred.sms]⟩ ?_
    rintro ⟨pre, rest, lf⟩ ⟨h2, h3, h4, h5⟩
    simp only at h2 h3 h4 h5
    subst h2
    simp only [List.length_append, List.length_cons] at hl h4 g
    rcases rest with _ | ⟨⟨y_Kind, y_Col, y_Op, ⟨y_V_Ty, y_V_N, y_V_S⟩, y_L⟩, rest⟩
    · unfold pl221_0
      repeat' (first
        | with_reducible (first | refine wp_seq ?_ | refine wp_blk ?_ | refine wp_skip ?_ | refine wp_exit ?_ | refine wp_ret ?_ | refine seqQ_norm ?_ | refine seqQ_ret ?_ | refine seqQ_exit ?_ | refine blkQ_norm ?_ | refine blkQ_ret ?_ | refine blkQ_exit ?_ | refine loopQ_norm ?_ | refine loopQ_exit ?_ | refine loopQ_ret ?_ | refine endQ_ret ?_ | refine endQ_norm ?_ | refine endE_ret ?_ | refine endE_norm ?_ | refine endI_ret ?_ | refine endI_norm ?_)
        | (with_reducible refine wp_regK fun K hK => ?_
           simp
           repeat' (with_reducible first | refine hK _ ?_ | (refine psel ?_ ?_ <;> (intro hc; (try rw [Decidable.not_not] at hc); first | (exfalso; omega) | (try simp [hc]))))
           all_goals (clear hK; clear K))
        | (with_reducible refine wp_condE ?_
           refine ⟨_, rfl, ?_, ?_⟩ <;> (intro hc; (try simp at hc); (all_goals first | (exfalso; omega) | skip))))
      simp only [List.length_nil] at h4
      all_goals exact ⟨lf, by simp [pf221], by omega, by omega, fun _ => ⟨by simp; omega, by simpa using h5⟩⟩
    · unfold pl221_0
      simp only [List.length_cons] at hl h4
      have hw : IntKind.wrap .i64 ((pre.length : Int) + 1) = (pre.length : Int) + 1 := wrap_i64 (by omega) (by omega)
      obtain ⟨n1, g1, a1, b1, s1⟩ := IH ⟨y_Kind, y_Col, y_Op, ⟨y_V_Ty, y_V_N, y_V_S⟩, y_L⟩ (by simp) k0 lf (by omega) (by omega) (XPred.oks_mem hok ⟨y_Kind, y_Col, y_Op, ⟨y_V_Ty, y_V_N, y_V_S⟩, y_L⟩ (by simp))
      simp only at g1
      repeat' (first
        | with_reducible (first | refine wp_seq ?_ | refine wp_blk ?_ | refine wp_skip ?_ | refine wp_exit ?_ | refine wp_ret ?_ | refine seqQ_norm ?_ | refine seqQ_ret ?_ | refine seqQ_exit ?_ | refine blkQ_norm ?_ | refine blkQ_ret ?_ | refine blkQ_exit ?_ | refine loopQ_norm ?_ | refine loopQ_exit ?_ | refine loopQ_ret ?_ | refine endQ_ret ?_ | refine endQ_norm ?_ | refine endE_ret ?_ | refine endE_norm ?_ | refine endI_ret ?_ | refine endI_norm ?_)
        | (with_reducible refine wp_regK fun K hK => ?_
           simp[g1, hw]
           repeat' (with_reducible first | refine hK _ ?_ | (refine psel ?_ ?_ <;> (intro hc; (try rw [Decidable.not_not] at hc); first | (exfalso; omega) | (try simp [hc, g1, hw]))))
           all_goals (clear hK; clear K))
        | (with_reducible refine wp_condE ?_
           refine ⟨_, rfl, ?_, ?_⟩ <;> (intro hc; (try simp at hc); (all_goals first | (exfalso; omega) | skip))))
      · exact ⟨-1, by simp [pf221], by omega, by omega, fun h => absurd h (by omega)⟩
      · exact ⟨(pre ++ [⟨y_Kind, y_Col, y_Op, ⟨y_V_Ty, y_V_N, y_V_S⟩, y_L⟩], rest, n1), by simp, ⟨by simp, by simp only; omega, by simp only [List.length_append, List.length_cons]; omega, by
          rw [XPred.sms_eq]
          intro y hy
          rcases List.mem_append.1 hy with hy | hy
          · exact XPred.sms_mem h5 y hy
          · rw [List.mem_singleton.1 hy]
            exact s1 (by omega)⟩, by simp⟩

theorem SzPred_of (x : XPred) (IH : SzPreds x.L) : SzPred x := by
  intro k0 left h0 h1 hx
  obtain ⟨x_Kind, x_Col, x_Op, ⟨x_V_Ty, x_V_N, x_V_S⟩, x_L⟩ := x
  simp only [XPred.ok_eq, XVal.ok, and_assoc] at hx
  obtain ⟨hlo_x_Kind, hhi_x_Kind, hlo_x_Col, hhi_x_Col, hlo_x_Op, hhi_x_Op, hlo_x_V_Ty, hhi_x_V_Ty, hlo_x_V_N, hhi_x_V_N, hok_x_V_S, hok_x_L, hoks_x_L⟩ := hx
  refine Gw_ofI (F := pf220) rfl rfl ?_
  show Wp _ pb220 _ _
  unfold pb220
  obtain ⟨n1, g1, a1, b1, s1⟩ := t231 x_V_Ty x_V_N x_V_S left (by omega) (by omega) hok_x_V_S
  repeat' (first
    | with_reducible (first | refine wp_seq ?_ | refine wp_blk ?_ | refine wp_skip ?_ | refine wp_exit ?_ | refine wp_ret ?_ | refine seqQ_norm ?_ | refine seqQ_ret ?_ | refine seqQ_exit ?_ | refine blkQ_norm ?_ | refine blkQ_ret ?_ | refine blkQ_exit ?_ | refine loopQ_norm ?_ | refine loopQ_exit ?_ | refine loopQ_ret ?_ | refine endQ_ret ?_ | refine endQ_norm ?_ | refine endE_ret ?_ | refine endE_norm ?_ | refine endI_ret ?_ | refine endI_norm ?_)
    | (with_reducible refine wp_regK fun K hK => ?_
       simp[g1]
       repeat' (with_reducible first | refine hK _ ?_ | (refine psel ?_ ?_ <;> (intro hc; (try rw [Decidable.not_not] at hc); first | (exfalso; omega) | (try simp [hc, g1]))))
       all_goals (clear hK; clear K))
    | (with_reducible refine wp_condE ?_
       refine ⟨_, rfl, ?_, ?_⟩ <;> (intro hc; (try simp at hc); (all_goals first | (exfalso; omega) | skip))))
  · exact ⟨-1, by simp [pf220], by omega, by omega, fun h => absurd h (by omega)⟩
  obtain ⟨n2, g2, a2, b2, s2⟩ := IH k0 n1 (by omega) (by omega) hok_x_L hoks_x_L
  simp only at g2
  repeat' (first
    | with_reducible (first | refine wp_seq ?_ | refine wp_blk ?_ | refine wp_skip ?_ | refine wp_exit ?_ | refine wp_ret ?_ | refine seqQ_norm ?_ | refine seqQ_ret ?_ | refine seqQ_exit ?_ | refine blkQ_norm ?_ | refine blkQ_ret ?_ | refine blkQ_exit ?_ | refine loopQ_norm ?_ | refine loopQ_exit ?_ | refine loopQ_ret ?_ | refine endQ_ret ?_ | refine endQ_norm ?_ | refine endE_ret ?_ | refine endE_norm ?_ | refine endI_ret ?_ | refine endI_norm ?_)
    | (with_reducible refine wp_regK fun K hK => ?_
       simp[g2]
       repeat' (with_reducible first | refine hK _ ?_ | (refine psel ?_ ?_ <;> (intro hc; (try rw [Decidable.not_not] at hc); first | (exfalso; omega) | (try simp [hc, g2]))))
       all_goals (clear hK; clear K))
    | (with_reducible refine wp_condE ?_
       refine ⟨_, rfl, ?_, ?_⟩ <;> (intro hc; (try simp at hc); (all_goals first | (exfalso; omega) | skip))))
  · exact ⟨-1, by simp [pf220], by omega, by omega, fun h => absurd h (by omega)⟩
  · exact ⟨n2, by simp [pf220], by omega, by omega, fun _ => by simp only [XPred.sm_eq, XVal.sm, and_assoc]; exact ⟨(s1 (by omega)), (s2 (by omega)).1, (s2 (by omega)).2⟩⟩

theorem SzPred_all (x : XPred) : SzPred x :=
  SzPred_of x (SzPreds_of x.L fun y hy => SzPred_all y)
termination_by SizeOf.sizeOf x
decreasing_by
  have h1 := List.sizeOf_lt_of_mem hy
  have h2 : SizeOf.sizeOf x.L < SizeOf.sizeOf x := by cases x; simp; omega
  omega

theorem SzPred_raw (x : XPred) (k0 : Bool) (left : Int) (h0 : 0 ≤ left) (h1 : left ≤ 1048576) (hv : x.V.S.size ≤ 9223372036854775807) (hL : x.L.length ≤ 9223372036854775807) (hs : XPred.oks x.L) :
    ∃ n, Gw TT 220 [.st [.ro false (di x.Kind), .ro false (di x.Col), .ro false (di x.Op), .ro false (di x.V.Ty), .ro false (di x.V.N), .ro false (.str x.V.S), .ro k0 (.sl 7 (x.L.map XPred.e))], vi left] = some (vi n, []) ∧ -1 ≤ n ∧ n ≤ left ∧ (0 ≤ n → x.sm) := by
  have IH := SzPreds_of x.L fun y _ => SzPred_all y
  obtain ⟨x_Kind, x_Col, x_Op, ⟨x_V_Ty, x_V_N, x_V_S⟩, x_L⟩ := x
  have hok_x_V_S := hv
  have hok_x_L := hL
  have hoks_x_L := hs
  simp only at hok_x_V_S hok_x_L hoks_x_L
  refine Gw_ofI (F := pf220) rfl rfl ?_
  show Wp _ pb220 _ _
  unfold pb220
  obtain ⟨n1, g1, a1, b1, s1⟩ := t231 x_V_Ty x_V_N x_V_S left (by omega) (by omega) hok_x_V_S
  repeat' (first
    | with_reducible (first | refine wp_seq ?_ | refine wp_blk ?_ | refine wp_skip ?_ | refine wp_exit ?_ | refine wp_ret ?_ | refine seqQ_norm ?_ | refine seqQ_ret ?_ | refine seqQ_exit ?_ | refine blkQ_norm ?_ | refine blkQ_ret ?_ | refine blkQ_exit ?_ | refine loopQ_norm ?_ | refine loopQ_exit ?_ | refine loopQ_ret ?_ | refine endQ_ret ?_ | refine endQ_norm ?_ | refine endE_ret ?_ | refine endE_norm ?_ | refine endI_ret ?_ | refine endI_norm ?_)
    | (with_reducible refine wp_regK fun K hK => ?_
       simp[g1]
       repeat' (with_reducible first | refine hK _ ?_ | (refine psel ?_ ?_ <;> (intro hc; (try rw [Decidable.not_not] at hc); first | (exfalso; omega) | (try simp [hc, g1]))))
       all_goals (clear hK; clear K))
    | (with_reducible refine wp_condE ?_
       refine ⟨_, rfl, ?_, ?_⟩ <;> (intro hc; (try simp at hc); (all_goals first | (exfalso; omega) | skip))))
  · exact ⟨-1, by simp [pf220], by omega, by omega, fun h => absurd h (by omega)⟩
  obtain ⟨n2, g2, a2, b2, s2⟩ := IH k0 n1 (by omega) (by omega) hok_x_L hoks_x_L
  simp only at g2
  repeat' (first
    | with_reducible (first | refine wp_seq ?_ | refine wp_blk ?_ | refine wp_skip ?_ | refine wp_exit ?_ | refine wp_ret ?_ | refine seqQ_norm ?_ | refine seqQ_ret ?_ | refine seqQ_exit ?_ | refine blkQ_norm ?_ | refine blkQ_ret ?_ | refine blkQ_exit ?_ | refine loopQ_norm ?_ | refine loopQ_exit ?_ | refine loopQ_ret ?_ | refine endQ_ret ?_ | refine endQ_norm ?_ | refine endE_ret ?_ | refine endE_norm ?_ | refine endI_ret ?_ | refine endI_norm ?_)
    | (with_reducible refine wp_regK fun K hK => ?_
       simp[g2]
       repeat' (with_reducible first | refine hK _ ?_ | (refine psel ?_ ?_ <;> (intro hc; (try rw [Decidable.not_not] at hc); first | (exfalso; omega) | (try simp [hc, g2]))))
       all_goals (clear hK; clear K))
    | (with_reducible refine wp_condE ?_
       refine ⟨_, rfl, ?_, ?_⟩ <;> (intro hc; (try simp at hc); (all_goals first | (exfalso; omega) | skip))))
  · exact ⟨-1, by simp [pf220], by omega, by omega, fun h => absurd h (by omega)⟩
  · exact ⟨n2, by simp [pf220], by omega, by omega, fun _ => by simp only [XPred.sm_eq, XVal.sm, and_assoc]; exact ⟨(s1 (by omega)), (s2 (by omega)).1, (s2 (by omega)).2⟩⟩

theorem t220 (k0 : Bool) (x_Kind : Int) (x_Col : Int) (x_Op : Int) (x_V_Ty : Int) (x_V_N : Int) (x_V_S : ByteArray) (x_L : List XPred) (left : Int) (h0 : 0 ≤ left) (h1 : left ≤ 1048576) (hok_x_V_S : x_V_S.size ≤ 9223372036854775807) (hok_x_L : x_L.length ≤ 9223372036854775807) (hoks_x_L : XPred.oks x_L) :
    ∃ n, Gw TT 220 [.st [.ro false (di x_Kind), .ro false (di x_Col), .ro false (di x_Op), .ro false (di x_V_Ty), .ro false (di x_V_N), .ro false (.str x_V_S), .ro k0 (.sl 7 (x_L.map XPred.e))], vi left] = some (vi n, []) ∧ -1 ≤ n ∧ n ≤ left ∧ (0 ≤ n → x_V_S.size ≤ 1048576 ∧ x_L.length ≤ 1048576 ∧ XPred.sms x_L) := by
  obtain ⟨n, g, a, b, s⟩ := SzPred_raw ⟨x_Kind, x_Col, x_Op, ⟨x_V_Ty, x_V_N, x_V_S⟩, x_L⟩ k0 left h0 h1 hok_x_V_S hok_x_L hoks_x_L
  exact ⟨n, g, a, b, fun h => by have := s h; simp only [XPred.sm_eq, XVal.sm, and_assoc] at this; exact this⟩

theorem t221 (k0 : Bool) (l : List XPred) (left : Int) (h0 : 0 ≤ left) (h1 : left ≤ 1048576) (hl : l.length ≤ 9223372036854775807) (hok : XPred.oks l) :
    ∃ n, Gw TT 221 [.one (.ro k0 (.sl 7 (l.map XPred.e))), vi left] = some (vi n, []) ∧ -1 ≤ n ∧ n ≤ left ∧ (0 ≤ n → l.length ≤ 1048576 ∧ XPred.sms l) := SzPreds_of l (fun y _ => SzPred_all y) k0 left h0 h1 hl hok

theorem t222 (k0 : Bool) (x_Kind : Int) (x_P_Kind : Int) (x_P_Col : Int) (x_P_Op : Int) (x_P_V_Ty : Int) (x_P_V_N : Int) (x_P_V_S : ByteArray) (x_P_L : List XPred) (x_Col : Int) (x_Out : List Int) (left : Int) (h0 : 0 ≤ left) (h1 : left ≤ 1048576) (hok_x_P_V_S : x_P_V_S.size ≤ 9223372036854775807) (hok_x_P_L : x_P_L.length ≤ 9223372036854775807) (hoks_x_P_L : XPred.oks x_P_L) (hok_x_Out : x_Out.length ≤ 9223372036854775807) :
    ∃ n, Gw TT 222 [.st [.ro false (di x_Kind), .ro false (di x_P_Kind), .ro false (di x_P_Col), .ro false (di x_P_Op), .ro false (di x_P_V_Ty), .ro false (di x_P_V_N), .ro false (.str x_P_V_S), .ro k0 (.sl 7 (x_P_L.map XPred.e)), .ro false (di x_Col), .ro k0 (.sl 1 (x_Out.map ei))], vi left] = some (vi n, []) ∧ -1 ≤ n ∧ n ≤ left ∧ (0 ≤ n → x_P_V_S.size ≤ 1048576 ∧ x_P_L.length ≤ 1048576 ∧ XPred.sms x_P_L ∧ x_Out.length ≤ 1048576) := by
  refine Gw_ofI (F := pf222) rfl rfl ?_
  show Wp _ pb222 _ _
  unfold pb222
  obtain ⟨n1, g1, a1, b1, s1⟩ := t220 k0 x_P_Kind x_P_Col x_P_Op x_P_V_Ty x_P_V_N x_P_V_S x_P_L left (by omega) (by omega) hok_x_P_V_S hok_x_P_L hoks_x_P_L
  repeat' (first
    | with_reducible (first | refine wp_seq ?_ | refine wp_blk ?_ | refine wp_skip ?_ | refine wp_exit ?_ | refine wp_ret ?_ | refine seqQ_norm ?_ | refine seqQ_ret ?_ | refine seqQ_exit ?_ | refine blkQ_norm ?_ | refine blkQ_ret ?_ | refine blkQ_exit ?_ | refine loopQ_norm ?_ | refine loopQ_exit ?_ | refine loopQ_ret ?_ | refine endQ_ret ?_ | refine endQ_norm ?_ | refine endE_ret ?_ | refine endE_norm ?_ | refine endI_ret ?_ | refine endI_norm ?_)
    | (with_reducible refine wp_regK fun K hK => ?_
       simp[g1]
       repeat' (with_reducible first | refine hK _ ?_ | (refine psel ?_ ?_ <;> (intro hc; (try rw [Decidable.not_not] at hc); first | (exfalso; omega) | (try simp [hc, g1]))))
       all_goals (clear hK; clear K))
    | (with_reducible refine wp_condE ?_
       refine ⟨_, rfl, ?_, ?_⟩ <;> (intro hc; (try simp at hc); (all_goals first | (exfalso; omega) | skip))))
  · exact ⟨-1, by simp [pf222], by omega, by omega, fun h => absurd h (by omega)⟩
  obtain ⟨n2, g2, a2, b2, s2⟩ := t219 k0 x_Out n1 (by omega) (by omega) hok_x_Out
  repeat' (first
    | with_reducible (first | refine wp_seq ?_ | refine wp_blk ?_ | refine wp_skip ?_ | refine wp_exit ?_ | refine wp_ret ?_ | refine seqQ_norm ?_ | refine seqQ_ret ?_ | refine seqQ_exit ?_ | refine blkQ_norm ?_ | refine blkQ_ret ?_ | refine blkQ_exit ?_ | refine loopQ_norm ?_ | refine loopQ_exit ?_ | refine loopQ_ret ?_ | refine endQ_ret ?_ | refine endQ_norm ?_ | refine endE_ret ?_ | refine endE_norm ?_ | refine endI_ret ?_ | refine endI_norm ?_)
    | (with_reducible refine wp_regK fun K hK => ?_
       simp[g2]
       repeat' (with_reducible first | refine hK _ ?_ | (refine psel ?_ ?_ <;> (intro hc; (try rw [Decidable.not_not] at hc); first | (exfalso; omega) | (try simp [hc, g2]))))
       all_goals (clear hK; clear K))
    | (with_reducible refine wp_condE ?_
       refine ⟨_, rfl, ?_, ?_⟩ <;> (intro hc; (try simp at hc); (all_goals first | (exfalso; omega) | skip))))
  · exact ⟨-1, by simp [pf222], by omega, by omega, fun h => absurd h (by omega)⟩
  · exact ⟨n2, by simp [pf222], by omega, by omega, fun _ => ⟨(s1 (by omega)).1, (s1 (by omega)).2.1, (s1 (by omega)).2.2, (s2 (by omega))⟩⟩

theorem t224 (k0 : Bool) (x_Rows : List XRow) (x_N : Int) (x_Has : Bool) (x_V_Ty : Int) (x_V_N : Int) (x_V_S : ByteArray) (left : Int) (h0 : 0 ≤ left) (h1 : left ≤ 1048576) (hok_x_Rows : x_Rows.length ≤ 9223372036854775807) (hoks_x_Rows : XRow.oks x_Rows) (hok_x_V_S : x_V_S.size ≤ 9223372036854775807) :
    ∃ n, Gw TT 224 [.st [.ro k0 (.sl 2 (x_Rows.map XRow.e)), .ro false (di x_N), .ro false (.bool x_Has), .ro false (di x_V_Ty), .ro false (di x_V_N), .ro false (.str x_V_S)], vi left] = some (vi n, []) ∧ -1 ≤ n ∧ n ≤ left ∧ (0 ≤ n → x_Rows.length ≤ 1048576 ∧ XRow.sms x_Rows ∧ x_V_S.size ≤ 1048576) := by
  refine Gw_ofI (F := pf224) rfl rfl ?_
  show Wp _ pb224 _ _
  unfold pb224
  obtain ⟨n1, g1, a1, b1, s1⟩ := t226 k0 x_Rows left (by omega) (by omega) hok_x_Rows hoks_x_Rows
  repeat' (first
    | with_reducible (first | refine wp_seq ?_ | refine wp_blk ?_ | refine wp_skip ?_ | refine wp_exit ?_ | refine wp_ret ?_ | refine seqQ_norm ?_ | refine seqQ_ret ?_ | refine seqQ_exit ?_ | refine blkQ_norm ?_ | refine blkQ_ret ?_ | refine blkQ_exit ?_ | refine loopQ_norm ?_ | refine loopQ_exit ?_ | refine loopQ_ret ?_ | refine endQ_ret ?_ | refine endQ_norm ?_ | refine endE_ret ?_ | refine endE_norm ?_ | refine endI_ret ?_ | refine endI_norm ?_)
    | (with_reducible refine wp_regK fun K hK => ?_
       simp[g1]
       repeat' (with_reducible first | refine hK _ ?_ | (refine psel ?_ ?_ <;> (intro hc; (try rw [Decidable.not_not] at hc); first | (exfalso; omega) | (try simp [hc, g1]))))
       all_goals (clear hK; clear K))
    | (with_reducible refine wp_condE ?_
       refine ⟨_, rfl, ?_, ?_⟩ <;> (intro hc; (try simp at hc); (all_goals first | (exfalso; omega) | skip))))
  · exact ⟨-1, by simp [pf224], by omega, by omega, fun h => absurd h (by omega)⟩
  obtain ⟨n2, g2, a2, b2, s2⟩ := t231 x_V_Ty x_V_N x_V_S n1 (by omega) (by omega) hok_x_V_S
  repeat' (first
    | with_reducible (first | refine wp_seq ?_ | refine wp_blk ?_ | refine wp_skip ?_ | refine wp_exit ?_ | refine wp_ret ?_ | refine seqQ_norm ?_ | refine seqQ_ret ?_ | refine seqQ_exit ?_ | refine blkQ_norm ?_ | refine blkQ_ret ?_ | refine blkQ_exit ?_ | refine loopQ_norm ?_ | refine loopQ_exit ?_ | refine loopQ_ret ?_ | refine endQ_ret ?_ | refine endQ_norm ?_ | refine endE_ret ?_ | refine endE_norm ?_ | refine endI_ret ?_ | refine endI_norm ?_)
    | (with_reducible refine wp_regK fun K hK => ?_
       simp[g2]
       repeat' (with_reducible first | refine hK _ ?_ | (refine psel ?_ ?_ <;> (intro hc; (try rw [Decidable.not_not] at hc); first | (exfalso; omega) | (try simp [hc, g2]))))
       all_goals (clear hK; clear K))
    | (with_reducible refine wp_condE ?_
       refine ⟨_, rfl, ?_, ?_⟩ <;> (intro hc; (try simp at hc); (all_goals first | (exfalso; omega) | skip))))
  · exact ⟨-1, by simp [pf224], by omega, by omega, fun h => absurd h (by omega)⟩
  · exact ⟨n2, by simp [pf224], by omega, by omega, fun _ => ⟨(s1 (by omega)).1, (s1 (by omega)).2, (s2 (by omega))⟩⟩

theorem t229 (k0 : Bool) (x_Op : Int) (x_Pc : Int) (x_H : Int) (x_R : List XVal) (x_Id : Int) (x_Q_Kind : Int) (x_Q_P_Kind : Int) (x_Q_P_Col : Int) (x_Q_P_Op : Int) (x_Q_P_V_Ty : Int) (x_Q_P_V_N : Int) (x_Q_P_V_S : ByteArray) (x_Q_P_L : List XPred) (x_Q_Col : Int) (x_Q_Out : List Int) (x_Ts : Int) (x_Ver : Int) (x_L : List XRef) (x_I : Int) (x_J : Int) (x_S : Int) (x_At : Int) (x_Own : Int) (x_Won : Bool) (x_Got : List XRow) (left : Int) (h0 : 0 ≤ left) (h1 : left ≤ 1048576) (hok_x_R : x_R.length ≤ 9223372036854775807) (hoks_x_R : XVal.oks x_R) (hok_x_Q_P_V_S : x_Q_P_V_S.size ≤ 9223372036854775807) (hok_x_Q_P_L : x_Q_P_L.length ≤ 9223372036854775807) (hoks_x_Q_P_L : XPred.oks x_Q_P_L) (hok_x_Q_Out : x_Q_Out.length ≤ 9223372036854775807) (hok_x_L : x_L.length ≤ 9223372036854775807) (hok_x_Got : x_Got.length ≤ 9223372036854775807) (hoks_x_Got : XRow.oks x_Got) :
    ∃ n, Gw TT 229 [.st [.ro false (di x_Op), .ro false (di x_Pc), .ro false (di x_H), .ro k0 (.sl 3 (x_R.map XVal.e)), .ro false (di x_Id), .ro false (di x_Q_Kind), .ro false (di x_Q_P_Kind), .ro false (di x_Q_P_Col), .ro false (di x_Q_P_Op), .ro false (di x_Q_P_V_Ty), .ro false (di x_Q_P_V_N), .ro false (.str x_Q_P_V_S), .ro k0 (.sl 7 (x_Q_P_L.map XPred.e)), .ro false (di x_Q_Col), .ro k0 (.sl 1 (x_Q_Out.map ei)), .ro false (di x_Ts), .ro false (di x_Ver), .ro k0 (.sl 5 (x_L.map XRef.e)), .ro false (di x_I), .ro false (di x_J), .ro false (di x_S), .ro false (di x_At), .ro false (di x_Own), .ro false (.bool x_Won), .ro k0 (.sl 2 (x_Got.map XRow.e))], vi left] = some (vi n, []) ∧ -1 ≤ n ∧ n ≤ left ∧ (0 ≤ n → x_R.length ≤ 1048576 ∧ XVal.sms x_R ∧ x_Q_P_V_S.size ≤ 1048576 ∧ x_Q_P_L.length ≤ 1048576 ∧ XPred.sms x_Q_P_L ∧ x_Q_Out.length ≤ 1048576 ∧ x_L.length ≤ 1048576 ∧ x_Got.length ≤ 1048576 ∧ XRow.sms x_Got) := by
  refine Gw_ofI (F := pf229) rfl rfl ?_
  show Wp _ pb229 _ _
  unfold pb229
  obtain ⟨n1, g1, a1, b1, s1⟩ := t232 k0 x_R left (by omega) (by omega) hok_x_R hoks_x_R
  repeat' (first
    | with_reducible (first | refine wp_seq ?_ | refine wp_blk ?_ | refine wp_skip ?_ | refine wp_exit ?_ | refine wp_ret ?_ | refine seqQ_norm ?_ | refine seqQ_ret ?_ | refine seqQ_exit ?_ | refine blkQ_norm ?_ | refine blkQ_ret ?_ | refine blkQ_exit ?_ | refine loopQ_norm ?_ | refine loopQ_exit ?_ | refine loopQ_ret ?_ | refine endQ_ret ?_ | refine endQ_norm ?_ | refine endE_ret ?_ | refine endE_norm ?_ | refine endI_ret ?_ | refine endI_norm ?_)
    | (with_reducible refine wp_regK fun K hK => ?_
       simp[g1]
       repeat' (with_reducible first | refine hK _ ?_ | (refine psel ?_ ?_ <;> (intro hc; (try rw [Decidable.not_not] at hc); first | (exfalso; omega) | (try simp [hc, g1]))))
       all_goals (clear hK; clear K))
    | (with_reducible refine wp_condE ?_
       refine ⟨_, rfl, ?_, ?_⟩ <;> (intro hc; (try simp at hc); (all_goals first | (exfalso; omega) | skip))))
  · exact ⟨-1, by simp [pf229], by omega, by omega, fun h => absurd h (by omega)⟩
  obtain ⟨n2, g2, a2, b2, s2⟩ := t222 k0 x_Q_Kind x_Q_P_Kind x_Q_P_Col x_Q_P_Op x_Q_P_V_Ty x_Q_P_V_N x_Q_P_V_S x_Q_P_L x_Q_Col x_Q_Out n1 (by omega) (by omega) hok_x_Q_P_V_S hok_x_Q_P_L hoks_x_Q_P_L hok_x_Q_Out
  repeat' (first
    | with_reducible (first | refine wp_seq ?_ | refine wp_blk ?_ | refine wp_skip ?_ | refine wp_exit ?_ | refine wp_ret ?_ | refine seqQ_norm ?_ | refine seqQ_ret ?_ | refine seqQ_exit ?_ | refine blkQ_norm ?_ | refine blkQ_ret ?_ | refine blkQ_exit ?_ | refine loopQ_norm ?_ | refine loopQ_exit ?_ | refine loopQ_ret ?_ | refine endQ_ret ?_ | refine endQ_norm ?_ | refine endE_ret ?_ | refine endE_norm ?_ | refine endI_ret ?_ | refine endI_norm ?_)
    | (with_reducible refine wp_regK fun K hK => ?_
       simp[g2]
       repeat' (with_reducible first | refine hK _ ?_ | (refine psel ?_ ?_ <;> (intro hc; (try rw [Decidable.not_not] at hc); first | (exfalso; omega) | (try simp [hc, g2]))))
       all_goals (clear hK; clear K))
    | (with_reducible refine wp_condE ?_
       refine ⟨_, rfl, ?_, ?_⟩ <;> (intro hc; (try simp at hc); (all_goals first | (exfalso; omega) | skip))))
  · exact ⟨-1, by simp [pf229], by omega, by omega, fun h => absurd h (by omega)⟩
  obtain ⟨n3, g3, a3, b3, s3⟩ := t223 k0 x_L n2 (by omega) (by omega) hok_x_L
  repeat' (first
    | with_reducible (first | refine wp_seq ?_ | refine wp_blk ?_ | refine wp_skip ?_ | refine wp_exit ?_ | refine wp_ret ?_ | refine seqQ_norm ?_ | refine seqQ_ret ?_ | refine seqQ_exit ?_ | refine blkQ_norm ?_ | refine blkQ_ret ?_ | refine blkQ_exit ?_ | refine loopQ_norm ?_ | refine loopQ_exit ?_ | refine loopQ_ret ?_ | refine endQ_ret ?_ | refine endQ_norm ?_ | refine endE_ret ?_ | refine endE_norm ?_ | refine endI_ret ?_ | refine endI_norm ?_)
    | (with_reducible refine wp_regK fun K hK => ?_
       simp[g3]
       repeat' (with_reducible first | refine hK _ ?_ | (refine psel ?_ ?_ <;> (intro hc; (try rw [Decidable.not_not] at hc); first | (exfalso; omega) | (try simp [hc, g3]))))
       all_goals (clear hK; clear K))
    | (with_reducible refine wp_condE ?_
       refine ⟨_, rfl, ?_, ?_⟩ <;> (intro hc; (try simp at hc); (all_goals first | (exfalso; omega) | skip))))
  · exact ⟨-1, by simp [pf229], by omega, by omega, fun h => absurd h (by omega)⟩
  obtain ⟨n4, g4, a4, b4, s4⟩ := t226 k0 x_Got n3 (by omega) (by omega) hok_x_Got hoks_x_Got
  repeat' (first
    | with_reducible (first | refine wp_seq ?_ | refine wp_blk ?_ | refine wp_skip ?_ | refine wp_exit ?_ | refine wp_ret ?_ | refine seqQ_norm ?_ | refine seqQ_ret ?_ | refine seqQ_exit ?_ | refine blkQ_norm ?_ | refine blkQ_ret ?_ | refine blkQ_exit ?_ | refine loopQ_norm ?_ | refine loopQ_exit ?_ | refine loopQ_ret ?_ | refine endQ_ret ?_ | refine endQ_norm ?_ | refine endE_ret ?_ | refine endE_norm ?_ | refine endI_ret ?_ | refine endI_norm ?_)
    | (with_reducible refine wp_regK fun K hK => ?_
       simp[g4]
       repeat' (with_reducible first | refine hK _ ?_ | (refine psel ?_ ?_ <;> (intro hc; (try rw [Decidable.not_not] at hc); first | (exfalso; omega) | (try simp [hc, g4]))))
       all_goals (clear hK; clear K))
    | (with_reducible refine wp_condE ?_
       refine ⟨_, rfl, ?_, ?_⟩ <;> (intro hc; (try simp at hc); (all_goals first | (exfalso; omega) | skip))))
  · exact ⟨-1, by simp [pf229], by omega, by omega, fun h => absurd h (by omega)⟩
  · exact ⟨n4, by simp [pf229], by omega, by omega, fun _ => ⟨(s1 (by omega)).1, (s1 (by omega)).2, (s2 (by omega)).1, (s2 (by omega)).2.1, (s2 (by omega)).2.2.1, (s2 (by omega)).2.2.2, (s3 (by omega)), (s4 (by omega)).1, (s4 (by omega)).2⟩⟩

theorem t230 (k0 : Bool) (l : List XTask) (left : Int) (h0 : 0 ≤ left) (h1 : left ≤ 1048576) (hl : l.length ≤ 9223372036854775807) (hok : XTask.oks l) :
    ∃ n, Gw TT 230 [.one (.ro k0 (.sl 25 (l.map XTask.e))), vi left] = some (vi n, []) ∧ -1 ≤ n ∧ n ≤ left ∧ (0 ≤ n → l.length ≤ 1048576 ∧ XTask.sms l) := by
  refine Gw_ofI (F := pf230) rfl rfl ?_
  show Wp _ pb230 _ _
  unfold pb230
  have g : IntKind.wrap .i64 (left - (l.length : Int)) = left - (l.length : Int) := wrap_i64 (by omega) (by omega)
  repeat' (first
    | with_reducible (first | refine wp_seq ?_ | refine wp_blk ?_ | refine wp_skip ?_ | refine wp_exit ?_ | refine wp_ret ?_ | refine seqQ_norm ?_ | refine seqQ_ret ?_ | refine seqQ_exit ?_ | refine blkQ_norm ?_ | refine blkQ_ret ?_ | refine blkQ_exit ?_ | refine loopQ_norm ?_ | refine loopQ_exit ?_ | refine loopQ_ret ?_ | refine endQ_ret ?_ | refine endQ_norm ?_ | refine endE_ret ?_ | refine endE_norm ?_ | refine endI_ret ?_ | refine endI_norm ?_)
    | (with_reducible refine wp_regK fun K hK => ?_
       simp[g]
       repeat' (with_reducible first | refine hK _ ?_ | (refine psel ?_ ?_ <;> (intro hc; (try rw [Decidable.not_not] at hc); first | (exfalso; omega) | (try simp [hc, g]))))
       all_goals (clear hK; clear K))
    | (with_reducible refine wp_condE ?_
       refine ⟨_, rfl, ?_, ?_⟩ <;> (intro hc; (try simp at hc); (all_goals first | (exfalso; omega) | skip))))
  · exact ⟨-1, by simp [pf230], by omega, by omega, fun h => absurd h (by omega)⟩
  · refine wp_loopI (σ := List XTask × List XTask × Int) (fun s => [(0, AV.v k0 (D.sl 25 (List.map XTask.e l)), none), (1, AV.v false (di s.2.2), none), (5, AV.v false (di (s.1.length : Nat)), none)]) (fun s => l = s.1 ++ s.2.1 ∧ 0 ≤ s.2.2 ∧ s.2.2 ≤ left - (l.length : Int) ∧ XTask.sms s.1) (fun s => s.2.1.length) ([], l, left - (l.length : Int)) (by simp) ⟨rfl, by simp only; omega, by simp only; omega, fun y hy => by simp at hy⟩ ?_
    rintro ⟨pre, rest, lf⟩ ⟨h2, h3, h4, h5⟩
    simp only at h2 h3 h4 h5
    subst h2
    simp only [List.length_append, List.length_cons] at hl h4 g
    rcases rest with _ | ⟨⟨y_Op, y_Pc, y_H, y_R, y_Id, ⟨y_Q_Kind, ⟨y_Q_P_Kind, y_Q_P_Col, y_Q_P_Op, ⟨y_Q_P_V_Ty, y_Q_P_V_N, y_Q_P_V_S⟩, y_Q_P_L⟩, y_Q_Col, y_Q_Out⟩, y_Ts, y_Ver, y_L, y_I, y_J, y_S, y_At, y_Own, y_Won, y_Got⟩, rest⟩
    · unfold pl230_0
      repeat' (first
        | with_reducible (first | refine wp_seq ?_ | refine wp_blk ?_ | refine wp_skip ?_ | refine wp_exit ?_ | refine wp_ret ?_ | refine seqQ_norm ?_ | refine seqQ_ret ?_ | refine seqQ_exit ?_ | refine blkQ_norm ?_ | refine blkQ_ret ?_ | refine blkQ_exit ?_ | refine loopQ_norm ?_ | refine loopQ_exit ?_ | refine loopQ_ret ?_ | refine endQ_ret ?_ | refine endQ_norm ?_ | refine endE_ret ?_ | refine endE_norm ?_ | refine endI_ret ?_ | refine endI_norm ?_)
        | (with_reducible refine wp_regK fun K hK => ?_
           simp
           repeat' (with_reducible first | refine hK _ ?_ | (refine psel ?_ ?_ <;> (intro hc; (try rw [Decidable.not_not] at hc); first | (exfalso; omega) | (try simp [hc]))))
           all_goals (clear hK; clear K))
        | (with_reducible refine wp_condE ?_
           refine ⟨_, rfl, ?_, ?_⟩ <;> (intro hc; (try simp at hc); (all_goals first | (exfalso; omega) | skip))))
      simp only [List.length_nil] at h4
      all_goals exact ⟨lf, by simp [pf230], by omega, by omega, fun _ => ⟨by simp; omega, by simpa using h5⟩⟩
    · unfold pl230_0
      simp only [List.length_cons] at hl h4
      have hw : IntKind.wrap .i64 ((pre.length : Int) + 1) = (pre.length : Int) + 1 := wrap_i64 (by omega) (by omega)
      have hd := hok ⟨y_Op, y_Pc, y_H, y_R, y_Id, ⟨y_Q_Kind, ⟨y_Q_P_Kind, y_Q_P_Col, y_Q_P_Op, ⟨y_Q_P_V_Ty, y_Q_P_V_N, y_Q_P_V_S⟩, y_Q_P_L⟩, y_Q_Col, y_Q_Out⟩, y_Ts, y_Ver, y_L, y_I, y_J, y_S, y_At, y_Own, y_Won, y_Got⟩ (by simp)
      simp only [XTask.ok, XQuery.ok, XPred.ok_eq, XVal.ok, and_assoc] at hd
      obtain ⟨hlo_y_Op, hhi_y_Op, hlo_y_Pc, hhi_y_Pc, hlo_y_H, hhi_y_H, hok_y_R, hoks_y_R, hlo_y_Id, hhi_y_Id, hlo_y_Q_Kind, hhi_y_Q_Kind, hlo_y_Q_P_Kind, hhi_y_Q_P_Kind, hlo_y_Q_P_Col, hhi_y_Q_P_Col, hlo_y_Q_P_Op, hhi_y_Q_P_Op, hlo_y_Q_P_V_Ty, hhi_y_Q_P_V_Ty, hlo_y_Q_P_V_N, hhi_y_Q_P_V_N, hok_y_Q_P_V_S, hok_y_Q_P_L, hoks_y_Q_P_L, hlo_y_Q_Col, hhi_y_Q_Col, hok_y_Q_Out, hoki_y_Q_Out, hlo_y_Ts, hhi_y_Ts, hlo_y_Ver, hhi_y_Ver, hok_y_L, hoks_y_L, hlo_y_I, hhi_y_I, hlo_y_J, hhi_y_J, hlo_y_S, hhi_y_S, hlo_y_At, hhi_y_At, hlo_y_Own, hhi_y_Own, hok_y_Got, hoks_y_Got⟩ := hd
      obtain ⟨n1, g1, a1, b1, s1⟩ := t229 k0 y_Op y_Pc y_H y_R y_Id y_Q_Kind y_Q_P_Kind y_Q_P_Col y_Q_P_Op y_Q_P_V_Ty y_Q_P_V_N y_Q_P_V_S y_Q_P_L y_Q_Col y_Q_Out y_Ts y_Ver y_L y_I y_J y_S y_At y_Own y_Won y_Got lf (by omega) (by omega) hok_y_R hoks_y_R hok_y_Q_P_V_S hok_y_Q_P_L hoks_y_Q_P_L hok_y_Q_Out hok_y_L hok_y_Got hoks_y_Got
      repeat' (first
        | with_reducible (first | refine wp_seq ?_ | refine wp_blk ?_ | refine wp_skip ?_ | refine wp_exit ?_ | refine wp_ret ?_ | refine seqQ_norm ?_ | refine seqQ_ret ?_ | refine seqQ_exit ?_ | refine blkQ_norm ?_ | refine blkQ_ret ?_ | refine blkQ_exit ?_ | refine loopQ_norm ?_ | refine loopQ_exit ?_ | refine loopQ_ret ?_ | refine endQ_ret ?_ | refine endQ_norm ?_ | refine endE_ret ?_ | refine endE_norm ?_ | refine endI_ret ?_ | refine endI_norm ?_)
        | (with_reducible refine wp_regK fun K hK => ?_
           simp[g1, hw]
           repeat' (with_reducible first | refine hK _ ?_ | (refine psel ?_ ?_ <;> (intro hc; (try rw [Decidable.not_not] at hc); first | (exfalso; omega) | (try simp [hc, g1, hw]))))
           all_goals (clear hK; clear K))
        | (with_reducible refine wp_condE ?_
           refine ⟨_, rfl, ?_, ?_⟩ <;> (intro hc; (try simp at hc); (all_goals first | (exfalso; omega) | skip))))
      · exact ⟨-1, by simp [pf230], by omega, by omega, fun h => absurd h (by omega)⟩
      · exact ⟨(pre ++ [⟨y_Op, y_Pc, y_H, y_R, y_Id, ⟨y_Q_Kind, ⟨y_Q_P_Kind, y_Q_P_Col, y_Q_P_Op, ⟨y_Q_P_V_Ty, y_Q_P_V_N, y_Q_P_V_S⟩, y_Q_P_L⟩, y_Q_Col, y_Q_Out⟩, y_Ts, y_Ver, y_L, y_I, y_J, y_S, y_At, y_Own, y_Won, y_Got⟩], rest, n1), by simp, ⟨by simp, by simp only; omega, by simp only [List.length_append, List.length_cons]; omega, fun y hy => by
          rcases List.mem_append.1 hy with hy | hy
          · exact h5 y hy
          · rw [List.mem_singleton.1 hy]
            simp only [XTask.sm, XQuery.sm, XPred.sm_eq, XVal.sm, and_assoc]
            exact s1 (by omega)⟩, by simp⟩

theorem t216 (k0 : Bool) (x_Op : Int) (x_Task : Int) (x_R : List XVal) (x_Id : Int) (x_Q_Kind : Int) (x_Q_P_Kind : Int) (x_Q_P_Col : Int) (x_Q_P_Op : Int) (x_Q_P_V_Ty : Int) (x_Q_P_V_N : Int) (x_Q_P_V_S : ByteArray) (x_Q_P_L : List XPred) (x_Q_Col : Int) (x_Q_Out : List Int) (x_Res_Rows : List XRow) (x_Res_N : Int) (x_Res_Has : Bool) (x_Res_V_Ty : Int) (x_Res_V_N : Int) (x_Res_V_S : ByteArray) (x_Code : Int) (x_Stamp : Int) (x_Inv : Int) (x_Lin : Int) (x_Ret : Int) (left : Int) (h0 : 0 ≤ left) (h1 : left ≤ 1048576) (hok_x_R : x_R.length ≤ 9223372036854775807) (hoks_x_R : XVal.oks x_R) (hok_x_Q_P_V_S : x_Q_P_V_S.size ≤ 9223372036854775807) (hok_x_Q_P_L : x_Q_P_L.length ≤ 9223372036854775807) (hoks_x_Q_P_L : XPred.oks x_Q_P_L) (hok_x_Q_Out : x_Q_Out.length ≤ 9223372036854775807) (hok_x_Res_Rows : x_Res_Rows.length ≤ 9223372036854775807) (hoks_x_Res_Rows : XRow.oks x_Res_Rows) (hok_x_Res_V_S : x_Res_V_S.size ≤ 9223372036854775807) :
    ∃ n, Gw TT 216 [.st [.ro false (di x_Op), .ro false (di x_Task), .ro k0 (.sl 3 (x_R.map XVal.e)), .ro false (di x_Id), .ro false (di x_Q_Kind), .ro false (di x_Q_P_Kind), .ro false (di x_Q_P_Col), .ro false (di x_Q_P_Op), .ro false (di x_Q_P_V_Ty), .ro false (di x_Q_P_V_N), .ro false (.str x_Q_P_V_S), .ro k0 (.sl 7 (x_Q_P_L.map XPred.e)), .ro false (di x_Q_Col), .ro k0 (.sl 1 (x_Q_Out.map ei)), .ro k0 (.sl 2 (x_Res_Rows.map XRow.e)), .ro false (di x_Res_N), .ro false (.bool x_Res_Has), .ro false (di x_Res_V_Ty), .ro false (di x_Res_V_N), .ro false (.str x_Res_V_S), .ro false (di x_Code), .ro false (di x_Stamp), .ro false (di x_Inv), .ro false (di x_Lin), .ro false (di x_Ret)], vi left] = some (vi n, []) ∧ -1 ≤ n ∧ n ≤ left ∧ (0 ≤ n → x_R.length ≤ 1048576 ∧ XVal.sms x_R ∧ x_Q_P_V_S.size ≤ 1048576 ∧ x_Q_P_L.length ≤ 1048576 ∧ XPred.sms x_Q_P_L ∧ x_Q_Out.length ≤ 1048576 ∧ x_Res_Rows.length ≤ 1048576 ∧ XRow.sms x_Res_Rows ∧ x_Res_V_S.size ≤ 1048576) := by
  refine Gw_ofI (F := pf216) rfl rfl ?_
  show Wp _ pb216 _ _
  unfold pb216
  obtain ⟨n1, g1, a1, b1, s1⟩ := t232 k0 x_R left (by omega) (by omega) hok_x_R hoks_x_R
  repeat' (first
    | with_reducible (first | refine wp_seq ?_ | refine wp_blk ?_ | refine wp_skip ?_ | refine wp_exit ?_ | refine wp_ret ?_ | refine seqQ_norm ?_ | refine seqQ_ret ?_ | refine seqQ_exit ?_ | refine blkQ_norm ?_ | refine blkQ_ret ?_ | refine blkQ_exit ?_ | refine loopQ_norm ?_ | refine loopQ_exit ?_ | refine loopQ_ret ?_ | refine endQ_ret ?_ | refine endQ_norm ?_ | refine endE_ret ?_ | refine endE_norm ?_ | refine endI_ret ?_ | refine endI_norm ?_)
    | (with_reducible refine wp_regK fun K hK => ?_
       simp[g1]
       repeat' (with_reducible first | refine hK _ ?_ | (refine psel ?_ ?_ <;> (intro hc; (try rw [Decidable.not_not] at hc); first | (exfalso; omega) | (try simp [hc, g1]))))
       all_goals (clear hK; clear K))
    | (with_reducible refine wp_condE ?_
       refine ⟨_, rfl, ?_, ?_⟩ <;> (intro hc; (try simp at hc); (all_goals first | (exfalso; omega) | skip))))
  · exact ⟨-1, by simp [pf216], by omega, by omega, fun h => absurd h (by omega)⟩
  obtain ⟨n2, g2, a2, b2, s2⟩ := t222 k0 x_Q_Kind x_Q_P_Kind x_Q_P_Col x_Q_P_Op x_Q_P_V_Ty x_Q_P_V_N x_Q_P_V_S x_Q_P_L x_Q_Col x_Q_Out n1 (by omega) (by omega) hok_x_Q_P_V_S hok_x_Q_P_L hoks_x_Q_P_L hok_x_Q_Out
  repeat' (first
    | with_reducible (first | refine wp_seq ?_ | refine wp_blk ?_ | refine wp_skip ?_ | refine wp_exit ?_ | refine wp_ret ?_ | refine seqQ_norm ?_ | refine seqQ_ret ?_ | refine seqQ_exit ?_ | refine blkQ_norm ?_ | refine blkQ_ret ?_ | refine blkQ_exit ?_ | refine loopQ_norm ?_ | refine loopQ_exit ?_ | refine loopQ_ret ?_ | refine endQ_ret ?_ | refine endQ_norm ?_ | refine endE_ret ?_ | refine endE_norm ?_ | refine endI_ret ?_ | refine endI_norm ?_)
    | (with_reducible refine wp_regK fun K hK => ?_
       simp[g2]
       repeat' (with_reducible first | refine hK _ ?_ | (refine psel ?_ ?_ <;> (intro hc; (try rw [Decidable.not_not] at hc); first | (exfalso; omega) | (try simp [hc, g2]))))
       all_goals (clear hK; clear K))
    | (with_reducible refine wp_condE ?_
       refine ⟨_, rfl, ?_, ?_⟩ <;> (intro hc; (try simp at hc); (all_goals first | (exfalso; omega) | skip))))
  · exact ⟨-1, by simp [pf216], by omega, by omega, fun h => absurd h (by omega)⟩
  obtain ⟨n3, g3, a3, b3, s3⟩ := t224 k0 x_Res_Rows x_Res_N x_Res_Has x_Res_V_Ty x_Res_V_N x_Res_V_S n2 (by omega) (by omega) hok_x_Res_Rows hoks_x_Res_Rows hok_x_Res_V_S
  repeat' (first
    | with_reducible (first | refine wp_seq ?_ | refine wp_blk ?_ | refine wp_skip ?_ | refine wp_exit ?_ | refine wp_ret ?_ | refine seqQ_norm ?_ | refine seqQ_ret ?_ | refine seqQ_exit ?_ | refine blkQ_norm ?_ | refine blkQ_ret ?_ | refine blkQ_exit ?_ | refine loopQ_norm ?_ | refine loopQ_exit ?_ | refine loopQ_ret ?_ | refine endQ_ret ?_ | refine endQ_norm ?_ | refine endE_ret ?_ | refine endE_norm ?_ | refine endI_ret ?_ | refine endI_norm ?_)
    | (with_reducible refine wp_regK fun K hK => ?_
       simp[g3]
       repeat' (with_reducible first | refine hK _ ?_ | (refine psel ?_ ?_ <;> (intro hc; (try rw [Decidable.not_not] at hc); first | (exfalso; omega) | (try simp [hc, g3]))))
       all_goals (clear hK; clear K))
    | (with_reducible refine wp_condE ?_
       refine ⟨_, rfl, ?_, ?_⟩ <;> (intro hc; (try simp at hc); (all_goals first | (exfalso; omega) | skip))))
  · exact ⟨-1, by simp [pf216], by omega, by omega, fun h => absurd h (by omega)⟩
  · exact ⟨n3, by simp [pf216], by omega, by omega, fun _ => ⟨(s1 (by omega)).1, (s1 (by omega)).2, (s2 (by omega)).1, (s2 (by omega)).2.1, (s2 (by omega)).2.2.1, (s2 (by omega)).2.2.2, (s3 (by omega)).1, (s3 (by omega)).2.1, (s3 (by omega)).2.2⟩⟩

theorem t217 (k0 : Bool) (l : List XDeed) (left : Int) (h0 : 0 ≤ left) (h1 : left ≤ 1048576) (hl : l.length ≤ 9223372036854775807) (hok : XDeed.oks l) :
    ∃ n, Gw TT 217 [.one (.ro k0 (.sl 25 (l.map XDeed.e))), vi left] = some (vi n, []) ∧ -1 ≤ n ∧ n ≤ left ∧ (0 ≤ n → l.length ≤ 1048576 ∧ XDeed.sms l) := by
  refine Gw_ofI (F := pf217) rfl rfl ?_
  show Wp _ pb217 _ _
  unfold pb217
  have g : IntKind.wrap .i64 (left - (l.length : Int)) = left - (l.length : Int) := wrap_i64 (by omega) (by omega)
  repeat' (first
    | with_reducible (first | refine wp_seq ?_ | refine wp_blk ?_ | refine wp_skip ?_ | refine wp_exit ?_ | refine wp_ret ?_ | refine seqQ_norm ?_ | refine seqQ_ret ?_ | refine seqQ_exit ?_ | refine blkQ_norm ?_ | refine blkQ_ret ?_ | refine blkQ_exit ?_ | refine loopQ_norm ?_ | refine loopQ_exit ?_ | refine loopQ_ret ?_ | refine endQ_ret ?_ | refine endQ_norm ?_ | refine endE_ret ?_ | refine endE_norm ?_ | refine endI_ret ?_ | refine endI_norm ?_)
    | (with_reducible refine wp_regK fun K hK => ?_
       simp[g]
       repeat' (with_reducible first | refine hK _ ?_ | (refine psel ?_ ?_ <;> (intro hc; (try rw [Decidable.not_not] at hc); first | (exfalso; omega) | (try simp [hc, g]))))
       all_goals (clear hK; clear K))
    | (with_reducible refine wp_condE ?_
       refine ⟨_, rfl, ?_, ?_⟩ <;> (intro hc; (try simp at hc); (all_goals first | (exfalso; omega) | skip))))
  · exact ⟨-1, by simp [pf217], by omega, by omega, fun h => absurd h (by omega)⟩
  · refine wp_loopI (σ := List XDeed × List XDeed × Int) (fun s => [(0, AV.v k0 (D.sl 25 (List.map XDeed.e l)), none), (1, AV.v false (di s.2.2), none), (5, AV.v false (di (s.1.length : Nat)), none)]) (fun s => l = s.1 ++ s.2.1 ∧ 0 ≤ s.2.2 ∧ s.2.2 ≤ left - (l.length : Int) ∧ XDeed.sms s.1) (fun s => s.2.1.length) ([], l, left - (l.length : Int)) (by simp) ⟨rfl, by simp only; omega, by simp only; omega, fun y hy => by simp at hy⟩ ?_
    rintro ⟨pre, rest, lf⟩ ⟨h2, h3, h4, h5⟩
    simp only at h2 h3 h4 h5
    subst h2
    simp only [List.length_append, List.length_cons] at hl h4 g
    rcases rest with _ | ⟨⟨y_Op, y_Task, y_R, y_Id, ⟨y_Q_Kind, ⟨y_Q_P_Kind, y_Q_P_Col, y_Q_P_Op, ⟨y_Q_P_V_Ty, y_Q_P_V_N, y_Q_P_V_S⟩, y_Q_P_L⟩, y_Q_Col, y_Q_Out⟩, ⟨y_Res_Rows, y_Res_N, y_Res_Has, ⟨y_Res_V_Ty, y_Res_V_N, y_Res_V_S⟩⟩, y_Code, y_Stamp, y_Inv, y_Lin, y_Ret⟩, rest⟩
    · unfold pl217_0
      repeat' (first
        | with_reducible (first | refine wp_seq ?_ | refine wp_blk ?_ | refine wp_skip ?_ | refine wp_exit ?_ | refine wp_ret ?_ | refine seqQ_norm ?_ | refine seqQ_ret ?_ | refine seqQ_exit ?_ | refine blkQ_norm ?_ | refine blkQ_ret ?_ | refine blkQ_exit ?_ | refine loopQ_norm ?_ | refine loopQ_exit ?_ | refine loopQ_ret ?_ | refine endQ_ret ?_ | refine endQ_norm ?_ | refine endE_ret ?_ | refine endE_norm ?_ | refine endI_ret ?_ | refine endI_norm ?_)
        | (with_reducible refine wp_regK fun K hK => ?_
           simp
           repeat' (with_reducible first | refine hK _ ?_ | (refine psel ?_ ?_ <;> (intro hc; (try rw [Decidable.not_not] at hc); first | (exfalso; omega) | (try simp [hc]))))
           all_goals (clear hK; clear K))
        | (with_reducible refine wp_condE ?_
           refine ⟨_, rfl, ?_, ?_⟩ <;> (intro hc; (try simp at hc); (all_goals first | (exfalso; omega) | skip))))
      simp only [List.length_nil] at h4
      all_goals exact ⟨lf, by simp [pf217], by omega, by omega, fun _ => ⟨by simp; omega, by simpa using h5⟩⟩
    · unfold pl217_0
      simp only [List.length_cons] at hl h4
      have hw : IntKind.wrap .i64 ((pre.length : Int) + 1) = (pre.length : Int) + 1 := wrap_i64 (by omega) (by omega)
      have hd := hok ⟨y_Op, y_Task, y_R, y_Id, ⟨y_Q_Kind, ⟨y_Q_P_Kind, y_Q_P_Col, y_Q_P_Op, ⟨y_Q_P_V_Ty, y_Q_P_V_N, y_Q_P_V_S⟩, y_Q_P_L⟩, y_Q_Col, y_Q_Out⟩, ⟨y_Res_Rows, y_Res_N, y_Res_Has, ⟨y_Res_V_Ty, y_Res_V_N, y_Res_V_S⟩⟩, y_Code, y_Stamp, y_Inv, y_Lin, y_Ret⟩ (by simp)
      simp only [XDeed.ok, XQuery.ok, XPred.ok_eq, XVal.ok, XResult.ok, and_assoc] at hd
      obtain ⟨hlo_y_Op, hhi_y_Op, hlo_y_Task, hhi_y_Task, hok_y_R, hoks_y_R, hlo_y_Id, hhi_y_Id, hlo_y_Q_Kind, hhi_y_Q_Kind, hlo_y_Q_P_Kind, hhi_y_Q_P_Kind, hlo_y_Q_P_Col, hhi_y_Q_P_Col, hlo_y_Q_P_Op, hhi_y_Q_P_Op, hlo_y_Q_P_V_Ty, hhi_y_Q_P_V_Ty, hlo_y_Q_P_V_N, hhi_y_Q_P_V_N, hok_y_Q_P_V_S, hok_y_Q_P_L, hoks_y_Q_P_L, hlo_y_Q_Col, hhi_y_Q_Col, hok_y_Q_Out, hoki_y_Q_Out, hok_y_Res_Rows, hoks_y_Res_Rows, hlo_y_Res_N, hhi_y_Res_N, hlo_y_Res_V_Ty, hhi_y_Res_V_Ty, hlo_y_Res_V_N, hhi_y_Res_V_N, hok_y_Res_V_S, hlo_y_Code, hhi_y_Code, hlo_y_Stamp, hhi_y_Stamp, hlo_y_Inv, hhi_y_Inv, hlo_y_Lin, hhi_y_Lin, hlo_y_Ret, hhi_y_Ret⟩ := hd
      obtain ⟨n1, g1, a1, b1, s1⟩ := t216 k0 y_Op y_Task y_R y_Id y_Q_Kind y_Q_P_Kind y_Q_P_Col y_Q_P_Op y_Q_P_V_Ty y_Q_P_V_N y_Q_P_V_S y_Q_P_L y_Q_Col y_Q_Out y_Res_Rows y_Res_N y_Res_Has y_Res_V_Ty y_Res_V_N y_Res_V_S y_Code y_Stamp y_Inv y_Lin y_Ret lf (by omega) (by omega) hok_y_R hoks_y_R hok_y_Q_P_V_S hok_y_Q_P_L hoks_y_Q_P_L hok_y_Q_Out hok_y_Res_Rows hoks_y_Res_Rows hok_y_Res_V_S
      repeat' (first
        | with_reducible (first | refine wp_seq ?_ | refine wp_blk ?_ | refine wp_skip ?_ | refine wp_exit ?_ | refine wp_ret ?_ | refine seqQ_norm ?_ | refine seqQ_ret ?_ | refine seqQ_exit ?_ | refine blkQ_norm ?_ | refine blkQ_ret ?_ | refine blkQ_exit ?_ | refine loopQ_norm ?_ | refine loopQ_exit ?_ | refine loopQ_ret ?_ | refine endQ_ret ?_ | refine endQ_norm ?_ | refine endE_ret ?_ | refine endE_norm ?_ | refine endI_ret ?_ | refine endI_norm ?_)
        | (with_reducible refine wp_regK fun K hK => ?_
           simp[g1, hw]
           repeat' (with_reducible first | refine hK _ ?_ | (refine psel ?_ ?_ <;> (intro hc; (try rw [Decidable.not_not] at hc); first | (exfalso; omega) | (try simp [hc, g1, hw]))))
           all_goals (clear hK; clear K))
        | (with_reducible refine wp_condE ?_
           refine ⟨_, rfl, ?_, ?_⟩ <;> (intro hc; (try simp at hc); (all_goals first | (exfalso; omega) | skip))))
      · exact ⟨-1, by simp [pf217], by omega, by omega, fun h => absurd h (by omega)⟩
      · exact ⟨(pre ++ [⟨y_Op, y_Task, y_R, y_Id, ⟨y_Q_Kind, ⟨y_Q_P_Kind, y_Q_P_Col, y_Q_P_Op, ⟨y_Q_P_V_Ty, y_Q_P_V_N, y_Q_P_V_S⟩, y_Q_P_L⟩, y_Q_Col, y_Q_Out⟩, ⟨y_Res_Rows, y_Res_N, y_Res_Has, ⟨y_Res_V_Ty, y_Res_V_N, y_Res_V_S⟩⟩, y_Code, y_Stamp, y_Inv, y_Lin, y_Ret⟩], rest, n1), by simp, ⟨by simp, by simp only; omega, by simp only [List.length_append, List.length_cons]; omega, fun y hy => by
          rcases List.mem_append.1 hy with hy | hy
          · exact h5 y hy
          · rw [List.mem_singleton.1 hy]
            simp only [XDeed.sm, XQuery.sm, XPred.sm_eq, XVal.sm, XResult.sm, and_assoc]
            exact s1 (by omega)⟩, by simp⟩

end Go.Proofs.Ytkgibccknlbiaaa.OM
