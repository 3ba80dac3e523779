/- What the functions answer. -/
import Derived.Test.YtbfmbddafpbcpaaOMTypes
import Derived.Test.YtbfmbddafpbcpaaOMTac2
import Derived.Test.YtbfmbddafpbcpaaXTaskOkPc0
set_option linter.all false
namespace Go.Proofs.Ytbfmbddafpbcpaa.OM
set_option maxHeartbeats 4000000
set_option maxRecDepth 100000

def tab : List (Nat × PF) := [(58, pf58), (67, pf67), (81, pf81), (82, pf82), (84, pf84), (85, pf85), (86, pf86), (87, pf87), (132, pf132), (152, pf152), (153, pf153), (154, pf154), (155, pf155), (156, pf156), (157, pf157), (159, pf159), (160, pf160), (163, pf163), (165, pf165), (166, pf166), (219, pf219), (220, pf220), (221, pf221), (222, pf222), (223, pf223), (225, pf225), (226, pf226), (229, pf229), (231, pf231), (232, pf232), (244, pf244), (245, pf245), (246, pf246), (247, pf247), (248, pf248), (249, pf249), (251, pf251), (252, pf252), (255, pf255), (257, pf257), (258, pf258), (339, pf339), (370, pf370), (372, pf372), (374, pf374), (377, pf377)]
def TT (k : Nat) : Option PF := tab.lookup k

@[simp] theorem t244 (k0 : Bool) (l : List Int) (h : l.length ≤ 1048576)  : Gw TT 244 [.one (.ro k0 (.sl 1 (l.map ei)))] = some (.one (.own (.sl 1 (l.map ei))), []) := by
  refine Gw_of (F := pf244) rfl rfl ?_
  show Wp _ pb244 _ _
  unfold pb244
  repeat' (first
    | with_reducible (first | refine wp_seq ?_ | refine wp_blk ?_ | refine wp_skip ?_ | refine wp_exit ?_ | refine wp_ret ?_ | refine seqQ_norm ?_ | refine seqQ_ret ?_ | refine seqQ_exit ?_ | refine blkQ_norm ?_ | refine blkQ_ret ?_ | refine blkQ_exit ?_ | refine loopQ_norm ?_ | refine loopQ_exit ?_ | refine loopQ_ret ?_ | refine endQ_ret ?_ | refine endQ_norm ?_ | refine endE_ret ?_ | refine endE_norm ?_ | refine endI_ret ?_ | refine endI_norm ?_)
    | (with_reducible refine wp_regK fun K hK => ?_
       simp
       repeat' (with_reducible first | refine hK _ ?_ | (refine psel ?_ ?_ <;> (intro hc; (try rw [Decidable.not_not] at hc); first | (exfalso; omega) | (try simp [hc]))))
       all_goals (clear hK; clear K))
    | (with_reducible refine wp_condE ?_
       refine ⟨_, rfl, ?_, ?_⟩ <;> (intro hc; (try simp at hc); (all_goals first | (exfalso; omega) | skip))))
  · refine wp_loopI (σ := List Int × List Int) (fun s => [(0, AV.v k0 (D.sl 1 (List.map ei l)), none), (3, AV.pl 3 0 [], some (Rt.vir [C.own (D.sl 1 (s.1.map ei ++ List.replicate s.2.length [.int .i64 0]))])), (4, AV.v false (di (s.1.length : Nat)), none)]) (fun s => l = s.1 ++ s.2) (fun s => s.2.length) ([], l) (by simp) rfl ?_
    rintro ⟨pre, rest⟩ h1
    simp only at h1
    subst h1
    simp only [List.length_append, List.length_cons] at h
    rcases rest with _ | ⟨d, rest⟩
    · unfold pl244_0
      repeat' (first
        | with_reducible (first | refine wp_seq ?_ | refine wp_blk ?_ | refine wp_skip ?_ | refine wp_exit ?_ | refine wp_ret ?_ | refine seqQ_norm ?_ | refine seqQ_ret ?_ | refine seqQ_exit ?_ | refine blkQ_norm ?_ | refine blkQ_ret ?_ | refine blkQ_exit ?_ | refine loopQ_norm ?_ | refine loopQ_exit ?_ | refine loopQ_ret ?_ | refine endQ_ret ?_ | refine endQ_norm ?_ | refine endE_ret ?_ | refine endE_norm ?_ | refine endI_ret ?_ | refine endI_norm ?_)
        | (with_reducible refine wp_regK fun K hK => ?_
           simp
           repeat' (with_reducible first | refine hK _ ?_ | (refine psel ?_ ?_ <;> (intro hc; (try rw [Decidable.not_not] at hc); first | (exfalso; omega) | (try simp [hc]))))
           all_goals (clear hK; clear K))
        | (with_reducible refine wp_condE ?_
           refine ⟨_, rfl, ?_, ?_⟩ <;> (intro hc; (try simp at hc); (all_goals first | (exfalso; omega) | skip))))
      all_goals simp [pf244]
    · unfold pl244_0
      simp only [List.length_cons] at h
      have hw : IntKind.wrap .i64 ((pre.length : Int) + 1) = (pre.length : Int) + 1 := wrap_i64 (by omega) (by omega)
      repeat' (first
        | with_reducible (first | refine wp_seq ?_ | refine wp_blk ?_ | refine wp_skip ?_ | refine wp_exit ?_ | refine wp_ret ?_ | refine seqQ_norm ?_ | refine seqQ_ret ?_ | refine seqQ_exit ?_ | refine blkQ_norm ?_ | refine blkQ_ret ?_ | refine blkQ_exit ?_ | refine loopQ_norm ?_ | refine loopQ_exit ?_ | refine loopQ_ret ?_ | refine endQ_ret ?_ | refine endQ_norm ?_ | refine endE_ret ?_ | refine endE_norm ?_ | refine endI_ret ?_ | refine endI_norm ?_)
        | (with_reducible refine wp_regK fun K hK => ?_
           simp[List.replicate_succ, hw]
           repeat' (with_reducible first | refine hK _ ?_ | (refine psel ?_ ?_ <;> (intro hc; (try rw [Decidable.not_not] at hc); first | (exfalso; omega) | (try simp [hc, List.replicate_succ, hw]))))
           all_goals (clear hK; clear K))
        | (with_reducible refine wp_condE ?_
           refine ⟨_, rfl, ?_, ?_⟩ <;> (intro hc; (try simp at hc); (all_goals first | (exfalso; omega) | skip))))
      all_goals exact ⟨(pre ++ [d], rest), by simp, by simp, by simp⟩

@[simp] theorem t152 (k0 k1 : Bool) (l : List Int) (h : l.length ≤ 1048576)  : Gw TT 152 [.one (.ro k0 (.sl 1 (l.map ei))), .one (.ro k1 (.sl 1 (l.map ei)))] = some (vb true, []) := by
  refine Gw_of (F := pf152) rfl rfl ?_
  show Wp _ pb152 _ _
  unfold pb152
  repeat' (first
    | with_reducible (first | refine wp_seq ?_ | refine wp_blk ?_ | refine wp_skip ?_ | refine wp_exit ?_ | refine wp_ret ?_ | refine seqQ_norm ?_ | refine seqQ_ret ?_ | refine seqQ_exit ?_ | refine blkQ_norm ?_ | refine blkQ_ret ?_ | refine blkQ_exit ?_ | refine loopQ_norm ?_ | refine loopQ_exit ?_ | refine loopQ_ret ?_ | refine endQ_ret ?_ | refine endQ_norm ?_ | refine endE_ret ?_ | refine endE_norm ?_ | refine endI_ret ?_ | refine endI_norm ?_)
    | (with_reducible refine wp_regK fun K hK => ?_
       simp
       repeat' (with_reducible first | refine hK _ ?_ | (refine psel ?_ ?_ <;> (intro hc; (try rw [Decidable.not_not] at hc); first | (exfalso; omega) | (try simp [hc]))))
       all_goals (clear hK; clear K))
    | (with_reducible refine wp_condE ?_
       refine ⟨_, rfl, ?_, ?_⟩ <;> (intro hc; (try simp at hc); (all_goals first | (exfalso; omega) | skip))))
  · refine wp_loopI (σ := List Int × List Int) (fun s => [(0, AV.v k0 (D.sl 1 (List.map ei l)), none), (1, AV.v k1 (D.sl 1 (List.map ei l)), none), (5, AV.v false (di (s.1.length : Nat)), none)]) (fun s => l = s.1 ++ s.2) (fun s => s.2.length) ([], l) (by simp) rfl ?_
    rintro ⟨pre, rest⟩ h1
    simp only at h1
    subst h1
    simp only [List.length_append, List.length_cons] at h
    rcases rest with _ | ⟨d, rest⟩
    · unfold pl152_0
      repeat' (first
        | with_reducible (first | refine wp_seq ?_ | refine wp_blk ?_ | refine wp_skip ?_ | refine wp_exit ?_ | refine wp_ret ?_ | refine seqQ_norm ?_ | refine seqQ_ret ?_ | refine seqQ_exit ?_ | refine blkQ_norm ?_ | refine blkQ_ret ?_ | refine blkQ_exit ?_ | refine loopQ_norm ?_ | refine loopQ_exit ?_ | refine loopQ_ret ?_ | refine endQ_ret ?_ | refine endQ_norm ?_ | refine endE_ret ?_ | refine endE_norm ?_ | refine endI_ret ?_ | refine endI_norm ?_)
        | (with_reducible refine wp_regK fun K hK => ?_
           simp
           repeat' (with_reducible first | refine hK _ ?_ | (refine psel ?_ ?_ <;> (intro hc; (try rw [Decidable.not_not] at hc); first | (exfalso; omega) | (try simp [hc]))))
           all_goals (clear hK; clear K))
        | (with_reducible refine wp_condE ?_
           refine ⟨_, rfl, ?_, ?_⟩ <;> (intro hc; (try simp at hc); (all_goals first | (exfalso; omega) | skip))))
      all_goals simp [pf152]
    · unfold pl152_0
      simp only [List.length_cons] at h
      have hw : IntKind.wrap .i64 ((pre.length : Int) + 1) = (pre.length : Int) + 1 := wrap_i64 (by omega) (by omega)
      repeat' (first
        | with_reducible (first | refine wp_seq ?_ | refine wp_blk ?_ | refine wp_skip ?_ | refine wp_exit ?_ | refine wp_ret ?_ | refine seqQ_norm ?_ | refine seqQ_ret ?_ | refine seqQ_exit ?_ | refine blkQ_norm ?_ | refine blkQ_ret ?_ | refine blkQ_exit ?_ | refine loopQ_norm ?_ | refine loopQ_exit ?_ | refine loopQ_ret ?_ | refine endQ_ret ?_ | refine endQ_norm ?_ | refine endE_ret ?_ | refine endE_norm ?_ | refine endI_ret ?_ | refine endI_norm ?_)
        | (with_reducible refine wp_regK fun K hK => ?_
           simp[hw]
           repeat' (with_reducible first | refine hK _ ?_ | (refine psel ?_ ?_ <;> (intro hc; (try rw [Decidable.not_not] at hc); first | (exfalso; omega) | (try simp [hc, hw]))))
           all_goals (clear hK; clear K))
        | (with_reducible refine wp_condE ?_
           refine ⟨_, rfl, ?_, ?_⟩ <;> (intro hc; (try simp at hc); (all_goals first | (exfalso; omega) | skip))))
      all_goals exact ⟨(pre ++ [d], rest), by simp, by simp, by simp⟩

@[simp] theorem t257 (x_Ty : Int) (x_N : Int) (x_S : ByteArray)  : Gw TT 257 [.st [.ro false (di x_Ty), .ro false (di x_N), .ro false (.str x_S)]] = some (.st [.ro false (di x_Ty), .ro false (di x_N), .ro false (.str x_S)], []) := by
  refine Gw_of (F := pf257) rfl rfl ?_
  show Wp _ pb257 _ _
  unfold pb257
  repeat' (first
    | with_reducible (first | refine wp_seq ?_ | refine wp_blk ?_ | refine wp_skip ?_ | refine wp_exit ?_ | refine wp_ret ?_ | refine seqQ_norm ?_ | refine seqQ_ret ?_ | refine seqQ_exit ?_ | refine blkQ_norm ?_ | refine blkQ_ret ?_ | refine blkQ_exit ?_ | refine loopQ_norm ?_ | refine loopQ_exit ?_ | refine loopQ_ret ?_ | refine endQ_ret ?_ | refine endQ_norm ?_ | refine endE_ret ?_ | refine endE_norm ?_ | refine endI_ret ?_ | refine endI_norm ?_)
    | (with_reducible refine wp_regK fun K hK => ?_
       simp
       repeat' (with_reducible first | refine hK _ ?_ | (refine psel ?_ ?_ <;> (intro hc; (try rw [Decidable.not_not] at hc); first | (exfalso; omega) | (try simp [hc]))))
       all_goals (clear hK; clear K))
    | (with_reducible refine wp_condE ?_
       refine ⟨_, rfl, ?_, ?_⟩ <;> (intro hc; (try simp at hc); (all_goals first | (exfalso; omega) | skip))))
  all_goals simp [pf257]

@[simp] theorem t258 (k0 : Bool) (l : List XVal) (h : l.length ≤ 1048576) (hs : XVal.sms l) : Gw TT 258 [.one (.ro k0 (.sl 3 (l.map XVal.e)))] = some (.one (.own (.sl 3 (l.map XVal.e))), []) := by
  refine Gw_of (F := pf258) rfl rfl ?_
  show Wp _ pb258 _ _
  unfold pb258
  repeat' (first
    | with_reducible (first | refine wp_seq ?_ | refine wp_blk ?_ | refine wp_skip ?_ | refine wp_exit ?_ | refine wp_ret ?_ | refine seqQ_norm ?_ | refine seqQ_ret ?_ | refine seqQ_exit ?_ | refine blkQ_norm ?_ | refine blkQ_ret ?_ | refine blkQ_exit ?_ | refine loopQ_norm ?_ | refine loopQ_exit ?_ | refine loopQ_ret ?_ | refine endQ_ret ?_ | refine endQ_norm ?_ | refine endE_ret ?_ | refine endE_norm ?_ | refine endI_ret ?_ | refine endI_norm ?_)
    | (with_reducible refine wp_regK fun K hK => ?_
       simp
       repeat' (with_reducible first | refine hK _ ?_ | (refine psel ?_ ?_ <;> (intro hc; (try rw [Decidable.not_not] at hc); first | (exfalso; omega) | (try simp [hc]))))
       all_goals (clear hK; clear K))
    | (with_reducible refine wp_condE ?_
       refine ⟨_, rfl, ?_, ?_⟩ <;> (intro hc; (try simp at hc); (all_goals first | (exfalso; omega) | skip))))
  · refine wp_loopI (σ := List XVal × List XVal) (fun s => [(0, AV.v k0 (D.sl 3 (List.map XVal.e l)), none), (3, AV.pl 3 0 [], some (Rt.vir [C.own (D.sl 3 (s.1.map XVal.e ++ List.replicate s.2.length [.int .i64 0, .int .i64 0, .str ⟨#[]⟩]))])), (4, AV.v false (di (s.1.length : Nat)), none)]) (fun s => l = s.1 ++ s.2) (fun s => s.2.length) ([], l) (by simp) rfl ?_
    rintro ⟨pre, rest⟩ h1
    simp only at h1
    subst h1
    simp only [List.length_append, List.length_cons] at h
    rcases rest with _ | ⟨⟨y_Ty, y_N, y_S⟩, rest⟩
    · unfold pl258_0
      repeat' (first
        | with_reducible (first | refine wp_seq ?_ | refine wp_blk ?_ | refine wp_skip ?_ | refine wp_exit ?_ | refine wp_ret ?_ | refine seqQ_norm ?_ | refine seqQ_ret ?_ | refine seqQ_exit ?_ | refine blkQ_norm ?_ | refine blkQ_ret ?_ | refine blkQ_exit ?_ | refine loopQ_norm ?_ | refine loopQ_exit ?_ | refine loopQ_ret ?_ | refine endQ_ret ?_ | refine endQ_norm ?_ | refine endE_ret ?_ | refine endE_norm ?_ | refine endI_ret ?_ | refine endI_norm ?_)
        | (with_reducible refine wp_regK fun K hK => ?_
           simp
           repeat' (with_reducible first | refine hK _ ?_ | (refine psel ?_ ?_ <;> (intro hc; (try rw [Decidable.not_not] at hc); first | (exfalso; omega) | (try simp [hc]))))
           all_goals (clear hK; clear K))
        | (with_reducible refine wp_condE ?_
           refine ⟨_, rfl, ?_, ?_⟩ <;> (intro hc; (try simp at hc); (all_goals first | (exfalso; omega) | skip))))
      all_goals simp [pf258]
    · unfold pl258_0
      simp only [List.length_cons] at h
      have hw : IntKind.wrap .i64 ((pre.length : Int) + 1) = (pre.length : Int) + 1 := wrap_i64 (by omega) (by omega)
      have hd := hs ⟨y_Ty, y_N, y_S⟩ (by simp)
      simp only [XVal.sm, and_assoc] at hd
      have hsm_y_S := hd
      repeat' (first
        | with_reducible (first | refine wp_seq ?_ | refine wp_blk ?_ | refine wp_skip ?_ | refine wp_exit ?_ | refine wp_ret ?_ | refine seqQ_norm ?_ | refine seqQ_ret ?_ | refine seqQ_exit ?_ | refine blkQ_norm ?_ | refine blkQ_ret ?_ | refine blkQ_exit ?_ | refine loopQ_norm ?_ | refine loopQ_exit ?_ | refine loopQ_ret ?_ | refine endQ_ret ?_ | refine endQ_norm ?_ | refine endE_ret ?_ | refine endE_norm ?_ | refine endI_ret ?_ | refine endI_norm ?_)
        | (with_reducible refine wp_regK fun K hK => ?_
           simp[List.replicate_succ, hw, hsm_y_S]
           repeat' (with_reducible first | refine hK _ ?_ | (refine psel ?_ ?_ <;> (intro hc; (try rw [Decidable.not_not] at hc); first | (exfalso; omega) | (try simp [hc, List.replicate_succ, hw, hsm_y_S]))))
           all_goals (clear hK; clear K))
        | (with_reducible refine wp_condE ?_
           refine ⟨_, rfl, ?_, ?_⟩ <;> (intro hc; (try simp at hc); (all_goals first | (exfalso; omega) | skip))))
      all_goals exact ⟨(pre ++ [⟨y_Ty, y_N, y_S⟩], rest), by simp, by simp, by simp⟩

@[simp] theorem t165 (x_Ty : Int) (x_N : Int) (x_S : ByteArray)  : Gw TT 165 [.st [.ro false (di x_Ty), .ro false (di x_N), .ro false (.str x_S)], .st [.ro false (di x_Ty), .ro false (di x_N), .ro false (.str x_S)]] = some (vb true, []) := by
  refine Gw_of (F := pf165) rfl rfl ?_
  show Wp _ pb165 _ _
  unfold pb165
  repeat' (first
    | with_reducible (first | refine wp_seq ?_ | refine wp_blk ?_ | refine wp_skip ?_ | refine wp_exit ?_ | refine wp_ret ?_ | refine seqQ_norm ?_ | refine seqQ_ret ?_ | refine seqQ_exit ?_ | refine blkQ_norm ?_ | refine blkQ_ret ?_ | refine blkQ_exit ?_ | refine loopQ_norm ?_ | refine loopQ_exit ?_ | refine loopQ_ret ?_ | refine endQ_ret ?_ | refine endQ_norm ?_ | refine endE_ret ?_ | refine endE_norm ?_ | refine endI_ret ?_ | refine endI_norm ?_)
    | (with_reducible refine wp_regK fun K hK => ?_
       simp
       repeat' (with_reducible first | refine hK _ ?_ | (refine psel ?_ ?_ <;> (intro hc; (try rw [Decidable.not_not] at hc); first | (exfalso; omega) | (try simp [hc]))))
       all_goals (clear hK; clear K))
    | (with_reducible refine wp_condE ?_
       refine ⟨_, rfl, ?_, ?_⟩ <;> (intro hc; (try simp at hc); (all_goals first | (exfalso; omega) | skip))))
  all_goals simp [pf165]

@[simp] theorem t166 (k0 k1 : Bool) (l : List XVal) (h : l.length ≤ 1048576) (hs : XVal.sms l) : Gw TT 166 [.one (.ro k0 (.sl 3 (l.map XVal.e))), .one (.ro k1 (.sl 3 (l.map XVal.e)))] = some (vb true, []) := by
  refine Gw_of (F := pf166) rfl rfl ?_
  show Wp _ pb166 _ _
  unfold pb166
  repeat' (first
    | with_reducible (first | refine wp_seq ?_ | refine wp_blk ?_ | refine wp_skip ?_ | refine wp_exit ?_ | refine wp_ret ?_ | refine seqQ_norm ?_ | refine seqQ_ret ?_ | refine seqQ_exit ?_ | refine blkQ_norm ?_ | refine blkQ_ret ?_ | refine blkQ_exit ?_ | refine loopQ_norm ?_ | refine loopQ_exit ?_ | refine loopQ_ret ?_ | refine endQ_ret ?_ | refine endQ_norm ?_ | refine endE_ret ?_ | refine endE_norm ?_ | refine endI_ret ?_ | refine endI_norm ?_)
    | (with_reducible refine wp_regK fun K hK => ?_
       simp
       repeat' (with_reducible first | refine hK _ ?_ | (refine psel ?_ ?_ <;> (intro hc; (try rw [Decidable.not_not] at hc); first | (exfalso; omega) | (try simp [hc]))))
       all_goals (clear hK; clear K))
    | (with_reducible refine wp_condE ?_
       refine ⟨_, rfl, ?_, ?_⟩ <;> (intro hc; (try simp at hc); (all_goals first | (exfalso; omega) | skip))))
  · refine wp_loopI (σ := List XVal × List XVal) (fun s => [(0, AV.v k0 (D.sl 3 (List.map XVal.e l)), none), (1, AV.v k1 (D.sl 3 (List.map XVal.e l)), none), (5, AV.v false (di (s.1.length : Nat)), none)]) (fun s => l = s.1 ++ s.2) (fun s => s.2.length) ([], l) (by simp) rfl ?_
    rintro ⟨pre, rest⟩ h1
    simp only at h1
    subst h1
    simp only [List.length_append, List.length_cons] at h
    rcases rest with _ | ⟨⟨y_Ty, y_N, y_S⟩, rest⟩
    · unfold pl166_0
      repeat' (first
        | with_reducible (first | refine wp_seq ?_ | refine wp_blk ?_ | refine wp_skip ?_ | refine wp_exit ?_ | refine wp_ret ?_ | refine seqQ_norm ?_ | refine seqQ_ret ?_ | refine seqQ_exit ?_ | refine blkQ_norm ?_ | refine blkQ_ret ?_ | refine blkQ_exit ?_ | refine loopQ_norm ?_ | refine loopQ_exit ?_ | refine loopQ_ret ?_ | refine endQ_ret ?_ | refine endQ_norm ?_ | refine endE_ret ?_ | refine endE_norm ?_ | refine endI_ret ?_ | refine endI_norm ?_)
        | (with_reducible refine wp_regK fun K hK => ?_
           simp
           repeat' (with_reducible first | refine hK _ ?_ | (refine psel ?_ ?_ <;> (intro hc; (try rw [Decidable.not_not] at hc); first | (exfalso; omega) | (try simp [hc]))))
           all_goals (clear hK; clear K))
        | (with_reducible refine wp_condE ?_
           refine ⟨_, rfl, ?_, ?_⟩ <;> (intro hc; (try simp at hc); (all_goals first | (exfalso; omega) | skip))))
      all_goals simp [pf166]
    · unfold pl166_0
      simp only [List.length_cons] at h
      have hw : IntKind.wrap .i64 ((pre.length : Int) + 1) = (pre.length : Int) + 1 := wrap_i64 (by omega) (by omega)
      have hd := hs ⟨y_Ty, y_N, y_S⟩ (by simp)
      simp only [XVal.sm, and_assoc] at hd
      have hsm_y_S := hd
      repeat' (first
        | with_reducible (first | refine wp_seq ?_ | refine wp_blk ?_ | refine wp_skip ?_ | refine wp_exit ?_ | refine wp_ret ?_ | refine seqQ_norm ?_ | refine seqQ_ret ?_ | refine seqQ_exit ?_ | refine blkQ_norm ?_ | refine blkQ_ret ?_ | refine blkQ_exit ?_ | refine loopQ_norm ?_ | refine loopQ_exit ?_ | refine loopQ_ret ?_ | refine endQ_ret ?_ | refine endQ_norm ?_ | refine endE_ret ?_ | refine endE_norm ?_ | refine endI_ret ?_ | refine endI_norm ?_)
        | (with_reducible refine wp_regK fun K hK => ?_
           simp[hw, hsm_y_S]
           repeat' (with_reducible first | refine hK _ ?_ | (refine psel ?_ ?_ <;> (intro hc; (try rw [Decidable.not_not] at hc); first | (exfalso; omega) | (try simp [hc, hw, hsm_y_S]))))
           all_goals (clear hK; clear K))
        | (with_reducible refine wp_condE ?_
           refine ⟨_, rfl, ?_, ?_⟩ <;> (intro hc; (try simp at hc); (all_goals first | (exfalso; omega) | skip))))
      all_goals exact ⟨(pre ++ [⟨y_Ty, y_N, y_S⟩], rest), by simp, by simp, by simp⟩

@[simp] theorem t251 (k0 : Bool) (x_Id : Int) (x_L : List XVal) (hsm_x_L : x_L.length ≤ 1048576) (hsms_x_L : XVal.sms x_L) : Gw TT 251 [.st [.ro false (di x_Id), .ro k0 (.sl 3 (x_L.map XVal.e))]] = some (.st [.ro false (di x_Id), .own (.sl 3 (x_L.map XVal.e))], []) := by
  refine Gw_of (F := pf251) rfl rfl ?_
  show Wp _ pb251 _ _
  unfold pb251
  repeat' (first
    | with_reducible (first | refine wp_seq ?_ | refine wp_blk ?_ | refine wp_skip ?_ | refine wp_exit ?_ | refine wp_ret ?_ | refine seqQ_norm ?_ | refine seqQ_ret ?_ | refine seqQ_exit ?_ | refine blkQ_norm ?_ | refine blkQ_ret ?_ | refine blkQ_exit ?_ | refine loopQ_norm ?_ | refine loopQ_exit ?_ | refine loopQ_ret ?_ | refine endQ_ret ?_ | refine endQ_norm ?_ | refine endE_ret ?_ | refine endE_norm ?_ | refine endI_ret ?_ | refine endI_norm ?_)
    | (with_reducible refine wp_regK fun K hK => ?_
       simp[hsm_x_L, hsms_x_L]
       repeat' (with_reducible first | refine hK _ ?_ | (refine psel ?_ ?_ <;> (intro hc; (try rw [Decidable.not_not] at hc); first | (exfalso; omega) | (try simp [hc, hsm_x_L, hsms_x_L]))))
       all_goals (clear hK; clear K))
    | (with_reducible refine wp_condE ?_
       refine ⟨_, rfl, ?_, ?_⟩ <;> (intro hc; (try simp at hc); (all_goals first | (exfalso; omega) | skip))))
  all_goals simp [pf251]

@[simp] theorem t252 (k0 : Bool) (l : List XRow) (h : l.length ≤ 1048576) (hs : XRow.sms l) : Gw TT 252 [.one (.ro k0 (.sl 2 (l.map XRow.e)))] = some (.one (.own (.sl 2 (l.map XRow.e))), []) := by
  refine Gw_of (F := pf252) rfl rfl ?_
  show Wp _ pb252 _ _
  unfold pb252
  repeat' (first
    | with_reducible (first | refine wp_seq ?_ | refine wp_blk ?_ | refine wp_skip ?_ | refine wp_exit ?_ | refine wp_ret ?_ | refine seqQ_norm ?_ | refine seqQ_ret ?_ | refine seqQ_exit ?_ | refine blkQ_norm ?_ | refine blkQ_ret ?_ | refine blkQ_exit ?_ | refine loopQ_norm ?_ | refine loopQ_exit ?_ | refine loopQ_ret ?_ | refine endQ_ret ?_ | refine endQ_norm ?_ | refine endE_ret ?_ | refine endE_norm ?_ | refine endI_ret ?_ | refine endI_norm ?_)
    | (with_reducible refine wp_regK fun K hK => ?_
       simp
       repeat' (with_reducible first | refine hK _ ?_ | (refine psel ?_ ?_ <;> (intro hc; (try rw [Decidable.not_not] at hc); first | (exfalso; omega) | (try simp [hc]))))
       all_goals (clear hK; clear K))
    | (with_reducible refine wp_condE ?_
       refine ⟨_, rfl, ?_, ?_⟩ <;> (intro hc; (try simp at hc); (all_goals first | (exfalso; omega) | skip))))
  · refine wp_loopI (σ := List XRow × List XRow) (fun s => [(0, AV.v k0 (D.sl 2 (List.map XRow.e l)), none), (3, AV.pl 3 0 [], some (Rt.vir [C.own (D.sl 2 (s.1.map XRow.e ++ List.replicate s.2.length [.int .i64 0, .sl 3 []]))])), (4, AV.v false (di (s.1.length : Nat)), none)]) (fun s => l = s.1 ++ s.2) (fun s => s.2.length) ([], l) (by simp) rfl ?_
    rintro ⟨pre, rest⟩ h1
    simp only at h1
    subst h1
    simp only [List.length_append, List.length_cons] at h
    rcases rest with _ | ⟨⟨y_Id, y_L⟩, rest⟩
    · unfold pl252_0
      repeat' (first
        | with_reducible (first | refine wp_seq ?_ | refine wp_blk ?_ | refine wp_skip ?_ | refine wp_exit ?_ | refine wp_ret ?_ | refine seqQ_norm ?_ | refine seqQ_ret ?_ | refine seqQ_exit ?_ | refine blkQ_norm ?_ | refine blkQ_ret ?_ | refine blkQ_exit ?_ | refine loopQ_norm ?_ | refine loopQ_exit ?_ | refine loopQ_ret ?_ | refine endQ_ret ?_ | refine endQ_norm ?_ | refine endE_ret ?_ | refine endE_norm ?_ | refine endI_ret ?_ | refine endI_norm ?_)
        | (with_reducible refine wp_regK fun K hK => ?_
           simp
           repeat' (with_reducible first | refine hK _ ?_ | (refine psel ?_ ?_ <;> (intro hc; (try rw [Decidable.not_not] at hc); first | (exfalso; omega) | (try simp [hc]))))
           all_goals (clear hK; clear K))
        | (with_reducible refine wp_condE ?_
           refine ⟨_, rfl, ?_, ?_⟩ <;> (intro hc; (try simp at hc); (all_goals first | (exfalso; omega) | skip))))
      all_goals simp [pf252]
    · unfold pl252_0
      simp only [List.length_cons] at h
      have hw : IntKind.wrap .i64 ((pre.length : Int) + 1) = (pre.length : Int) + 1 := wrap_i64 (by omega) (by omega)
      have hd := hs ⟨y_Id, y_L⟩ (by simp)
      simp only [XRow.sm, and_assoc] at hd
      obtain ⟨hsm_y_L, hsms_y_L⟩ := hd
      repeat' (first
        | with_reducible (first | refine wp_seq ?_ | refine wp_blk ?_ | refine wp_skip ?_ | refine wp_exit ?_ | refine wp_ret ?_ | refine seqQ_norm ?_ | refine seqQ_ret ?_ | refine seqQ_exit ?_ | refine blkQ_norm ?_ | refine blkQ_ret ?_ | refine blkQ_exit ?_ | refine loopQ_norm ?_ | refine loopQ_exit ?_ | refine loopQ_ret ?_ | refine endQ_ret ?_ | refine endQ_norm ?_ | refine endE_ret ?_ | refine endE_norm ?_ | refine endI_ret ?_ | refine endI_norm ?_)
        | (with_reducible refine wp_regK fun K hK => ?_
           simp[List.replicate_succ, hw, hsm_y_L, hsms_y_L]
           repeat' (with_reducible first | refine hK _ ?_ | (refine psel ?_ ?_ <;> (intro hc; (try rw [Decidable.not_not] at hc); first | (exfalso; omega) | (try simp [hc, List.replicate_succ, hw, hsm_y_L, hsms_y_L]))))
           all_goals (clear hK; clear K))
        | (with_reducible refine wp_condE ?_
           refine ⟨_, rfl, ?_, ?_⟩ <;> (intro hc; (try simp at hc); (all_goals first | (exfalso; omega) | skip))))
      all_goals exact ⟨(pre ++ [⟨y_Id, y_L⟩], rest), by simp, by simp, by simp⟩

@[simp] theorem t159 (k0 k1 : Bool) (x_Id : Int) (x_L : List XVal) (hok_x_L : x_L.length ≤ 1048576) (hoks_x_L : XVal.sms x_L) : Gw TT 159 [.st [.ro false (di x_Id), .ro k0 (.sl 3 (x_L.map XVal.e))], .st [.ro false (di x_Id), .ro k1 (.sl 3 (x_L.map XVal.e))]] = some (vb true, []) := by
  refine Gw_of (F := pf159) rfl rfl ?_
  show Wp _ pb159 _ _
  unfold pb159
  repeat' (first
    | with_reducible (first | refine wp_seq ?_ | refine wp_blk ?_ | refine wp_skip ?_ | refine wp_exit ?_ | refine wp_ret ?_ | refine seqQ_norm ?_ | refine seqQ_ret ?_ | refine seqQ_exit ?_ | refine blkQ_norm ?_ | refine blkQ_ret ?_ | refine blkQ_exit ?_ | refine loopQ_norm ?_ | refine loopQ_exit ?_ | refine loopQ_ret ?_ | refine endQ_ret ?_ | refine endQ_norm ?_ | refine endE_ret ?_ | refine endE_norm ?_ | refine endI_ret ?_ | refine endI_norm ?_)
    | (with_reducible refine wp_regK fun K hK => ?_
       simp[hok_x_L, hoks_x_L]
       repeat' (with_reducible first | refine hK _ ?_ | (refine psel ?_ ?_ <;> (intro hc; (try rw [Decidable.not_not] at hc); first | (exfalso; omega) | (try simp [hc, hok_x_L, hoks_x_L]))))
       all_goals (clear hK; clear K))
    | (with_reducible refine wp_condE ?_
       refine ⟨_, rfl, ?_, ?_⟩ <;> (intro hc; (try simp at hc); (all_goals first | (exfalso; omega) | skip))))
  all_goals simp [pf159]

@[simp] theorem t160 (k0 k1 : Bool) (l : List XRow) (h : l.length ≤ 1048576) (hs : XRow.sms l) : Gw TT 160 [.one (.ro k0 (.sl 2 (l.map XRow.e))), .one (.ro k1 (.sl 2 (l.map XRow.e)))] = some (vb true, []) := by
  refine Gw_of (F := pf160) rfl rfl ?_
  show Wp _ pb160 _ _
  unfold pb160
  repeat' (first
    | with_reducible (first | refine wp_seq ?_ | refine wp_blk ?_ | refine wp_skip ?_ | refine wp_exit ?_ | refine wp_ret ?_ | refine seqQ_norm ?_ | refine seqQ_ret ?_ | refine seqQ_exit ?_ | refine blkQ_norm ?_ | refine blkQ_ret ?_ | refine blkQ_exit ?_ | refine loopQ_norm ?_ | refine loopQ_exit ?_ | refine loopQ_ret ?_ | refine endQ_ret ?_ | refine endQ_norm ?_ | refine endE_ret ?_ | refine endE_norm ?_ | refine endI_ret ?_ | refine endI_norm ?_)
    | (with_reducible refine wp_regK fun K hK => ?_
       simp
       repeat' (with_reducible first | refine hK _ ?_ | (refine psel ?_ ?_ <;> (intro hc; (try rw [Decidable.not_not] at hc); first | (exfalso; omega) | (try simp [hc]))))
       all_goals (clear hK; clear K))
    | (with_reducible refine wp_condE ?_
       refine ⟨_, rfl, ?_, ?_⟩ <;> (intro hc; (try simp at hc); (all_goals first | (exfalso; omega) | skip))))
  · refine wp_loopI (σ := List XRow × List XRow) (fun s => [(0, AV.v k0 (D.sl 2 (List.map XRow.e l)), none), (1, AV.v k1 (D.sl 2 (List.map XRow.e l)), none), (5, AV.v false (di (s.1.length : Nat)), none)]) (fun s => l = s.1 ++ s.2) (fun s => s.2.length) ([], l) (by simp) rfl ?_
    rintro ⟨pre, rest⟩ h1
    simp only at h1
    subst h1
    simp only [List.length_append, List.length_cons] at h
    rcases rest with _ | ⟨⟨y_Id, y_L⟩, rest⟩
    · unfold pl160_0
      repeat' (first
        | with_reducible (first | refine wp_seq ?_ | refine wp_blk ?_ | refine wp_skip ?_ | refine wp_exit ?_ | refine wp_ret ?_ | refine seqQ_norm ?_ | refine seqQ_ret ?_ | refine seqQ_exit ?_ | refine blkQ_norm ?_ | refine blkQ_ret ?_ | refine blkQ_exit ?_ | refine loopQ_norm ?_ | refine loopQ_exit ?_ | refine loopQ_ret ?_ | refine endQ_ret ?_ | refine endQ_norm ?_ | refine endE_ret ?_ | refine endE_norm ?_ | refine endI_ret ?_ | refine endI_norm ?_)
        | (with_reducible refine wp_regK fun K hK => ?_
           simp
           repeat' (with_reducible first | refine hK _ ?_ | (refine psel ?_ ?_ <;> (intro hc; (try rw [Decidable.not_not] at hc); first | (exfalso; omega) | (try simp [hc]))))
           all_goals (clear hK; clear K))
        | (with_reducible refine wp_condE ?_
           refine ⟨_, rfl, ?_, ?_⟩ <;> (intro hc; (try simp at hc); (all_goals first | (exfalso; omega) | skip))))
      all_goals simp [pf160]
    · unfold pl160_0
      simp only [List.length_cons] at h
      have hw : IntKind.wrap .i64 ((pre.length : Int) + 1) = (pre.length : Int) + 1 := wrap_i64 (by omega) (by omega)
      have hd := hs ⟨y_Id, y_L⟩ (by simp)
      simp only [XRow.sm, and_assoc] at hd
      obtain ⟨hsm_y_L, hsms_y_L⟩ := hd
      repeat' (first
        | with_reducible (first | refine wp_seq ?_ | refine wp_blk ?_ | refine wp_skip ?_ | refine wp_exit ?_ | refine wp_ret ?_ | refine seqQ_norm ?_ | refine seqQ_ret ?_ | refine seqQ_exit ?_ | refine blkQ_norm ?_ | refine blkQ_ret ?_ | refine blkQ_exit ?_ | refine loopQ_norm ?_ | refine loopQ_exit ?_ | refine loopQ_ret ?_ | refine endQ_ret ?_ | refine endQ_norm ?_ | refine endE_ret ?_ | refine endE_norm ?_ | refine endI_ret ?_ | refine endI_norm ?_)
        | (with_reducible refine wp_regK fun K hK => ?_
           simp[hw, hsm_y_L, hsms_y_L]
           repeat' (with_reducible first | refine hK _ ?_ | (refine psel ?_ ?_ <;> (intro hc; (try rw [Decidable.not_not] at hc); first | (exfalso; omega) | (try simp [hc, hw, hsm_y_L, hsms_y_L]))))
           all_goals (clear hK; clear K))
        | (with_reducible refine wp_condE ?_
           refine ⟨_, rfl, ?_, ?_⟩ <;> (intro hc; (try simp at hc); (all_goals first | (exfalso; omega) | skip))))
      all_goals exact ⟨(pre ++ [⟨y_Id, y_L⟩], rest), by simp, by simp, by simp⟩

@[simp] theorem t248 (x_Buf : Int) (x_Gen : Int) (x_Kind : Int) (x_First : Int) (x_Many : Int)  : Gw TT 248 [.st [.ro false (di x_Buf), .ro false (di x_Gen), .ro false (di x_Kind), .ro false (di x_First), .ro false (di x_Many)]] = some (.st [.ro false (di x_Buf), .ro false (di x_Gen), .ro false (di x_Kind), .ro false (di x_First), .ro false (di x_Many)], []) := by
  refine Gw_of (F := pf248) rfl rfl ?_
  show Wp _ pb248 _ _
  unfold pb248
  repeat' (first
    | with_reducible (first | refine wp_seq ?_ | refine wp_blk ?_ | refine wp_skip ?_ | refine wp_exit ?_ | refine wp_ret ?_ | refine seqQ_norm ?_ | refine seqQ_ret ?_ | refine seqQ_exit ?_ | refine blkQ_norm ?_ | refine blkQ_ret ?_ | refine blkQ_exit ?_ | refine loopQ_norm ?_ | refine loopQ_exit ?_ | refine loopQ_ret ?_ | refine endQ_ret ?_ | refine endQ_norm ?_ | refine endE_ret ?_ | refine endE_norm ?_ | refine endI_ret ?_ | refine endI_norm ?_)
    | (with_reducible refine wp_regK fun K hK => ?_
       simp
       repeat' (with_reducible first | refine hK _ ?_ | (refine psel ?_ ?_ <;> (intro hc; (try rw [Decidable.not_not] at hc); first | (exfalso; omega) | (try simp [hc]))))
       all_goals (clear hK; clear K))
    | (with_reducible refine wp_condE ?_
       refine ⟨_, rfl, ?_, ?_⟩ <;> (intro hc; (try simp at hc); (all_goals first | (exfalso; omega) | skip))))
  all_goals simp [pf248]

@[simp] theorem t249 (k0 : Bool) (l : List XRef) (h : l.length ≤ 1048576)  : Gw TT 249 [.one (.ro k0 (.sl 5 (l.map XRef.e)))] = some (.one (.own (.sl 5 (l.map XRef.e))), []) := by
  refine Gw_of (F := pf249) rfl rfl ?_
  show Wp _ pb249 _ _
  unfold pb249
  repeat' (first
    | with_reducible (first | refine wp_seq ?_ | refine wp_blk ?_ | refine wp_skip ?_ | refine wp_exit ?_ | refine wp_ret ?_ | refine seqQ_norm ?_ | refine seqQ_ret ?_ | refine seqQ_exit ?_ | refine blkQ_norm ?_ | refine blkQ_ret ?_ | refine blkQ_exit ?_ | refine loopQ_norm ?_ | refine loopQ_exit ?_ | refine loopQ_ret ?_ | refine endQ_ret ?_ | refine endQ_norm ?_ | refine endE_ret ?_ | refine endE_norm ?_ | refine endI_ret ?_ | refine endI_norm ?_)
    | (with_reducible refine wp_regK fun K hK => ?_
       simp
       repeat' (with_reducible first | refine hK _ ?_ | (refine psel ?_ ?_ <;> (intro hc; (try rw [Decidable.not_not] at hc); first | (exfalso; omega) | (try simp [hc]))))
       all_goals (clear hK; clear K))
    | (with_reducible refine wp_condE ?_
       refine ⟨_, rfl, ?_, ?_⟩ <;> (intro hc; (try simp at hc); (all_goals first | (exfalso; omega) | skip))))
  · refine wp_loopI (σ := List XRef × List XRef) (fun s => [(0, AV.v k0 (D.sl 5 (List.map XRef.e l)), none), (3, AV.pl 3 0 [], some (Rt.vir [C.own (D.sl 5 (s.1.map XRef.e ++ List.replicate s.2.length [.int .i64 0, .int .i64 0, .int .i64 0, .int .i64 0, .int .i64 0]))])), (4, AV.v false (di (s.1.length : Nat)), none)]) (fun s => l = s.1 ++ s.2) (fun s => s.2.length) ([], l) (by simp) rfl ?_
    rintro ⟨pre, rest⟩ h1
    simp only at h1
    subst h1
    simp only [List.length_append, List.length_cons] at h
    rcases rest with _ | ⟨⟨y_Buf, y_Gen, y_Kind, y_First, y_Many⟩, rest⟩
    · unfold pl249_0
      repeat' (first
        | with_reducible (first | refine wp_seq ?_ | refine wp_blk ?_ | refine wp_skip ?_ | refine wp_exit ?_ | refine wp_ret ?_ | refine seqQ_norm ?_ | refine seqQ_ret ?_ | refine seqQ_exit ?_ | refine blkQ_norm ?_ | refine blkQ_ret ?_ | refine blkQ_exit ?_ | refine loopQ_norm ?_ | refine loopQ_exit ?_ | refine loopQ_ret ?_ | refine endQ_ret ?_ | refine endQ_norm ?_ | refine endE_ret ?_ | refine endE_norm ?_ | refine endI_ret ?_ | refine endI_norm ?_)
        | (with_reducible refine wp_regK fun K hK => ?_
           simp
           repeat' (with_reducible first | refine hK _ ?_ | (refine psel ?_ ?_ <;> (intro hc; (try rw [Decidable.not_not] at hc); first | (exfalso; omega) | (try simp [hc]))))
           all_goals (clear hK; clear K))
        | (with_reducible refine wp_condE ?_
           refine ⟨_, rfl, ?_, ?_⟩ <;> (intro hc; (try simp at hc); (all_goals first | (exfalso; omega) | skip))))
      all_goals simp [pf249]
    · unfold pl249_0
      simp only [List.length_cons] at h
      have hw : IntKind.wrap .i64 ((pre.length : Int) + 1) = (pre.length : Int) + 1 := wrap_i64 (by omega) (by omega)
      repeat' (first
        | with_reducible (first | refine wp_seq ?_ | refine wp_blk ?_ | refine wp_skip ?_ | refine wp_exit ?_ | refine wp_ret ?_ | refine seqQ_norm ?_ | refine seqQ_ret ?_ | refine seqQ_exit ?_ | refine blkQ_norm ?_ | refine blkQ_ret ?_ | refine blkQ_exit ?_ | refine loopQ_norm ?_ | refine loopQ_exit ?_ | refine loopQ_ret ?_ | refine endQ_ret ?_ | refine endQ_norm ?_ | refine endE_ret ?_ | refine endE_norm ?_ | refine endI_ret ?_ | refine endI_norm ?_)
        | (with_reducible refine wp_regK fun K hK => ?_
           simp[List.replicate_succ, hw]
           repeat' (with_reducible first | refine hK _ ?_ | (refine psel ?_ ?_ <;> (intro hc; (try rw [Decidable.not_not] at hc); first | (exfalso; omega) | (try simp [hc, List.replicate_succ, hw]))))
           all_goals (clear hK; clear K))
        | (with_reducible refine wp_condE ?_
           refine ⟨_, rfl, ?_, ?_⟩ <;> (intro hc; (try simp at hc); (all_goals first | (exfalso; omega) | skip))))
      all_goals exact ⟨(pre ++ [⟨y_Buf, y_Gen, y_Kind, y_First, y_Many⟩], rest), by simp, by simp, by simp⟩

@[simp] theorem t156 (x_Buf : Int) (x_Gen : Int) (x_Kind : Int) (x_First : Int) (x_Many : Int)  : Gw TT 156 [.st [.ro false (di x_Buf), .ro false (di x_Gen), .ro false (di x_Kind), .ro false (di x_First), .ro false (di x_Many)], .st [.ro false (di x_Buf), .ro false (di x_Gen), .ro false (di x_Kind), .ro false (di x_First), .ro false (di x_Many)]] = some (vb true, []) := by
  refine Gw_of (F := pf156) rfl rfl ?_
  show Wp _ pb156 _ _
  unfold pb156
  repeat' (first
    | with_reducible (first | refine wp_seq ?_ | refine wp_blk ?_ | refine wp_skip ?_ | refine wp_exit ?_ | refine wp_ret ?_ | refine seqQ_norm ?_ | refine seqQ_ret ?_ | refine seqQ_exit ?_ | refine blkQ_norm ?_ | refine blkQ_ret ?_ | refine blkQ_exit ?_ | refine loopQ_norm ?_ | refine loopQ_exit ?_ | refine loopQ_ret ?_ | refine endQ_ret ?_ | refine endQ_norm ?_ | refine endE_ret ?_ | refine endE_norm ?_ | refine endI_ret ?_ | refine endI_norm ?_)
    | (with_reducible refine wp_regK fun K hK => ?_
       simp
       repeat' (with_reducible first | refine hK _ ?_ | (refine psel ?_ ?_ <;> (intro hc; (try rw [Decidable.not_not] at hc); first | (exfalso; omega) | (try simp [hc]))))
       all_goals (clear hK; clear K))
    | (with_reducible refine wp_condE ?_
       refine ⟨_, rfl, ?_, ?_⟩ <;> (intro hc; (try simp at hc); (all_goals first | (exfalso; omega) | skip))))
  all_goals simp [pf156]

@[simp] theorem t157 (k0 k1 : Bool) (l : List XRef) (h : l.length ≤ 1048576)  : Gw TT 157 [.one (.ro k0 (.sl 5 (l.map XRef.e))), .one (.ro k1 (.sl 5 (l.map XRef.e)))] = some (vb true, []) := by
  refine Gw_of (F := pf157) rfl rfl ?_
  show Wp _ pb157 _ _
  unfold pb157
  repeat' (first
    | with_reducible (first | refine wp_seq ?_ | refine wp_blk ?_ | refine wp_skip ?_ | refine wp_exit ?_ | refine wp_ret ?_ | refine seqQ_norm ?_ | refine seqQ_ret ?_ | refine seqQ_exit ?_ | refine blkQ_norm ?_ | refine blkQ_ret ?_ | refine blkQ_exit ?_ | refine loopQ_norm ?_ | refine loopQ_exit ?_ | refine loopQ_ret ?_ | refine endQ_ret ?_ | refine endQ_norm ?_ | refine endE_ret ?_ | refine endE_norm ?_ | refine endI_ret ?_ | refine endI_norm ?_)
    | (with_reducible refine wp_regK fun K hK => ?_
       simp
       repeat' (with_reducible first | refine hK _ ?_ | (refine psel ?_ ?_ <;> (intro hc; (try rw [Decidable.not_not] at hc); first | (exfalso; omega) | (try simp [hc]))))
       all_goals (clear hK; clear K))
    | (with_reducible refine wp_condE ?_
       refine ⟨_, rfl, ?_, ?_⟩ <;> (intro hc; (try simp at hc); (all_goals first | (exfalso; omega) | skip))))
  · refine wp_loopI (σ := List XRef × List XRef) (fun s => [(0, AV.v k0 (D.sl 5 (List.map XRef.e l)), none), (1, AV.v k1 (D.sl 5 (List.map XRef.e l)), none), (5, AV.v false (di (s.1.length : Nat)), none)]) (fun s => l = s.1 ++ s.2) (fun s => s.2.length) ([], l) (by simp) rfl ?_
    rintro ⟨pre, rest⟩ h1
    simp only at h1
    subst h1
    simp only [List.length_append, List.length_cons] at h
    rcases rest with _ | ⟨⟨y_Buf, y_Gen, y_Kind, y_First, y_Many⟩, rest⟩
    · unfold pl157_0
      repeat' (first
        | with_reducible (first | refine wp_seq ?_ | refine wp_blk ?_ | refine wp_skip ?_ | refine wp_exit ?_ | refine wp_ret ?_ | refine seqQ_norm ?_ | refine seqQ_ret ?_ | refine seqQ_exit ?_ | refine blkQ_norm ?_ | refine blkQ_ret ?_ | refine blkQ_exit ?_ | refine loopQ_norm ?_ | refine loopQ_exit ?_ | refine loopQ_ret ?_ | refine endQ_ret ?_ | refine endQ_norm ?_ | refine endE_ret ?_ | refine endE_norm ?_ | refine endI_ret ?_ | refine endI_norm ?_)
        | (with_reducible refine wp_regK fun K hK => ?_
           simp
           repeat' (with_reducible first | refine hK _ ?_ | (refine psel ?_ ?_ <;> (intro hc; (try rw [Decidable.not_not] at hc); first | (exfalso; omega) | (try simp [hc]))))
           all_goals (clear hK; clear K))
        | (with_reducible refine wp_condE ?_
           refine ⟨_, rfl, ?_, ?_⟩ <;> (intro hc; (try simp at hc); (all_goals first | (exfalso; omega) | skip))))
      all_goals simp [pf157]
    · unfold pl157_0
      simp only [List.length_cons] at h
      have hw : IntKind.wrap .i64 ((pre.length : Int) + 1) = (pre.length : Int) + 1 := wrap_i64 (by omega) (by omega)
      repeat' (first
        | with_reducible (first | refine wp_seq ?_ | refine wp_blk ?_ | refine wp_skip ?_ | refine wp_exit ?_ | refine wp_ret ?_ | refine seqQ_norm ?_ | refine seqQ_ret ?_ | refine seqQ_exit ?_ | refine blkQ_norm ?_ | refine blkQ_ret ?_ | refine blkQ_exit ?_ | refine loopQ_norm ?_ | refine loopQ_exit ?_ | refine loopQ_ret ?_ | refine endQ_ret ?_ | refine endQ_norm ?_ | refine endE_ret ?_ | refine endE_norm ?_ | refine endI_ret ?_ | refine endI_norm ?_)
        | (with_reducible refine wp_regK fun K hK => ?_
           simp[hw]
           repeat' (with_reducible first | refine hK _ ?_ | (refine psel ?_ ?_ <;> (intro hc; (try rw [Decidable.not_not] at hc); first | (exfalso; omega) | (try simp [hc, hw]))))
           all_goals (clear hK; clear K))
        | (with_reducible refine wp_condE ?_
           refine ⟨_, rfl, ?_, ?_⟩ <;> (intro hc; (try simp at hc); (all_goals first | (exfalso; omega) | skip))))
      all_goals exact ⟨(pre ++ [⟨y_Buf, y_Gen, y_Kind, y_First, y_Many⟩], rest), by simp, by simp, by simp⟩

def ToPred (x : XPred) : Prop := ∀ k0 : Bool, x.sm → Gw TT 245 [.st [.ro false (di x.Kind), .ro false (di x.Col), .ro false (di x.Op), .ro false (di x.V.Ty), .ro false (di x.V.N), .ro false (.str x.V.S), .ro k0 (.sl 7 (x.L.map XPred.e))]] = some (.st [.ro false (di x.Kind), .ro false (di x.Col), .ro false (di x.Op), .ro false (di x.V.Ty), .ro false (di x.V.N), .ro false (.str x.V.S), .own (.sl 7 (x.L.map XPred.e))], [])
def ToPreds (l : List XPred) : Prop := ∀ k0 : Bool, l.length ≤ 1048576 → XPred.sms l → Gw TT 246 [.one (.ro k0 (.sl 7 (l.map XPred.e)))] = some (.one (.own (.sl 7 (l.map XPred.e))), [])

theorem ToPreds_of (l : List XPred) (IH : ∀ y ∈ l, ToPred y) : ToPreds l := by
  intro k0 h hs
  refine Gw_of (F := pf246) rfl rfl ?_
  show Wp _ pb246 _ _
  unfold pb246
  repeat' (first
    | with_reducible (first | refine wp_seq ?_ | refine wp_blk ?_ | refine wp_skip ?_ | refine wp_exit ?_ | refine wp_ret ?_ | refine seqQ_norm ?_ | refine seqQ_ret ?_ | refine seqQ_exit ?_ | refine blkQ_norm ?_ | refine blkQ_ret ?_ | refine blkQ_exit ?_ | refine loopQ_norm ?_ | refine loopQ_exit ?_ | refine loopQ_ret ?_ | refine endQ_ret ?_ | refine endQ_norm ?_ | refine endE_ret ?_ | refine endE_norm ?_ | refine endI_ret ?_ | refine endI_norm ?_)
    | (with_reducible refine wp_regK fun K hK => ?_
       simp
       repeat' (with_reducible first | refine hK _ ?_ | (refine psel ?_ ?_ <;> (intro hc; (try rw [Decidable.not_not] at hc); first | (exfalso; omega) | (try simp [hc]))))
       all_goals (clear hK; clear K))
    | (with_reducible refine wp_condE ?_
       refine ⟨_, rfl, ?_, ?_⟩ <;> (intro hc; (try simp at hc); (all_goals first | (exfalso; omega) | skip))))
  · refine wp_loopI (σ := List XPred × List XPred) (fun s => [(0, AV.v k0 (D.sl 7 (List.map XPred.e l)), none), (3, AV.pl 3 0 [], some (Rt.vir [C.own (D.sl 7 (s.1.map XPred.e ++ List.replicate s.2.length [.int .i64 0, .int .i64 0, .int .i64 0, .int .i64 0, .int .i64 0, .str ⟨#[]⟩, .sl 7 []]))])), (4, AV.v false (di (s.1.length : Nat)), none)]) (fun s => l = s.1 ++ s.2) (fun s => s.2.length) ([], l) (by simp) rfl ?_
    rintro ⟨pre, rest⟩ h1
    simp only at h1
    subst h1
    simp only [List.length_append, List.length_cons] at h
    rcases rest with _ | ⟨⟨y_Kind, y_Col, y_Op, ⟨y_V_Ty, y_V_N, y_V_S⟩, y_L⟩, rest⟩
    · unfold pl246_0
      repeat' (first
        | with_reducible (first | refine wp_seq ?_ | refine wp_blk ?_ | refine wp_skip ?_ | refine wp_exit ?_ | refine wp_ret ?_ | refine seqQ_norm ?_ | refine seqQ_ret ?_ | refine seqQ_exit ?_ | refine blkQ_norm ?_ | refine blkQ_ret ?_ | refine blkQ_exit ?_ | refine loopQ_norm ?_ | refine loopQ_exit ?_ | refine loopQ_ret ?_ | refine endQ_ret ?_ | refine endQ_norm ?_ | refine endE_ret ?_ | refine endE_norm ?_ | refine endI_ret ?_ | refine endI_norm ?_)
        | (with_reducible refine wp_regK fun K hK => ?_
           simp
           repeat' (with_reducible first | refine hK _ ?_ | (refine psel ?_ ?_ <;> (intro hc; (try rw [Decidable.not_not] at hc); first | (exfalso; omega) | (try simp [hc]))))
           all_goals (clear hK; clear K))
        | (with_reducible refine wp_condE ?_
           refine ⟨_, rfl, ?_, ?_⟩ <;> (intro hc; (try simp at hc); (all_goals first | (exfalso; omega) | skip))))
      all_goals simp [pf246]
    · unfold pl246_0
      simp only [List.length_cons] at h
      have hw : IntKind.wrap .i64 ((pre.length : Int) + 1) = (pre.length : Int) + 1 := wrap_i64 (by omega) (by omega)
      have hd := XPred.sms_mem hs ⟨y_Kind, y_Col, y_Op, ⟨y_V_Ty, y_V_N, y_V_S⟩, y_L⟩ (by simp)
      simp only [XPred.sm_eq, XVal.sm, and_assoc] at hd
      obtain ⟨hsm_y_V_S, hsm_y_L, hsms_y_L⟩ := hd
      have ih := IH ⟨y_Kind, y_Col, y_Op, ⟨y_V_Ty, y_V_N, y_V_S⟩, y_L⟩ (by simp) k0 (XPred.sms_mem hs ⟨y_Kind, y_Col, y_Op, ⟨y_V_Ty, y_V_N, y_V_S⟩, y_L⟩ (by simp))
      simp only at ih
      repeat' (first
        | with_reducible (first | refine wp_seq ?_ | refine wp_blk ?_ | refine wp_skip ?_ | refine wp_exit ?_ | refine wp_ret ?_ | refine seqQ_norm ?_ | refine seqQ_ret ?_ | refine seqQ_exit ?_ | refine blkQ_norm ?_ | refine blkQ_ret ?_ | refine blkQ_exit ?_ | refine loopQ_norm ?_ | refine loopQ_exit ?_ | refine loopQ_ret ?_ | refine endQ_ret ?_ | refine endQ_norm ?_ | refine endE_ret ?_ | refine endE_norm ?_ | refine endI_ret ?_ | refine endI_norm ?_)
        | (with_reducible refine wp_regK fun K hK => ?_
           simp[List.replicate_succ, hw, ih, hsm_y_V_S, hsm_y_L, hsms_y_L]
           repeat' (with_reducible first | refine hK _ ?_ | (refine psel ?_ ?_ <;> (intro hc; (try rw [Decidable.not_not] at hc); first | (exfalso; omega) | (try simp [hc, List.replicate_succ, hw, ih, hsm_y_V_S, hsm_y_L, hsms_y_L]))))
           all_goals (clear hK; clear K))
        | (with_reducible refine wp_condE ?_
           refine ⟨_, rfl, ?_, ?_⟩ <;> (intro hc; (try simp at hc); (all_goals first | (exfalso; omega) | skip))))
      all_goals exact ⟨(pre ++ [⟨y_Kind, y_Col, y_Op, ⟨y_V_Ty, y_V_N, y_V_S⟩, y_L⟩], rest), by simp, by simp, by simp⟩

theorem ToPred_of (x : XPred) (IH : ToPreds x.L) : ToPred x := by
  intro k0 hx
  obtain ⟨x_Kind, x_Col, x_Op, ⟨x_V_Ty, x_V_N, x_V_S⟩, x_L⟩ := x
  simp only [XPred.sm_eq, XVal.sm, and_assoc] at hx
  obtain ⟨hsm_x_V_S, hsm_x_L, hsms_x_L⟩ := hx
  have ih := IH k0 hsm_x_L hsms_x_L
  simp only at ih
  refine Gw_of (F := pf245) rfl rfl ?_
  show Wp _ pb245 _ _
  unfold pb245
  repeat' (first
    | with_reducible (first | refine wp_seq ?_ | refine wp_blk ?_ | refine wp_skip ?_ | refine wp_exit ?_ | refine wp_ret ?_ | refine seqQ_norm ?_ | refine seqQ_ret ?_ | refine seqQ_exit ?_ | refine blkQ_norm ?_ | refine blkQ_ret ?_ | refine blkQ_exit ?_ | refine loopQ_norm ?_ | refine loopQ_exit ?_ | refine loopQ_ret ?_ | refine endQ_ret ?_ | refine endQ_norm ?_ | refine endE_ret ?_ | refine endE_norm ?_ | refine endI_ret ?_ | refine endI_norm ?_)
    | (with_reducible refine wp_regK fun K hK => ?_
       simp[ih]
       repeat' (with_reducible first | refine hK _ ?_ | (refine psel ?_ ?_ <;> (intro hc; (try rw [Decidable.not_not] at hc); first | (exfalso; omega) | (try simp [hc, ih]))))
       all_goals (clear hK; clear K))
    | (with_reducible refine wp_condE ?_
       refine ⟨_, rfl, ?_, ?_⟩ <;> (intro hc; (try simp at hc); (all_goals first | (exfalso; omega) | skip))))
  all_goals simp [pf245]

theorem ToPred_all (x : XPred) : ToPred x :=
  ToPred_of x (ToPreds_of x.L fun y hy => ToPred_all y)
termination_by SizeOf.sizeOf x
decreasing_by
  have h1 := List.sizeOf_lt_of_mem hy
  have h2 : SizeOf.sizeOf x.L < SizeOf.sizeOf x := by cases x; simp; omega
  omega

@[simp] theorem t245 (k0 : Bool) (x_Kind : Int) (x_Col : Int) (x_Op : Int) (x_V_Ty : Int) (x_V_N : Int) (x_V_S : ByteArray) (x_L : List XPred) (hsm_x_L : x_L.length ≤ 1048576) (hsms_x_L : XPred.sms x_L) (hv : x_V_S.size ≤ 1048576) : Gw TT 245 [.st [.ro false (di x_Kind), .ro false (di x_Col), .ro false (di x_Op), .ro false (di x_V_Ty), .ro false (di x_V_N), .ro false (.str x_V_S), .ro k0 (.sl 7 (x_L.map XPred.e))]] = some (.st [.ro false (di x_Kind), .ro false (di x_Col), .ro false (di x_Op), .ro false (di x_V_Ty), .ro false (di x_V_N), .ro false (.str x_V_S), .own (.sl 7 (x_L.map XPred.e))], []) := ToPred_all ⟨x_Kind, x_Col, x_Op, ⟨x_V_Ty, x_V_N, x_V_S⟩, x_L⟩ k0 (by simp only [XPred.sm_eq, XVal.sm, and_assoc]; exact ⟨hv, hsm_x_L, hsms_x_L⟩)

@[simp] theorem t246 (k0 : Bool) (l : List XPred) (h : l.length ≤ 1048576) (hs : XPred.sms l) : Gw TT 246 [.one (.ro k0 (.sl 7 (l.map XPred.e)))] = some (.one (.own (.sl 7 (l.map XPred.e))), []) := ToPreds_of l (fun y _ => ToPred_all y) k0 h hs

def EqPred (x : XPred) : Prop := ∀ k0 k1 : Bool, x.sm → Gw TT 153 [.st [.ro false (di x.Kind), .ro false (di x.Col), .ro false (di x.Op), .ro false (di x.V.Ty), .ro false (di x.V.N), .ro false (.str x.V.S), .ro k0 (.sl 7 (x.L.map XPred.e))], .st [.ro false (di x.Kind), .ro false (di x.Col), .ro false (di x.Op), .ro false (di x.V.Ty), .ro false (di x.V.N), .ro false (.str x.V.S), .ro k1 (.sl 7 (x.L.map XPred.e))]] = some (vb true, [])
def EqPreds (l : List XPred) : Prop := ∀ k0 k1 : Bool, l.length ≤ 1048576 → XPred.sms l → Gw TT 154 [.one (.ro k0 (.sl 7 (l.map XPred.e))), .one (.ro k1 (.sl 7 (l.map XPred.e)))] = some (vb true, [])

theorem EqPreds_of (l : List XPred) (IH : ∀ y ∈ l, EqPred y) : EqPreds l := by
  intro k0 k1 h hs
  refine Gw_of (F := pf154) rfl rfl ?_
  show Wp _ pb154 _ _
  unfold pb154
  repeat' (first
    | with_reducible (first | refine wp_seq ?_ | refine wp_blk ?_ | refine wp_skip ?_ | refine wp_exit ?_ | refine wp_ret ?_ | refine seqQ_norm ?_ | refine seqQ_ret ?_ | refine seqQ_exit ?_ | refine blkQ_norm ?_ | refine blkQ_ret ?_ | refine blkQ_exit ?_ | refine loopQ_norm ?_ | refine loopQ_exit ?_ | refine loopQ_ret ?_ | refine endQ_ret ?_ | refine endQ_norm ?_ | refine endE_ret ?_ | refine endE_norm ?_ | refine endI_ret ?_ | refine endI_norm ?_)
    | (with_reducible refine wp_regK fun K hK => ?_
       simp
       repeat' (with_reducible first | refine hK _ ?_ | (refine psel ?_ ?_ <;> (intro hc; (try rw [Decidable.not_not] at hc); first | (exfalso; omega) | (try simp [hc]))))
       all_goals (clear hK; clear K))
    | (with_reducible refine wp_condE ?_
       refine ⟨_, rfl, ?_, ?_⟩ <;> (intro hc; (try simp at hc); (all_goals first | (exfalso; omega) | skip))))
  · refine wp_loopI (σ := List XPred × List XPred) (fun s => [(0, AV.v k0 (D.sl 7 (List.map XPred.e l)), none), (1, AV.v k1 (D.sl 7 (List.map XPred.e l)), none), (5, AV.v false (di (s.1.length : Nat)), none)]) (fun s => l = s.1 ++ s.2) (fun s => s.2.length) ([], l) (by simp) rfl ?_
    rintro ⟨pre, rest⟩ h1
    simp only at h1
    subst h1
    simp only [List.length_append, List.length_cons] at h
    rcases rest with _ | ⟨⟨y_Kind, y_Col, y_Op, ⟨y_V_Ty, y_V_N, y_V_S⟩, y_L⟩, rest⟩
    · unfold pl154_0
      repeat' (first
        | with_reducible (first | refine wp_seq ?_ | refine wp_blk ?_ | refine wp_skip ?_ | refine wp_exit ?_ | refine wp_ret ?_ | refine seqQ_norm ?_ | refine seqQ_ret ?_ | refine seqQ_exit ?_ | refine blkQ_norm ?_ | refine blkQ_ret ?_ | refine blkQ_exit ?_ | refine loopQ_norm ?_ | refine loopQ_exit ?_ | refine loopQ_ret ?_ | refine endQ_ret ?_ | refine endQ_norm ?_ | refine endE_ret ?_ | refine endE_norm ?_ | refine endI_ret ?_ | refine endI_norm ?_)
        | (with_reducible refine wp_regK fun K hK => ?_
           simp
           repeat' (with_reducible first | refine hK _ ?_ | (refine psel ?_ ?_ <;> (intro hc; (try rw [Decidable.not_not] at hc); first | (exfalso; omega) | (try simp [hc]))))
           all_goals (clear hK; clear K))
        | (with_reducible refine wp_condE ?_
           refine ⟨_, rfl, ?_, ?_⟩ <;> (intro hc; (try simp at hc); (all_goals first | (exfalso; omega) | skip))))
      all_goals simp [pf154]
    · unfold pl154_0
      simp only [List.length_cons] at h
      have hw : IntKind.wrap .i64 ((pre.length : Int) + 1) = (pre.length : Int) + 1 := wrap_i64 (by omega) (by omega)
      have hd := XPred.sms_mem hs ⟨y_Kind, y_Col, y_Op, ⟨y_V_Ty, y_V_N, y_V_S⟩, y_L⟩ (by simp)
      simp only [XPred.sm_eq, XVal.sm, and_assoc] at hd
      obtain ⟨hsm_y_V_S, hsm_y_L, hsms_y_L⟩ := hd
      have ih := IH ⟨y_Kind, y_Col, y_Op, ⟨y_V_Ty, y_V_N, y_V_S⟩, y_L⟩ (by simp) k0 k1 (XPred.sms_mem hs ⟨y_Kind, y_Col, y_Op, ⟨y_V_Ty, y_V_N, y_V_S⟩, y_L⟩ (by simp))
      simp only at ih
      repeat' (first
        | with_reducible (first | refine wp_seq ?_ | refine wp_blk ?_ | refine wp_skip ?_ | refine wp_exit ?_ | refine wp_ret ?_ | refine seqQ_norm ?_ | refine seqQ_ret ?_ | refine seqQ_exit ?_ | refine blkQ_norm ?_ | refine blkQ_ret ?_ | refine blkQ_exit ?_ | refine loopQ_norm ?_ | refine loopQ_exit ?_ | refine loopQ_ret ?_ | refine endQ_ret ?_ | refine endQ_norm ?_ | refine endE_ret ?_ | refine endE_norm ?_ | refine endI_ret ?_ | refine endI_norm ?_)
        | (with_reducible refine wp_regK fun K hK => ?_
           simp[hw, ih, hsm_y_V_S, hsm_y_L, hsms_y_L]
           repeat' (with_reducible first | refine hK _ ?_ | (refine psel ?_ ?_ <;> (intro hc; (try rw [Decidable.not_not] at hc); first | (exfalso; omega) | (try simp [hc, hw, ih, hsm_y_V_S, hsm_y_L, hsms_y_L]))))
           all_goals (clear hK; clear K))
        | (with_reducible refine wp_condE ?_
           refine ⟨_, rfl, ?_, ?_⟩ <;> (intro hc; (try simp at hc); (all_goals first | (exfalso; omega) | skip))))
      all_goals exact ⟨(pre ++ [⟨y_Kind, y_Col, y_Op, ⟨y_V_Ty, y_V_N, y_V_S⟩, y_L⟩], rest), by simp, by simp, by simp⟩

theorem EqPred_of (x : XPred) (IH : EqPreds x.L) : EqPred x := by
  intro k0 k1 hx
  obtain ⟨x_Kind, x_Col, x_Op, ⟨x_V_Ty, x_V_N, x_V_S⟩, x_L⟩ := x
  simp only [XPred.sm_eq, XVal.sm, and_assoc] at hx
  obtain ⟨hsm_x_V_S, hsm_x_L, hsms_x_L⟩ := hx
  have ih := IH k0 k1 hsm_x_L hsms_x_L
  simp only at ih
  refine Gw_of (F := pf153) rfl rfl ?_
  show Wp _ pb153 _ _
  unfold pb153
  repeat' (first
    | with_reducible (first | refine wp_seq ?_ | refine wp_blk ?_ | refine wp_skip ?_ | refine wp_exit ?_ | refine wp_ret ?_ | refine seqQ_norm ?_ | refine seqQ_ret ?_ | refine seqQ_exit ?_ | refine blkQ_norm ?_ | refine blkQ_ret ?_ | refine blkQ_exit ?_ | refine loopQ_norm ?_ | refine loopQ_exit ?_ | refine loopQ_ret ?_ | refine endQ_ret ?_ | refine endQ_norm ?_ | refine endE_ret ?_ | refine endE_norm ?_ | refine endI_ret ?_ | refine endI_norm ?_)
    | (with_reducible refine wp_regK fun K hK => ?_
       simp[ih]
       repeat' (with_reducible first | refine hK _ ?_ | (refine psel ?_ ?_ <;> (intro hc; (try rw [Decidable.not_not] at hc); first | (exfalso; omega) | (try simp [hc, ih]))))
       all_goals (clear hK; clear K))
    | (with_reducible refine wp_condE ?_
       refine ⟨_, rfl, ?_, ?_⟩ <;> (intro hc; (try simp at hc); (all_goals first | (exfalso; omega) | skip))))
  all_goals simp [pf153]

theorem EqPred_all (x : XPred) : EqPred x :=
  EqPred_of x (EqPreds_of x.L fun y hy => EqPred_all y)
termination_by SizeOf.sizeOf x
decreasing_by
  have h1 := List.sizeOf_lt_of_mem hy
  have h2 : SizeOf.sizeOf x.L < SizeOf.sizeOf x := by cases x; simp; omega
  omega

@[simp] theorem t153 (k0 k1 : Bool) (x_Kind : Int) (x_Col : Int) (x_Op : Int) (x_V_Ty : Int) (x_V_N : Int) (x_V_S : ByteArray) (x_L : List XPred) (hok_x_L : x_L.length ≤ 1048576) (hoks_x_L : XPred.sms x_L) (hv : x_V_S.size ≤ 1048576) : Gw TT 153 [.st [.ro false (di x_Kind), .ro false (di x_Col), .ro false (di x_Op), .ro false (di x_V_Ty), .ro false (di x_V_N), .ro false (.str x_V_S), .ro k0 (.sl 7 (x_L.map XPred.e))], .st [.ro false (di x_Kind), .ro false (di x_Col), .ro false (di x_Op), .ro false (di x_V_Ty), .ro false (di x_V_N), .ro false (.str x_V_S), .ro k1 (.sl 7 (x_L.map XPred.e))]] = some (vb true, []) := EqPred_all ⟨x_Kind, x_Col, x_Op, ⟨x_V_Ty, x_V_N, x_V_S⟩, x_L⟩ k0 k1 (by simp only [XPred.sm_eq, XVal.sm, and_assoc]; exact ⟨hv, hok_x_L, hoks_x_L⟩)

@[simp] theorem t154 (k0 k1 : Bool) (l : List XPred) (h : l.length ≤ 1048576) (hs : XPred.sms l) : Gw TT 154 [.one (.ro k0 (.sl 7 (l.map XPred.e))), .one (.ro k1 (.sl 7 (l.map XPred.e)))] = some (vb true, []) := EqPreds_of l (fun y _ => EqPred_all y) k0 k1 h hs

@[simp] theorem t247 (k0 : Bool) (x_Kind : Int) (x_P_Kind : Int) (x_P_Col : Int) (x_P_Op : Int) (x_P_V_Ty : Int) (x_P_V_N : Int) (x_P_V_S : ByteArray) (x_P_L : List XPred) (x_Col : Int) (x_Out : List Int) (hsm_x_P_V_S : x_P_V_S.size ≤ 1048576) (hsm_x_P_L : x_P_L.length ≤ 1048576) (hsms_x_P_L : XPred.sms x_P_L) (hsm_x_Out : x_Out.length ≤ 1048576) : Gw TT 247 [.st [.ro false (di x_Kind), .ro false (di x_P_Kind), .ro false (di x_P_Col), .ro false (di x_P_Op), .ro false (di x_P_V_Ty), .ro false (di x_P_V_N), .ro false (.str x_P_V_S), .ro k0 (.sl 7 (x_P_L.map XPred.e)), .ro false (di x_Col), .ro k0 (.sl 1 (x_Out.map ei))]] = some (.st [.ro false (di x_Kind), .ro false (di x_P_Kind), .ro false (di x_P_Col), .ro false (di x_P_Op), .ro false (di x_P_V_Ty), .ro false (di x_P_V_N), .ro false (.str x_P_V_S), .own (.sl 7 (x_P_L.map XPred.e)), .ro false (di x_Col), .own (.sl 1 (x_Out.map ei))], []) := by
  refine Gw_of (F := pf247) rfl rfl ?_
  show Wp _ pb247 _ _
  unfold pb247
  repeat' (first
    | with_reducible (first | refine wp_seq ?_ | refine wp_blk ?_ | refine wp_skip ?_ | refine wp_exit ?_ | refine wp_ret ?_ | refine seqQ_norm ?_ | refine seqQ_ret ?_ | refine seqQ_exit ?_ | refine blkQ_norm ?_ | refine blkQ_ret ?_ | refine blkQ_exit ?_ | refine loopQ_norm ?_ | refine loopQ_exit ?_ | refine loopQ_ret ?_ | refine endQ_ret ?_ | refine endQ_norm ?_ | refine endE_ret ?_ | refine endE_norm ?_ | refine endI_ret ?_ | refine endI_norm ?_)
    | (with_reducible refine wp_regK fun K hK => ?_
       simp[hsm_x_P_V_S, hsm_x_P_L, hsms_x_P_L, hsm_x_Out]
       repeat' (with_reducible first | refine hK _ ?_ | (refine psel ?_ ?_ <;> (intro hc; (try rw [Decidable.not_not] at hc); first | (exfalso; omega) | (try simp [hc, hsm_x_P_V_S, hsm_x_P_L, hsms_x_P_L, hsm_x_Out]))))
       all_goals (clear hK; clear K))
    | (with_reducible refine wp_condE ?_
       refine ⟨_, rfl, ?_, ?_⟩ <;> (intro hc; (try simp at hc); (all_goals first | (exfalso; omega) | skip))))
  all_goals simp [pf247]

@[simp] theorem t155 (k0 k1 : Bool) (x_Kind : Int) (x_P_Kind : Int) (x_P_Col : Int) (x_P_Op : Int) (x_P_V_Ty : Int) (x_P_V_N : Int) (x_P_V_S : ByteArray) (x_P_L : List XPred) (x_Col : Int) (x_Out : List Int) (hok_x_P_V_S : x_P_V_S.size ≤ 1048576) (hok_x_P_L : x_P_L.length ≤ 1048576) (hoks_x_P_L : XPred.sms x_P_L) (hok_x_Out : x_Out.length ≤ 1048576) : Gw TT 155 [.st [.ro false (di x_Kind), .ro false (di x_P_Kind), .ro false (di x_P_Col), .ro false (di x_P_Op), .ro false (di x_P_V_Ty), .ro false (di x_P_V_N), .ro false (.str x_P_V_S), .ro k0 (.sl 7 (x_P_L.map XPred.e)), .ro false (di x_Col), .ro k0 (.sl 1 (x_Out.map ei))], .st [.ro false (di x_Kind), .ro false (di x_P_Kind), .ro false (di x_P_Col), .ro false (di x_P_Op), .ro false (di x_P_V_Ty), .ro false (di x_P_V_N), .ro false (.str x_P_V_S), .ro k1 (.sl 7 (x_P_L.map XPred.e)), .ro false (di x_Col), .ro k1 (.sl 1 (x_Out.map ei))]] = some (vb true, []) := by
  refine Gw_of (F := pf155) rfl rfl ?_
  show Wp _ pb155 _ _
  unfold pb155
  repeat' (first
    | with_reducible (first | refine wp_seq ?_ | refine wp_blk ?_ | refine wp_skip ?_ | refine wp_exit ?_ | refine wp_ret ?_ | refine seqQ_norm ?_ | refine seqQ_ret ?_ | refine seqQ_exit ?_ | refine blkQ_norm ?_ | refine blkQ_ret ?_ | refine blkQ_exit ?_ | refine loopQ_norm ?_ | refine loopQ_exit ?_ | refine loopQ_ret ?_ | refine endQ_ret ?_ | refine endQ_norm ?_ | refine endE_ret ?_ | refine endE_norm ?_ | refine endI_ret ?_ | refine endI_norm ?_)
    | (with_reducible refine wp_regK fun K hK => ?_
       simp[hok_x_P_V_S, hok_x_P_L, hoks_x_P_L, hok_x_Out]
       repeat' (with_reducible first | refine hK _ ?_ | (refine psel ?_ ?_ <;> (intro hc; (try rw [Decidable.not_not] at hc); first | (exfalso; omega) | (try simp [hc, hok_x_P_V_S, hok_x_P_L, hoks_x_P_L, hok_x_Out]))))
       all_goals (clear hK; clear K))
    | (with_reducible refine wp_condE ?_
       refine ⟨_, rfl, ?_, ?_⟩ <;> (intro hc; (try simp at hc); (all_goals first | (exfalso; omega) | skip))))
  all_goals simp [pf155]

@[simp] theorem t255 (k0 : Bool) (x_Op : Int) (x_Pc : Int) (x_H : Int) (x_R : List XVal) (x_Id : Int) (x_Q_Kind : Int) (x_Q_P_Kind : Int) (x_Q_P_Col : Int) (x_Q_P_Op : Int) (x_Q_P_V_Ty : Int) (x_Q_P_V_N : Int) (x_Q_P_V_S : ByteArray) (x_Q_P_L : List XPred) (x_Q_Col : Int) (x_Q_Out : List Int) (x_Ts : Int) (x_Ver : Int) (x_L : List XRef) (x_I : Int) (x_J : Int) (x_S : Int) (x_At : Int) (x_Own : Int) (x_Won : Bool) (x_Got : List XRow) (hsm_x_R : x_R.length ≤ 1048576) (hsms_x_R : XVal.sms x_R) (hsm_x_Q_P_V_S : x_Q_P_V_S.size ≤ 1048576) (hsm_x_Q_P_L : x_Q_P_L.length ≤ 1048576) (hsms_x_Q_P_L : XPred.sms x_Q_P_L) (hsm_x_Q_Out : x_Q_Out.length ≤ 1048576) (hsm_x_L : x_L.length ≤ 1048576) (hsm_x_Got : x_Got.length ≤ 1048576) (hsms_x_Got : XRow.sms x_Got) : Gw TT 255 [.st [.ro false (di x_Op), .ro false (di x_Pc), .ro false (di x_H), .ro k0 (.sl 3 (x_R.map XVal.e)), .ro false (di x_Id), .ro false (di x_Q_Kind), .ro false (di x_Q_P_Kind), .ro false (di x_Q_P_Col), .ro false (di x_Q_P_Op), .ro false (di x_Q_P_V_Ty), .ro false (di x_Q_P_V_N), .ro false (.str x_Q_P_V_S), .ro k0 (.sl 7 (x_Q_P_L.map XPred.e)), .ro false (di x_Q_Col), .ro k0 (.sl 1 (x_Q_Out.map ei)), .ro false (di x_Ts), .ro false (di x_Ver), .ro k0 (.sl 5 (x_L.map XRef.e)), .ro false (di x_I), .ro false (di x_J), .ro false (di x_S), .ro false (di x_At), .ro false (di x_Own), .ro false (.bool x_Won), .ro k0 (.sl 2 (x_Got.map XRow.e))]] = some (.st [.ro false (di x_Op), .ro false (di x_Pc), .ro false (di x_H), .own (.sl 3 (x_R.map XVal.e)), .ro false (di x_Id), .ro false (di x_Q_Kind), .ro false (di x_Q_P_Kind), .ro false (di x_Q_P_Col), .ro false (di x_Q_P_Op), .ro false (di x_Q_P_V_Ty), .ro false (di x_Q_P_V_N), .ro false (.str x_Q_P_V_S), .own (.sl 7 (x_Q_P_L.map XPred.e)), .ro false (di x_Q_Col), .own (.sl 1 (x_Q_Out.map ei)), .ro false (di x_Ts), .ro false (di x_Ver), .own (.sl 5 (x_L.map XRef.e)), .ro false (di x_I), .ro false (di x_J), .ro false (di x_S), .ro false (di x_At), .ro false (di x_Own), .ro false (.bool x_Won), .own (.sl 2 (x_Got.map XRow.e))], []) := by
  refine Gw_of (F := pf255) rfl rfl ?_
  show Wp _ pb255 _ _
  unfold pb255
  repeat' (first
    | with_reducible (first | refine wp_seq ?_ | refine wp_blk ?_ | refine wp_skip ?_ | refine wp_exit ?_ | refine wp_ret ?_ | refine seqQ_norm ?_ | refine seqQ_ret ?_ | refine seqQ_exit ?_ | refine blkQ_norm ?_ | refine blkQ_ret ?_ | refine blkQ_exit ?_ | refine loopQ_norm ?_ | refine loopQ_exit ?_ | refine loopQ_ret ?_ | refine endQ_ret ?_ | refine endQ_norm ?_ | refine endE_ret ?_ | refine endE_norm ?_ | refine endI_ret ?_ | refine endI_norm ?_)
    | (with_reducible refine wp_regK fun K hK => ?_
       simp[hsm_x_R, hsms_x_R, hsm_x_Q_P_V_S, hsm_x_Q_P_L, hsms_x_Q_P_L, hsm_x_Q_Out, hsm_x_L, hsm_x_Got, hsms_x_Got]
       repeat' (with_reducible first | refine hK _ ?_ | (refine psel ?_ ?_ <;> (intro hc; (try rw [Decidable.not_not] at hc); first | (exfalso; omega) | (try simp [hc, hsm_x_R, hsms_x_R, hsm_x_Q_P_V_S, hsm_x_Q_P_L, hsms_x_Q_P_L, hsm_x_Q_Out, hsm_x_L, hsm_x_Got, hsms_x_Got]))))
       all_goals (clear hK; clear K))
    | (with_reducible refine wp_condE ?_
       refine ⟨_, rfl, ?_, ?_⟩ <;> (intro hc; (try simp at hc); (all_goals first | (exfalso; omega) | skip))))
  all_goals simp [pf255]

@[simp] theorem t163 (k0 k1 : Bool) (x_Op : Int) (x_Pc : Int) (x_H : Int) (x_R : List XVal) (x_Id : Int) (x_Q_Kind : Int) (x_Q_P_Kind : Int) (x_Q_P_Col : Int) (x_Q_P_Op : Int) (x_Q_P_V_Ty : Int) (x_Q_P_V_N : Int) (x_Q_P_V_S : ByteArray) (x_Q_P_L : List XPred) (x_Q_Col : Int) (x_Q_Out : List Int) (x_Ts : Int) (x_Ver : Int) (x_L : List XRef) (x_I : Int) (x_J : Int) (x_S : Int) (x_At : Int) (x_Own : Int) (x_Won : Bool) (x_Got : List XRow) (hok_x_R : x_R.length ≤ 1048576) (hoks_x_R : XVal.sms x_R) (hok_x_Q_P_V_S : x_Q_P_V_S.size ≤ 1048576) (hok_x_Q_P_L : x_Q_P_L.length ≤ 1048576) (hoks_x_Q_P_L : XPred.sms x_Q_P_L) (hok_x_Q_Out : x_Q_Out.length ≤ 1048576) (hok_x_L : x_L.length ≤ 1048576) (hok_x_Got : x_Got.length ≤ 1048576) (hoks_x_Got : XRow.sms x_Got) : Gw TT 163 [.st [.ro false (di x_Op), .ro false (di x_Pc), .ro false (di x_H), .ro k0 (.sl 3 (x_R.map XVal.e)), .ro false (di x_Id), .ro false (di x_Q_Kind), .ro false (di x_Q_P_Kind), .ro false (di x_Q_P_Col), .ro false (di x_Q_P_Op), .ro false (di x_Q_P_V_Ty), .ro false (di x_Q_P_V_N), .ro false (.str x_Q_P_V_S), .ro k0 (.sl 7 (x_Q_P_L.map XPred.e)), .ro false (di x_Q_Col), .ro k0 (.sl 1 (x_Q_Out.map ei)), .ro false (di x_Ts), .ro false (di x_Ver), .ro k0 (.sl 5 (x_L.map XRef.e)), .ro false (di x_I), .ro false (di x_J), .ro false (di x_S), .ro false (di x_At), .ro false (di x_Own), .ro false (.bool x_Won), .ro k0 (.sl 2 (x_Got.map XRow.e))], .st [.ro false (di x_Op), .ro false (di x_Pc), .ro false (di x_H), .ro k1 (.sl 3 (x_R.map XVal.e)), .ro false (di x_Id), .ro false (di x_Q_Kind), .ro false (di x_Q_P_Kind), .ro false (di x_Q_P_Col), .ro false (di x_Q_P_Op), .ro false (di x_Q_P_V_Ty), .ro false (di x_Q_P_V_N), .ro false (.str x_Q_P_V_S), .ro k1 (.sl 7 (x_Q_P_L.map XPred.e)), .ro false (di x_Q_Col), .ro k1 (.sl 1 (x_Q_Out.map ei)), .ro false (di x_Ts), .ro false (di x_Ver), .ro k1 (.sl 5 (x_L.map XRef.e)), .ro false (di x_I), .ro false (di x_J), .ro false (di x_S), .ro false (di x_At), .ro false (di x_Own), .ro false (.bool x_Won), .ro k1 (.sl 2 (x_Got.map XRow.e))]] = some (vb true, []) := by
  refine Gw_of (F := pf163) rfl rfl ?_
  show Wp _ pb163 _ _
  unfold pb163
  repeat' (first
    | with_reducible (first | refine wp_seq ?_ | refine wp_blk ?_ | refine wp_skip ?_ | refine wp_exit ?_ | refine wp_ret ?_ | refine seqQ_norm ?_ | refine seqQ_ret ?_ | refine seqQ_exit ?_ | refine blkQ_norm ?_ | refine blkQ_ret ?_ | refine blkQ_exit ?_ | refine loopQ_norm ?_ | refine loopQ_exit ?_ | refine loopQ_ret ?_ | refine endQ_ret ?_ | refine endQ_norm ?_ | refine endE_ret ?_ | refine endE_norm ?_ | refine endI_ret ?_ | refine endI_norm ?_)
    | (with_reducible refine wp_regK fun K hK => ?_
       simp[hok_x_R, hoks_x_R, hok_x_Q_P_V_S, hok_x_Q_P_L, hoks_x_Q_P_L, hok_x_Q_Out, hok_x_L, hok_x_Got, hoks_x_Got]
       repeat' (with_reducible first | refine hK _ ?_ | (refine psel ?_ ?_ <;> (intro hc; (try rw [Decidable.not_not] at hc); first | (exfalso; omega) | (try simp [hc, hok_x_R, hoks_x_R, hok_x_Q_P_V_S, hok_x_Q_P_L, hoks_x_Q_P_L, hok_x_Q_Out, hok_x_L, hok_x_Got, hoks_x_Got]))))
       all_goals (clear hK; clear K))
    | (with_reducible refine wp_condE ?_
       refine ⟨_, rfl, ?_, ?_⟩ <;> (intro hc; (try simp at hc); (all_goals first | (exfalso; omega) | skip))))
  all_goals simp [pf163]

theorem t219 (k0 : Bool) (l : List Int) (left : Int) (h0 : 0 ≤ left) (h1 : left ≤ 1048576) (hl : l.length ≤ 9223372036854775807) :
    ∃ n, Gw TT 219 [.one (.ro k0 (.sl 1 (l.map ei))), vi left] = some (vi n, []) ∧ -1 ≤ n ∧ n ≤ left ∧ (0 ≤ n → l.length ≤ 1048576) := by
  refine Gw_ofI (F := pf219) rfl rfl ?_
  show Wp _ pb219 _ _
  unfold pb219
  have g : IntKind.wrap .i64 (left - (l.length : Int)) = left - (l.length : Int) := wrap_i64 (by omega) (by omega)
  repeat' (first
    | with_reducible (first | refine wp_seq ?_ | refine wp_blk ?_ | refine wp_skip ?_ | refine wp_exit ?_ | refine wp_ret ?_ | refine seqQ_norm ?_ | refine seqQ_ret ?_ | refine seqQ_exit ?_ | refine blkQ_norm ?_ | refine blkQ_ret ?_ | refine blkQ_exit ?_ | refine loopQ_norm ?_ | refine loopQ_exit ?_ | refine loopQ_ret ?_ | refine endQ_ret ?_ | refine endQ_norm ?_ | refine endE_ret ?_ | refine endE_norm ?_ | refine endI_ret ?_ | refine endI_norm ?_)
    | (with_reducible refine wp_regK fun K hK => ?_
       simp[g]
       repeat' (with_reducible first | refine hK _ ?_ | (refine psel ?_ ?_ <;> (intro hc; (try rw [Decidable.not_not] at hc); first | (exfalso; omega) | (try simp [hc, g]))))
       all_goals (clear hK; clear K))
    | (with_reducible refine wp_condE ?_
       refine ⟨_, rfl, ?_, ?_⟩ <;> (intro hc; (try simp at hc); (all_goals first | (exfalso; omega) | skip))))
  · exact ⟨-1, by simp [pf219], by omega, by omega, fun h => absurd h (by omega)⟩
  · exact ⟨left - (l.length : Int), by simp [pf219], by omega, by omega, fun _ => by omega⟩

theorem t231 (x_Ty : Int) (x_N : Int) (x_S : ByteArray) (left : Int) (h0 : 0 ≤ left) (h1 : left ≤ 1048576) (hok_x_S : x_S.size ≤ 9223372036854775807) :
    ∃ n, Gw TT 231 [.st [.ro false (di x_Ty), .ro false (di x_N), .ro false (.str x_S)], vi left] = some (vi n, []) ∧ -1 ≤ n ∧ n ≤ left ∧ (0 ≤ n → x_S.size ≤ 1048576) := by
  refine Gw_ofI (F := pf231) rfl rfl ?_
  show Wp _ pb231 _ _
  unfold pb231
  have g1 : IntKind.wrap .i64 (left - (x_S.size : Int)) = left - (x_S.size : Int) := wrap_i64 (by omega) (by omega)
  repeat' (first
    | with_reducible (first | refine wp_seq ?_ | refine wp_blk ?_ | refine wp_skip ?_ | refine wp_exit ?_ | refine wp_ret ?_ | refine seqQ_norm ?_ | refine seqQ_ret ?_ | refine seqQ_exit ?_ | refine blkQ_norm ?_ | refine blkQ_ret ?_ | refine blkQ_exit ?_ | refine loopQ_norm ?_ | refine loopQ_exit ?_ | refine loopQ_ret ?_ | refine endQ_ret ?_ | refine endQ_norm ?_ | refine endE_ret ?_ | refine endE_norm ?_ | refine endI_ret ?_ | refine endI_norm ?_)
    | (with_reducible refine wp_regK fun K hK => ?_
       simp[g1]
       repeat' (with_reducible first | refine hK _ ?_ | (refine psel ?_ ?_ <;> (intro hc; (try rw [Decidable.not_not] at hc); first | (exfalso; omega) | (try simp [hc, g1]))))
       all_goals (clear hK; clear K))
    | (with_reducible refine wp_condE ?_
       refine ⟨_, rfl, ?_, ?_⟩ <;> (intro hc; (try simp at hc); (all_goals first | (exfalso; omega) | skip))))
  · exact ⟨-1, by simp [pf231], by omega, by omega, fun h => absurd h (by omega)⟩
  · exact ⟨left - (x_S.size : Int), by simp [pf231], by omega, by omega, fun _ => (by omega)⟩

theorem t232 (k0 : Bool) (l : List XVal) (left : Int) (h0 : 0 ≤ left) (h1 : left ≤ 1048576) (hl : l.length ≤ 9223372036854775807) (hok : XVal.oks l) :
    ∃ n, Gw TT 232 [.one (.ro k0 (.sl 3 (l.map XVal.e))), vi left] = some (vi n, []) ∧ -1 ≤ n ∧ n ≤ left ∧ (0 ≤ n → l.length ≤ 1048576 ∧ XVal.sms l) := by
  refine Gw_ofI (F := pf232) rfl rfl ?_
  show Wp _ pb232 _ _
  unfold pb232
  have g : IntKind.wrap .i64 (left - (l.length : Int)) = left - (l.length : Int) := wrap_i64 (by omega) (by omega)
  repeat' (first
    | with_reducible (first | refine wp_seq ?_ | refine wp_blk ?_ | refine wp_skip ?_ | refine wp_exit ?_ | refine wp_ret ?_ | refine seqQ_norm ?_ | refine seqQ_ret ?_ | refine seqQ_exit ?_ | refine blkQ_norm ?_ | refine blkQ_ret ?_ | refine blkQ_exit ?_ | refine loopQ_norm ?_ | refine loopQ_exit ?_ | refine loopQ_ret ?_ | refine endQ_ret ?_ | refine endQ_norm ?_ | refine endE_ret ?_ | refine endE_norm ?_ | refine endI_ret ?_ | refine endI_norm ?_)
    | (with_reducible refine wp_regK fun K hK => ?_
       simp[g]
       repeat' (with_reducible first | refine hK _ ?_ | (refine psel ?_ ?_ <;> (intro hc; (try rw [Decidable.not_not] at hc); first | (exfalso; omega) | (try simp [hc, g]))))
       all_goals (clear hK; clear K))
    | (with_reducible refine wp_condE ?_
       refine ⟨_, rfl, ?_, ?_⟩ <;> (intro hc; (try simp at hc); (all_goals first | (exfalso; omega) | skip))))
  · exact ⟨-1, by simp [pf232], by omega, by omega, fun h => absurd h (by omega)⟩
  · refine wp_loopI (σ := List XVal × List XVal × Int) (fun s => [(0, AV.v k0 (D.sl 3 (List.map XVal.e l)), none), (1, AV.v false (di s.2.2), none), (5, AV.v false (di (s.1.length : Nat)), none)]) (fun s => l = s.1 ++ s.2.1 ∧ 0 ≤ s.2.2 ∧ s.2.2 ≤ left - (l.length : Int) ∧ XVal.sms s.1) (fun s => s.2.1.length) ([], l, left - (l.length : Int)) (by simp) ⟨rfl, by simp only; omega, by simp only; omega, fun y hy => by simp at hy⟩ ?_
    rintro ⟨pre, rest, lf⟩ ⟨h2, h3, h4, h5⟩
    simp only at h2 h3 h4 h5
    subst h2
    simp only [List.length_append, List.length_cons] at hl h4 g
    rcases rest with _ | ⟨⟨y_Ty, y_N, y_S⟩, rest⟩
    · unfold pl232_0
      repeat' (first
        | with_reducible (first | refine wp_seq ?_ | refine wp_blk ?_ | refine wp_skip ?_ | refine wp_exit ?_ | refine wp_ret ?_ | refine seqQ_norm ?_ | refine seqQ_ret ?_ | refine seqQ_exit ?_ | refine blkQ_norm ?_ | refine blkQ_ret ?_ | refine blkQ_exit ?_ | refine loopQ_norm ?_ | refine loopQ_exit ?_ | refine loopQ_ret ?_ | refine endQ_ret ?_ | refine endQ_norm ?_ | refine endE_ret ?_ | refine endE_norm ?_ | refine endI_ret ?_ | refine endI_norm ?_)
        | (with_reducible refine wp_regK fun K hK => ?_
           simp
           repeat' (with_reducible first | refine hK _ ?_ | (refine psel ?_ ?_ <;> (intro hc; (try rw [Decidable.not_not] at hc); first | (exfalso; omega) | (try simp [hc]))))
           all_goals (clear hK; clear K))
        | (with_reducible refine wp_condE ?_
           refine ⟨_, rfl, ?_, ?_⟩ <;> (intro hc; (try simp at hc); (all_goals first | (exfalso; omega) | skip))))
      simp only [List.length_nil] at h4
      all_goals exact ⟨lf, by simp [pf232], by omega, by omega, fun _ => ⟨by simp; omega, by simpa using h5⟩⟩
    · unfold pl232_0
      simp only [List.length_cons] at hl h4
      have hw : IntKind.wrap .i64 ((pre.length : Int) + 1) = (pre.length : Int) + 1 := wrap_i64 (by omega) (by omega)
      have hd := hok ⟨y_Ty, y_N, y_S⟩ (by simp)
      simp only [XVal.ok, and_assoc] at hd
      obtain ⟨hlo_y_Ty, hhi_y_Ty, hlo_y_N, hhi_y_N, hok_y_S⟩ := hd
      obtain ⟨n1, g1, a1, b1, s1⟩ := t231 y_Ty y_N y_S lf (by omega) (by omega) hok_y_S
      repeat' (first
        | with_reducible (first | refine wp_seq ?_ | refine wp_blk ?_ | refine wp_skip ?_ | refine wp_exit ?_ | refine wp_ret ?_ | refine seqQ_norm ?_ | refine seqQ_ret ?_ | refine seqQ_exit ?_ | refine blkQ_norm ?_ | refine blkQ_ret ?_ | refine blkQ_exit ?_ | refine loopQ_norm ?_ | refine loopQ_exit ?_ | refine loopQ_ret ?_ | refine endQ_ret ?_ | refine endQ_norm ?_ | refine endE_ret ?_ | refine endE_norm ?_ | refine endI_ret ?_ | refine endI_norm ?_)
        | (with_reducible refine wp_regK fun K hK => ?_
           simp[g1, hw]
           repeat' (with_reducible first | refine hK _ ?_ | (refine psel ?_ ?_ <;> (intro hc; (try rw [Decidable.not_not] at hc); first | (exfalso; omega) | (try simp [hc, g1, hw]))))
           all_goals (clear hK; clear K))
        | (with_reducible refine wp_condE ?_
           refine ⟨_, rfl, ?_, ?_⟩ <;> (intro hc; (try simp at hc); (all_goals first | (exfalso; omega) | skip))))
      · exact ⟨-1, by simp [pf232], by omega, by omega, fun h => absurd h (by omega)⟩
      · exact ⟨(pre ++ [⟨y_Ty, y_N, y_S⟩], rest, n1), by simp, ⟨by simp, by simp only; omega, by simp only [List.length_append, List.length_cons]; omega, fun y hy => by
          rcases List.mem_append.1 hy with hy | hy
          · exact h5 y hy
          · rw [List.mem_singleton.1 hy]
            simp only [XVal.sm, and_assoc]
            exact s1 (by omega)⟩, by simp⟩

theorem t225 (k0 : Bool) (x_Id : Int) (x_L : List XVal) (left : Int) (h0 : 0 ≤ left) (h1 : left ≤ 1048576) (hok_x_L : x_L.length ≤ 9223372036854775807) (hoks_x_L : XVal.oks x_L) :
    ∃ n, Gw TT 225 [.st [.ro false (di x_Id), .ro k0 (.sl 3 (x_L.map XVal.e))], vi left] = some (vi n, []) ∧ -1 ≤ n ∧ n ≤ left ∧ (0 ≤ n → x_L.length ≤ 1048576 ∧ XVal.sms x_L) := by
  refine Gw_ofI (F := pf225) rfl rfl ?_
  show Wp _ pb225 _ _
  unfold pb225
  obtain ⟨n1, g1, a1, b1, s1⟩ := t232 k0 x_L left (by omega) (by omega) hok_x_L hoks_x_L
  repeat' (first
    | with_reducible (first | refine wp_seq ?_ | refine wp_blk ?_ | refine wp_skip ?_ | refine wp_exit ?_ | refine wp_ret ?_ | refine seqQ_norm ?_ | refine seqQ_ret ?_ | refine seqQ_exit ?_ | refine blkQ_norm ?_ | refine blkQ_ret ?_ | refine blkQ_exit ?_ | refine loopQ_norm ?_ | refine loopQ_exit ?_ | refine loopQ_ret ?_ | refine endQ_ret ?_ | refine endQ_norm ?_ | refine endE_ret ?_ | refine endE_norm ?_ | refine endI_ret ?_ | refine endI_norm ?_)
    | (with_reducible refine wp_regK fun K hK => ?_
       simp[g1]
       repeat' (with_reducible first | refine hK _ ?_ | (refine psel ?_ ?_ <;> (intro hc; (try rw [Decidable.not_not] at hc); first | (exfalso; omega) | (try simp [hc, g1]))))
       all_goals (clear hK; clear K))
    | (with_reducible refine wp_condE ?_
       refine ⟨_, rfl, ?_, ?_⟩ <;> (intro hc; (try simp at hc); (all_goals first | (exfalso; omega) | skip))))
  · exact ⟨-1, by simp [pf225], by omega, by omega, fun h => absurd h (by omega)⟩
  · exact ⟨n1, by simp [pf225], by omega, by omega, fun _ => ⟨(s1 (by omega)).1, (s1 (by omega)).2⟩⟩

theorem t226 (k0 : Bool) (l : List XRow) (left : Int) (h0 : 0 ≤ left) (h1 : left ≤ 1048576) (hl : l.length ≤ 9223372036854775807) (hok : XRow.oks l) :
    ∃ n, Gw TT 226 [.one (.ro k0 (.sl 2 (l.map XRow.e))), vi left] = some (vi n, []) ∧ -1 ≤ n ∧ n ≤ left ∧ (0 ≤ n → l.length ≤ 1048576 ∧ XRow.sms l) := by
  refine Gw_ofI (F := pf226) rfl rfl ?_
  show Wp _ pb226 _ _
  unfold pb226
  have g : IntKind.wrap .i64 (left - (l.length : Int)) = left - (l.length : Int) := wrap_i64 (by omega) (by omega)
  repeat' (first
    | with_reducible (first | refine wp_seq ?_ | refine wp_blk ?_ | refine wp_skip ?_ | refine wp_exit ?_ | refine wp_ret ?_ | refine seqQ_norm ?_ | refine seqQ_ret ?_ | refine seqQ_exit ?_ | refine blkQ_norm ?_ | refine blkQ_ret ?_ | refine blkQ_exit ?_ | refine loopQ_norm ?_ | refine loopQ_exit ?_ | refine loopQ_ret ?_ | refine endQ_ret ?_ | refine endQ_norm ?_ | refine endE_ret ?_ | refine endE_norm ?_ | refine endI_ret ?_ | refine endI_norm ?_)
    | (with_reducible refine wp_regK fun K hK => ?_
       simp[g]
       repeat' (with_reducible first | refine hK _ ?_ | (refine psel ?_ ?_ <;> (intro hc; (try rw [Decidable.not_not] at hc); first | (exfalso; omega) | (try simp [hc, g]))))
       all_goals (clear hK; clear K))
    | (with_reducible refine wp_condE ?_
       refine ⟨_, rfl, ?_, ?_⟩ <;> (intro hc; (try simp at hc); (all_goals first | (exfalso; omega) | skip))))
  · exact ⟨-1, by simp [pf226], by omega, by omega, fun h => absurd h (by omega)⟩
  · refine wp_loopI (σ := List XRow × List XRow × Int) (fun s => [(0, AV.v k0 (D.sl 2 (List.map XRow.e l)), none), (1, AV.v false (di s.2.2), none), (5, AV.v false (di (s.1.length : Nat)), none)]) (fun s => l = s.1 ++ s.2.1 ∧ 0 ≤ s.2.2 ∧ s.2.2 ≤ left - (l.length : Int) ∧ XRow.sms s.1) (fun s => s.2.1.length) ([], l, left - (l.length : Int)) (by simp) ⟨rfl, by simp only; omega, by simp only; omega, fun y hy => by simp at hy⟩ ?_
    rintro ⟨pre, rest, lf⟩ ⟨h2, h3, h4, h5⟩
    simp only at h2 h3 h4 h5
    subst h2
    simp only [List.length_append, List.length_cons] at hl h4 g
    rcases rest with _ | ⟨⟨y_Id, y_L⟩, rest⟩
    · unfold pl226_0
      repeat' (first
        | with_reducible (first | refine wp_seq ?_ | refine wp_blk ?_ | refine wp_skip ?_ | refine wp_exit ?_ | refine wp_ret ?_ | refine seqQ_norm ?_ | refine seqQ_ret ?_ | refine seqQ_exit ?_ | refine blkQ_norm ?_ | refine blkQ_ret ?_ | refine blkQ_exit ?_ | refine loopQ_norm ?_ | refine loopQ_exit ?_ | refine loopQ_ret ?_ | refine endQ_ret ?_ | refine endQ_norm ?_ | refine endE_ret ?_ | refine endE_norm ?_ | refine endI_ret ?_ | refine endI_norm ?_)
        | (with_reducible refine wp_regK fun K hK => ?_
           simp
           repeat' (with_reducible first | refine hK _ ?_ | (refine psel ?_ ?_ <;> (intro hc; (try rw [Decidable.not_not] at hc); first | (exfalso; omega) | (try simp [hc]))))
           all_goals (clear hK; clear K))
        | (with_reducible refine wp_condE ?_
           refine ⟨_, rfl, ?_, ?_⟩ <;> (intro hc; (try simp at hc); (all_goals first | (exfalso; omega) | skip))))
      simp only [List.length_nil] at h4
      all_goals exact ⟨lf, by simp [pf226], by omega, by omega, fun _ => ⟨by simp; omega, by simpa using h5⟩⟩
    · unfold pl226_0
      simp only [List.length_cons] at hl h4
      have hw : IntKind.wrap .i64 ((pre.length : Int) + 1) = (pre.length : Int) + 1 := wrap_i64 (by omega) (by omega)
      have hd := hok ⟨y_Id, y_L⟩ (by simp)
      simp only [XRow.ok, and_assoc] at hd
      obtain ⟨hlo_y_Id, hhi_y_Id, hok_y_L, hoks_y_L⟩ := hd
      obtain ⟨n1, g1, a1, b1, s1⟩ := t225 k0 y_Id y_L lf (by omega) (by omega) hok_y_L hoks_y_L
      repeat' (first
        | with_reducible (first | refine wp_seq ?_ | refine wp_blk ?_ | refine wp_skip ?_ | refine wp_exit ?_ | refine wp_ret ?_ | refine seqQ_norm ?_ | refine seqQ_ret ?_ | refine seqQ_exit ?_ | refine blkQ_norm ?_ | refine blkQ_ret ?_ | refine blkQ_exit ?_ | refine loopQ_norm ?_ | refine loopQ_exit ?_ | refine loopQ_ret ?_ | refine endQ_ret ?_ | refine endQ_norm ?_ | refine endE_ret ?_ | refine endE_norm ?_ | refine endI_ret ?_ | refine endI_norm ?_)
        | (with_reducible refine wp_regK fun K hK => ?_
           simp[g1, hw]
           repeat' (with_reducible first | refine hK _ ?_ | (refine psel ?_ ?_ <;> (intro hc; (try rw [Decidable.not_not] at hc); first | (exfalso; omega) | (try simp [hc, g1, hw]))))
           all_goals (clear hK; clear K))
        | (with_reducible refine wp_condE ?_
           refine ⟨_, rfl, ?_, ?_⟩ <;> (intro hc; (try simp at hc); (all_goals first | (exfalso; omega) | skip))))
      · exact ⟨-1, by simp [pf226], by omega, by omega, fun h => absurd h (by omega)⟩
      · exact ⟨(pre ++ [⟨y_Id, y_L⟩], rest, n1), by simp, ⟨by simp, by simp only; omega, by simp only [List.length_append, List.length_cons]; omega, fun y hy => by
          rcases List.mem_append.1 hy with hy | hy
          · exact h5 y hy
          · rw [List.mem_singleton.1 hy]
            simp only [XRow.sm, and_assoc]
            exact s1 (by omega)⟩, by simp⟩

theorem t223 (k0 : Bool) (l : List XRef) (left : Int) (h0 : 0 ≤ left) (h1 : left ≤ 1048576) (hl : l.length ≤ 9223372036854775807) :
    ∃ n, Gw TT 223 [.one (.ro k0 (.sl 5 (l.map XRef.e))), vi left] = some (vi n, []) ∧ -1 ≤ n ∧ n ≤ left ∧ (0 ≤ n → l.length ≤ 1048576) := by
  refine Gw_ofI (F := pf223) rfl rfl ?_
  show Wp _ pb223 _ _
  unfold pb223
  have g : IntKind.wrap .i64 (left - (l.length : Int)) = left - (l.length : Int) := wrap_i64 (by omega) (by omega)
  repeat' (first
    | with_reducible (first | refine wp_seq ?_ | refine wp_blk ?_ | refine wp_skip ?_ | refine wp_exit ?_ | refine wp_ret ?_ | refine seqQ_norm ?_ | refine seqQ_ret ?_ | refine seqQ_exit ?_ | refine blkQ_norm ?_ | refine blkQ_ret ?_ | refine blkQ_exit ?_ | refine loopQ_norm ?_ | refine loopQ_exit ?_ | refine loopQ_ret ?_ | refine endQ_ret ?_ | refine endQ_norm ?_ | refine endE_ret ?_ | refine endE_norm ?_ | refine endI_ret ?_ | refine endI_norm ?_)
    | (with_reducible refine wp_regK fun K hK => ?_
       simp[g]
       repeat' (with_reducible first | refine hK _ ?_ | (refine psel ?_ ?_ <;> (intro hc; (try rw [Decidable.not_not] at hc); first | (exfalso; omega) | (try simp [hc, g]))))
       all_goals (clear hK; clear K))
    | (with_reducible refine wp_condE ?_
       refine ⟨_, rfl, ?_, ?_⟩ <;> (intro hc; (try simp at hc); (all_goals first | (exfalso; omega) | skip))))
  · exact ⟨-1, by simp [pf223], by omega, by omega, fun h => absurd h (by omega)⟩
  · exact ⟨left - (l.length : Int), by simp [pf223], by omega, by omega, fun _ => by omega⟩

def SzPred (x : XPred) : Prop := ∀ (k0 : Bool) (left : Int), 0 ≤ left → left ≤ 1048576 → x.ok → ∃ n, Gw TT 220 [.st [.ro false (di x.Kind), .ro false (di x.Col), .ro false (di x.Op), .ro false (di x.V.Ty), .ro false (di x.V.N), .ro false (.str x.V.S), .ro k0 (.sl 7 (x.L.map XPred.e))], vi left] = some (vi n, []) ∧ -1 ≤ n ∧ n ≤ left ∧ (0 ≤ n → x.sm)
def SzPreds (l : List XPred) : Prop := ∀ (k0 : Bool) (left : Int), 0 ≤ left → left ≤ 1048576 → l.length ≤ 9223372036854775807 → XPred.oks l →
    ∃ n, Gw TT 221 [.one (.ro k0 (.sl 7 (l.map XPred.e))), vi left] = some (vi n, []) ∧ -1 ≤ n ∧ n ≤ left ∧ (0 ≤ n → l.length ≤ 1048576 ∧ XPred.sms l)

theorem SzPreds_of (l : List XPred) (IH : ∀ y ∈ l, SzPred y) : SzPreds l := by
  intro k0 left h0 h1 hl hok
  refine Gw_ofI (F := pf221) rfl rfl ?_
  show Wp _ pb221 _ _
  unfold pb221
  have g : IntKind.wrap .i64 (left - (l.length : Int)) = left - (l.length : Int) := wrap_i64 (by omega) (by omega)
  repeat' (first
    | with_reducible (first | refine wp_seq ?_ | refine wp_blk ?_ | refine wp_skip ?_ | refine wp_exit ?_ | refine wp_ret ?_ | refine seqQ_norm ?_ | refine seqQ_ret ?_ | refine seqQ_exit ?_ | refine blkQ_norm ?_ | refine blkQ_ret ?_ | refine blkQ_exit ?_ | refine loopQ_norm ?_ | refine loopQ_exit ?_ | refine loopQ_ret ?_ | refine endQ_ret ?_ | refine endQ_norm ?_ | refine endE_ret ?_ | refine endE_norm ?_ | refine endI_ret ?_ | refine endI_norm ?_)
    | (with_reducible refine wp_regK fun K hK => ?_
       simp[g]
       repeat' (with_reducible first | refine hK _ ?_ | (refine psel ?_ ?_ <;> (intro hc; (try rw [Decidable.not_not] at hc); first | (exfalso; omega) | (try simp [hc, g]))))
       all_goals (clear hK; clear K))
    | (with_reducible refine wp_condE ?_
       refine ⟨_, rfl, ?_, ?_⟩ <;> (intro hc; (try simp at hc); (all_goals first | (exfalso; omega) | skip))))
  · exact ⟨-1, by simp [pf221], by omega, by omega, fun h => absurd h (by omega)⟩
  · refine wp_loopI (σ := List XPred × List XPred × Int) (fun s => [(0, AV.v k0 (D.sl 7 (List.map XPred.e l)), none), (1, AV.v false (di s.2.2), none), (5, AV.v false (di (s.1.length : Nat)), none)]) (fun s => l = s.1 ++ s.2.1 ∧ 0 ≤ s.2.2 ∧ s.2.2 ≤ left - (l.length : Int) ∧ XPred.sms s.1) (fun s => s.2.1.length) ([], l, left - (l.length : Int)) (by simp) ⟨rfl, by simp only; omega, by simp only; omega, by simp [XPred.sms]⟩ ?_
    rintro ⟨pre, rest, lf⟩ ⟨h2, h3, h4, h5⟩
    simp only at h2 h3 h4 h5
    subst h2
    simp only [List.length_append, List.length_cons] at hl h4 g
    rcases rest with _ | ⟨⟨y_Kind, y_Col, y_Op, ⟨y_V_Ty, y_V_N, y_V_S⟩, y_L⟩, rest⟩
    · unfold pl221_0
      repeat' (first
        | with_reducible (first | refine wp_seq ?_ | refine wp_blk ?_ | refine wp_skip ?_ | refine wp_exit ?_ | refine wp_ret ?_ | refine seqQ_norm ?_ | refine seqQ_ret ?_ | refine seqQ_exit ?_ | refine blkQ_norm ?_ | refine blkQ_ret ?_ | refine blkQ_exit ?_ | refine loopQ_norm ?_ | refine loopQ_exit ?_ | refine loopQ_ret ?_ | refine endQ_ret ?_ | refine endQ_norm ?_ | refine endE_ret ?_ | refine endE_norm ?_ | refine endI_ret ?_ | refine endI_norm ?_)
        | (with_reducible refine wp_regK fun K hK => ?_
           simp
           repeat' (with_reducible first | refine hK _ ?_ | (refine psel ?_ ?_ <;> (intro hc; (try rw [Decidable.not_not] at hc); first | (exfalso; omega) | (try simp [hc]))))
           all_goals (clear hK; clear K))
        | (with_reducible refine wp_condE ?_
           refine ⟨_, rfl, ?_, ?_⟩ <;> (intro hc; (try simp at hc); (all_goals first | (exfalso; omega) | skip))))
      simp only [List.length_nil] at h4
      all_goals exact ⟨lf, by simp [pf221], by omega, by omega, fun _ => ⟨by simp; omega, by simpa using h5⟩⟩
    · unfold pl221_0
      simp only [List.length_cons] at hl h4
      have hw : IntKind.wrap .i64 ((pre.length : Int) + 1) = (pre.length : Int) + 1 := wrap_i64 (by omega) (by omega)
      obtain ⟨n1, g1, a1, b1, s1⟩ := IH ⟨y_Kind, y_Col, y_Op, ⟨y_V_Ty, y_V_N, y_V_S⟩, y_L⟩ (by simp) k0 lf (by omega) (by omega) (XPred.oks_mem hok ⟨y_Kind, y_Col, y_Op, ⟨y_V_Ty, y_V_N, y_V_S⟩, y_L⟩ (by simp))
      simp only at g1
      repeat' (first
        | with_reducible (first | refine wp_seq ?_ | refine wp_blk ?_ | refine wp_skip ?_ | refine wp_exit ?_ | refine wp_ret ?_ | refine seqQ_norm ?_ | refine seqQ_ret ?_ | refine seqQ_exit ?_ | refine blkQ_norm ?_ | refine blkQ_ret ?_ | refine blkQ_exit ?_ | refine loopQ_norm ?_ | refine loopQ_exit ?_ | refine loopQ_ret ?_ | refine endQ_ret ?_ | refine endQ_norm ?_ | refine endE_ret ?_ | refine endE_norm ?_ | refine endI_ret ?_ | refine endI_norm ?_)
        | (with_reducible refine wp_regK fun K hK => ?_
           simp[g1, hw]
           repeat' (with_reducible first | refine hK _ ?_ | (refine psel ?_ ?_ <;> (intro hc; (try rw [Decidable.not_not] at hc); first | (exfalso; omega) | (try simp [hc, g1, hw]))))
           all_goals (clear hK; clear K))
        | (with_reducible refine wp_condE ?_
           refine ⟨_, rfl, ?_, ?_⟩ <;> (intro hc; (try simp at hc); (all_goals first | (exfalso; omega) | skip))))
      · exact ⟨-1, by simp [pf221], by omega, by omega, fun h => absurd h (by omega)⟩
      · exact ⟨(pre ++ [⟨y_Kind, y_Col, y_Op, ⟨y_V_Ty, y_V_N, y_V_S⟩, y_L⟩], rest, n1), by simp, ⟨by simp, by simp only; omega, by simp only [List.length_append, List.length_cons]; omega, by
          rw [XPred.sms_eq]
          intro y hy
          rcases List.mem_append.1 hy with hy | hy
          · exact XPred.sms_mem h5 y hy
          · rw [List.mem_singleton.1 hy]
            exact s1 (by omega)⟩, by simp⟩

theorem SzPred_of (x : XPred) (IH : SzPreds x.L) : SzPred x := by
  intro k0 left h0 h1 hx
  obtain ⟨x_Kind, x_Col, x_Op, ⟨x_V_Ty, x_V_N, x_V_S⟩, x_L⟩ := x
  simp only [XPred.ok_eq, XVal.ok, and_assoc] at hx
  obtain ⟨hlo_x_Kind, hhi_x_Kind, hlo_x_Col, hhi_x_Col, hlo_x_Op, hhi_x_Op, hlo_x_V_Ty, hhi_x_V_Ty, hlo_x_V_N, hhi_x_V_N, hok_x_V_S, hok_x_L, hoks_x_L⟩ := hx
  refine Gw_ofI (F := pf220) rfl rfl ?_
  show Wp _ pb220 _ _
  unfold pb220
  obtain ⟨n1, g1, a1, b1, s1⟩ := t231 x_V_Ty x_V_N x_V_S left (by omega) (by omega) hok_x_V_S
  repeat' (first
    | with_reducible (first | refine wp_seq ?_ | refine wp_blk ?_ | refine wp_skip ?_ | refine wp_exit ?_ | refine wp_ret ?_ | refine seqQ_norm ?_ | refine seqQ_ret ?_ | refine seqQ_exit ?_ | refine blkQ_norm ?_ | refine blkQ_ret ?_ | refine blkQ_exit ?_ | refine loopQ_norm ?_ | refine loopQ_exit ?_ | refine loopQ_ret ?_ | refine endQ_ret ?_ | refine endQ_norm ?_ | refine endE_ret ?_ | refine endE_norm ?_ | refine endI_ret ?_ | refine endI_norm ?_)
    | (with_reducible refine wp_regK fun K hK => ?_
       simp[g1]
       repeat' (with_reducible first | refine hK _ ?_ | (refine psel ?_ ?_ <;> (intro hc; (try rw [Decidable.not_not] at hc); first | (exfalso; omega) | (try simp [hc, g1]))))
       all_goals (clear hK; clear K))
    | (with_reducible refine wp_condE ?_
       refine ⟨_, rfl, ?_, ?_⟩ <;> (intro hc; (try simp at hc); (all_goals first | (exfalso; omega) | skip))))
  · exact ⟨-1, by simp [pf220], by omega, by omega, fun h => absurd h (by omega)⟩
  obtain ⟨n2, g2, a2, b2, s2⟩ := IH k0 n1 (by omega) (by omega) hok_x_L hoks_x_L
  simp only at g2
  repeat' (first
    | with_reducible (first | refine wp_seq ?_ | refine wp_blk ?_ | refine wp_skip ?_ | refine wp_exit ?_ | refine wp_ret ?_ | refine seqQ_norm ?_ | refine seqQ_ret ?_ | refine seqQ_exit ?_ | refine blkQ_norm ?_ | refine blkQ_ret ?_ | refine blkQ_exit ?_ | refine loopQ_norm ?_ | refine loopQ_exit ?_ | refine loopQ_ret ?_ | refine endQ_ret ?_ | refine endQ_norm ?_ | refine endE_ret ?_ | refine endE_norm ?_ | refine endI_ret ?_ | refine endI_norm ?_)
    | (with_reducible refine wp_regK fun K hK => ?_
       simp[g2]
       repeat' (with_reducible first | refine hK _ ?_ | (refine psel ?_ ?_ <;> (intro hc; (try rw [Decidable.not_not] at hc); first | (exfalso; omega) | (try simp [hc, g2]))))
       all_goals (clear hK; clear K))
    | (with_reducible refine wp_condE ?_
       refine ⟨_, rfl, ?_, ?_⟩ <;> (intro hc; (try simp at hc); (all_goals first | (exfalso; omega) | skip))))
  · exact ⟨-1, by simp [pf220], by omega, by omega, fun h => absurd h (by omega)⟩
  · exact ⟨n2, by simp [pf220], by omega, by omega, fun _ => by simp only [XPred.sm_eq, XVal.sm, and_assoc]; exact ⟨(s1 (by omega)), (s2 (by omega)).1, (s2 (by omega)).2⟩⟩

theorem SzPred_all (x : XPred) : SzPred x :=
  SzPred_of x (SzPreds_of x.L fun y hy => SzPred_all y)
termination_by SizeOf.sizeOf x
decreasing_by
  have h1 := List.sizeOf_lt_of_mem hy
  have h2 : SizeOf.sizeOf x.L < SizeOf.sizeOf x := by cases x; simp; omega
  omega

theorem SzPred_raw (x : XPred) (k0 : Bool) (left : Int) (h0 : 0 ≤ left) (h1 : left ≤ 1048576) (hv : x.V.S.size ≤ 9223372036854775807) (hL : x.L.length ≤ 9223372036854775807) (hs : XPred.oks x.L) :
    ∃ n, Gw TT 220 [.st [.ro false (di x.Kind), .ro false (di x.Col), .ro false (di x.Op), .ro false (di x.V.Ty), .ro false (di x.V.N), .ro false (.str x.V.S), .ro k0 (.sl 7 (x.L.map XPred.e))], vi left] = some (vi n, []) ∧ -1 ≤ n ∧ n ≤ left ∧ (0 ≤ n → x.sm) := by
  have IH := SzPreds_of x.L fun y _ => SzPred_all y
  obtain ⟨x_Kind, x_Col, x_Op, ⟨x_V_Ty, x_V_N, x_V_S⟩, x_L⟩ := x
  have hok_x_V_S := hv
  have hok_x_L := hL
  have hoks_x_L := hs
  simp only at hok_x_V_S hok_x_L hoks_x_L
  refine Gw_ofI (F := pf220) rfl rfl ?_
  show Wp _ pb220 _ _
  unfold pb220
  obtain ⟨n1, g1, a1, b1, s1⟩ := t231 x_V_Ty x_V_N x_V_S left (by omega) (by omega) hok_x_V_S
  repeat' (first
    | with_reducible (first | refine wp_seq ?_ | refine wp_blk ?_ | refine wp_skip ?_ | refine wp_exit ?_ | refine wp_ret ?_ | refine seqQ_norm ?_ | refine seqQ_ret ?_ | refine seqQ_exit ?_ | refine blkQ_norm ?_ | refine blkQ_ret ?_ | refine blkQ_exit ?_ | refine loopQ_norm ?_ | refine loopQ_exit ?_ | refine loopQ_ret ?_ | refine endQ_ret ?_ | refine endQ_norm ?_ | refine endE_ret ?_ | refine endE_norm ?_ | refine endI_ret ?_ | refine endI_norm ?_)
    | (with_reducible refine wp_regK fun K hK => ?_
       simp[g1]
       repeat' (with_reducible first | refine hK _ ?_ | (refine psel ?_ ?_ <;> (intro hc; (try rw [Decidable.not_not] at hc); first | (exfalso; omega) | (try simp [hc, g1]))))
       all_goals (clear hK; clear K))
    | (with_reducible refine wp_condE ?_
       refine ⟨_, rfl, ?_, ?_⟩ <;> (intro hc; (try simp at hc); (all_goals first | (exfalso; omega) | skip))))
  · exact ⟨-1, by simp [pf220], by omega, by omega, fun h => absurd h (by omega)⟩
  obtain ⟨n2, g2, a2, b2, s2⟩ := IH k0 n1 (by omega) (by omega) hok_x_L hoks_x_L
  simp only at g2
  repeat' (first
    | with_reducible (first | refine wp_seq ?_ | refine wp_blk ?_ | refine wp_skip ?_ | refine wp_exit ?_ | refine wp_ret ?_ | refine seqQ_norm ?_ | refine seqQ_ret ?_ | refine seqQ_exit ?_ | refine blkQ_norm ?_ | refine blkQ_ret ?_ | refine blkQ_exit ?_ | refine loopQ_norm ?_ | refine loopQ_exit ?_ | refine loopQ_ret ?_ | refine endQ_ret ?_ | refine endQ_norm ?_ | refine endE_ret ?_ | refine endE_norm ?_ | refine endI_ret ?_ | refine endI_norm ?_)
    | (with_reducible refine wp_regK fun K hK => ?_
       simp[g2]
       repeat' (with_reducible first | refine hK _ ?_ | (refine psel ?_ ?_ <;> (intro hc; (try rw [Decidable.not_not] at hc); first | (exfalso; omega) | (try simp [hc, g2]))))
       all_goals (clear hK; clear K))
    | (with_reducible refine wp_condE ?_
       refine ⟨_, rfl, ?_, ?_⟩ <;> (intro hc; (try simp at hc); (all_goals first | (exfalso; omega) | skip))))
  · exact ⟨-1, by simp [pf220], by omega, by omega, fun h => absurd h (by omega)⟩
  · exact ⟨n2, by simp [pf220], by omega, by omega, fun _ => by simp only [XPred.sm_eq, XVal.sm, and_assoc]; exact ⟨(s1 (by omega)), (s2 (by omega)).1, (s2 (by omega)).2⟩⟩

theorem t220 (k0 : Bool) (x_Kind : Int) (x_Col : Int) (x_Op : Int) (x_V_Ty : Int) (x_V_N : Int) (x_V_S : ByteArray) (x_L : List XPred) (left : Int) (h0 : 0 ≤ left) (h1 : left ≤ 1048576) (hok_x_V_S : x_V_S.size ≤ 9223372036854775807) (hok_x_L : x_L.length ≤ 9223372036854775807) (hoks_x_L : XPred.oks x_L) :
    ∃ n, Gw TT 220 [.st [.ro false (di x_Kind), .ro false (di x_Col), .ro false (di x_Op), .ro false (di x_V_Ty), .ro false (di x_V_N), .ro false (.str x_V_S), .ro k0 (.sl 7 (x_L.map XPred.e))], vi left] = some (vi n, []) ∧ -1 ≤ n ∧ n ≤ left ∧ (0 ≤ n → x_V_S.size ≤ 1048576 ∧ x_L.length ≤ 1048576 ∧ XPred.sms x_L) := by
  obtain ⟨n, g, a, b, s⟩ := SzPred_raw ⟨x_Kind, x_Col, x_Op, ⟨x_V_Ty, x_V_N, x_V_S⟩, x_L⟩ k0 left h0 h1 hok_x_V_S hok_x_L hoks_x_L
  exact ⟨n, g, a, b, fun h => by have := s h; simp only [XPred.sm_eq, XVal.sm, and_assoc] at this; exact this⟩

theorem t221 (k0 : Bool) (l : List XPred) (left : Int) (h0 : 0 ≤ left) (h1 : left ≤ 1048576) (hl : l.length ≤ 9223372036854775807) (hok : XPred.oks l) :
    ∃ n, Gw TT 221 [.one (.ro k0 (.sl 7 (l.map XPred.e))), vi left] = some (vi n, []) ∧ -1 ≤ n ∧ n ≤ left ∧ (0 ≤ n → l.length ≤ 1048576 ∧ XPred.sms l) := SzPreds_of l (fun y _ => SzPred_all y) k0 left h0 h1 hl hok

theorem t222 (k0 : Bool) (x_Kind : Int) (x_P_Kind : Int) (x_P_Col : Int) (x_P_Op : Int) (x_P_V_Ty : Int) (x_P_V_N : Int) (x_P_V_S : ByteArray) (x_P_L : List XPred) (x_Col : Int) (x_Out : List Int) (left : Int) (h0 : 0 ≤ left) (h1 : left ≤ 1048576) (hok_x_P_V_S : x_P_V_S.size ≤ 9223372036854775807) (hok_x_P_L : x_P_L.length ≤ 9223372036854775807) (hoks_x_P_L : XPred.oks x_P_L) (hok_x_Out : x_Out.length ≤ 9223372036854775807) :
    ∃ n, Gw TT 222 [.st [.ro false (di x_Kind), .ro false (di x_P_Kind), .ro false (di x_P_Col), .ro false (di x_P_Op), .ro false (di x_P_V_Ty), .ro false (di x_P_V_N), .ro false (.str x_P_V_S), .ro k0 (.sl 7 (x_P_L.map XPred.e)), .ro false (di x_Col), .ro k0 (.sl 1 (x_Out.map ei))], vi left] = some (vi n, []) ∧ -1 ≤ n ∧ n ≤ left ∧ (0 ≤ n → x_P_V_S.size ≤ 1048576 ∧ x_P_L.length ≤ 1048576 ∧ XPred.sms x_P_L ∧ x_Out.length ≤ 1048576) := by
  refine Gw_ofI (F := pf222) rfl rfl ?_
  show Wp _ pb222 _ _
  unfold pb222
  obtain ⟨n1, g1, a1, b1, s1⟩ := t220 k0 x_P_Kind x_P_Col x_P_Op x_P_V_Ty x_P_V_N x_P_V_S x_P_L left (by omega) (by omega) hok_x_P_V_S hok_x_P_L hoks_x_P_L
  repeat' (first
    | with_reducible (first | refine wp_seq ?_ | refine wp_blk ?_ | refine wp_skip ?_ | refine wp_exit ?_ | refine wp_ret ?_ | refine seqQ_norm ?_ | refine seqQ_ret ?_ | refine seqQ_exit ?_ | refine blkQ_norm ?_ | refine blkQ_ret ?_ | refine blkQ_exit ?_ | refine loopQ_norm ?_ | refine loopQ_exit ?_ | refine loopQ_ret ?_ | refine endQ_ret ?_ | refine endQ_norm ?_ | refine endE_ret ?_ | refine endE_norm ?_ | refine endI_ret ?_ | refine endI_norm ?_)
    | (with_reducible refine wp_regK fun K hK => ?_
       simp[g1]
       repeat' (with_reducible first | refine hK _ ?_ | (refine psel ?_ ?_ <;> (intro hc; (try rw [Decidable.not_not] at hc); first | (exfalso; omega) | (try simp [hc, g1]))))
       all_goals (clear hK; clear K))
    | (with_reducible refine wp_condE ?_
       refine ⟨_, rfl, ?_, ?_⟩ <;> (intro hc; (try simp at hc); (all_goals first | (exfalso; omega) | skip))))
  · exact ⟨-1, by simp [pf222], by omega, by omega, fun h => absurd h (by omega)⟩
  obtain ⟨n2, g2, a2, b2, s2⟩ := t219 k0 x_Out n1 (by omega) (by omega) hok_x_Out
  repeat' (first
    | with_reducible (first | refine wp_seq ?_ | refine wp_blk ?_ | refine wp_skip ?_ | refine wp_exit ?_ | refine wp_ret ?_ | refine seqQ_norm ?_ | refine seqQ_ret ?_ | refine seqQ_exit ?_ | refine blkQ_norm ?_ | refine blkQ_ret ?_ | refine blkQ_exit ?_ | refine loopQ_norm ?_ | refine loopQ_exit ?_ | refine loopQ_ret ?_ | refine endQ_ret ?_ | refine endQ_norm ?_ | refine endE_ret ?_ | refine endE_norm ?_ | refine endI_ret ?_ | refine endI_norm ?_)
    | (with_reducible refine wp_regK fun K hK => ?_
       simp[g2]
       repeat' (with_reducible first | refine hK _ ?_ | (refine psel ?_ ?_ <;> (intro hc; (try rw [Decidable.not_not] at hc); first | (exfalso; omega) | (try simp [hc, g2]))))
       all_goals (clear hK; clear K))
    | (with_reducible refine wp_condE ?_
       refine ⟨_, rfl, ?_, ?_⟩ <;> (intro hc; (try simp at hc); (all_goals first | (exfalso; omega) | skip))))
  · exact ⟨-1, by simp [pf222], by omega, by omega, fun h => absurd h (by omega)⟩
  · exact ⟨n2, by simp [pf222], by omega, by omega, fun _ => ⟨(s1 (by omega)).1, (s1 (by omega)).2.1, (s1 (by omega)).2.2, (s2 (by omega))⟩⟩

theorem t229 (k0 : Bool) (x_Op : Int) (x_Pc : Int) (x_H : Int) (x_R : List XVal) (x_Id : Int) (x_Q_Kind : Int) (x_Q_P_Kind : Int) (x_Q_P_Col : Int) (x_Q_P_Op : Int) (x_Q_P_V_Ty : Int) (x_Q_P_V_N : Int) (x_Q_P_V_S : ByteArray) (x_Q_P_L : List XPred) (x_Q_Col : Int) (x_Q_Out : List Int) (x_Ts : Int) (x_Ver : Int) (x_L : List XRef) (x_I : Int) (x_J : Int) (x_S : Int) (x_At : Int) (x_Own : Int) (x_Won : Bool) (x_Got : List XRow) (left : Int) (h0 : 0 ≤ left) (h1 : left ≤ 1048576) (hok_x_R : x_R.length ≤ 9223372036854775807) (hoks_x_R : XVal.oks x_R) (hok_x_Q_P_V_S : x_Q_P_V_S.size ≤ 9223372036854775807) (hok_x_Q_P_L : x_Q_P_L.length ≤ 9223372036854775807) (hoks_x_Q_P_L : XPred.oks x_Q_P_L) (hok_x_Q_Out : x_Q_Out.length ≤ 9223372036854775807) (hok_x_L : x_L.length ≤ 9223372036854775807) (hok_x_Got : x_Got.length ≤ 9223372036854775807) (hoks_x_Got : XRow.oks x_Got) :
    ∃ n, Gw TT 229 [.st [.ro false (di x_Op), .ro false (di x_Pc), .ro false (di x_H), .ro k0 (.sl 3 (x_R.map XVal.e)), .ro false (di x_Id), .ro false (di x_Q_Kind), .ro false (di x_Q_P_Kind), .ro false (di x_Q_P_Col), .ro false (di x_Q_P_Op), .ro false (di x_Q_P_V_Ty), .ro false (di x_Q_P_V_N), .ro false (.str x_Q_P_V_S), .ro k0 (.sl 7 (x_Q_P_L.map XPred.e)), .ro false (di x_Q_Col), .ro k0 (.sl 1 (x_Q_Out.map ei)), .ro false (di x_Ts), .ro false (di x_Ver), .ro k0 (.sl 5 (x_L.map XRef.e)), .ro false (di x_I), .ro false (di x_J), .ro false (di x_S), .ro false (di x_At), .ro false (di x_Own), .ro false (.bool x_Won), .ro k0 (.sl 2 (x_Got.map XRow.e))], vi left] = some (vi n, []) ∧ -1 ≤ n ∧ n ≤ left ∧ (0 ≤ n → x_R.length ≤ 1048576 ∧ XVal.sms x_R ∧ x_Q_P_V_S.size ≤ 1048576 ∧ x_Q_P_L.length ≤ 1048576 ∧ XPred.sms x_Q_P_L ∧ x_Q_Out.length ≤ 1048576 ∧ x_L.length ≤ 1048576 ∧ x_Got.length ≤ 1048576 ∧ XRow.sms x_Got) := by
  refine Gw_ofI (F := pf229) rfl rfl ?_
  show Wp _ pb229 _ _
  unfold pb229
  obtain ⟨n1, g1, a1, b1, s1⟩ := t232 k0 x_R left (by omega) (by omega) hok_x_R hoks_x_R
  repeat' (first
    | with_reducible (first | refine wp_seq ?_ | refine wp_blk ?_ | refine wp_skip ?_ | refine wp_exit ?_ | refine wp_ret ?_ | refine seqQ_norm ?_ | refine seqQ_ret ?_ | refine seqQ_exit ?_ | refine blkQ_norm ?_ | refine blkQ_ret ?_ | refine blkQ_exit ?_ | refine loopQ_norm ?_ | refine loopQ_exit ?_ | refine loopQ_ret ?_ | refine endQ_ret ?_ | refine endQ_norm ?_ | refine endE_ret ?_ | refine endE_norm ?_ | refine endI_ret ?_ | refine endI_norm ?_)
    | (with_reducible refine wp_regK fun K hK => ?_
       simp[g1]
       repeat' (with_reducible first | refine hK _ ?_ | (refine psel ?_ ?_ <;> (intro hc; (try rw [Decidable.not_not] at hc); first | (exfalso; omega) | (try simp [hc, g1]))))
       all_goals (clear hK; clear K))
    | (with_reducible refine wp_condE ?_
       refine ⟨_, rfl, ?_, ?_⟩ <;> (intro hc; (try simp at hc); (all_goals first | (exfalso; omega) | skip))))
  · exact ⟨-1, by simp [pf229], by omega, by omega, fun h => absurd h (by omega)⟩
  obtain ⟨n2, g2, a2, b2, s2⟩ := t222 k0 x_Q_Kind x_Q_P_Kind x_Q_P_Col x_Q_P_Op x_Q_P_V_Ty x_Q_P_V_N x_Q_P_V_S x_Q_P_L x_Q_Col x_Q_Out n1 (by omega) (by omega) hok_x_Q_P_V_S hok_x_Q_P_L hoks_x_Q_P_L hok_x_Q_Out
  repeat' (first
    | with_reducible (first | refine wp_seq ?_ | refine wp_blk ?_ | refine wp_skip ?_ | refine wp_exit ?_ | refine wp_ret ?_ | refine seqQ_norm ?_ | refine seqQ_ret ?_ | refine seqQ_exit ?_ | refine blkQ_norm ?_ | refine blkQ_ret ?_ | refine blkQ_exit ?_ | refine loopQ_norm ?_ | refine loopQ_exit ?_ | refine loopQ_ret ?_ | refine endQ_ret ?_ | refine endQ_norm ?_ | refine endE_ret ?_ | refine endE_norm ?_ | refine endI_ret ?_ | refine endI_norm ?_)
    | (with_reducible refine wp_regK fun K hK => ?_
       simp[g2]
       repeat' (with_reducible first | refine hK _ ?_ | (refine psel ?_ ?_ <;> (intro hc; (try rw [Decidable.not_not] at hc); first | (exfalso; omega) | (try simp [hc, g2]))))
       all_goals (clear hK; clear K))
    | (with_reducible refine wp_condE ?_
       refine ⟨_, rfl, ?_, ?_⟩ <;> (intro hc; (try simp at hc); (all_goals first | (exfalso; omega) | skip))))
  · exact ⟨-1, by simp [pf229], by omega, by omega, fun h => absurd h (by omega)⟩
  obtain ⟨n3, g3, a3, b3, s3⟩ := t223 k0 x_L n2 (by omega) (by omega) hok_x_L
  repeat' (first
    | with_reducible (first | refine wp_seq ?_ | refine wp_blk ?_ | refine wp_skip ?_ | refine wp_exit ?_ | refine wp_ret ?_ | refine seqQ_norm ?_ | refine seqQ_ret ?_ | refine seqQ_exit ?_ | refine blkQ_norm ?_ | refine blkQ_ret ?_ | refine blkQ_exit ?_ | refine loopQ_norm ?_ | refine loopQ_exit ?_ | refine loopQ_ret ?_ | refine endQ_ret ?_ | refine endQ_norm ?_ | refine endE_ret ?_ | refine endE_norm ?_ | refine endI_ret ?_ | refine endI_norm ?_)
    | (with_reducible refine wp_regK fun K hK => ?_
       simp[g3]
       repeat' (with_reducible first | refine hK _ ?_ | (refine psel ?_ ?_ <;> (intro hc; (try rw [Decidable.not_not] at hc); first | (exfalso; omega) | (try simp [hc, g3]))))
       all_goals (clear hK; clear K))
    | (with_reducible refine wp_condE ?_
       refine ⟨_, rfl, ?_, ?_⟩ <;> (intro hc; (try simp at hc); (all_goals first | (exfalso; omega) | skip))))
  · exact ⟨-1, by simp [pf229], by omega, by omega, fun h => absurd h (by omega)⟩
  obtain ⟨n4, g4, a4, b4, s4⟩ := t226 k0 x_Got n3 (by omega) (by omega) hok_x_Got hoks_x_Got
  repeat' (first
    | with_reducible (first | refine wp_seq ?_ | refine wp_blk ?_ | refine wp_skip ?_ | refine wp_exit ?_ | refine wp_ret ?_ | refine seqQ_norm ?_ | refine seqQ_ret ?_ | refine seqQ_exit ?_ | refine blkQ_norm ?_ | refine blkQ_ret ?_ | refine blkQ_exit ?_ | refine loopQ_norm ?_ | refine loopQ_exit ?_ | refine loopQ_ret ?_ | refine endQ_ret ?_ | refine endQ_norm ?_ | refine endE_ret ?_ | refine endE_norm ?_ | refine endI_ret ?_ | refine endI_norm ?_)
    | (with_reducible refine wp_regK fun K hK => ?_
       simp[g4]
       repeat' (with_reducible first | refine hK _ ?_ | (refine psel ?_ ?_ <;> (intro hc; (try rw [Decidable.not_not] at hc); first | (exfalso; omega) | (try simp [hc, g4]))))
       all_goals (clear hK; clear K))
    | (with_reducible refine wp_condE ?_
       refine ⟨_, rfl, ?_, ?_⟩ <;> (intro hc; (try simp at hc); (all_goals first | (exfalso; omega) | skip))))
  · exact ⟨-1, by simp [pf229], by omega, by omega, fun h => absurd h (by omega)⟩
  · exact ⟨n4, by simp [pf229], by omega, by omega, fun _ => ⟨(s1 (by omega)).1, (s1 (by omega)).2, (s2 (by omega)).1, (s2 (by omega)).2.1, (s2 (by omega)).2.2.1, (s2 (by omega)).2.2.2, (s3 (by omega)), (s4 (by omega)).1, (s4 (by omega)).2⟩⟩

@[simp] theorem t87 (x a b : Int) : Gw TT 87 [vi x, vi a, vi b] = some (vb (decide (a ≤ x) && decide (x ≤ b)), []) := by
  refine Gw_of (F := pf87) rfl rfl ?_
  show Wp _ pb87 _ _
  unfold pb87
  repeat' (first
    | with_reducible (first | refine wp_seq ?_ | refine wp_blk ?_ | refine wp_skip ?_ | refine wp_exit ?_ | refine wp_ret ?_ | refine seqQ_norm ?_ | refine seqQ_ret ?_ | refine seqQ_exit ?_ | refine blkQ_norm ?_ | refine blkQ_ret ?_ | refine blkQ_exit ?_ | refine loopQ_norm ?_ | refine loopQ_exit ?_ | refine loopQ_ret ?_ | refine endQ_ret ?_ | refine endQ_norm ?_ | refine endE_ret ?_ | refine endE_norm ?_ | refine endI_ret ?_ | refine endI_norm ?_)
    | (with_reducible refine wp_regK fun K hK => ?_
       simp
       repeat' (with_reducible first | refine hK _ ?_ | (refine psel ?_ ?_ <;> (intro hc; (try rw [Decidable.not_not] at hc); first | (exfalso; omega) | (try simp [hc]))))
       all_goals (clear hK; clear K))
    | (with_reducible refine wp_condE ?_
       refine ⟨_, rfl, ?_, ?_⟩ <;> (intro hc; (try simp at hc); (all_goals first | (exfalso; omega) | skip))))
  all_goals first | (simp_all [pf87]; done) | (simp_all [pf87]; omega)

@[simp] theorem t377 (x a b : Int) : Gw TT 377 [vi x, vi a, vi b] = some (vb (decide (a ≤ x) && decide (x ≤ b)), []) := by
  refine Gw_of (F := pf377) rfl rfl ?_
  show Wp _ pb377 _ _
  unfold pb377
  repeat' (first
    | with_reducible (first | refine wp_seq ?_ | refine wp_blk ?_ | refine wp_skip ?_ | refine wp_exit ?_ | refine wp_ret ?_ | refine seqQ_norm ?_ | refine seqQ_ret ?_ | refine seqQ_exit ?_ | refine blkQ_norm ?_ | refine blkQ_ret ?_ | refine blkQ_exit ?_ | refine loopQ_norm ?_ | refine loopQ_exit ?_ | refine loopQ_ret ?_ | refine endQ_ret ?_ | refine endQ_norm ?_ | refine endE_ret ?_ | refine endE_norm ?_ | refine endI_ret ?_ | refine endI_norm ?_)
    | (with_reducible refine wp_regK fun K hK => ?_
       simp
       repeat' (with_reducible first | refine hK _ ?_ | (refine psel ?_ ?_ <;> (intro hc; (try rw [Decidable.not_not] at hc); first | (exfalso; omega) | (try simp [hc]))))
       all_goals (clear hK; clear K))
    | (with_reducible refine wp_condE ?_
       refine ⟨_, rfl, ?_, ?_⟩ <;> (intro hc; (try simp at hc); (all_goals first | (exfalso; omega) | skip))))
  all_goals first | (simp_all [pf377]; done) | (simp_all [pf377]; omega)

theorem zip_ex {α β : Type} : ∀ (l : List α) (m : List β), l.length = m.length → ∃ z : List (α × β), l = z.map Prod.fst ∧ m = z.map Prod.snd
  | [], [], _ => ⟨[], rfl, rfl⟩
  | a :: l, b :: m, h => by
    obtain ⟨z, rfl, rfl⟩ := zip_ex l m (by simpa using h)
    exact ⟨(a, b) :: z, rfl, rfl⟩

theorem zip_map {α β : Type} (z : List (α × β)) : (z.map Prod.fst).zip (z.map Prod.snd) = z := by
  induction z with
  | nil => rfl
  | cons p z ih => simp [ih]

def refOkF (b g k m : Int) : Bool := decide (0 ≤ b) && decide (0 ≤ g) && (decide (1 ≤ k) && decide (k ≤ 2)) && (decide (1 ≤ m) && decide (m ≤ 1000000000))

@[simp] theorem t82 (x_Buf x_Gen x_Kind x_First x_Many : Int) : Gw TT 82 [.st [.ro false (di x_Buf), .ro false (di x_Gen), .ro false (di x_Kind), .ro false (di x_First), .ro false (di x_Many)]] = some (vb (refOkF x_Buf x_Gen x_Kind x_Many), []) := by
  refine Gw_of (F := pf82) rfl rfl ?_
  show Wp _ pb82 _ _
  unfold pb82
  repeat' (first
    | with_reducible (first | refine wp_seq ?_ | refine wp_blk ?_ | refine wp_skip ?_ | refine wp_exit ?_ | refine wp_ret ?_ | refine seqQ_norm ?_ | refine seqQ_ret ?_ | refine seqQ_exit ?_ | refine blkQ_norm ?_ | refine blkQ_ret ?_ | refine blkQ_exit ?_ | refine loopQ_norm ?_ | refine loopQ_exit ?_ | refine loopQ_ret ?_ | refine endQ_ret ?_ | refine endQ_norm ?_ | refine endE_ret ?_ | refine endE_norm ?_ | refine endI_ret ?_ | refine endI_norm ?_)
    | (with_reducible refine wp_regK fun K hK => ?_
       simp
       repeat' (with_reducible first | refine hK _ ?_ | (refine psel ?_ ?_ <;> (intro hc; (try rw [Decidable.not_not] at hc); first | (exfalso; omega) | (try simp [hc]))))
       all_goals (clear hK; clear K))
    | (with_reducible refine wp_condE ?_
       refine ⟨_, rfl, ?_, ?_⟩ <;> (intro hc; (try simp at hc); (all_goals first | (exfalso; omega) | skip))))
  all_goals first | (simp_all [pf82, refOkF]; done) | (simp [pf82, refOkF]; omega) | (simp_all [pf82, refOkF]; omega)

@[simp] theorem t370 (x_Buf x_Gen x_Kind x_First x_Many : Int) : Gw TT 370 [.st [.ro false (di x_Buf), .ro false (di x_Gen), .ro false (di x_Kind), .ro false (di x_First), .ro false (di x_Many)]] = some (vb (refOkF x_Buf x_Gen x_Kind x_Many), []) := by
  refine Gw_of (F := pf370) rfl rfl ?_
  show Wp _ pb370 _ _
  unfold pb370
  repeat' (first
    | with_reducible (first | refine wp_seq ?_ | refine wp_blk ?_ | refine wp_skip ?_ | refine wp_exit ?_ | refine wp_ret ?_ | refine seqQ_norm ?_ | refine seqQ_ret ?_ | refine seqQ_exit ?_ | refine blkQ_norm ?_ | refine blkQ_ret ?_ | refine blkQ_exit ?_ | refine loopQ_norm ?_ | refine loopQ_exit ?_ | refine loopQ_ret ?_ | refine endQ_ret ?_ | refine endQ_norm ?_ | refine endE_ret ?_ | refine endE_norm ?_ | refine endI_ret ?_ | refine endI_norm ?_)
    | (with_reducible refine wp_regK fun K hK => ?_
       simp
       repeat' (with_reducible first | refine hK _ ?_ | (refine psel ?_ ?_ <;> (intro hc; (try rw [Decidable.not_not] at hc); first | (exfalso; omega) | (try simp [hc]))))
       all_goals (clear hK; clear K))
    | (with_reducible refine wp_condE ?_
       refine ⟨_, rfl, ?_, ?_⟩ <;> (intro hc; (try simp at hc); (all_goals first | (exfalso; omega) | skip))))
  all_goals first | (simp_all [pf370, refOkF]; done) | (simp [pf370, refOkF]; omega) | (simp_all [pf370, refOkF]; omega)

@[simp] theorem take_mid {α : Type} {n : Nat} (l r : List α) (h : n = l.length) : (l ++ r).take n = l := by subst h; simp

def valEq (a b : XVal) : Bool := a.Ty == b.Ty && (a.N == b.N && a.S.toList == b.S.toList)
def intEq (a b : Int) : Bool := a == b

def valsZ : List (XVal × XVal) → Bool
  | [] => true
  | d :: z => if valEq d.1 d.2 = true then valsZ z else false
def sameValsF (l m : List XVal) : Bool := if l.length = m.length then valsZ (l.zip m) else false

def intsZ : List (Int × Int) → Bool
  | [] => true
  | d :: z => if intEq d.1 d.2 = true then intsZ z else false
def sameIntsF (l m : List Int) : Bool := if l.length = m.length then intsZ (l.zip m) else false

theorem t84z (k0 k1 : Bool) (z : List (Int × Int)) (h : z.length ≤ 1048576)  : Gw TT 84 [.one (.ro k0 (.sl 1 (z.map (ei ∘ Prod.fst)))), .one (.ro k1 (.sl 1 (z.map (ei ∘ Prod.snd))))] = some (vb (intsZ z), []) := by
  refine Gw_of (F := pf84) rfl rfl ?_
  show Wp _ pb84 _ _
  unfold pb84
  repeat' (first
    | with_reducible (first | refine wp_seq ?_ | refine wp_blk ?_ | refine wp_skip ?_ | refine wp_exit ?_ | refine wp_ret ?_ | refine seqQ_norm ?_ | refine seqQ_ret ?_ | refine seqQ_exit ?_ | refine blkQ_norm ?_ | refine blkQ_ret ?_ | refine blkQ_exit ?_ | refine loopQ_norm ?_ | refine loopQ_exit ?_ | refine loopQ_ret ?_ | refine endQ_ret ?_ | refine endQ_norm ?_ | refine endE_ret ?_ | refine endE_norm ?_ | refine endI_ret ?_ | refine endI_norm ?_)
    | (with_reducible refine wp_regK fun K hK => ?_
       simp
       repeat' (with_reducible first | refine hK _ ?_ | (refine psel ?_ ?_ <;> (intro hc; (try rw [Decidable.not_not] at hc); first | (exfalso; omega) | (try simp [hc]))))
       all_goals (clear hK; clear K))
    | (with_reducible refine wp_condE ?_
       refine ⟨_, rfl, ?_, ?_⟩ <;> (intro hc; (try simp at hc); (all_goals first | (exfalso; omega) | skip))))
  refine wp_loopI (σ := List (Int × Int) × List (Int × Int)) (fun s => [(0, AV.v k0 (D.sl 1 (z.map (ei ∘ Prod.fst))), none), (1, AV.v k1 (D.sl 1 (z.map (ei ∘ Prod.snd))), none), (12, AV.v false (di (z.length : Nat)), none), (13, AV.v false (di ((s.1.length : Nat) : Int)), none)]) (fun s => z = s.1 ++ s.2 ∧ intsZ s.2 = intsZ z) (fun s => s.2.length) ([], z) (by simp) ⟨rfl, rfl⟩ ?_
  rintro ⟨pre, rest⟩ ⟨h1, h2⟩
  simp only at h1 h2
  subst h1
  simp only [List.length_append, List.length_cons] at h
  rcases rest with _ | ⟨d, rest⟩
  · unfold pl84_0
    simp only [intsZ, intEq, Bool.and_eq_true, beq_iff_eq] at h2
    repeat' (first
      | with_reducible (first | refine wp_seq ?_ | refine wp_blk ?_ | refine wp_skip ?_ | refine wp_exit ?_ | refine wp_ret ?_ | refine seqQ_norm ?_ | refine seqQ_ret ?_ | refine seqQ_exit ?_ | refine blkQ_norm ?_ | refine blkQ_ret ?_ | refine blkQ_exit ?_ | refine loopQ_norm ?_ | refine loopQ_exit ?_ | refine loopQ_ret ?_ | refine endQ_ret ?_ | refine endQ_norm ?_ | refine endE_ret ?_ | refine endE_norm ?_ | refine endI_ret ?_ | refine endI_norm ?_)
      | (with_reducible refine wp_regK fun K hK => ?_
         simp
         repeat' (with_reducible first | refine hK _ ?_ | (refine psel ?_ ?_ <;> (intro hc; (try rw [Decidable.not_not] at hc); first | (exfalso; omega) | (try simp [hc]))))
         all_goals (clear hK; clear K))
      | (with_reducible refine wp_condE ?_
         refine ⟨_, rfl, ?_, ?_⟩ <;> (intro hc; (try simp at hc); (all_goals first | (exfalso; omega) | skip))))
    all_goals first | (simp_all [pf84]; done) | (simp_all [pf84]; omega)
  · unfold pl84_0
    simp only [List.length_cons] at h
    simp only [intsZ, intEq, Bool.and_eq_true, beq_iff_eq] at h2
    have hw : IntKind.wrap .i64 ((pre.length : Int) + 1) = (pre.length : Int) + 1 := wrap_i64 (by omega) (by omega)
    repeat' (first
      | with_reducible (first | refine wp_seq ?_ | refine wp_blk ?_ | refine wp_skip ?_ | refine wp_exit ?_ | refine wp_ret ?_ | refine seqQ_norm ?_ | refine seqQ_ret ?_ | refine seqQ_exit ?_ | refine blkQ_norm ?_ | refine blkQ_ret ?_ | refine blkQ_exit ?_ | refine loopQ_norm ?_ | refine loopQ_exit ?_ | refine loopQ_ret ?_ | refine endQ_ret ?_ | refine endQ_norm ?_ | refine endE_ret ?_ | refine endE_norm ?_ | refine endI_ret ?_ | refine endI_norm ?_)
      | (with_reducible refine wp_regK fun K hK => ?_
         simp[hw]
         repeat' (with_reducible first | refine hK _ ?_ | (refine psel ?_ ?_ <;> (intro hc; (try rw [Decidable.not_not] at hc); first | (exfalso; omega) | (try simp [hc, hw]))))
         all_goals (clear hK; clear K))
      | (with_reducible refine wp_condE ?_
         refine ⟨_, rfl, ?_, ?_⟩ <;> (intro hc; (try simp at hc); (all_goals first | (exfalso; omega) | skip))))
    all_goals first | (refine ⟨(pre ++ [d], rest), ?_, ⟨?_, ?_⟩, ?_⟩; (focus (first | (simp; done) | (simp_all; done))); (focus (simp; done)); (focus (refine Eq.trans ?_ h2; clear h2; first | (simp [*]; done) | (simp_all; done) | (split <;> simp_all <;> omega) | (split <;> first | (exfalso; omega) | (simp_all; done)))); (focus (simp; done))) | (simp_all [pf84]; done) | (simp_all [pf84]; omega) | (split at h2 <;> first | (exfalso; omega) | (simp_all [pf84]; done))

@[simp] theorem t84 (k0 k1 : Bool) (l m : List Int) (h : l.length ≤ 1048576) (h1 : m.length ≤ 1048576)  : Gw TT 84 [.one (.ro k0 (.sl 1 (l.map ei))), .one (.ro k1 (.sl 1 (m.map ei)))] = some (vb (sameIntsF l m), []) := by
  by_cases hl : l.length = m.length
  · obtain ⟨z, rfl, rfl⟩ := zip_ex l m hl
    have := t84z k0 k1 z (by simpa using h) 
    simp only [sameIntsF, hl, if_true, zip_map, List.map_map]
    exact this
  · refine Gw_of (F := pf84) rfl rfl ?_
    show Wp _ pb84 _ _
    unfold pb84
    repeat' (first
      | with_reducible (first | refine wp_seq ?_ | refine wp_blk ?_ | refine wp_skip ?_ | refine wp_exit ?_ | refine wp_ret ?_ | refine seqQ_norm ?_ | refine seqQ_ret ?_ | refine seqQ_exit ?_ | refine blkQ_norm ?_ | refine blkQ_ret ?_ | refine blkQ_exit ?_ | refine loopQ_norm ?_ | refine loopQ_exit ?_ | refine loopQ_ret ?_ | refine endQ_ret ?_ | refine endQ_norm ?_ | refine endE_ret ?_ | refine endE_norm ?_ | refine endI_ret ?_ | refine endI_norm ?_)
      | (with_reducible refine wp_regK fun K hK => ?_
         simp
         repeat' (with_reducible first | refine hK _ ?_ | (refine psel ?_ ?_ <;> (intro hc; (try rw [Decidable.not_not] at hc); first | (exfalso; omega) | (try simp [hc]))))
         all_goals (clear hK; clear K))
      | (with_reducible refine wp_condE ?_
         refine ⟨_, rfl, ?_, ?_⟩ <;> (intro hc; (try simp at hc); (all_goals first | (exfalso; omega) | skip))))
    all_goals first | (simp_all [pf84, sameIntsF]; done) | (exfalso; omega)

def rowEq (a b : XRow) : Bool := a.Id == b.Id && sameValsF a.L b.L

def rowsZ : List (XRow × XRow) → Bool
  | [] => true
  | d :: z => if rowEq d.1 d.2 = true then rowsZ z else false
def sameRowsF (l m : List XRow) : Bool := if l.length = m.length then rowsZ (l.zip m) else false

mutual
def predEq : XPred → XPred → Bool
  | ⟨k, c, o, v, l⟩, ⟨k', c', o', v', l'⟩ => k == k' && (c == c' && (o == o' && (valEq v v' && predsEq l l')))
def predsEq : List XPred → List XPred → Bool
  | [], [] => true
  | x :: l, y :: m => predEq x y && predsEq l m
  | _, _ => false
end

theorem predsEq_len : ∀ (l m : List XPred), l.length ≠ m.length → predsEq l m = false
  | [], [], h => absurd rfl h
  | [], _ :: _, _ => by simp [predsEq]
  | _ :: _, [], _ => by simp [predsEq]
  | x :: l, y :: m, h => by simp [predsEq, predsEq_len l m (by simpa using h)]

def SamePredA (x y : XPred) : Prop := ∀ k0 k1 : Bool, x.sm → y.sm → Gw TT 85 [.st [.ro false (di x.Kind), .ro false (di x.Col), .ro false (di x.Op), .ro false (di x.V.Ty), .ro false (di x.V.N), .ro false (.str x.V.S), .ro k0 (.sl 7 (x.L.map XPred.e))], .st [.ro false (di y.Kind), .ro false (di y.Col), .ro false (di y.Op), .ro false (di y.V.Ty), .ro false (di y.V.N), .ro false (.str y.V.S), .ro k1 (.sl 7 (y.L.map XPred.e))]] = some (vb (predEq x y), [])

theorem SamePredA_of (x y : XPred) (IH : ∀ a ∈ x.L, ∀ b ∈ y.L, SamePredA a b) : SamePredA x y := by
  intro k0 k1 hx hy
  obtain ⟨x_Kind, x_Col, x_Op, ⟨x_V_Ty, x_V_N, x_V_S⟩, x_L⟩ := x
  obtain ⟨y_Kind, y_Col, y_Op, ⟨y_V_Ty, y_V_N, y_V_S⟩, y_L⟩ := y
  simp only [XPred.sm_eq, XVal.sm, and_assoc] at hx hy
  obtain ⟨_, hxl, hxs⟩ := hx
  obtain ⟨_, hyl, hys⟩ := hy
  refine Gw_of (F := pf85) rfl rfl ?_
  show Wp _ pb85 _ _
  unfold pb85
  by_cases hh : x_Kind = y_Kind ∧ x_Col = y_Col ∧ x_Op = y_Op ∧ x_V_Ty = y_V_Ty ∧ x_V_N = y_V_N ∧ x_V_S.toList = y_V_S.toList ∧ x_L.length = y_L.length
  · obtain ⟨rfl, rfl, rfl, rfl, rfl, hs, hl⟩ := hh
    obtain ⟨z, rfl, rfl⟩ := zip_ex x_L y_L hl
    simp only at IH
    simp only [List.length_map] at hxl hl
    clear hyl hl
    repeat' (first
      | with_reducible (first | refine wp_seq ?_ | refine wp_blk ?_ | refine wp_skip ?_ | refine wp_exit ?_ | refine wp_ret ?_ | refine seqQ_norm ?_ | refine seqQ_ret ?_ | refine seqQ_exit ?_ | refine blkQ_norm ?_ | refine blkQ_ret ?_ | refine blkQ_exit ?_ | refine loopQ_norm ?_ | refine loopQ_exit ?_ | refine loopQ_ret ?_ | refine endQ_ret ?_ | refine endQ_norm ?_ | refine endE_ret ?_ | refine endE_norm ?_ | refine endI_ret ?_ | refine endI_norm ?_)
      | (with_reducible refine wp_regK fun K hK => ?_
         simp[hs]
         repeat' (with_reducible first | refine hK _ ?_ | (refine psel ?_ ?_ <;> (intro hc; (try rw [Decidable.not_not] at hc); first | (exfalso; omega) | (try simp [hc, hs]))))
         all_goals (clear hK; clear K))
      | (with_reducible refine wp_condE ?_
         refine ⟨_, rfl, ?_, ?_⟩ <;> (intro hc; (try simp at hc); (all_goals first | (exfalso; omega) | skip))))
    refine wp_loopI (σ := List (XPred × XPred) × List (XPred × XPred)) (fun s => [(2, AV.bx 2 0, some (Rt.bx [.ro false (di x_Kind), .ro false (di x_Col), .ro false (di x_Op), .ro false (di x_V_Ty), .ro false (di x_V_N), .ro false (.str x_V_S), .ro k0 (.sl 7 (z.map (XPred.e ∘ Prod.fst)))])), (3, AV.bx 3 0, some (Rt.bx [.ro false (di x_Kind), .ro false (di x_Col), .ro false (di x_Op), .ro false (di x_V_Ty), .ro false (di x_V_N), .ro false (.str y_V_S), .ro k1 (.sl 7 (z.map (XPred.e ∘ Prod.snd)))])), (43, AV.v false (di (z.length : Nat)), none), (44, AV.v false (di ((s.1.length : Nat) : Int)), none)]) (fun s => z = s.1 ++ s.2 ∧ predsEq (s.2.map Prod.fst) (s.2.map Prod.snd) = predsEq (z.map Prod.fst) (z.map Prod.snd)) (fun s => s.2.length) ([], z) (by simp) ⟨rfl, rfl⟩ ?_
    rintro ⟨pre, rest⟩ ⟨h1, h2⟩
    simp only at h1 h2
    subst h1
    simp only [List.length_append, List.length_cons] at hxl
    rcases rest with _ | ⟨d, rest⟩
    · unfold pl85_0
      simp only [predsEq, List.map_nil] at h2
      repeat' (first
        | with_reducible (first | refine wp_seq ?_ | refine wp_blk ?_ | refine wp_skip ?_ | refine wp_exit ?_ | refine wp_ret ?_ | refine seqQ_norm ?_ | refine seqQ_ret ?_ | refine seqQ_exit ?_ | refine blkQ_norm ?_ | refine blkQ_ret ?_ | refine blkQ_exit ?_ | refine loopQ_norm ?_ | refine loopQ_exit ?_ | refine loopQ_ret ?_ | refine endQ_ret ?_ | refine endQ_norm ?_ | refine endE_ret ?_ | refine endE_norm ?_ | refine endI_ret ?_ | refine endI_norm ?_)
        | (with_reducible refine wp_regK fun K hK => ?_
           simp
           repeat' (with_reducible first | refine hK _ ?_ | (refine psel ?_ ?_ <;> (intro hc; (try rw [Decidable.not_not] at hc); first | (exfalso; omega) | (try simp [hc]))))
           all_goals (clear hK; clear K))
        | (with_reducible refine wp_condE ?_
           refine ⟨_, rfl, ?_, ?_⟩ <;> (intro hc; (try simp at hc); (all_goals first | (exfalso; omega) | skip))))
      all_goals simp_all [pf85, predEq, valEq]
    · unfold pl85_0
      simp only [List.length_cons] at hxl
      simp only [predsEq, List.map_cons] at h2
      have hw : IntKind.wrap .i64 ((pre.length : Int) + 1) = (pre.length : Int) + 1 := wrap_i64 (by omega) (by omega)
      have ih := IH d.1 (by simp) d.2 (by simp) k0 k1 (XPred.sms_mem hxs d.1 (by simp)) (XPred.sms_mem hys d.2 (by simp))
      repeat' (first
        | with_reducible (first | refine wp_seq ?_ | refine wp_blk ?_ | refine wp_skip ?_ | refine wp_exit ?_ | refine wp_ret ?_ | refine seqQ_norm ?_ | refine seqQ_ret ?_ | refine seqQ_exit ?_ | refine blkQ_norm ?_ | refine blkQ_ret ?_ | refine blkQ_exit ?_ | refine loopQ_norm ?_ | refine loopQ_exit ?_ | refine loopQ_ret ?_ | refine endQ_ret ?_ | refine endQ_norm ?_ | refine endE_ret ?_ | refine endE_norm ?_ | refine endI_ret ?_ | refine endI_norm ?_)
        | (with_reducible refine wp_regK fun K hK => ?_
           simp[hw, ih]
           repeat' (with_reducible first | refine hK _ ?_ | (refine psel ?_ ?_ <;> (intro hc; (try rw [Decidable.not_not] at hc); first | (exfalso; omega) | (try simp [hc, hw, ih]))))
           all_goals (clear hK; clear K))
        | (with_reducible refine wp_condE ?_
           refine ⟨_, rfl, ?_, ?_⟩ <;> (intro hc; (try simp at hc); (all_goals first | (exfalso; omega) | skip))))
      all_goals first | (refine ⟨(pre ++ [d], rest), ?_, ⟨?_, ?_⟩, ?_⟩; (focus (first | (simp; done) | (simp_all; done))); (focus (simp; done)); (focus (refine Eq.trans ?_ h2; clear h2; simp_all; done)); (focus (simp; done))) | (simp_all [pf85, predEq, valEq]; done)
  · have hf : predEq ⟨x_Kind, x_Col, x_Op, ⟨x_V_Ty, x_V_N, x_V_S⟩, x_L⟩ ⟨y_Kind, y_Col, y_Op, ⟨y_V_Ty, y_V_N, y_V_S⟩, y_L⟩ = false := by
      by_cases hl : x_L.length = y_L.length
      · simp only [predEq, valEq]
        rw [Bool.eq_false_iff]
        intro hq
        simp only [Bool.and_eq_true, beq_iff_eq] at hq
        exact hh ⟨hq.1, hq.2.1, hq.2.2.1, hq.2.2.2.1.1, hq.2.2.2.1.2.1, hq.2.2.2.1.2.2, hl⟩
      · simp [predEq, predsEq_len _ _ hl]
    repeat' (first
      | with_reducible (first | refine wp_seq ?_ | refine wp_blk ?_ | refine wp_skip ?_ | refine wp_exit ?_ | refine wp_ret ?_ | refine seqQ_norm ?_ | refine seqQ_ret ?_ | refine seqQ_exit ?_ | refine blkQ_norm ?_ | refine blkQ_ret ?_ | refine blkQ_exit ?_ | refine loopQ_norm ?_ | refine loopQ_exit ?_ | refine loopQ_ret ?_ | refine endQ_ret ?_ | refine endQ_norm ?_ | refine endE_ret ?_ | refine endE_norm ?_ | refine endI_ret ?_ | refine endI_norm ?_)
      | (with_reducible refine wp_regK fun K hK => ?_
         simp
         repeat' (with_reducible first | refine hK _ ?_ | (refine psel ?_ ?_ <;> (intro hc; (try rw [Decidable.not_not] at hc); first | (exfalso; omega) | (try simp [hc]))))
         all_goals (clear hK; clear K))
      | (with_reducible refine wp_condE ?_
         refine ⟨_, rfl, ?_, ?_⟩ <;> (intro hc; (try simp at hc); (all_goals first | (exfalso; omega) | skip))))
    all_goals first | (simp [pf85, hf]; done) | (exfalso; have q : ¬(¬x_V_Ty = y_V_Ty ∨ ¬x_V_N = y_V_N ∨ ¬x_V_S.toList = y_V_S.toList) := (by assumption); exact hh ⟨by assumption, by assumption, by assumption, Classical.byContradiction fun e => q (.inl e), Classical.byContradiction fun e => q (.inr (.inl e)), Classical.byContradiction fun e => q (.inr (.inr e)), by omega⟩)

theorem SamePredA_all (x y : XPred) : SamePredA x y :=
  SamePredA_of x y fun a ha b _ => SamePredA_all a b
termination_by SizeOf.sizeOf x
decreasing_by
  have h1 := List.sizeOf_lt_of_mem ha
  have h2 : SizeOf.sizeOf x.L < SizeOf.sizeOf x := by cases x; simp; omega
  omega

@[simp] theorem t85 (k0 k1 : Bool) (x_Kind : Int) (x_Col : Int) (x_Op : Int) (x_V_Ty : Int) (x_V_N : Int) (x_V_S : ByteArray) (x_L : List XPred) (y_Kind : Int) (y_Col : Int) (y_Op : Int) (y_V_Ty : Int) (y_V_N : Int) (y_V_S : ByteArray) (y_L : List XPred) (hv : x_V_S.size ≤ 1048576) (hxl : x_L.length ≤ 1048576) (hxs : XPred.sms x_L) (hw : y_V_S.size ≤ 1048576) (hyl : y_L.length ≤ 1048576) (hys : XPred.sms y_L) :
    Gw TT 85 [.st [.ro false (di x_Kind), .ro false (di x_Col), .ro false (di x_Op), .ro false (di x_V_Ty), .ro false (di x_V_N), .ro false (.str x_V_S), .ro k0 (.sl 7 (x_L.map XPred.e))], .st [.ro false (di y_Kind), .ro false (di y_Col), .ro false (di y_Op), .ro false (di y_V_Ty), .ro false (di y_V_N), .ro false (.str y_V_S), .ro k1 (.sl 7 (y_L.map XPred.e))]] = some (vb (predEq ⟨x_Kind, x_Col, x_Op, ⟨x_V_Ty, x_V_N, x_V_S⟩, x_L⟩ ⟨y_Kind, y_Col, y_Op, ⟨y_V_Ty, y_V_N, y_V_S⟩, y_L⟩), []) :=
  SamePredA_all ⟨x_Kind, x_Col, x_Op, ⟨x_V_Ty, x_V_N, x_V_S⟩, x_L⟩ ⟨y_Kind, y_Col, y_Op, ⟨y_V_Ty, y_V_N, y_V_S⟩, y_L⟩ k0 k1 (by simp only [XPred.sm_eq, XVal.sm]; exact ⟨hv, hxl, hxs⟩) (by simp only [XPred.sm_eq, XVal.sm]; exact ⟨hw, hyl, hys⟩)

def queryEq (a b : XQuery) : Bool := a.Kind == b.Kind && predEq a.P b.P && a.Col == b.Col && sameIntsF a.Out b.Out
def resultEq (a b : XResult) : Bool := sameRowsF a.Rows b.Rows && a.N == b.N && a.Has == b.Has && valEq a.V b.V
def deedEq (a b : XDeed) : Bool := a.Op == b.Op && a.Task == b.Task && sameValsF a.R b.R && a.Id == b.Id && queryEq a.Q b.Q && resultEq a.Res b.Res && a.Code == b.Code && a.Stamp == b.Stamp && a.Inv == b.Inv && a.Lin == b.Lin && a.Ret == b.Ret

@[simp] theorem t86 (k0 k1 : Bool) (x_Kind : Int) (x_P_Kind : Int) (x_P_Col : Int) (x_P_Op : Int) (x_P_V_Ty : Int) (x_P_V_N : Int) (x_P_V_S : ByteArray) (x_P_L : List XPred) (x_Col : Int) (x_Out : List Int) (y_Kind : Int) (y_P_Kind : Int) (y_P_Col : Int) (y_P_Op : Int) (y_P_V_Ty : Int) (y_P_V_N : Int) (y_P_V_S : ByteArray) (y_P_L : List XPred) (y_Col : Int) (y_Out : List Int) (hsm_x_P_V_S : x_P_V_S.size ≤ 1048576) (hsm_x_P_L : x_P_L.length ≤ 1048576) (hsms_x_P_L : XPred.sms x_P_L) (hsm_x_Out : x_Out.length ≤ 1048576) (hsm_y_P_V_S : y_P_V_S.size ≤ 1048576) (hsm_y_P_L : y_P_L.length ≤ 1048576) (hsms_y_P_L : XPred.sms y_P_L) (hsm_y_Out : y_Out.length ≤ 1048576) : Gw TT 86 [.st [.ro false (di x_Kind), .ro false (di x_P_Kind), .ro false (di x_P_Col), .ro false (di x_P_Op), .ro false (di x_P_V_Ty), .ro false (di x_P_V_N), .ro false (.str x_P_V_S), .ro k0 (.sl 7 (x_P_L.map XPred.e)), .ro false (di x_Col), .ro k0 (.sl 1 (x_Out.map ei))], .st [.ro false (di y_Kind), .ro false (di y_P_Kind), .ro false (di y_P_Col), .ro false (di y_P_Op), .ro false (di y_P_V_Ty), .ro false (di y_P_V_N), .ro false (.str y_P_V_S), .ro k1 (.sl 7 (y_P_L.map XPred.e)), .ro false (di y_Col), .ro k1 (.sl 1 (y_Out.map ei))]] = some (vb (queryEq ⟨x_Kind, ⟨x_P_Kind, x_P_Col, x_P_Op, ⟨x_P_V_Ty, x_P_V_N, x_P_V_S⟩, x_P_L⟩, x_Col, x_Out⟩ ⟨y_Kind, ⟨y_P_Kind, y_P_Col, y_P_Op, ⟨y_P_V_Ty, y_P_V_N, y_P_V_S⟩, y_P_L⟩, y_Col, y_Out⟩), []) := by
  refine Gw_of (F := pf86) rfl rfl ?_
  show Wp _ pb86 _ _
  unfold pb86
  repeat' (first
    | with_reducible (first | refine wp_seq ?_ | refine wp_blk ?_ | refine wp_skip ?_ | refine wp_exit ?_ | refine wp_ret ?_ | refine seqQ_norm ?_ | refine seqQ_ret ?_ | refine seqQ_exit ?_ | refine blkQ_norm ?_ | refine blkQ_ret ?_ | refine blkQ_exit ?_ | refine loopQ_norm ?_ | refine loopQ_exit ?_ | refine loopQ_ret ?_ | refine endQ_ret ?_ | refine endQ_norm ?_ | refine endE_ret ?_ | refine endE_norm ?_ | refine endI_ret ?_ | refine endI_norm ?_)
    | (with_reducible refine wp_regK fun K hK => ?_
       simp[hsm_x_P_V_S, hsm_x_P_L, hsms_x_P_L, hsm_x_Out, hsm_y_P_V_S, hsm_y_P_L, hsms_y_P_L, hsm_y_Out]
       repeat' (with_reducible first | refine hK _ ?_ | (refine psel ?_ ?_ <;> (intro hc; (try rw [Decidable.not_not] at hc); first | (exfalso; omega) | (try simp [hc, hsm_x_P_V_S, hsm_x_P_L, hsms_x_P_L, hsm_x_Out, hsm_y_P_V_S, hsm_y_P_L, hsms_y_P_L, hsm_y_Out]))))
       all_goals (clear hK; clear K))
    | (with_reducible refine wp_condE ?_
       refine ⟨_, rfl, ?_, ?_⟩ <;> (intro hc; (try simp at hc); (all_goals first | (exfalso; omega) | skip))))
  all_goals first | (simp_all [pf86, queryEq]; done) | (simp [pf86, queryEq, *]; done)

@[simp] theorem bytesStr_map (l : List Int) : bytesStr (l.map eb) = some (l.map fun n => UInt8.ofNat n.toNat) := by
  induction l with
  | nil => rfl
  | cons n l ih =>
    have : bytesStr (List.map eb (n :: l)) = match bytesStr (l.map eb) with
      | some bs => some (UInt8.ofNat n.toNat :: bs)
      | none => none := rfl
    rw [this, ih]; rfl

def mayB (k op : Int) : Bool := decide (op = 0 ∨ (k < 3 ∧ 1 ≤ op ∧ op ≤ 3) ∨ (3 ≤ k ∧ op = 4))

@[simp] theorem t81 (k op : Int) : Gw TT 81 [vi k, vi op] = some (vb (mayB k op), []) := by
  refine Gw_of (F := pf81) rfl rfl ?_
  show Wp _ pb81 _ _
  unfold pb81
  repeat' (first
    | with_reducible (first | refine wp_seq ?_ | refine wp_blk ?_ | refine wp_skip ?_ | refine wp_exit ?_ | refine wp_ret ?_ | refine seqQ_norm ?_ | refine seqQ_ret ?_ | refine seqQ_exit ?_ | refine blkQ_norm ?_ | refine blkQ_ret ?_ | refine blkQ_exit ?_ | refine loopQ_norm ?_ | refine loopQ_exit ?_ | refine loopQ_ret ?_ | refine endQ_ret ?_ | refine endQ_norm ?_ | refine endE_ret ?_ | refine endE_norm ?_ | refine endI_ret ?_ | refine endI_norm ?_)
    | (with_reducible refine wp_regK fun K hK => ?_
       simp
       repeat' (with_reducible first | refine hK _ ?_ | (refine psel ?_ ?_ <;> (intro hc; (try rw [Decidable.not_not] at hc); first | (exfalso; omega) | (try simp [hc]))))
       all_goals (clear hK; clear K))
    | (with_reducible refine wp_condE ?_
       refine ⟨_, rfl, ?_, ?_⟩ <;> (intro hc; (try simp at hc); (all_goals first | (exfalso; omega) | skip))))
  all_goals first | (simp_all [pf81, mayB]; done) | (simp [pf81, mayB]; omega) | (simp_all [pf81, mayB]; omega) | (simp [pf81, mayB]; rw [Bool.eq_iff_iff]; simp; omega)

def noQ (kind pk pc po ty n : Int) (s : ByteArray) (l : List XPred) (col : Int) (out : List Int) : Bool :=
  decide (kind = 0 ∧ col = 0 ∧ out.length = 0 ∧ pk = 0 ∧ pc = 0 ∧ po = 0 ∧ ty = 0 ∧ n = 0 ∧ l.length = 0) && (s.toList == (⟨#[]⟩ : ByteArray).toList)

theorem queryEq_zero (kind pk pc po ty n : Int) (s : ByteArray) (l : List XPred) (col : Int) (out : List Int) :
    queryEq ⟨kind, ⟨pk, pc, po, ⟨ty, n, s⟩, l⟩, col, out⟩ ⟨0, ⟨0, 0, 0, ⟨0, 0, ⟨#[]⟩⟩, []⟩, 0, []⟩ = noQ kind pk pc po ty n s l col out := by
  have h1 : predsEq l [] = decide (l.length = 0) := by cases l <;> simp [predsEq]
  have h2 : sameIntsF out [] = decide (out.length = 0) := by cases out <;> simp [sameIntsF, intsZ]
  rw [Bool.eq_iff_iff]
  simp only [queryEq, noQ, predEq, valEq, h1, h2, Bool.and_eq_true, beq_iff_eq, decide_eq_true_eq]
  constructor
  · rintro ⟨⟨⟨a, b, c, d, ⟨e, f, g⟩, i⟩, j⟩, m⟩
    exact ⟨⟨a, j, m, b, c, d, e, f, i⟩, g⟩
  · rintro ⟨⟨a, j, m, b, c, d, e, f, i⟩, g⟩
    exact ⟨⟨⟨a, b, c, d, ⟨e, f, g⟩, i⟩, j⟩, m⟩

@[simp] theorem t86_zero (k0 k1 : Bool) (x_Kind : Int) (x_P_Kind : Int) (x_P_Col : Int) (x_P_Op : Int) (x_P_V_Ty : Int) (x_P_V_N : Int) (x_P_V_S : ByteArray) (x_P_L : List XPred) (x_Col : Int) (x_Out : List Int) (hsm_x_P_V_S : x_P_V_S.size ≤ 1048576) (hsm_x_P_L : x_P_L.length ≤ 1048576) (hsms_x_P_L : XPred.sms x_P_L) (hsm_x_Out : x_Out.length ≤ 1048576) : Gw TT 86 [.st [.ro false (di x_Kind), .ro false (di x_P_Kind), .ro false (di x_P_Col), .ro false (di x_P_Op), .ro false (di x_P_V_Ty), .ro false (di x_P_V_N), .ro false (.str x_P_V_S), .ro k0 (.sl 7 (x_P_L.map XPred.e)), .ro false (di x_Col), .ro k0 (.sl 1 (x_Out.map ei))], .st [.ro false (di 0), .ro false (di 0), .ro false (di 0), .ro false (di 0), .ro false (di 0), .ro false (di 0), .ro false (.str ⟨#[]⟩), .ro k1 (.sl 7 []), .ro false (di 0), .ro k1 (.sl 1 [])]] = some (vb (noQ x_Kind x_P_Kind x_P_Col x_P_Op x_P_V_Ty x_P_V_N x_P_V_S x_P_L x_Col x_Out), []) := by
  rw [← queryEq_zero]
  have e : (⟨#[]⟩ : ByteArray).size ≤ 1048576 := by decide
  exact t86 k0 k1 x_Kind x_P_Kind x_P_Col x_P_Op x_P_V_Ty x_P_V_N x_P_V_S x_P_L x_Col x_Out 0 0 0 0 0 0 ⟨#[]⟩ [] 0 [] hsm_x_P_V_S hsm_x_P_L hsms_x_P_L hsm_x_Out e (by simp) (by simp [XPred.sms]) (by simp)

@[simp] theorem t374 (k0 : Bool) (x_Kind : Int) (x_P_Kind : Int) (x_P_Col : Int) (x_P_Op : Int) (x_P_V_Ty : Int) (x_P_V_N : Int) (x_P_V_S : ByteArray) (x_P_L : List XPred) (x_Col : Int) (x_Out : List Int) : Gw TT 374 [.st [.ro false (di x_Kind), .ro false (di x_P_Kind), .ro false (di x_P_Col), .ro false (di x_P_Op), .ro false (di x_P_V_Ty), .ro false (di x_P_V_N), .ro false (.str x_P_V_S), .ro k0 (.sl 7 (x_P_L.map XPred.e)), .ro false (di x_Col), .ro k0 (.sl 1 (x_Out.map ei))]] = some (vb (noQ x_Kind x_P_Kind x_P_Col x_P_Op x_P_V_Ty x_P_V_N x_P_V_S x_P_L x_Col x_Out), []) := by
  refine Gw_of (F := pf374) rfl rfl ?_
  show Wp _ pb374 _ _
  unfold pb374
  repeat' (first
    | with_reducible (first | refine wp_seq ?_ | refine wp_blk ?_ | refine wp_skip ?_ | refine wp_exit ?_ | refine wp_ret ?_ | refine seqQ_norm ?_ | refine seqQ_ret ?_ | refine seqQ_exit ?_ | refine blkQ_norm ?_ | refine blkQ_ret ?_ | refine blkQ_exit ?_ | refine loopQ_norm ?_ | refine loopQ_exit ?_ | refine loopQ_ret ?_ | refine endQ_ret ?_ | refine endQ_norm ?_ | refine endE_ret ?_ | refine endE_norm ?_ | refine endI_ret ?_ | refine endI_norm ?_)
    | (with_reducible refine wp_regK fun K hK => ?_
       simp
       repeat' (with_reducible first | refine hK _ ?_ | (refine psel ?_ ?_ <;> (intro hc; (try rw [Decidable.not_not] at hc); first | (exfalso; omega) | (try simp [hc]))))
       all_goals (clear hK; clear K))
    | (with_reducible refine wp_condE ?_
       refine ⟨_, rfl, ?_, ?_⟩ <;> (intro hc; (try simp at hc); (all_goals first | (exfalso; omega) | skip))))
  all_goals first | (simp_all [pf374, noQ]; done) | (simp [pf374, noQ, *]; done) | (simp_all [pf374, noQ]; rw [Bool.eq_iff_iff]; simp; done)

def bareB (pc h : Int) (r : List XVal) (id : Int) (q : Bool) (ts ver : Int) (l : List XRef) (i j s atE own : Int) (won : Bool) (got : List XRow) : Bool :=
  decide (pc = 0 ∧ h = 0 ∧ r.length = 0 ∧ id = 0) && q && decide (ts = 0 ∧ ver = 0 ∧ l.length = 0 ∧ i = 0 ∧ j = 0 ∧ s = 0 ∧ atE = 0 ∧ own = 0) && !won && decide (got.length = 0)

@[simp] theorem t67 (k0 : Bool) (x_Op : Int) (x_Pc : Int) (x_H : Int) (x_R : List XVal) (x_Id : Int) (x_Q_Kind : Int) (x_Q_P_Kind : Int) (x_Q_P_Col : Int) (x_Q_P_Op : Int) (x_Q_P_V_Ty : Int) (x_Q_P_V_N : Int) (x_Q_P_V_S : ByteArray) (x_Q_P_L : List XPred) (x_Q_Col : Int) (x_Q_Out : List Int) (x_Ts : Int) (x_Ver : Int) (x_L : List XRef) (x_I : Int) (x_J : Int) (x_S : Int) (x_At : Int) (x_Own : Int) (x_Won : Bool) (x_Got : List XRow) (hsm_x_R : x_R.length ≤ 1048576) (hsms_x_R : XVal.sms x_R) (hsm_x_Q_P_V_S : x_Q_P_V_S.size ≤ 1048576) (hsm_x_Q_P_L : x_Q_P_L.length ≤ 1048576) (hsms_x_Q_P_L : XPred.sms x_Q_P_L) (hsm_x_Q_Out : x_Q_Out.length ≤ 1048576) (hsm_x_L : x_L.length ≤ 1048576) (hsm_x_Got : x_Got.length ≤ 1048576) (hsms_x_Got : XRow.sms x_Got) : Gw TT 67 [.st [.ro false (di x_Op), .ro false (di x_Pc), .ro false (di x_H), .ro k0 (.sl 3 (x_R.map XVal.e)), .ro false (di x_Id), .ro false (di x_Q_Kind), .ro false (di x_Q_P_Kind), .ro false (di x_Q_P_Col), .ro false (di x_Q_P_Op), .ro false (di x_Q_P_V_Ty), .ro false (di x_Q_P_V_N), .ro false (.str x_Q_P_V_S), .ro k0 (.sl 7 (x_Q_P_L.map XPred.e)), .ro false (di x_Q_Col), .ro k0 (.sl 1 (x_Q_Out.map ei)), .ro false (di x_Ts), .ro false (di x_Ver), .ro k0 (.sl 5 (x_L.map XRef.e)), .ro false (di x_I), .ro false (di x_J), .ro false (di x_S), .ro false (di x_At), .ro false (di x_Own), .ro false (.bool x_Won), .ro k0 (.sl 2 (x_Got.map XRow.e))]] = some (vb (bareB x_Pc x_H x_R x_Id (noQ x_Q_Kind x_Q_P_Kind x_Q_P_Col x_Q_P_Op x_Q_P_V_Ty x_Q_P_V_N x_Q_P_V_S x_Q_P_L x_Q_Col x_Q_Out) x_Ts x_Ver x_L x_I x_J x_S x_At x_Own x_Won x_Got), []) := by
  refine Gw_of (F := pf67) rfl rfl ?_
  show Wp _ pb67 _ _
  unfold pb67
  repeat' (first
    | with_reducible (first | refine wp_seq ?_ | refine wp_blk ?_ | refine wp_skip ?_ | refine wp_exit ?_ | refine wp_ret ?_ | refine seqQ_norm ?_ | refine seqQ_ret ?_ | refine seqQ_exit ?_ | refine blkQ_norm ?_ | refine blkQ_ret ?_ | refine blkQ_exit ?_ | refine loopQ_norm ?_ | refine loopQ_exit ?_ | refine loopQ_ret ?_ | refine endQ_ret ?_ | refine endQ_norm ?_ | refine endE_ret ?_ | refine endE_norm ?_ | refine endI_ret ?_ | refine endI_norm ?_)
    | (with_reducible refine wp_regK fun K hK => ?_
       simp[hsm_x_R, hsms_x_R, hsm_x_Q_P_V_S, hsm_x_Q_P_L, hsms_x_Q_P_L, hsm_x_Q_Out, hsm_x_L, hsm_x_Got, hsms_x_Got]
       repeat' (with_reducible first | refine hK _ ?_ | (refine psel ?_ ?_ <;> (intro hc; (try rw [Decidable.not_not] at hc); first | (exfalso; omega) | (try simp [hc, hsm_x_R, hsms_x_R, hsm_x_Q_P_V_S, hsm_x_Q_P_L, hsms_x_Q_P_L, hsm_x_Q_Out, hsm_x_L, hsm_x_Got, hsms_x_Got]))))
       all_goals (clear hK; clear K))
    | (with_reducible refine wp_condE ?_
       refine ⟨_, rfl, ?_, ?_⟩ <;> (intro hc; (try simp at hc); (all_goals first | (exfalso; omega) | skip))))
  all_goals first | (simp_all [pf67, bareB]; done) | (simp_all [pf67, bareB]; rw [Bool.eq_iff_iff]; simp; done)

@[simp] theorem t372 (k0 : Bool) (x_Op : Int) (x_Pc : Int) (x_H : Int) (x_R : List XVal) (x_Id : Int) (x_Q_Kind : Int) (x_Q_P_Kind : Int) (x_Q_P_Col : Int) (x_Q_P_Op : Int) (x_Q_P_V_Ty : Int) (x_Q_P_V_N : Int) (x_Q_P_V_S : ByteArray) (x_Q_P_L : List XPred) (x_Q_Col : Int) (x_Q_Out : List Int) (x_Ts : Int) (x_Ver : Int) (x_L : List XRef) (x_I : Int) (x_J : Int) (x_S : Int) (x_At : Int) (x_Own : Int) (x_Won : Bool) (x_Got : List XRow) (hsm_x_R : x_R.length ≤ 1048576) (hsms_x_R : XVal.sms x_R) (hsm_x_Q_P_V_S : x_Q_P_V_S.size ≤ 1048576) (hsm_x_Q_P_L : x_Q_P_L.length ≤ 1048576) (hsms_x_Q_P_L : XPred.sms x_Q_P_L) (hsm_x_Q_Out : x_Q_Out.length ≤ 1048576) (hsm_x_L : x_L.length ≤ 1048576) (hsm_x_Got : x_Got.length ≤ 1048576) (hsms_x_Got : XRow.sms x_Got) : Gw TT 372 [.st [.ro false (di x_Op), .ro false (di x_Pc), .ro false (di x_H), .ro k0 (.sl 3 (x_R.map XVal.e)), .ro false (di x_Id), .ro false (di x_Q_Kind), .ro false (di x_Q_P_Kind), .ro false (di x_Q_P_Col), .ro false (di x_Q_P_Op), .ro false (di x_Q_P_V_Ty), .ro false (di x_Q_P_V_N), .ro false (.str x_Q_P_V_S), .ro k0 (.sl 7 (x_Q_P_L.map XPred.e)), .ro false (di x_Q_Col), .ro k0 (.sl 1 (x_Q_Out.map ei)), .ro false (di x_Ts), .ro false (di x_Ver), .ro k0 (.sl 5 (x_L.map XRef.e)), .ro false (di x_I), .ro false (di x_J), .ro false (di x_S), .ro false (di x_At), .ro false (di x_Own), .ro false (.bool x_Won), .ro k0 (.sl 2 (x_Got.map XRow.e))]] = some (vb (bareB x_Pc x_H x_R x_Id (noQ x_Q_Kind x_Q_P_Kind x_Q_P_Col x_Q_P_Op x_Q_P_V_Ty x_Q_P_V_N x_Q_P_V_S x_Q_P_L x_Q_Col x_Q_Out) x_Ts x_Ver x_L x_I x_J x_S x_At x_Own x_Won x_Got), []) := by
  refine Gw_of (F := pf372) rfl rfl ?_
  show Wp _ pb372 _ _
  unfold pb372
  repeat' (first
    | with_reducible (first | refine wp_seq ?_ | refine wp_blk ?_ | refine wp_skip ?_ | refine wp_exit ?_ | refine wp_ret ?_ | refine seqQ_norm ?_ | refine seqQ_ret ?_ | refine seqQ_exit ?_ | refine blkQ_norm ?_ | refine blkQ_ret ?_ | refine blkQ_exit ?_ | refine loopQ_norm ?_ | refine loopQ_exit ?_ | refine loopQ_ret ?_ | refine endQ_ret ?_ | refine endQ_norm ?_ | refine endE_ret ?_ | refine endE_norm ?_ | refine endI_ret ?_ | refine endI_norm ?_)
    | (with_reducible refine wp_regK fun K hK => ?_
       simp[hsm_x_R, hsms_x_R, hsm_x_Q_P_V_S, hsm_x_Q_P_L, hsms_x_Q_P_L, hsm_x_Q_Out, hsm_x_L, hsm_x_Got, hsms_x_Got]
       repeat' (with_reducible first | refine hK _ ?_ | (refine psel ?_ ?_ <;> (intro hc; (try rw [Decidable.not_not] at hc); first | (exfalso; omega) | (try simp [hc, hsm_x_R, hsms_x_R, hsm_x_Q_P_V_S, hsm_x_Q_P_L, hsms_x_Q_P_L, hsm_x_Q_Out, hsm_x_L, hsm_x_Got, hsms_x_Got]))))
       all_goals (clear hK; clear K))
    | (with_reducible refine wp_condE ?_
       refine ⟨_, rfl, ?_, ?_⟩ <;> (intro hc; (try simp at hc); (all_goals first | (exfalso; omega) | skip))))
  all_goals first | (simp_all [pf372, bareB]; done) | (simp_all [pf372, bareB]; rw [Bool.eq_iff_iff]; simp; done)

attribute [irreducible] noQ

def refsB : List XRef → Bool
  | [] => true
  | r :: l => if refOkF r.Buf r.Gen r.Kind r.Many = true ∧ 0 ≤ r.First then refsB l else false
def headB (k pc h id ts ver i j s atE own : Int) (n : Nat) : Bool :=
  decide (0 ≤ k ∧ k ≤ 4 ∧ 0 ≤ pc ∧ pc ≤ 9 ∧ (n : Int) ≤ 8 ∧ 0 ≤ h ∧ 0 ≤ id ∧ 0 ≤ ts ∧ 0 ≤ ver ∧ 0 ≤ i ∧ 0 ≤ j ∧ 0 ≤ s ∧ 0 ≤ atE ∧ 0 ≤ own)
def tailB (k op id : Int) (bare : Bool) : Bool := mayB k op && (if op = 0 then bare else decide (op = 1 ∨ op = 2 ∨ id = 0))
def taskOkB (hd : Bool) (l : List XRef) (tl : Bool) : Bool := hd && refsB l && tl

@[simp] theorem t58 (k0 : Bool) (x_Op : Int) (x_Pc : Int) (x_H : Int) (x_R : List XVal) (x_Id : Int) (x_Q_Kind : Int) (x_Q_P_Kind : Int) (x_Q_P_Col : Int) (x_Q_P_Op : Int) (x_Q_P_V_Ty : Int) (x_Q_P_V_N : Int) (x_Q_P_V_S : ByteArray) (x_Q_P_L : List XPred) (x_Q_Col : Int) (x_Q_Out : List Int) (x_Ts : Int) (x_Ver : Int) (x_L : List XRef) (x_I : Int) (x_J : Int) (x_S : Int) (x_At : Int) (x_Own : Int) (x_Won : Bool) (x_Got : List XRow) (k : Int) (hsm_x_R : x_R.length ≤ 1048576) (hsms_x_R : XVal.sms x_R) (hsm_x_Q_P_V_S : x_Q_P_V_S.size ≤ 1048576) (hsm_x_Q_P_L : x_Q_P_L.length ≤ 1048576) (hsms_x_Q_P_L : XPred.sms x_Q_P_L) (hsm_x_Q_Out : x_Q_Out.length ≤ 1048576) (hsm_x_L : x_L.length ≤ 1048576) (hsm_x_Got : x_Got.length ≤ 1048576) (hsms_x_Got : XRow.sms x_Got) : Gw TT 58 [.st [.ro false (di x_Op), .ro false (di x_Pc), .ro false (di x_H), .ro k0 (.sl 3 (x_R.map XVal.e)), .ro false (di x_Id), .ro false (di x_Q_Kind), .ro false (di x_Q_P_Kind), .ro false (di x_Q_P_Col), .ro false (di x_Q_P_Op), .ro false (di x_Q_P_V_Ty), .ro false (di x_Q_P_V_N), .ro false (.str x_Q_P_V_S), .ro k0 (.sl 7 (x_Q_P_L.map XPred.e)), .ro false (di x_Q_Col), .ro k0 (.sl 1 (x_Q_Out.map ei)), .ro false (di x_Ts), .ro false (di x_Ver), .ro k0 (.sl 5 (x_L.map XRef.e)), .ro false (di x_I), .ro false (di x_J), .ro false (di x_S), .ro false (di x_At), .ro false (di x_Own), .ro false (.bool x_Won), .ro k0 (.sl 2 (x_Got.map XRow.e))], vi k] = some (vb (taskOkB (headB k x_Pc x_H x_Id x_Ts x_Ver x_I x_J x_S x_At x_Own x_L.length) x_L (tailB k x_Op x_Id (bareB x_Pc x_H x_R x_Id (noQ x_Q_Kind x_Q_P_Kind x_Q_P_Col x_Q_P_Op x_Q_P_V_Ty x_Q_P_V_N x_Q_P_V_S x_Q_P_L x_Q_Col x_Q_Out) x_Ts x_Ver x_L x_I x_J x_S x_At x_Own x_Won x_Got))), []) := by
  refine Gw_of (F := pf58) rfl rfl ?_
  show Wp _ pb58 _ _
  unfold pb58
  repeat' (first
    | with_reducible (first | refine wp_seq ?_ | refine wp_blk ?_ | refine wp_skip ?_ | refine wp_exit ?_ | refine wp_ret ?_ | refine seqQ_norm ?_ | refine seqQ_ret ?_ | refine seqQ_exit ?_ | refine blkQ_norm ?_ | refine blkQ_ret ?_ | refine blkQ_exit ?_ | refine loopQ_norm ?_ | refine loopQ_exit ?_ | refine loopQ_ret ?_ | refine endQ_ret ?_ | refine endQ_norm ?_ | refine endE_ret ?_ | refine endE_norm ?_ | refine endI_ret ?_ | refine endI_norm ?_)
    | (with_reducible refine wp_loop (c := pl58_1) ?_
       conv => arg 2; unfold pl58_1)
    | (with_reducible refine wp_regK fun K hK => ?_
       simp[hsm_x_R, hsms_x_R, hsm_x_Q_P_V_S, hsm_x_Q_P_L, hsms_x_Q_P_L, hsm_x_Q_Out, hsm_x_L, hsm_x_Got, hsms_x_Got]
       repeat' (with_reducible first | refine hK _ ?_ | (refine psel ?_ ?_ <;> (intro hc; (try rw [Decidable.not_not] at hc); first | (exfalso; omega) | (try simp [hc, hsm_x_R, hsms_x_R, hsm_x_Q_P_V_S, hsm_x_Q_P_L, hsms_x_Q_P_L, hsm_x_Q_Out, hsm_x_L, hsm_x_Got, hsms_x_Got]))))
       all_goals (clear hK; clear K))
    | (with_reducible refine wp_condE ?_
       refine ⟨_, rfl, ?_, ?_⟩ <;> (intro hc; (try simp at hc); (all_goals first | (exfalso; omega) | skip))))
  all_goals first | (simp_all [pf58, taskOkB, headB, tailB]; done) | (simp [pf58, taskOkB, headB, tailB]; intros; omega) | skip
  refine wp_loopI (σ := List XRef × List XRef) (fun s => [(2, AV.bx 2 0, some (Rt.bx [.ro false (di x_Op), .ro false (di x_Pc), .ro false (di x_H), .ro k0 (.sl 3 (x_R.map XVal.e)), .ro false (di x_Id), .ro false (di x_Q_Kind), .ro false (di x_Q_P_Kind), .ro false (di x_Q_P_Col), .ro false (di x_Q_P_Op), .ro false (di x_Q_P_V_Ty), .ro false (di x_Q_P_V_N), .ro false (.str x_Q_P_V_S), .ro k0 (.sl 7 (x_Q_P_L.map XPred.e)), .ro false (di x_Q_Col), .ro k0 (.sl 1 (x_Q_Out.map ei)), .ro false (di x_Ts), .ro false (di x_Ver), .ro k0 (.sl 5 (x_L.map XRef.e)), .ro false (di x_I), .ro false (di x_J), .ro false (di x_S), .ro false (di x_At), .ro false (di x_Own), .ro false (.bool x_Won), .ro k0 (.sl 2 (x_Got.map XRow.e))])), (59, AV.v k0 (D.sl 5 (x_L.map XRef.e)), none), (60, AV.v false (di (x_L.length : Nat)), none), (61, AV.v false (di ((s.1.length : Nat) : Int)), none)]) (fun s => x_L = s.1 ++ s.2 ∧ refsB s.2 = refsB x_L) (fun s => s.2.length) ([], x_L) (by simp) ⟨rfl, rfl⟩ ?_
  rintro ⟨pre, rest⟩ ⟨h1, h2⟩
  simp only at h1 h2
  subst h1
  have hsm_x_L2 := hsm_x_L
  simp only [List.length_append, List.length_cons] at hsm_x_L2
  rcases rest with _ | ⟨d, rest⟩
  · unfold pl58_0
    simp only [refsB] at h2
    have hl : pre.length ≤ 1048576 := by simpa using hsm_x_L
    repeat' (first
      | with_reducible (first | refine wp_seq ?_ | refine wp_blk ?_ | refine wp_skip ?_ | refine wp_exit ?_ | refine wp_ret ?_ | refine seqQ_norm ?_ | refine seqQ_ret ?_ | refine seqQ_exit ?_ | refine blkQ_norm ?_ | refine blkQ_ret ?_ | refine blkQ_exit ?_ | refine loopQ_norm ?_ | refine loopQ_exit ?_ | refine loopQ_ret ?_ | refine endQ_ret ?_ | refine endQ_norm ?_ | refine endE_ret ?_ | refine endE_norm ?_ | refine endI_ret ?_ | refine endI_norm ?_)
      | (with_reducible refine wp_regK fun K hK => ?_
         simp[hsm_x_R, hsms_x_R, hsm_x_Q_P_V_S, hsm_x_Q_P_L, hsms_x_Q_P_L, hsm_x_Q_Out, hsm_x_L, hsm_x_Got, hsms_x_Got, hl]
         repeat' (with_reducible first | refine hK _ ?_ | (refine psel ?_ ?_ <;> (intro hc; (try rw [Decidable.not_not] at hc); first | (exfalso; omega) | (try simp [hc, hsm_x_R, hsms_x_R, hsm_x_Q_P_V_S, hsm_x_Q_P_L, hsms_x_Q_P_L, hsm_x_Q_Out, hsm_x_L, hsm_x_Got, hsms_x_Got, hl]))))
         all_goals (clear hK; clear K))
      | (with_reducible refine wp_condE ?_
         refine ⟨_, rfl, ?_, ?_⟩ <;> (intro hc; (try simp at hc); (all_goals first | (exfalso; omega) | skip))))
    all_goals first | (simp_all [pf58, taskOkB, headB, tailB, bareB]; done) | (simp_all [pf58, taskOkB, headB, tailB, bareB]; omega) | (simp [pf58, taskOkB, headB, tailB, *]; omega) | ((have hq : headB k x_Pc x_H x_Id x_Ts x_Ver x_I x_J x_S x_At x_Own pre.length = true := (by simp only [headB, decide_eq_true_eq]; simp only [List.append_nil] at *; omega)); simp only [List.append_nil] at *; have h3 := h2.symm; clear h2; simp [pf58, taskOkB, tailB, mayB, *]; done) | ((have hq : headB k x_Pc x_H x_Id x_Ts x_Ver x_I x_J x_S x_At x_Own pre.length = true := (by simp only [headB, decide_eq_true_eq]; simp only [List.append_nil] at *; omega)); simp only [List.append_nil] at *; have h3 := h2.symm; clear h2; simp [pf58, taskOkB, tailB, mayB, *]; omega) | ((have hq : headB k x_Pc x_H x_Id x_Ts x_Ver x_I x_J x_S x_At x_Own pre.length = true := (by simp only [headB, decide_eq_true_eq]; simp only [List.append_nil] at *; omega)); simp only [List.append_nil] at *; have h3 := h2.symm; clear h2; simp [pf58, taskOkB, tailB, mayB, *]; rw [Bool.eq_iff_iff]; (first | (simp; done) | (simp; omega))) | trace_state
  · unfold pl58_0
    simp only [List.length_cons] at hsm_x_L2
    simp only [refsB] at h2
    have hw : IntKind.wrap .i64 ((pre.length : Int) + 1) = (pre.length : Int) + 1 := wrap_i64 (by omega) (by omega)
    repeat' (first
      | with_reducible (first | refine wp_seq ?_ | refine wp_blk ?_ | refine wp_skip ?_ | refine wp_exit ?_ | refine wp_ret ?_ | refine seqQ_norm ?_ | refine seqQ_ret ?_ | refine seqQ_exit ?_ | refine blkQ_norm ?_ | refine blkQ_ret ?_ | refine blkQ_exit ?_ | refine loopQ_norm ?_ | refine loopQ_exit ?_ | refine loopQ_ret ?_ | refine endQ_ret ?_ | refine endQ_norm ?_ | refine endE_ret ?_ | refine endE_norm ?_ | refine endI_ret ?_ | refine endI_norm ?_)
      | (with_reducible refine wp_regK fun K hK => ?_
         simp[hw]
         repeat' (with_reducible first | refine hK _ ?_ | (refine psel ?_ ?_ <;> (intro hc; (try rw [Decidable.not_not] at hc); first | (exfalso; omega) | (try simp [hc, hw]))))
         all_goals (clear hK; clear K))
      | (with_reducible refine wp_condE ?_
         refine ⟨_, rfl, ?_, ?_⟩ <;> (intro hc; (try simp at hc); (all_goals first | (exfalso; omega) | skip))))
    all_goals first | (rw [if_neg (by intro q; have q2 := q.2; omega)] at h2; simp_all [pf58, taskOkB]; done) | (refine ⟨(pre ++ [d], rest), ?_, ⟨?_, ?_⟩, ?_⟩; (focus (first | (simp; done) | (simp_all; done))); (focus (simp; done)); (focus (refine Eq.trans ?_ h2; clear h2; simp_all; done)); (focus (simp; done))) | (simp_all [pf58, taskOkB, headB, tailB, bareB]; done) | (simp_all [pf58, taskOkB, headB, tailB, bareB]; omega) | (simp [pf58, taskOkB, headB, tailB, *]; omega) | trace_state

@[simp] theorem t339 (k0 : Bool) (x_Op : Int) (x_Pc : Int) (x_H : Int) (x_R : List XVal) (x_Id : Int) (x_Q_Kind : Int) (x_Q_P_Kind : Int) (x_Q_P_Col : Int) (x_Q_P_Op : Int) (x_Q_P_V_Ty : Int) (x_Q_P_V_N : Int) (x_Q_P_V_S : ByteArray) (x_Q_P_L : List XPred) (x_Q_Col : Int) (x_Q_Out : List Int) (x_Ts : Int) (x_Ver : Int) (x_L : List XRef) (x_I : Int) (x_J : Int) (x_S : Int) (x_At : Int) (x_Own : Int) (x_Won : Bool) (x_Got : List XRow) (k : Int) (hsm_x_R : x_R.length ≤ 1048576) (hsms_x_R : XVal.sms x_R) (hsm_x_Q_P_V_S : x_Q_P_V_S.size ≤ 1048576) (hsm_x_Q_P_L : x_Q_P_L.length ≤ 1048576) (hsms_x_Q_P_L : XPred.sms x_Q_P_L) (hsm_x_Q_Out : x_Q_Out.length ≤ 1048576) (hsm_x_L : x_L.length ≤ 1048576) (hsm_x_Got : x_Got.length ≤ 1048576) (hsms_x_Got : XRow.sms x_Got) : Gw TT 339 [.st [.ro false (di x_Op), .ro false (di x_Pc), .ro false (di x_H), .ro k0 (.sl 3 (x_R.map XVal.e)), .ro false (di x_Id), .ro false (di x_Q_Kind), .ro false (di x_Q_P_Kind), .ro false (di x_Q_P_Col), .ro false (di x_Q_P_Op), .ro false (di x_Q_P_V_Ty), .ro false (di x_Q_P_V_N), .ro false (.str x_Q_P_V_S), .ro k0 (.sl 7 (x_Q_P_L.map XPred.e)), .ro false (di x_Q_Col), .ro k0 (.sl 1 (x_Q_Out.map ei)), .ro false (di x_Ts), .ro false (di x_Ver), .ro k0 (.sl 5 (x_L.map XRef.e)), .ro false (di x_I), .ro false (di x_J), .ro false (di x_S), .ro false (di x_At), .ro false (di x_Own), .ro false (.bool x_Won), .ro k0 (.sl 2 (x_Got.map XRow.e))], vi k] = some (vb (taskOkB (headB k x_Pc x_H x_Id x_Ts x_Ver x_I x_J x_S x_At x_Own x_L.length) x_L (tailB k x_Op x_Id (bareB x_Pc x_H x_R x_Id (noQ x_Q_Kind x_Q_P_Kind x_Q_P_Col x_Q_P_Op x_Q_P_V_Ty x_Q_P_V_N x_Q_P_V_S x_Q_P_L x_Q_Col x_Q_Out) x_Ts x_Ver x_L x_I x_J x_S x_At x_Own x_Won x_Got))), []) := by
  refine Gw_of (F := pf339) rfl rfl ?_
  show Wp _ pb339 _ _
  unfold pb339
  repeat' (first
    | with_reducible (first | refine wp_seq ?_ | refine wp_blk ?_ | refine wp_skip ?_ | refine wp_exit ?_ | refine wp_ret ?_ | refine seqQ_norm ?_ | refine seqQ_ret ?_ | refine seqQ_exit ?_ | refine blkQ_norm ?_ | refine blkQ_ret ?_ | refine blkQ_exit ?_ | refine loopQ_norm ?_ | refine loopQ_exit ?_ | refine loopQ_ret ?_ | refine endQ_ret ?_ | refine endQ_norm ?_ | refine endE_ret ?_ | refine endE_norm ?_ | refine endI_ret ?_ | refine endI_norm ?_)
    | (with_reducible refine wp_regK fun K hK => ?_
       simp[hsm_x_R, hsms_x_R, hsm_x_Q_P_V_S, hsm_x_Q_P_L, hsms_x_Q_P_L, hsm_x_Q_Out, hsm_x_L, hsm_x_Got, hsms_x_Got]
       repeat' (with_reducible first | refine hK _ ?_ | (refine psel ?_ ?_ <;> (intro hc; (try rw [Decidable.not_not] at hc); first | (exfalso; omega) | (try simp [hc, hsm_x_R, hsms_x_R, hsm_x_Q_P_V_S, hsm_x_Q_P_L, hsms_x_Q_P_L, hsm_x_Q_Out, hsm_x_L, hsm_x_Got, hsms_x_Got]))))
       all_goals (clear hK; clear K))
    | (with_reducible refine wp_condE ?_
       refine ⟨_, rfl, ?_, ?_⟩ <;> (intro hc; (try simp at hc); (all_goals first | (exfalso; omega) | skip))))
  all_goals first | (simp_all [pf339, taskOkB, headB, tailB]; done) | (simp [pf339, taskOkB, headB, tailB]; intros; omega) | skip
  refine wp_loopI (σ := List XRef × List XRef) (fun s => [(1, AV.v false (di k), none), (2, AV.bx 2 0, some (Rt.bx [.ro false (di x_Op), .ro false (di x_Pc), .ro false (di x_H), .ro k0 (.sl 3 (x_R.map XVal.e)), .ro false (di x_Id), .ro false (di x_Q_Kind), .ro false (di x_Q_P_Kind), .ro false (di x_Q_P_Col), .ro false (di x_Q_P_Op), .ro false (di x_Q_P_V_Ty), .ro false (di x_Q_P_V_N), .ro false (.str x_Q_P_V_S), .ro k0 (.sl 7 (x_Q_P_L.map XPred.e)), .ro false (di x_Q_Col), .ro k0 (.sl 1 (x_Q_Out.map ei)), .ro false (di x_Ts), .ro false (di x_Ver), .ro k0 (.sl 5 (x_L.map XRef.e)), .ro false (di x_I), .ro false (di x_J), .ro false (di x_S), .ro false (di x_At), .ro false (di x_Own), .ro false (.bool x_Won), .ro k0 (.sl 2 (x_Got.map XRow.e))])), (5, AV.v false (di ((s.1.length : Nat) : Int)), none)]) (fun s => x_L = s.1 ++ s.2 ∧ refsB s.2 = refsB x_L) (fun s => s.2.length) ([], x_L) (by simp) ⟨rfl, rfl⟩ ?_
  rintro ⟨pre, rest⟩ ⟨h1, h2⟩
  simp only at h1 h2
  subst h1
  have hsm_x_L2 := hsm_x_L
  simp only [List.length_append, List.length_cons] at hsm_x_L2
  rcases rest with _ | ⟨d, rest⟩
  · unfold pl339_0
    simp only [refsB] at h2
    have hl : pre.length ≤ 1048576 := by simpa using hsm_x_L
    repeat' (first
      | with_reducible (first | refine wp_seq ?_ | refine wp_blk ?_ | refine wp_skip ?_ | refine wp_exit ?_ | refine wp_ret ?_ | refine seqQ_norm ?_ | refine seqQ_ret ?_ | refine seqQ_exit ?_ | refine blkQ_norm ?_ | refine blkQ_ret ?_ | refine blkQ_exit ?_ | refine loopQ_norm ?_ | refine loopQ_exit ?_ | refine loopQ_ret ?_ | refine endQ_ret ?_ | refine endQ_norm ?_ | refine endE_ret ?_ | refine endE_norm ?_ | refine endI_ret ?_ | refine endI_norm ?_)
      | (with_reducible refine wp_regK fun K hK => ?_
         simp[hsm_x_R, hsms_x_R, hsm_x_Q_P_V_S, hsm_x_Q_P_L, hsms_x_Q_P_L, hsm_x_Q_Out, hsm_x_L, hsm_x_Got, hsms_x_Got, hl]
         repeat' (with_reducible first | refine hK _ ?_ | (refine psel ?_ ?_ <;> (intro hc; (try rw [Decidable.not_not] at hc); first | (exfalso; omega) | (try simp [hc, hsm_x_R, hsms_x_R, hsm_x_Q_P_V_S, hsm_x_Q_P_L, hsms_x_Q_P_L, hsm_x_Q_Out, hsm_x_L, hsm_x_Got, hsms_x_Got, hl]))))
         all_goals (clear hK; clear K))
      | (with_reducible refine wp_condE ?_
         refine ⟨_, rfl, ?_, ?_⟩ <;> (intro hc; (try simp at hc); (all_goals first | (exfalso; omega) | skip))))
    all_goals first | (simp_all [pf339, taskOkB, headB, tailB, bareB]; done) | (simp_all [pf339, taskOkB, headB, tailB, bareB]; omega) | (simp [pf339, taskOkB, headB, tailB, *]; omega) | ((have hq : headB k x_Pc x_H x_Id x_Ts x_Ver x_I x_J x_S x_At x_Own pre.length = true := (by simp only [headB, decide_eq_true_eq]; simp only [List.append_nil] at *; omega)); simp only [List.append_nil] at *; have h3 := h2.symm; clear h2; simp [pf339, taskOkB, tailB, mayB, *]; done) | ((have hq : headB k x_Pc x_H x_Id x_Ts x_Ver x_I x_J x_S x_At x_Own pre.length = true := (by simp only [headB, decide_eq_true_eq]; simp only [List.append_nil] at *; omega)); simp only [List.append_nil] at *; have h3 := h2.symm; clear h2; simp [pf339, taskOkB, tailB, mayB, *]; omega) | ((have hq : headB k x_Pc x_H x_Id x_Ts x_Ver x_I x_J x_S x_At x_Own pre.length = true := (by simp only [headB, decide_eq_true_eq]; simp only [List.append_nil] at *; omega)); simp only [List.append_nil] at *; have h3 := h2.symm; clear h2; simp [pf339, taskOkB, tailB, mayB, *]; rw [Bool.eq_iff_iff]; (first | (simp; done) | (simp; omega))) | trace_state
  · unfold pl339_0
    simp only [List.length_cons] at hsm_x_L2
    simp only [refsB] at h2
    have hw : IntKind.wrap .i64 ((pre.length : Int) + 1) = (pre.length : Int) + 1 := wrap_i64 (by omega) (by omega)
    repeat' (first
      | with_reducible (first | refine wp_seq ?_ | refine wp_blk ?_ | refine wp_skip ?_ | refine wp_exit ?_ | refine wp_ret ?_ | refine seqQ_norm ?_ | refine seqQ_ret ?_ | refine seqQ_exit ?_ | refine blkQ_norm ?_ | refine blkQ_ret ?_ | refine blkQ_exit ?_ | refine loopQ_norm ?_ | refine loopQ_exit ?_ | refine loopQ_ret ?_ | refine endQ_ret ?_ | refine endQ_norm ?_ | refine endE_ret ?_ | refine endE_norm ?_ | refine endI_ret ?_ | refine endI_norm ?_)
      | (with_reducible refine wp_regK fun K hK => ?_
         simp[hw]
         repeat' (with_reducible first | refine hK _ ?_ | (refine psel ?_ ?_ <;> (intro hc; (try rw [Decidable.not_not] at hc); first | (exfalso; omega) | (try simp [hc, hw]))))
         all_goals (clear hK; clear K))
      | (with_reducible refine wp_condE ?_
         refine ⟨_, rfl, ?_, ?_⟩ <;> (intro hc; (try simp at hc); (all_goals first | (exfalso; omega) | skip))))
    all_goals first | (rw [if_neg (by intro q; have q2 := q.2; omega)] at h2; simp_all [pf339, taskOkB]; done) | (refine ⟨(pre ++ [d], rest), ?_, ⟨?_, ?_⟩, ?_⟩; (focus (first | (simp; done) | (simp_all; done))); (focus (simp; done)); (focus (refine Eq.trans ?_ h2; clear h2; simp_all; done)); (focus (simp; done))) | (simp_all [pf339, taskOkB, headB, tailB, bareB]; done) | (simp_all [pf339, taskOkB, headB, tailB, bareB]; omega) | (simp [pf339, taskOkB, headB, tailB, *]; omega) | trace_state

theorem t132 (aT_Op : Int) (aT_Pc : Int) (aT_H : Int) (aT_R : List XVal) (aT_Id : Int) (aT_Q_Kind : Int) (aT_Q_P_Kind : Int) (aT_Q_P_Col : Int) (aT_Q_P_Op : Int) (aT_Q_P_V_Ty : Int) (aT_Q_P_V_N : Int) (aT_Q_P_V_S : ByteArray) (aT_Q_P_L : List XPred) (aT_Q_Col : Int) (aT_Q_Out : List Int) (aT_Ts : Int) (aT_Ver : Int) (aT_L : List XRef) (aT_I : Int) (aT_J : Int) (aT_S : Int) (aT_At : Int) (aT_Own : Int) (aT_Won : Bool) (aT_Got : List XRow) (aK : Int) (hok_aT_R : aT_R.length ≤ 9223372036854775807) (hoks_aT_R : XVal.oks aT_R) (hok_aT_Q_P_V_S : aT_Q_P_V_S.size ≤ 9223372036854775807) (hok_aT_Q_P_L : aT_Q_P_L.length ≤ 9223372036854775807) (hoks_aT_Q_P_L : XPred.oks aT_Q_P_L) (hok_aT_Q_Out : aT_Q_Out.length ≤ 9223372036854775807) (hok_aT_L : aT_L.length ≤ 9223372036854775807) (hok_aT_Got : aT_Got.length ≤ 9223372036854775807) (hoks_aT_Got : XRow.oks aT_Got) : Gw TT 132 [.st [.ro false (di aT_Op), .ro false (di aT_Pc), .ro false (di aT_H), .ro false (.sl 3 (aT_R.map XVal.e)), .ro false (di aT_Id), .ro false (di aT_Q_Kind), .ro false (di aT_Q_P_Kind), .ro false (di aT_Q_P_Col), .ro false (di aT_Q_P_Op), .ro false (di aT_Q_P_V_Ty), .ro false (di aT_Q_P_V_N), .ro false (.str aT_Q_P_V_S), .ro false (.sl 7 (aT_Q_P_L.map XPred.e)), .ro false (di aT_Q_Col), .ro false (.sl 1 (aT_Q_Out.map ei)), .ro false (di aT_Ts), .ro false (di aT_Ver), .ro false (.sl 5 (aT_L.map XRef.e)), .ro false (di aT_I), .ro false (di aT_J), .ro false (di aT_S), .ro false (di aT_At), .ro false (di aT_Own), .ro false (.bool aT_Won), .ro false (.sl 2 (aT_Got.map XRow.e))], .one (.ro false (di aK))] = some (vb true, []) := by
  refine Gw_of (F := pf132) rfl rfl ?_
  show Wp _ pb132 _ _
  unfold pb132
  obtain ⟨n1, g1, a1, b1, s1⟩ := t229 false aT_Op aT_Pc aT_H aT_R aT_Id aT_Q_Kind aT_Q_P_Kind aT_Q_P_Col aT_Q_P_Op aT_Q_P_V_Ty aT_Q_P_V_N aT_Q_P_V_S aT_Q_P_L aT_Q_Col aT_Q_Out aT_Ts aT_Ver aT_L aT_I aT_J aT_S aT_At aT_Own aT_Won aT_Got 1048576 (by omega) (by omega) hok_aT_R hoks_aT_R hok_aT_Q_P_V_S hok_aT_Q_P_L hoks_aT_Q_P_L hok_aT_Q_Out hok_aT_L hok_aT_Got hoks_aT_Got
  repeat' (first
    | with_reducible (first | refine wp_seq ?_ | refine wp_blk ?_ | refine wp_skip ?_ | refine wp_exit ?_ | refine wp_ret ?_ | refine seqQ_norm ?_ | refine seqQ_ret ?_ | refine seqQ_exit ?_ | refine blkQ_norm ?_ | refine blkQ_ret ?_ | refine blkQ_exit ?_ | refine loopQ_norm ?_ | refine loopQ_exit ?_ | refine loopQ_ret ?_ | refine endQ_ret ?_ | refine endQ_norm ?_ | refine endE_ret ?_ | refine endE_norm ?_ | refine endI_ret ?_ | refine endI_norm ?_)
    | (with_reducible refine wp_regK fun K hK => ?_
       simp[g1]
       repeat' (with_reducible first | refine hK _ ?_ | (refine psel ?_ ?_ <;> (intro hc; (try rw [Decidable.not_not] at hc); first | (exfalso; omega) | (try simp [hc, g1]))))
       all_goals (clear hK; clear K))
    | (with_reducible refine wp_condE ?_
       refine ⟨_, rfl, ?_, ?_⟩ <;> (intro hc; (try simp at hc); (all_goals first | (exfalso; omega) | skip))))
  · simp [pf132]
  have q1 := s1 (by omega)
  obtain ⟨hsm_aT_R, hsms_aT_R, hsm_aT_Q_P_V_S, hsm_aT_Q_P_L, hsms_aT_Q_P_L, hsm_aT_Q_Out, hsm_aT_L, hsm_aT_Got, hsms_aT_Got⟩ := q1
  repeat' (first
    | with_reducible (first | refine wp_seq ?_ | refine wp_blk ?_ | refine wp_skip ?_ | refine wp_exit ?_ | refine wp_ret ?_ | refine seqQ_norm ?_ | refine seqQ_ret ?_ | refine seqQ_exit ?_ | refine blkQ_norm ?_ | refine blkQ_ret ?_ | refine blkQ_exit ?_ | refine loopQ_norm ?_ | refine loopQ_exit ?_ | refine loopQ_ret ?_ | refine endQ_ret ?_ | refine endQ_norm ?_ | refine endE_ret ?_ | refine endE_norm ?_ | refine endI_ret ?_ | refine endI_norm ?_)
    | (with_reducible refine wp_regK fun K hK => ?_
       simp[hsm_aT_R, hsms_aT_R, hsm_aT_Q_P_V_S, hsm_aT_Q_P_L, hsms_aT_Q_P_L, hsm_aT_Q_Out, hsm_aT_L, hsm_aT_Got, hsms_aT_Got]
       repeat' (with_reducible first | refine hK _ ?_ | (refine psel ?_ ?_ <;> (intro hc; (try rw [Decidable.not_not] at hc); first | (exfalso; omega) | (try simp [hc, hsm_aT_R, hsms_aT_R, hsm_aT_Q_P_V_S, hsm_aT_Q_P_L, hsms_aT_Q_P_L, hsm_aT_Q_Out, hsm_aT_L, hsm_aT_Got, hsms_aT_Got]))))
       all_goals (clear hK; clear K))
    | (with_reducible refine wp_condE ?_
       refine ⟨_, rfl, ?_, ?_⟩ <;> (intro hc; (try simp at hc); (all_goals first | (exfalso; omega) | skip))))
  all_goals first | (simp [pf132]; done) | (simp_all [pf132]; done)

end Go.Proofs.Ytbfmbddafpbcpaa.OM
