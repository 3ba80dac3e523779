/- What the functions answer. -/
import Derived.Test.YtnadnanmgakkfaaOMTypes
import Derived.Test.YtnadnanmgakkfaaOMTac2
import Derived.Test.YtnadnanmgakkfaaXWorldNewPc0
import Derived.Test.YtnadnanmgakkfaaXWorldNewPc1
set_option linter.all false
namespace Go.Proofs.Ytnadnanmgakkfaa.OM
set_option maxHeartbeats 4000000
set_option maxRecDepth 100000

def tab : List (Nat × PF) := [(12, pf12), (13, pf13), (39, pf39), (65, pf65), (72, pf72), (87, pf87), (137, pf137), (142, pf142), (143, pf143), (144, pf144), (145, pf145), (146, pf146), (147, pf147), (148, pf148), (149, pf149), (150, pf150), (151, pf151), (152, pf152), (153, pf153), (154, pf154), (155, pf155), (156, pf156), (157, pf157), (158, pf158), (159, pf159), (160, pf160), (161, pf161), (162, pf162), (163, pf163), (164, pf164), (165, pf165), (166, pf166), (167, pf167), (168, pf168), (169, pf169), (171, pf171), (172, pf172), (173, pf173), (174, pf174), (175, pf175), (176, pf176), (177, pf177), (178, pf178), (179, pf179), (180, pf180), (181, pf181), (182, pf182), (183, pf183), (184, pf184), (186, pf186), (187, pf187), (188, pf188), (189, pf189), (190, pf190), (191, pf191), (192, pf192), (193, pf193), (194, pf194), (195, pf195), (196, pf196), (197, pf197), (198, pf198), (214, pf214), (219, pf219), (238, pf238), (244, pf244), (268, pf268), (269, pf269), (319, pf319), (346, pf346), (377, pf377)]
def TT (k : Nat) : Option PF := tab.lookup k

@[simp] theorem t244 (k0 : Bool) (l : List Int) (h : l.length ≤ 1048576)  : Gw TT 244 [.one (.ro k0 (.sl 1 (l.map ei)))] = some (.one (.own (.sl 1 (l.map ei))), []) := by
  refine Gw_of (F := pf244) rfl rfl ?_
  show Wp _ pb244 _ _
  unfold pb244
  repeat' (first
    | with_reducible (first | refine wp_seq ?_ | refine wp_blk ?_ | refine wp_skip ?_ | refine wp_exit ?_ | refine wp_ret ?_ | refine seqQ_norm ?_ | refine seqQ_ret ?_ | refine seqQ_exit ?_ | refine blkQ_norm ?_ | refine blkQ_ret ?_ | refine blkQ_exit ?_ | refine loopQ_norm ?_ | refine loopQ_exit ?_ | refine loopQ_ret ?_ | refine endQ_ret ?_ | refine endQ_norm ?_ | refine endE_ret ?_ | refine endE_norm ?_ | refine endI_ret ?_ | refine endI_norm ?_)
    | (with_reducible refine wp_regK fun K hK => ?_
       simp
       repeat' (with_reducible first | refine hK _ ?_ | (refine psel ?_ ?_ <;> (intro hc; (try rw [Decidable.not_not] at hc); first | (exfalso; omega) | (try simp [hc]))))
       all_goals (clear hK; clear K))
    | (with_reducible refine wp_condE ?_
       refine ⟨_, rfl, ?_, ?_⟩ <;> (intro hc; (try simp at hc); (all_goals first | (exfalso; omega) | skip))))
  · refine wp_loopI (σ := List Int × List Int) (fun s => [(0, AV.v k0 (D.sl 1 (List.map ei l)), none), (3, AV.pl 3 0 [], some (Rt.vir [C.own (D.sl 1 (s.1.map ei ++ List.replicate s.2.length [.int .i64 0]))])), (4, AV.v false (di (s.1.length : Nat)), none)]) (fun s => l = s.1 ++ s.2) (fun s => s.2.length) ([], l) (by simp) rfl ?_
    rintro ⟨pre, rest⟩ h1
    simp only at h1
    subst h1
    simp only [List.length_append, List.length_cons] at h
    rcases rest with _ | ⟨d, rest⟩
    · unfold pl244_0
      repeat' (first
        | with_reducible (first | refine wp_seq ?_ | refine wp_blk ?_ | refine wp_skip ?_ | refine wp_exit ?_ | refine wp_ret ?_ | refine seqQ_norm ?_ | refine seqQ_ret ?_ | refine seqQ_exit ?_ | refine blkQ_norm ?_ | refine blkQ_ret ?_ | refine blkQ_exit ?_ | refine loopQ_norm ?_ | refine loopQ_exit ?_ | refine loopQ_ret ?_ | refine endQ_ret ?_ | refine endQ_norm ?_ | refine endE_ret ?_ | refine endE_norm ?_ | refine endI_ret ?_ | refine endI_norm ?_)
        | (with_reducible refine wp_regK fun K hK => ?_
           simp
           repeat' (with_reducible first | refine hK _ ?_ | (refine psel ?_ ?_ <;> (intro hc; (try rw [Decidable.not_not] at hc); first | (exfalso; omega) | (try simp [hc]))))
           all_goals (clear hK; clear K))
        | (with_reducible refine wp_condE ?_
           refine ⟨_, rfl, ?_, ?_⟩ <;> (intro hc; (try simp at hc); (all_goals first | (exfalso; omega) | skip))))
      all_goals simp [pf244]
    · unfold pl244_0
      simp only [List.length_cons] at h
      have hw : IntKind.wrap .i64 ((pre.length : Int) + 1) = (pre.length : Int) + 1 := wrap_i64 (by omega) (by omega)
      repeat' (first
        | with_reducible (first | refine wp_seq ?_ | refine wp_blk ?_ | refine wp_skip ?_ | refine wp_exit ?_ | refine wp_ret ?_ | refine seqQ_norm ?_ | refine seqQ_ret ?_ | refine seqQ_exit ?_ | refine blkQ_norm ?_ | refine blkQ_ret ?_ | refine blkQ_exit ?_ | refine loopQ_norm ?_ | refine loopQ_exit ?_ | refine loopQ_ret ?_ | refine endQ_ret ?_ | refine endQ_norm ?_ | refine endE_ret ?_ | refine endE_norm ?_ | refine endI_ret ?_ | refine endI_norm ?_)
        | (with_reducible refine wp_regK fun K hK => ?_
           simp[List.replicate_succ, hw]
           repeat' (with_reducible first | refine hK _ ?_ | (refine psel ?_ ?_ <;> (intro hc; (try rw [Decidable.not_not] at hc); first | (exfalso; omega) | (try simp [hc, List.replicate_succ, hw]))))
           all_goals (clear hK; clear K))
        | (with_reducible refine wp_condE ?_
           refine ⟨_, rfl, ?_, ?_⟩ <;> (intro hc; (try simp at hc); (all_goals first | (exfalso; omega) | skip))))
      all_goals exact ⟨(pre ++ [d], rest), by simp, by simp, by simp⟩

@[simp] theorem t152 (k0 k1 : Bool) (l : List Int) (h : l.length ≤ 1048576)  : Gw TT 152 [.one (.ro k0 (.sl 1 (l.map ei))), .one (.ro k1 (.sl 1 (l.map ei)))] = some (vb true, []) := by
  refine Gw_of (F := pf152) rfl rfl ?_
  show Wp _ pb152 _ _
  unfold pb152
  repeat' (first
    | with_reducible (first | refine wp_seq ?_ | refine wp_blk ?_ | refine wp_skip ?_ | refine wp_exit ?_ | refine wp_ret ?_ | refine seqQ_norm ?_ | refine seqQ_ret ?_ | refine seqQ_exit ?_ | refine blkQ_norm ?_ | refine blkQ_ret ?_ | refine blkQ_exit ?_ | refine loopQ_norm ?_ | refine loopQ_exit ?_ | refine loopQ_ret ?_ | refine endQ_ret ?_ | refine endQ_norm ?_ | refine endE_ret ?_ | refine endE_norm ?_ | refine endI_ret ?_ | refine endI_norm ?_)
    | (with_reducible refine wp_regK fun K hK => ?_
       simp
       repeat' (with_reducible first | refine hK _ ?_ | (refine psel ?_ ?_ <;> (intro hc; (try rw [Decidable.not_not] at hc); first | (exfalso; omega) | (try simp [hc]))))
       all_goals (clear hK; clear K))
    | (with_reducible refine wp_condE ?_
       refine ⟨_, rfl, ?_, ?_⟩ <;> (intro hc; (try simp at hc); (all_goals first | (exfalso; omega) | skip))))
  · refine wp_loopI (σ := List Int × List Int) (fun s => [(0, AV.v k0 (D.sl 1 (List.map ei l)), none), (1, AV.v k1 (D.sl 1 (List.map ei l)), none), (5, AV.v false (di (s.1.length : Nat)), none)]) (fun s => l = s.1 ++ s.2) (fun s => s.2.length) ([], l) (by simp) rfl ?_
    rintro ⟨pre, rest⟩ h1
    simp only at h1
    subst h1
    simp only [List.length_append, List.length_cons] at h
    rcases rest with _ | ⟨d, rest⟩
    · unfold pl152_0
      repeat' (first
        | with_reducible (first | refine wp_seq ?_ | refine wp_blk ?_ | refine wp_skip ?_ | refine wp_exit ?_ | refine wp_ret ?_ | refine seqQ_norm ?_ | refine seqQ_ret ?_ | refine seqQ_exit ?_ | refine blkQ_norm ?_ | refine blkQ_ret ?_ | refine blkQ_exit ?_ | refine loopQ_norm ?_ | refine loopQ_exit ?_ | refine loopQ_ret ?_ | refine endQ_ret ?_ | refine endQ_norm ?_ | refine endE_ret ?_ | refine endE_norm ?_ | refine endI_ret ?_ | refine endI_norm ?_)
        | (with_reducible refine wp_regK fun K hK => ?_
           simp
           repeat' (with_reducible first | refine hK _ ?_ | (refine psel ?_ ?_ <;> (intro hc; (try rw [Decidable.not_not] at hc); first | (exfalso; omega) | (try simp [hc]))))
           all_goals (clear hK; clear K))
        | (with_reducible refine wp_condE ?_
           refine ⟨_, rfl, ?_, ?_⟩ <;> (intro hc; (try simp at hc); (all_goals first | (exfalso; omega) | skip))))
      all_goals simp [pf152]
    · unfold pl152_0
      simp only [List.length_cons] at h
      have hw : IntKind.wrap .i64 ((pre.length : Int) + 1) = (pre.length : Int) + 1 := wrap_i64 (by omega) (by omega)
      repeat' (first
        | with_reducible (first | refine wp_seq ?_ | refine wp_blk ?_ | refine wp_skip ?_ | refine wp_exit ?_ | refine wp_ret ?_ | refine seqQ_norm ?_ | refine seqQ_ret ?_ | refine seqQ_exit ?_ | refine blkQ_norm ?_ | refine blkQ_ret ?_ | refine blkQ_exit ?_ | refine loopQ_norm ?_ | refine loopQ_exit ?_ | refine loopQ_ret ?_ | refine endQ_ret ?_ | refine endQ_norm ?_ | refine endE_ret ?_ | refine endE_norm ?_ | refine endI_ret ?_ | refine endI_norm ?_)
        | (with_reducible refine wp_regK fun K hK => ?_
           simp[hw]
           repeat' (with_reducible first | refine hK _ ?_ | (refine psel ?_ ?_ <;> (intro hc; (try rw [Decidable.not_not] at hc); first | (exfalso; omega) | (try simp [hc, hw]))))
           all_goals (clear hK; clear K))
        | (with_reducible refine wp_condE ?_
           refine ⟨_, rfl, ?_, ?_⟩ <;> (intro hc; (try simp at hc); (all_goals first | (exfalso; omega) | skip))))
      all_goals exact ⟨(pre ++ [d], rest), by simp, by simp, by simp⟩

@[simp] theorem t144 (k0 k1 : Bool) (l : List Int) (h : l.length ≤ 1048576)  : Gw TT 144 [.one (.ro k0 (.sl 1 (l.map eb))), .one (.ro k1 (.sl 1 (l.map eb)))] = some (vb true, []) := by
  refine Gw_of (F := pf144) rfl rfl ?_
  show Wp _ pb144 _ _
  unfold pb144
  repeat' (first
    | with_reducible (first | refine wp_seq ?_ | refine wp_blk ?_ | refine wp_skip ?_ | refine wp_exit ?_ | refine wp_ret ?_ | refine seqQ_norm ?_ | refine seqQ_ret ?_ | refine seqQ_exit ?_ | refine blkQ_norm ?_ | refine blkQ_ret ?_ | refine blkQ_exit ?_ | refine loopQ_norm ?_ | refine loopQ_exit ?_ | refine loopQ_ret ?_ | refine endQ_ret ?_ | refine endQ_norm ?_ | refine endE_ret ?_ | refine endE_norm ?_ | refine endI_ret ?_ | refine endI_norm ?_)
    | (with_reducible refine wp_regK fun K hK => ?_
       simp
       repeat' (with_reducible first | refine hK _ ?_ | (refine psel ?_ ?_ <;> (intro hc; (try rw [Decidable.not_not] at hc); first | (exfalso; omega) | (try simp [hc]))))
       all_goals (clear hK; clear K))
    | (with_reducible refine wp_condE ?_
       refine ⟨_, rfl, ?_, ?_⟩ <;> (intro hc; (try simp at hc); (all_goals first | (exfalso; omega) | skip))))
  · refine wp_loopI (σ := List Int × List Int) (fun s => [(0, AV.v k0 (D.sl 1 (List.map eb l)), none), (1, AV.v k1 (D.sl 1 (List.map eb l)), none), (5, AV.v false (di (s.1.length : Nat)), none)]) (fun s => l = s.1 ++ s.2) (fun s => s.2.length) ([], l) (by simp) rfl ?_
    rintro ⟨pre, rest⟩ h1
    simp only at h1
    subst h1
    simp only [List.length_append, List.length_cons] at h
    rcases rest with _ | ⟨d, rest⟩
    · unfold pl144_0
      repeat' (first
        | with_reducible (first | refine wp_seq ?_ | refine wp_blk ?_ | refine wp_skip ?_ | refine wp_exit ?_ | refine wp_ret ?_ | refine seqQ_norm ?_ | refine seqQ_ret ?_ | refine seqQ_exit ?_ | refine blkQ_norm ?_ | refine blkQ_ret ?_ | refine blkQ_exit ?_ | refine loopQ_norm ?_ | refine loopQ_exit ?_ | refine loopQ_ret ?_ | refine endQ_ret ?_ | refine endQ_norm ?_ | refine endE_ret ?_ | refine endE_norm ?_ | refine endI_ret ?_ | refine endI_norm ?_)
        | (with_reducible refine wp_regK fun K hK => ?_
           simp
           repeat' (with_reducible first | refine hK _ ?_ | (refine psel ?_ ?_ <;> (intro hc; (try rw [Decidable.not_not] at hc); first | (exfalso; omega) | (try simp [hc]))))
           all_goals (clear hK; clear K))
        | (with_reducible refine wp_condE ?_
           refine ⟨_, rfl, ?_, ?_⟩ <;> (intro hc; (try simp at hc); (all_goals first | (exfalso; omega) | skip))))
      all_goals simp [pf144]
    · unfold pl144_0
      simp only [List.length_cons] at h
      have hw : IntKind.wrap .i64 ((pre.length : Int) + 1) = (pre.length : Int) + 1 := wrap_i64 (by omega) (by omega)
      repeat' (first
        | with_reducible (first | refine wp_seq ?_ | refine wp_blk ?_ | refine wp_skip ?_ | refine wp_exit ?_ | refine wp_ret ?_ | refine seqQ_norm ?_ | refine seqQ_ret ?_ | refine seqQ_exit ?_ | refine blkQ_norm ?_ | refine blkQ_ret ?_ | refine blkQ_exit ?_ | refine loopQ_norm ?_ | refine loopQ_exit ?_ | refine loopQ_ret ?_ | refine endQ_ret ?_ | refine endQ_norm ?_ | refine endE_ret ?_ | refine endE_norm ?_ | refine endI_ret ?_ | refine endI_norm ?_)
        | (with_reducible refine wp_regK fun K hK => ?_
           simp[hw]
           repeat' (with_reducible first | refine hK _ ?_ | (refine psel ?_ ?_ <;> (intro hc; (try rw [Decidable.not_not] at hc); first | (exfalso; omega) | (try simp [hc, hw]))))
           all_goals (clear hK; clear K))
        | (with_reducible refine wp_condE ?_
           refine ⟨_, rfl, ?_, ?_⟩ <;> (intro hc; (try simp at hc); (all_goals first | (exfalso; omega) | skip))))
      all_goals exact ⟨(pre ++ [d], rest), by simp, by simp, by simp⟩

@[simp] theorem t165 (x_Ty : Int) (x_N : Int) (x_S : ByteArray)  : Gw TT 165 [.st [.ro false (di x_Ty), .ro false (di x_N), .ro false (.str x_S)], .st [.ro false (di x_Ty), .ro false (di x_N), .ro false (.str x_S)]] = some (vb true, []) := by
  refine Gw_of (F := pf165) rfl rfl ?_
  show Wp _ pb165 _ _
  unfold pb165
  repeat' (first
    | with_reducible (first | refine wp_seq ?_ | refine wp_blk ?_ | refine wp_skip ?_ | refine wp_exit ?_ | refine wp_ret ?_ | refine seqQ_norm ?_ | refine seqQ_ret ?_ | refine seqQ_exit ?_ | refine blkQ_norm ?_ | refine blkQ_ret ?_ | refine blkQ_exit ?_ | refine loopQ_norm ?_ | refine loopQ_exit ?_ | refine loopQ_ret ?_ | refine endQ_ret ?_ | refine endQ_norm ?_ | refine endE_ret ?_ | refine endE_norm ?_ | refine endI_ret ?_ | refine endI_norm ?_)
    | (with_reducible refine wp_regK fun K hK => ?_
       simp
       repeat' (with_reducible first | refine hK _ ?_ | (refine psel ?_ ?_ <;> (intro hc; (try rw [Decidable.not_not] at hc); first | (exfalso; omega) | (try simp [hc]))))
       all_goals (clear hK; clear K))
    | (with_reducible refine wp_condE ?_
       refine ⟨_, rfl, ?_, ?_⟩ <;> (intro hc; (try simp at hc); (all_goals first | (exfalso; omega) | skip))))
  all_goals simp [pf165]

@[simp] theorem t166 (k0 k1 : Bool) (l : List XVal) (h : l.length ≤ 1048576) (hs : XVal.sms l) : Gw TT 166 [.one (.ro k0 (.sl 3 (l.map XVal.e))), .one (.ro k1 (.sl 3 (l.map XVal.e)))] = some (vb true, []) := by
  refine Gw_of (F := pf166) rfl rfl ?_
  show Wp _ pb166 _ _
  unfold pb166
  repeat' (first
    | with_reducible (first | refine wp_seq ?_ | refine wp_blk ?_ | refine wp_skip ?_ | refine wp_exit ?_ | refine wp_ret ?_ | refine seqQ_norm ?_ | refine seqQ_ret ?_ | refine seqQ_exit ?_ | refine blkQ_norm ?_ | refine blkQ_ret ?_ | refine blkQ_exit ?_ | refine loopQ_norm ?_ | refine loopQ_exit ?_ | refine loopQ_ret ?_ | refine endQ_ret ?_ | refine endQ_norm ?_ | refine endE_ret ?_ | refine endE_norm ?_ | refine endI_ret ?_ | refine endI_norm ?_)
    | (with_reducible refine wp_regK fun K hK => ?_
       simp
       repeat' (with_reducible first | refine hK _ ?_ | (refine psel ?_ ?_ <;> (intro hc; (try rw [Decidable.not_not] at hc); first | (exfalso; omega) | (try simp [hc]))))
       all_goals (clear hK; clear K))
    | (with_reducible refine wp_condE ?_
       refine ⟨_, rfl, ?_, ?_⟩ <;> (intro hc; (try simp at hc); (all_goals first | (exfalso; omega) | skip))))
  · refine wp_loopI (σ := List XVal × List XVal) (fun s => [(0, AV.v k0 (D.sl 3 (List.map XVal.e l)), none), (1, AV.v k1 (D.sl 3 (List.map XVal.e l)), none), (5, AV.v false (di (s.1.length : Nat)), none)]) (fun s => l = s.1 ++ s.2) (fun s => s.2.length) ([], l) (by simp) rfl ?_
    rintro ⟨pre, rest⟩ h1
    simp only at h1
    subst h1
    simp only [List.length_append, List.length_cons] at h
    rcases rest with _ | ⟨⟨y_Ty, y_N, y_S⟩, rest⟩
    · unfold pl166_0
      repeat' (first
        | with_reducible (first | refine wp_seq ?_ | refine wp_blk ?_ | refine wp_skip ?_ | refine wp_exit ?_ | refine wp_ret ?_ | refine seqQ_norm ?_ | refine seqQ_ret ?_ | refine seqQ_exit ?_ | refine blkQ_norm ?_ | refine blkQ_ret ?_ | refine blkQ_exit ?_ | refine loopQ_norm ?_ | refine loopQ_exit ?_ | refine loopQ_ret ?_ | refine endQ_ret ?_ | refine endQ_norm ?_ | refine endE_ret ?_ | refine endE_norm ?_ | refine endI_ret ?_ | refine endI_norm ?_)
        | (with_reducible refine wp_regK fun K hK => ?_
           simp
           repeat' (with_reducible first | refine hK _ ?_ | (refine psel ?_ ?_ <;> (intro hc; (try rw [Decidable.not_not] at hc); first | (exfalso; omega) | (try simp [hc]))))
           all_goals (clear hK; clear K))
        | (with_reducible refine wp_condE ?_
           refine ⟨_, rfl, ?_, ?_⟩ <;> (intro hc; (try simp at hc); (all_goals first | (exfalso; omega) | skip))))
      all_goals simp [pf166]
    · unfold pl166_0
      simp only [List.length_cons] at h
      have hw : IntKind.wrap .i64 ((pre.length : Int) + 1) = (pre.length : Int) + 1 := wrap_i64 (by omega) (by omega)
      have hd := hs ⟨y_Ty, y_N, y_S⟩ (by simp)
      simp only [XVal.sm, and_assoc] at hd
      have hsm_y_S := hd
      repeat' (first
        | with_reducible (first | refine wp_seq ?_ | refine wp_blk ?_ | refine wp_skip ?_ | refine wp_exit ?_ | refine wp_ret ?_ | refine seqQ_norm ?_ | refine seqQ_ret ?_ | refine seqQ_exit ?_ | refine blkQ_norm ?_ | refine blkQ_ret ?_ | refine blkQ_exit ?_ | refine loopQ_norm ?_ | refine loopQ_exit ?_ | refine loopQ_ret ?_ | refine endQ_ret ?_ | refine endQ_norm ?_ | refine endE_ret ?_ | refine endE_norm ?_ | refine endI_ret ?_ | refine endI_norm ?_)
        | (with_reducible refine wp_regK fun K hK => ?_
           simp[hw, hsm_y_S]
           repeat' (with_reducible first | refine hK _ ?_ | (refine psel ?_ ?_ <;> (intro hc; (try rw [Decidable.not_not] at hc); first | (exfalso; omega) | (try simp [hc, hw, hsm_y_S]))))
           all_goals (clear hK; clear K))
        | (with_reducible refine wp_condE ?_
           refine ⟨_, rfl, ?_, ?_⟩ <;> (intro hc; (try simp at hc); (all_goals first | (exfalso; omega) | skip))))
      all_goals exact ⟨(pre ++ [⟨y_Ty, y_N, y_S⟩], rest), by simp, by simp, by simp⟩

@[simp] theorem t159 (k0 k1 : Bool) (x_Id : Int) (x_L : List XVal) (hok_x_L : x_L.length ≤ 1048576) (hoks_x_L : XVal.sms x_L) : Gw TT 159 [.st [.ro false (di x_Id), .ro k0 (.sl 3 (x_L.map XVal.e))], .st [.ro false (di x_Id), .ro k1 (.sl 3 (x_L.map XVal.e))]] = some (vb true, []) := by
  refine Gw_of (F := pf159) rfl rfl ?_
  show Wp _ pb159 _ _
  unfold pb159
  repeat' (first
    | with_reducible (first | refine wp_seq ?_ | refine wp_blk ?_ | refine wp_skip ?_ | refine wp_exit ?_ | refine wp_ret ?_ | refine seqQ_norm ?_ | refine seqQ_ret ?_ | refine seqQ_exit ?_ | refine blkQ_norm ?_ | refine blkQ_ret ?_ | refine blkQ_exit ?_ | refine loopQ_norm ?_ | refine loopQ_exit ?_ | refine loopQ_ret ?_ | refine endQ_ret ?_ | refine endQ_norm ?_ | refine endE_ret ?_ | refine endE_norm ?_ | refine endI_ret ?_ | refine endI_norm ?_)
    | (with_reducible refine wp_regK fun K hK => ?_
       simp[hok_x_L, hoks_x_L]
       repeat' (with_reducible first | refine hK _ ?_ | (refine psel ?_ ?_ <;> (intro hc; (try rw [Decidable.not_not] at hc); first | (exfalso; omega) | (try simp [hc, hok_x_L, hoks_x_L]))))
       all_goals (clear hK; clear K))
    | (with_reducible refine wp_condE ?_
       refine ⟨_, rfl, ?_, ?_⟩ <;> (intro hc; (try simp at hc); (all_goals first | (exfalso; omega) | skip))))
  all_goals simp [pf159]

@[simp] theorem t160 (k0 k1 : Bool) (l : List XRow) (h : l.length ≤ 1048576) (hs : XRow.sms l) : Gw TT 160 [.one (.ro k0 (.sl 2 (l.map XRow.e))), .one (.ro k1 (.sl 2 (l.map XRow.e)))] = some (vb true, []) := by
  refine Gw_of (F := pf160) rfl rfl ?_
  show Wp _ pb160 _ _
  unfold pb160
  repeat' (first
    | with_reducible (first | refine wp_seq ?_ | refine wp_blk ?_ | refine wp_skip ?_ | refine wp_exit ?_ | refine wp_ret ?_ | refine seqQ_norm ?_ | refine seqQ_ret ?_ | refine seqQ_exit ?_ | refine blkQ_norm ?_ | refine blkQ_ret ?_ | refine blkQ_exit ?_ | refine loopQ_norm ?_ | refine loopQ_exit ?_ | refine loopQ_ret ?_ | refine endQ_ret ?_ | refine endQ_norm ?_ | refine endE_ret ?_ | refine endE_norm ?_ | refine endI_ret ?_ | refine endI_norm ?_)
    | (with_reducible refine wp_regK fun K hK => ?_
       simp
       repeat' (with_reducible first | refine hK _ ?_ | (refine psel ?_ ?_ <;> (intro hc; (try rw [Decidable.not_not] at hc); first | (exfalso; omega) | (try simp [hc]))))
       all_goals (clear hK; clear K))
    | (with_reducible refine wp_condE ?_
       refine ⟨_, rfl, ?_, ?_⟩ <;> (intro hc; (try simp at hc); (all_goals first | (exfalso; omega) | skip))))
  · refine wp_loopI (σ := List XRow × List XRow) (fun s => [(0, AV.v k0 (D.sl 2 (List.map XRow.e l)), none), (1, AV.v k1 (D.sl 2 (List.map XRow.e l)), none), (5, AV.v false (di (s.1.length : Nat)), none)]) (fun s => l = s.1 ++ s.2) (fun s => s.2.length) ([], l) (by simp) rfl ?_
    rintro ⟨pre, rest⟩ h1
    simp only at h1
    subst h1
    simp only [List.length_append, List.length_cons] at h
    rcases rest with _ | ⟨⟨y_Id, y_L⟩, rest⟩
    · unfold pl160_0
      repeat' (first
        | with_reducible (first | refine wp_seq ?_ | refine wp_blk ?_ | refine wp_skip ?_ | refine wp_exit ?_ | refine wp_ret ?_ | refine seqQ_norm ?_ | refine seqQ_ret ?_ | refine seqQ_exit ?_ | refine blkQ_norm ?_ | refine blkQ_ret ?_ | refine blkQ_exit ?_ | refine loopQ_norm ?_ | refine loopQ_exit ?_ | refine loopQ_ret ?_ | refine endQ_ret ?_ | refine endQ_norm ?_ | refine endE_ret ?_ | refine endE_norm ?_ | refine endI_ret ?_ | refine endI_norm ?_)
        | (with_reducible refine wp_regK fun K hK => ?_
           simp
           repeat' (with_reducible first | refine hK _ ?_ | (refine psel ?_ ?_ <;> (intro hc; (try rw [Decidable.not_not] at hc); first | (exfalso; omega) | (try simp [hc]))))
           all_goals (clear hK; clear K))
        | (with_reducible refine wp_condE ?_
           refine ⟨_, rfl, ?_, ?_⟩ <;> (intro hc; (try simp at hc); (all_goals first | (exfalso; omega) | skip))))
      all_goals simp [pf160]
    · unfold pl160_0
      simp only [List.length_cons] at h
      have hw : IntKind.wrap .i64 ((pre.length : Int) + 1) = (pre.length : Int) + 1 := wrap_i64 (by omega) (by omega)
      have hd := hs ⟨y_Id, y_L⟩ (by simp)
      simp only [XRow.sm, and_assoc] at hd
      obtain ⟨hsm_y_L, hsms_y_L⟩ := hd
      repeat' (first
        | with_reducible (first | refine wp_seq ?_ | refine wp_blk ?_ | refine wp_skip ?_ | refine wp_exit ?_ | refine wp_ret ?_ | refine seqQ_norm ?_ | refine seqQ_ret ?_ | refine seqQ_exit ?_ | refine blkQ_norm ?_ | refine blkQ_ret ?_ | refine blkQ_exit ?_ | refine loopQ_norm ?_ | refine loopQ_exit ?_ | refine loopQ_ret ?_ | refine endQ_ret ?_ | refine endQ_norm ?_ | refine endE_ret ?_ | refine endE_norm ?_ | refine endI_ret ?_ | refine endI_norm ?_)
        | (with_reducible refine wp_regK fun K hK => ?_
           simp[hw, hsm_y_L, hsms_y_L]
           repeat' (with_reducible first | refine hK _ ?_ | (refine psel ?_ ?_ <;> (intro hc; (try rw [Decidable.not_not] at hc); first | (exfalso; omega) | (try simp [hc, hw, hsm_y_L, hsms_y_L]))))
           all_goals (clear hK; clear K))
        | (with_reducible refine wp_condE ?_
           refine ⟨_, rfl, ?_, ?_⟩ <;> (intro hc; (try simp at hc); (all_goals first | (exfalso; omega) | skip))))
      all_goals exact ⟨(pre ++ [⟨y_Id, y_L⟩], rest), by simp, by simp, by simp⟩

@[simp] theorem t147 (x_Buf : Int) (x_Gen : Int) (x_At : Int)  : Gw TT 147 [.st [.ro false (di x_Buf), .ro false (di x_Gen), .ro false (di x_At)], .st [.ro false (di x_Buf), .ro false (di x_Gen), .ro false (di x_At)]] = some (vb true, []) := by
  refine Gw_of (F := pf147) rfl rfl ?_
  show Wp _ pb147 _ _
  unfold pb147
  repeat' (first
    | with_reducible (first | refine wp_seq ?_ | refine wp_blk ?_ | refine wp_skip ?_ | refine wp_exit ?_ | refine wp_ret ?_ | refine seqQ_norm ?_ | refine seqQ_ret ?_ | refine seqQ_exit ?_ | refine blkQ_norm ?_ | refine blkQ_ret ?_ | refine blkQ_exit ?_ | refine loopQ_norm ?_ | refine loopQ_exit ?_ | refine loopQ_ret ?_ | refine endQ_ret ?_ | refine endQ_norm ?_ | refine endE_ret ?_ | refine endE_norm ?_ | refine endI_ret ?_ | refine endI_norm ?_)
    | (with_reducible refine wp_regK fun K hK => ?_
       simp
       repeat' (with_reducible first | refine hK _ ?_ | (refine psel ?_ ?_ <;> (intro hc; (try rw [Decidable.not_not] at hc); first | (exfalso; omega) | (try simp [hc]))))
       all_goals (clear hK; clear K))
    | (with_reducible refine wp_condE ?_
       refine ⟨_, rfl, ?_, ?_⟩ <;> (intro hc; (try simp at hc); (all_goals first | (exfalso; omega) | skip))))
  all_goals simp [pf147]

@[simp] theorem t148 (k0 k1 : Bool) (l : List XDead) (h : l.length ≤ 1048576)  : Gw TT 148 [.one (.ro k0 (.sl 3 (l.map XDead.e))), .one (.ro k1 (.sl 3 (l.map XDead.e)))] = some (vb true, []) := by
  refine Gw_of (F := pf148) rfl rfl ?_
  show Wp _ pb148 _ _
  unfold pb148
  repeat' (first
    | with_reducible (first | refine wp_seq ?_ | refine wp_blk ?_ | refine wp_skip ?_ | refine wp_exit ?_ | refine wp_ret ?_ | refine seqQ_norm ?_ | refine seqQ_ret ?_ | refine seqQ_exit ?_ | refine blkQ_norm ?_ | refine blkQ_ret ?_ | refine blkQ_exit ?_ | refine loopQ_norm ?_ | refine loopQ_exit ?_ | refine loopQ_ret ?_ | refine endQ_ret ?_ | refine endQ_norm ?_ | refine endE_ret ?_ | refine endE_norm ?_ | refine endI_ret ?_ | refine endI_norm ?_)
    | (with_reducible refine wp_regK fun K hK => ?_
       simp
       repeat' (with_reducible first | refine hK _ ?_ | (refine psel ?_ ?_ <;> (intro hc; (try rw [Decidable.not_not] at hc); first | (exfalso; omega) | (try simp [hc]))))
       all_goals (clear hK; clear K))
    | (with_reducible refine wp_condE ?_
       refine ⟨_, rfl, ?_, ?_⟩ <;> (intro hc; (try simp at hc); (all_goals first | (exfalso; omega) | skip))))
  · refine wp_loopI (σ := List XDead × List XDead) (fun s => [(0, AV.v k0 (D.sl 3 (List.map XDead.e l)), none), (1, AV.v k1 (D.sl 3 (List.map XDead.e l)), none), (5, AV.v false (di (s.1.length : Nat)), none)]) (fun s => l = s.1 ++ s.2) (fun s => s.2.length) ([], l) (by simp) rfl ?_
    rintro ⟨pre, rest⟩ h1
    simp only at h1
    subst h1
    simp only [List.length_append, List.length_cons] at h
    rcases rest with _ | ⟨⟨y_Buf, y_Gen, y_At⟩, rest⟩
    · unfold pl148_0
      repeat' (first
        | with_reducible (first | refine wp_seq ?_ | refine wp_blk ?_ | refine wp_skip ?_ | refine wp_exit ?_ | refine wp_ret ?_ | refine seqQ_norm ?_ | refine seqQ_ret ?_ | refine seqQ_exit ?_ | refine blkQ_norm ?_ | refine blkQ_ret ?_ | refine blkQ_exit ?_ | refine loopQ_norm ?_ | refine loopQ_exit ?_ | refine loopQ_ret ?_ | refine endQ_ret ?_ | refine endQ_norm ?_ | refine endE_ret ?_ | refine endE_norm ?_ | refine endI_ret ?_ | refine endI_norm ?_)
        | (with_reducible refine wp_regK fun K hK => ?_
           simp
           repeat' (with_reducible first | refine hK _ ?_ | (refine psel ?_ ?_ <;> (intro hc; (try rw [Decidable.not_not] at hc); first | (exfalso; omega) | (try simp [hc]))))
           all_goals (clear hK; clear K))
        | (with_reducible refine wp_condE ?_
           refine ⟨_, rfl, ?_, ?_⟩ <;> (intro hc; (try simp at hc); (all_goals first | (exfalso; omega) | skip))))
      all_goals simp [pf148]
    · unfold pl148_0
      simp only [List.length_cons] at h
      have hw : IntKind.wrap .i64 ((pre.length : Int) + 1) = (pre.length : Int) + 1 := wrap_i64 (by omega) (by omega)
      repeat' (first
        | with_reducible (first | refine wp_seq ?_ | refine wp_blk ?_ | refine wp_skip ?_ | refine wp_exit ?_ | refine wp_ret ?_ | refine seqQ_norm ?_ | refine seqQ_ret ?_ | refine seqQ_exit ?_ | refine blkQ_norm ?_ | refine blkQ_ret ?_ | refine blkQ_exit ?_ | refine loopQ_norm ?_ | refine loopQ_exit ?_ | refine loopQ_ret ?_ | refine endQ_ret ?_ | refine endQ_norm ?_ | refine endE_ret ?_ | refine endE_norm ?_ | refine endI_ret ?_ | refine endI_norm ?_)
        | (with_reducible refine wp_regK fun K hK => ?_
           simp[hw]
           repeat' (with_reducible first | refine hK _ ?_ | (refine psel ?_ ?_ <;> (intro hc; (try rw [Decidable.not_not] at hc); first | (exfalso; omega) | (try simp [hc, hw]))))
           all_goals (clear hK; clear K))
        | (with_reducible refine wp_condE ?_
           refine ⟨_, rfl, ?_, ?_⟩ <;> (intro hc; (try simp at hc); (all_goals first | (exfalso; omega) | skip))))
      all_goals exact ⟨(pre ++ [⟨y_Buf, y_Gen, y_At⟩], rest), by simp, by simp, by simp⟩

@[simp] theorem t156 (x_Buf : Int) (x_Gen : Int) (x_Kind : Int) (x_First : Int) (x_Many : Int)  : Gw TT 156 [.st [.ro false (di x_Buf), .ro false (di x_Gen), .ro false (di x_Kind), .ro false (di x_First), .ro false (di x_Many)], .st [.ro false (di x_Buf), .ro false (di x_Gen), .ro false (di x_Kind), .ro false (di x_First), .ro false (di x_Many)]] = some (vb true, []) := by
  refine Gw_of (F := pf156) rfl rfl ?_
  show Wp _ pb156 _ _
  unfold pb156
  repeat' (first
    | with_reducible (first | refine wp_seq ?_ | refine wp_blk ?_ | refine wp_skip ?_ | refine wp_exit ?_ | refine wp_ret ?_ | refine seqQ_norm ?_ | refine seqQ_ret ?_ | refine seqQ_exit ?_ | refine blkQ_norm ?_ | refine blkQ_ret ?_ | refine blkQ_exit ?_ | refine loopQ_norm ?_ | refine loopQ_exit ?_ | refine loopQ_ret ?_ | refine endQ_ret ?_ | refine endQ_norm ?_ | refine endE_ret ?_ | refine endE_norm ?_ | refine endI_ret ?_ | refine endI_norm ?_)
    | (with_reducible refine wp_regK fun K hK => ?_
       simp
       repeat' (with_reducible first | refine hK _ ?_ | (refine psel ?_ ?_ <;> (intro hc; (try rw [Decidable.not_not] at hc); first | (exfalso; omega) | (try simp [hc]))))
       all_goals (clear hK; clear K))
    | (with_reducible refine wp_condE ?_
       refine ⟨_, rfl, ?_, ?_⟩ <;> (intro hc; (try simp at hc); (all_goals first | (exfalso; omega) | skip))))
  all_goals simp [pf156]

@[simp] theorem t157 (k0 k1 : Bool) (l : List XRef) (h : l.length ≤ 1048576)  : Gw TT 157 [.one (.ro k0 (.sl 5 (l.map XRef.e))), .one (.ro k1 (.sl 5 (l.map XRef.e)))] = some (vb true, []) := by
  refine Gw_of (F := pf157) rfl rfl ?_
  show Wp _ pb157 _ _
  unfold pb157
  repeat' (first
    | with_reducible (first | refine wp_seq ?_ | refine wp_blk ?_ | refine wp_skip ?_ | refine wp_exit ?_ | refine wp_ret ?_ | refine seqQ_norm ?_ | refine seqQ_ret ?_ | refine seqQ_exit ?_ | refine blkQ_norm ?_ | refine blkQ_ret ?_ | refine blkQ_exit ?_ | refine loopQ_norm ?_ | refine loopQ_exit ?_ | refine loopQ_ret ?_ | refine endQ_ret ?_ | refine endQ_norm ?_ | refine endE_ret ?_ | refine endE_norm ?_ | refine endI_ret ?_ | refine endI_norm ?_)
    | (with_reducible refine wp_regK fun K hK => ?_
       simp
       repeat' (with_reducible first | refine hK _ ?_ | (refine psel ?_ ?_ <;> (intro hc; (try rw [Decidable.not_not] at hc); first | (exfalso; omega) | (try simp [hc]))))
       all_goals (clear hK; clear K))
    | (with_reducible refine wp_condE ?_
       refine ⟨_, rfl, ?_, ?_⟩ <;> (intro hc; (try simp at hc); (all_goals first | (exfalso; omega) | skip))))
  · refine wp_loopI (σ := List XRef × List XRef) (fun s => [(0, AV.v k0 (D.sl 5 (List.map XRef.e l)), none), (1, AV.v k1 (D.sl 5 (List.map XRef.e l)), none), (5, AV.v false (di (s.1.length : Nat)), none)]) (fun s => l = s.1 ++ s.2) (fun s => s.2.length) ([], l) (by simp) rfl ?_
    rintro ⟨pre, rest⟩ h1
    simp only at h1
    subst h1
    simp only [List.length_append, List.length_cons] at h
    rcases rest with _ | ⟨⟨y_Buf, y_Gen, y_Kind, y_First, y_Many⟩, rest⟩
    · unfold pl157_0
      repeat' (first
        | with_reducible (first | refine wp_seq ?_ | refine wp_blk ?_ | refine wp_skip ?_ | refine wp_exit ?_ | refine wp_ret ?_ | refine seqQ_norm ?_ | refine seqQ_ret ?_ | refine seqQ_exit ?_ | refine blkQ_norm ?_ | refine blkQ_ret ?_ | refine blkQ_exit ?_ | refine loopQ_norm ?_ | refine loopQ_exit ?_ | refine loopQ_ret ?_ | refine endQ_ret ?_ | refine endQ_norm ?_ | refine endE_ret ?_ | refine endE_norm ?_ | refine endI_ret ?_ | refine endI_norm ?_)
        | (with_reducible refine wp_regK fun K hK => ?_
           simp
           repeat' (with_reducible first | refine hK _ ?_ | (refine psel ?_ ?_ <;> (intro hc; (try rw [Decidable.not_not] at hc); first | (exfalso; omega) | (try simp [hc]))))
           all_goals (clear hK; clear K))
        | (with_reducible refine wp_condE ?_
           refine ⟨_, rfl, ?_, ?_⟩ <;> (intro hc; (try simp at hc); (all_goals first | (exfalso; omega) | skip))))
      all_goals simp [pf157]
    · unfold pl157_0
      simp only [List.length_cons] at h
      have hw : IntKind.wrap .i64 ((pre.length : Int) + 1) = (pre.length : Int) + 1 := wrap_i64 (by omega) (by omega)
      repeat' (first
        | with_reducible (first | refine wp_seq ?_ | refine wp_blk ?_ | refine wp_skip ?_ | refine wp_exit ?_ | refine wp_ret ?_ | refine seqQ_norm ?_ | refine seqQ_ret ?_ | refine seqQ_exit ?_ | refine blkQ_norm ?_ | refine blkQ_ret ?_ | refine blkQ_exit ?_ | refine loopQ_norm ?_ | refine loopQ_exit ?_ | refine loopQ_ret ?_ | refine endQ_ret ?_ | refine endQ_norm ?_ | refine endE_ret ?_ | refine endE_norm ?_ | refine endI_ret ?_ | refine endI_norm ?_)
        | (with_reducible refine wp_regK fun K hK => ?_
           simp[hw]
           repeat' (with_reducible first | refine hK _ ?_ | (refine psel ?_ ?_ <;> (intro hc; (try rw [Decidable.not_not] at hc); first | (exfalso; omega) | (try simp [hc, hw]))))
           all_goals (clear hK; clear K))
        | (with_reducible refine wp_condE ?_
           refine ⟨_, rfl, ?_, ?_⟩ <;> (intro hc; (try simp at hc); (all_goals first | (exfalso; omega) | skip))))
      all_goals exact ⟨(pre ++ [⟨y_Buf, y_Gen, y_Kind, y_First, y_Many⟩], rest), by simp, by simp, by simp⟩

@[simp] theorem t151 (k0 k1 : Bool) (x_Ver : Int) (x_L : List XRef) (hok_x_L : x_L.length ≤ 1048576) : Gw TT 151 [.st [.ro false (di x_Ver), .ro k0 (.sl 5 (x_L.map XRef.e))], .st [.ro false (di x_Ver), .ro k1 (.sl 5 (x_L.map XRef.e))]] = some (vb true, []) := by
  refine Gw_of (F := pf151) rfl rfl ?_
  show Wp _ pb151 _ _
  unfold pb151
  repeat' (first
    | with_reducible (first | refine wp_seq ?_ | refine wp_blk ?_ | refine wp_skip ?_ | refine wp_exit ?_ | refine wp_ret ?_ | refine seqQ_norm ?_ | refine seqQ_ret ?_ | refine seqQ_exit ?_ | refine blkQ_norm ?_ | refine blkQ_ret ?_ | refine blkQ_exit ?_ | refine loopQ_norm ?_ | refine loopQ_exit ?_ | refine loopQ_ret ?_ | refine endQ_ret ?_ | refine endQ_norm ?_ | refine endE_ret ?_ | refine endE_norm ?_ | refine endI_ret ?_ | refine endI_norm ?_)
    | (with_reducible refine wp_regK fun K hK => ?_
       simp[hok_x_L]
       repeat' (with_reducible first | refine hK _ ?_ | (refine psel ?_ ?_ <;> (intro hc; (try rw [Decidable.not_not] at hc); first | (exfalso; omega) | (try simp [hc, hok_x_L]))))
       all_goals (clear hK; clear K))
    | (with_reducible refine wp_condE ?_
       refine ⟨_, rfl, ?_, ?_⟩ <;> (intro hc; (try simp at hc); (all_goals first | (exfalso; omega) | skip))))
  all_goals simp [pf151]

@[simp] theorem t161 (k0 k1 : Bool) (x_Ins : Int) (x_L : List XVal) (hok_x_L : x_L.length ≤ 1048576) (hoks_x_L : XVal.sms x_L) : Gw TT 161 [.st [.ro false (di x_Ins), .ro k0 (.sl 3 (x_L.map XVal.e))], .st [.ro false (di x_Ins), .ro k1 (.sl 3 (x_L.map XVal.e))]] = some (vb true, []) := by
  refine Gw_of (F := pf161) rfl rfl ?_
  show Wp _ pb161 _ _
  unfold pb161
  repeat' (first
    | with_reducible (first | refine wp_seq ?_ | refine wp_blk ?_ | refine wp_skip ?_ | refine wp_exit ?_ | refine wp_ret ?_ | refine seqQ_norm ?_ | refine seqQ_ret ?_ | refine seqQ_exit ?_ | refine blkQ_norm ?_ | refine blkQ_ret ?_ | refine blkQ_exit ?_ | refine loopQ_norm ?_ | refine loopQ_exit ?_ | refine loopQ_ret ?_ | refine endQ_ret ?_ | refine endQ_norm ?_ | refine endE_ret ?_ | refine endE_norm ?_ | refine endI_ret ?_ | refine endI_norm ?_)
    | (with_reducible refine wp_regK fun K hK => ?_
       simp[hok_x_L, hoks_x_L]
       repeat' (with_reducible first | refine hK _ ?_ | (refine psel ?_ ?_ <;> (intro hc; (try rw [Decidable.not_not] at hc); first | (exfalso; omega) | (try simp [hc, hok_x_L, hoks_x_L]))))
       all_goals (clear hK; clear K))
    | (with_reducible refine wp_condE ?_
       refine ⟨_, rfl, ?_, ?_⟩ <;> (intro hc; (try simp at hc); (all_goals first | (exfalso; omega) | skip))))
  all_goals simp [pf161]

@[simp] theorem t162 (k0 k1 : Bool) (l : List XSlot) (h : l.length ≤ 1048576) (hs : XSlot.sms l) : Gw TT 162 [.one (.ro k0 (.sl 2 (l.map XSlot.e))), .one (.ro k1 (.sl 2 (l.map XSlot.e)))] = some (vb true, []) := by
  refine Gw_of (F := pf162) rfl rfl ?_
  show Wp _ pb162 _ _
  unfold pb162
  repeat' (first
    | with_reducible (first | refine wp_seq ?_ | refine wp_blk ?_ | refine wp_skip ?_ | refine wp_exit ?_ | refine wp_ret ?_ | refine seqQ_norm ?_ | refine seqQ_ret ?_ | refine seqQ_exit ?_ | refine blkQ_norm ?_ | refine blkQ_ret ?_ | refine blkQ_exit ?_ | refine loopQ_norm ?_ | refine loopQ_exit ?_ | refine loopQ_ret ?_ | refine endQ_ret ?_ | refine endQ_norm ?_ | refine endE_ret ?_ | refine endE_norm ?_ | refine endI_ret ?_ | refine endI_norm ?_)
    | (with_reducible refine wp_regK fun K hK => ?_
       simp
       repeat' (with_reducible first | refine hK _ ?_ | (refine psel ?_ ?_ <;> (intro hc; (try rw [Decidable.not_not] at hc); first | (exfalso; omega) | (try simp [hc]))))
       all_goals (clear hK; clear K))
    | (with_reducible refine wp_condE ?_
       refine ⟨_, rfl, ?_, ?_⟩ <;> (intro hc; (try simp at hc); (all_goals first | (exfalso; omega) | skip))))
  · refine wp_loopI (σ := List XSlot × List XSlot) (fun s => [(0, AV.v k0 (D.sl 2 (List.map XSlot.e l)), none), (1, AV.v k1 (D.sl 2 (List.map XSlot.e l)), none), (5, AV.v false (di (s.1.length : Nat)), none)]) (fun s => l = s.1 ++ s.2) (fun s => s.2.length) ([], l) (by simp) rfl ?_
    rintro ⟨pre, rest⟩ h1
    simp only at h1
    subst h1
    simp only [List.length_append, List.length_cons] at h
    rcases rest with _ | ⟨⟨y_Ins, y_L⟩, rest⟩
    · unfold pl162_0
      repeat' (first
        | with_reducible (first | refine wp_seq ?_ | refine wp_blk ?_ | refine wp_skip ?_ | refine wp_exit ?_ | refine wp_ret ?_ | refine seqQ_norm ?_ | refine seqQ_ret ?_ | refine seqQ_exit ?_ | refine blkQ_norm ?_ | refine blkQ_ret ?_ | refine blkQ_exit ?_ | refine loopQ_norm ?_ | refine loopQ_exit ?_ | refine loopQ_ret ?_ | refine endQ_ret ?_ | refine endQ_norm ?_ | refine endE_ret ?_ | refine endE_norm ?_ | refine endI_ret ?_ | refine endI_norm ?_)
        | (with_reducible refine wp_regK fun K hK => ?_
           simp
           repeat' (with_reducible first | refine hK _ ?_ | (refine psel ?_ ?_ <;> (intro hc; (try rw [Decidable.not_not] at hc); first | (exfalso; omega) | (try simp [hc]))))
           all_goals (clear hK; clear K))
        | (with_reducible refine wp_condE ?_
           refine ⟨_, rfl, ?_, ?_⟩ <;> (intro hc; (try simp at hc); (all_goals first | (exfalso; omega) | skip))))
      all_goals simp [pf162]
    · unfold pl162_0
      simp only [List.length_cons] at h
      have hw : IntKind.wrap .i64 ((pre.length : Int) + 1) = (pre.length : Int) + 1 := wrap_i64 (by omega) (by omega)
      have hd := hs ⟨y_Ins, y_L⟩ (by simp)
      simp only [XSlot.sm, and_assoc] at hd
      obtain ⟨hsm_y_L, hsms_y_L⟩ := hd
      repeat' (first
        | with_reducible (first | refine wp_seq ?_ | refine wp_blk ?_ | refine wp_skip ?_ | refine wp_exit ?_ | refine wp_ret ?_ | refine seqQ_norm ?_ | refine seqQ_ret ?_ | refine seqQ_exit ?_ | refine blkQ_norm ?_ | refine blkQ_ret ?_ | refine blkQ_exit ?_ | refine loopQ_norm ?_ | refine loopQ_exit ?_ | refine loopQ_ret ?_ | refine endQ_ret ?_ | refine endQ_norm ?_ | refine endE_ret ?_ | refine endE_norm ?_ | refine endI_ret ?_ | refine endI_norm ?_)
        | (with_reducible refine wp_regK fun K hK => ?_
           simp[hw, hsm_y_L, hsms_y_L]
           repeat' (with_reducible first | refine hK _ ?_ | (refine psel ?_ ?_ <;> (intro hc; (try rw [Decidable.not_not] at hc); first | (exfalso; omega) | (try simp [hc, hw, hsm_y_L, hsms_y_L]))))
           all_goals (clear hK; clear K))
        | (with_reducible refine wp_condE ?_
           refine ⟨_, rfl, ?_, ?_⟩ <;> (intro hc; (try simp at hc); (all_goals first | (exfalso; omega) | skip))))
      all_goals exact ⟨(pre ++ [⟨y_Ins, y_L⟩], rest), by simp, by simp, by simp⟩

@[simp] theorem t145 (k0 k1 : Bool) (x_Next : Int) (x_L : List XSlot) (hok_x_L : x_L.length ≤ 1048576) (hoks_x_L : XSlot.sms x_L) : Gw TT 145 [.st [.ro false (di x_Next), .ro k0 (.sl 2 (x_L.map XSlot.e))], .st [.ro false (di x_Next), .ro k1 (.sl 2 (x_L.map XSlot.e))]] = some (vb true, []) := by
  refine Gw_of (F := pf145) rfl rfl ?_
  show Wp _ pb145 _ _
  unfold pb145
  repeat' (first
    | with_reducible (first | refine wp_seq ?_ | refine wp_blk ?_ | refine wp_skip ?_ | refine wp_exit ?_ | refine wp_ret ?_ | refine seqQ_norm ?_ | refine seqQ_ret ?_ | refine seqQ_exit ?_ | refine blkQ_norm ?_ | refine blkQ_ret ?_ | refine blkQ_exit ?_ | refine loopQ_norm ?_ | refine loopQ_exit ?_ | refine loopQ_ret ?_ | refine endQ_ret ?_ | refine endQ_norm ?_ | refine endE_ret ?_ | refine endE_norm ?_ | refine endI_ret ?_ | refine endI_norm ?_)
    | (with_reducible refine wp_regK fun K hK => ?_
       simp[hok_x_L, hoks_x_L]
       repeat' (with_reducible first | refine hK _ ?_ | (refine psel ?_ ?_ <;> (intro hc; (try rw [Decidable.not_not] at hc); first | (exfalso; omega) | (try simp [hc, hok_x_L, hoks_x_L]))))
       all_goals (clear hK; clear K))
    | (with_reducible refine wp_condE ?_
       refine ⟨_, rfl, ?_, ?_⟩ <;> (intro hc; (try simp at hc); (all_goals first | (exfalso; omega) | skip))))
  all_goals simp [pf145]

@[simp] theorem t142 (k0 k1 : Bool) (x_Gen : Int) (x_Kind : Int) (x_C_Next : Int) (x_C_L : List XSlot) (x_G : List Int) (hok_x_C_L : x_C_L.length ≤ 1048576) (hoks_x_C_L : XSlot.sms x_C_L) (hok_x_G : x_G.length ≤ 1048576) : Gw TT 142 [.st [.ro false (di x_Gen), .ro false (di x_Kind), .ro false (di x_C_Next), .ro k0 (.sl 2 (x_C_L.map XSlot.e)), .ro k0 (.sl 1 (x_G.map eb))], .st [.ro false (di x_Gen), .ro false (di x_Kind), .ro false (di x_C_Next), .ro k1 (.sl 2 (x_C_L.map XSlot.e)), .ro k1 (.sl 1 (x_G.map eb))]] = some (vb true, []) := by
  refine Gw_of (F := pf142) rfl rfl ?_
  show Wp _ pb142 _ _
  unfold pb142
  repeat' (first
    | with_reducible (first | refine wp_seq ?_ | refine wp_blk ?_ | refine wp_skip ?_ | refine wp_exit ?_ | refine wp_ret ?_ | refine seqQ_norm ?_ | refine seqQ_ret ?_ | refine seqQ_exit ?_ | refine blkQ_norm ?_ | refine blkQ_ret ?_ | refine blkQ_exit ?_ | refine loopQ_norm ?_ | refine loopQ_exit ?_ | refine loopQ_ret ?_ | refine endQ_ret ?_ | refine endQ_norm ?_ | refine endE_ret ?_ | refine endE_norm ?_ | refine endI_ret ?_ | refine endI_norm ?_)
    | (with_reducible refine wp_regK fun K hK => ?_
       simp[hok_x_C_L, hoks_x_C_L, hok_x_G]
       repeat' (with_reducible first | refine hK _ ?_ | (refine psel ?_ ?_ <;> (intro hc; (try rw [Decidable.not_not] at hc); first | (exfalso; omega) | (try simp [hc, hok_x_C_L, hoks_x_C_L, hok_x_G]))))
       all_goals (clear hK; clear K))
    | (with_reducible refine wp_condE ?_
       refine ⟨_, rfl, ?_, ?_⟩ <;> (intro hc; (try simp at hc); (all_goals first | (exfalso; omega) | skip))))
  all_goals simp [pf142]

@[simp] theorem t143 (k0 k1 : Bool) (l : List XBuf) (h : l.length ≤ 1048576) (hs : XBuf.sms l) : Gw TT 143 [.one (.ro k0 (.sl 5 (l.map XBuf.e))), .one (.ro k1 (.sl 5 (l.map XBuf.e)))] = some (vb true, []) := by
  refine Gw_of (F := pf143) rfl rfl ?_
  show Wp _ pb143 _ _
  unfold pb143
  repeat' (first
    | with_reducible (first | refine wp_seq ?_ | refine wp_blk ?_ | refine wp_skip ?_ | refine wp_exit ?_ | refine wp_ret ?_ | refine seqQ_norm ?_ | refine seqQ_ret ?_ | refine seqQ_exit ?_ | refine blkQ_norm ?_ | refine blkQ_ret ?_ | refine blkQ_exit ?_ | refine loopQ_norm ?_ | refine loopQ_exit ?_ | refine loopQ_ret ?_ | refine endQ_ret ?_ | refine endQ_norm ?_ | refine endE_ret ?_ | refine endE_norm ?_ | refine endI_ret ?_ | refine endI_norm ?_)
    | (with_reducible refine wp_regK fun K hK => ?_
       simp
       repeat' (with_reducible first | refine hK _ ?_ | (refine psel ?_ ?_ <;> (intro hc; (try rw [Decidable.not_not] at hc); first | (exfalso; omega) | (try simp [hc]))))
       all_goals (clear hK; clear K))
    | (with_reducible refine wp_condE ?_
       refine ⟨_, rfl, ?_, ?_⟩ <;> (intro hc; (try simp at hc); (all_goals first | (exfalso; omega) | skip))))
  · refine wp_loopI (σ := List XBuf × List XBuf) (fun s => [(0, AV.v k0 (D.sl 5 (List.map XBuf.e l)), none), (1, AV.v k1 (D.sl 5 (List.map XBuf.e l)), none), (5, AV.v false (di (s.1.length : Nat)), none)]) (fun s => l = s.1 ++ s.2) (fun s => s.2.length) ([], l) (by simp) rfl ?_
    rintro ⟨pre, rest⟩ h1
    simp only at h1
    subst h1
    simp only [List.length_append, List.length_cons] at h
    rcases rest with _ | ⟨⟨y_Gen, y_Kind, ⟨y_C_Next, y_C_L⟩, y_G⟩, rest⟩
    · unfold pl143_0
      repeat' (first
        | with_reducible (first | refine wp_seq ?_ | refine wp_blk ?_ | refine wp_skip ?_ | refine wp_exit ?_ | refine wp_ret ?_ | refine seqQ_norm ?_ | refine seqQ_ret ?_ | refine seqQ_exit ?_ | refine blkQ_norm ?_ | refine blkQ_ret ?_ | refine blkQ_exit ?_ | refine loopQ_norm ?_ | refine loopQ_exit ?_ | refine loopQ_ret ?_ | refine endQ_ret ?_ | refine endQ_norm ?_ | refine endE_ret ?_ | refine endE_norm ?_ | refine endI_ret ?_ | refine endI_norm ?_)
        | (with_reducible refine wp_regK fun K hK => ?_
           simp
           repeat' (with_reducible first | refine hK _ ?_ | (refine psel ?_ ?_ <;> (intro hc; (try rw [Decidable.not_not] at hc); first | (exfalso; omega) | (try simp [hc]))))
           all_goals (clear hK; clear K))
        | (with_reducible refine wp_condE ?_
           refine ⟨_, rfl, ?_, ?_⟩ <;> (intro hc; (try simp at hc); (all_goals first | (exfalso; omega) | skip))))
      all_goals simp [pf143]
    · unfold pl143_0
      simp only [List.length_cons] at h
      have hw : IntKind.wrap .i64 ((pre.length : Int) + 1) = (pre.length : Int) + 1 := wrap_i64 (by omega) (by omega)
      have hd := hs ⟨y_Gen, y_Kind, ⟨y_C_Next, y_C_L⟩, y_G⟩ (by simp)
      simp only [XBuf.sm, XChunk.sm, and_assoc] at hd
      obtain ⟨hsm_y_C_L, hsms_y_C_L, hsm_y_G⟩ := hd
      repeat' (first
        | with_reducible (first | refine wp_seq ?_ | refine wp_blk ?_ | refine wp_skip ?_ | refine wp_exit ?_ | refine wp_ret ?_ | refine seqQ_norm ?_ | refine seqQ_ret ?_ | refine seqQ_exit ?_ | refine blkQ_norm ?_ | refine blkQ_ret ?_ | refine blkQ_exit ?_ | refine loopQ_norm ?_ | refine loopQ_exit ?_ | refine loopQ_ret ?_ | refine endQ_ret ?_ | refine endQ_norm ?_ | refine endE_ret ?_ | refine endE_norm ?_ | refine endI_ret ?_ | refine endI_norm ?_)
        | (with_reducible refine wp_regK fun K hK => ?_
           simp[hw, hsm_y_C_L, hsms_y_C_L, hsm_y_G]
           repeat' (with_reducible first | refine hK _ ?_ | (refine psel ?_ ?_ <;> (intro hc; (try rw [Decidable.not_not] at hc); first | (exfalso; omega) | (try simp [hc, hw, hsm_y_C_L, hsms_y_C_L, hsm_y_G]))))
           all_goals (clear hK; clear K))
        | (with_reducible refine wp_condE ?_
           refine ⟨_, rfl, ?_, ?_⟩ <;> (intro hc; (try simp at hc); (all_goals first | (exfalso; omega) | skip))))
      all_goals exact ⟨(pre ++ [⟨y_Gen, y_Kind, ⟨y_C_Next, y_C_L⟩, y_G⟩], rest), by simp, by simp, by simp⟩

@[simp] theorem t238 (k0 : Bool) (x_Cols : List Int) (x_Slots : Int) (x_Bufs : Int) (hsm_x_Cols : x_Cols.length ≤ 1048576) : Gw TT 238 [.st [.ro k0 (.sl 1 (x_Cols.map ei)), .ro false (di x_Slots), .ro false (di x_Bufs)]] = some (.st [.own (.sl 1 (x_Cols.map ei)), .ro false (di x_Slots), .ro false (di x_Bufs)], []) := by
  refine Gw_of (F := pf238) rfl rfl ?_
  show Wp _ pb238 _ _
  unfold pb238
  repeat' (first
    | with_reducible (first | refine wp_seq ?_ | refine wp_blk ?_ | refine wp_skip ?_ | refine wp_exit ?_ | refine wp_ret ?_ | refine seqQ_norm ?_ | refine seqQ_ret ?_ | refine seqQ_exit ?_ | refine blkQ_norm ?_ | refine blkQ_ret ?_ | refine blkQ_exit ?_ | refine loopQ_norm ?_ | refine loopQ_exit ?_ | refine loopQ_ret ?_ | refine endQ_ret ?_ | refine endQ_norm ?_ | refine endE_ret ?_ | refine endE_norm ?_ | refine endI_ret ?_ | refine endI_norm ?_)
    | (with_reducible refine wp_regK fun K hK => ?_
       simp[hsm_x_Cols]
       repeat' (with_reducible first | refine hK _ ?_ | (refine psel ?_ ?_ <;> (intro hc; (try rw [Decidable.not_not] at hc); first | (exfalso; omega) | (try simp [hc, hsm_x_Cols]))))
       all_goals (clear hK; clear K))
    | (with_reducible refine wp_condE ?_
       refine ⟨_, rfl, ?_, ?_⟩ <;> (intro hc; (try simp at hc); (all_goals first | (exfalso; omega) | skip))))
  all_goals simp [pf238]

@[simp] theorem t146 (k0 k1 : Bool) (x_Cols : List Int) (x_Slots : Int) (x_Bufs : Int) (hok_x_Cols : x_Cols.length ≤ 1048576) : Gw TT 146 [.st [.ro k0 (.sl 1 (x_Cols.map ei)), .ro false (di x_Slots), .ro false (di x_Bufs)], .st [.ro k1 (.sl 1 (x_Cols.map ei)), .ro false (di x_Slots), .ro false (di x_Bufs)]] = some (vb true, []) := by
  refine Gw_of (F := pf146) rfl rfl ?_
  show Wp _ pb146 _ _
  unfold pb146
  repeat' (first
    | with_reducible (first | refine wp_seq ?_ | refine wp_blk ?_ | refine wp_skip ?_ | refine wp_exit ?_ | refine wp_ret ?_ | refine seqQ_norm ?_ | refine seqQ_ret ?_ | refine seqQ_exit ?_ | refine blkQ_norm ?_ | refine blkQ_ret ?_ | refine blkQ_exit ?_ | refine loopQ_norm ?_ | refine loopQ_exit ?_ | refine loopQ_ret ?_ | refine endQ_ret ?_ | refine endQ_norm ?_ | refine endE_ret ?_ | refine endE_norm ?_ | refine endI_ret ?_ | refine endI_norm ?_)
    | (with_reducible refine wp_regK fun K hK => ?_
       simp[hok_x_Cols]
       repeat' (with_reducible first | refine hK _ ?_ | (refine psel ?_ ?_ <;> (intro hc; (try rw [Decidable.not_not] at hc); first | (exfalso; omega) | (try simp [hc, hok_x_Cols]))))
       all_goals (clear hK; clear K))
    | (with_reducible refine wp_condE ?_
       refine ⟨_, rfl, ?_, ?_⟩ <;> (intro hc; (try simp at hc); (all_goals first | (exfalso; omega) | skip))))
  all_goals simp [pf146]

def EqPred (x : XPred) : Prop := ∀ k0 k1 : Bool, x.sm → Gw TT 153 [.st [.ro false (di x.Kind), .ro false (di x.Col), .ro false (di x.Op), .ro false (di x.V.Ty), .ro false (di x.V.N), .ro false (.str x.V.S), .ro k0 (.sl 7 (x.L.map XPred.e))], .st [.ro false (di x.Kind), .ro false (di x.Col), .ro false (di x.Op), .ro false (di x.V.Ty), .ro false (di x.V.N), .ro false (.str x.V.S), .ro k1 (.sl 7 (x.L.map XPred.e))]] = some (vb true, [])
def EqPreds (l : List XPred) : Prop := ∀ k0 k1 : Bool, l.length ≤ 1048576 → XPred.sms l → Gw TT 154 [.one (.ro k0 (.sl 7 (l.map XPred.e))), .one (.ro k1 (.sl 7 (l.map XPred.e)))] = some (vb true, [])

theorem EqPreds_of (l : List XPred) (IH : ∀ y ∈ l, EqPred y) : EqPreds l := by
  intro k0 k1 h hs
  refine Gw_of (F := pf154) rfl rfl ?_
  show Wp _ pb154 _ _
  unfold pb154
  repeat' (first
    | with_reducible (first | refine wp_seq ?_ | refine wp_blk ?_ | refine wp_skip ?_ | refine wp_exit ?_ | refine wp_ret ?_ | refine seqQ_norm ?_ | refine seqQ_ret ?_ | refine seqQ_exit ?_ | refine blkQ_norm ?_ | refine blkQ_ret ?_ | refine blkQ_exit ?_ | refine loopQ_norm ?_ | refine loopQ_exit ?_ | refine loopQ_ret ?_ | refine endQ_ret ?_ | refine endQ_norm ?_ | refine endE_ret ?_ | refine endE_norm ?_ | refine endI_ret ?_ | refine endI_norm ?_)
    | (with_reducible refine wp_regK fun K hK => ?_
       simp
       repeat' (with_reducible first | refine hK _ ?_ | (refine psel ?_ ?_ <;> (intro hc; (try rw [Decidable.not_not] at hc); first | (exfalso; omega) | (try simp [hc]))))
       all_goals (clear hK; clear K))
    | (with_reducible refine wp_condE ?_
       refine ⟨_, rfl, ?_, ?_⟩ <;> (intro hc; (try simp at hc); (all_goals first | (exfalso; omega) | skip))))
  · refine wp_loopI (σ := List XPred × List XPred) (fun s => [(0, AV.v k0 (D.sl 7 (List.map XPred.e l)), none), (1, AV.v k1 (D.sl 7 (List.map XPred.e l)), none), (5, AV.v false (di (s.1.length : Nat)), none)]) (fun s => l = s.1 ++ s.2) (fun s => s.2.length) ([], l) (by simp) rfl ?_
    rintro ⟨pre, rest⟩ h1
    simp only at h1
    subst h1
    simp only [List.length_append, List.length_cons] at h
    rcases rest with _ | ⟨⟨y_Kind, y_Col, y_Op, ⟨y_V_Ty, y_V_N, y_V_S⟩, y_L⟩, rest⟩
    · unfold pl154_0
      repeat' (first
        | with_reducible (first | refine wp_seq ?_ | refine wp_blk ?_ | refine wp_skip ?_ | refine wp_exit ?_ | refine wp_ret ?_ | refine seqQ_norm ?_ | refine seqQ_ret ?_ | refine seqQ_exit ?_ | refine blkQ_norm ?_ | refine blkQ_ret ?_ | refine blkQ_exit ?_ | refine loopQ_norm ?_ | refine loopQ_exit ?_ | refine loopQ_ret ?_ | refine endQ_ret ?_ | refine endQ_norm ?_ | refine endE_ret ?_ | refine endE_norm ?_ | refine endI_ret ?_ | refine endI_norm ?_)
        | (with_reducible refine wp_regK fun K hK => ?_
           simp
           repeat' (with_reducible first | refine hK _ ?_ | (refine psel ?_ ?_ <;> (intro hc; (try rw [Decidable.not_not] at hc); first | (exfalso; omega) | (try simp [hc]))))
           all_goals (clear hK; clear K))
        | (with_reducible refine wp_condE ?_
           refine ⟨_, rfl, ?_, ?_⟩ <;> (intro hc; (try simp at hc); (all_goals first | (exfalso; omega) | skip))))
      all_goals simp [pf154]
    · unfold pl154_0
      simp only [List.length_cons] at h
      have hw : IntKind.wrap .i64 ((pre.length : Int) + 1) = (pre.length : Int) + 1 := wrap_i64 (by omega) (by omega)
      have hd := XPred.sms_mem hs ⟨y_Kind, y_Col, y_Op, ⟨y_V_Ty, y_V_N, y_V_S⟩, y_L⟩ (by simp)
      simp only [XPred.sm_eq, XVal.sm, and_assoc] at hd
      obtain ⟨hsm_y_V_S, hsm_y_L, hsms_y_L⟩ := hd
      have ih := IH ⟨y_Kind, y_Col, y_Op, ⟨y_V_Ty, y_V_N, y_V_S⟩, y_L⟩ (by simp) k0 k1 (XPred.sms_mem hs ⟨y_Kind, y_Col, y_Op, ⟨y_V_Ty, y_V_N, y_V_S⟩, y_L⟩ (by simp))
      simp only at ih
      repeat' (first
        | with_reducible (first | refine wp_seq ?_ | refine wp_blk ?_ | refine wp_skip ?_ | refine wp_exit ?_ | refine wp_ret ?_ | refine seqQ_norm ?_ | refine seqQ_ret ?_ | refine seqQ_exit ?_ | refine blkQ_norm ?_ | refine blkQ_ret ?_ | refine blkQ_exit ?_ | refine loopQ_norm ?_ | refine loopQ_exit ?_ | refine loopQ_ret ?_ | refine endQ_ret ?_ | refine endQ_norm ?_ | refine endE_ret ?_ | refine endE_norm ?_ | refine endI_ret ?_ | refine endI_norm ?_)
        | (with_reducible refine wp_regK fun K hK => ?_
           simp[hw, ih, hsm_y_V_S, hsm_y_L, hsms_y_L]
           repeat' (with_reducible first | refine hK _ ?_ | (refine psel ?_ ?_ <;> (intro hc; (try rw [Decidable.not_not] at hc); first | (exfalso; omega) | (try simp [hc, hw, ih, hsm_y_V_S, hsm_y_L, hsms_y_L]))))
           all_goals (clear hK; clear K))
        | (with_reducible refine wp_condE ?_
           refine ⟨_, rfl, ?_, ?_⟩ <;> (intro hc; (try simp at hc); (all_goals first | (exfalso; omega) | skip))))
      all_goals exact ⟨(pre ++ [⟨y_Kind, y_Col, y_Op, ⟨y_V_Ty, y_V_N, y_V_S⟩, y_L⟩], rest), by simp, by simp, by simp⟩

theorem EqPred_of (x : XPred) (IH : EqPreds x.L) : EqPred x := by
  intro k0 k1 hx
  obtain ⟨x_Kind, x_Col, x_Op, ⟨x_V_Ty, x_V_N, x_V_S⟩, x_L⟩ := x
  simp only [XPred.sm_eq, XVal.sm, and_assoc] at hx
  obtain ⟨hsm_x_V_S, hsm_x_L, hsms_x_L⟩ := hx
  have ih := IH k0 k1 hsm_x_L hsms_x_L
  simp only at ih
  refine Gw_of (F := pf153) rfl rfl ?_
  show Wp _ pb153 _ _
  unfold pb153
  repeat' (first
    | with_reducible (first | refine wp_seq ?_ | refine wp_blk ?_ | refine wp_skip ?_ | refine wp_exit ?_ | refine wp_ret ?_ | refine seqQ_norm ?_ | refine seqQ_ret ?_ | refine seqQ_exit ?_ | refine blkQ_norm ?_ | refine blkQ_ret ?_ | refine blkQ_exit ?_ | refine loopQ_norm ?_ | refine loopQ_exit ?_ | refine loopQ_ret ?_ | refine endQ_ret ?_ | refine endQ_norm ?_ | refine endE_ret ?_ | refine endE_norm ?_ | refine endI_ret ?_ | refine endI_norm ?_)
    | (with_reducible refine wp_regK fun K hK => ?_
       simp[ih]
       repeat' (with_reducible first | refine hK _ ?_ | (refine psel ?_ ?_ <;> (intro hc; (try rw [Decidable.not_not] at hc); first | (exfalso; omega) | (try simp [hc, ih]))))
       all_goals (clear hK; clear K))
    | (with_reducible refine wp_condE ?_
       refine ⟨_, rfl, ?_, ?_⟩ <;> (intro hc; (try simp at hc); (all_goals first | (exfalso; omega) | skip))))
  all_goals simp [pf153]

theorem EqPred_all (x : XPred) : EqPred x :=
  EqPred_of x (EqPreds_of x.L fun y hy => EqPred_all y)
termination_by SizeOf.sizeOf x
decreasing_by
  have h1 := List.sizeOf_lt_of_mem hy
  have h2 : SizeOf.sizeOf x.L < SizeOf.sizeOf x := by cases x; simp; omega
  omega

@[simp] theorem t153 (k0 k1 : Bool) (x_Kind : Int) (x_Col : Int) (x_Op : Int) (x_V_Ty : Int) (x_V_N : Int) (x_V_S : ByteArray) (x_L : List XPred) (hok_x_L : x_L.length ≤ 1048576) (hoks_x_L : XPred.sms x_L) (hv : x_V_S.size ≤ 1048576) : Gw TT 153 [.st [.ro false (di x_Kind), .ro false (di x_Col), .ro false (di x_Op), .ro false (di x_V_Ty), .ro false (di x_V_N), .ro false (.str x_V_S), .ro k0 (.sl 7 (x_L.map XPred.e))], .st [.ro false (di x_Kind), .ro false (di x_Col), .ro false (di x_Op), .ro false (di x_V_Ty), .ro false (di x_V_N), .ro false (.str x_V_S), .ro k1 (.sl 7 (x_L.map XPred.e))]] = some (vb true, []) := EqPred_all ⟨x_Kind, x_Col, x_Op, ⟨x_V_Ty, x_V_N, x_V_S⟩, x_L⟩ k0 k1 (by simp only [XPred.sm_eq, XVal.sm, and_assoc]; exact ⟨hv, hok_x_L, hoks_x_L⟩)

@[simp] theorem t154 (k0 k1 : Bool) (l : List XPred) (h : l.length ≤ 1048576) (hs : XPred.sms l) : Gw TT 154 [.one (.ro k0 (.sl 7 (l.map XPred.e))), .one (.ro k1 (.sl 7 (l.map XPred.e)))] = some (vb true, []) := EqPreds_of l (fun y _ => EqPred_all y) k0 k1 h hs

@[simp] theorem t155 (k0 k1 : Bool) (x_Kind : Int) (x_P_Kind : Int) (x_P_Col : Int) (x_P_Op : Int) (x_P_V_Ty : Int) (x_P_V_N : Int) (x_P_V_S : ByteArray) (x_P_L : List XPred) (x_Col : Int) (x_Out : List Int) (hok_x_P_V_S : x_P_V_S.size ≤ 1048576) (hok_x_P_L : x_P_L.length ≤ 1048576) (hoks_x_P_L : XPred.sms x_P_L) (hok_x_Out : x_Out.length ≤ 1048576) : Gw TT 155 [.st [.ro false (di x_Kind), .ro false (di x_P_Kind), .ro false (di x_P_Col), .ro false (di x_P_Op), .ro false (di x_P_V_Ty), .ro false (di x_P_V_N), .ro false (.str x_P_V_S), .ro k0 (.sl 7 (x_P_L.map XPred.e)), .ro false (di x_Col), .ro k0 (.sl 1 (x_Out.map ei))], .st [.ro false (di x_Kind), .ro false (di x_P_Kind), .ro false (di x_P_Col), .ro false (di x_P_Op), .ro false (di x_P_V_Ty), .ro false (di x_P_V_N), .ro false (.str x_P_V_S), .ro k1 (.sl 7 (x_P_L.map XPred.e)), .ro false (di x_Col), .ro k1 (.sl 1 (x_Out.map ei))]] = some (vb true, []) := by
  refine Gw_of (F := pf155) rfl rfl ?_
  show Wp _ pb155 _ _
  unfold pb155
  repeat' (first
    | with_reducible (first | refine wp_seq ?_ | refine wp_blk ?_ | refine wp_skip ?_ | refine wp_exit ?_ | refine wp_ret ?_ | refine seqQ_norm ?_ | refine seqQ_ret ?_ | refine seqQ_exit ?_ | refine blkQ_norm ?_ | refine blkQ_ret ?_ | refine blkQ_exit ?_ | refine loopQ_norm ?_ | refine loopQ_exit ?_ | refine loopQ_ret ?_ | refine endQ_ret ?_ | refine endQ_norm ?_ | refine endE_ret ?_ | refine endE_norm ?_ | refine endI_ret ?_ | refine endI_norm ?_)
    | (with_reducible refine wp_regK fun K hK => ?_
       simp[hok_x_P_V_S, hok_x_P_L, hoks_x_P_L, hok_x_Out]
       repeat' (with_reducible first | refine hK _ ?_ | (refine psel ?_ ?_ <;> (intro hc; (try rw [Decidable.not_not] at hc); first | (exfalso; omega) | (try simp [hc, hok_x_P_V_S, hok_x_P_L, hoks_x_P_L, hok_x_Out]))))
       all_goals (clear hK; clear K))
    | (with_reducible refine wp_condE ?_
       refine ⟨_, rfl, ?_, ?_⟩ <;> (intro hc; (try simp at hc); (all_goals first | (exfalso; omega) | skip))))
  all_goals simp [pf155]

@[simp] theorem t158 (k0 k1 : Bool) (x_Rows : List XRow) (x_N : Int) (x_Has : Bool) (x_V_Ty : Int) (x_V_N : Int) (x_V_S : ByteArray) (hok_x_Rows : x_Rows.length ≤ 1048576) (hoks_x_Rows : XRow.sms x_Rows) : Gw TT 158 [.st [.ro k0 (.sl 2 (x_Rows.map XRow.e)), .ro false (di x_N), .ro false (.bool x_Has), .ro false (di x_V_Ty), .ro false (di x_V_N), .ro false (.str x_V_S)], .st [.ro k1 (.sl 2 (x_Rows.map XRow.e)), .ro false (di x_N), .ro false (.bool x_Has), .ro false (di x_V_Ty), .ro false (di x_V_N), .ro false (.str x_V_S)]] = some (vb true, []) := by
  refine Gw_of (F := pf158) rfl rfl ?_
  show Wp _ pb158 _ _
  unfold pb158
  repeat' (first
    | with_reducible (first | refine wp_seq ?_ | refine wp_blk ?_ | refine wp_skip ?_ | refine wp_exit ?_ | refine wp_ret ?_ | refine seqQ_norm ?_ | refine seqQ_ret ?_ | refine seqQ_exit ?_ | refine blkQ_norm ?_ | refine blkQ_ret ?_ | refine blkQ_exit ?_ | refine loopQ_norm ?_ | refine loopQ_exit ?_ | refine loopQ_ret ?_ | refine endQ_ret ?_ | refine endQ_norm ?_ | refine endE_ret ?_ | refine endE_norm ?_ | refine endI_ret ?_ | refine endI_norm ?_)
    | (with_reducible refine wp_regK fun K hK => ?_
       simp[hok_x_Rows, hoks_x_Rows]
       repeat' (with_reducible first | refine hK _ ?_ | (refine psel ?_ ?_ <;> (intro hc; (try rw [Decidable.not_not] at hc); first | (exfalso; omega) | (try simp [hc, hok_x_Rows, hoks_x_Rows]))))
       all_goals (clear hK; clear K))
    | (with_reducible refine wp_condE ?_
       refine ⟨_, rfl, ?_, ?_⟩ <;> (intro hc; (try simp at hc); (all_goals first | (exfalso; omega) | skip))))
  all_goals simp [pf158]

@[simp] theorem t163 (k0 k1 : Bool) (x_Op : Int) (x_Pc : Int) (x_H : Int) (x_R : List XVal) (x_Id : Int) (x_Q_Kind : Int) (x_Q_P_Kind : Int) (x_Q_P_Col : Int) (x_Q_P_Op : Int) (x_Q_P_V_Ty : Int) (x_Q_P_V_N : Int) (x_Q_P_V_S : ByteArray) (x_Q_P_L : List XPred) (x_Q_Col : Int) (x_Q_Out : List Int) (x_Ts : Int) (x_Ver : Int) (x_L : List XRef) (x_I : Int) (x_J : Int) (x_S : Int) (x_At : Int) (x_Own : Int) (x_Won : Bool) (x_Got : List XRow) (hok_x_R : x_R.length ≤ 1048576) (hoks_x_R : XVal.sms x_R) (hok_x_Q_P_V_S : x_Q_P_V_S.size ≤ 1048576) (hok_x_Q_P_L : x_Q_P_L.length ≤ 1048576) (hoks_x_Q_P_L : XPred.sms x_Q_P_L) (hok_x_Q_Out : x_Q_Out.length ≤ 1048576) (hok_x_L : x_L.length ≤ 1048576) (hok_x_Got : x_Got.length ≤ 1048576) (hoks_x_Got : XRow.sms x_Got) : Gw TT 163 [.st [.ro false (di x_Op), .ro false (di x_Pc), .ro false (di x_H), .ro k0 (.sl 3 (x_R.map XVal.e)), .ro false (di x_Id), .ro false (di x_Q_Kind), .ro false (di x_Q_P_Kind), .ro false (di x_Q_P_Col), .ro false (di x_Q_P_Op), .ro false (di x_Q_P_V_Ty), .ro false (di x_Q_P_V_N), .ro false (.str x_Q_P_V_S), .ro k0 (.sl 7 (x_Q_P_L.map XPred.e)), .ro false (di x_Q_Col), .ro k0 (.sl 1 (x_Q_Out.map ei)), .ro false (di x_Ts), .ro false (di x_Ver), .ro k0 (.sl 5 (x_L.map XRef.e)), .ro false (di x_I), .ro false (di x_J), .ro false (di x_S), .ro false (di x_At), .ro false (di x_Own), .ro false (.bool x_Won), .ro k0 (.sl 2 (x_Got.map XRow.e))], .st [.ro false (di x_Op), .ro false (di x_Pc), .ro false (di x_H), .ro k1 (.sl 3 (x_R.map XVal.e)), .ro false (di x_Id), .ro false (di x_Q_Kind), .ro false (di x_Q_P_Kind), .ro false (di x_Q_P_Col), .ro false (di x_Q_P_Op), .ro false (di x_Q_P_V_Ty), .ro false (di x_Q_P_V_N), .ro false (.str x_Q_P_V_S), .ro k1 (.sl 7 (x_Q_P_L.map XPred.e)), .ro false (di x_Q_Col), .ro k1 (.sl 1 (x_Q_Out.map ei)), .ro false (di x_Ts), .ro false (di x_Ver), .ro k1 (.sl 5 (x_L.map XRef.e)), .ro false (di x_I), .ro false (di x_J), .ro false (di x_S), .ro false (di x_At), .ro false (di x_Own), .ro false (.bool x_Won), .ro k1 (.sl 2 (x_Got.map XRow.e))]] = some (vb true, []) := by
  refine Gw_of (F := pf163) rfl rfl ?_
  show Wp _ pb163 _ _
  unfold pb163
  repeat' (first
    | with_reducible (first | refine wp_seq ?_ | refine wp_blk ?_ | refine wp_skip ?_ | refine wp_exit ?_ | refine wp_ret ?_ | refine seqQ_norm ?_ | refine seqQ_ret ?_ | refine seqQ_exit ?_ | refine blkQ_norm ?_ | refine blkQ_ret ?_ | refine blkQ_exit ?_ | refine loopQ_norm ?_ | refine loopQ_exit ?_ | refine loopQ_ret ?_ | refine endQ_ret ?_ | refine endQ_norm ?_ | refine endE_ret ?_ | refine endE_norm ?_ | refine endI_ret ?_ | refine endI_norm ?_)
    | (with_reducible refine wp_regK fun K hK => ?_
       simp[hok_x_R, hoks_x_R, hok_x_Q_P_V_S, hok_x_Q_P_L, hoks_x_Q_P_L, hok_x_Q_Out, hok_x_L, hok_x_Got, hoks_x_Got]
       repeat' (with_reducible first | refine hK _ ?_ | (refine psel ?_ ?_ <;> (intro hc; (try rw [Decidable.not_not] at hc); first | (exfalso; omega) | (try simp [hc, hok_x_R, hoks_x_R, hok_x_Q_P_V_S, hok_x_Q_P_L, hoks_x_Q_P_L, hok_x_Q_Out, hok_x_L, hok_x_Got, hoks_x_Got]))))
       all_goals (clear hK; clear K))
    | (with_reducible refine wp_condE ?_
       refine ⟨_, rfl, ?_, ?_⟩ <;> (intro hc; (try simp at hc); (all_goals first | (exfalso; omega) | skip))))
  all_goals simp [pf163]

@[simp] theorem t164 (k0 k1 : Bool) (l : List XTask) (h : l.length ≤ 1048576) (hs : XTask.sms l) : Gw TT 164 [.one (.ro k0 (.sl 25 (l.map XTask.e))), .one (.ro k1 (.sl 25 (l.map XTask.e)))] = some (vb true, []) := by
  refine Gw_of (F := pf164) rfl rfl ?_
  show Wp _ pb164 _ _
  unfold pb164
  repeat' (first
    | with_reducible (first | refine wp_seq ?_ | refine wp_blk ?_ | refine wp_skip ?_ | refine wp_exit ?_ | refine wp_ret ?_ | refine seqQ_norm ?_ | refine seqQ_ret ?_ | refine seqQ_exit ?_ | refine blkQ_norm ?_ | refine blkQ_ret ?_ | refine blkQ_exit ?_ | refine loopQ_norm ?_ | refine loopQ_exit ?_ | refine loopQ_ret ?_ | refine endQ_ret ?_ | refine endQ_norm ?_ | refine endE_ret ?_ | refine endE_norm ?_ | refine endI_ret ?_ | refine endI_norm ?_)
    | (with_reducible refine wp_regK fun K hK => ?_
       simp
       repeat' (with_reducible first | refine hK _ ?_ | (refine psel ?_ ?_ <;> (intro hc; (try rw [Decidable.not_not] at hc); first | (exfalso; omega) | (try simp [hc]))))
       all_goals (clear hK; clear K))
    | (with_reducible refine wp_condE ?_
       refine ⟨_, rfl, ?_, ?_⟩ <;> (intro hc; (try simp at hc); (all_goals first | (exfalso; omega) | skip))))
  · refine wp_loopI (σ := List XTask × List XTask) (fun s => [(0, AV.v k0 (D.sl 25 (List.map XTask.e l)), none), (1, AV.v k1 (D.sl 25 (List.map XTask.e l)), none), (5, AV.v false (di (s.1.length : Nat)), none)]) (fun s => l = s.1 ++ s.2) (fun s => s.2.length) ([], l) (by simp) rfl ?_
    rintro ⟨pre, rest⟩ h1
    simp only at h1
    subst h1
    simp only [List.length_append, List.length_cons] at h
    rcases rest with _ | ⟨⟨y_Op, y_Pc, y_H, y_R, y_Id, ⟨y_Q_Kind, ⟨y_Q_P_Kind, y_Q_P_Col, y_Q_P_Op, ⟨y_Q_P_V_Ty, y_Q_P_V_N, y_Q_P_V_S⟩, y_Q_P_L⟩, y_Q_Col, y_Q_Out⟩, y_Ts, y_Ver, y_L, y_I, y_J, y_S, y_At, y_Own, y_Won, y_Got⟩, rest⟩
    · unfold pl164_0
      repeat' (first
        | with_reducible (first | refine wp_seq ?_ | refine wp_blk ?_ | refine wp_skip ?_ | refine wp_exit ?_ | refine wp_ret ?_ | refine seqQ_norm ?_ | refine seqQ_ret ?_ | refine seqQ_exit ?_ | refine blkQ_norm ?_ | refine blkQ_ret ?_ | refine blkQ_exit ?_ | refine loopQ_norm ?_ | refine loopQ_exit ?_ | refine loopQ_ret ?_ | refine endQ_ret ?_ | refine endQ_norm ?_ | refine endE_ret ?_ | refine endE_norm ?_ | refine endI_ret ?_ | refine endI_norm ?_)
        | (with_reducible refine wp_regK fun K hK => ?_
           simp
           repeat' (with_reducible first | refine hK _ ?_ | (refine psel ?_ ?_ <;> (intro hc; (try rw [Decidable.not_not] at hc); first | (exfalso; omega) | (try simp [hc]))))
           all_goals (clear hK; clear K))
        | (with_reducible refine wp_condE ?_
           refine ⟨_, rfl, ?_, ?_⟩ <;> (intro hc; (try simp at hc); (all_goals first | (exfalso; omega) | skip))))
      all_goals simp [pf164]
    · unfold pl164_0
      simp only [List.length_cons] at h
      have hw : IntKind.wrap .i64 ((pre.length : Int) + 1) = (pre.length : Int) + 1 := wrap_i64 (by omega) (by omega)
      have hd := hs ⟨y_Op, y_Pc, y_H, y_R, y_Id, ⟨y_Q_Kind, ⟨y_Q_P_Kind, y_Q_P_Col, y_Q_P_Op, ⟨y_Q_P_V_Ty, y_Q_P_V_N, y_Q_P_V_S⟩, y_Q_P_L⟩, y_Q_Col, y_Q_Out⟩, y_Ts, y_Ver, y_L, y_I, y_J, y_S, y_At, y_Own, y_Won, y_Got⟩ (by simp)
      simp only [XTask.sm, XQuery.sm, XPred.sm_eq, XVal.sm, and_assoc] at hd
      obtain ⟨hsm_y_R, hsms_y_R, hsm_y_Q_P_V_S, hsm_y_Q_P_L, hsms_y_Q_P_L, hsm_y_Q_Out, hsm_y_L, hsm_y_Got, hsms_y_Got⟩ := hd
      repeat' (first
        | with_reducible (first | refine wp_seq ?_ | refine wp_blk ?_ | refine wp_skip ?_ | refine wp_exit ?_ | refine wp_ret ?_ | refine seqQ_norm ?_ | refine seqQ_ret ?_ | refine seqQ_exit ?_ | refine blkQ_norm ?_ | refine blkQ_ret ?_ | refine blkQ_exit ?_ | refine loopQ_norm ?_ | refine loopQ_exit ?_ | refine loopQ_ret ?_ | refine endQ_ret ?_ | refine endQ_norm ?_ | refine endE_ret ?_ | refine endE_norm ?_ | refine endI_ret ?_ | refine endI_norm ?_)
        | (with_reducible refine wp_regK fun K hK => ?_
           simp[hw, hsm_y_R, hsms_y_R, hsm_y_Q_P_V_S, hsm_y_Q_P_L, hsms_y_Q_P_L, hsm_y_Q_Out, hsm_y_L, hsm_y_Got, hsms_y_Got]
           repeat' (with_reducible first | refine hK _ ?_ | (refine psel ?_ ?_ <;> (intro hc; (try rw [Decidable.not_not] at hc); first | (exfalso; omega) | (try simp [hc, hw, hsm_y_R, hsms_y_R, hsm_y_Q_P_V_S, hsm_y_Q_P_L, hsms_y_Q_P_L, hsm_y_Q_Out, hsm_y_L, hsm_y_Got, hsms_y_Got]))))
           all_goals (clear hK; clear K))
        | (with_reducible refine wp_condE ?_
           refine ⟨_, rfl, ?_, ?_⟩ <;> (intro hc; (try simp at hc); (all_goals first | (exfalso; omega) | skip))))
      all_goals exact ⟨(pre ++ [⟨y_Op, y_Pc, y_H, y_R, y_Id, ⟨y_Q_Kind, ⟨y_Q_P_Kind, y_Q_P_Col, y_Q_P_Op, ⟨y_Q_P_V_Ty, y_Q_P_V_N, y_Q_P_V_S⟩, y_Q_P_L⟩, y_Q_Col, y_Q_Out⟩, y_Ts, y_Ver, y_L, y_I, y_J, y_S, y_At, y_Own, y_Won, y_Got⟩], rest), by simp, by simp, by simp⟩

@[simp] theorem t149 (k0 k1 : Bool) (x_Op : Int) (x_Task : Int) (x_R : List XVal) (x_Id : Int) (x_Q_Kind : Int) (x_Q_P_Kind : Int) (x_Q_P_Col : Int) (x_Q_P_Op : Int) (x_Q_P_V_Ty : Int) (x_Q_P_V_N : Int) (x_Q_P_V_S : ByteArray) (x_Q_P_L : List XPred) (x_Q_Col : Int) (x_Q_Out : List Int) (x_Res_Rows : List XRow) (x_Res_N : Int) (x_Res_Has : Bool) (x_Res_V_Ty : Int) (x_Res_V_N : Int) (x_Res_V_S : ByteArray) (x_Code : Int) (x_Stamp : Int) (x_Inv : Int) (x_Lin : Int) (x_Ret : Int) (hok_x_R : x_R.length ≤ 1048576) (hoks_x_R : XVal.sms x_R) (hok_x_Q_P_V_S : x_Q_P_V_S.size ≤ 1048576) (hok_x_Q_P_L : x_Q_P_L.length ≤ 1048576) (hoks_x_Q_P_L : XPred.sms x_Q_P_L) (hok_x_Q_Out : x_Q_Out.length ≤ 1048576) (hok_x_Res_Rows : x_Res_Rows.length ≤ 1048576) (hoks_x_Res_Rows : XRow.sms x_Res_Rows) (hok_x_Res_V_S : x_Res_V_S.size ≤ 1048576) : Gw TT 149 [.st [.ro false (di x_Op), .ro false (di x_Task), .ro k0 (.sl 3 (x_R.map XVal.e)), .ro false (di x_Id), .ro false (di x_Q_Kind), .ro false (di x_Q_P_Kind), .ro false (di x_Q_P_Col), .ro false (di x_Q_P_Op), .ro false (di x_Q_P_V_Ty), .ro false (di x_Q_P_V_N), .ro false (.str x_Q_P_V_S), .ro k0 (.sl 7 (x_Q_P_L.map XPred.e)), .ro false (di x_Q_Col), .ro k0 (.sl 1 (x_Q_Out.map ei)), .ro k0 (.sl 2 (x_Res_Rows.map XRow.e)), .ro false (di x_Res_N), .ro false (.bool x_Res_Has), .ro false (di x_Res_V_Ty), .ro false (di x_Res_V_N), .ro false (.str x_Res_V_S), .ro false (di x_Code), .ro false (di x_Stamp), .ro false (di x_Inv), .ro false (di x_Lin), .ro false (di x_Ret)], .st [.ro false (di x_Op), .ro false (di x_Task), .ro k1 (.sl 3 (x_R.map XVal.e)), .ro false (di x_Id), .ro false (di x_Q_Kind), .ro false (di x_Q_P_Kind), .ro false (di x_Q_P_Col), .ro false (di x_Q_P_Op), .ro false (di x_Q_P_V_Ty), .ro false (di x_Q_P_V_N), .ro false (.str x_Q_P_V_S), .ro k1 (.sl 7 (x_Q_P_L.map XPred.e)), .ro false (di x_Q_Col), .ro k1 (.sl 1 (x_Q_Out.map ei)), .ro k1 (.sl 2 (x_Res_Rows.map XRow.e)), .ro false (di x_Res_N), .ro false (.bool x_Res_Has), .ro false (di x_Res_V_Ty), .ro false (di x_Res_V_N), .ro false (.str x_Res_V_S), .ro false (di x_Code), .ro false (di x_Stamp), .ro false (di x_Inv), .ro false (di x_Lin), .ro false (di x_Ret)]] = some (vb true, []) := by
  refine Gw_of (F := pf149) rfl rfl ?_
  show Wp _ pb149 _ _
  unfold pb149
  repeat' (first
    | with_reducible (first | refine wp_seq ?_ | refine wp_blk ?_ | refine wp_skip ?_ | refine wp_exit ?_ | refine wp_ret ?_ | refine seqQ_norm ?_ | refine seqQ_ret ?_ | refine seqQ_exit ?_ | refine blkQ_norm ?_ | refine blkQ_ret ?_ | refine blkQ_exit ?_ | refine loopQ_norm ?_ | refine loopQ_exit ?_ | refine loopQ_ret ?_ | refine endQ_ret ?_ | refine endQ_norm ?_ | refine endE_ret ?_ | refine endE_norm ?_ | refine endI_ret ?_ | refine endI_norm ?_)
    | (with_reducible refine wp_regK fun K hK => ?_
       simp[hok_x_R, hoks_x_R, hok_x_Q_P_V_S, hok_x_Q_P_L, hoks_x_Q_P_L, hok_x_Q_Out, hok_x_Res_Rows, hoks_x_Res_Rows, hok_x_Res_V_S]
       repeat' (with_reducible first | refine hK _ ?_ | (refine psel ?_ ?_ <;> (intro hc; (try rw [Decidable.not_not] at hc); first | (exfalso; omega) | (try simp [hc, hok_x_R, hoks_x_R, hok_x_Q_P_V_S, hok_x_Q_P_L, hoks_x_Q_P_L, hok_x_Q_Out, hok_x_Res_Rows, hoks_x_Res_Rows, hok_x_Res_V_S]))))
       all_goals (clear hK; clear K))
    | (with_reducible refine wp_condE ?_
       refine ⟨_, rfl, ?_, ?_⟩ <;> (intro hc; (try simp at hc); (all_goals first | (exfalso; omega) | skip))))
  all_goals simp [pf149]

@[simp] theorem t150 (k0 k1 : Bool) (l : List XDeed) (h : l.length ≤ 1048576) (hs : XDeed.sms l) : Gw TT 150 [.one (.ro k0 (.sl 25 (l.map XDeed.e))), .one (.ro k1 (.sl 25 (l.map XDeed.e)))] = some (vb true, []) := by
  refine Gw_of (F := pf150) rfl rfl ?_
  show Wp _ pb150 _ _
  unfold pb150
  repeat' (first
    | with_reducible (first | refine wp_seq ?_ | refine wp_blk ?_ | refine wp_skip ?_ | refine wp_exit ?_ | refine wp_ret ?_ | refine seqQ_norm ?_ | refine seqQ_ret ?_ | refine seqQ_exit ?_ | refine blkQ_norm ?_ | refine blkQ_ret ?_ | refine blkQ_exit ?_ | refine loopQ_norm ?_ | refine loopQ_exit ?_ | refine loopQ_ret ?_ | refine endQ_ret ?_ | refine endQ_norm ?_ | refine endE_ret ?_ | refine endE_norm ?_ | refine endI_ret ?_ | refine endI_norm ?_)
    | (with_reducible refine wp_regK fun K hK => ?_
       simp
       repeat' (with_reducible first | refine hK _ ?_ | (refine psel ?_ ?_ <;> (intro hc; (try rw [Decidable.not_not] at hc); first | (exfalso; omega) | (try simp [hc]))))
       all_goals (clear hK; clear K))
    | (with_reducible refine wp_condE ?_
       refine ⟨_, rfl, ?_, ?_⟩ <;> (intro hc; (try simp at hc); (all_goals first | (exfalso; omega) | skip))))
  · refine wp_loopI (σ := List XDeed × List XDeed) (fun s => [(0, AV.v k0 (D.sl 25 (List.map XDeed.e l)), none), (1, AV.v k1 (D.sl 25 (List.map XDeed.e l)), none), (5, AV.v false (di (s.1.length : Nat)), none)]) (fun s => l = s.1 ++ s.2) (fun s => s.2.length) ([], l) (by simp) rfl ?_
    rintro ⟨pre, rest⟩ h1
    simp only at h1
    subst h1
    simp only [List.length_append, List.length_cons] at h
    rcases rest with _ | ⟨⟨y_Op, y_Task, y_R, y_Id, ⟨y_Q_Kind, ⟨y_Q_P_Kind, y_Q_P_Col, y_Q_P_Op, ⟨y_Q_P_V_Ty, y_Q_P_V_N, y_Q_P_V_S⟩, y_Q_P_L⟩, y_Q_Col, y_Q_Out⟩, ⟨y_Res_Rows, y_Res_N, y_Res_Has, ⟨y_Res_V_Ty, y_Res_V_N, y_Res_V_S⟩⟩, y_Code, y_Stamp, y_Inv, y_Lin, y_Ret⟩, rest⟩
    · unfold pl150_0
      repeat' (first
        | with_reducible (first | refine wp_seq ?_ | refine wp_blk ?_ | refine wp_skip ?_ | refine wp_exit ?_ | refine wp_ret ?_ | refine seqQ_norm ?_ | refine seqQ_ret ?_ | refine seqQ_exit ?_ | refine blkQ_norm ?_ | refine blkQ_ret ?_ | refine blkQ_exit ?_ | refine loopQ_norm ?_ | refine loopQ_exit ?_ | refine loopQ_ret ?_ | refine endQ_ret ?_ | refine endQ_norm ?_ | refine endE_ret ?_ | refine endE_norm ?_ | refine endI_ret ?_ | refine endI_norm ?_)
        | (with_reducible refine wp_regK fun K hK => ?_
           simp
           repeat' (with_reducible first | refine hK _ ?_ | (refine psel ?_ ?_ <;> (intro hc; (try rw [Decidable.not_not] at hc); first | (exfalso; omega) | (try simp [hc]))))
           all_goals (clear hK; clear K))
        | (with_reducible refine wp_condE ?_
           refine ⟨_, rfl, ?_, ?_⟩ <;> (intro hc; (try simp at hc); (all_goals first | (exfalso; omega) | skip))))
      all_goals simp [pf150]
    · unfold pl150_0
      simp only [List.length_cons] at h
      have hw : IntKind.wrap .i64 ((pre.length : Int) + 1) = (pre.length : Int) + 1 := wrap_i64 (by omega) (by omega)
      have hd := hs ⟨y_Op, y_Task, y_R, y_Id, ⟨y_Q_Kind, ⟨y_Q_P_Kind, y_Q_P_Col, y_Q_P_Op, ⟨y_Q_P_V_Ty, y_Q_P_V_N, y_Q_P_V_S⟩, y_Q_P_L⟩, y_Q_Col, y_Q_Out⟩, ⟨y_Res_Rows, y_Res_N, y_Res_Has, ⟨y_Res_V_Ty, y_Res_V_N, y_Res_V_S⟩⟩, y_Code, y_Stamp, y_Inv, y_Lin, y_Ret⟩ (by simp)
      simp only [XDeed.sm, XQuery.sm, XPred.sm_eq, XVal.sm, XResult.sm, and_assoc] at hd
      obtain ⟨hsm_y_R, hsms_y_R, hsm_y_Q_P_V_S, hsm_y_Q_P_L, hsms_y_Q_P_L, hsm_y_Q_Out, hsm_y_Res_Rows, hsms_y_Res_Rows, hsm_y_Res_V_S⟩ := hd
      repeat' (first
        | with_reducible (first | refine wp_seq ?_ | refine wp_blk ?_ | refine wp_skip ?_ | refine wp_exit ?_ | refine wp_ret ?_ | refine seqQ_norm ?_ | refine seqQ_ret ?_ | refine seqQ_exit ?_ | refine blkQ_norm ?_ | refine blkQ_ret ?_ | refine blkQ_exit ?_ | refine loopQ_norm ?_ | refine loopQ_exit ?_ | refine loopQ_ret ?_ | refine endQ_ret ?_ | refine endQ_norm ?_ | refine endE_ret ?_ | refine endE_norm ?_ | refine endI_ret ?_ | refine endI_norm ?_)
        | (with_reducible refine wp_regK fun K hK => ?_
           simp[hw, hsm_y_R, hsms_y_R, hsm_y_Q_P_V_S, hsm_y_Q_P_L, hsms_y_Q_P_L, hsm_y_Q_Out, hsm_y_Res_Rows, hsms_y_Res_Rows, hsm_y_Res_V_S]
           repeat' (with_reducible first | refine hK _ ?_ | (refine psel ?_ ?_ <;> (intro hc; (try rw [Decidable.not_not] at hc); first | (exfalso; omega) | (try simp [hc, hw, hsm_y_R, hsms_y_R, hsm_y_Q_P_V_S, hsm_y_Q_P_L, hsms_y_Q_P_L, hsm_y_Q_Out, hsm_y_Res_Rows, hsms_y_Res_Rows, hsm_y_Res_V_S]))))
           all_goals (clear hK; clear K))
        | (with_reducible refine wp_condE ?_
           refine ⟨_, rfl, ?_, ?_⟩ <;> (intro hc; (try simp at hc); (all_goals first | (exfalso; omega) | skip))))
      all_goals exact ⟨(pre ++ [⟨y_Op, y_Task, y_R, y_Id, ⟨y_Q_Kind, ⟨y_Q_P_Kind, y_Q_P_Col, y_Q_P_Op, ⟨y_Q_P_V_Ty, y_Q_P_V_N, y_Q_P_V_S⟩, y_Q_P_L⟩, y_Q_Col, y_Q_Out⟩, ⟨y_Res_Rows, y_Res_N, y_Res_Has, ⟨y_Res_V_Ty, y_Res_V_N, y_Res_V_S⟩⟩, y_Code, y_Stamp, y_Inv, y_Lin, y_Ret⟩], rest), by simp, by simp, by simp⟩

@[simp] theorem t167 (k0 k1 : Bool) (x_C_Cols : List Int) (x_C_Slots : Int) (x_C_Bufs : Int) (x_Time : Int) (x_T : Int) (x_E : Int) (x_Dd_Ver : Int) (x_Dd_L : List XRef) (x_B : List XBuf) (x_M : List Int) (x_X : List XDead) (x_P : List Int) (x_Tasks : List XTask) (x_Deeds : List XDeed) (hok_x_C_Cols : x_C_Cols.length ≤ 1048576) (hok_x_Dd_L : x_Dd_L.length ≤ 1048576) (hok_x_B : x_B.length ≤ 1048576) (hoks_x_B : XBuf.sms x_B) (hok_x_M : x_M.length ≤ 1048576) (hok_x_X : x_X.length ≤ 1048576) (hok_x_P : x_P.length ≤ 1048576) (hok_x_Tasks : x_Tasks.length ≤ 1048576) (hoks_x_Tasks : XTask.sms x_Tasks) (hok_x_Deeds : x_Deeds.length ≤ 1048576) (hoks_x_Deeds : XDeed.sms x_Deeds) : Gw TT 167 [.st [.ro k0 (.sl 1 (x_C_Cols.map ei)), .ro false (di x_C_Slots), .ro false (di x_C_Bufs), .ro false (di x_Time), .ro false (di x_T), .ro false (di x_E), .ro false (di x_Dd_Ver), .ro k0 (.sl 5 (x_Dd_L.map XRef.e)), .ro k0 (.sl 5 (x_B.map XBuf.e)), .ro k0 (.sl 1 (x_M.map ei)), .ro k0 (.sl 3 (x_X.map XDead.e)), .ro k0 (.sl 1 (x_P.map ei)), .ro k0 (.sl 25 (x_Tasks.map XTask.e)), .ro k0 (.sl 25 (x_Deeds.map XDeed.e))], .st [.ro k1 (.sl 1 (x_C_Cols.map ei)), .ro false (di x_C_Slots), .ro false (di x_C_Bufs), .ro false (di x_Time), .ro false (di x_T), .ro false (di x_E), .ro false (di x_Dd_Ver), .ro k1 (.sl 5 (x_Dd_L.map XRef.e)), .ro k1 (.sl 5 (x_B.map XBuf.e)), .ro k1 (.sl 1 (x_M.map ei)), .ro k1 (.sl 3 (x_X.map XDead.e)), .ro k1 (.sl 1 (x_P.map ei)), .ro k1 (.sl 25 (x_Tasks.map XTask.e)), .ro k1 (.sl 25 (x_Deeds.map XDeed.e))]] = some (vb true, []) := by
  refine Gw_of (F := pf167) rfl rfl ?_
  show Wp _ pb167 _ _
  unfold pb167
  repeat' (first
    | with_reducible (first | refine wp_seq ?_ | refine wp_blk ?_ | refine wp_skip ?_ | refine wp_exit ?_ | refine wp_ret ?_ | refine seqQ_norm ?_ | refine seqQ_ret ?_ | refine seqQ_exit ?_ | refine blkQ_norm ?_ | refine blkQ_ret ?_ | refine blkQ_exit ?_ | refine loopQ_norm ?_ | refine loopQ_exit ?_ | refine loopQ_ret ?_ | refine endQ_ret ?_ | refine endQ_norm ?_ | refine endE_ret ?_ | refine endE_norm ?_ | refine endI_ret ?_ | refine endI_norm ?_)
    | (with_reducible refine wp_regK fun K hK => ?_
       simp[hok_x_C_Cols, hok_x_Dd_L, hok_x_B, hoks_x_B, hok_x_M, hok_x_X, hok_x_P, hok_x_Tasks, hoks_x_Tasks, hok_x_Deeds, hoks_x_Deeds]
       repeat' (with_reducible first | refine hK _ ?_ | (refine psel ?_ ?_ <;> (intro hc; (try rw [Decidable.not_not] at hc); first | (exfalso; omega) | (try simp [hc, hok_x_C_Cols, hok_x_Dd_L, hok_x_B, hoks_x_B, hok_x_M, hok_x_X, hok_x_P, hok_x_Tasks, hoks_x_Tasks, hok_x_Deeds, hoks_x_Deeds]))))
       all_goals (clear hK; clear K))
    | (with_reducible refine wp_condE ?_
       refine ⟨_, rfl, ?_, ?_⟩ <;> (intro hc; (try simp at hc); (all_goals first | (exfalso; omega) | skip))))
  all_goals simp [pf167]

theorem t219 (k0 : Bool) (l : List Int) (left : Int) (h0 : 0 ≤ left) (h1 : left ≤ 1048576) (hl : l.length ≤ 9223372036854775807) :
    ∃ n, Gw TT 219 [.one (.ro k0 (.sl 1 (l.map ei))), vi left] = some (vi n, []) ∧ -1 ≤ n ∧ n ≤ left ∧ (0 ≤ n → l.length ≤ 1048576) := by
  refine Gw_ofI (F := pf219) rfl rfl ?_
  show Wp _ pb219 _ _
  unfold pb219
  have g : IntKind.wrap .i64 (left - (l.length : Int)) = left - (l.length : Int) := wrap_i64 (by omega) (by omega)
  repeat' (first
    | with_reducible (first | refine wp_seq ?_ | refine wp_blk ?_ | refine wp_skip ?_ | refine wp_exit ?_ | refine wp_ret ?_ | refine seqQ_norm ?_ | refine seqQ_ret ?_ | refine seqQ_exit ?_ | refine blkQ_norm ?_ | refine blkQ_ret ?_ | refine blkQ_exit ?_ | refine loopQ_norm ?_ | refine loopQ_exit ?_ | refine loopQ_ret ?_ | refine endQ_ret ?_ | refine endQ_norm ?_ | refine endE_ret ?_ | refine endE_norm ?_ | refine endI_ret ?_ | refine endI_norm ?_)
    | (with_reducible refine wp_regK fun K hK => ?_
       simp[g]
       repeat' (with_reducible first | refine hK _ ?_ | (refine psel ?_ ?_ <;> (intro hc; (try rw [Decidable.not_not] at hc); first | (exfalso; omega) | (try simp [hc, g]))))
       all_goals (clear hK; clear K))
    | (with_reducible refine wp_condE ?_
       refine ⟨_, rfl, ?_, ?_⟩ <;> (intro hc; (try simp at hc); (all_goals first | (exfalso; omega) | skip))))
  · exact ⟨-1, by simp [pf219], by omega, by omega, fun h => absurd h (by omega)⟩
  · exact ⟨left - (l.length : Int), by simp [pf219], by omega, by omega, fun _ => by omega⟩

theorem t214 (k0 : Bool) (x_Cols : List Int) (x_Slots : Int) (x_Bufs : Int) (left : Int) (h0 : 0 ≤ left) (h1 : left ≤ 1048576) (hok_x_Cols : x_Cols.length ≤ 9223372036854775807) :
    ∃ n, Gw TT 214 [.st [.ro k0 (.sl 1 (x_Cols.map ei)), .ro false (di x_Slots), .ro false (di x_Bufs)], vi left] = some (vi n, []) ∧ -1 ≤ n ∧ n ≤ left ∧ (0 ≤ n → x_Cols.length ≤ 1048576) := by
  refine Gw_ofI (F := pf214) rfl rfl ?_
  show Wp _ pb214 _ _
  unfold pb214
  obtain ⟨n1, g1, a1, b1, s1⟩ := t219 k0 x_Cols left (by omega) (by omega) hok_x_Cols
  repeat' (first
    | with_reducible (first | refine wp_seq ?_ | refine wp_blk ?_ | refine wp_skip ?_ | refine wp_exit ?_ | refine wp_ret ?_ | refine seqQ_norm ?_ | refine seqQ_ret ?_ | refine seqQ_exit ?_ | refine blkQ_norm ?_ | refine blkQ_ret ?_ | refine blkQ_exit ?_ | refine loopQ_norm ?_ | refine loopQ_exit ?_ | refine loopQ_ret ?_ | refine endQ_ret ?_ | refine endQ_norm ?_ | refine endE_ret ?_ | refine endE_norm ?_ | refine endI_ret ?_ | refine endI_norm ?_)
    | (with_reducible refine wp_regK fun K hK => ?_
       simp[g1]
       repeat' (with_reducible first | refine hK _ ?_ | (refine psel ?_ ?_ <;> (intro hc; (try rw [Decidable.not_not] at hc); first | (exfalso; omega) | (try simp [hc, g1]))))
       all_goals (clear hK; clear K))
    | (with_reducible refine wp_condE ?_
       refine ⟨_, rfl, ?_, ?_⟩ <;> (intro hc; (try simp at hc); (all_goals first | (exfalso; omega) | skip))))
  · exact ⟨-1, by simp [pf214], by omega, by omega, fun h => absurd h (by omega)⟩
  · exact ⟨n1, by simp [pf214], by omega, by omega, fun _ => (s1 (by omega))⟩

@[simp] theorem t87 (x a b : Int) : Gw TT 87 [vi x, vi a, vi b] = some (vb (decide (a ≤ x) && decide (x ≤ b)), []) := by
  refine Gw_of (F := pf87) rfl rfl ?_
  show Wp _ pb87 _ _
  unfold pb87
  repeat' (first
    | with_reducible (first | refine wp_seq ?_ | refine wp_blk ?_ | refine wp_skip ?_ | refine wp_exit ?_ | refine wp_ret ?_ | refine seqQ_norm ?_ | refine seqQ_ret ?_ | refine seqQ_exit ?_ | refine blkQ_norm ?_ | refine blkQ_ret ?_ | refine blkQ_exit ?_ | refine loopQ_norm ?_ | refine loopQ_exit ?_ | refine loopQ_ret ?_ | refine endQ_ret ?_ | refine endQ_norm ?_ | refine endE_ret ?_ | refine endE_norm ?_ | refine endI_ret ?_ | refine endI_norm ?_)
    | (with_reducible refine wp_regK fun K hK => ?_
       simp
       repeat' (with_reducible first | refine hK _ ?_ | (refine psel ?_ ?_ <;> (intro hc; (try rw [Decidable.not_not] at hc); first | (exfalso; omega) | (try simp [hc]))))
       all_goals (clear hK; clear K))
    | (with_reducible refine wp_condE ?_
       refine ⟨_, rfl, ?_, ?_⟩ <;> (intro hc; (try simp at hc); (all_goals first | (exfalso; omega) | skip))))
  all_goals first | (simp_all [pf87]; done) | (simp_all [pf87]; omega)

@[simp] theorem t377 (x a b : Int) : Gw TT 377 [vi x, vi a, vi b] = some (vb (decide (a ≤ x) && decide (x ≤ b)), []) := by
  refine Gw_of (F := pf377) rfl rfl ?_
  show Wp _ pb377 _ _
  unfold pb377
  repeat' (first
    | with_reducible (first | refine wp_seq ?_ | refine wp_blk ?_ | refine wp_skip ?_ | refine wp_exit ?_ | refine wp_ret ?_ | refine seqQ_norm ?_ | refine seqQ_ret ?_ | refine seqQ_exit ?_ | refine blkQ_norm ?_ | refine blkQ_ret ?_ | refine blkQ_exit ?_ | refine loopQ_norm ?_ | refine loopQ_exit ?_ | refine loopQ_ret ?_ | refine endQ_ret ?_ | refine endQ_norm ?_ | refine endE_ret ?_ | refine endE_norm ?_ | refine endI_ret ?_ | refine endI_norm ?_)
    | (with_reducible refine wp_regK fun K hK => ?_
       simp
       repeat' (with_reducible first | refine hK _ ?_ | (refine psel ?_ ?_ <;> (intro hc; (try rw [Decidable.not_not] at hc); first | (exfalso; omega) | (try simp [hc]))))
       all_goals (clear hK; clear K))
    | (with_reducible refine wp_condE ?_
       refine ⟨_, rfl, ?_, ?_⟩ <;> (intro hc; (try simp at hc); (all_goals first | (exfalso; omega) | skip))))
  all_goals first | (simp_all [pf377]; done) | (simp_all [pf377]; omega)

def colsB : List Int → Bool
  | [] => true
  | p :: l => if p ≠ 1 ∧ p ≠ 2 then false else colsB l
def colsOk (l : List Int) : Bool := colsB l && (decide (1 ≤ (l.length : Int)) && decide ((l.length : Int) ≤ 3))
def confOk (c : List Int) (s b : Int) : Bool := colsOk c && (decide (1 ≤ s) && decide (s ≤ 4)) && (decide (1 ≤ b) && decide (b ≤ 8))

@[simp] theorem t12 (k0 : Bool) (l : List Int) (h : l.length ≤ 1048576) : Gw TT 12 [.one (.ro k0 (.sl 1 (l.map ei)))] = some (vb (colsOk l), []) := by
  refine Gw_of (F := pf12) rfl rfl ?_
  show Wp _ pb12 _ _
  unfold pb12
  repeat' (first
    | with_reducible (first | refine wp_seq ?_ | refine wp_blk ?_ | refine wp_skip ?_ | refine wp_exit ?_ | refine wp_ret ?_ | refine seqQ_norm ?_ | refine seqQ_ret ?_ | refine seqQ_exit ?_ | refine blkQ_norm ?_ | refine blkQ_ret ?_ | refine blkQ_exit ?_ | refine loopQ_norm ?_ | refine loopQ_exit ?_ | refine loopQ_ret ?_ | refine endQ_ret ?_ | refine endQ_norm ?_ | refine endE_ret ?_ | refine endE_norm ?_ | refine endI_ret ?_ | refine endI_norm ?_)
    | (with_reducible refine wp_regK fun K hK => ?_
       simp
       repeat' (with_reducible first | refine hK _ ?_ | (refine psel ?_ ?_ <;> (intro hc; (try rw [Decidable.not_not] at hc); first | (exfalso; omega) | (try simp [hc]))))
       all_goals (clear hK; clear K))
    | (with_reducible refine wp_condE ?_
       refine ⟨_, rfl, ?_, ?_⟩ <;> (intro hc; (try simp at hc); (all_goals first | (exfalso; omega) | skip))))
  refine wp_loopI (σ := List (Int) × List (Int)) (fun s => [(0, AV.v k0 (D.sl 1 (l.map ei)), none), (5, AV.v k0 (D.sl 1 (l.map ei)), none), (6, AV.v false (di (l.length : Nat)), none), (7, AV.v false (di ((s.1.length : Nat) : Int)), none)]) (fun s => l = s.1 ++ s.2 ∧ colsB s.2 = colsB l) (fun s => s.2.length) ([], l) (by simp) ⟨rfl, rfl⟩ ?_
  rintro ⟨pre, rest⟩ ⟨h1, h2⟩
  simp only at h1 h2
  subst h1
  simp only [List.length_append, List.length_cons] at h
  rcases rest with _ | ⟨d, rest⟩
  · unfold pl12_0
    simp only [colsB] at h2
    repeat' (first
      | with_reducible (first | refine wp_seq ?_ | refine wp_blk ?_ | refine wp_skip ?_ | refine wp_exit ?_ | refine wp_ret ?_ | refine seqQ_norm ?_ | refine seqQ_ret ?_ | refine seqQ_exit ?_ | refine blkQ_norm ?_ | refine blkQ_ret ?_ | refine blkQ_exit ?_ | refine loopQ_norm ?_ | refine loopQ_exit ?_ | refine loopQ_ret ?_ | refine endQ_ret ?_ | refine endQ_norm ?_ | refine endE_ret ?_ | refine endE_norm ?_ | refine endI_ret ?_ | refine endI_norm ?_)
      | (with_reducible refine wp_regK fun K hK => ?_
         simp
         repeat' (with_reducible first | refine hK _ ?_ | (refine psel ?_ ?_ <;> (intro hc; (try rw [Decidable.not_not] at hc); first | (exfalso; omega) | (try simp [hc]))))
         all_goals (clear hK; clear K))
      | (with_reducible refine wp_condE ?_
         refine ⟨_, rfl, ?_, ?_⟩ <;> (intro hc; (try simp at hc); (all_goals first | (exfalso; omega) | skip))))
    all_goals first | (simp_all [pf12, colsOk]; done) | (simp_all [pf12, colsOk]; omega)
  · unfold pl12_0
    simp only [List.length_cons] at h
    simp only [colsB] at h2
    have hw : IntKind.wrap .i64 ((pre.length : Int) + 1) = (pre.length : Int) + 1 := wrap_i64 (by omega) (by omega)
    repeat' (first
      | with_reducible (first | refine wp_seq ?_ | refine wp_blk ?_ | refine wp_skip ?_ | refine wp_exit ?_ | refine wp_ret ?_ | refine seqQ_norm ?_ | refine seqQ_ret ?_ | refine seqQ_exit ?_ | refine blkQ_norm ?_ | refine blkQ_ret ?_ | refine blkQ_exit ?_ | refine loopQ_norm ?_ | refine loopQ_exit ?_ | refine loopQ_ret ?_ | refine endQ_ret ?_ | refine endQ_norm ?_ | refine endE_ret ?_ | refine endE_norm ?_ | refine endI_ret ?_ | refine endI_norm ?_)
      | (with_reducible refine wp_regK fun K hK => ?_
         simp[hw]
         repeat' (with_reducible first | refine hK _ ?_ | (refine psel ?_ ?_ <;> (intro hc; (try rw [Decidable.not_not] at hc); first | (exfalso; omega) | (try simp [hc, hw]))))
         all_goals (clear hK; clear K))
      | (with_reducible refine wp_condE ?_
         refine ⟨_, rfl, ?_, ?_⟩ <;> (intro hc; (try simp at hc); (all_goals first | (exfalso; omega) | skip))))
    all_goals first | (refine ⟨(pre ++ [d], rest), ?_, ⟨?_, ?_⟩, ?_⟩; (focus (first | (simp; done) | (simp_all; done))); (focus (simp; done)); (focus (refine Eq.trans ?_ h2; clear h2; first | (simp [*]; done) | (simp_all; done) | (split <;> simp_all <;> omega) | (split <;> first | (exfalso; omega) | (simp_all; done)))); (focus (simp; done))) | (simp_all [pf12, colsOk]; done) | (simp_all [pf12, colsOk]; omega) | (split at h2 <;> first | (exfalso; omega) | (simp_all [pf12, colsOk]; done))

@[simp] theorem t268 (k0 : Bool) (l : List Int) (h : l.length ≤ 1048576) : Gw TT 268 [.one (.ro k0 (.sl 1 (l.map ei)))] = some (vb (colsOk l), []) := by
  refine Gw_of (F := pf268) rfl rfl ?_
  show Wp _ pb268 _ _
  unfold pb268
  repeat' (first
    | with_reducible (first | refine wp_seq ?_ | refine wp_blk ?_ | refine wp_skip ?_ | refine wp_exit ?_ | refine wp_ret ?_ | refine seqQ_norm ?_ | refine seqQ_ret ?_ | refine seqQ_exit ?_ | refine blkQ_norm ?_ | refine blkQ_ret ?_ | refine blkQ_exit ?_ | refine loopQ_norm ?_ | refine loopQ_exit ?_ | refine loopQ_ret ?_ | refine endQ_ret ?_ | refine endQ_norm ?_ | refine endE_ret ?_ | refine endE_norm ?_ | refine endI_ret ?_ | refine endI_norm ?_)
    | (with_reducible refine wp_regK fun K hK => ?_
       simp
       repeat' (with_reducible first | refine hK _ ?_ | (refine psel ?_ ?_ <;> (intro hc; (try rw [Decidable.not_not] at hc); first | (exfalso; omega) | (try simp [hc]))))
       all_goals (clear hK; clear K))
    | (with_reducible refine wp_condE ?_
       refine ⟨_, rfl, ?_, ?_⟩ <;> (intro hc; (try simp at hc); (all_goals first | (exfalso; omega) | skip))))
  refine wp_loopI (σ := List (Int) × List (Int)) (fun s => [(0, AV.v k0 (D.sl 1 (l.map ei)), none), (3, AV.v false (di ((s.1.length : Nat) : Int)), none)]) (fun s => l = s.1 ++ s.2 ∧ colsB s.2 = colsB l) (fun s => s.2.length) ([], l) (by simp) ⟨rfl, rfl⟩ ?_
  rintro ⟨pre, rest⟩ ⟨h1, h2⟩
  simp only at h1 h2
  subst h1
  simp only [List.length_append, List.length_cons] at h
  rcases rest with _ | ⟨d, rest⟩
  · unfold pl268_0
    simp only [colsB] at h2
    repeat' (first
      | with_reducible (first | refine wp_seq ?_ | refine wp_blk ?_ | refine wp_skip ?_ | refine wp_exit ?_ | refine wp_ret ?_ | refine seqQ_norm ?_ | refine seqQ_ret ?_ | refine seqQ_exit ?_ | refine blkQ_norm ?_ | refine blkQ_ret ?_ | refine blkQ_exit ?_ | refine loopQ_norm ?_ | refine loopQ_exit ?_ | refine loopQ_ret ?_ | refine endQ_ret ?_ | refine endQ_norm ?_ | refine endE_ret ?_ | refine endE_norm ?_ | refine endI_ret ?_ | refine endI_norm ?_)
      | (with_reducible refine wp_regK fun K hK => ?_
         simp
         repeat' (with_reducible first | refine hK _ ?_ | (refine psel ?_ ?_ <;> (intro hc; (try rw [Decidable.not_not] at hc); first | (exfalso; omega) | (try simp [hc]))))
         all_goals (clear hK; clear K))
      | (with_reducible refine wp_condE ?_
         refine ⟨_, rfl, ?_, ?_⟩ <;> (intro hc; (try simp at hc); (all_goals first | (exfalso; omega) | skip))))
    all_goals first | (simp_all [pf268, colsOk]; done) | (simp_all [pf268, colsOk]; omega)
  · unfold pl268_0
    simp only [List.length_cons] at h
    simp only [colsB] at h2
    have hw : IntKind.wrap .i64 ((pre.length : Int) + 1) = (pre.length : Int) + 1 := wrap_i64 (by omega) (by omega)
    repeat' (first
      | with_reducible (first | refine wp_seq ?_ | refine wp_blk ?_ | refine wp_skip ?_ | refine wp_exit ?_ | refine wp_ret ?_ | refine seqQ_norm ?_ | refine seqQ_ret ?_ | refine seqQ_exit ?_ | refine blkQ_norm ?_ | refine blkQ_ret ?_ | refine blkQ_exit ?_ | refine loopQ_norm ?_ | refine loopQ_exit ?_ | refine loopQ_ret ?_ | refine endQ_ret ?_ | refine endQ_norm ?_ | refine endE_ret ?_ | refine endE_norm ?_ | refine endI_ret ?_ | refine endI_norm ?_)
      | (with_reducible refine wp_regK fun K hK => ?_
         simp[hw]
         repeat' (with_reducible first | refine hK _ ?_ | (refine psel ?_ ?_ <;> (intro hc; (try rw [Decidable.not_not] at hc); first | (exfalso; omega) | (try simp [hc, hw]))))
         all_goals (clear hK; clear K))
      | (with_reducible refine wp_condE ?_
         refine ⟨_, rfl, ?_, ?_⟩ <;> (intro hc; (try simp at hc); (all_goals first | (exfalso; omega) | skip))))
    all_goals first | (refine ⟨(pre ++ [d], rest), ?_, ⟨?_, ?_⟩, ?_⟩; (focus (first | (simp; done) | (simp_all; done))); (focus (simp; done)); (focus (refine Eq.trans ?_ h2; clear h2; first | (simp [*]; done) | (simp_all; done) | (split <;> simp_all <;> omega) | (split <;> first | (exfalso; omega) | (simp_all; done)))); (focus (simp; done))) | (simp_all [pf268, colsOk]; done) | (simp_all [pf268, colsOk]; omega) | (split at h2 <;> first | (exfalso; omega) | (simp_all [pf268, colsOk]; done))

attribute [irreducible] colsOk

@[simp] theorem t13 (k0 : Bool) (c : List Int) (s b : Int) (h : c.length ≤ 1048576) : Gw TT 13 [.st [.ro k0 (.sl 1 (c.map ei)), .ro false (di s), .ro false (di b)]] = some (vb (confOk c s b), []) := by
  refine Gw_of (F := pf13) rfl rfl ?_
  show Wp _ pb13 _ _
  unfold pb13
  repeat' (first
    | with_reducible (first | refine wp_seq ?_ | refine wp_blk ?_ | refine wp_skip ?_ | refine wp_exit ?_ | refine wp_ret ?_ | refine seqQ_norm ?_ | refine seqQ_ret ?_ | refine seqQ_exit ?_ | refine blkQ_norm ?_ | refine blkQ_ret ?_ | refine blkQ_exit ?_ | refine loopQ_norm ?_ | refine loopQ_exit ?_ | refine loopQ_ret ?_ | refine endQ_ret ?_ | refine endQ_norm ?_ | refine endE_ret ?_ | refine endE_norm ?_ | refine endI_ret ?_ | refine endI_norm ?_)
    | (with_reducible refine wp_regK fun K hK => ?_
       simp[h]
       repeat' (with_reducible first | refine hK _ ?_ | (refine psel ?_ ?_ <;> (intro hc; (try rw [Decidable.not_not] at hc); first | (exfalso; omega) | (try simp [hc, h]))))
       all_goals (clear hK; clear K))
    | (with_reducible refine wp_condE ?_
       refine ⟨_, rfl, ?_, ?_⟩ <;> (intro hc; (try simp at hc); (all_goals first | (exfalso; omega) | skip))))
  all_goals first | (simp_all [pf13, confOk]; done) | (simp_all [pf13, confOk]; omega)

@[simp] theorem t269 (k0 : Bool) (c : List Int) (s b : Int) (h : c.length ≤ 1048576) : Gw TT 269 [.st [.ro k0 (.sl 1 (c.map ei)), .ro false (di s), .ro false (di b)]] = some (vb (confOk c s b), []) := by
  refine Gw_of (F := pf269) rfl rfl ?_
  show Wp _ pb269 _ _
  unfold pb269
  repeat' (first
    | with_reducible (first | refine wp_seq ?_ | refine wp_blk ?_ | refine wp_skip ?_ | refine wp_exit ?_ | refine wp_ret ?_ | refine seqQ_norm ?_ | refine seqQ_ret ?_ | refine seqQ_exit ?_ | refine blkQ_norm ?_ | refine blkQ_ret ?_ | refine blkQ_exit ?_ | refine loopQ_norm ?_ | refine loopQ_exit ?_ | refine loopQ_ret ?_ | refine endQ_ret ?_ | refine endQ_norm ?_ | refine endE_ret ?_ | refine endE_norm ?_ | refine endI_ret ?_ | refine endI_norm ?_)
    | (with_reducible refine wp_regK fun K hK => ?_
       simp[h]
       repeat' (with_reducible first | refine hK _ ?_ | (refine psel ?_ ?_ <;> (intro hc; (try rw [Decidable.not_not] at hc); first | (exfalso; omega) | (try simp [hc, h]))))
       all_goals (clear hK; clear K))
    | (with_reducible refine wp_condE ?_
       refine ⟨_, rfl, ?_, ?_⟩ <;> (intro hc; (try simp at hc); (all_goals first | (exfalso; omega) | skip))))
  all_goals first | (simp_all [pf269, confOk]; done) | (simp_all [pf269, confOk]; omega)

@[simp] theorem take_mid {α : Type} {n : Nat} (l r : List α) (h : n = l.length) : (l ++ r).take n = l := by subst h; simp

@[simp] theorem bytesStr_map (l : List Int) : bytesStr (l.map eb) = some (l.map fun n => UInt8.ofNat n.toNat) := by
  induction l with
  | nil => rfl
  | cons n l ih =>
    have : bytesStr (List.map eb (n :: l)) = match bytesStr (l.map eb) with
      | some bs => some (UInt8.ofNat n.toNat :: bs)
      | none => none := rfl
    rw [this, ih]; rfl

@[simp] theorem flatD_nil : flatD [] = true := rfl

@[simp] theorem flatD_map {α : Type} (f : α → List D) (l : List α) (h : ∀ x, (f x).all D.scal = true) : flatD (l.map f) = true := by
  simp only [flatD, List.all_map, List.all_eq_true, Function.comp]
  exact fun x _ => List.all_eq_true.1 (h x)

@[simp] theorem flatD_one (e : List D) (l : List (List D)) : flatD (e :: l) = (e.all D.scal && flatD l) := rfl

@[simp] theorem flatD_app (l m : List (List D)) : flatD (l ++ m) = (flatD l && flatD m) := by simp [flatD]

@[simp] theorem live_int (k : IntKind) (n : Int) : (D.int k n).live = true := rfl

@[simp] theorem live_bool (b : Bool) : (D.bool b).live = true := rfl

@[simp] theorem live_str (s : ByteArray) : (D.str s).live = true := rfl

@[simp] theorem live_sl (sz : Nat) (es : List (List D)) : (D.sl sz es).live = true := rfl

def digF (k : Nat) (out : ByteArray) : ByteArray :=
  if h : k = 0 then out else digF (k / 10) (⟨#[UInt8.ofNat (IntKind.wrap .u8 (48 + ((k : Int).tmod 10))).toNat]⟩ ++ out)
termination_by k
decreasing_by omega

def mtext (k : Int) : ByteArray := if k ≤ 0 then ⟨#[109, 48]⟩ else ⟨#[109]⟩ ++ digF k.toNat ⟨#[]⟩

@[simp] theorem ba_one (x : UInt8) : (ByteArray.mk #[x]).size = 1 := rfl

theorem digF_zero (out : ByteArray) : digF 0 out = out := by unfold digF; simp

theorem digF_succ (k : Nat) (out : ByteArray) (h : k ≠ 0) : digF k out = digF (k / 10) (⟨#[UInt8.ofNat (IntKind.wrap .u8 (48 + ((k : Int).tmod 10))).toNat]⟩ ++ out) := by
  rw [digF]; simp [h]

@[simp] theorem t196 (k : Int) (h : k ≤ 4611686018427387904) : Gw TT 196 [vi k] = some (.one (.ro false (.str (mtext k))), []) := by
  refine Gw_of (F := pf196) rfl rfl ?_
  show Wp _ pb196 _ _
  unfold pb196
  repeat' (first
    | with_reducible (first | refine wp_seq ?_ | refine wp_blk ?_ | refine wp_skip ?_ | refine wp_exit ?_ | refine wp_ret ?_ | refine seqQ_norm ?_ | refine seqQ_ret ?_ | refine seqQ_exit ?_ | refine blkQ_norm ?_ | refine blkQ_ret ?_ | refine blkQ_exit ?_ | refine loopQ_norm ?_ | refine loopQ_exit ?_ | refine loopQ_ret ?_ | refine endQ_ret ?_ | refine endQ_norm ?_ | refine endE_ret ?_ | refine endE_norm ?_ | refine endI_ret ?_ | refine endI_norm ?_)
    | (with_reducible refine wp_regK fun K hK => ?_
       simp
       repeat' (with_reducible first | refine hK _ ?_ | (refine psel ?_ ?_ <;> (intro hc; (try rw [Decidable.not_not] at hc); first | (exfalso; omega) | (try simp [hc]))))
       all_goals (clear hK; clear K))
    | (with_reducible refine wp_condE ?_
       refine ⟨_, rfl, ?_, ?_⟩ <;> (intro hc; (try simp at hc); (all_goals first | (exfalso; omega) | skip))))
  · simp [pf196, mtext, *]
  · refine wp_loopI (σ := Nat × ByteArray) (fun s => [(0, AV.v false (di ((s.1 : Nat) : Int)), none), (3, AV.v false (.str s.2), none)]) (fun s => digF s.1 s.2 = digF k.toNat ⟨#[]⟩ ∧ s.1 + s.2.size ≤ k.toNat) (fun s => s.1) (k.toNat, ⟨#[]⟩) (by simp; omega) ⟨rfl, Nat.le_refl _⟩ ?_
    rintro ⟨n, out⟩ ⟨h1, h2⟩
    simp only at h1 h2
    unfold pl196_0
    have ht : (n : Int).tmod 10 = (n : Int) % 10 := Int.tmod_eq_emod_of_nonneg (by omega)
    have hq : IntKind.wrap .i64 (48 + (n : Int).tmod 10) = 48 + (n : Int).tmod 10 := by rw [ht]; exact wrap_i64 (by omega) (by omega)
    have hd : IntKind.wrap .i64 ((n : Int).tdiv 10) = ((n / 10 : Nat) : Int) := by rw [Int.tdiv_eq_ediv_of_nonneg (by omega)]; rw [wrap_i64 (by omega) (by omega)]; omega
    have hs1 : (9223372036854775807 < 1 + (out.size : Int)) = False := by simp only [eq_iff_iff, iff_false]; omega
    have hd2 : IntKind.wrap .i64 ((n : Int) / 10) = (n : Int) / 10 := wrap_i64 (by omega) (by omega)
    repeat' (first
      | with_reducible (first | refine wp_seq ?_ | refine wp_blk ?_ | refine wp_skip ?_ | refine wp_exit ?_ | refine wp_ret ?_ | refine seqQ_norm ?_ | refine seqQ_ret ?_ | refine seqQ_exit ?_ | refine blkQ_norm ?_ | refine blkQ_ret ?_ | refine blkQ_exit ?_ | refine loopQ_norm ?_ | refine loopQ_exit ?_ | refine loopQ_ret ?_ | refine endQ_ret ?_ | refine endQ_norm ?_ | refine endE_ret ?_ | refine endE_norm ?_ | refine endI_ret ?_ | refine endI_norm ?_)
      | (with_reducible refine wp_regK fun K hK => ?_
         simp[hq, hd, hs1]
         repeat' (with_reducible first | refine hK _ ?_ | (refine psel ?_ ?_ <;> (intro hc; (try rw [Decidable.not_not] at hc); first | (exfalso; omega) | (try simp [hc, hq, hd, hs1]))))
         all_goals (clear hK; clear K))
      | (with_reducible refine wp_condE ?_
         refine ⟨_, rfl, ?_, ?_⟩ <;> (intro hc; (try simp at hc); (all_goals first | (exfalso; omega) | skip))))
    all_goals first | (exact ⟨(n / 10, ⟨#[UInt8.ofNat (IntKind.wrap .u8 (48 + (n : Int).tmod 10)).toNat]⟩ ++ out), by simp [hd2], ⟨by rw [← h1, digF_succ n out (by omega)], by simp only [ByteArray.size_append, ba_one]; omega⟩, by simp only; omega⟩) | skip
    all_goals first | (exfalso; omega) | (subst hc; rw [digF_zero] at h1; have hk : ¬ k ≤ 0 := by omega
                                          subst h1; simp [pf196, mtext, hk]; done)

def ctByte : Int → Int
  | d => 1

def ctBytes : List Int → Int
  | [] => 0
  | x :: l => ctByte x + ctBytes l

def mkByte : Int → Int → Int
  | k, d => IntKind.wrap .u8 k

def mkBytes : Int → List Int → List Int
  | _, [] => []
  | k, x :: l => mkByte k x :: mkBytes (k + ctByte x) l

theorem ctByte_pos : ∀ x : Int, 1 ≤ ctByte x
  | d => by simp only [ctByte]; omega

theorem ctBytes_len : ∀ l : List Int, (l.length : Int) ≤ ctBytes l
  | [] => by simp [ctBytes]
  | x :: l => by have h1 := ctByte_pos x; have h2 := ctBytes_len l; simp only [ctBytes, List.length_cons]; omega

theorem ctBytes_nn (l : List Int) : 0 ≤ ctBytes l := by have := ctBytes_len l; omega

@[simp] theorem mkBytes_len : ∀ (k : Int) (l : List Int), (mkBytes k l).length = l.length
  | _, [] => by simp [mkBytes]
  | k, x :: l => by simp [mkBytes, mkBytes_len]

theorem ctBytes_le : ∀ l : List Int, ctBytes l = 1 * (l.length : Int)
  | [] => by simp [ctBytes]
  | x :: l => by have h2 := ctBytes_le l; simp only [ctBytes, List.length_cons, ctByte]; omega

theorem chainByte (k1 : Int) (h0 : 0 ≤ k1)  (hB : k1 + (1) ≤ 4611686018427387904) :
    ∃ w1 : Int, w1 = k1 + 1 ∧ IntKind.wrap .i64 (k1 + 1) = w1 ∧ k1 + (1) = w1 ∧ 0 ≤ w1 :=
  ⟨k1 + 1, rfl, wrap_i64 (by omega) (by omega), by omega, by omega⟩

def ctInt : Int → Int
  | d => 1

def ctInts : List Int → Int
  | [] => 0
  | x :: l => ctInt x + ctInts l

def mkInt : Int → Int → Int
  | k, d => k

def mkInts : Int → List Int → List Int
  | _, [] => []
  | k, x :: l => mkInt k x :: mkInts (k + ctInt x) l

theorem ctInt_pos : ∀ x : Int, 1 ≤ ctInt x
  | d => by simp only [ctInt]; omega

theorem ctInts_len : ∀ l : List Int, (l.length : Int) ≤ ctInts l
  | [] => by simp [ctInts]
  | x :: l => by have h1 := ctInt_pos x; have h2 := ctInts_len l; simp only [ctInts, List.length_cons]; omega

theorem ctInts_nn (l : List Int) : 0 ≤ ctInts l := by have := ctInts_len l; omega

@[simp] theorem mkInts_len : ∀ (k : Int) (l : List Int), (mkInts k l).length = l.length
  | _, [] => by simp [mkInts]
  | k, x :: l => by simp [mkInts, mkInts_len]

theorem ctInts_le : ∀ l : List Int, ctInts l = 1 * (l.length : Int)
  | [] => by simp [ctInts]
  | x :: l => by have h2 := ctInts_le l; simp only [ctInts, List.length_cons, ctInt]; omega

theorem chainInt (k1 : Int) (h0 : 0 ≤ k1)  (hB : k1 + (1) ≤ 4611686018427387904) :
    ∃ w1 : Int, w1 = k1 + 1 ∧ IntKind.wrap .i64 (k1 + 1) = w1 ∧ k1 + (1) = w1 ∧ 0 ≤ w1 :=
  ⟨k1 + 1, rfl, wrap_i64 (by omega) (by omega), by omega, by omega⟩

def ctDead : XDead → Int
  | ⟨y_Buf, y_Gen, y_At⟩ => 1 + 1 + 1

def ctDeads : List XDead → Int
  | [] => 0
  | x :: l => ctDead x + ctDeads l

def mkDead : Int → XDead → XDead
  | k, ⟨y_Buf, y_Gen, y_At⟩ => ⟨k, k + 1, k + 1 + 1⟩

def mkDeads : Int → List XDead → List XDead
  | _, [] => []
  | k, x :: l => mkDead k x :: mkDeads (k + ctDead x) l

theorem ctDead_pos : ∀ x : XDead, 1 ≤ ctDead x
  | ⟨y_Buf, y_Gen, y_At⟩ => by simp only [ctDead]; omega

theorem ctDeads_len : ∀ l : List XDead, (l.length : Int) ≤ ctDeads l
  | [] => by simp [ctDeads]
  | x :: l => by have h1 := ctDead_pos x; have h2 := ctDeads_len l; simp only [ctDeads, List.length_cons]; omega

theorem ctDeads_nn (l : List XDead) : 0 ≤ ctDeads l := by have := ctDeads_len l; omega

@[simp] theorem mkDeads_len : ∀ (k : Int) (l : List XDead), (mkDeads k l).length = l.length
  | _, [] => by simp [mkDeads]
  | k, x :: l => by simp [mkDeads, mkDeads_len]

theorem chainDead (k1 : Int) (h0 : 0 ≤ k1)  (hB : k1 + (1 + 1 + 1) ≤ 4611686018427387904) :
    ∃ w1 w2 w3 : Int, w1 = k1 + 1 ∧ IntKind.wrap .i64 (k1 + 1) = w1 ∧ w2 = w1 + 1 ∧ IntKind.wrap .i64 (w1 + 1) = w2 ∧ w3 = w2 + 1 ∧ IntKind.wrap .i64 (w2 + 1) = w3 ∧ k1 + (1 + 1 + 1) = w3 ∧ 0 ≤ w3 :=
  ⟨k1 + 1, k1 + 1 + 1, k1 + 1 + 1 + 1, rfl, wrap_i64 (by omega) (by omega), rfl, wrap_i64 (by omega) (by omega), rfl, wrap_i64 (by omega) (by omega), by omega, by omega⟩

def ctRef : XRef → Int
  | ⟨y_Buf, y_Gen, y_Kind, y_First, y_Many⟩ => 1 + 1 + 1 + 1 + 1

def ctRefs : List XRef → Int
  | [] => 0
  | x :: l => ctRef x + ctRefs l

def mkRef : Int → XRef → XRef
  | k, ⟨y_Buf, y_Gen, y_Kind, y_First, y_Many⟩ => ⟨k, k + 1, k + 1 + 1, k + 1 + 1 + 1, k + 1 + 1 + 1 + 1⟩

def mkRefs : Int → List XRef → List XRef
  | _, [] => []
  | k, x :: l => mkRef k x :: mkRefs (k + ctRef x) l

theorem ctRef_pos : ∀ x : XRef, 1 ≤ ctRef x
  | ⟨y_Buf, y_Gen, y_Kind, y_First, y_Many⟩ => by simp only [ctRef]; omega

theorem ctRefs_len : ∀ l : List XRef, (l.length : Int) ≤ ctRefs l
  | [] => by simp [ctRefs]
  | x :: l => by have h1 := ctRef_pos x; have h2 := ctRefs_len l; simp only [ctRefs, List.length_cons]; omega

theorem ctRefs_nn (l : List XRef) : 0 ≤ ctRefs l := by have := ctRefs_len l; omega

@[simp] theorem mkRefs_len : ∀ (k : Int) (l : List XRef), (mkRefs k l).length = l.length
  | _, [] => by simp [mkRefs]
  | k, x :: l => by simp [mkRefs, mkRefs_len]

theorem chainRef (k1 : Int) (h0 : 0 ≤ k1)  (hB : k1 + (1 + 1 + 1 + 1 + 1) ≤ 4611686018427387904) :
    ∃ w1 w2 w3 w4 w5 : Int, w1 = k1 + 1 ∧ IntKind.wrap .i64 (k1 + 1) = w1 ∧ w2 = w1 + 1 ∧ IntKind.wrap .i64 (w1 + 1) = w2 ∧ w3 = w2 + 1 ∧ IntKind.wrap .i64 (w2 + 1) = w3 ∧ w4 = w3 + 1 ∧ IntKind.wrap .i64 (w3 + 1) = w4 ∧ w5 = w4 + 1 ∧ IntKind.wrap .i64 (w4 + 1) = w5 ∧ k1 + (1 + 1 + 1 + 1 + 1) = w5 ∧ 0 ≤ w5 :=
  ⟨k1 + 1, k1 + 1 + 1, k1 + 1 + 1 + 1, k1 + 1 + 1 + 1 + 1, k1 + 1 + 1 + 1 + 1 + 1, rfl, wrap_i64 (by omega) (by omega), rfl, wrap_i64 (by omega) (by omega), rfl, wrap_i64 (by omega) (by omega), rfl, wrap_i64 (by omega) (by omega), rfl, wrap_i64 (by omega) (by omega), by omega, by omega⟩

def ctVal : XVal → Int
  | ⟨y_Ty, y_N, y_S⟩ => 1 + 1 + 1

def ctVals : List XVal → Int
  | [] => 0
  | x :: l => ctVal x + ctVals l

def mkVal : Int → XVal → XVal
  | k, ⟨y_Ty, y_N, y_S⟩ => ⟨k, k + 1, mtext (k + 1 + 1)⟩

def mkVals : Int → List XVal → List XVal
  | _, [] => []
  | k, x :: l => mkVal k x :: mkVals (k + ctVal x) l

theorem ctVal_pos : ∀ x : XVal, 1 ≤ ctVal x
  | ⟨y_Ty, y_N, y_S⟩ => by simp only [ctVal]; omega

theorem ctVals_len : ∀ l : List XVal, (l.length : Int) ≤ ctVals l
  | [] => by simp [ctVals]
  | x :: l => by have h1 := ctVal_pos x; have h2 := ctVals_len l; simp only [ctVals, List.length_cons]; omega

theorem ctVals_nn (l : List XVal) : 0 ≤ ctVals l := by have := ctVals_len l; omega

@[simp] theorem mkVals_len : ∀ (k : Int) (l : List XVal), (mkVals k l).length = l.length
  | _, [] => by simp [mkVals]
  | k, x :: l => by simp [mkVals, mkVals_len]

theorem ctVals_le : ∀ l : List XVal, ctVals l = 3 * (l.length : Int)
  | [] => by simp [ctVals]
  | x :: l => by have h2 := ctVals_le l; simp only [ctVals, List.length_cons, ctVal]; omega

theorem chainVal (k1 : Int) (h0 : 0 ≤ k1)  (hB : k1 + (1 + 1 + 1) ≤ 4611686018427387904) :
    ∃ w1 w2 w3 : Int, w1 = k1 + 1 ∧ IntKind.wrap .i64 (k1 + 1) = w1 ∧ w2 = w1 + 1 ∧ IntKind.wrap .i64 (w1 + 1) = w2 ∧ w3 = w2 + 1 ∧ IntKind.wrap .i64 (w2 + 1) = w3 ∧ w2 ≤ 4611686018427387904 ∧ k1 + (1 + 1 + 1) = w3 ∧ 0 ≤ w3 :=
  ⟨k1 + 1, k1 + 1 + 1, k1 + 1 + 1 + 1, rfl, wrap_i64 (by omega) (by omega), rfl, wrap_i64 (by omega) (by omega), rfl, wrap_i64 (by omega) (by omega), by omega, by omega, by omega⟩

def ctSlot : XSlot → Int
  | ⟨y_Ins, y_L⟩ => 1 + ctVals y_L

def ctSlots : List XSlot → Int
  | [] => 0
  | x :: l => ctSlot x + ctSlots l

def mkSlot : Int → XSlot → XSlot
  | k, ⟨y_Ins, y_L⟩ => ⟨k, mkVals (k + 1) y_L⟩

def mkSlots : Int → List XSlot → List XSlot
  | _, [] => []
  | k, x :: l => mkSlot k x :: mkSlots (k + ctSlot x) l

theorem ctSlot_pos : ∀ x : XSlot, 1 ≤ ctSlot x
  | ⟨y_Ins, y_L⟩ => by have h_y_L := ctVals_nn y_L; simp only [ctSlot]; omega

theorem ctSlots_len : ∀ l : List XSlot, (l.length : Int) ≤ ctSlots l
  | [] => by simp [ctSlots]
  | x :: l => by have h1 := ctSlot_pos x; have h2 := ctSlots_len l; simp only [ctSlots, List.length_cons]; omega

theorem ctSlots_nn (l : List XSlot) : 0 ≤ ctSlots l := by have := ctSlots_len l; omega

@[simp] theorem mkSlots_len : ∀ (k : Int) (l : List XSlot), (mkSlots k l).length = l.length
  | _, [] => by simp [mkSlots]
  | k, x :: l => by simp [mkSlots, mkSlots_len]

theorem ctSlots_le : ∀ l : List XSlot, XSlot.sms l → ctSlots l ≤ 3145729 * (l.length : Int)
  | [], _ => by simp [ctSlots]
  | ⟨y_Ins, y_L⟩ :: l, h => by
    have h2 := ctSlots_le l fun y hy => h y (List.mem_cons_of_mem _ hy)
    have hd := h ⟨y_Ins, y_L⟩ (by simp)
    simp only [XSlot.sm, and_assoc] at hd
    obtain ⟨hsm_y_L, hsms_y_L⟩ := hd
    have h_y_L := ctVals_le y_L
    simp only [ctSlots, List.length_cons, ctSlot]
    omega

theorem chainSlot (k1 a_y_L : Int) (h0 : 0 ≤ k1) (h_y_L : 0 ≤ a_y_L) (hB : k1 + (1 + a_y_L) ≤ 4611686018427387904) :
    ∃ w1 w2 : Int, w1 = k1 + 1 ∧ IntKind.wrap .i64 (k1 + 1) = w1 ∧ w2 = w1 + a_y_L ∧ 0 ≤ w1 ∧ w2 ≤ 4611686018427387904 ∧ ¬ w2 < 0 ∧ k1 + (1 + a_y_L) = w2 ∧ 0 ≤ w2 :=
  ⟨k1 + 1, k1 + 1 + a_y_L, rfl, wrap_i64 (by omega) (by omega), rfl, by omega, by omega, by omega, by omega, by omega⟩

def ctBuf : XBuf → Int
  | ⟨y_Gen, y_Kind, ⟨y_C_Next, y_C_L⟩, y_G⟩ => 1 + 1 + 1 + ctSlots y_C_L + ctBytes y_G

def ctBufs : List XBuf → Int
  | [] => 0
  | x :: l => ctBuf x + ctBufs l

def mkBuf : Int → XBuf → XBuf
  | k, ⟨y_Gen, y_Kind, ⟨y_C_Next, y_C_L⟩, y_G⟩ => ⟨k, k + 1, ⟨k + 1 + 1, mkSlots (k + 1 + 1 + 1) y_C_L⟩, mkBytes (k + 1 + 1 + 1 + ctSlots y_C_L) y_G⟩

def mkBufs : Int → List XBuf → List XBuf
  | _, [] => []
  | k, x :: l => mkBuf k x :: mkBufs (k + ctBuf x) l

theorem ctBuf_pos : ∀ x : XBuf, 1 ≤ ctBuf x
  | ⟨y_Gen, y_Kind, ⟨y_C_Next, y_C_L⟩, y_G⟩ => by have h_y_C_L := ctSlots_nn y_C_L; have h_y_G := ctBytes_nn y_G; simp only [ctBuf]; omega

theorem ctBufs_len : ∀ l : List XBuf, (l.length : Int) ≤ ctBufs l
  | [] => by simp [ctBufs]
  | x :: l => by have h1 := ctBuf_pos x; have h2 := ctBufs_len l; simp only [ctBufs, List.length_cons]; omega

theorem ctBufs_nn (l : List XBuf) : 0 ≤ ctBufs l := by have := ctBufs_len l; omega

@[simp] theorem mkBufs_len : ∀ (k : Int) (l : List XBuf), (mkBufs k l).length = l.length
  | _, [] => by simp [mkBufs]
  | k, x :: l => by simp [mkBufs, mkBufs_len]

theorem ctBufs_le : ∀ l : List XBuf, XBuf.sms l → ctBufs l ≤ 3298536980483 * (l.length : Int)
  | [], _ => by simp [ctBufs]
  | ⟨y_Gen, y_Kind, ⟨y_C_Next, y_C_L⟩, y_G⟩ :: l, h => by
    have h2 := ctBufs_le l fun y hy => h y (List.mem_cons_of_mem _ hy)
    have hd := h ⟨y_Gen, y_Kind, ⟨y_C_Next, y_C_L⟩, y_G⟩ (by simp)
    simp only [XBuf.sm, XChunk.sm, and_assoc] at hd
    obtain ⟨hsm_y_C_L, hsms_y_C_L, hsm_y_G⟩ := hd
    have h_y_C_L := ctSlots_le y_C_L hsms_y_C_L; have h_y_G := ctBytes_le y_G
    simp only [ctBufs, List.length_cons, ctBuf]
    omega

theorem chainBuf (k1 a_y_C_L a_y_G : Int) (h0 : 0 ≤ k1) (h_y_C_L : 0 ≤ a_y_C_L) (h_y_G : 0 ≤ a_y_G) (hB : k1 + (1 + 1 + 1 + a_y_C_L + a_y_G) ≤ 4611686018427387904) :
    ∃ w1 w2 w3 w4 w5 : Int, w1 = k1 + 1 ∧ IntKind.wrap .i64 (k1 + 1) = w1 ∧ w2 = w1 + 1 ∧ IntKind.wrap .i64 (w1 + 1) = w2 ∧ w3 = w2 + 1 ∧ IntKind.wrap .i64 (w2 + 1) = w3 ∧ w4 = w3 + a_y_C_L ∧ 0 ≤ w3 ∧ w4 ≤ 4611686018427387904 ∧ ¬ w4 < 0 ∧ w5 = w4 + a_y_G ∧ 0 ≤ w4 ∧ w5 ≤ 4611686018427387904 ∧ ¬ w5 < 0 ∧ k1 + (1 + 1 + 1 + a_y_C_L + a_y_G) = w5 ∧ 0 ≤ w5 :=
  ⟨k1 + 1, k1 + 1 + 1, k1 + 1 + 1 + 1, k1 + 1 + 1 + 1 + a_y_C_L, k1 + 1 + 1 + 1 + a_y_C_L + a_y_G, rfl, wrap_i64 (by omega) (by omega), rfl, wrap_i64 (by omega) (by omega), rfl, wrap_i64 (by omega) (by omega), rfl, by omega, by omega, by omega, rfl, by omega, by omega, by omega, by omega, by omega⟩

def ctRow : XRow → Int
  | ⟨y_Id, y_L⟩ => 1 + ctVals y_L

def ctRows : List XRow → Int
  | [] => 0
  | x :: l => ctRow x + ctRows l

def mkRow : Int → XRow → XRow
  | k, ⟨y_Id, y_L⟩ => ⟨k, mkVals (k + 1) y_L⟩

def mkRows : Int → List XRow → List XRow
  | _, [] => []
  | k, x :: l => mkRow k x :: mkRows (k + ctRow x) l

theorem ctRow_pos : ∀ x : XRow, 1 ≤ ctRow x
  | ⟨y_Id, y_L⟩ => by have h_y_L := ctVals_nn y_L; simp only [ctRow]; omega

theorem ctRows_len : ∀ l : List XRow, (l.length : Int) ≤ ctRows l
  | [] => by simp [ctRows]
  | x :: l => by have h1 := ctRow_pos x; have h2 := ctRows_len l; simp only [ctRows, List.length_cons]; omega

theorem ctRows_nn (l : List XRow) : 0 ≤ ctRows l := by have := ctRows_len l; omega

@[simp] theorem mkRows_len : ∀ (k : Int) (l : List XRow), (mkRows k l).length = l.length
  | _, [] => by simp [mkRows]
  | k, x :: l => by simp [mkRows, mkRows_len]

theorem chainRow (k1 a_y_L : Int) (h0 : 0 ≤ k1) (h_y_L : 0 ≤ a_y_L) (hB : k1 + (1 + a_y_L) ≤ 4611686018427387904) :
    ∃ w1 w2 : Int, w1 = k1 + 1 ∧ IntKind.wrap .i64 (k1 + 1) = w1 ∧ w2 = w1 + a_y_L ∧ 0 ≤ w1 ∧ w2 ≤ 4611686018427387904 ∧ ¬ w2 < 0 ∧ k1 + (1 + a_y_L) = w2 ∧ 0 ≤ w2 :=
  ⟨k1 + 1, k1 + 1 + a_y_L, rfl, wrap_i64 (by omega) (by omega), rfl, by omega, by omega, by omega, by omega, by omega⟩

@[simp] theorem t184 (l : List Int) (k : Int) (h0 : 0 ≤ k) (hc : k + ctBytes l ≤ 4611686018427387904) : Gw TT 184 [.one (.own (.sl 1 (l.map eb))), vi k] = some (vi (k + ctBytes l), [(0, 0, .own (.sl 1 ((mkBytes k l).map eb)))]) := by
  refine Gw_of (F := pf184) rfl rfl ?_
  show Wp _ pb184 _ _
  unfold pb184
  generalize hM : mkBytes k l = M
  have hlen := ctBytes_len l
  repeat' (first
    | with_reducible (first | refine wp_seq ?_ | refine wp_blk ?_ | refine wp_skip ?_ | refine wp_exit ?_ | refine wp_ret ?_ | refine seqQ_norm ?_ | refine seqQ_ret ?_ | refine seqQ_exit ?_ | refine blkQ_norm ?_ | refine blkQ_ret ?_ | refine blkQ_exit ?_ | refine loopQ_norm ?_ | refine loopQ_exit ?_ | refine loopQ_ret ?_ | refine endQ_ret ?_ | refine endQ_norm ?_ | refine endE_ret ?_ | refine endE_norm ?_ | refine endI_ret ?_ | refine endI_norm ?_)
    | (with_reducible refine wp_regK fun K hK => ?_
       simp
       repeat' (with_reducible first | refine hK _ ?_ | (refine psel ?_ ?_ <;> (intro hc; (try rw [Decidable.not_not] at hc); first | (exfalso; omega) | (try simp [hc]))))
       all_goals (clear hK; clear K))
    | (with_reducible refine wp_condE ?_
       refine ⟨_, rfl, ?_, ?_⟩ <;> (intro hc; (try simp at hc); (all_goals first | (exfalso; omega) | skip))))
  · refine wp_loopI (σ := List Int × List Int × Int) (fun s => [(0, AV.pl 0 0 [], some (Rt.vir [C.own (D.sl 1 (s.1.map eb ++ s.2.1.map eb))])), (1, AV.v false (di s.2.2), none), (5, AV.v false (di ((s.1.length : Nat) : Int)), none)]) (fun s => M = s.1 ++ mkBytes s.2.2 s.2.1 ∧ s.2.2 + ctBytes s.2.1 = k + ctBytes l ∧ s.1.length + s.2.1.length = l.length ∧ 0 ≤ s.2.2) (fun s => s.2.1.length) ([], l, k) (by simp) ⟨hM.symm, rfl, by simp, h0⟩ ?_
    rintro ⟨pre, rest, k1⟩ ⟨h1, h2, h3, h4⟩
    simp only at h1 h2 h3 h4
    rcases rest with _ | ⟨d, rest⟩
    · unfold pl184_0
      simp only [mkBytes, ctBytes, List.append_nil, Int.add_zero] at h1 h2
      subst h1
      repeat' (first
        | with_reducible (first | refine wp_seq ?_ | refine wp_blk ?_ | refine wp_skip ?_ | refine wp_exit ?_ | refine wp_ret ?_ | refine seqQ_norm ?_ | refine seqQ_ret ?_ | refine seqQ_exit ?_ | refine blkQ_norm ?_ | refine blkQ_ret ?_ | refine blkQ_exit ?_ | refine loopQ_norm ?_ | refine loopQ_exit ?_ | refine loopQ_ret ?_ | refine endQ_ret ?_ | refine endQ_norm ?_ | refine endE_ret ?_ | refine endE_norm ?_ | refine endI_ret ?_ | refine endI_norm ?_)
        | (with_reducible refine wp_regK fun K hK => ?_
           simp
           repeat' (with_reducible first | refine hK _ ?_ | (refine psel ?_ ?_ <;> (intro hc; (try rw [Decidable.not_not] at hc); first | (exfalso; omega) | (try simp [hc]))))
           all_goals (clear hK; clear K))
        | (with_reducible refine wp_condE ?_
           refine ⟨_, rfl, ?_, ?_⟩ <;> (intro hc; (try simp at hc); (all_goals first | (exfalso; omega) | skip))))
      all_goals simp [pf184, h2]
    · unfold pl184_0
      simp only [mkBytes, ctBytes, mkByte, ctByte, List.length_cons] at h1 h2 h3
      have hnr := ctBytes_nn rest
      have hw : IntKind.wrap .i64 ((pre.length : Int) + 1) = (pre.length : Int) + 1 := wrap_i64 (by omega) (by omega)
      have hlt : (pre.length : Int) < (pre.length : Int) + ((rest.length : Int) + 1) := by omega
      have hl2 : (pre ++ [mkByte k1 d]).length + rest.length = l.length := by simp only [List.length_append, List.length_cons, List.length_nil]; omega
      have hB2 : k1 + (1) + ctBytes rest = k + ctBytes l := by omega
      obtain ⟨w1, hv0, hw0, hE, hZ⟩ := chainByte k1  h4  (by omega)
      rw [hE] at h1 hB2
      try simp only [← hv0] at h1
      subst h1
      repeat' (first
        | with_reducible (first | refine wp_seq ?_ | refine wp_blk ?_ | refine wp_skip ?_ | refine wp_exit ?_ | refine wp_ret ?_ | refine seqQ_norm ?_ | refine seqQ_ret ?_ | refine seqQ_exit ?_ | refine blkQ_norm ?_ | refine blkQ_ret ?_ | refine blkQ_exit ?_ | refine loopQ_norm ?_ | refine loopQ_exit ?_ | refine loopQ_ret ?_ | refine endQ_ret ?_ | refine endQ_norm ?_ | refine endE_ret ?_ | refine endE_norm ?_ | refine endI_ret ?_ | refine endI_norm ?_)
        | (with_reducible refine wp_regK fun K hK => ?_
           simp[hw0, hw, hlt]
           repeat' (with_reducible first | refine hK _ ?_ | (refine psel ?_ ?_ <;> (intro hc; (try rw [Decidable.not_not] at hc); first | (try simp [hc, hw0, hw, hlt]))))
           all_goals (clear hK; clear K))
        | (with_reducible refine wp_condE ?_
           refine ⟨_, rfl, ?_, ?_⟩ <;> (intro hc; (try simp at hc); skip)))
      all_goals first | exact ⟨(pre ++ [mkByte k1 d], rest, w1), by simp [mkByte, hv0], ⟨by simp [mkByte, hv0], hB2, hl2, hZ⟩, by simp⟩ | (exfalso; simp_all; done)

@[simp] theorem t169 (k0 : Bool) (l : List Int) (k : Int) (h0 : 0 ≤ k) (hc : k + ctBytes l ≤ 4611686018427387904) : Gw TT 169 [.one (.ro k0 (.sl 1 ((mkBytes k l).map eb))), vi k] = some (vi (k + ctBytes l), []) := by
  refine Gw_of (F := pf169) rfl rfl ?_
  show Wp _ pb169 _ _
  unfold pb169
  generalize hM : mkBytes k l = M
  have hlen := ctBytes_len l
  repeat' (first
    | with_reducible (first | refine wp_seq ?_ | refine wp_blk ?_ | refine wp_skip ?_ | refine wp_exit ?_ | refine wp_ret ?_ | refine seqQ_norm ?_ | refine seqQ_ret ?_ | refine seqQ_exit ?_ | refine blkQ_norm ?_ | refine blkQ_ret ?_ | refine blkQ_exit ?_ | refine loopQ_norm ?_ | refine loopQ_exit ?_ | refine loopQ_ret ?_ | refine endQ_ret ?_ | refine endQ_norm ?_ | refine endE_ret ?_ | refine endE_norm ?_ | refine endI_ret ?_ | refine endI_norm ?_)
    | (with_reducible refine wp_regK fun K hK => ?_
       simp
       repeat' (with_reducible first | refine hK _ ?_ | (refine psel ?_ ?_ <;> (intro hc; (try rw [Decidable.not_not] at hc); first | (exfalso; omega) | (try simp [hc]))))
       all_goals (clear hK; clear K))
    | (with_reducible refine wp_condE ?_
       refine ⟨_, rfl, ?_, ?_⟩ <;> (intro hc; (try simp at hc); (all_goals first | (exfalso; omega) | skip))))
  · refine wp_loopI (σ := List Int × List Int × Int) (fun s => [(0, AV.v k0 (D.sl 1 (M.map eb)), none), (1, AV.v false (di s.2.2), none), (5, AV.v false (di ((s.1.length : Nat) : Int)), none)]) (fun s => M = s.1 ++ mkBytes s.2.2 s.2.1 ∧ s.2.2 + ctBytes s.2.1 = k + ctBytes l ∧ s.1.length + s.2.1.length = l.length ∧ 0 ≤ s.2.2) (fun s => s.2.1.length) ([], l, k) (by simp [hM]) ⟨hM.symm, rfl, by simp, h0⟩ ?_
    rintro ⟨pre, rest, k1⟩ ⟨h1, h2, h3, h4⟩
    simp only at h1 h2 h3 h4
    rcases rest with _ | ⟨d, rest⟩
    · unfold pl169_0
      simp only [mkBytes, ctBytes, List.append_nil, Int.add_zero] at h1 h2
      subst h1
      repeat' (first
        | with_reducible (first | refine wp_seq ?_ | refine wp_blk ?_ | refine wp_skip ?_ | refine wp_exit ?_ | refine wp_ret ?_ | refine seqQ_norm ?_ | refine seqQ_ret ?_ | refine seqQ_exit ?_ | refine blkQ_norm ?_ | refine blkQ_ret ?_ | refine blkQ_exit ?_ | refine loopQ_norm ?_ | refine loopQ_exit ?_ | refine loopQ_ret ?_ | refine endQ_ret ?_ | refine endQ_norm ?_ | refine endE_ret ?_ | refine endE_norm ?_ | refine endI_ret ?_ | refine endI_norm ?_)
        | (with_reducible refine wp_regK fun K hK => ?_
           simp
           repeat' (with_reducible first | refine hK _ ?_ | (refine psel ?_ ?_ <;> (intro hc; (try rw [Decidable.not_not] at hc); first | (exfalso; omega) | (try simp [hc]))))
           all_goals (clear hK; clear K))
        | (with_reducible refine wp_condE ?_
           refine ⟨_, rfl, ?_, ?_⟩ <;> (intro hc; (try simp at hc); (all_goals first | (exfalso; omega) | skip))))
      all_goals simp [pf169, h2]
    · unfold pl169_0
      simp only [mkBytes, ctBytes, mkByte, ctByte, List.length_cons] at h1 h2 h3
      have hnr := ctBytes_nn rest
      have hw : IntKind.wrap .i64 ((pre.length : Int) + 1) = (pre.length : Int) + 1 := wrap_i64 (by omega) (by omega)
      have hlt : (pre.length : Int) < (pre.length : Int) + ((rest.length : Int) + 1) := by omega
      have hl2 : (pre ++ [mkByte k1 d]).length + rest.length = l.length := by simp only [List.length_append, List.length_cons, List.length_nil]; omega
      have hB2 : k1 + (1) + ctBytes rest = k + ctBytes l := by omega
      obtain ⟨w1, hv0, hw0, hE, hZ⟩ := chainByte k1  h4  (by omega)
      rw [hE] at h1 hB2
      try simp only [← hv0] at h1
      subst h1
      repeat' (first
        | with_reducible (first | refine wp_seq ?_ | refine wp_blk ?_ | refine wp_skip ?_ | refine wp_exit ?_ | refine wp_ret ?_ | refine seqQ_norm ?_ | refine seqQ_ret ?_ | refine seqQ_exit ?_ | refine blkQ_norm ?_ | refine blkQ_ret ?_ | refine blkQ_exit ?_ | refine loopQ_norm ?_ | refine loopQ_exit ?_ | refine loopQ_ret ?_ | refine endQ_ret ?_ | refine endQ_norm ?_ | refine endE_ret ?_ | refine endE_norm ?_ | refine endI_ret ?_ | refine endI_norm ?_)
        | (with_reducible refine wp_regK fun K hK => ?_
           simp[hw0, hw, hlt]
           repeat' (with_reducible first | refine hK _ ?_ | (refine psel ?_ ?_ <;> (intro hc; (try rw [Decidable.not_not] at hc); first | (try simp [hc, hw0, hw, hlt]))))
           all_goals (clear hK; clear K))
        | (with_reducible refine wp_condE ?_
           refine ⟨_, rfl, ?_, ?_⟩ <;> (intro hc; (try simp at hc); skip)))
      all_goals first | exact ⟨(pre ++ [mkByte k1 d], rest, w1), by simp [mkByte, hv0], ⟨by simp [mkByte, hv0], hB2, hl2, hZ⟩, by simp⟩ | (exfalso; simp_all; done)

@[simp] theorem t190 (l : List Int) (k : Int) (h0 : 0 ≤ k) (hc : k + ctInts l ≤ 4611686018427387904) : Gw TT 190 [.one (.own (.sl 1 (l.map ei))), vi k] = some (vi (k + ctInts l), [(0, 0, .own (.sl 1 ((mkInts k l).map ei)))]) := by
  refine Gw_of (F := pf190) rfl rfl ?_
  show Wp _ pb190 _ _
  unfold pb190
  generalize hM : mkInts k l = M
  have hlen := ctInts_len l
  repeat' (first
    | with_reducible (first | refine wp_seq ?_ | refine wp_blk ?_ | refine wp_skip ?_ | refine wp_exit ?_ | refine wp_ret ?_ | refine seqQ_norm ?_ | refine seqQ_ret ?_ | refine seqQ_exit ?_ | refine blkQ_norm ?_ | refine blkQ_ret ?_ | refine blkQ_exit ?_ | refine loopQ_norm ?_ | refine loopQ_exit ?_ | refine loopQ_ret ?_ | refine endQ_ret ?_ | refine endQ_norm ?_ | refine endE_ret ?_ | refine endE_norm ?_ | refine endI_ret ?_ | refine endI_norm ?_)
    | (with_reducible refine wp_regK fun K hK => ?_
       simp
       repeat' (with_reducible first | refine hK _ ?_ | (refine psel ?_ ?_ <;> (intro hc; (try rw [Decidable.not_not] at hc); first | (exfalso; omega) | (try simp [hc]))))
       all_goals (clear hK; clear K))
    | (with_reducible refine wp_condE ?_
       refine ⟨_, rfl, ?_, ?_⟩ <;> (intro hc; (try simp at hc); (all_goals first | (exfalso; omega) | skip))))
  · refine wp_loopI (σ := List Int × List Int × Int) (fun s => [(0, AV.pl 0 0 [], some (Rt.vir [C.own (D.sl 1 (s.1.map ei ++ s.2.1.map ei))])), (1, AV.v false (di s.2.2), none), (5, AV.v false (di ((s.1.length : Nat) : Int)), none)]) (fun s => M = s.1 ++ mkInts s.2.2 s.2.1 ∧ s.2.2 + ctInts s.2.1 = k + ctInts l ∧ s.1.length + s.2.1.length = l.length ∧ 0 ≤ s.2.2) (fun s => s.2.1.length) ([], l, k) (by simp) ⟨hM.symm, rfl, by simp, h0⟩ ?_
    rintro ⟨pre, rest, k1⟩ ⟨h1, h2, h3, h4⟩
    simp only at h1 h2 h3 h4
    rcases rest with _ | ⟨d, rest⟩
    · unfold pl190_0
      simp only [mkInts, ctInts, List.append_nil, Int.add_zero] at h1 h2
      subst h1
      repeat' (first
        | with_reducible (first | refine wp_seq ?_ | refine wp_blk ?_ | refine wp_skip ?_ | refine wp_exit ?_ | refine wp_ret ?_ | refine seqQ_norm ?_ | refine seqQ_ret ?_ | refine seqQ_exit ?_ | refine blkQ_norm ?_ | refine blkQ_ret ?_ | refine blkQ_exit ?_ | refine loopQ_norm ?_ | refine loopQ_exit ?_ | refine loopQ_ret ?_ | refine endQ_ret ?_ | refine endQ_norm ?_ | refine endE_ret ?_ | refine endE_norm ?_ | refine endI_ret ?_ | refine endI_norm ?_)
        | (with_reducible refine wp_regK fun K hK => ?_
           simp
           repeat' (with_reducible first | refine hK _ ?_ | (refine psel ?_ ?_ <;> (intro hc; (try rw [Decidable.not_not] at hc); first | (exfalso; omega) | (try simp [hc]))))
           all_goals (clear hK; clear K))
        | (with_reducible refine wp_condE ?_
           refine ⟨_, rfl, ?_, ?_⟩ <;> (intro hc; (try simp at hc); (all_goals first | (exfalso; omega) | skip))))
      all_goals simp [pf190, h2]
    · unfold pl190_0
      simp only [mkInts, ctInts, mkInt, ctInt, List.length_cons] at h1 h2 h3
      have hnr := ctInts_nn rest
      have hw : IntKind.wrap .i64 ((pre.length : Int) + 1) = (pre.length : Int) + 1 := wrap_i64 (by omega) (by omega)
      have hlt : (pre.length : Int) < (pre.length : Int) + ((rest.length : Int) + 1) := by omega
      have hl2 : (pre ++ [mkInt k1 d]).length + rest.length = l.length := by simp only [List.length_append, List.length_cons, List.length_nil]; omega
      have hB2 : k1 + (1) + ctInts rest = k + ctInts l := by omega
      obtain ⟨w1, hv0, hw0, hE, hZ⟩ := chainInt k1  h4  (by omega)
      rw [hE] at h1 hB2
      try simp only [← hv0] at h1
      subst h1
      repeat' (first
        | with_reducible (first | refine wp_seq ?_ | refine wp_blk ?_ | refine wp_skip ?_ | refine wp_exit ?_ | refine wp_ret ?_ | refine seqQ_norm ?_ | refine seqQ_ret ?_ | refine seqQ_exit ?_ | refine blkQ_norm ?_ | refine blkQ_ret ?_ | refine blkQ_exit ?_ | refine loopQ_norm ?_ | refine loopQ_exit ?_ | refine loopQ_ret ?_ | refine endQ_ret ?_ | refine endQ_norm ?_ | refine endE_ret ?_ | refine endE_norm ?_ | refine endI_ret ?_ | refine endI_norm ?_)
        | (with_reducible refine wp_regK fun K hK => ?_
           simp[hw0, hw, hlt]
           repeat' (with_reducible first | refine hK _ ?_ | (refine psel ?_ ?_ <;> (intro hc; (try rw [Decidable.not_not] at hc); first | (try simp [hc, hw0, hw, hlt]))))
           all_goals (clear hK; clear K))
        | (with_reducible refine wp_condE ?_
           refine ⟨_, rfl, ?_, ?_⟩ <;> (intro hc; (try simp at hc); skip)))
      all_goals first | exact ⟨(pre ++ [mkInt k1 d], rest, w1), by simp [mkInt, hv0], ⟨by simp [mkInt, hv0], hB2, hl2, hZ⟩, by simp⟩ | (exfalso; simp_all; done)

@[simp] theorem t175 (k0 : Bool) (l : List Int) (k : Int) (h0 : 0 ≤ k) (hc : k + ctInts l ≤ 4611686018427387904) : Gw TT 175 [.one (.ro k0 (.sl 1 ((mkInts k l).map ei))), vi k] = some (vi (k + ctInts l), []) := by
  refine Gw_of (F := pf175) rfl rfl ?_
  show Wp _ pb175 _ _
  unfold pb175
  generalize hM : mkInts k l = M
  have hlen := ctInts_len l
  repeat' (first
    | with_reducible (first | refine wp_seq ?_ | refine wp_blk ?_ | refine wp_skip ?_ | refine wp_exit ?_ | refine wp_ret ?_ | refine seqQ_norm ?_ | refine seqQ_ret ?_ | refine seqQ_exit ?_ | refine blkQ_norm ?_ | refine blkQ_ret ?_ | refine blkQ_exit ?_ | refine loopQ_norm ?_ | refine loopQ_exit ?_ | refine loopQ_ret ?_ | refine endQ_ret ?_ | refine endQ_norm ?_ | refine endE_ret ?_ | refine endE_norm ?_ | refine endI_ret ?_ | refine endI_norm ?_)
    | (with_reducible refine wp_regK fun K hK => ?_
       simp
       repeat' (with_reducible first | refine hK _ ?_ | (refine psel ?_ ?_ <;> (intro hc; (try rw [Decidable.not_not] at hc); first | (exfalso; omega) | (try simp [hc]))))
       all_goals (clear hK; clear K))
    | (with_reducible refine wp_condE ?_
       refine ⟨_, rfl, ?_, ?_⟩ <;> (intro hc; (try simp at hc); (all_goals first | (exfalso; omega) | skip))))
  · refine wp_loopI (σ := List Int × List Int × Int) (fun s => [(0, AV.v k0 (D.sl 1 (M.map ei)), none), (1, AV.v false (di s.2.2), none), (5, AV.v false (di ((s.1.length : Nat) : Int)), none)]) (fun s => M = s.1 ++ mkInts s.2.2 s.2.1 ∧ s.2.2 + ctInts s.2.1 = k + ctInts l ∧ s.1.length + s.2.1.length = l.length ∧ 0 ≤ s.2.2) (fun s => s.2.1.length) ([], l, k) (by simp [hM]) ⟨hM.symm, rfl, by simp, h0⟩ ?_
    rintro ⟨pre, rest, k1⟩ ⟨h1, h2, h3, h4⟩
    simp only at h1 h2 h3 h4
    rcases rest with _ | ⟨d, rest⟩
    · unfold pl175_0
      simp only [mkInts, ctInts, List.append_nil, Int.add_zero] at h1 h2
      subst h1
      repeat' (first
        | with_reducible (first | refine wp_seq ?_ | refine wp_blk ?_ | refine wp_skip ?_ | refine wp_exit ?_ | refine wp_ret ?_ | refine seqQ_norm ?_ | refine seqQ_ret ?_ | refine seqQ_exit ?_ | refine blkQ_norm ?_ | refine blkQ_ret ?_ | refine blkQ_exit ?_ | refine loopQ_norm ?_ | refine loopQ_exit ?_ | refine loopQ_ret ?_ | refine endQ_ret ?_ | refine endQ_norm ?_ | refine endE_ret ?_ | refine endE_norm ?_ | refine endI_ret ?_ | refine endI_norm ?_)
        | (with_reducible refine wp_regK fun K hK => ?_
           simp
           repeat' (with_reducible first | refine hK _ ?_ | (refine psel ?_ ?_ <;> (intro hc; (try rw [Decidable.not_not] at hc); first | (exfalso; omega) | (try simp [hc]))))
           all_goals (clear hK; clear K))
        | (with_reducible refine wp_condE ?_
           refine ⟨_, rfl, ?_, ?_⟩ <;> (intro hc; (try simp at hc); (all_goals first | (exfalso; omega) | skip))))
      all_goals simp [pf175, h2]
    · unfold pl175_0
      simp only [mkInts, ctInts, mkInt, ctInt, List.length_cons] at h1 h2 h3
      have hnr := ctInts_nn rest
      have hw : IntKind.wrap .i64 ((pre.length : Int) + 1) = (pre.length : Int) + 1 := wrap_i64 (by omega) (by omega)
      have hlt : (pre.length : Int) < (pre.length : Int) + ((rest.length : Int) + 1) := by omega
      have hl2 : (pre ++ [mkInt k1 d]).length + rest.length = l.length := by simp only [List.length_append, List.length_cons, List.length_nil]; omega
      have hB2 : k1 + (1) + ctInts rest = k + ctInts l := by omega
      obtain ⟨w1, hv0, hw0, hE, hZ⟩ := chainInt k1  h4  (by omega)
      rw [hE] at h1 hB2
      try simp only [← hv0] at h1
      subst h1
      repeat' (first
        | with_reducible (first | refine wp_seq ?_ | refine wp_blk ?_ | refine wp_skip ?_ | refine wp_exit ?_ | refine wp_ret ?_ | refine seqQ_norm ?_ | refine seqQ_ret ?_ | refine seqQ_exit ?_ | refine blkQ_norm ?_ | refine blkQ_ret ?_ | refine blkQ_exit ?_ | refine loopQ_norm ?_ | refine loopQ_exit ?_ | refine loopQ_ret ?_ | refine endQ_ret ?_ | refine endQ_norm ?_ | refine endE_ret ?_ | refine endE_norm ?_ | refine endI_ret ?_ | refine endI_norm ?_)
        | (with_reducible refine wp_regK fun K hK => ?_
           simp[hw0, hw, hlt]
           repeat' (with_reducible first | refine hK _ ?_ | (refine psel ?_ ?_ <;> (intro hc; (try rw [Decidable.not_not] at hc); first | (try simp [hc, hw0, hw, hlt]))))
           all_goals (clear hK; clear K))
        | (with_reducible refine wp_condE ?_
           refine ⟨_, rfl, ?_, ?_⟩ <;> (intro hc; (try simp at hc); skip)))
      all_goals first | exact ⟨(pre ++ [mkInt k1 d], rest, w1), by simp [mkInt, hv0], ⟨by simp [mkInt, hv0], hB2, hl2, hZ⟩, by simp⟩ | (exfalso; simp_all; done)

@[simp] theorem t187 (l : List XDead) (k : Int) (h0 : 0 ≤ k) (hc : k + ctDeads l ≤ 4611686018427387904) : Gw TT 187 [.one (.own (.sl 3 (l.map XDead.e))), vi k] = some (vi (k + ctDeads l), [(0, 0, .own (.sl 3 ((mkDeads k l).map XDead.e)))]) := by
  refine Gw_of (F := pf187) rfl rfl ?_
  show Wp _ pb187 _ _
  unfold pb187
  generalize hM : mkDeads k l = M
  have hlen := ctDeads_len l
  repeat' (first
    | with_reducible (first | refine wp_seq ?_ | refine wp_blk ?_ | refine wp_skip ?_ | refine wp_exit ?_ | refine wp_ret ?_ | refine seqQ_norm ?_ | refine seqQ_ret ?_ | refine seqQ_exit ?_ | refine blkQ_norm ?_ | refine blkQ_ret ?_ | refine blkQ_exit ?_ | refine loopQ_norm ?_ | refine loopQ_exit ?_ | refine loopQ_ret ?_ | refine endQ_ret ?_ | refine endQ_norm ?_ | refine endE_ret ?_ | refine endE_norm ?_ | refine endI_ret ?_ | refine endI_norm ?_)
    | (with_reducible refine wp_regK fun K hK => ?_
       simp
       repeat' (with_reducible first | refine hK _ ?_ | (refine psel ?_ ?_ <;> (intro hc; (try rw [Decidable.not_not] at hc); first | (exfalso; omega) | (try simp [hc]))))
       all_goals (clear hK; clear K))
    | (with_reducible refine wp_condE ?_
       refine ⟨_, rfl, ?_, ?_⟩ <;> (intro hc; (try simp at hc); (all_goals first | (exfalso; omega) | skip))))
  · refine wp_loopI (σ := List XDead × List XDead × Int) (fun s => [(0, AV.pl 0 0 [], some (Rt.vir [C.own (D.sl 3 (s.1.map XDead.e ++ s.2.1.map XDead.e))])), (1, AV.v false (di s.2.2), none), (5, AV.v false (di ((s.1.length : Nat) : Int)), none)]) (fun s => M = s.1 ++ mkDeads s.2.2 s.2.1 ∧ s.2.2 + ctDeads s.2.1 = k + ctDeads l ∧ s.1.length + s.2.1.length = l.length ∧ 0 ≤ s.2.2) (fun s => s.2.1.length) ([], l, k) (by simp) ⟨hM.symm, rfl, by simp, h0⟩ ?_
    rintro ⟨pre, rest, k1⟩ ⟨h1, h2, h3, h4⟩
    simp only at h1 h2 h3 h4
    rcases rest with _ | ⟨⟨y_Buf, y_Gen, y_At⟩, rest⟩
    · unfold pl187_0
      simp only [mkDeads, ctDeads, List.append_nil, Int.add_zero] at h1 h2
      subst h1
      repeat' (first
        | with_reducible (first | refine wp_seq ?_ | refine wp_blk ?_ | refine wp_skip ?_ | refine wp_exit ?_ | refine wp_ret ?_ | refine seqQ_norm ?_ | refine seqQ_ret ?_ | refine seqQ_exit ?_ | refine blkQ_norm ?_ | refine blkQ_ret ?_ | refine blkQ_exit ?_ | refine loopQ_norm ?_ | refine loopQ_exit ?_ | refine loopQ_ret ?_ | refine endQ_ret ?_ | refine endQ_norm ?_ | refine endE_ret ?_ | refine endE_norm ?_ | refine endI_ret ?_ | refine endI_norm ?_)
        | (with_reducible refine wp_regK fun K hK => ?_
           simp
           repeat' (with_reducible first | refine hK _ ?_ | (refine psel ?_ ?_ <;> (intro hc; (try rw [Decidable.not_not] at hc); first | (exfalso; omega) | (try simp [hc]))))
           all_goals (clear hK; clear K))
        | (with_reducible refine wp_condE ?_
           refine ⟨_, rfl, ?_, ?_⟩ <;> (intro hc; (try simp at hc); (all_goals first | (exfalso; omega) | skip))))
      all_goals simp [pf187, h2]
    · unfold pl187_0
      simp only [mkDeads, ctDeads, mkDead, ctDead, List.length_cons] at h1 h2 h3
      have hnr := ctDeads_nn rest
      have hw : IntKind.wrap .i64 ((pre.length : Int) + 1) = (pre.length : Int) + 1 := wrap_i64 (by omega) (by omega)
      have hlt : (pre.length : Int) < (pre.length : Int) + ((rest.length : Int) + 1) := by omega
      have hl2 : (pre ++ [mkDead k1 ⟨y_Buf, y_Gen, y_At⟩]).length + rest.length = l.length := by simp only [List.length_append, List.length_cons, List.length_nil]; omega
      have hB2 : k1 + (1 + 1 + 1) + ctDeads rest = k + ctDeads l := by omega
      obtain ⟨w1, w2, w3, hv0, hw0, hv1, hw1, hv2, hw2, hE, hZ⟩ := chainDead k1  h4  (by omega)
      rw [hE] at h1 hB2
      try simp only [← hv0, ← hv1, ← hv2] at h1
      subst h1
      repeat' (first
        | with_reducible (first | refine wp_seq ?_ | refine wp_blk ?_ | refine wp_skip ?_ | refine wp_exit ?_ | refine wp_ret ?_ | refine seqQ_norm ?_ | refine seqQ_ret ?_ | refine seqQ_exit ?_ | refine blkQ_norm ?_ | refine blkQ_ret ?_ | refine blkQ_exit ?_ | refine loopQ_norm ?_ | refine loopQ_exit ?_ | refine loopQ_ret ?_ | refine endQ_ret ?_ | refine endQ_norm ?_ | refine endE_ret ?_ | refine endE_norm ?_ | refine endI_ret ?_ | refine endI_norm ?_)
        | (with_reducible refine wp_regK fun K hK => ?_
           simp[hw0, hw1, hw2, hw, hlt]
           repeat' (with_reducible first | refine hK _ ?_ | (refine psel ?_ ?_ <;> (intro hc; (try rw [Decidable.not_not] at hc); first | (try simp [hc, hw0, hw1, hw2, hw, hlt]))))
           all_goals (clear hK; clear K))
        | (with_reducible refine wp_condE ?_
           refine ⟨_, rfl, ?_, ?_⟩ <;> (intro hc; (try simp at hc); skip)))
      all_goals first | exact ⟨(pre ++ [mkDead k1 ⟨y_Buf, y_Gen, y_At⟩], rest, w3), by simp [mkDead, hv0, hv1, hv2], ⟨by simp [mkDead, hv0, hv1, hv2], hB2, hl2, hZ⟩, by simp⟩ | (exfalso; simp_all; done)

@[simp] theorem t172 (k0 : Bool) (l : List XDead) (k : Int) (h0 : 0 ≤ k) (hc : k + ctDeads l ≤ 4611686018427387904) : Gw TT 172 [.one (.ro k0 (.sl 3 ((mkDeads k l).map XDead.e))), vi k] = some (vi (k + ctDeads l), []) := by
  refine Gw_of (F := pf172) rfl rfl ?_
  show Wp _ pb172 _ _
  unfold pb172
  generalize hM : mkDeads k l = M
  have hlen := ctDeads_len l
  repeat' (first
    | with_reducible (first | refine wp_seq ?_ | refine wp_blk ?_ | refine wp_skip ?_ | refine wp_exit ?_ | refine wp_ret ?_ | refine seqQ_norm ?_ | refine seqQ_ret ?_ | refine seqQ_exit ?_ | refine blkQ_norm ?_ | refine blkQ_ret ?_ | refine blkQ_exit ?_ | refine loopQ_norm ?_ | refine loopQ_exit ?_ | refine loopQ_ret ?_ | refine endQ_ret ?_ | refine endQ_norm ?_ | refine endE_ret ?_ | refine endE_norm ?_ | refine endI_ret ?_ | refine endI_norm ?_)
    | (with_reducible refine wp_regK fun K hK => ?_
       simp
       repeat' (with_reducible first | refine hK _ ?_ | (refine psel ?_ ?_ <;> (intro hc; (try rw [Decidable.not_not] at hc); first | (exfalso; omega) | (try simp [hc]))))
       all_goals (clear hK; clear K))
    | (with_reducible refine wp_condE ?_
       refine ⟨_, rfl, ?_, ?_⟩ <;> (intro hc; (try simp at hc); (all_goals first | (exfalso; omega) | skip))))
  · refine wp_loopI (σ := List XDead × List XDead × Int) (fun s => [(0, AV.v k0 (D.sl 3 (M.map XDead.e)), none), (1, AV.v false (di s.2.2), none), (5, AV.v false (di ((s.1.length : Nat) : Int)), none)]) (fun s => M = s.1 ++ mkDeads s.2.2 s.2.1 ∧ s.2.2 + ctDeads s.2.1 = k + ctDeads l ∧ s.1.length + s.2.1.length = l.length ∧ 0 ≤ s.2.2) (fun s => s.2.1.length) ([], l, k) (by simp [hM]) ⟨hM.symm, rfl, by simp, h0⟩ ?_
    rintro ⟨pre, rest, k1⟩ ⟨h1, h2, h3, h4⟩
    simp only at h1 h2 h3 h4
    rcases rest with _ | ⟨⟨y_Buf, y_Gen, y_At⟩, rest⟩
    · unfold pl172_0
      simp only [mkDeads, ctDeads, List.append_nil, Int.add_zero] at h1 h2
      subst h1
      repeat' (first
        | with_reducible (first | refine wp_seq ?_ | refine wp_blk ?_ | refine wp_skip ?_ | refine wp_exit ?_ | refine wp_ret ?_ | refine seqQ_norm ?_ | refine seqQ_ret ?_ | refine seqQ_exit ?_ | refine blkQ_norm ?_ | refine blkQ_ret ?_ | refine blkQ_exit ?_ | refine loopQ_norm ?_ | refine loopQ_exit ?_ | refine loopQ_ret ?_ | refine endQ_ret ?_ | refine endQ_norm ?_ | refine endE_ret ?_ | refine endE_norm ?_ | refine endI_ret ?_ | refine endI_norm ?_)
        | (with_reducible refine wp_regK fun K hK => ?_
           simp
           repeat' (with_reducible first | refine hK _ ?_ | (refine psel ?_ ?_ <;> (intro hc; (try rw [Decidable.not_not] at hc); first | (exfalso; omega) | (try simp [hc]))))
           all_goals (clear hK; clear K))
        | (with_reducible refine wp_condE ?_
           refine ⟨_, rfl, ?_, ?_⟩ <;> (intro hc; (try simp at hc); (all_goals first | (exfalso; omega) | skip))))
      all_goals simp [pf172, h2]
    · unfold pl172_0
      simp only [mkDeads, ctDeads, mkDead, ctDead, List.length_cons] at h1 h2 h3
      have hnr := ctDeads_nn rest
      have hw : IntKind.wrap .i64 ((pre.length : Int) + 1) = (pre.length : Int) + 1 := wrap_i64 (by omega) (by omega)
      have hlt : (pre.length : Int) < (pre.length : Int) + ((rest.length : Int) + 1) := by omega
      have hl2 : (pre ++ [mkDead k1 ⟨y_Buf, y_Gen, y_At⟩]).length + rest.length = l.length := by simp only [List.length_append, List.length_cons, List.length_nil]; omega
      have hB2 : k1 + (1 + 1 + 1) + ctDeads rest = k + ctDeads l := by omega
      obtain ⟨w1, w2, w3, hv0, hw0, hv1, hw1, hv2, hw2, hE, hZ⟩ := chainDead k1  h4  (by omega)
      rw [hE] at h1 hB2
      try simp only [← hv0, ← hv1, ← hv2] at h1
      subst h1
      repeat' (first
        | with_reducible (first | refine wp_seq ?_ | refine wp_blk ?_ | refine wp_skip ?_ | refine wp_exit ?_ | refine wp_ret ?_ | refine seqQ_norm ?_ | refine seqQ_ret ?_ | refine seqQ_exit ?_ | refine blkQ_norm ?_ | refine blkQ_ret ?_ | refine blkQ_exit ?_ | refine loopQ_norm ?_ | refine loopQ_exit ?_ | refine loopQ_ret ?_ | refine endQ_ret ?_ | refine endQ_norm ?_ | refine endE_ret ?_ | refine endE_norm ?_ | refine endI_ret ?_ | refine endI_norm ?_)
        | (with_reducible refine wp_regK fun K hK => ?_
           simp[hw0, hw1, hw2, hw, hlt]
           repeat' (with_reducible first | refine hK _ ?_ | (refine psel ?_ ?_ <;> (intro hc; (try rw [Decidable.not_not] at hc); first | (try simp [hc, hw0, hw1, hw2, hw, hlt]))))
           all_goals (clear hK; clear K))
        | (with_reducible refine wp_condE ?_
           refine ⟨_, rfl, ?_, ?_⟩ <;> (intro hc; (try simp at hc); skip)))
      all_goals first | exact ⟨(pre ++ [mkDead k1 ⟨y_Buf, y_Gen, y_At⟩], rest, w3), by simp [mkDead, hv0, hv1, hv2], ⟨by simp [mkDead, hv0, hv1, hv2], hB2, hl2, hZ⟩, by simp⟩ | (exfalso; simp_all; done)

@[simp] theorem t192 (l : List XRef) (k : Int) (h0 : 0 ≤ k) (hc : k + ctRefs l ≤ 4611686018427387904) : Gw TT 192 [.one (.own (.sl 5 (l.map XRef.e))), vi k] = some (vi (k + ctRefs l), [(0, 0, .own (.sl 5 ((mkRefs k l).map XRef.e)))]) := by
  refine Gw_of (F := pf192) rfl rfl ?_
  show Wp _ pb192 _ _
  unfold pb192
  generalize hM : mkRefs k l = M
  have hlen := ctRefs_len l
  repeat' (first
    | with_reducible (first | refine wp_seq ?_ | refine wp_blk ?_ | refine wp_skip ?_ | refine wp_exit ?_ | refine wp_ret ?_ | refine seqQ_norm ?_ | refine seqQ_ret ?_ | refine seqQ_exit ?_ | refine blkQ_norm ?_ | refine blkQ_ret ?_ | refine blkQ_exit ?_ | refine loopQ_norm ?_ | refine loopQ_exit ?_ | refine loopQ_ret ?_ | refine endQ_ret ?_ | refine endQ_norm ?_ | refine endE_ret ?_ | refine endE_norm ?_ | refine endI_ret ?_ | refine endI_norm ?_)
    | (with_reducible refine wp_regK fun K hK => ?_
       simp
       repeat' (with_reducible first | refine hK _ ?_ | (refine psel ?_ ?_ <;> (intro hc; (try rw [Decidable.not_not] at hc); first | (exfalso; omega) | (try simp [hc]))))
       all_goals (clear hK; clear K))
    | (with_reducible refine wp_condE ?_
       refine ⟨_, rfl, ?_, ?_⟩ <;> (intro hc; (try simp at hc); (all_goals first | (exfalso; omega) | skip))))
  · refine wp_loopI (σ := List XRef × List XRef × Int) (fun s => [(0, AV.pl 0 0 [], some (Rt.vir [C.own (D.sl 5 (s.1.map XRef.e ++ s.2.1.map XRef.e))])), (1, AV.v false (di s.2.2), none), (5, AV.v false (di ((s.1.length : Nat) : Int)), none)]) (fun s => M = s.1 ++ mkRefs s.2.2 s.2.1 ∧ s.2.2 + ctRefs s.2.1 = k + ctRefs l ∧ s.1.length + s.2.1.length = l.length ∧ 0 ≤ s.2.2) (fun s => s.2.1.length) ([], l, k) (by simp) ⟨hM.symm, rfl, by simp, h0⟩ ?_
    rintro ⟨pre, rest, k1⟩ ⟨h1, h2, h3, h4⟩
    simp only at h1 h2 h3 h4
    rcases rest with _ | ⟨⟨y_Buf, y_Gen, y_Kind, y_First, y_Many⟩, rest⟩
    · unfold pl192_0
      simp only [mkRefs, ctRefs, List.append_nil, Int.add_zero] at h1 h2
      subst h1
      repeat' (first
        | with_reducible (first | refine wp_seq ?_ | refine wp_blk ?_ | refine wp_skip ?_ | refine wp_exit ?_ | refine wp_ret ?_ | refine seqQ_norm ?_ | refine seqQ_ret ?_ | refine seqQ_exit ?_ | refine blkQ_norm ?_ | refine blkQ_ret ?_ | refine blkQ_exit ?_ | refine loopQ_norm ?_ | refine loopQ_exit ?_ | refine loopQ_ret ?_ | refine endQ_ret ?_ | refine endQ_norm ?_ | refine endE_ret ?_ | refine endE_norm ?_ | refine endI_ret ?_ | refine endI_norm ?_)
        | (with_reducible refine wp_regK fun K hK => ?_
           simp
           repeat' (with_reducible first | refine hK _ ?_ | (refine psel ?_ ?_ <;> (intro hc; (try rw [Decidable.not_not] at hc); first | (exfalso; omega) | (try simp [hc]))))
           all_goals (clear hK; clear K))
        | (with_reducible refine wp_condE ?_
           refine ⟨_, rfl, ?_, ?_⟩ <;> (intro hc; (try simp at hc); (all_goals first | (exfalso; omega) | skip))))
      all_goals simp [pf192, h2]
    · unfold pl192_0
      simp only [mkRefs, ctRefs, mkRef, ctRef, List.length_cons] at h1 h2 h3
      have hnr := ctRefs_nn rest
      have hw : IntKind.wrap .i64 ((pre.length : Int) + 1) = (pre.length : Int) + 1 := wrap_i64 (by omega) (by omega)
      have hlt : (pre.length : Int) < (pre.length : Int) + ((rest.length : Int) + 1) := by omega
      have hl2 : (pre ++ [mkRef k1 ⟨y_Buf, y_Gen, y_Kind, y_First, y_Many⟩]).length + rest.length = l.length := by simp only [List.length_append, List.length_cons, List.length_nil]; omega
      have hB2 : k1 + (1 + 1 + 1 + 1 + 1) + ctRefs rest = k + ctRefs l := by omega
      obtain ⟨w1, w2, w3, w4, w5, hv0, hw0, hv1, hw1, hv2, hw2, hv3, hw3, hv4, hw4, hE, hZ⟩ := chainRef k1  h4  (by omega)
      rw [hE] at h1 hB2
      try simp only [← hv0, ← hv1, ← hv2, ← hv3, ← hv4] at h1
      subst h1
      repeat' (first
        | with_reducible (first | refine wp_seq ?_ | refine wp_blk ?_ | refine wp_skip ?_ | refine wp_exit ?_ | refine wp_ret ?_ | refine seqQ_norm ?_ | refine seqQ_ret ?_ | refine seqQ_exit ?_ | refine blkQ_norm ?_ | refine blkQ_ret ?_ | refine blkQ_exit ?_ | refine loopQ_norm ?_ | refine loopQ_exit ?_ | refine loopQ_ret ?_ | refine endQ_ret ?_ | refine endQ_norm ?_ | refine endE_ret ?_ | refine endE_norm ?_ | refine endI_ret ?_ | refine endI_norm ?_)
        | (with_reducible refine wp_regK fun K hK => ?_
           simp[hw0, hw1, hw2, hw3, hw4, hw, hlt]
           repeat' (with_reducible first | refine hK _ ?_ | (refine psel ?_ ?_ <;> (intro hc; (try rw [Decidable.not_not] at hc); first | (try simp [hc, hw0, hw1, hw2, hw3, hw4, hw, hlt]))))
           all_goals (clear hK; clear K))
        | (with_reducible refine wp_condE ?_
           refine ⟨_, rfl, ?_, ?_⟩ <;> (intro hc; (try simp at hc); skip)))
      all_goals first | exact ⟨(pre ++ [mkRef k1 ⟨y_Buf, y_Gen, y_Kind, y_First, y_Many⟩], rest, w5), by simp [mkRef, hv0, hv1, hv2, hv3, hv4], ⟨by simp [mkRef, hv0, hv1, hv2, hv3, hv4], hB2, hl2, hZ⟩, by simp⟩ | (exfalso; simp_all; done)

@[simp] theorem t177 (k0 : Bool) (l : List XRef) (k : Int) (h0 : 0 ≤ k) (hc : k + ctRefs l ≤ 4611686018427387904) : Gw TT 177 [.one (.ro k0 (.sl 5 ((mkRefs k l).map XRef.e))), vi k] = some (vi (k + ctRefs l), []) := by
  refine Gw_of (F := pf177) rfl rfl ?_
  show Wp _ pb177 _ _
  unfold pb177
  generalize hM : mkRefs k l = M
  have hlen := ctRefs_len l
  repeat' (first
    | with_reducible (first | refine wp_seq ?_ | refine wp_blk ?_ | refine wp_skip ?_ | refine wp_exit ?_ | refine wp_ret ?_ | refine seqQ_norm ?_ | refine seqQ_ret ?_ | refine seqQ_exit ?_ | refine blkQ_norm ?_ | refine blkQ_ret ?_ | refine blkQ_exit ?_ | refine loopQ_norm ?_ | refine loopQ_exit ?_ | refine loopQ_ret ?_ | refine endQ_ret ?_ | refine endQ_norm ?_ | refine endE_ret ?_ | refine endE_norm ?_ | refine endI_ret ?_ | refine endI_norm ?_)
    | (with_reducible refine wp_regK fun K hK => ?_
       simp
       repeat' (with_reducible first | refine hK _ ?_ | (refine psel ?_ ?_ <;> (intro hc; (try rw [Decidable.not_not] at hc); first | (exfalso; omega) | (try simp [hc]))))
       all_goals (clear hK; clear K))
    | (with_reducible refine wp_condE ?_
       refine ⟨_, rfl, ?_, ?_⟩ <;> (intro hc; (try simp at hc); (all_goals first | (exfalso; omega) | skip))))
  · refine wp_loopI (σ := List XRef × List XRef × Int) (fun s => [(0, AV.v k0 (D.sl 5 (M.map XRef.e)), none), (1, AV.v false (di s.2.2), none), (5, AV.v false (di ((s.1.length : Nat) : Int)), none)]) (fun s => M = s.1 ++ mkRefs s.2.2 s.2.1 ∧ s.2.2 + ctRefs s.2.1 = k + ctRefs l ∧ s.1.length + s.2.1.length = l.length ∧ 0 ≤ s.2.2) (fun s => s.2.1.length) ([], l, k) (by simp [hM]) ⟨hM.symm, rfl, by simp, h0⟩ ?_
    rintro ⟨pre, rest, k1⟩ ⟨h1, h2, h3, h4⟩
    simp only at h1 h2 h3 h4
    rcases rest with _ | ⟨⟨y_Buf, y_Gen, y_Kind, y_First, y_Many⟩, rest⟩
    · unfold pl177_0
      simp only [mkRefs, ctRefs, List.append_nil, Int.add_zero] at h1 h2
      subst h1
      repeat' (first
        | with_reducible (first | refine wp_seq ?_ | refine wp_blk ?_ | refine wp_skip ?_ | refine wp_exit ?_ | refine wp_ret ?_ | refine seqQ_norm ?_ | refine seqQ_ret ?_ | refine seqQ_exit ?_ | refine blkQ_norm ?_ | refine blkQ_ret ?_ | refine blkQ_exit ?_ | refine loopQ_norm ?_ | refine loopQ_exit ?_ | refine loopQ_ret ?_ | refine endQ_ret ?_ | refine endQ_norm ?_ | refine endE_ret ?_ | refine endE_norm ?_ | refine endI_ret ?_ | refine endI_norm ?_)
        | (with_reducible refine wp_regK fun K hK => ?_
           simp
           repeat' (with_reducible first | refine hK _ ?_ | (refine psel ?_ ?_ <;> (intro hc; (try rw [Decidable.not_not] at hc); first | (exfalso; omega) | (try simp [hc]))))
           all_goals (clear hK; clear K))
        | (with_reducible refine wp_condE ?_
           refine ⟨_, rfl, ?_, ?_⟩ <;> (intro hc; (try simp at hc); (all_goals first | (exfalso; omega) | skip))))
      all_goals simp [pf177, h2]
    · unfold pl177_0
      simp only [mkRefs, ctRefs, mkRef, ctRef, List.length_cons] at h1 h2 h3
      have hnr := ctRefs_nn rest
      have hw : IntKind.wrap .i64 ((pre.length : Int) + 1) = (pre.length : Int) + 1 := wrap_i64 (by omega) (by omega)
      have hlt : (pre.length : Int) < (pre.length : Int) + ((rest.length : Int) + 1) := by omega
      have hl2 : (pre ++ [mkRef k1 ⟨y_Buf, y_Gen, y_Kind, y_First, y_Many⟩]).length + rest.length = l.length := by simp only [List.length_append, List.length_cons, List.length_nil]; omega
      have hB2 : k1 + (1 + 1 + 1 + 1 + 1) + ctRefs rest = k + ctRefs l := by omega
      obtain ⟨w1, w2, w3, w4, w5, hv0, hw0, hv1, hw1, hv2, hw2, hv3, hw3, hv4, hw4, hE, hZ⟩ := chainRef k1  h4  (by omega)
      rw [hE] at h1 hB2
      try simp only [← hv0, ← hv1, ← hv2, ← hv3, ← hv4] at h1
      subst h1
      repeat' (first
        | with_reducible (first | refine wp_seq ?_ | refine wp_blk ?_ | refine wp_skip ?_ | refine wp_exit ?_ | refine wp_ret ?_ | refine seqQ_norm ?_ | refine seqQ_ret ?_ | refine seqQ_exit ?_ | refine blkQ_norm ?_ | refine blkQ_ret ?_ | refine blkQ_exit ?_ | refine loopQ_norm ?_ | refine loopQ_exit ?_ | refine loopQ_ret ?_ | refine endQ_ret ?_ | refine endQ_norm ?_ | refine endE_ret ?_ | refine endE_norm ?_ | refine endI_ret ?_ | refine endI_norm ?_)
        | (with_reducible refine wp_regK fun K hK => ?_
           simp[hw0, hw1, hw2, hw3, hw4, hw, hlt]
           repeat' (with_reducible first | refine hK _ ?_ | (refine psel ?_ ?_ <;> (intro hc; (try rw [Decidable.not_not] at hc); first | (try simp [hc, hw0, hw1, hw2, hw3, hw4, hw, hlt]))))
           all_goals (clear hK; clear K))
        | (with_reducible refine wp_condE ?_
           refine ⟨_, rfl, ?_, ?_⟩ <;> (intro hc; (try simp at hc); skip)))
      all_goals first | exact ⟨(pre ++ [mkRef k1 ⟨y_Buf, y_Gen, y_Kind, y_First, y_Many⟩], rest, w5), by simp [mkRef, hv0, hv1, hv2, hv3, hv4], ⟨by simp [mkRef, hv0, hv1, hv2, hv3, hv4], hB2, hl2, hZ⟩, by simp⟩ | (exfalso; simp_all; done)

@[simp] theorem t197 (l : List XVal) (k : Int) (h0 : 0 ≤ k) (hc : k + ctVals l ≤ 4611686018427387904) : Gw TT 197 [.one (.own (.sl 3 (l.map XVal.e))), vi k] = some (vi (k + ctVals l), [(0, 0, .own (.sl 3 ((mkVals k l).map XVal.e)))]) := by
  refine Gw_of (F := pf197) rfl rfl ?_
  show Wp _ pb197 _ _
  unfold pb197
  generalize hM : mkVals k l = M
  have hlen := ctVals_len l
  repeat' (first
    | with_reducible (first | refine wp_seq ?_ | refine wp_blk ?_ | refine wp_skip ?_ | refine wp_exit ?_ | refine wp_ret ?_ | refine seqQ_norm ?_ | refine seqQ_ret ?_ | refine seqQ_exit ?_ | refine blkQ_norm ?_ | refine blkQ_ret ?_ | refine blkQ_exit ?_ | refine loopQ_norm ?_ | refine loopQ_exit ?_ | refine loopQ_ret ?_ | refine endQ_ret ?_ | refine endQ_norm ?_ | refine endE_ret ?_ | refine endE_norm ?_ | refine endI_ret ?_ | refine endI_norm ?_)
    | (with_reducible refine wp_regK fun K hK => ?_
       simp
       repeat' (with_reducible first | refine hK _ ?_ | (refine psel ?_ ?_ <;> (intro hc; (try rw [Decidable.not_not] at hc); first | (exfalso; omega) | (try simp [hc]))))
       all_goals (clear hK; clear K))
    | (with_reducible refine wp_condE ?_
       refine ⟨_, rfl, ?_, ?_⟩ <;> (intro hc; (try simp at hc); (all_goals first | (exfalso; omega) | skip))))
  · refine wp_loopI (σ := List XVal × List XVal × Int) (fun s => [(0, AV.pl 0 0 [], some (Rt.vir [C.own (D.sl 3 (s.1.map XVal.e ++ s.2.1.map XVal.e))])), (1, AV.v false (di s.2.2), none), (5, AV.v false (di ((s.1.length : Nat) : Int)), none)]) (fun s => M = s.1 ++ mkVals s.2.2 s.2.1 ∧ s.2.2 + ctVals s.2.1 = k + ctVals l ∧ s.1.length + s.2.1.length = l.length ∧ 0 ≤ s.2.2) (fun s => s.2.1.length) ([], l, k) (by simp) ⟨hM.symm, rfl, by simp, h0⟩ ?_
    rintro ⟨pre, rest, k1⟩ ⟨h1, h2, h3, h4⟩
    simp only at h1 h2 h3 h4
    rcases rest with _ | ⟨⟨y_Ty, y_N, y_S⟩, rest⟩
    · unfold pl197_0
      simp only [mkVals, ctVals, List.append_nil, Int.add_zero] at h1 h2
      subst h1
      repeat' (first
        | with_reducible (first | refine wp_seq ?_ | refine wp_blk ?_ | refine wp_skip ?_ | refine wp_exit ?_ | refine wp_ret ?_ | refine seqQ_norm ?_ | refine seqQ_ret ?_ | refine seqQ_exit ?_ | refine blkQ_norm ?_ | refine blkQ_ret ?_ | refine blkQ_exit ?_ | refine loopQ_norm ?_ | refine loopQ_exit ?_ | refine loopQ_ret ?_ | refine endQ_ret ?_ | refine endQ_norm ?_ | refine endE_ret ?_ | refine endE_norm ?_ | refine endI_ret ?_ | refine endI_norm ?_)
        | (with_reducible refine wp_regK fun K hK => ?_
           simp
           repeat' (with_reducible first | refine hK _ ?_ | (refine psel ?_ ?_ <;> (intro hc; (try rw [Decidable.not_not] at hc); first | (exfalso; omega) | (try simp [hc]))))
           all_goals (clear hK; clear K))
        | (with_reducible refine wp_condE ?_
           refine ⟨_, rfl, ?_, ?_⟩ <;> (intro hc; (try simp at hc); (all_goals first | (exfalso; omega) | skip))))
      all_goals simp [pf197, h2]
    · unfold pl197_0
      simp only [mkVals, ctVals, mkVal, ctVal, List.length_cons] at h1 h2 h3
      have hnr := ctVals_nn rest
      have hw : IntKind.wrap .i64 ((pre.length : Int) + 1) = (pre.length : Int) + 1 := wrap_i64 (by omega) (by omega)
      have hlt : (pre.length : Int) < (pre.length : Int) + ((rest.length : Int) + 1) := by omega
      have hl2 : (pre ++ [mkVal k1 ⟨y_Ty, y_N, y_S⟩]).length + rest.length = l.length := by simp only [List.length_append, List.length_cons, List.length_nil]; omega
      have hB2 : k1 + (1 + 1 + 1) + ctVals rest = k + ctVals l := by omega
      obtain ⟨w1, w2, w3, hv0, hw0, hv1, hw1, hv2, hw2, ht2, hE, hZ⟩ := chainVal k1  h4  (by omega)
      rw [hE] at h1 hB2
      try simp only [← hv0, ← hv1, ← hv2] at h1
      subst h1
      repeat' (first
        | with_reducible (first | refine wp_seq ?_ | refine wp_blk ?_ | refine wp_skip ?_ | refine wp_exit ?_ | refine wp_ret ?_ | refine seqQ_norm ?_ | refine seqQ_ret ?_ | refine seqQ_exit ?_ | refine blkQ_norm ?_ | refine blkQ_ret ?_ | refine blkQ_exit ?_ | refine loopQ_norm ?_ | refine loopQ_exit ?_ | refine loopQ_ret ?_ | refine endQ_ret ?_ | refine endQ_norm ?_ | refine endE_ret ?_ | refine endE_norm ?_ | refine endI_ret ?_ | refine endI_norm ?_)
        | (with_reducible refine wp_regK fun K hK => ?_
           simp[hw0, hw1, hw2, ht2, hw, hlt]
           repeat' (with_reducible first | refine hK _ ?_ | (refine psel ?_ ?_ <;> (intro hc; (try rw [Decidable.not_not] at hc); first | (try simp [hc, hw0, hw1, hw2, ht2, hw, hlt]))))
           all_goals (clear hK; clear K))
        | (with_reducible refine wp_condE ?_
           refine ⟨_, rfl, ?_, ?_⟩ <;> (intro hc; (try simp at hc); skip)))
      all_goals first | exact ⟨(pre ++ [mkVal k1 ⟨y_Ty, y_N, y_S⟩], rest, w3), by simp [mkVal, hv0, hv1, hv2], ⟨by simp [mkVal, hv0, hv1, hv2], hB2, hl2, hZ⟩, by simp⟩ | (exfalso; simp_all; done)

@[simp] theorem t181 (k0 : Bool) (l : List XVal) (k : Int) (h0 : 0 ≤ k) (hc : k + ctVals l ≤ 4611686018427387904) : Gw TT 181 [.one (.ro k0 (.sl 3 ((mkVals k l).map XVal.e))), vi k] = some (vi (k + ctVals l), []) := by
  refine Gw_of (F := pf181) rfl rfl ?_
  show Wp _ pb181 _ _
  unfold pb181
  generalize hM : mkVals k l = M
  have hlen := ctVals_len l
  repeat' (first
    | with_reducible (first | refine wp_seq ?_ | refine wp_blk ?_ | refine wp_skip ?_ | refine wp_exit ?_ | refine wp_ret ?_ | refine seqQ_norm ?_ | refine seqQ_ret ?_ | refine seqQ_exit ?_ | refine blkQ_norm ?_ | refine blkQ_ret ?_ | refine blkQ_exit ?_ | refine loopQ_norm ?_ | refine loopQ_exit ?_ | refine loopQ_ret ?_ | refine endQ_ret ?_ | refine endQ_norm ?_ | refine endE_ret ?_ | refine endE_norm ?_ | refine endI_ret ?_ | refine endI_norm ?_)
    | (with_reducible refine wp_regK fun K hK => ?_
       simp
       repeat' (with_reducible first | refine hK _ ?_ | (refine psel ?_ ?_ <;> (intro hc; (try rw [Decidable.not_not] at hc); first | (exfalso; omega) | (try simp [hc]))))
       all_goals (clear hK; clear K))
    | (with_reducible refine wp_condE ?_
       refine ⟨_, rfl, ?_, ?_⟩ <;> (intro hc; (try simp at hc); (all_goals first | (exfalso; omega) | skip))))
  · refine wp_loopI (σ := List XVal × List XVal × Int) (fun s => [(0, AV.v k0 (D.sl 3 (M.map XVal.e)), none), (1, AV.v false (di s.2.2), none), (5, AV.v false (di ((s.1.length : Nat) : Int)), none)]) (fun s => M = s.1 ++ mkVals s.2.2 s.2.1 ∧ s.2.2 + ctVals s.2.1 = k + ctVals l ∧ s.1.length + s.2.1.length = l.length ∧ 0 ≤ s.2.2) (fun s => s.2.1.length) ([], l, k) (by simp [hM]) ⟨hM.symm, rfl, by simp, h0⟩ ?_
    rintro ⟨pre, rest, k1⟩ ⟨h1, h2, h3, h4⟩
    simp only at h1 h2 h3 h4
    rcases rest with _ | ⟨⟨y_Ty, y_N, y_S⟩, rest⟩
    · unfold pl181_0
      simp only [mkVals, ctVals, List.append_nil, Int.add_zero] at h1 h2
      subst h1
      repeat' (first
        | with_reducible (first | refine wp_seq ?_ | refine wp_blk ?_ | refine wp_skip ?_ | refine wp_exit ?_ | refine wp_ret ?_ | refine seqQ_norm ?_ | refine seqQ_ret ?_ | refine seqQ_exit ?_ | refine blkQ_norm ?_ | refine blkQ_ret ?_ | refine blkQ_exit ?_ | refine loopQ_norm ?_ | refine loopQ_exit ?_ | refine loopQ_ret ?_ | refine endQ_ret ?_ | refine endQ_norm ?_ | refine endE_ret ?_ | refine endE_norm ?_ | refine endI_ret ?_ | refine endI_norm ?_)
        | (with_reducible refine wp_regK fun K hK => ?_
           simp
           repeat' (with_reducible first | refine hK _ ?_ | (refine psel ?_ ?_ <;> (intro hc; (try rw [Decidable.not_not] at hc); first | (exfalso; omega) | (try simp [hc]))))
           all_goals (clear hK; clear K))
        | (with_reducible refine wp_condE ?_
           refine ⟨_, rfl, ?_, ?_⟩ <;> (intro hc; (try simp at hc); (all_goals first | (exfalso; omega) | skip))))
      all_goals simp [pf181, h2]
    · unfold pl181_0
      simp only [mkVals, ctVals, mkVal, ctVal, List.length_cons] at h1 h2 h3
      have hnr := ctVals_nn rest
      have hw : IntKind.wrap .i64 ((pre.length : Int) + 1) = (pre.length : Int) + 1 := wrap_i64 (by omega) (by omega)
      have hlt : (pre.length : Int) < (pre.length : Int) + ((rest.length : Int) + 1) := by omega
      have hl2 : (pre ++ [mkVal k1 ⟨y_Ty, y_N, y_S⟩]).length + rest.length = l.length := by simp only [List.length_append, List.length_cons, List.length_nil]; omega
      have hB2 : k1 + (1 + 1 + 1) + ctVals rest = k + ctVals l := by omega
      obtain ⟨w1, w2, w3, hv0, hw0, hv1, hw1, hv2, hw2, ht2, hE, hZ⟩ := chainVal k1  h4  (by omega)
      rw [hE] at h1 hB2
      try simp only [← hv0, ← hv1, ← hv2] at h1
      subst h1
      repeat' (first
        | with_reducible (first | refine wp_seq ?_ | refine wp_blk ?_ | refine wp_skip ?_ | refine wp_exit ?_ | refine wp_ret ?_ | refine seqQ_norm ?_ | refine seqQ_ret ?_ | refine seqQ_exit ?_ | refine blkQ_norm ?_ | refine blkQ_ret ?_ | refine blkQ_exit ?_ | refine loopQ_norm ?_ | refine loopQ_exit ?_ | refine loopQ_ret ?_ | refine endQ_ret ?_ | refine endQ_norm ?_ | refine endE_ret ?_ | refine endE_norm ?_ | refine endI_ret ?_ | refine endI_norm ?_)
        | (with_reducible refine wp_regK fun K hK => ?_
           simp[hw0, hw1, hw2, ht2, hw, hlt]
           repeat' (with_reducible first | refine hK _ ?_ | (refine psel ?_ ?_ <;> (intro hc; (try rw [Decidable.not_not] at hc); first | (try simp [hc, hw0, hw1, hw2, ht2, hw, hlt]))))
           all_goals (clear hK; clear K))
        | (with_reducible refine wp_condE ?_
           refine ⟨_, rfl, ?_, ?_⟩ <;> (intro hc; (try simp at hc); skip)))
      all_goals first | exact ⟨(pre ++ [mkVal k1 ⟨y_Ty, y_N, y_S⟩], rest, w3), by simp [mkVal, hv0, hv1, hv2], ⟨by simp [mkVal, hv0, hv1, hv2], hB2, hl2, hZ⟩, by simp⟩ | (exfalso; simp_all; done)

@[simp] theorem t194 (l : List XSlot) (k : Int) (h0 : 0 ≤ k) (hc : k + ctSlots l ≤ 4611686018427387904) : Gw TT 194 [.one (.own (.sl 2 (l.map XSlot.e))), vi k] = some (vi (k + ctSlots l), [(0, 0, .own (.sl 2 ((mkSlots k l).map XSlot.e)))]) := by
  refine Gw_of (F := pf194) rfl rfl ?_
  show Wp _ pb194 _ _
  unfold pb194
  generalize hM : mkSlots k l = M
  have hlen := ctSlots_len l
  repeat' (first
    | with_reducible (first | refine wp_seq ?_ | refine wp_blk ?_ | refine wp_skip ?_ | refine wp_exit ?_ | refine wp_ret ?_ | refine seqQ_norm ?_ | refine seqQ_ret ?_ | refine seqQ_exit ?_ | refine blkQ_norm ?_ | refine blkQ_ret ?_ | refine blkQ_exit ?_ | refine loopQ_norm ?_ | refine loopQ_exit ?_ | refine loopQ_ret ?_ | refine endQ_ret ?_ | refine endQ_norm ?_ | refine endE_ret ?_ | refine endE_norm ?_ | refine endI_ret ?_ | refine endI_norm ?_)
    | (with_reducible refine wp_regK fun K hK => ?_
       simp
       repeat' (with_reducible first | refine hK _ ?_ | (refine psel ?_ ?_ <;> (intro hc; (try rw [Decidable.not_not] at hc); first | (exfalso; omega) | (try simp [hc]))))
       all_goals (clear hK; clear K))
    | (with_reducible refine wp_condE ?_
       refine ⟨_, rfl, ?_, ?_⟩ <;> (intro hc; (try simp at hc); (all_goals first | (exfalso; omega) | skip))))
  · refine wp_loopI (σ := List XSlot × List XSlot × Int) (fun s => [(0, AV.pl 0 0 [], some (Rt.vir [C.own (D.sl 2 (s.1.map XSlot.e ++ s.2.1.map XSlot.e))])), (1, AV.v false (di s.2.2), none), (5, AV.v false (di ((s.1.length : Nat) : Int)), none)]) (fun s => M = s.1 ++ mkSlots s.2.2 s.2.1 ∧ s.2.2 + ctSlots s.2.1 = k + ctSlots l ∧ s.1.length + s.2.1.length = l.length ∧ 0 ≤ s.2.2) (fun s => s.2.1.length) ([], l, k) (by simp) ⟨hM.symm, rfl, by simp, h0⟩ ?_
    rintro ⟨pre, rest, k1⟩ ⟨h1, h2, h3, h4⟩
    simp only at h1 h2 h3 h4
    rcases rest with _ | ⟨⟨y_Ins, y_L⟩, rest⟩
    · unfold pl194_0
      simp only [mkSlots, ctSlots, List.append_nil, Int.add_zero] at h1 h2
      subst h1
      repeat' (first
        | with_reducible (first | refine wp_seq ?_ | refine wp_blk ?_ | refine wp_skip ?_ | refine wp_exit ?_ | refine wp_ret ?_ | refine seqQ_norm ?_ | refine seqQ_ret ?_ | refine seqQ_exit ?_ | refine blkQ_norm ?_ | refine blkQ_ret ?_ | refine blkQ_exit ?_ | refine loopQ_norm ?_ | refine loopQ_exit ?_ | refine loopQ_ret ?_ | refine endQ_ret ?_ | refine endQ_norm ?_ | refine endE_ret ?_ | refine endE_norm ?_ | refine endI_ret ?_ | refine endI_norm ?_)
        | (with_reducible refine wp_regK fun K hK => ?_
           simp
           repeat' (with_reducible first | refine hK _ ?_ | (refine psel ?_ ?_ <;> (intro hc; (try rw [Decidable.not_not] at hc); first | (exfalso; omega) | (try simp [hc]))))
           all_goals (clear hK; clear K))
        | (with_reducible refine wp_condE ?_
           refine ⟨_, rfl, ?_, ?_⟩ <;> (intro hc; (try simp at hc); (all_goals first | (exfalso; omega) | skip))))
      all_goals simp [pf194, h2]
    · unfold pl194_0
      simp only [mkSlots, ctSlots, mkSlot, ctSlot, List.length_cons] at h1 h2 h3
      have hnr := ctSlots_nn rest
      have hw : IntKind.wrap .i64 ((pre.length : Int) + 1) = (pre.length : Int) + 1 := wrap_i64 (by omega) (by omega)
      have hlt : (pre.length : Int) < (pre.length : Int) + ((rest.length : Int) + 1) := by omega
      have hl2 : (pre ++ [mkSlot k1 ⟨y_Ins, y_L⟩]).length + rest.length = l.length := by simp only [List.length_append, List.length_cons, List.length_nil]; omega
      have hB2 : k1 + (1 + ctVals y_L) + ctSlots rest = k + ctSlots l := by omega
      obtain ⟨w1, w2, hv0, hw0, hv1, hz1, hy1, hg1, hE, hZ⟩ := chainSlot k1 (ctVals y_L) h4 (ctVals_nn y_L) (by omega)
      rw [hE] at h1 hB2
      try simp only [← hv0, ← hv1] at h1
      subst h1
      repeat' (first
        | with_reducible (first | refine wp_seq ?_ | refine wp_blk ?_ | refine wp_skip ?_ | refine wp_exit ?_ | refine wp_ret ?_ | refine seqQ_norm ?_ | refine seqQ_ret ?_ | refine seqQ_exit ?_ | refine blkQ_norm ?_ | refine blkQ_ret ?_ | refine blkQ_exit ?_ | refine loopQ_norm ?_ | refine loopQ_exit ?_ | refine loopQ_ret ?_ | refine endQ_ret ?_ | refine endQ_norm ?_ | refine endE_ret ?_ | refine endE_norm ?_ | refine endI_ret ?_ | refine endI_norm ?_)
        | (with_reducible refine wp_regK fun K hK => ?_
           simp[hw0, hz1, hy1, hg1, ← hv1, hw, hlt]
           repeat' (with_reducible first | refine hK _ ?_ | (refine psel ?_ ?_ <;> (intro hc; (try rw [Decidable.not_not] at hc); first | (try simp [hc, hw0, hz1, hy1, hg1, ← hv1, hw, hlt]))))
           all_goals (clear hK; clear K))
        | (with_reducible refine wp_condE ?_
           refine ⟨_, rfl, ?_, ?_⟩ <;> (intro hc; (try simp at hc); skip)))
      all_goals first | exact ⟨(pre ++ [mkSlot k1 ⟨y_Ins, y_L⟩], rest, w2), by simp [mkSlot, hv0, hv1], ⟨by simp [mkSlot, hv0, hv1], hB2, hl2, hZ⟩, by simp⟩ | (exfalso; simp_all; done)

@[simp] theorem t179 (k0 : Bool) (l : List XSlot) (k : Int) (h0 : 0 ≤ k) (hc : k + ctSlots l ≤ 4611686018427387904) : Gw TT 179 [.one (.ro k0 (.sl 2 ((mkSlots k l).map XSlot.e))), vi k] = some (vi (k + ctSlots l), []) := by
  refine Gw_of (F := pf179) rfl rfl ?_
  show Wp _ pb179 _ _
  unfold pb179
  generalize hM : mkSlots k l = M
  have hlen := ctSlots_len l
  repeat' (first
    | with_reducible (first | refine wp_seq ?_ | refine wp_blk ?_ | refine wp_skip ?_ | refine wp_exit ?_ | refine wp_ret ?_ | refine seqQ_norm ?_ | refine seqQ_ret ?_ | refine seqQ_exit ?_ | refine blkQ_norm ?_ | refine blkQ_ret ?_ | refine blkQ_exit ?_ | refine loopQ_norm ?_ | refine loopQ_exit ?_ | refine loopQ_ret ?_ | refine endQ_ret ?_ | refine endQ_norm ?_ | refine endE_ret ?_ | refine endE_norm ?_ | refine endI_ret ?_ | refine endI_norm ?_)
    | (with_reducible refine wp_regK fun K hK => ?_
       simp
       repeat' (with_reducible first | refine hK _ ?_ | (refine psel ?_ ?_ <;> (intro hc; (try rw [Decidable.not_not] at hc); first | (exfalso; omega) | (try simp [hc]))))
       all_goals (clear hK; clear K))
    | (with_reducible refine wp_condE ?_
       refine ⟨_, rfl, ?_, ?_⟩ <;> (intro hc; (try simp at hc); (all_goals first | (exfalso; omega) | skip))))
  · refine wp_loopI (σ := List XSlot × List XSlot × Int) (fun s => [(0, AV.v k0 (D.sl 2 (M.map XSlot.e)), none), (1, AV.v false (di s.2.2), none), (5, AV.v false (di ((s.1.length : Nat) : Int)), none)]) (fun s => M = s.1 ++ mkSlots s.2.2 s.2.1 ∧ s.2.2 + ctSlots s.2.1 = k + ctSlots l ∧ s.1.length + s.2.1.length = l.length ∧ 0 ≤ s.2.2) (fun s => s.2.1.length) ([], l, k) (by simp [hM]) ⟨hM.symm, rfl, by simp, h0⟩ ?_
    rintro ⟨pre, rest, k1⟩ ⟨h1, h2, h3, h4⟩
    simp only at h1 h2 h3 h4
    rcases rest with _ | ⟨⟨y_Ins, y_L⟩, rest⟩
    · unfold pl179_0
      simp only [mkSlots, ctSlots, List.append_nil, Int.add_zero] at h1 h2
      subst h1
      repeat' (first
        | with_reducible (first | refine wp_seq ?_ | refine wp_blk ?_ | refine wp_skip ?_ | refine wp_exit ?_ | refine wp_ret ?_ | refine seqQ_norm ?_ | refine seqQ_ret ?_ | refine seqQ_exit ?_ | refine blkQ_norm ?_ | refine blkQ_ret ?_ | refine blkQ_exit ?_ | refine loopQ_norm ?_ | refine loopQ_exit ?_ | refine loopQ_ret ?_ | refine endQ_ret ?_ | refine endQ_norm ?_ | refine endE_ret ?_ | refine endE_norm ?_ | refine endI_ret ?_ | refine endI_norm ?_)
        | (with_reducible refine wp_regK fun K hK => ?_
           simp
           repeat' (with_reducible first | refine hK _ ?_ | (refine psel ?_ ?_ <;> (intro hc; (try rw [Decidable.not_not] at hc); first | (exfalso; omega) | (try simp [hc]))))
           all_goals (clear hK; clear K))
        | (with_reducible refine wp_condE ?_
           refine ⟨_, rfl, ?_, ?_⟩ <;> (intro hc; (try simp at hc); (all_goals first | (exfalso; omega) | skip))))
      all_goals simp [pf179, h2]
    · unfold pl179_0
      simp only [mkSlots, ctSlots, mkSlot, ctSlot, List.length_cons] at h1 h2 h3
      have hnr := ctSlots_nn rest
      have hw : IntKind.wrap .i64 ((pre.length : Int) + 1) = (pre.length : Int) + 1 := wrap_i64 (by omega) (by omega)
      have hlt : (pre.length : Int) < (pre.length : Int) + ((rest.length : Int) + 1) := by omega
      have hl2 : (pre ++ [mkSlot k1 ⟨y_Ins, y_L⟩]).length + rest.length = l.length := by simp only [List.length_append, List.length_cons, List.length_nil]; omega
      have hB2 : k1 + (1 + ctVals y_L) + ctSlots rest = k + ctSlots l := by omega
      obtain ⟨w1, w2, hv0, hw0, hv1, hz1, hy1, hg1, hE, hZ⟩ := chainSlot k1 (ctVals y_L) h4 (ctVals_nn y_L) (by omega)
      rw [hE] at h1 hB2
      try simp only [← hv0, ← hv1] at h1
      subst h1
      repeat' (first
        | with_reducible (first | refine wp_seq ?_ | refine wp_blk ?_ | refine wp_skip ?_ | refine wp_exit ?_ | refine wp_ret ?_ | refine seqQ_norm ?_ | refine seqQ_ret ?_ | refine seqQ_exit ?_ | refine blkQ_norm ?_ | refine blkQ_ret ?_ | refine blkQ_exit ?_ | refine loopQ_norm ?_ | refine loopQ_exit ?_ | refine loopQ_ret ?_ | refine endQ_ret ?_ | refine endQ_norm ?_ | refine endE_ret ?_ | refine endE_norm ?_ | refine endI_ret ?_ | refine endI_norm ?_)
        | (with_reducible refine wp_regK fun K hK => ?_
           simp[hw0, hz1, hy1, hg1, ← hv1, hw, hlt]
           repeat' (with_reducible first | refine hK _ ?_ | (refine psel ?_ ?_ <;> (intro hc; (try rw [Decidable.not_not] at hc); first | (try simp [hc, hw0, hz1, hy1, hg1, ← hv1, hw, hlt]))))
           all_goals (clear hK; clear K))
        | (with_reducible refine wp_condE ?_
           refine ⟨_, rfl, ?_, ?_⟩ <;> (intro hc; (try simp at hc); skip)))
      all_goals first | exact ⟨(pre ++ [mkSlot k1 ⟨y_Ins, y_L⟩], rest, w2), by simp [mkSlot, hv0, hv1], ⟨by simp [mkSlot, hv0, hv1], hB2, hl2, hZ⟩, by simp⟩ | (exfalso; simp_all; done)

@[simp] theorem t183 (l : List XBuf) (k : Int) (h0 : 0 ≤ k) (hc : k + ctBufs l ≤ 4611686018427387904) : Gw TT 183 [.one (.own (.sl 5 (l.map XBuf.e))), vi k] = some (vi (k + ctBufs l), [(0, 0, .own (.sl 5 ((mkBufs k l).map XBuf.e)))]) := by
  refine Gw_of (F := pf183) rfl rfl ?_
  show Wp _ pb183 _ _
  unfold pb183
  generalize hM : mkBufs k l = M
  have hlen := ctBufs_len l
  repeat' (first
    | with_reducible (first | refine wp_seq ?_ | refine wp_blk ?_ | refine wp_skip ?_ | refine wp_exit ?_ | refine wp_ret ?_ | refine seqQ_norm ?_ | refine seqQ_ret ?_ | refine seqQ_exit ?_ | refine blkQ_norm ?_ | refine blkQ_ret ?_ | refine blkQ_exit ?_ | refine loopQ_norm ?_ | refine loopQ_exit ?_ | refine loopQ_ret ?_ | refine endQ_ret ?_ | refine endQ_norm ?_ | refine endE_ret ?_ | refine endE_norm ?_ | refine endI_ret ?_ | refine endI_norm ?_)
    | (with_reducible refine wp_regK fun K hK => ?_
       simp
       repeat' (with_reducible first | refine hK _ ?_ | (refine psel ?_ ?_ <;> (intro hc; (try rw [Decidable.not_not] at hc); first | (exfalso; omega) | (try simp [hc]))))
       all_goals (clear hK; clear K))
    | (with_reducible refine wp_condE ?_
       refine ⟨_, rfl, ?_, ?_⟩ <;> (intro hc; (try simp at hc); (all_goals first | (exfalso; omega) | skip))))
  · refine wp_loopI (σ := List XBuf × List XBuf × Int) (fun s => [(0, AV.pl 0 0 [], some (Rt.vir [C.own (D.sl 5 (s.1.map XBuf.e ++ s.2.1.map XBuf.e))])), (1, AV.v false (di s.2.2), none), (5, AV.v false (di ((s.1.length : Nat) : Int)), none)]) (fun s => M = s.1 ++ mkBufs s.2.2 s.2.1 ∧ s.2.2 + ctBufs s.2.1 = k + ctBufs l ∧ s.1.length + s.2.1.length = l.length ∧ 0 ≤ s.2.2) (fun s => s.2.1.length) ([], l, k) (by simp) ⟨hM.symm, rfl, by simp, h0⟩ ?_
    rintro ⟨pre, rest, k1⟩ ⟨h1, h2, h3, h4⟩
    simp only at h1 h2 h3 h4
    rcases rest with _ | ⟨⟨y_Gen, y_Kind, ⟨y_C_Next, y_C_L⟩, y_G⟩, rest⟩
    · unfold pl183_0
      simp only [mkBufs, ctBufs, List.append_nil, Int.add_zero] at h1 h2
      subst h1
      repeat' (first
        | with_reducible (first | refine wp_seq ?_ | refine wp_blk ?_ | refine wp_skip ?_ | refine wp_exit ?_ | refine wp_ret ?_ | refine seqQ_norm ?_ | refine seqQ_ret ?_ | refine seqQ_exit ?_ | refine blkQ_norm ?_ | refine blkQ_ret ?_ | refine blkQ_exit ?_ | refine loopQ_norm ?_ | refine loopQ_exit ?_ | refine loopQ_ret ?_ | refine endQ_ret ?_ | refine endQ_norm ?_ | refine endE_ret ?_ | refine endE_norm ?_ | refine endI_ret ?_ | refine endI_norm ?_)
        | (with_reducible refine wp_regK fun K hK => ?_
           simp
           repeat' (with_reducible first | refine hK _ ?_ | (refine psel ?_ ?_ <;> (intro hc; (try rw [Decidable.not_not] at hc); first | (exfalso; omega) | (try simp [hc]))))
           all_goals (clear hK; clear K))
        | (with_reducible refine wp_condE ?_
           refine ⟨_, rfl, ?_, ?_⟩ <;> (intro hc; (try simp at hc); (all_goals first | (exfalso; omega) | skip))))
      all_goals simp [pf183, h2]
    · unfold pl183_0
      simp only [mkBufs, ctBufs, mkBuf, ctBuf, List.length_cons] at h1 h2 h3
      have hnr := ctBufs_nn rest
      have hw : IntKind.wrap .i64 ((pre.length : Int) + 1) = (pre.length : Int) + 1 := wrap_i64 (by omega) (by omega)
      have hlt : (pre.length : Int) < (pre.length : Int) + ((rest.length : Int) + 1) := by omega
      have hl2 : (pre ++ [mkBuf k1 ⟨y_Gen, y_Kind, ⟨y_C_Next, y_C_L⟩, y_G⟩]).length + rest.length = l.length := by simp only [List.length_append, List.length_cons, List.length_nil]; omega
      have hB2 : k1 + (1 + 1 + 1 + ctSlots y_C_L + ctBytes y_G) + ctBufs rest = k + ctBufs l := by omega
      obtain ⟨w1, w2, w3, w4, w5, hv0, hw0, hv1, hw1, hv2, hw2, hv3, hz3, hy3, hg3, hv4, hz4, hy4, hg4, hE, hZ⟩ := chainBuf k1 (ctSlots y_C_L) (ctBytes y_G) h4 (ctSlots_nn y_C_L) (ctBytes_nn y_G) (by omega)
      rw [hE] at h1 hB2
      try simp only [← hv0, ← hv1, ← hv2, ← hv3, ← hv4] at h1
      subst h1
      repeat' (first
        | with_reducible (first | refine wp_seq ?_ | refine wp_blk ?_ | refine wp_skip ?_ | refine wp_exit ?_ | refine wp_ret ?_ | refine seqQ_norm ?_ | refine seqQ_ret ?_ | refine seqQ_exit ?_ | refine blkQ_norm ?_ | refine blkQ_ret ?_ | refine blkQ_exit ?_ | refine loopQ_norm ?_ | refine loopQ_exit ?_ | refine loopQ_ret ?_ | refine endQ_ret ?_ | refine endQ_norm ?_ | refine endE_ret ?_ | refine endE_norm ?_ | refine endI_ret ?_ | refine endI_norm ?_)
        | (with_reducible refine wp_regK fun K hK => ?_
           simp[hw0, hw1, hw2, hz3, hy3, hg3, ← hv3, hz4, hy4, hg4, ← hv4, hw, hlt]
           repeat' (with_reducible first | refine hK _ ?_ | (refine psel ?_ ?_ <;> (intro hc; (try rw [Decidable.not_not] at hc); first | (try simp [hc, hw0, hw1, hw2, hz3, hy3, hg3, ← hv3, hz4, hy4, hg4, ← hv4, hw, hlt]))))
           all_goals (clear hK; clear K))
        | (with_reducible refine wp_condE ?_
           refine ⟨_, rfl, ?_, ?_⟩ <;> (intro hc; (try simp at hc); skip)))
      all_goals first | exact ⟨(pre ++ [mkBuf k1 ⟨y_Gen, y_Kind, ⟨y_C_Next, y_C_L⟩, y_G⟩], rest, w5), by simp [mkBuf, hv0, hv1, hv2, hv3, hv4], ⟨by simp [mkBuf, hv0, hv1, hv2, hv3, hv4], hB2, hl2, hZ⟩, by simp⟩ | (exfalso; simp_all; done)

@[simp] theorem t168 (k0 : Bool) (l : List XBuf) (k : Int) (h0 : 0 ≤ k) (hc : k + ctBufs l ≤ 4611686018427387904) : Gw TT 168 [.one (.ro k0 (.sl 5 ((mkBufs k l).map XBuf.e))), vi k] = some (vi (k + ctBufs l), []) := by
  refine Gw_of (F := pf168) rfl rfl ?_
  show Wp _ pb168 _ _
  unfold pb168
  generalize hM : mkBufs k l = M
  have hlen := ctBufs_len l
  repeat' (first
    | with_reducible (first | refine wp_seq ?_ | refine wp_blk ?_ | refine wp_skip ?_ | refine wp_exit ?_ | refine wp_ret ?_ | refine seqQ_norm ?_ | refine seqQ_ret ?_ | refine seqQ_exit ?_ | refine blkQ_norm ?_ | refine blkQ_ret ?_ | refine blkQ_exit ?_ | refine loopQ_norm ?_ | refine loopQ_exit ?_ | refine loopQ_ret ?_ | refine endQ_ret ?_ | refine endQ_norm ?_ | refine endE_ret ?_ | refine endE_norm ?_ | refine endI_ret ?_ | refine endI_norm ?_)
    | (with_reducible refine wp_regK fun K hK => ?_
       simp
       repeat' (with_reducible first | refine hK _ ?_ | (refine psel ?_ ?_ <;> (intro hc; (try rw [Decidable.not_not] at hc); first | (exfalso; omega) | (try simp [hc]))))
       all_goals (clear hK; clear K))
    | (with_reducible refine wp_condE ?_
       refine ⟨_, rfl, ?_, ?_⟩ <;> (intro hc; (try simp at hc); (all_goals first | (exfalso; omega) | skip))))
  · refine wp_loopI (σ := List XBuf × List XBuf × Int) (fun s => [(0, AV.v k0 (D.sl 5 (M.map XBuf.e)), none), (1, AV.v false (di s.2.2), none), (5, AV.v false (di ((s.1.length : Nat) : Int)), none)]) (fun s => M = s.1 ++ mkBufs s.2.2 s.2.1 ∧ s.2.2 + ctBufs s.2.1 = k + ctBufs l ∧ s.1.length + s.2.1.length = l.length ∧ 0 ≤ s.2.2) (fun s => s.2.1.length) ([], l, k) (by simp [hM]) ⟨hM.symm, rfl, by simp, h0⟩ ?_
    rintro ⟨pre, rest, k1⟩ ⟨h1, h2, h3, h4⟩
    simp only at h1 h2 h3 h4
    rcases rest with _ | ⟨⟨y_Gen, y_Kind, ⟨y_C_Next, y_C_L⟩, y_G⟩, rest⟩
    · unfold pl168_0
      simp only [mkBufs, ctBufs, List.append_nil, Int.add_zero] at h1 h2
      subst h1
      repeat' (first
        | with_reducible (first | refine wp_seq ?_ | refine wp_blk ?_ | refine wp_skip ?_ | refine wp_exit ?_ | refine wp_ret ?_ | refine seqQ_norm ?_ | refine seqQ_ret ?_ | refine seqQ_exit ?_ | refine blkQ_norm ?_ | refine blkQ_ret ?_ | refine blkQ_exit ?_ | refine loopQ_norm ?_ | refine loopQ_exit ?_ | refine loopQ_ret ?_ | refine endQ_ret ?_ | refine endQ_norm ?_ | refine endE_ret ?_ | refine endE_norm ?_ | refine endI_ret ?_ | refine endI_norm ?_)
        | (with_reducible refine wp_regK fun K hK => ?_
           simp
           repeat' (with_reducible first | refine hK _ ?_ | (refine psel ?_ ?_ <;> (intro hc; (try rw [Decidable.not_not] at hc); first | (exfalso; omega) | (try simp [hc]))))
           all_goals (clear hK; clear K))
        | (with_reducible refine wp_condE ?_
           refine ⟨_, rfl, ?_, ?_⟩ <;> (intro hc; (try simp at hc); (all_goals first | (exfalso; omega) | skip))))
      all_goals simp [pf168, h2]
    · unfold pl168_0
      simp only [mkBufs, ctBufs, mkBuf, ctBuf, List.length_cons] at h1 h2 h3
      have hnr := ctBufs_nn rest
      have hw : IntKind.wrap .i64 ((pre.length : Int) + 1) = (pre.length : Int) + 1 := wrap_i64 (by omega) (by omega)
      have hlt : (pre.length : Int) < (pre.length : Int) + ((rest.length : Int) + 1) := by omega
      have hl2 : (pre ++ [mkBuf k1 ⟨y_Gen, y_Kind, ⟨y_C_Next, y_C_L⟩, y_G⟩]).length + rest.length = l.length := by simp only [List.length_append, List.length_cons, List.length_nil]; omega
      have hB2 : k1 + (1 + 1 + 1 + ctSlots y_C_L + ctBytes y_G) + ctBufs rest = k + ctBufs l := by omega
      obtain ⟨w1, w2, w3, w4, w5, hv0, hw0, hv1, hw1, hv2, hw2, hv3, hz3, hy3, hg3, hv4, hz4, hy4, hg4, hE, hZ⟩ := chainBuf k1 (ctSlots y_C_L) (ctBytes y_G) h4 (ctSlots_nn y_C_L) (ctBytes_nn y_G) (by omega)
      rw [hE] at h1 hB2
      try simp only [← hv0, ← hv1, ← hv2, ← hv3, ← hv4] at h1
      subst h1
      repeat' (first
        | with_reducible (first | refine wp_seq ?_ | refine wp_blk ?_ | refine wp_skip ?_ | refine wp_exit ?_ | refine wp_ret ?_ | refine seqQ_norm ?_ | refine seqQ_ret ?_ | refine seqQ_exit ?_ | refine blkQ_norm ?_ | refine blkQ_ret ?_ | refine blkQ_exit ?_ | refine loopQ_norm ?_ | refine loopQ_exit ?_ | refine loopQ_ret ?_ | refine endQ_ret ?_ | refine endQ_norm ?_ | refine endE_ret ?_ | refine endE_norm ?_ | refine endI_ret ?_ | refine endI_norm ?_)
        | (with_reducible refine wp_regK fun K hK => ?_
           simp[hw0, hw1, hw2, hz3, hy3, hg3, ← hv3, hz4, hy4, hg4, ← hv4, hw, hlt]
           repeat' (with_reducible first | refine hK _ ?_ | (refine psel ?_ ?_ <;> (intro hc; (try rw [Decidable.not_not] at hc); first | (try simp [hc, hw0, hw1, hw2, hz3, hy3, hg3, ← hv3, hz4, hy4, hg4, ← hv4, hw, hlt]))))
           all_goals (clear hK; clear K))
        | (with_reducible refine wp_condE ?_
           refine ⟨_, rfl, ?_, ?_⟩ <;> (intro hc; (try simp at hc); skip)))
      all_goals first | exact ⟨(pre ++ [mkBuf k1 ⟨y_Gen, y_Kind, ⟨y_C_Next, y_C_L⟩, y_G⟩], rest, w5), by simp [mkBuf, hv0, hv1, hv2, hv3, hv4], ⟨by simp [mkBuf, hv0, hv1, hv2, hv3, hv4], hB2, hl2, hZ⟩, by simp⟩ | (exfalso; simp_all; done)

@[simp] theorem t193 (l : List XRow) (k : Int) (h0 : 0 ≤ k) (hc : k + ctRows l ≤ 4611686018427387904) : Gw TT 193 [.one (.own (.sl 2 (l.map XRow.e))), vi k] = some (vi (k + ctRows l), [(0, 0, .own (.sl 2 ((mkRows k l).map XRow.e)))]) := by
  refine Gw_of (F := pf193) rfl rfl ?_
  show Wp _ pb193 _ _
  unfold pb193
  generalize hM : mkRows k l = M
  have hlen := ctRows_len l
  repeat' (first
    | with_reducible (first | refine wp_seq ?_ | refine wp_blk ?_ | refine wp_skip ?_ | refine wp_exit ?_ | refine wp_ret ?_ | refine seqQ_norm ?_ | refine seqQ_ret ?_ | refine seqQ_exit ?_ | refine blkQ_norm ?_ | refine blkQ_ret ?_ | refine blkQ_exit ?_ | refine loopQ_norm ?_ | refine loopQ_exit ?_ | refine loopQ_ret ?_ | refine endQ_ret ?_ | refine endQ_norm ?_ | refine endE_ret ?_ | refine endE_norm ?_ | refine endI_ret ?_ | refine endI_norm ?_)
    | (with_reducible refine wp_regK fun K hK => ?_
       simp
       repeat' (with_reducible first | refine hK _ ?_ | (refine psel ?_ ?_ <;> (intro hc; (try rw [Decidable.not_not] at hc); first | (exfalso; omega) | (try simp [hc]))))
       all_goals (clear hK; clear K))
    | (with_reducible refine wp_condE ?_
       refine ⟨_, rfl, ?_, ?_⟩ <;> (intro hc; (try simp at hc); (all_goals first | (exfalso; omega) | skip))))
  · refine wp_loopI (σ := List XRow × List XRow × Int) (fun s => [(0, AV.pl 0 0 [], some (Rt.vir [C.own (D.sl 2 (s.1.map XRow.e ++ s.2.1.map XRow.e))])), (1, AV.v false (di s.2.2), none), (5, AV.v false (di ((s.1.length : Nat) : Int)), none)]) (fun s => M = s.1 ++ mkRows s.2.2 s.2.1 ∧ s.2.2 + ctRows s.2.1 = k + ctRows l ∧ s.1.length + s.2.1.length = l.length ∧ 0 ≤ s.2.2) (fun s => s.2.1.length) ([], l, k) (by simp) ⟨hM.symm, rfl, by simp, h0⟩ ?_
    rintro ⟨pre, rest, k1⟩ ⟨h1, h2, h3, h4⟩
    simp only at h1 h2 h3 h4
    rcases rest with _ | ⟨⟨y_Id, y_L⟩, rest⟩
    · unfold pl193_0
      simp only [mkRows, ctRows, List.append_nil, Int.add_zero] at h1 h2
      subst h1
      repeat' (first
        | with_reducible (first | refine wp_seq ?_ | refine wp_blk ?_ | refine wp_skip ?_ | refine wp_exit ?_ | refine wp_ret ?_ | refine seqQ_norm ?_ | refine seqQ_ret ?_ | refine seqQ_exit ?_ | refine blkQ_norm ?_ | refine blkQ_ret ?_ | refine blkQ_exit ?_ | refine loopQ_norm ?_ | refine loopQ_exit ?_ | refine loopQ_ret ?_ | refine endQ_ret ?_ | refine endQ_norm ?_ | refine endE_ret ?_ | refine endE_norm ?_ | refine endI_ret ?_ | refine endI_norm ?_)
        | (with_reducible refine wp_regK fun K hK => ?_
           simp
           repeat' (with_reducible first | refine hK _ ?_ | (refine psel ?_ ?_ <;> (intro hc; (try rw [Decidable.not_not] at hc); first | (exfalso; omega) | (try simp [hc]))))
           all_goals (clear hK; clear K))
        | (with_reducible refine wp_condE ?_
           refine ⟨_, rfl, ?_, ?_⟩ <;> (intro hc; (try simp at hc); (all_goals first | (exfalso; omega) | skip))))
      all_goals simp [pf193, h2]
    · unfold pl193_0
      simp only [mkRows, ctRows, mkRow, ctRow, List.length_cons] at h1 h2 h3
      have hnr := ctRows_nn rest
      have hw : IntKind.wrap .i64 ((pre.length : Int) + 1) = (pre.length : Int) + 1 := wrap_i64 (by omega) (by omega)
      have hlt : (pre.length : Int) < (pre.length : Int) + ((rest.length : Int) + 1) := by omega
      have hl2 : (pre ++ [mkRow k1 ⟨y_Id, y_L⟩]).length + rest.length = l.length := by simp only [List.length_append, List.length_cons, List.length_nil]; omega
      have hB2 : k1 + (1 + ctVals y_L) + ctRows rest = k + ctRows l := by omega
      obtain ⟨w1, w2, hv0, hw0, hv1, hz1, hy1, hg1, hE, hZ⟩ := chainRow k1 (ctVals y_L) h4 (ctVals_nn y_L) (by omega)
      rw [hE] at h1 hB2
      try simp only [← hv0, ← hv1] at h1
      subst h1
      repeat' (first
        | with_reducible (first | refine wp_seq ?_ | refine wp_blk ?_ | refine wp_skip ?_ | refine wp_exit ?_ | refine wp_ret ?_ | refine seqQ_norm ?_ | refine seqQ_ret ?_ | refine seqQ_exit ?_ | refine blkQ_norm ?_ | refine blkQ_ret ?_ | refine blkQ_exit ?_ | refine loopQ_norm ?_ | refine loopQ_exit ?_ | refine loopQ_ret ?_ | refine endQ_ret ?_ | refine endQ_norm ?_ | refine endE_ret ?_ | refine endE_norm ?_ | refine endI_ret ?_ | refine endI_norm ?_)
        | (with_reducible refine wp_regK fun K hK => ?_
           simp[hw0, hz1, hy1, hg1, ← hv1, hw, hlt]
           repeat' (with_reducible first | refine hK _ ?_ | (refine psel ?_ ?_ <;> (intro hc; (try rw [Decidable.not_not] at hc); first | (try simp [hc, hw0, hz1, hy1, hg1, ← hv1, hw, hlt]))))
           all_goals (clear hK; clear K))
        | (with_reducible refine wp_condE ?_
           refine ⟨_, rfl, ?_, ?_⟩ <;> (intro hc; (try simp at hc); skip)))
      all_goals first | exact ⟨(pre ++ [mkRow k1 ⟨y_Id, y_L⟩], rest, w2), by simp [mkRow, hv0, hv1], ⟨by simp [mkRow, hv0, hv1], hB2, hl2, hZ⟩, by simp⟩ | (exfalso; simp_all; done)

@[simp] theorem t178 (k0 : Bool) (l : List XRow) (k : Int) (h0 : 0 ≤ k) (hc : k + ctRows l ≤ 4611686018427387904) : Gw TT 178 [.one (.ro k0 (.sl 2 ((mkRows k l).map XRow.e))), vi k] = some (vi (k + ctRows l), []) := by
  refine Gw_of (F := pf178) rfl rfl ?_
  show Wp _ pb178 _ _
  unfold pb178
  generalize hM : mkRows k l = M
  have hlen := ctRows_len l
  repeat' (first
    | with_reducible (first | refine wp_seq ?_ | refine wp_blk ?_ | refine wp_skip ?_ | refine wp_exit ?_ | refine wp_ret ?_ | refine seqQ_norm ?_ | refine seqQ_ret ?_ | refine seqQ_exit ?_ | refine blkQ_norm ?_ | refine blkQ_ret ?_ | refine blkQ_exit ?_ | refine loopQ_norm ?_ | refine loopQ_exit ?_ | refine loopQ_ret ?_ | refine endQ_ret ?_ | refine endQ_norm ?_ | refine endE_ret ?_ | refine endE_norm ?_ | refine endI_ret ?_ | refine endI_norm ?_)
    | (with_reducible refine wp_regK fun K hK => ?_
       simp
       repeat' (with_reducible first | refine hK _ ?_ | (refine psel ?_ ?_ <;> (intro hc; (try rw [Decidable.not_not] at hc); first | (exfalso; omega) | (try simp [hc]))))
       all_goals (clear hK; clear K))
    | (with_reducible refine wp_condE ?_
       refine ⟨_, rfl, ?_, ?_⟩ <;> (intro hc; (try simp at hc); (all_goals first | (exfalso; omega) | skip))))
  · refine wp_loopI (σ := List XRow × List XRow × Int) (fun s => [(0, AV.v k0 (D.sl 2 (M.map XRow.e)), none), (1, AV.v false (di s.2.2), none), (5, AV.v false (di ((s.1.length : Nat) : Int)), none)]) (fun s => M = s.1 ++ mkRows s.2.2 s.2.1 ∧ s.2.2 + ctRows s.2.1 = k + ctRows l ∧ s.1.length + s.2.1.length = l.length ∧ 0 ≤ s.2.2) (fun s => s.2.1.length) ([], l, k) (by simp [hM]) ⟨hM.symm, rfl, by simp, h0⟩ ?_
    rintro ⟨pre, rest, k1⟩ ⟨h1, h2, h3, h4⟩
    simp only at h1 h2 h3 h4
    rcases rest with _ | ⟨⟨y_Id, y_L⟩, rest⟩
    · unfold pl178_0
      simp only [mkRows, ctRows, List.append_nil, Int.add_zero] at h1 h2
      subst h1
      repeat' (first
        | with_reducible (first | refine wp_seq ?_ | refine wp_blk ?_ | refine wp_skip ?_ | refine wp_exit ?_ | refine wp_ret ?_ | refine seqQ_norm ?_ | refine seqQ_ret ?_ | refine seqQ_exit ?_ | refine blkQ_norm ?_ | refine blkQ_ret ?_ | refine blkQ_exit ?_ | refine loopQ_norm ?_ | refine loopQ_exit ?_ | refine loopQ_ret ?_ | refine endQ_ret ?_ | refine endQ_norm ?_ | refine endE_ret ?_ | refine endE_norm ?_ | refine endI_ret ?_ | refine endI_norm ?_)
        | (with_reducible refine wp_regK fun K hK => ?_
           simp
           repeat' (with_reducible first | refine hK _ ?_ | (refine psel ?_ ?_ <;> (intro hc; (try rw [Decidable.not_not] at hc); first | (exfalso; omega) | (try simp [hc]))))
           all_goals (clear hK; clear K))
        | (with_reducible refine wp_condE ?_
           refine ⟨_, rfl, ?_, ?_⟩ <;> (intro hc; (try simp at hc); (all_goals first | (exfalso; omega) | skip))))
      all_goals simp [pf178, h2]
    · unfold pl178_0
      simp only [mkRows, ctRows, mkRow, ctRow, List.length_cons] at h1 h2 h3
      have hnr := ctRows_nn rest
      have hw : IntKind.wrap .i64 ((pre.length : Int) + 1) = (pre.length : Int) + 1 := wrap_i64 (by omega) (by omega)
      have hlt : (pre.length : Int) < (pre.length : Int) + ((rest.length : Int) + 1) := by omega
      have hl2 : (pre ++ [mkRow k1 ⟨y_Id, y_L⟩]).length + rest.length = l.length := by simp only [List.length_append, List.length_cons, List.length_nil]; omega
      have hB2 : k1 + (1 + ctVals y_L) + ctRows rest = k + ctRows l := by omega
      obtain ⟨w1, w2, hv0, hw0, hv1, hz1, hy1, hg1, hE, hZ⟩ := chainRow k1 (ctVals y_L) h4 (ctVals_nn y_L) (by omega)
      rw [hE] at h1 hB2
      try simp only [← hv0, ← hv1] at h1
      subst h1
      repeat' (first
        | with_reducible (first | refine wp_seq ?_ | refine wp_blk ?_ | refine wp_skip ?_ | refine wp_exit ?_ | refine wp_ret ?_ | refine seqQ_norm ?_ | refine seqQ_ret ?_ | refine seqQ_exit ?_ | refine blkQ_norm ?_ | refine blkQ_ret ?_ | refine blkQ_exit ?_ | refine loopQ_norm ?_ | refine loopQ_exit ?_ | refine loopQ_ret ?_ | refine endQ_ret ?_ | refine endQ_norm ?_ | refine endE_ret ?_ | refine endE_norm ?_ | refine endI_ret ?_ | refine endI_norm ?_)
        | (with_reducible refine wp_regK fun K hK => ?_
           simp[hw0, hz1, hy1, hg1, ← hv1, hw, hlt]
           repeat' (with_reducible first | refine hK _ ?_ | (refine psel ?_ ?_ <;> (intro hc; (try rw [Decidable.not_not] at hc); first | (try simp [hc, hw0, hz1, hy1, hg1, ← hv1, hw, hlt]))))
           all_goals (clear hK; clear K))
        | (with_reducible refine wp_condE ?_
           refine ⟨_, rfl, ?_, ?_⟩ <;> (intro hc; (try simp at hc); skip)))
      all_goals first | exact ⟨(pre ++ [mkRow k1 ⟨y_Id, y_L⟩], rest, w2), by simp [mkRow, hv0, hv1], ⟨by simp [mkRow, hv0, hv1], hB2, hl2, hZ⟩, by simp⟩ | (exfalso; simp_all; done)

@[simp] theorem t189 (x_Ver : Int) (x_L : List XRef) (k : Int) (h0 : 0 ≤ k) (hc : k + ctRefs x_L ≤ 4611686018427387904) : Gw TT 189 [.st [.ro false (di x_Ver), .own (.sl 5 (x_L.map XRef.e))], vi k] = some (vi (k + ctRefs x_L), [(0, 1, .own (.sl 5 ((mkRefs (k) x_L).map XRef.e)))]) := by
  refine Gw_of (F := pf189) rfl rfl ?_
  show Wp _ pb189 _ _
  unfold pb189
  have hn_x_L := ctRefs_nn x_L
  have hz1 : 0 ≤ k := by omega
  have hy1 : k + ctRefs x_L ≤ 4611686018427387904 := by omega
  repeat' (first
    | with_reducible (first | refine wp_seq ?_ | refine wp_blk ?_ | refine wp_skip ?_ | refine wp_exit ?_ | refine wp_ret ?_ | refine seqQ_norm ?_ | refine seqQ_ret ?_ | refine seqQ_exit ?_ | refine blkQ_norm ?_ | refine blkQ_ret ?_ | refine blkQ_exit ?_ | refine loopQ_norm ?_ | refine loopQ_exit ?_ | refine loopQ_ret ?_ | refine endQ_ret ?_ | refine endQ_norm ?_ | refine endE_ret ?_ | refine endE_norm ?_ | refine endI_ret ?_ | refine endI_norm ?_)
    | (with_reducible refine wp_regK fun K hK => ?_
       simp[hz1, hy1]
       repeat' (with_reducible first | refine hK _ ?_ | (refine psel ?_ ?_ <;> (intro hc; (try rw [Decidable.not_not] at hc); first | (exfalso; omega) | (try simp [hc, hz1, hy1]))))
       all_goals (clear hK; clear K))
    | (with_reducible refine wp_condE ?_
       refine ⟨_, rfl, ?_, ?_⟩ <;> (intro hc; (try simp at hc); (all_goals first | (exfalso; omega) | skip))))
  all_goals first | (simp [pf189]; done) | (exfalso; omega)

@[simp] theorem t174 (k0 : Bool) (x_Ver : Int) (x_L : List XRef) (k : Int) (h0 : 0 ≤ k) (hc : k + ctRefs x_L ≤ 4611686018427387904) : Gw TT 174 [.st [.ro false (di x_Ver), .ro k0 (.sl 5 ((mkRefs (k) x_L).map XRef.e))], vi k] = some (vi (k + ctRefs x_L), []) := by
  refine Gw_of (F := pf174) rfl rfl ?_
  show Wp _ pb174 _ _
  unfold pb174
  have hn_x_L := ctRefs_nn x_L
  have hz1 : 0 ≤ k := by omega
  have hy1 : k + ctRefs x_L ≤ 4611686018427387904 := by omega
  repeat' (first
    | with_reducible (first | refine wp_seq ?_ | refine wp_blk ?_ | refine wp_skip ?_ | refine wp_exit ?_ | refine wp_ret ?_ | refine seqQ_norm ?_ | refine seqQ_ret ?_ | refine seqQ_exit ?_ | refine blkQ_norm ?_ | refine blkQ_ret ?_ | refine blkQ_exit ?_ | refine loopQ_norm ?_ | refine loopQ_exit ?_ | refine loopQ_ret ?_ | refine endQ_ret ?_ | refine endQ_norm ?_ | refine endE_ret ?_ | refine endE_norm ?_ | refine endI_ret ?_ | refine endI_norm ?_)
    | (with_reducible refine wp_regK fun K hK => ?_
       simp[hz1, hy1]
       repeat' (with_reducible first | refine hK _ ?_ | (refine psel ?_ ?_ <;> (intro hc; (try rw [Decidable.not_not] at hc); first | (exfalso; omega) | (try simp [hc, hz1, hy1]))))
       all_goals (clear hK; clear K))
    | (with_reducible refine wp_condE ?_
       refine ⟨_, rfl, ?_, ?_⟩ <;> (intro hc; (try simp at hc); (all_goals first | (exfalso; omega) | skip))))
  all_goals first | (simp [pf174]; done) | (exfalso; omega)

@[simp] theorem t186 (x_Cols : List Int) (x_Slots : Int) (x_Bufs : Int) (k : Int) (h0 : 0 ≤ k) (hc : k + ctInts x_Cols ≤ 4611686018427387904) : Gw TT 186 [.st [.own (.sl 1 (x_Cols.map ei)), .ro false (di x_Slots), .ro false (di x_Bufs)], vi k] = some (vi (k + ctInts x_Cols), [(0, 0, .own (.sl 1 ((mkInts (k) x_Cols).map ei)))]) := by
  refine Gw_of (F := pf186) rfl rfl ?_
  show Wp _ pb186 _ _
  unfold pb186
  have hn_x_Cols := ctInts_nn x_Cols
  have hz0 : 0 ≤ k := by omega
  have hy0 : k + ctInts x_Cols ≤ 4611686018427387904 := by omega
  repeat' (first
    | with_reducible (first | refine wp_seq ?_ | refine wp_blk ?_ | refine wp_skip ?_ | refine wp_exit ?_ | refine wp_ret ?_ | refine seqQ_norm ?_ | refine seqQ_ret ?_ | refine seqQ_exit ?_ | refine blkQ_norm ?_ | refine blkQ_ret ?_ | refine blkQ_exit ?_ | refine loopQ_norm ?_ | refine loopQ_exit ?_ | refine loopQ_ret ?_ | refine endQ_ret ?_ | refine endQ_norm ?_ | refine endE_ret ?_ | refine endE_norm ?_ | refine endI_ret ?_ | refine endI_norm ?_)
    | (with_reducible refine wp_regK fun K hK => ?_
       simp[hz0, hy0]
       repeat' (with_reducible first | refine hK _ ?_ | (refine psel ?_ ?_ <;> (intro hc; (try rw [Decidable.not_not] at hc); first | (exfalso; omega) | (try simp [hc, hz0, hy0]))))
       all_goals (clear hK; clear K))
    | (with_reducible refine wp_condE ?_
       refine ⟨_, rfl, ?_, ?_⟩ <;> (intro hc; (try simp at hc); (all_goals first | (exfalso; omega) | skip))))
  all_goals first | (simp [pf186]; done) | (exfalso; omega)

@[simp] theorem t171 (k0 : Bool) (x_Cols : List Int) (x_Slots : Int) (x_Bufs : Int) (k : Int) (h0 : 0 ≤ k) (hc : k + ctInts x_Cols ≤ 4611686018427387904) : Gw TT 171 [.st [.ro k0 (.sl 1 ((mkInts (k) x_Cols).map ei)), .ro false (di x_Slots), .ro false (di x_Bufs)], vi k] = some (vi (k + ctInts x_Cols), []) := by
  refine Gw_of (F := pf171) rfl rfl ?_
  show Wp _ pb171 _ _
  unfold pb171
  have hn_x_Cols := ctInts_nn x_Cols
  have hz0 : 0 ≤ k := by omega
  have hy0 : k + ctInts x_Cols ≤ 4611686018427387904 := by omega
  repeat' (first
    | with_reducible (first | refine wp_seq ?_ | refine wp_blk ?_ | refine wp_skip ?_ | refine wp_exit ?_ | refine wp_ret ?_ | refine seqQ_norm ?_ | refine seqQ_ret ?_ | refine seqQ_exit ?_ | refine blkQ_norm ?_ | refine blkQ_ret ?_ | refine blkQ_exit ?_ | refine loopQ_norm ?_ | refine loopQ_exit ?_ | refine loopQ_ret ?_ | refine endQ_ret ?_ | refine endQ_norm ?_ | refine endE_ret ?_ | refine endE_norm ?_ | refine endI_ret ?_ | refine endI_norm ?_)
    | (with_reducible refine wp_regK fun K hK => ?_
       simp[hz0, hy0]
       repeat' (with_reducible first | refine hK _ ?_ | (refine psel ?_ ?_ <;> (intro hc; (try rw [Decidable.not_not] at hc); first | (exfalso; omega) | (try simp [hc, hz0, hy0]))))
       all_goals (clear hK; clear K))
    | (with_reducible refine wp_condE ?_
       refine ⟨_, rfl, ?_, ?_⟩ <;> (intro hc; (try simp at hc); (all_goals first | (exfalso; omega) | skip))))
  all_goals first | (simp [pf171]; done) | (exfalso; omega)

@[simp] theorem take_all1 {α : Type} {n : Nat} (l r : List α) (x : α) (h : n = l.length + (r.length + 1)) : (l ++ x :: r).take n = l ++ x :: r := by
  rw [List.take_of_length_le]
  simp only [List.length_append, List.length_cons]
  omega

@[simp] theorem drop_mid1 {α : Type} {n : Nat} (l r : List α) (x : α) (h : n = l.length + 1) : (l ++ x :: r).drop n = r := by
  subst h
  rw [List.drop_append]
  simp

@[simp] theorem take_len_map {α β : Type} (f : α → β) (l : List α) : (l.map f).take l.length = l.map f := by
  rw [List.take_of_length_le]; simp

@[simp] theorem flatD_drop_map {α : Type} (f : α → List D) (l : List α) (n : Nat) (h : ∀ x, (f x).all D.scal = true) : flatD ((l.map f).drop n) = true := by
  rw [← List.map_drop]; exact flatD_map f _ h

@[simp] theorem flatD_take_map {α : Type} (f : α → List D) (l : List α) (n : Nat) (h : ∀ x, (f x).all D.scal = true) : flatD ((l.map f).take n) = true := by
  rw [← List.map_take]; exact flatD_map f _ h

def poolNewF (n : Int) : List XBuf := List.replicate (if 0 ≤ n ∧ n ≤ 8 then n.toNat else 0) ⟨0, 0, ⟨0, []⟩, []⟩

theorem poolNewF_len (n : Int) : (poolNewF n).length ≤ 1048576 := by
  unfold poolNewF; simp only [List.length_replicate]; split <;> omega

theorem poolNewF_sms (n : Int) : XBuf.sms (poolNewF n) := by
  intro y hy
  obtain ⟨_, rfl⟩ := List.mem_replicate.1 hy
  simp [XBuf.sm, XChunk.sm, XSlot.sms]

@[simp] theorem t39 (n : Int) : Gw TT 39 [vi n] = some (.one (.own (.sl 5 ((poolNewF n).map XBuf.e))), []) := by
  refine Gw_of (F := pf39) rfl rfl ?_
  show Wp _ pb39 _ _
  unfold pb39
  by_cases hb : 0 ≤ n ∧ n ≤ 8
  · obtain ⟨hb0, hb1⟩ := hb
    repeat' (first
      | with_reducible (first | refine wp_seq ?_ | refine wp_blk ?_ | refine wp_skip ?_ | refine wp_exit ?_ | refine wp_ret ?_ | refine seqQ_norm ?_ | refine seqQ_ret ?_ | refine seqQ_exit ?_ | refine blkQ_norm ?_ | refine blkQ_ret ?_ | refine blkQ_exit ?_ | refine loopQ_norm ?_ | refine loopQ_exit ?_ | refine loopQ_ret ?_ | refine endQ_ret ?_ | refine endQ_norm ?_ | refine endE_ret ?_ | refine endE_norm ?_ | refine endI_ret ?_ | refine endI_norm ?_)
      | (with_reducible refine wp_regK fun K hK => ?_
         simp[hb0, hb1]
         repeat' (with_reducible first | refine hK _ ?_ | (refine psel ?_ ?_ <;> (intro hc; (try rw [Decidable.not_not] at hc); first | (exfalso; omega) | (try simp [hc, hb0, hb1]))))
         all_goals (clear hK; clear K))
      | (with_reducible refine wp_condE ?_
         refine ⟨_, rfl, ?_, ?_⟩ <;> (intro hc; (try simp at hc); (all_goals first | (exfalso; omega) | skip))))
    all_goals first | (simp [pf39, poolNewF, hb0, hb1]; done) | (exfalso; omega)
  · repeat' (first
      | with_reducible (first | refine wp_seq ?_ | refine wp_blk ?_ | refine wp_skip ?_ | refine wp_exit ?_ | refine wp_ret ?_ | refine seqQ_norm ?_ | refine seqQ_ret ?_ | refine seqQ_exit ?_ | refine blkQ_norm ?_ | refine blkQ_ret ?_ | refine blkQ_exit ?_ | refine loopQ_norm ?_ | refine loopQ_exit ?_ | refine loopQ_ret ?_ | refine endQ_ret ?_ | refine endQ_norm ?_ | refine endE_ret ?_ | refine endE_norm ?_ | refine endI_ret ?_ | refine endI_norm ?_)
      | (with_reducible refine wp_regK fun K hK => ?_
         simp
         repeat' (with_reducible first | refine hK _ ?_ | (refine psel ?_ ?_ <;> (intro hc; (try rw [Decidable.not_not] at hc); first | (exfalso; omega) | (try simp [hc]))))
         all_goals (clear hK; clear K))
      | (with_reducible refine wp_condE ?_
         refine ⟨_, rfl, ?_, ?_⟩ <;> (intro hc; (try simp at hc); (all_goals first | (exfalso; omega) | skip))))
    all_goals first | (simp [pf39, poolNewF, hb]; done) | (exfalso; omega)

@[simp] theorem t319 (n : Int) : Gw TT 319 [vi n] = some (.one (.own (.sl 5 ((poolNewF n).map XBuf.e))), []) := by
  refine Gw_of (F := pf319) rfl rfl ?_
  show Wp _ pb319 _ _
  unfold pb319
  by_cases hb : 0 ≤ n ∧ n ≤ 8
  · obtain ⟨m, rfl⟩ : ∃ m : Nat, n = (m : Int) := ⟨n.toNat, by omega⟩
    repeat' (first
      | with_reducible (first | refine wp_seq ?_ | refine wp_blk ?_ | refine wp_skip ?_ | refine wp_exit ?_ | refine wp_ret ?_ | refine seqQ_norm ?_ | refine seqQ_ret ?_ | refine seqQ_exit ?_ | refine blkQ_norm ?_ | refine blkQ_ret ?_ | refine blkQ_exit ?_ | refine loopQ_norm ?_ | refine loopQ_exit ?_ | refine loopQ_ret ?_ | refine endQ_ret ?_ | refine endQ_norm ?_ | refine endE_ret ?_ | refine endE_norm ?_ | refine endI_ret ?_ | refine endI_norm ?_)
      | (with_reducible refine wp_regK fun K hK => ?_
         simp
         repeat' (with_reducible first | refine hK _ ?_ | (refine psel ?_ ?_ <;> (intro hc; (try rw [Decidable.not_not] at hc); first | (exfalso; omega) | (try simp [hc]))))
         all_goals (clear hK; clear K))
      | (with_reducible refine wp_condE ?_
         refine ⟨_, rfl, ?_, ?_⟩ <;> (intro hc; (try simp at hc); (all_goals first | (exfalso; omega) | skip))))
    refine wp_loopI (σ := Nat) (fun s => [(0, AV.v false (di (m : Int)), none), (3, AV.pl 3 0 [], some (Rt.vir [C.own (D.sl 5 ((List.replicate s (⟨0, 0, ⟨0, []⟩, []⟩ : XBuf)).map XBuf.e))])), (4, AV.v false (di (s : Int)), none)]) (fun s => s ≤ m) (fun s => m - s) 0 (by simp) (Nat.zero_le _) ?_
    intro s h1
    unfold pl319_0
    have hw : IntKind.wrap .i64 ((s : Int) + 1) = (s : Int) + 1 := wrap_i64 (by omega) (by omega)
    repeat' (first
      | with_reducible (first | refine wp_seq ?_ | refine wp_blk ?_ | refine wp_skip ?_ | refine wp_exit ?_ | refine wp_ret ?_ | refine seqQ_norm ?_ | refine seqQ_ret ?_ | refine seqQ_exit ?_ | refine blkQ_norm ?_ | refine blkQ_ret ?_ | refine blkQ_exit ?_ | refine loopQ_norm ?_ | refine loopQ_exit ?_ | refine loopQ_ret ?_ | refine endQ_ret ?_ | refine endQ_norm ?_ | refine endE_ret ?_ | refine endE_norm ?_ | refine endI_ret ?_ | refine endI_norm ?_)
      | (with_reducible refine wp_regK fun K hK => ?_
         simp[hw]
         repeat' (with_reducible first | refine hK _ ?_ | (refine psel ?_ ?_ <;> (intro hc; (try rw [Decidable.not_not] at hc); first | (exfalso; omega) | (try simp [hc, hw]))))
         all_goals (clear hK; clear K))
      | (with_reducible refine wp_condE ?_
         refine ⟨_, rfl, ?_, ?_⟩ <;> (intro hc; (try simp at hc); (all_goals first | (exfalso; omega) | skip))))
    all_goals first | (obtain rfl : s = m := by omega
                       simp [pf319, poolNewF, hb]; done) | (exact ⟨s + 1, by simp [List.replicate_succ'], by omega, by omega⟩) | (exfalso; omega)
  · repeat' (first
      | with_reducible (first | refine wp_seq ?_ | refine wp_blk ?_ | refine wp_skip ?_ | refine wp_exit ?_ | refine wp_ret ?_ | refine seqQ_norm ?_ | refine seqQ_ret ?_ | refine seqQ_exit ?_ | refine blkQ_norm ?_ | refine blkQ_ret ?_ | refine blkQ_exit ?_ | refine loopQ_norm ?_ | refine loopQ_exit ?_ | refine loopQ_ret ?_ | refine endQ_ret ?_ | refine endQ_norm ?_ | refine endE_ret ?_ | refine endE_norm ?_ | refine endI_ret ?_ | refine endI_norm ?_)
      | (with_reducible refine wp_loop (c := pl319_0) ?_
         conv => arg 2; unfold pl319_0)
      | (with_reducible refine wp_regK fun K hK => ?_
         simp[hb]
         repeat' (with_reducible first | refine hK _ ?_ | (refine psel ?_ ?_ <;> (intro hc; (try rw [Decidable.not_not] at hc); first | (exfalso; omega) | (try simp [hc, hb]))))
         all_goals (clear hK; clear K))
      | (with_reducible refine wp_condE ?_
         refine ⟨_, rfl, ?_, ?_⟩ <;> (intro hc; (try simp at hc); (all_goals first | (exfalso; omega) | skip))))
    all_goals first | (simp [pf319, poolNewF, hb]; done) | (exfalso; omega)

mutual
def ctPred : XPred → Int
  | ⟨_, _, _, _, l⟩ => 1 + 1 + 1 + 1 + 1 + 1 + ctPreds l
def ctPreds : List XPred → Int
  | [] => 0
  | x :: l => ctPred x + ctPreds l
end

mutual
def mkPred : Int → XPred → XPred
  | k, ⟨y_Kind, y_Col, y_Op, ⟨y_V_Ty, y_V_N, y_V_S⟩, y_L⟩ => ⟨k, k + 1, k + 1 + 1, ⟨k + 1 + 1 + 1, k + 1 + 1 + 1 + 1, mtext (k + 1 + 1 + 1 + 1 + 1)⟩, mkPreds (k + 1 + 1 + 1 + 1 + 1 + 1) y_L⟩
def mkPreds : Int → List XPred → List XPred
  | _, [] => []
  | k, x :: l => mkPred k x :: mkPreds (k + ctPred x) l
end

mutual
theorem ctPred_pos : ∀ x : XPred, 1 ≤ ctPred x
  | ⟨_, _, _, _, l⟩ => by have := ctPreds_nn l; simp only [ctPred]; omega
theorem ctPreds_nn : ∀ l : List XPred, 0 ≤ ctPreds l
  | [] => by simp [ctPreds]
  | x :: l => by have h1 := ctPred_pos x; have h2 := ctPreds_nn l; simp only [ctPreds]; omega
end

theorem ctPreds_len : ∀ l : List XPred, (l.length : Int) ≤ ctPreds l
  | [] => by simp [ctPreds]
  | x :: l => by have h1 := ctPred_pos x; have h2 := ctPreds_len l; simp only [ctPreds, List.length_cons]; omega

@[simp] theorem mkPreds_len : ∀ (k : Int) (l : List XPred), (mkPreds k l).length = l.length
  | _, [] => by simp [mkPreds]
  | k, x :: l => by simp [mkPreds, mkPreds_len]

theorem chainPred (k1 a_y_L : Int) (h0 : 0 ≤ k1) (h_y_L : 0 ≤ a_y_L) (hB : k1 + (1 + 1 + 1 + 1 + 1 + 1 + a_y_L) ≤ 4611686018427387904) :
    ∃ w1 w2 w3 w4 w5 w6 w7 : Int, w1 = k1 + 1 ∧ IntKind.wrap .i64 (k1 + 1) = w1 ∧ w2 = w1 + 1 ∧ IntKind.wrap .i64 (w1 + 1) = w2 ∧ w3 = w2 + 1 ∧ IntKind.wrap .i64 (w2 + 1) = w3 ∧ w4 = w3 + 1 ∧ IntKind.wrap .i64 (w3 + 1) = w4 ∧ w5 = w4 + 1 ∧ IntKind.wrap .i64 (w4 + 1) = w5 ∧ w6 = w5 + 1 ∧ IntKind.wrap .i64 (w5 + 1) = w6 ∧ w5 ≤ 4611686018427387904 ∧ w7 = w6 + a_y_L ∧ 0 ≤ w6 ∧ w7 ≤ 4611686018427387904 ∧ ¬ w7 < 0 ∧ k1 + (1 + 1 + 1 + 1 + 1 + 1 + a_y_L) = w7 ∧ 0 ≤ w7 :=
  ⟨k1 + 1, k1 + 1 + 1, k1 + 1 + 1 + 1, k1 + 1 + 1 + 1 + 1, k1 + 1 + 1 + 1 + 1 + 1, k1 + 1 + 1 + 1 + 1 + 1 + 1, k1 + 1 + 1 + 1 + 1 + 1 + 1 + a_y_L, rfl, wrap_i64 (by omega) (by omega), rfl, wrap_i64 (by omega) (by omega), rfl, wrap_i64 (by omega) (by omega), rfl, wrap_i64 (by omega) (by omega), rfl, wrap_i64 (by omega) (by omega), rfl, wrap_i64 (by omega) (by omega), by omega, rfl, by omega, by omega, by omega, by omega, by omega⟩

def ctTask : XTask → Int
  | ⟨y_Op, y_Pc, y_H, y_R, y_Id, ⟨y_Q_Kind, ⟨y_Q_P_Kind, y_Q_P_Col, y_Q_P_Op, ⟨y_Q_P_V_Ty, y_Q_P_V_N, y_Q_P_V_S⟩, y_Q_P_L⟩, y_Q_Col, y_Q_Out⟩, y_Ts, y_Ver, y_L, y_I, y_J, y_S, y_At, y_Own, y_Won, y_Got⟩ => 1 + 1 + 1 + ctVals y_R + 1 + 1 + 1 + 1 + 1 + 1 + 1 + 1 + ctPreds y_Q_P_L + 1 + ctInts y_Q_Out + 1 + 1 + ctRefs y_L + 1 + 1 + 1 + 1 + 1 + 1 + ctRows y_Got

def ctTasks : List XTask → Int
  | [] => 0
  | x :: l => ctTask x + ctTasks l

def mkTask : Int → XTask → XTask
  | k, ⟨y_Op, y_Pc, y_H, y_R, y_Id, ⟨y_Q_Kind, ⟨y_Q_P_Kind, y_Q_P_Col, y_Q_P_Op, ⟨y_Q_P_V_Ty, y_Q_P_V_N, y_Q_P_V_S⟩, y_Q_P_L⟩, y_Q_Col, y_Q_Out⟩, y_Ts, y_Ver, y_L, y_I, y_J, y_S, y_At, y_Own, y_Won, y_Got⟩ => ⟨k, k + 1, k + 1 + 1, mkVals (k + 1 + 1 + 1) y_R, k + 1 + 1 + 1 + ctVals y_R, ⟨k + 1 + 1 + 1 + ctVals y_R + 1, ⟨k + 1 + 1 + 1 + ctVals y_R + 1 + 1, k + 1 + 1 + 1 + ctVals y_R + 1 + 1 + 1, k + 1 + 1 + 1 + ctVals y_R + 1 + 1 + 1 + 1, ⟨k + 1 + 1 + 1 + ctVals y_R + 1 + 1 + 1 + 1 + 1, k + 1 + 1 + 1 + ctVals y_R + 1 + 1 + 1 + 1 + 1 + 1, mtext (k + 1 + 1 + 1 + ctVals y_R + 1 + 1 + 1 + 1 + 1 + 1 + 1)⟩, mkPreds (k + 1 + 1 + 1 + ctVals y_R + 1 + 1 + 1 + 1 + 1 + 1 + 1 + 1) y_Q_P_L⟩, k + 1 + 1 + 1 + ctVals y_R + 1 + 1 + 1 + 1 + 1 + 1 + 1 + 1 + ctPreds y_Q_P_L, mkInts (k + 1 + 1 + 1 + ctVals y_R + 1 + 1 + 1 + 1 + 1 + 1 + 1 + 1 + ctPreds y_Q_P_L + 1) y_Q_Out⟩, k + 1 + 1 + 1 + ctVals y_R + 1 + 1 + 1 + 1 + 1 + 1 + 1 + 1 + ctPreds y_Q_P_L + 1 + ctInts y_Q_Out, k + 1 + 1 + 1 + ctVals y_R + 1 + 1 + 1 + 1 + 1 + 1 + 1 + 1 + ctPreds y_Q_P_L + 1 + ctInts y_Q_Out + 1, mkRefs (k + 1 + 1 + 1 + ctVals y_R + 1 + 1 + 1 + 1 + 1 + 1 + 1 + 1 + ctPreds y_Q_P_L + 1 + ctInts y_Q_Out + 1 + 1) y_L, k + 1 + 1 + 1 + ctVals y_R + 1 + 1 + 1 + 1 + 1 + 1 + 1 + 1 + ctPreds y_Q_P_L + 1 + ctInts y_Q_Out + 1 + 1 + ctRefs y_L, k + 1 + 1 + 1 + ctVals y_R + 1 + 1 + 1 + 1 + 1 + 1 + 1 + 1 + ctPreds y_Q_P_L + 1 + ctInts y_Q_Out + 1 + 1 + ctRefs y_L + 1, k + 1 + 1 + 1 + ctVals y_R + 1 + 1 + 1 + 1 + 1 + 1 + 1 + 1 + ctPreds y_Q_P_L + 1 + ctInts y_Q_Out + 1 + 1 + ctRefs y_L + 1 + 1, k + 1 + 1 + 1 + ctVals y_R + 1 + 1 + 1 + 1 + 1 + 1 + 1 + 1 + ctPreds y_Q_P_L + 1 + ctInts y_Q_Out + 1 + 1 + ctRefs y_L + 1 + 1 + 1, k + 1 + 1 + 1 + ctVals y_R + 1 + 1 + 1 + 1 + 1 + 1 + 1 + 1 + ctPreds y_Q_P_L + 1 + ctInts y_Q_Out + 1 + 1 + ctRefs y_L + 1 + 1 + 1 + 1, ((k + 1 + 1 + 1 + ctVals y_R + 1 + 1 + 1 + 1 + 1 + 1 + 1 + 1 + ctPreds y_Q_P_L + 1 + ctInts y_Q_Out + 1 + 1 + ctRefs y_L + 1 + 1 + 1 + 1 + 1).tmod 3 == 0), mkRows (k + 1 + 1 + 1 + ctVals y_R + 1 + 1 + 1 + 1 + 1 + 1 + 1 + 1 + ctPreds y_Q_P_L + 1 + ctInts y_Q_Out + 1 + 1 + ctRefs y_L + 1 + 1 + 1 + 1 + 1 + 1) y_Got⟩

def mkTasks : Int → List XTask → List XTask
  | _, [] => []
  | k, x :: l => mkTask k x :: mkTasks (k + ctTask x) l

theorem ctTask_pos : ∀ x : XTask, 1 ≤ ctTask x
  | ⟨y_Op, y_Pc, y_H, y_R, y_Id, ⟨y_Q_Kind, ⟨y_Q_P_Kind, y_Q_P_Col, y_Q_P_Op, ⟨y_Q_P_V_Ty, y_Q_P_V_N, y_Q_P_V_S⟩, y_Q_P_L⟩, y_Q_Col, y_Q_Out⟩, y_Ts, y_Ver, y_L, y_I, y_J, y_S, y_At, y_Own, y_Won, y_Got⟩ => by have h_y_R := ctVals_nn y_R; have h_y_Q_P_L := ctPreds_nn y_Q_P_L; have h_y_Q_Out := ctInts_nn y_Q_Out; have h_y_L := ctRefs_nn y_L; have h_y_Got := ctRows_nn y_Got; simp only [ctTask]; omega

theorem ctTasks_len : ∀ l : List XTask, (l.length : Int) ≤ ctTasks l
  | [] => by simp [ctTasks]
  | x :: l => by have h1 := ctTask_pos x; have h2 := ctTasks_len l; simp only [ctTasks, List.length_cons]; omega

theorem ctTasks_nn (l : List XTask) : 0 ≤ ctTasks l := by have := ctTasks_len l; omega

@[simp] theorem mkTasks_len : ∀ (k : Int) (l : List XTask), (mkTasks k l).length = l.length
  | _, [] => by simp [mkTasks]
  | k, x :: l => by simp [mkTasks, mkTasks_len]

theorem chainTask (k1 a_y_R a_y_Q_P_L a_y_Q_Out a_y_L a_y_Got : Int) (h0 : 0 ≤ k1) (h_y_R : 0 ≤ a_y_R) (h_y_Q_P_L : 0 ≤ a_y_Q_P_L) (h_y_Q_Out : 0 ≤ a_y_Q_Out) (h_y_L : 0 ≤ a_y_L) (h_y_Got : 0 ≤ a_y_Got) (hB : k1 + (1 + 1 + 1 + a_y_R + 1 + 1 + 1 + 1 + 1 + 1 + 1 + 1 + a_y_Q_P_L + 1 + a_y_Q_Out + 1 + 1 + a_y_L + 1 + 1 + 1 + 1 + 1 + 1 + a_y_Got) ≤ 4611686018427387904) :
    ∃ w1 w2 w3 w4 w5 w6 w7 w8 w9 w10 w11 w12 w13 w14 w15 w16 w17 w18 w19 w20 w21 w22 w23 w24 w25 : Int, w1 = k1 + 1 ∧ IntKind.wrap .i64 (k1 + 1) = w1 ∧ w2 = w1 + 1 ∧ IntKind.wrap .i64 (w1 + 1) = w2 ∧ w3 = w2 + 1 ∧ IntKind.wrap .i64 (w2 + 1) = w3 ∧ w4 = w3 + a_y_R ∧ 0 ≤ w3 ∧ w4 ≤ 4611686018427387904 ∧ ¬ w4 < 0 ∧ w5 = w4 + 1 ∧ IntKind.wrap .i64 (w4 + 1) = w5 ∧ w6 = w5 + 1 ∧ IntKind.wrap .i64 (w5 + 1) = w6 ∧ w7 = w6 + 1 ∧ IntKind.wrap .i64 (w6 + 1) = w7 ∧ w8 = w7 + 1 ∧ IntKind.wrap .i64 (w7 + 1) = w8 ∧ w9 = w8 + 1 ∧ IntKind.wrap .i64 (w8 + 1) = w9 ∧ w10 = w9 + 1 ∧ IntKind.wrap .i64 (w9 + 1) = w10 ∧ w11 = w10 + 1 ∧ IntKind.wrap .i64 (w10 + 1) = w11 ∧ w12 = w11 + 1 ∧ IntKind.wrap .i64 (w11 + 1) = w12 ∧ w11 ≤ 4611686018427387904 ∧ w13 = w12 + a_y_Q_P_L ∧ 0 ≤ w12 ∧ w13 ≤ 4611686018427387904 ∧ ¬ w13 < 0 ∧ w14 = w13 + 1 ∧ IntKind.wrap .i64 (w13 + 1) = w14 ∧ w15 = w14 + a_y_Q_Out ∧ 0 ≤ w14 ∧ w15 ≤ 4611686018427387904 ∧ ¬ w15 < 0 ∧ w16 = w15 + 1 ∧ IntKind.wrap .i64 (w15 + 1) = w16 ∧ w17 = w16 + 1 ∧ IntKind.wrap .i64 (w16 + 1) = w17 ∧ w18 = w17 + a_y_L ∧ 0 ≤ w17 ∧ w18 ≤ 4611686018427387904 ∧ ¬ w18 < 0 ∧ w19 = w18 + 1 ∧ IntKind.wrap .i64 (w18 + 1) = w19 ∧ w20 = w19 + 1 ∧ IntKind.wrap .i64 (w19 + 1) = w20 ∧ w21 = w20 + 1 ∧ IntKind.wrap .i64 (w20 + 1) = w21 ∧ w22 = w21 + 1 ∧ IntKind.wrap .i64 (w21 + 1) = w22 ∧ w23 = w22 + 1 ∧ IntKind.wrap .i64 (w22 + 1) = w23 ∧ w24 = w23 + 1 ∧ IntKind.wrap .i64 (w23 + 1) = w24 ∧ w25 = w24 + a_y_Got ∧ 0 ≤ w24 ∧ w25 ≤ 4611686018427387904 ∧ ¬ w25 < 0 ∧ k1 + (1 + 1 + 1 + a_y_R + 1 + 1 + 1 + 1 + 1 + 1 + 1 + 1 + a_y_Q_P_L + 1 + a_y_Q_Out + 1 + 1 + a_y_L + 1 + 1 + 1 + 1 + 1 + 1 + a_y_Got) = w25 ∧ 0 ≤ w25 :=
  ⟨k1 + 1, k1 + 1 + 1, k1 + 1 + 1 + 1, k1 + 1 + 1 + 1 + a_y_R, k1 + 1 + 1 + 1 + a_y_R + 1, k1 + 1 + 1 + 1 + a_y_R + 1 + 1, k1 + 1 + 1 + 1 + a_y_R + 1 + 1 + 1, k1 + 1 + 1 + 1 + a_y_R + 1 + 1 + 1 + 1, k1 + 1 + 1 + 1 + a_y_R + 1 + 1 + 1 + 1 + 1, k1 + 1 + 1 + 1 + a_y_R + 1 + 1 + 1 + 1 + 1 + 1, k1 + 1 + 1 + 1 + a_y_R + 1 + 1 + 1 + 1 + 1 + 1 + 1, k1 + 1 + 1 + 1 + a_y_R + 1 + 1 + 1 + 1 + 1 + 1 + 1 + 1, k1 + 1 + 1 + 1 + a_y_R + 1 + 1 + 1 + 1 + 1 + 1 + 1 + 1 + a_y_Q_P_L, k1 + 1 + 1 + 1 + a_y_R + 1 + 1 + 1 + 1 + 1 + 1 + 1 + 1 + a_y_Q_P_L + 1, k1 + 1 + 1 + 1 + a_y_R + 1 + 1 + 1 + 1 + 1 + 1 + 1 + 1 + a_y_Q_P_L + 1 + a_y_Q_Out, k1 + 1 + 1 + 1 + a_y_R + 1 + 1 + 1 + 1 + 1 + 1 + 1 + 1 + a_y_Q_P_L + 1 + a_y_Q_Out + 1, k1 + 1 + 1 + 1 + a_y_R + 1 + 1 + 1 + 1 + 1 + 1 + 1 + 1 + a_y_Q_P_L + 1 + a_y_Q_Out + 1 + 1, k1 + 1 + 1 + 1 + a_y_R + 1 + 1 + 1 + 1 + 1 + 1 + 1 + 1 + a_y_Q_P_L + 1 + a_y_Q_Out + 1 + 1 + a_y_L, k1 + 1 + 1 + 1 + a_y_R + 1 + 1 + 1 + 1 + 1 + 1 + 1 + 1 + a_y_Q_P_L + 1 + a_y_Q_Out + 1 + 1 + a_y_L + 1, k1 + 1 + 1 + 1 + a_y_R + 1 + 1 + 1 + 1 + 1 + 1 + 1 + 1 + a_y_Q_P_L + 1 + a_y_Q_Out + 1 + 1 + a_y_L + 1 + 1, k1 + 1 + 1 + 1 + a_y_R + 1 + 1 + 1 + 1 + 1 + 1 + 1 + 1 + a_y_Q_P_L + 1 + a_y_Q_Out + 1 + 1 + a_y_L + 1 + 1 + 1, k1 + 1 + 1 + 1 + a_y_R + 1 + 1 + 1 + 1 + 1 + 1 + 1 + 1 + a_y_Q_P_L + 1 + a_y_Q_Out + 1 + 1 + a_y_L + 1 + 1 + 1 + 1, k1 + 1 + 1 + 1 + a_y_R + 1 + 1 + 1 + 1 + 1 + 1 + 1 + 1 + a_y_Q_P_L + 1 + a_y_Q_Out + 1 + 1 + a_y_L + 1 + 1 + 1 + 1 + 1, k1 + 1 + 1 + 1 + a_y_R + 1 + 1 + 1 + 1 + 1 + 1 + 1 + 1 + a_y_Q_P_L + 1 + a_y_Q_Out + 1 + 1 + a_y_L + 1 + 1 + 1 + 1 + 1 + 1, k1 + 1 + 1 + 1 + a_y_R + 1 + 1 + 1 + 1 + 1 + 1 + 1 + 1 + a_y_Q_P_L + 1 + a_y_Q_Out + 1 + 1 + a_y_L + 1 + 1 + 1 + 1 + 1 + 1 + a_y_Got, rfl, wrap_i64 (by omega) (by omega), rfl, wrap_i64 (by omega) (by omega), rfl, wrap_i64 (by omega) (by omega), rfl, by omega, by omega, by omega, rfl, wrap_i64 (by omega) (by omega), rfl, wrap_i64 (by omega) (by omega), rfl, wrap_i64 (by omega) (by omega), rfl, wrap_i64 (by omega) (by omega), rfl, wrap_i64 (by omega) (by omega), rfl, wrap_i64 (by omega) (by omega), rfl, wrap_i64 (by omega) (by omega), rfl, wrap_i64 (by omega) (by omega), by omega, rfl, by omega, by omega, by omega, rfl, wrap_i64 (by omega) (by omega), rfl, by omega, by omega, by omega, rfl, wrap_i64 (by omega) (by omega), rfl, wrap_i64 (by omega) (by omega), rfl, by omega, by omega, by omega, rfl, wrap_i64 (by omega) (by omega), rfl, wrap_i64 (by omega) (by omega), rfl, wrap_i64 (by omega) (by omega), rfl, wrap_i64 (by omega) (by omega), rfl, wrap_i64 (by omega) (by omega), rfl, wrap_i64 (by omega) (by omega), rfl, by omega, by omega, by omega, by omega, by omega⟩

def ctDeed : XDeed → Int
  | ⟨y_Op, y_Task, y_R, y_Id, ⟨y_Q_Kind, ⟨y_Q_P_Kind, y_Q_P_Col, y_Q_P_Op, ⟨y_Q_P_V_Ty, y_Q_P_V_N, y_Q_P_V_S⟩, y_Q_P_L⟩, y_Q_Col, y_Q_Out⟩, ⟨y_Res_Rows, y_Res_N, y_Res_Has, ⟨y_Res_V_Ty, y_Res_V_N, y_Res_V_S⟩⟩, y_Code, y_Stamp, y_Inv, y_Lin, y_Ret⟩ => 1 + 1 + ctVals y_R + 1 + 1 + 1 + 1 + 1 + 1 + 1 + 1 + ctPreds y_Q_P_L + 1 + ctInts y_Q_Out + ctRows y_Res_Rows + 1 + 1 + 1 + 1 + 1 + 1 + 1 + 1 + 1 + 1

def ctDeeds : List XDeed → Int
  | [] => 0
  | x :: l => ctDeed x + ctDeeds l

def mkDeed : Int → XDeed → XDeed
  | k, ⟨y_Op, y_Task, y_R, y_Id, ⟨y_Q_Kind, ⟨y_Q_P_Kind, y_Q_P_Col, y_Q_P_Op, ⟨y_Q_P_V_Ty, y_Q_P_V_N, y_Q_P_V_S⟩, y_Q_P_L⟩, y_Q_Col, y_Q_Out⟩, ⟨y_Res_Rows, y_Res_N, y_Res_Has, ⟨y_Res_V_Ty, y_Res_V_N, y_Res_V_S⟩⟩, y_Code, y_Stamp, y_Inv, y_Lin, y_Ret⟩ => ⟨k, k + 1, mkVals (k + 1 + 1) y_R, k + 1 + 1 + ctVals y_R, ⟨k + 1 + 1 + ctVals y_R + 1, ⟨k + 1 + 1 + ctVals y_R + 1 + 1, k + 1 + 1 + ctVals y_R + 1 + 1 + 1, k + 1 + 1 + ctVals y_R + 1 + 1 + 1 + 1, ⟨k + 1 + 1 + ctVals y_R + 1 + 1 + 1 + 1 + 1, k + 1 + 1 + ctVals y_R + 1 + 1 + 1 + 1 + 1 + 1, mtext (k + 1 + 1 + ctVals y_R + 1 + 1 + 1 + 1 + 1 + 1 + 1)⟩, mkPreds (k + 1 + 1 + ctVals y_R + 1 + 1 + 1 + 1 + 1 + 1 + 1 + 1) y_Q_P_L⟩, k + 1 + 1 + ctVals y_R + 1 + 1 + 1 + 1 + 1 + 1 + 1 + 1 + ctPreds y_Q_P_L, mkInts (k + 1 + 1 + ctVals y_R + 1 + 1 + 1 + 1 + 1 + 1 + 1 + 1 + ctPreds y_Q_P_L + 1) y_Q_Out⟩, ⟨mkRows (k + 1 + 1 + ctVals y_R + 1 + 1 + 1 + 1 + 1 + 1 + 1 + 1 + ctPreds y_Q_P_L + 1 + ctInts y_Q_Out) y_Res_Rows, k + 1 + 1 + ctVals y_R + 1 + 1 + 1 + 1 + 1 + 1 + 1 + 1 + ctPreds y_Q_P_L + 1 + ctInts y_Q_Out + ctRows y_Res_Rows, ((k + 1 + 1 + ctVals y_R + 1 + 1 + 1 + 1 + 1 + 1 + 1 + 1 + ctPreds y_Q_P_L + 1 + ctInts y_Q_Out + ctRows y_Res_Rows + 1).tmod 3 == 0), ⟨k + 1 + 1 + ctVals y_R + 1 + 1 + 1 + 1 + 1 + 1 + 1 + 1 + ctPreds y_Q_P_L + 1 + ctInts y_Q_Out + ctRows y_Res_Rows + 1 + 1, k + 1 + 1 + ctVals y_R + 1 + 1 + 1 + 1 + 1 + 1 + 1 + 1 + ctPreds y_Q_P_L + 1 + ctInts y_Q_Out + ctRows y_Res_Rows + 1 + 1 + 1, mtext (k + 1 + 1 + ctVals y_R + 1 + 1 + 1 + 1 + 1 + 1 + 1 + 1 + ctPreds y_Q_P_L + 1 + ctInts y_Q_Out + ctRows y_Res_Rows + 1 + 1 + 1 + 1)⟩⟩, k + 1 + 1 + ctVals y_R + 1 + 1 + 1 + 1 + 1 + 1 + 1 + 1 + ctPreds y_Q_P_L + 1 + ctInts y_Q_Out + ctRows y_Res_Rows + 1 + 1 + 1 + 1 + 1, k + 1 + 1 + ctVals y_R + 1 + 1 + 1 + 1 + 1 + 1 + 1 + 1 + ctPreds y_Q_P_L + 1 + ctInts y_Q_Out + ctRows y_Res_Rows + 1 + 1 + 1 + 1 + 1 + 1, k + 1 + 1 + ctVals y_R + 1 + 1 + 1 + 1 + 1 + 1 + 1 + 1 + ctPreds y_Q_P_L + 1 + ctInts y_Q_Out + ctRows y_Res_Rows + 1 + 1 + 1 + 1 + 1 + 1 + 1, k + 1 + 1 + ctVals y_R + 1 + 1 + 1 + 1 + 1 + 1 + 1 + 1 + ctPreds y_Q_P_L + 1 + ctInts y_Q_Out + ctRows y_Res_Rows + 1 + 1 + 1 + 1 + 1 + 1 + 1 + 1, k + 1 + 1 + ctVals y_R + 1 + 1 + 1 + 1 + 1 + 1 + 1 + 1 + ctPreds y_Q_P_L + 1 + ctInts y_Q_Out + ctRows y_Res_Rows + 1 + 1 + 1 + 1 + 1 + 1 + 1 + 1 + 1⟩

def mkDeeds : Int → List XDeed → List XDeed
  | _, [] => []
  | k, x :: l => mkDeed k x :: mkDeeds (k + ctDeed x) l

theorem ctDeed_pos : ∀ x : XDeed, 1 ≤ ctDeed x
  | ⟨y_Op, y_Task, y_R, y_Id, ⟨y_Q_Kind, ⟨y_Q_P_Kind, y_Q_P_Col, y_Q_P_Op, ⟨y_Q_P_V_Ty, y_Q_P_V_N, y_Q_P_V_S⟩, y_Q_P_L⟩, y_Q_Col, y_Q_Out⟩, ⟨y_Res_Rows, y_Res_N, y_Res_Has, ⟨y_Res_V_Ty, y_Res_V_N, y_Res_V_S⟩⟩, y_Code, y_Stamp, y_Inv, y_Lin, y_Ret⟩ => by have h_y_R := ctVals_nn y_R; have h_y_Q_P_L := ctPreds_nn y_Q_P_L; have h_y_Q_Out := ctInts_nn y_Q_Out; have h_y_Res_Rows := ctRows_nn y_Res_Rows; simp only [ctDeed]; omega

theorem ctDeeds_len : ∀ l : List XDeed, (l.length : Int) ≤ ctDeeds l
  | [] => by simp [ctDeeds]
  | x :: l => by have h1 := ctDeed_pos x; have h2 := ctDeeds_len l; simp only [ctDeeds, List.length_cons]; omega

theorem ctDeeds_nn (l : List XDeed) : 0 ≤ ctDeeds l := by have := ctDeeds_len l; omega

@[simp] theorem mkDeeds_len : ∀ (k : Int) (l : List XDeed), (mkDeeds k l).length = l.length
  | _, [] => by simp [mkDeeds]
  | k, x :: l => by simp [mkDeeds, mkDeeds_len]

theorem chainDeed (k1 a_y_R a_y_Q_P_L a_y_Q_Out a_y_Res_Rows : Int) (h0 : 0 ≤ k1) (h_y_R : 0 ≤ a_y_R) (h_y_Q_P_L : 0 ≤ a_y_Q_P_L) (h_y_Q_Out : 0 ≤ a_y_Q_Out) (h_y_Res_Rows : 0 ≤ a_y_Res_Rows) (hB : k1 + (1 + 1 + a_y_R + 1 + 1 + 1 + 1 + 1 + 1 + 1 + 1 + a_y_Q_P_L + 1 + a_y_Q_Out + a_y_Res_Rows + 1 + 1 + 1 + 1 + 1 + 1 + 1 + 1 + 1 + 1) ≤ 4611686018427387904) :
    ∃ w1 w2 w3 w4 w5 w6 w7 w8 w9 w10 w11 w12 w13 w14 w15 w16 w17 w18 w19 w20 w21 w22 w23 w24 w25 : Int, w1 = k1 + 1 ∧ IntKind.wrap .i64 (k1 + 1) = w1 ∧ w2 = w1 + 1 ∧ IntKind.wrap .i64 (w1 + 1) = w2 ∧ w3 = w2 + a_y_R ∧ 0 ≤ w2 ∧ w3 ≤ 4611686018427387904 ∧ ¬ w3 < 0 ∧ w4 = w3 + 1 ∧ IntKind.wrap .i64 (w3 + 1) = w4 ∧ w5 = w4 + 1 ∧ IntKind.wrap .i64 (w4 + 1) = w5 ∧ w6 = w5 + 1 ∧ IntKind.wrap .i64 (w5 + 1) = w6 ∧ w7 = w6 + 1 ∧ IntKind.wrap .i64 (w6 + 1) = w7 ∧ w8 = w7 + 1 ∧ IntKind.wrap .i64 (w7 + 1) = w8 ∧ w9 = w8 + 1 ∧ IntKind.wrap .i64 (w8 + 1) = w9 ∧ w10 = w9 + 1 ∧ IntKind.wrap .i64 (w9 + 1) = w10 ∧ w11 = w10 + 1 ∧ IntKind.wrap .i64 (w10 + 1) = w11 ∧ w10 ≤ 4611686018427387904 ∧ w12 = w11 + a_y_Q_P_L ∧ 0 ≤ w11 ∧ w12 ≤ 4611686018427387904 ∧ ¬ w12 < 0 ∧ w13 = w12 + 1 ∧ IntKind.wrap .i64 (w12 + 1) = w13 ∧ w14 = w13 + a_y_Q_Out ∧ 0 ≤ w13 ∧ w14 ≤ 4611686018427387904 ∧ ¬ w14 < 0 ∧ w15 = w14 + a_y_Res_Rows ∧ 0 ≤ w14 ∧ w15 ≤ 4611686018427387904 ∧ ¬ w15 < 0 ∧ w16 = w15 + 1 ∧ IntKind.wrap .i64 (w15 + 1) = w16 ∧ w17 = w16 + 1 ∧ IntKind.wrap .i64 (w16 + 1) = w17 ∧ w18 = w17 + 1 ∧ IntKind.wrap .i64 (w17 + 1) = w18 ∧ w19 = w18 + 1 ∧ IntKind.wrap .i64 (w18 + 1) = w19 ∧ w20 = w19 + 1 ∧ IntKind.wrap .i64 (w19 + 1) = w20 ∧ w19 ≤ 4611686018427387904 ∧ w21 = w20 + 1 ∧ IntKind.wrap .i64 (w20 + 1) = w21 ∧ w22 = w21 + 1 ∧ IntKind.wrap .i64 (w21 + 1) = w22 ∧ w23 = w22 + 1 ∧ IntKind.wrap .i64 (w22 + 1) = w23 ∧ w24 = w23 + 1 ∧ IntKind.wrap .i64 (w23 + 1) = w24 ∧ w25 = w24 + 1 ∧ IntKind.wrap .i64 (w24 + 1) = w25 ∧ k1 + (1 + 1 + a_y_R + 1 + 1 + 1 + 1 + 1 + 1 + 1 + 1 + a_y_Q_P_L + 1 + a_y_Q_Out + a_y_Res_Rows + 1 + 1 + 1 + 1 + 1 + 1 + 1 + 1 + 1 + 1) = w25 ∧ 0 ≤ w25 :=
  ⟨k1 + 1, k1 + 1 + 1, k1 + 1 + 1 + a_y_R, k1 + 1 + 1 + a_y_R + 1, k1 + 1 + 1 + a_y_R + 1 + 1, k1 + 1 + 1 + a_y_R + 1 + 1 + 1, k1 + 1 + 1 + a_y_R + 1 + 1 + 1 + 1, k1 + 1 + 1 + a_y_R + 1 + 1 + 1 + 1 + 1, k1 + 1 + 1 + a_y_R + 1 + 1 + 1 + 1 + 1 + 1, k1 + 1 + 1 + a_y_R + 1 + 1 + 1 + 1 + 1 + 1 + 1, k1 + 1 + 1 + a_y_R + 1 + 1 + 1 + 1 + 1 + 1 + 1 + 1, k1 + 1 + 1 + a_y_R + 1 + 1 + 1 + 1 + 1 + 1 + 1 + 1 + a_y_Q_P_L, k1 + 1 + 1 + a_y_R + 1 + 1 + 1 + 1 + 1 + 1 + 1 + 1 + a_y_Q_P_L + 1, k1 + 1 + 1 + a_y_R + 1 + 1 + 1 + 1 + 1 + 1 + 1 + 1 + a_y_Q_P_L + 1 + a_y_Q_Out, k1 + 1 + 1 + a_y_R + 1 + 1 + 1 + 1 + 1 + 1 + 1 + 1 + a_y_Q_P_L + 1 + a_y_Q_Out + a_y_Res_Rows, k1 + 1 + 1 + a_y_R + 1 + 1 + 1 + 1 + 1 + 1 + 1 + 1 + a_y_Q_P_L + 1 + a_y_Q_Out + a_y_Res_Rows + 1, k1 + 1 + 1 + a_y_R + 1 + 1 + 1 + 1 + 1 + 1 + 1 + 1 + a_y_Q_P_L + 1 + a_y_Q_Out + a_y_Res_Rows + 1 + 1, k1 + 1 + 1 + a_y_R + 1 + 1 + 1 + 1 + 1 + 1 + 1 + 1 + a_y_Q_P_L + 1 + a_y_Q_Out + a_y_Res_Rows + 1 + 1 + 1, k1 + 1 + 1 + a_y_R + 1 + 1 + 1 + 1 + 1 + 1 + 1 + 1 + a_y_Q_P_L + 1 + a_y_Q_Out + a_y_Res_Rows + 1 + 1 + 1 + 1, k1 + 1 + 1 + a_y_R + 1 + 1 + 1 + 1 + 1 + 1 + 1 + 1 + a_y_Q_P_L + 1 + a_y_Q_Out + a_y_Res_Rows + 1 + 1 + 1 + 1 + 1, k1 + 1 + 1 + a_y_R + 1 + 1 + 1 + 1 + 1 + 1 + 1 + 1 + a_y_Q_P_L + 1 + a_y_Q_Out + a_y_Res_Rows + 1 + 1 + 1 + 1 + 1 + 1, k1 + 1 + 1 + a_y_R + 1 + 1 + 1 + 1 + 1 + 1 + 1 + 1 + a_y_Q_P_L + 1 + a_y_Q_Out + a_y_Res_Rows + 1 + 1 + 1 + 1 + 1 + 1 + 1, k1 + 1 + 1 + a_y_R + 1 + 1 + 1 + 1 + 1 + 1 + 1 + 1 + a_y_Q_P_L + 1 + a_y_Q_Out + a_y_Res_Rows + 1 + 1 + 1 + 1 + 1 + 1 + 1 + 1, k1 + 1 + 1 + a_y_R + 1 + 1 + 1 + 1 + 1 + 1 + 1 + 1 + a_y_Q_P_L + 1 + a_y_Q_Out + a_y_Res_Rows + 1 + 1 + 1 + 1 + 1 + 1 + 1 + 1 + 1, k1 + 1 + 1 + a_y_R + 1 + 1 + 1 + 1 + 1 + 1 + 1 + 1 + a_y_Q_P_L + 1 + a_y_Q_Out + a_y_Res_Rows + 1 + 1 + 1 + 1 + 1 + 1 + 1 + 1 + 1 + 1, rfl, wrap_i64 (by omega) (by omega), rfl, wrap_i64 (by omega) (by omega), rfl, by omega, by omega, by omega, rfl, wrap_i64 (by omega) (by omega), rfl, wrap_i64 (by omega) (by omega), rfl, wrap_i64 (by omega) (by omega), rfl, wrap_i64 (by omega) (by omega), rfl, wrap_i64 (by omega) (by omega), rfl, wrap_i64 (by omega) (by omega), rfl, wrap_i64 (by omega) (by omega), rfl, wrap_i64 (by omega) (by omega), by omega, rfl, by omega, by omega, by omega, rfl, wrap_i64 (by omega) (by omega), rfl, by omega, by omega, by omega, rfl, by omega, by omega, by omega, rfl, wrap_i64 (by omega) (by omega), rfl, wrap_i64 (by omega) (by omega), rfl, wrap_i64 (by omega) (by omega), rfl, wrap_i64 (by omega) (by omega), rfl, wrap_i64 (by omega) (by omega), by omega, rfl, wrap_i64 (by omega) (by omega), rfl, wrap_i64 (by omega) (by omega), rfl, wrap_i64 (by omega) (by omega), rfl, wrap_i64 (by omega) (by omega), rfl, wrap_i64 (by omega) (by omega), by omega, by omega⟩

def MarkPreds (l : List XPred) : Prop := ∀ (k : Int), 0 ≤ k → k + ctPreds l ≤ 4611686018427387904 → Gw TT 191 [.one (.own (.sl 7 (l.map XPred.e))), vi k] = some (vi (k + ctPreds l), [(0, 0, .own (.sl 7 ((mkPreds k l).map XPred.e)))])

theorem MarkPreds_of (l : List XPred) (IH : ∀ y ∈ l, MarkPreds y.L) : MarkPreds l := by
  intro k h0 hc
  refine Gw_of (F := pf191) rfl rfl ?_
  show Wp _ pb191 _ _
  unfold pb191
  generalize hM : mkPreds k l = M
  have hlen := ctPreds_len l
  repeat' (first
    | with_reducible (first | refine wp_seq ?_ | refine wp_blk ?_ | refine wp_skip ?_ | refine wp_exit ?_ | refine wp_ret ?_ | refine seqQ_norm ?_ | refine seqQ_ret ?_ | refine seqQ_exit ?_ | refine blkQ_norm ?_ | refine blkQ_ret ?_ | refine blkQ_exit ?_ | refine loopQ_norm ?_ | refine loopQ_exit ?_ | refine loopQ_ret ?_ | refine endQ_ret ?_ | refine endQ_norm ?_ | refine endE_ret ?_ | refine endE_norm ?_ | refine endI_ret ?_ | refine endI_norm ?_)
    | (with_reducible refine wp_regK fun K hK => ?_
       simp
       repeat' (with_reducible first | refine hK _ ?_ | (refine psel ?_ ?_ <;> (intro hc; (try rw [Decidable.not_not] at hc); first | (exfalso; omega) | (try simp [hc]))))
       all_goals (clear hK; clear K))
    | (with_reducible refine wp_condE ?_
       refine ⟨_, rfl, ?_, ?_⟩ <;> (intro hc; (try simp at hc); (all_goals first | (exfalso; omega) | skip))))
  · refine wp_loopI (σ := List XPred × List XPred × Int) (fun s => [(0, AV.pl 0 0 [], some (Rt.vir [C.own (D.sl 7 (s.1.map XPred.e ++ s.2.1.map XPred.e))])), (1, AV.v false (di s.2.2), none), (5, AV.v false (di ((s.1.length : Nat) : Int)), none)]) (fun s => (∃ q, l = q ++ s.2.1) ∧ M = s.1 ++ mkPreds s.2.2 s.2.1 ∧ s.2.2 + ctPreds s.2.1 = k + ctPreds l ∧ s.1.length + s.2.1.length = l.length ∧ 0 ≤ s.2.2) (fun s => s.2.1.length) ([], l, k) (by simp) ⟨⟨[], rfl⟩, hM.symm, rfl, by simp, h0⟩ ?_
    rintro ⟨pre, rest, k1⟩ ⟨⟨q, hM2⟩, h1, h2, h3, h4⟩
    simp only at hM2 h1 h2 h3 h4
    rcases rest with _ | ⟨⟨y_Kind, y_Col, y_Op, ⟨y_V_Ty, y_V_N, y_V_S⟩, y_L⟩, rest⟩
    · unfold pl191_0
      simp only [mkPreds, ctPreds, List.append_nil, Int.add_zero] at h1 h2
      subst h1
      repeat' (first
        | with_reducible (first | refine wp_seq ?_ | refine wp_blk ?_ | refine wp_skip ?_ | refine wp_exit ?_ | refine wp_ret ?_ | refine seqQ_norm ?_ | refine seqQ_ret ?_ | refine seqQ_exit ?_ | refine blkQ_norm ?_ | refine blkQ_ret ?_ | refine blkQ_exit ?_ | refine loopQ_norm ?_ | refine loopQ_exit ?_ | refine loopQ_ret ?_ | refine endQ_ret ?_ | refine endQ_norm ?_ | refine endE_ret ?_ | refine endE_norm ?_ | refine endI_ret ?_ | refine endI_norm ?_)
        | (with_reducible refine wp_regK fun K hK => ?_
           simp
           repeat' (with_reducible first | refine hK _ ?_ | (refine psel ?_ ?_ <;> (intro hc; (try rw [Decidable.not_not] at hc); first | (exfalso; omega) | (try simp [hc]))))
           all_goals (clear hK; clear K))
        | (with_reducible refine wp_condE ?_
           refine ⟨_, rfl, ?_, ?_⟩ <;> (intro hc; (try simp at hc); (all_goals first | (exfalso; omega) | skip))))
      all_goals simp [pf191, h2]
    · unfold pl191_0
      simp only [mkPreds, ctPreds, mkPred, ctPred, List.length_cons] at h1 h2 h3
      have hnr := ctPreds_nn rest
      have hw : IntKind.wrap .i64 ((pre.length : Int) + 1) = (pre.length : Int) + 1 := wrap_i64 (by omega) (by omega)
      have hlt : (pre.length : Int) < (pre.length : Int) + ((rest.length : Int) + 1) := by omega
      have hl2 : (pre ++ [mkPred k1 ⟨y_Kind, y_Col, y_Op, ⟨y_V_Ty, y_V_N, y_V_S⟩, y_L⟩]).length + rest.length = l.length := by simp only [List.length_append, List.length_cons, List.length_nil]; omega
      have hB2 : k1 + (1 + 1 + 1 + 1 + 1 + 1 + ctPreds y_L) + ctPreds rest = k + ctPreds l := by omega
      obtain ⟨w1, w2, w3, w4, w5, w6, w7, hv0, hw0, hv1, hw1, hv2, hw2, hv3, hw3, hv4, hw4, hv5, hw5, ht5, hv6, hz6, hy6, hg6, hE, hZ⟩ := chainPred k1 (ctPreds y_L) h4 (ctPreds_nn y_L) (by omega)
      rw [hE] at h1 hB2
      try simp only [← hv0, ← hv1, ← hv2, ← hv3, ← hv4, ← hv5, ← hv6] at h1
      have ih := IH ⟨y_Kind, y_Col, y_Op, ⟨y_V_Ty, y_V_N, y_V_S⟩, y_L⟩ (by simp [hM2]) w6 hz6 (by simp only; rw [← hv6]; exact hy6)
      simp only [← hv6] at ih
      subst h1
      repeat' (first
        | with_reducible (first | refine wp_seq ?_ | refine wp_blk ?_ | refine wp_skip ?_ | refine wp_exit ?_ | refine wp_ret ?_ | refine seqQ_norm ?_ | refine seqQ_ret ?_ | refine seqQ_exit ?_ | refine blkQ_norm ?_ | refine blkQ_ret ?_ | refine blkQ_exit ?_ | refine loopQ_norm ?_ | refine loopQ_exit ?_ | refine loopQ_ret ?_ | refine endQ_ret ?_ | refine endQ_norm ?_ | refine endE_ret ?_ | refine endE_norm ?_ | refine endI_ret ?_ | refine endI_norm ?_)
        | (with_reducible refine wp_regK fun K hK => ?_
           simp[hw0, hw1, hw2, hw3, hw4, hw5, ht5, hz6, hy6, hg6, ← hv6, hw, hlt, ih]
           repeat' (with_reducible first | refine hK _ ?_ | (refine psel ?_ ?_ <;> (intro hc; (try rw [Decidable.not_not] at hc); first | (try simp [hc, hw0, hw1, hw2, hw3, hw4, hw5, ht5, hz6, hy6, hg6, ← hv6, hw, hlt, ih]))))
           all_goals (clear hK; clear K))
        | (with_reducible refine wp_condE ?_
           refine ⟨_, rfl, ?_, ?_⟩ <;> (intro hc; (try simp at hc); skip)))
      all_goals first | exact ⟨(pre ++ [mkPred k1 ⟨y_Kind, y_Col, y_Op, ⟨y_V_Ty, y_V_N, y_V_S⟩, y_L⟩], rest, w7), by simp [mkPred, hv0, hv1, hv2, hv3, hv4, hv5, hv6], ⟨⟨q ++ [⟨y_Kind, y_Col, y_Op, ⟨y_V_Ty, y_V_N, y_V_S⟩, y_L⟩], by simp [hM2]⟩, by simp [mkPred, hv0, hv1, hv2, hv3, hv4, hv5, hv6], hB2, hl2, hZ⟩, by simp⟩ | (exfalso; simp_all; done)

theorem MarkPreds_all (l : List XPred) : MarkPreds l :=
  MarkPreds_of l fun y hy => MarkPreds_all y.L
termination_by SizeOf.sizeOf l
decreasing_by
  have h1 := List.sizeOf_lt_of_mem hy
  have h2 : SizeOf.sizeOf y.L < SizeOf.sizeOf y := by cases y; simp; omega
  omega

@[simp] theorem t191 (l : List XPred) (k : Int) (h0 : 0 ≤ k) (hc : k + ctPreds l ≤ 4611686018427387904) : Gw TT 191 [.one (.own (.sl 7 (l.map XPred.e))), vi k] = some (vi (k + ctPreds l), [(0, 0, .own (.sl 7 ((mkPreds k l).map XPred.e)))]) := MarkPreds_all l k h0 hc

def HeldPreds (l : List XPred) : Prop := ∀ (k0 : Bool) (k : Int), 0 ≤ k → k + ctPreds l ≤ 4611686018427387904 → Gw TT 176 [.one (.ro k0 (.sl 7 ((mkPreds k l).map XPred.e))), vi k] = some (vi (k + ctPreds l), [])

theorem HeldPreds_of (l : List XPred) (IH : ∀ y ∈ l, HeldPreds y.L) : HeldPreds l := by
  intro k0 k h0 hc
  refine Gw_of (F := pf176) rfl rfl ?_
  show Wp _ pb176 _ _
  unfold pb176
  generalize hM : mkPreds k l = M
  have hlen := ctPreds_len l
  repeat' (first
    | with_reducible (first | refine wp_seq ?_ | refine wp_blk ?_ | refine wp_skip ?_ | refine wp_exit ?_ | refine wp_ret ?_ | refine seqQ_norm ?_ | refine seqQ_ret ?_ | refine seqQ_exit ?_ | refine blkQ_norm ?_ | refine blkQ_ret ?_ | refine blkQ_exit ?_ | refine loopQ_norm ?_ | refine loopQ_exit ?_ | refine loopQ_ret ?_ | refine endQ_ret ?_ | refine endQ_norm ?_ | refine endE_ret ?_ | refine endE_norm ?_ | refine endI_ret ?_ | refine endI_norm ?_)
    | (with_reducible refine wp_regK fun K hK => ?_
       simp
       repeat' (with_reducible first | refine hK _ ?_ | (refine psel ?_ ?_ <;> (intro hc; (try rw [Decidable.not_not] at hc); first | (exfalso; omega) | (try simp [hc]))))
       all_goals (clear hK; clear K))
    | (with_reducible refine wp_condE ?_
       refine ⟨_, rfl, ?_, ?_⟩ <;> (intro hc; (try simp at hc); (all_goals first | (exfalso; omega) | skip))))
  · refine wp_loopI (σ := List XPred × List XPred × Int) (fun s => [(0, AV.v k0 (D.sl 7 (M.map XPred.e)), none), (1, AV.v false (di s.2.2), none), (5, AV.v false (di ((s.1.length : Nat) : Int)), none)]) (fun s => (∃ q, l = q ++ s.2.1) ∧ M = s.1 ++ mkPreds s.2.2 s.2.1 ∧ s.2.2 + ctPreds s.2.1 = k + ctPreds l ∧ s.1.length + s.2.1.length = l.length ∧ 0 ≤ s.2.2) (fun s => s.2.1.length) ([], l, k) (by simp [hM]) ⟨⟨[], rfl⟩, hM.symm, rfl, by simp, h0⟩ ?_
    rintro ⟨pre, rest, k1⟩ ⟨⟨q, hM2⟩, h1, h2, h3, h4⟩
    simp only at hM2 h1 h2 h3 h4
    rcases rest with _ | ⟨⟨y_Kind, y_Col, y_Op, ⟨y_V_Ty, y_V_N, y_V_S⟩, y_L⟩, rest⟩
    · unfold pl176_0
      simp only [mkPreds, ctPreds, List.append_nil, Int.add_zero] at h1 h2
      subst h1
      repeat' (first
        | with_reducible (first | refine wp_seq ?_ | refine wp_blk ?_ | refine wp_skip ?_ | refine wp_exit ?_ | refine wp_ret ?_ | refine seqQ_norm ?_ | refine seqQ_ret ?_ | refine seqQ_exit ?_ | refine blkQ_norm ?_ | refine blkQ_ret ?_ | refine blkQ_exit ?_ | refine loopQ_norm ?_ | refine loopQ_exit ?_ | refine loopQ_ret ?_ | refine endQ_ret ?_ | refine endQ_norm ?_ | refine endE_ret ?_ | refine endE_norm ?_ | refine endI_ret ?_ | refine endI_norm ?_)
        | (with_reducible refine wp_regK fun K hK => ?_
           simp
           repeat' (with_reducible first | refine hK _ ?_ | (refine psel ?_ ?_ <;> (intro hc; (try rw [Decidable.not_not] at hc); first | (exfalso; omega) | (try simp [hc]))))
           all_goals (clear hK; clear K))
        | (with_reducible refine wp_condE ?_
           refine ⟨_, rfl, ?_, ?_⟩ <;> (intro hc; (try simp at hc); (all_goals first | (exfalso; omega) | skip))))
      all_goals simp [pf176, h2]
    · unfold pl176_0
      simp only [mkPreds, ctPreds, mkPred, ctPred, List.length_cons] at h1 h2 h3
      have hnr := ctPreds_nn rest
      have hw : IntKind.wrap .i64 ((pre.length : Int) + 1) = (pre.length : Int) + 1 := wrap_i64 (by omega) (by omega)
      have hlt : (pre.length : Int) < (pre.length : Int) + ((rest.length : Int) + 1) := by omega
      have hl2 : (pre ++ [mkPred k1 ⟨y_Kind, y_Col, y_Op, ⟨y_V_Ty, y_V_N, y_V_S⟩, y_L⟩]).length + rest.length = l.length := by simp only [List.length_append, List.length_cons, List.length_nil]; omega
      have hB2 : k1 + (1 + 1 + 1 + 1 + 1 + 1 + ctPreds y_L) + ctPreds rest = k + ctPreds l := by omega
      obtain ⟨w1, w2, w3, w4, w5, w6, w7, hv0, hw0, hv1, hw1, hv2, hw2, hv3, hw3, hv4, hw4, hv5, hw5, ht5, hv6, hz6, hy6, hg6, hE, hZ⟩ := chainPred k1 (ctPreds y_L) h4 (ctPreds_nn y_L) (by omega)
      rw [hE] at h1 hB2
      try simp only [← hv0, ← hv1, ← hv2, ← hv3, ← hv4, ← hv5, ← hv6] at h1
      have ih := IH ⟨y_Kind, y_Col, y_Op, ⟨y_V_Ty, y_V_N, y_V_S⟩, y_L⟩ (by simp [hM2]) k0 w6 hz6 (by simp only; rw [← hv6]; exact hy6)
      simp only [← hv6] at ih
      subst h1
      repeat' (first
        | with_reducible (first | refine wp_seq ?_ | refine wp_blk ?_ | refine wp_skip ?_ | refine wp_exit ?_ | refine wp_ret ?_ | refine seqQ_norm ?_ | refine seqQ_ret ?_ | refine seqQ_exit ?_ | refine blkQ_norm ?_ | refine blkQ_ret ?_ | refine blkQ_exit ?_ | refine loopQ_norm ?_ | refine loopQ_exit ?_ | refine loopQ_ret ?_ | refine endQ_ret ?_ | refine endQ_norm ?_ | refine endE_ret ?_ | refine endE_norm ?_ | refine endI_ret ?_ | refine endI_norm ?_)
        | (with_reducible refine wp_regK fun K hK => ?_
           simp[hw0, hw1, hw2, hw3, hw4, hw5, ht5, hz6, hy6, hg6, ← hv6, hw, hlt, ih]
           repeat' (with_reducible first | refine hK _ ?_ | (refine psel ?_ ?_ <;> (intro hc; (try rw [Decidable.not_not] at hc); first | (try simp [hc, hw0, hw1, hw2, hw3, hw4, hw5, ht5, hz6, hy6, hg6, ← hv6, hw, hlt, ih]))))
           all_goals (clear hK; clear K))
        | (with_reducible refine wp_condE ?_
           refine ⟨_, rfl, ?_, ?_⟩ <;> (intro hc; (try simp at hc); skip)))
      all_goals first | exact ⟨(pre ++ [mkPred k1 ⟨y_Kind, y_Col, y_Op, ⟨y_V_Ty, y_V_N, y_V_S⟩, y_L⟩], rest, w7), by simp [mkPred, hv0, hv1, hv2, hv3, hv4, hv5, hv6], ⟨⟨q ++ [⟨y_Kind, y_Col, y_Op, ⟨y_V_Ty, y_V_N, y_V_S⟩, y_L⟩], by simp [hM2]⟩, by simp [mkPred, hv0, hv1, hv2, hv3, hv4, hv5, hv6], hB2, hl2, hZ⟩, by simp⟩ | (exfalso; simp_all; done)

theorem HeldPreds_all (l : List XPred) : HeldPreds l :=
  HeldPreds_of l fun y hy => HeldPreds_all y.L
termination_by SizeOf.sizeOf l
decreasing_by
  have h1 := List.sizeOf_lt_of_mem hy
  have h2 : SizeOf.sizeOf y.L < SizeOf.sizeOf y := by cases y; simp; omega
  omega

@[simp] theorem t176 (k0 : Bool) (l : List XPred) (k : Int) (h0 : 0 ≤ k) (hc : k + ctPreds l ≤ 4611686018427387904) : Gw TT 176 [.one (.ro k0 (.sl 7 ((mkPreds k l).map XPred.e))), vi k] = some (vi (k + ctPreds l), []) := HeldPreds_all l k0 k h0 hc

end Go.Proofs.Ytnadnanmgakkfaa.OM
